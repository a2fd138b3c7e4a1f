/- The walks: each function computes its plain function. -/
import Derived.Test.YtcebbfodkadggaaXWb
namespace Go.Proofs.Ytcebbfodkadggaa
open Go.RowKit
set_option maxRecDepth 100000
set_option maxHeartbeats 1000000
theorem F_shape_Bounds_ok (N : Nat) {w : Bs} (p0 : (List TRect)) (Ap0_0 : Option Addr) (cp0_0 : Nat) (hp0_0 : Sl w.R w.W fl_TRect Ap0_0 cp0_0 p0) (r : (TRect × Bool × Int)) (H : F_shape_Bounds N p0 = some r) (hE : HF w w.W E0) : Calls Try.prog 25 [(.slice Ap0_0 (p0).length cp0_0)].toArray w.W fun e W' => e = .returned (.tuple #[(.agg #[(.int .i64 r.1.X0), (.int .i64 r.1.Y0), (.int .i64 r.1.X1), (.int .i64 r.1.Y1)]), (.bool r.2.1), (.int .i64 r.2.2)]) ∧ HF w W' E0 := by
  unfold F_shape_Bounds at H
  have leB := Bs.Le.refl w
  refine Tr.enter (n := 20) Try.func25 rfl rfl rfl hE ?_
  refine Tr.seq ?_
  refine Tr.region ?_
  refine Tr.alloc 1 (wn rfl) rfl ze_29 fun b100 => ?_
  refine Tr.val (wn rfl) rfl (fun _ _ h1 h2 => run_assign (h1.ev rfl)) ?_
  refine Tr.val (wn rfl) rfl (fun _ _ h1 h2 => run_assign (h1.ev rfl)) ?_
  refine Tr.nil (Tr.normThen ?_)
  refine Tr.seq ?_
  refine Tr.seq ?_
  refine Tr.region ?_
  refine Tr.val (wn rfl) rfl (fun _ _ h1 h2 => run_move (h1.ev rfl)) ?_
  obtain ⟨y101, hy101, H⟩ := bnd H
  refine Tr.call0 (r := (.int .i64 y101)) (wn rfl) rfl Try.call17 (evl_cons rfl evl_nil) (fun W hW => F_shape_CheckRegion_ok N p0 Ap0_0 cp0_0 (hp0_0.ext hW.extAll) y101 hy101 (HF.start _)) ?_
  refine Tr.val (wn rfl) rfl (fun _ _ h1 h2 => run_assign (h1.ev rfl)) ?_
  refine Tr.nil (Tr.normThen ?_)
  refine Tr.seq ?_
  refine Tr.region ?_
  refine Tr.val (wn rfl) rfl (fun _ _ h1 h2 => run_move (h1.ev rfl)) ?_
  refine Tr.val (wn rfl) rfl (fun _ _ h1 h2 => run_neq (h1.ev rfl) (h1.ev rfl)) ?_
  refine Tr.val (wn rfl) rfl (fun _ _ h1 h2 => run_move (h1.ev rfl)) ?_
  refine Tr.mid0 4 [(0, (.slice Ap0_0 (p0).length cp0_0)), (2, (.pointer (some ⟨b100, 0, none⟩))), (5, (.int .i64 y101)), (14, (.bool ((y101 != 0) || ((p0.length : Int) == 0))))] [(1, bx b100 #[(.int .i64 0), (.int .i64 0), (.int .i64 0), (.int .i64 0)] 29)] ?_ ?_
  · cases hg104 : (y101 != 0)
    · refine Tr.val (wg rfl rfl rfl) rfl (fun _ _ h1 h2 => run_move (h1.ev rfl)) ?_
      refine Tr.val (wg rfl rfl rfl) rfl (fun _ _ h1 h2 => run_len un_22 (h1.ev rfl)) ?_
      refine Tr.val (wg rfl rfl rfl) rfl (fun _ _ h1 h2 => run_eql (h1.ev rfl) (h1.ev rfl)) ?_
      refine Tr.val (wn rfl) rfl (fun _ _ h1 h2 => run_pickF (h1.ev rfl) (h1.ev rfl)) ?_
      exact Tr.nil (Tr.fin0 (.cons rfl (.cons rfl (.cons rfl (.cons rfl .nil)))) (.cons rfl .nil))
    · refine Tr.pass rfl rfl rfl rfl rfl (by decide) ?_
      refine Tr.pass rfl rfl rfl rfl rfl (by decide) ?_
      refine Tr.pass rfl rfl rfl rfl rfl (by decide) ?_
      refine Tr.val (wn rfl) rfl (fun _ _ h1 h2 => run_pickT (h1.ev rfl) (h1.ev rfl)) ?_
      exact Tr.nil (Tr.fin0 (.cons rfl (.cons rfl (.cons rfl (.cons rfl .nil)))) (.cons rfl .nil))
  · show Tr _ _ (LF [(0, (.slice Ap0_0 (p0).length cp0_0)), (2, (.pointer (some ⟨b100, 0, none⟩))), (5, (.int .i64 y101)), (14, (.bool ((y101 != 0) || ((p0.length : Int) == 0))))]) (LE [(1, bx b100 #[(.int .i64 0), (.int .i64 0), (.int .i64 0), (.int .i64 0)] 29)]) _
    refine Tr.nil (Tr.normThen ?_)
    refine Tr.cond rfl H (fun H => ?_) (fun H => ?_)
    · refine Tr.seq ?_
      refine Tr.region ?_
      refine Tr.build (vs := []) (cs := [(.int .i64 0), (.int .i64 0), (.int .i64 0), (.int .i64 0)]) (wn rfl) rfl evs_nil (by kernel_rfl) ?_
      refine Tr.val (wn rfl) rfl (fun _ _ h1 h2 => run_move (h1.ev rfl)) ?_
      refine Tr.store 1 (cs := [(.int .i64 0), (.int .i64 0), (.int .i64 0), (.int .i64 0)]) [(.int .i64 0), (.int .i64 0), (.int .i64 0), (.int .i64 0)] (wn rfl) rfl rfl rfl rfl sz_29 rfl rfl rfl ?_
      refine Tr.val (wn rfl) rfl (fun _ _ h1 h2 => run_assign (h1.ev rfl)) ?_
      refine Tr.val (wn rfl) rfl (fun _ _ h1 h2 => run_assign (h1.ev rfl)) ?_
      refine Tr.nil (Tr.normThen ?_)
      refine Tr.ret (Tr.retThen ?_)
      obtain rfl := Option.some.inj H
      exact Tr.out (m := [(.agg #[(.int .i64 0), (.int .i64 0), (.int .i64 0), (.int .i64 0)]), (.bool false), (.int .i64 y101)]) [1] (res_cell rfl rfl ag_29 sz_29 (res_tmp rfl (res_tmp rfl res_nil))) (fun W hW => ⟨rfl, hW.low leB⟩)
    · refine Tr.skip (Tr.normThen ?_)
      refine Tr.seq ?_
      refine Tr.region ?_
      refine Tr.val (wn rfl) rfl (fun _ _ h1 h2 => run_move (h1.ev rfl)) ?_
      obtain ⟨y102, hy102, H⟩ := bnd H
      refine Tr.callG [2] [emp] (U := (Option Addr × Nat)) (fun u => (.slice u.1 (y102).length u.2)) (fun O W u => SlF u.1 (y102).length u.2) (fun u => [ow u.1 u.2 96 fl_TBand y102]) rfl (pk_cons rfl pk_nil) (fun _ => rfl) (wn rfl) rfl Try.call50 (evl_cons rfl evl_nil) (fun W hW hp hE => F_shape_SetOf_ok N p0 Ap0_0 cp0_0 (hp0_0.ext (hW.extS hp)) y102 hy102 hE) ?_
      intro w u le103 hu
      obtain ⟨Ay102_0, cy102_0⟩ := u
      have gy102_0 := hu
      replace hp0_0 := hp0_0.leR le103
      replace leB := leB.trans le103
      have hgy102_0 : SlF Ay102_0 (y102).length cy102_0 := gy102_0 --@phi
      show Tr _ _ (uf _ 18 (.slice Ay102_0 (y102).length cy102_0)) (up _ 2 (ow Ay102_0 cy102_0 96 fl_TBand y102)) _
      obtain ⟨y104, hy104, H⟩ := bnd H
      refine Tr.call0 (r := (.agg #[(.int .i64 y104.X0), (.int .i64 y104.Y0), (.int .i64 y104.X1), (.int .i64 y104.Y1)])) (wn rfl) rfl Try.call63 (evl_cons rfl evl_nil) (fun W hW => F_shape_Set__Around_ok y102 Ay102_0 cy102_0 (hW.slCall (k := 2) rfl) y104 hy104 (HF.start _)) ?_
      refine Tr.store 1 (cs := [(.int .i64 y104.X0), (.int .i64 y104.Y0), (.int .i64 y104.X1), (.int .i64 y104.Y1)]) [(.int .i64 y104.X0), (.int .i64 y104.Y0), (.int .i64 y104.X1), (.int .i64 y104.Y1)] (wn rfl) rfl rfl rfl rfl sz_29 rfl rfl rfl ?_
      refine Tr.val (wn rfl) rfl (fun _ _ h1 h2 => run_assign (h1.ev rfl)) ?_
      refine Tr.val (wn rfl) rfl (fun _ _ h1 h2 => run_assign (h1.ev rfl)) ?_
      refine Tr.nil (Tr.normThen ?_)
      refine Tr.ret ?_
      obtain rfl := Option.some.inj H
      exact Tr.out (m := [(.agg #[(.int .i64 y104.X0), (.int .i64 y104.Y0), (.int .i64 y104.X1), (.int .i64 y104.Y1)]), (.bool true), (.int .i64 0)]) [1] (res_cell rfl rfl ag_29 sz_29 (res_tmp rfl (res_tmp rfl res_nil))) (fun W hW => ⟨rfl, hW.low leB⟩)

theorem F_etchhouseref1_BoundsOf_ok (N : Nat) {w : Bs} (p0 : (List TRect)) (Ap0_0 : Option Addr) (cp0_0 : Nat) (hp0_0 : Sl w.R w.W fl_TRect Ap0_0 cp0_0 p0) (r : TRect) (H : F_etchhouseref1_BoundsOf N p0 = some r) (hE : HF w w.W E0) : Calls Try.prog 64 [(.slice Ap0_0 (p0).length cp0_0)].toArray w.W fun e W' => e = .returned (.agg #[(.int .i64 r.X0), (.int .i64 r.Y0), (.int .i64 r.X1), (.int .i64 r.Y1)]) ∧ HF w W' E0 := by
  unfold F_etchhouseref1_BoundsOf at H
  have leB := Bs.Le.refl w
  refine Tr.enter (n := 51) Try.func64 rfl rfl rfl hE ?_
  refine Tr.seq ?_
  refine Tr.region ?_
  refine Tr.alloc 1 (wn rfl) rfl ze_29 fun b100 => ?_
  refine Tr.nil (Tr.normThen ?_)
  refine Tr.seq ?_
  refine Tr.region ?_
  refine Tr.val (wn rfl) rfl (fun _ _ h1 h2 => run_move (h1.ev rfl)) ?_
  obtain ⟨x101, hx101, H⟩ := bnd H
  obtain ⟨hx1010, hx1011, hx1012⟩ := idx_some hx101
  refine Tr.val (wn rfl) rfl (fun _ _ h1 h2 => run_indexAddr el_22 (h1.ev rfl) hp0_0.form (h1.ev rfl) hx1010 hx1011) ?_
  refine Tr.val (wn rfl) rfl (fun _ _ h1 h2 => run_loadN (cs := [(.int .i64 x101.X0), (.int .i64 x101.Y0), (.int .i64 x101.X1), (.int .i64 x101.Y1)]) ag_29 sz_29 (h1.ev rfl) (CellsAt.take (rdF ef_TRect hp0_0 hx1012 h2) 4) rfl) ?_
  refine Tr.alloc 2 (wn rfl) rfl ze_29 fun b102 => ?_
  refine Tr.store 2 (cs := [(.int .i64 x101.X0), (.int .i64 x101.Y0), (.int .i64 x101.X1), (.int .i64 x101.Y1)]) [(.int .i64 x101.X0), (.int .i64 x101.Y0), (.int .i64 x101.X1), (.int .i64 x101.Y1)] (wn rfl) rfl rfl rfl rfl sz_29 rfl rfl rfl ?_
  refine Tr.nil (Tr.normThen ?_)
  refine Tr.seq ?_
  refine Tr.seq ?_
  refine Tr.region ?_
  refine Tr.val (wn rfl) rfl (fun _ _ h1 h2 => run_assign (h1.ev rfl)) ?_
  refine Tr.nil (Tr.normThen ?_)
  refine Tr.block ?_
  refine Tr.loop (σ := Int × Int × Int × Int × Int) (fun m w s => F_etchhouseref1_BoundsOf_L1 p0 m s.1 s.2.1 s.2.2.1 s.2.2.2.1 s.2.2.2.2 = some r) (fun s => [(0, (.slice Ap0_0 (p0).length cp0_0)), (2, (.pointer (some ⟨b100, 0, none⟩))), (3, (.pointer (some ⟨b102, 0, none⟩))), (4, (.int .i64 s.2.2.2.2))]) (fun s => [(1, bx b100 #[(.int .i64 0), (.int .i64 0), (.int .i64 0), (.int .i64 0)] 29), (2, bx b102 #[(.int .i64 s.1), (.int .i64 s.2.1), (.int .i64 s.2.2.1), (.int .i64 s.2.2.2.1)] 29)]) N (x101.X0, x101.Y0, x101.X1, x101.Y1, 0) H (.cons rfl (.cons rfl (.cons rfl (.cons rfl .nil)))) (.cons rfl (.cons rfl .nil)) (fun _ _ h => noSome (h)) ?_
  intro w leF_etchhouseref1_BoundsOf_L1 mF_etchhouseref1_BoundsOf_L1 s hs
  obtain ⟨x128, x129, x130, x131, x132⟩ := s
  have H := hs
  replace H : F_etchhouseref1_BoundsOf_L1 p0 (mF_etchhouseref1_BoundsOf_L1 + 1) x128 x129 x130 x131 x132 = some r := H
  replace hp0_0 := hp0_0.leR leF_etchhouseref1_BoundsOf_L1
  replace leB := leB.trans leF_etchhouseref1_BoundsOf_L1
  rw [F_etchhouseref1_BoundsOf_L1.eq_2] at H
  show Tr _ _ (LF [(0, (.slice Ap0_0 (p0).length cp0_0)), (2, (.pointer (some ⟨b100, 0, none⟩))), (3, (.pointer (some ⟨b102, 0, none⟩))), (4, (.int .i64 x132))]) (LE [(1, bx b100 #[(.int .i64 0), (.int .i64 0), (.int .i64 0), (.int .i64 0)] 29), (2, bx b102 #[(.int .i64 x128), (.int .i64 x129), (.int .i64 x130), (.int .i64 x131)] 29)]) _
  refine Tr.seq ?_
  refine Tr.seq ?_
  refine Tr.region ?_
  refine Tr.val (wn rfl) rfl (fun _ _ h1 h2 => run_move (h1.ev rfl)) ?_
  refine Tr.val (wn rfl) rfl (fun _ _ h1 h2 => run_move (h1.ev rfl)) ?_
  refine Tr.val (wn rfl) rfl (fun _ _ h1 h2 => run_len un_22 (h1.ev rfl)) ?_
  refine Tr.val (wn rfl) rfl (fun _ _ h1 h2 => run_lss (h1.ev rfl) (h1.ev rfl)) ?_
  refine Tr.nil (Tr.normThen ?_)
  refine Tr.cond rfl H (fun H => ?_) (fun H => ?_)
  · refine Tr.skip (Tr.normThen ?_)
    refine Tr.seq ?_
    refine Tr.block ?_
    refine Tr.drawC 38 [(33, fun x => x = b102), (35, fun x => x = b102), (37, fun x => x = b102)] [] (by kernel_rfl) (by kernel_rfl) fun sz133 hlosz133 hEsz133 => ?_
    refine Dr.quiet 0 [(14, (.pointer (some ⟨b102, 0, none⟩)))] (by kernel_rfl) rfl rfl (by kernel_rfl) ?_ rfl rfl ?_
    · refine Tq.val (wn rfl) rfl (fun _ _ h1 h2 => run_fieldAddr fo_29_0 (h1.ev rfl)) ?_
      exact Tq.fin (.cons rfl .nil)
    refine Dr.quiet 1 [(15, (.int .i64 x128))] (by kernel_rfl) rfl rfl (by kernel_rfl) ?_ rfl rfl ?_
    · refine Tq.val (wn rfl) rfl (fun _ _ h1 h2 => run_load1 ag_3 (h1.ev rfl) (rdb h2 (vs := [(.int .i64 x128), (.int .i64 x129), (.int .i64 x130), (.int .i64 x131)]) (k := 2) rfl 0) rfl) ?_
      exact Tq.fin (.cons rfl .nil)
    refine Dr.quiet 2 [(16, (.slice Ap0_0 (p0).length cp0_0))] (by kernel_rfl) rfl rfl (by kernel_rfl) ?_ rfl rfl ?_
    · refine Tq.val (wn rfl) rfl (fun _ _ h1 h2 => run_move (h1.ev rfl)) ?_
      exact Tq.fin (.cons rfl .nil)
    refine Dr.quiet 3 [(17, (.int .i64 x132))] (by kernel_rfl) rfl rfl (by kernel_rfl) ?_ rfl rfl ?_
    · refine Tq.val (wn rfl) rfl (fun _ _ h1 h2 => run_move (h1.ev rfl)) ?_
      exact Tq.fin (.cons rfl .nil)
    obtain ⟨x134, hx134, H⟩ := bnd H
    obtain ⟨hx1340, hx1341, hx1342⟩ := idx_some hx134
    refine Dr.quiet 4 [(18, (.pointer (some ⟨adB Ap0_0, adO Ap0_0 + (x132).toNat * 4, none⟩)))] (by kernel_rfl) rfl rfl (by kernel_rfl) ?_ rfl rfl ?_
    · refine Tq.val (wn rfl) rfl (fun _ _ h1 h2 => run_indexAddr el_22 (h1.ev rfl) hp0_0.form (h1.ev rfl) hx1340 hx1341) ?_
      exact Tq.fin (.cons rfl .nil)
    refine Dr.quiet 5 [(19, (.pointer (some ⟨adB Ap0_0, adO Ap0_0 + (x132).toNat * 4 + 0, none⟩)))] (by kernel_rfl) rfl rfl (by kernel_rfl) ?_ rfl rfl ?_
    · refine Tq.val (wn rfl) rfl (fun _ _ h1 h2 => run_fieldAddr fo_29_0 (h1.ev rfl)) ?_
      exact Tq.fin (.cons rfl .nil)
    refine Dr.quiet 6 [(20, (.int .i64 x134.X0))] (by kernel_rfl) rfl rfl (by kernel_rfl) ?_ rfl rfl ?_
    · refine Tq.val (wn rfl) rfl (fun _ _ h1 h2 => run_load1 ag_3 (h1.ev rfl) (CellsAt.drop (rdF ef_TRect hp0_0 hx1342 h2) 0) rfl) ?_
      exact Tq.fin (.cons rfl .nil)
    refine Dr.quiet 7 [(21, (.int .i64 (min x128 x134.X0)))] (by kernel_rfl) rfl rfl (by kernel_rfl) ?_ rfl rfl ?_
    · refine Tq.val (wn rfl) rfl (fun _ _ h1 h2 => run_min (h1.ev rfl) (h1.ev rfl) _) ?_
      exact Tq.fin (.cons rfl .nil)
    refine Dr.quiet 8 [(22, (.pointer (some ⟨b102, 1, none⟩)))] (by kernel_rfl) rfl rfl (by kernel_rfl) ?_ rfl rfl ?_
    · refine Tq.val (wn rfl) rfl (fun _ _ h1 h2 => run_fieldAddr fo_29_1 (h1.ev rfl)) ?_
      exact Tq.fin (.cons rfl .nil)
    refine Dr.quiet 9 [(23, (.int .i64 x129))] (by kernel_rfl) rfl rfl (by kernel_rfl) ?_ rfl rfl ?_
    · refine Tq.val (wn rfl) rfl (fun _ _ h1 h2 => run_load1 ag_3 (h1.ev rfl) (rdb h2 (vs := [(.int .i64 x128), (.int .i64 x129), (.int .i64 x130), (.int .i64 x131)]) (k := 2) rfl 1) rfl) ?_
      exact Tq.fin (.cons rfl .nil)
    refine Dr.quietP 10 (by kernel_rfl) rfl (wn rfl) rfl (by kernel_rfl) (fun _ _ h1 => run_move (h1.ev rfl)) rfl ?_
    refine Dr.quietP 11 (by kernel_rfl) rfl (wn rfl) rfl (by kernel_rfl) (fun _ _ h1 => run_move (h1.ev rfl)) rfl ?_
    obtain ⟨x135, hx135, H⟩ := bnd H
    obtain ⟨hx1350, hx1351, hx1352⟩ := idx_some hx135
    refine Dr.quietP 12 (by kernel_rfl) rfl (wn rfl) rfl (by kernel_rfl) (fun _ _ h1 => run_indexAddr el_22 (h1.ev rfl) hp0_0.form (h1.ev rfl) hx1350 hx1351) rfl ?_
    refine Dr.quietP 13 (by kernel_rfl) rfl (wn rfl) rfl (by kernel_rfl) (fun _ _ h1 => run_fieldAddr fo_29_1 (h1.ev rfl)) rfl ?_
    refine Dr.quietZ 14 [(28, (.int .i64 x135.Y0))] [33] false (by kernel_rfl) rfl rfl (by kernel_rfl) (fun W W' h2 hsW hk => HF.keepZ (le := []) (ks := [(2, fun x => x = b102)]) (s0 := sz133) false h2 hk (fun h => absurd h (by decide)) .nil (fun b hb => hb.elim (fun ⟨p, hp, hf, hb⟩ => by simp only [List.mem_cons, List.not_mem_nil, or_false] at hp; rcases hp with rfl | rfl | rfl; exact .inl ⟨_, List.mem_cons_self, hb⟩; exact absurd hf (by simp); exact absurd hf (by simp)) (fun hb => absurd hb.1 (by decide))) (List.forall_mem_cons.2 ⟨fun b hb => hb, (fun _ h => nomatch h)⟩) rfl) ?_ rfl rfl ?_
    · refine Tq.val (wn rfl) rfl (fun _ _ h1 h2 => run_load1 ag_3 (h1.ev rfl) (CellsAt.drop (rdF ef_TRect hp0_0 hx1352 h2) 1) rfl) ?_
      exact Tq.fin (.cons rfl .nil)
    refine Dr.quietP 15 (by kernel_rfl) rfl (wn rfl) rfl (by kernel_rfl) (fun _ _ h1 => run_min (h1.ev rfl) (h1.ev rfl) _) rfl ?_
    refine Dr.quiet 16 [(30, (.pointer (some ⟨b102, 2, none⟩)))] (by kernel_rfl) rfl rfl (by kernel_rfl) ?_ rfl rfl ?_
    · refine Tq.val (wn rfl) rfl (fun _ _ h1 h2 => run_fieldAddr fo_29_2 (h1.ev rfl)) ?_
      exact Tq.fin (.cons rfl .nil)
    refine Dr.quiet 17 [(31, (.int .i64 x130))] (by kernel_rfl) rfl rfl (by kernel_rfl) ?_ rfl rfl ?_
    · refine Tq.val (wn rfl) rfl (fun _ _ h1 h2 => run_load1 ag_3 (h1.ev rfl) (rdb h2 (vs := [(.int .i64 x128), (.int .i64 x129), (.int .i64 x130), (.int .i64 x131)]) (k := 2) rfl 2) rfl) ?_
      exact Tq.fin (.cons rfl .nil)
    refine Dr.quietP 18 (by kernel_rfl) rfl (wn rfl) rfl (by kernel_rfl) (fun _ _ h1 => run_move (h1.ev rfl)) rfl ?_
    refine Dr.quietP 19 (by kernel_rfl) rfl (wn rfl) rfl (by kernel_rfl) (fun _ _ h1 => run_move (h1.ev rfl)) rfl ?_
    obtain ⟨x136, hx136, H⟩ := bnd H
    obtain ⟨hx1360, hx1361, hx1362⟩ := idx_some hx136
    refine Dr.quietP 20 (by kernel_rfl) rfl (wn rfl) rfl (by kernel_rfl) (fun _ _ h1 => run_indexAddr el_22 (h1.ev rfl) hp0_0.form (h1.ev rfl) hx1360 hx1361) rfl ?_
    refine Dr.quietP 21 (by kernel_rfl) rfl (wn rfl) rfl (by kernel_rfl) (fun _ _ h1 => run_fieldAddr fo_29_2 (h1.ev rfl)) rfl ?_
    refine Dr.quietZ 22 [(36, (.int .i64 x136.X1))] [33, 35] false (by kernel_rfl) rfl rfl (by kernel_rfl) (fun W W' h2 hsW hk => HF.keepZ (le := []) (ks := [(2, fun x => x = b102), (2, fun x => x = b102)]) (s0 := sz133) false h2 hk (fun h => absurd h (by decide)) .nil (fun b hb => hb.elim (fun ⟨p, hp, hf, hb⟩ => by simp only [List.mem_cons, List.not_mem_nil, or_false] at hp; rcases hp with rfl | rfl | rfl; exact .inl ⟨_, List.mem_cons_self, hb⟩; exact .inl ⟨_, (List.mem_cons_of_mem _ List.mem_cons_self), hb⟩; exact absurd hf (by simp)) (fun hb => absurd hb.1 (by decide))) (List.forall_mem_cons.2 ⟨fun b hb => hb, (List.forall_mem_cons.2 ⟨fun b hb => hb, (fun _ h => nomatch h)⟩)⟩) rfl) ?_ rfl rfl ?_
    · refine Tq.val (wn rfl) rfl (fun _ _ h1 h2 => run_load1 ag_3 (h1.ev rfl) (CellsAt.drop (rdF ef_TRect hp0_0 hx1362 h2) 2) rfl) ?_
      exact Tq.fin (.cons rfl .nil)
    refine Dr.quietP 23 (by kernel_rfl) rfl (wn rfl) rfl (by kernel_rfl) (fun _ _ h1 => run_max (h1.ev rfl) (h1.ev rfl) _) rfl ?_
    refine Dr.quiet 24 [(38, (.pointer (some ⟨b102, 3, none⟩)))] (by kernel_rfl) rfl rfl (by kernel_rfl) ?_ rfl rfl ?_
    · refine Tq.val (wn rfl) rfl (fun _ _ h1 h2 => run_fieldAddr fo_29_3 (h1.ev rfl)) ?_
      exact Tq.fin (.cons rfl .nil)
    refine Dr.quiet 25 [(39, (.int .i64 x131))] (by kernel_rfl) rfl rfl (by kernel_rfl) ?_ rfl rfl ?_
    · refine Tq.val (wn rfl) rfl (fun _ _ h1 h2 => run_load1 ag_3 (h1.ev rfl) (rdb h2 (vs := [(.int .i64 x128), (.int .i64 x129), (.int .i64 x130), (.int .i64 x131)]) (k := 2) rfl 3) rfl) ?_
      exact Tq.fin (.cons rfl .nil)
    refine Dr.quietP 26 (by kernel_rfl) rfl (wn rfl) rfl (by kernel_rfl) (fun _ _ h1 => run_move (h1.ev rfl)) rfl ?_
    refine Dr.quietP 27 (by kernel_rfl) rfl (wn rfl) rfl (by kernel_rfl) (fun _ _ h1 => run_move (h1.ev rfl)) rfl ?_
    obtain ⟨x137, hx137, H⟩ := bnd H
    obtain ⟨hx1370, hx1371, hx1372⟩ := idx_some hx137
    refine Dr.quietP 28 (by kernel_rfl) rfl (wn rfl) rfl (by kernel_rfl) (fun _ _ h1 => run_indexAddr el_22 (h1.ev rfl) hp0_0.form (h1.ev rfl) hx1370 hx1371) rfl ?_
    refine Dr.quietP 29 (by kernel_rfl) rfl (wn rfl) rfl (by kernel_rfl) (fun _ _ h1 => run_fieldAddr fo_29_3 (h1.ev rfl)) rfl ?_
    refine Dr.quietZ 30 [(44, (.int .i64 x137.Y1))] [33, 35, 37] false (by kernel_rfl) rfl rfl (by kernel_rfl) (fun W W' h2 hsW hk => HF.keepZ (le := []) (ks := [(2, fun x => x = b102), (2, fun x => x = b102), (2, fun x => x = b102)]) (s0 := sz133) false h2 hk (fun h => absurd h (by decide)) .nil (fun b hb => hb.elim (fun ⟨p, hp, hf, hb⟩ => by simp only [List.mem_cons, List.not_mem_nil, or_false] at hp; rcases hp with rfl | rfl | rfl; exact .inl ⟨_, List.mem_cons_self, hb⟩; exact .inl ⟨_, (List.mem_cons_of_mem _ List.mem_cons_self), hb⟩; exact .inl ⟨_, (List.mem_cons_of_mem _ (List.mem_cons_of_mem _ List.mem_cons_self)), hb⟩) (fun hb => absurd hb.1 (by decide))) (List.forall_mem_cons.2 ⟨fun b hb => hb, (List.forall_mem_cons.2 ⟨fun b hb => hb, (List.forall_mem_cons.2 ⟨fun b hb => hb, (fun _ h => nomatch h)⟩)⟩)⟩) rfl) ?_ rfl rfl ?_
    · refine Tq.val (wn rfl) rfl (fun _ _ h1 h2 => run_load1 ag_3 (h1.ev rfl) (CellsAt.drop (rdF ef_TRect hp0_0 hx1372 h2) 3) rfl) ?_
      exact Tq.fin (.cons rfl .nil)
    refine Dr.quietP 31 (by kernel_rfl) rfl (wn rfl) rfl (by kernel_rfl) (fun _ _ h1 => run_max (h1.ev rfl) (h1.ev rfl) _) rfl ?_
    refine Dr.quiet 32 [(46, (.pointer (some ⟨b102, 0, none⟩)))] (by kernel_rfl) rfl rfl (by kernel_rfl) ?_ rfl rfl ?_
    · refine Tq.val (wn rfl) rfl (fun _ _ h1 h2 => run_fieldAddr fo_29_0 (h1.ev rfl)) ?_
      exact Tq.fin (.cons rfl .nil)
    refine Dr.one 33 (by kernel_rfl) ?_
    refine St.store 33 2 (cs := [(.int .i64 (min x128 x134.X0))]) [(.int .i64 (min x128 x134.X0)), (.int .i64 x129), (.int .i64 x130), (.int .i64 x131)] rfl (wn rfl) (.inl ⟨_, List.mem_cons_self, rfl, rfl⟩) rfl rfl rfl rfl sz_3 rfl rfl rfl ?_
    refine Dr.quiet 34 [(47, (.pointer (some ⟨b102, 1, none⟩)))] (by kernel_rfl) rfl rfl (by kernel_rfl) ?_ rfl rfl ?_
    · refine Tq.val (wn rfl) rfl (fun _ _ h1 h2 => run_fieldAddr fo_29_1 (h1.ev rfl)) ?_
      exact Tq.fin (.cons rfl .nil)
    refine Dr.one 35 (by kernel_rfl) ?_
    refine St.store 35 2 (cs := [(.int .i64 (min x129 x135.Y0))]) [(.int .i64 (min x128 x134.X0)), (.int .i64 (min x129 x135.Y0)), (.int .i64 x130), (.int .i64 x131)] rfl (wn rfl) (.inl ⟨_, (List.mem_cons_of_mem _ List.mem_cons_self), rfl, rfl⟩) rfl rfl rfl rfl sz_3 rfl rfl rfl ?_
    refine Dr.quiet 36 [(48, (.pointer (some ⟨b102, 2, none⟩)))] (by kernel_rfl) rfl rfl (by kernel_rfl) ?_ rfl rfl ?_
    · refine Tq.val (wn rfl) rfl (fun _ _ h1 h2 => run_fieldAddr fo_29_2 (h1.ev rfl)) ?_
      exact Tq.fin (.cons rfl .nil)
    refine Dr.one 37 (by kernel_rfl) ?_
    refine St.store 37 2 (cs := [(.int .i64 (max x130 x136.X1))]) [(.int .i64 (min x128 x134.X0)), (.int .i64 (min x129 x135.Y0)), (.int .i64 (max x130 x136.X1)), (.int .i64 x131)] rfl (wn rfl) (.inl ⟨_, (List.mem_cons_of_mem _ (List.mem_cons_of_mem _ List.mem_cons_self)), rfl, rfl⟩) rfl rfl rfl rfl sz_3 rfl rfl rfl ?_
    refine Dr.tail (by kernel_rfl) ?_
    refine Tr.val (wn rfl) rfl (fun _ _ h1 h2 => run_fieldAddr fo_29_3 (h1.ev rfl)) ?_
    refine Tr.store 2 (cs := [(.int .i64 (max x131 x137.Y1))]) [(.int .i64 (min x128 x134.X0)), (.int .i64 (min x129 x135.Y0)), (.int .i64 (max x130 x136.X1)), (.int .i64 (max x131 x137.Y1))] (wn rfl) rfl rfl rfl rfl sz_3 rfl rfl rfl ?_
    refine Tr.nil (Tr.normBlock (Tr.normThen ?_))
    refine Tr.region ?_
    refine Tr.val (wn rfl) rfl (fun _ _ h1 h2 => run_move (h1.ev rfl)) ?_
    refine Tr.val (wn rfl) rfl (fun _ _ h1 h2 => run_add (h1.ev rfl) (h1.ev rfl)) ?_
    refine Tr.val (wn rfl) rfl (fun _ _ h1 h2 => run_assign (h1.ev rfl)) ?_
    refine Tr.nil ?_
    exact Tr.backThen leF_etchhouseref1_BoundsOf_L1 ((min x128 x134.X0), (min x129 x135.Y0), (max x130 x136.X1), (max x131 x137.Y1), (w64 (x132 + 1))) H (.cons rfl (.cons rfl (.cons rfl (.cons rfl .nil)))) (.cons rfl (.cons rfl .nil))
  · refine Tr.exit (Tr.exitThen (Tr.exitThen (Tr.exitBlock (Tr.normThen ?_))))
    refine Tr.seq ?_
    refine Tr.region ?_
    refine Tr.val (wn rfl) rfl (fun _ _ h1 h2 => run_loadN (cs := [(.int .i64 x128), (.int .i64 x129), (.int .i64 x130), (.int .i64 x131)]) ag_29 sz_29 (h1.ev rfl) (CellsAt.take (rdb h2 (vs := [(.int .i64 x128), (.int .i64 x129), (.int .i64 x130), (.int .i64 x131)]) (k := 2) rfl 0) 4) rfl) ?_
    refine Tr.store 1 (cs := [(.int .i64 x128), (.int .i64 x129), (.int .i64 x130), (.int .i64 x131)]) [(.int .i64 x128), (.int .i64 x129), (.int .i64 x130), (.int .i64 x131)] (wn rfl) rfl rfl rfl rfl sz_29 rfl rfl rfl ?_
    refine Tr.nil (Tr.normThen ?_)
    refine Tr.ret ?_
    obtain rfl := Option.some.inj H
    exact Tr.out (m := [(.agg #[(.int .i64 x128), (.int .i64 x129), (.int .i64 x130), (.int .i64 x131)])]) [1] (res_cell rfl rfl ag_29 sz_29 res_nil) (fun W hW => ⟨rfl, hW.low leB⟩)

theorem F_etchhouseref1_Bounds_ok (N : Nat) {w : Bs} (p0 : (List TRect)) (Ap0_0 : Option Addr) (cp0_0 : Nat) (hp0_0 : Sl w.R w.W fl_TRect Ap0_0 cp0_0 p0) (r : (TRect × Bool × Int)) (H : F_etchhouseref1_Bounds N p0 = some r) (hE : HF w w.W E0) : Calls Try.prog 26 [(.slice Ap0_0 (p0).length cp0_0)].toArray w.W fun e W' => e = .returned (.tuple #[(.agg #[(.int .i64 r.1.X0), (.int .i64 r.1.Y0), (.int .i64 r.1.X1), (.int .i64 r.1.Y1)]), (.bool r.2.1), (.int .i64 r.2.2)]) ∧ HF w W' E0 := by
  unfold F_etchhouseref1_Bounds at H
  have leB := Bs.Le.refl w
  refine Tr.enter (n := 18) Try.func26 rfl rfl rfl hE ?_
  refine Tr.seq ?_
  refine Tr.region ?_
  refine Tr.alloc 1 (wn rfl) rfl ze_29 fun b100 => ?_
  refine Tr.val (wn rfl) rfl (fun _ _ h1 h2 => run_assign (h1.ev rfl)) ?_
  refine Tr.val (wn rfl) rfl (fun _ _ h1 h2 => run_assign (h1.ev rfl)) ?_
  refine Tr.nil (Tr.normThen ?_)
  refine Tr.seq ?_
  refine Tr.seq ?_
  refine Tr.region ?_
  refine Tr.val (wn rfl) rfl (fun _ _ h1 h2 => run_move (h1.ev rfl)) ?_
  obtain ⟨y101, hy101, H⟩ := bnd H
  refine Tr.call0 (r := (.int .i64 y101)) (wn rfl) rfl Try.call18 (evl_cons rfl evl_nil) (fun W hW => F_etchhouseref1_CheckRegion_ok N p0 Ap0_0 cp0_0 (hp0_0.ext hW.extAll) y101 hy101 (HF.start _)) ?_
  refine Tr.val (wn rfl) rfl (fun _ _ h1 h2 => run_assign (h1.ev rfl)) ?_
  refine Tr.nil (Tr.normThen ?_)
  refine Tr.seq ?_
  refine Tr.region ?_
  refine Tr.val (wn rfl) rfl (fun _ _ h1 h2 => run_move (h1.ev rfl)) ?_
  refine Tr.val (wn rfl) rfl (fun _ _ h1 h2 => run_neq (h1.ev rfl) (h1.ev rfl)) ?_
  refine Tr.nil (Tr.normThen ?_)
  refine Tr.cond rfl H (fun H => ?_) (fun H => ?_)
  · refine Tr.seq ?_
    refine Tr.region ?_
    refine Tr.build (vs := []) (cs := [(.int .i64 0), (.int .i64 0), (.int .i64 0), (.int .i64 0)]) (wn rfl) rfl evs_nil (by kernel_rfl) ?_
    refine Tr.val (wn rfl) rfl (fun _ _ h1 h2 => run_move (h1.ev rfl)) ?_
    refine Tr.store 1 (cs := [(.int .i64 0), (.int .i64 0), (.int .i64 0), (.int .i64 0)]) [(.int .i64 0), (.int .i64 0), (.int .i64 0), (.int .i64 0)] (wn rfl) rfl rfl rfl rfl sz_29 rfl rfl rfl ?_
    refine Tr.val (wn rfl) rfl (fun _ _ h1 h2 => run_assign (h1.ev rfl)) ?_
    refine Tr.val (wn rfl) rfl (fun _ _ h1 h2 => run_assign (h1.ev rfl)) ?_
    refine Tr.nil (Tr.normThen ?_)
    refine Tr.ret (Tr.retThen ?_)
    obtain rfl := Option.some.inj H
    exact Tr.out (m := [(.agg #[(.int .i64 0), (.int .i64 0), (.int .i64 0), (.int .i64 0)]), (.bool false), (.int .i64 y101)]) [1] (res_cell rfl rfl ag_29 sz_29 (res_tmp rfl (res_tmp rfl res_nil))) (fun W hW => ⟨rfl, hW.low leB⟩)
  · refine Tr.skip (Tr.normThen ?_)
    refine Tr.seq ?_
    refine Tr.seq ?_
    refine Tr.region ?_
    refine Tr.val (wn rfl) rfl (fun _ _ h1 h2 => run_move (h1.ev rfl)) ?_
    refine Tr.val (wn rfl) rfl (fun _ _ h1 h2 => run_len un_22 (h1.ev rfl)) ?_
    refine Tr.val (wn rfl) rfl (fun _ _ h1 h2 => run_eql (h1.ev rfl) (h1.ev rfl)) ?_
    refine Tr.nil (Tr.normThen ?_)
    refine Tr.cond rfl H (fun H => ?_) (fun H => ?_)
    · refine Tr.seq ?_
      refine Tr.region ?_
      refine Tr.build (vs := []) (cs := [(.int .i64 0), (.int .i64 0), (.int .i64 0), (.int .i64 0)]) (wn rfl) rfl evs_nil (by kernel_rfl) ?_
      refine Tr.store 1 (cs := [(.int .i64 0), (.int .i64 0), (.int .i64 0), (.int .i64 0)]) [(.int .i64 0), (.int .i64 0), (.int .i64 0), (.int .i64 0)] (wn rfl) rfl rfl rfl rfl sz_29 rfl rfl rfl ?_
      refine Tr.val (wn rfl) rfl (fun _ _ h1 h2 => run_assign (h1.ev rfl)) ?_
      refine Tr.val (wn rfl) rfl (fun _ _ h1 h2 => run_assign (h1.ev rfl)) ?_
      refine Tr.nil (Tr.normThen ?_)
      refine Tr.ret (Tr.retThen ?_)
      obtain rfl := Option.some.inj H
      exact Tr.out (m := [(.agg #[(.int .i64 0), (.int .i64 0), (.int .i64 0), (.int .i64 0)]), (.bool false), (.int .i64 0)]) [1] (res_cell rfl rfl ag_29 sz_29 (res_tmp rfl (res_tmp rfl res_nil))) (fun W hW => ⟨rfl, hW.low leB⟩)
    · refine Tr.skip (Tr.normThen ?_)
      refine Tr.seq ?_
      refine Tr.region ?_
      refine Tr.val (wn rfl) rfl (fun _ _ h1 h2 => run_move (h1.ev rfl)) ?_
      obtain ⟨y102, hy102, H⟩ := bnd H
      refine Tr.call0 (r := (.agg #[(.int .i64 y102.X0), (.int .i64 y102.Y0), (.int .i64 y102.X1), (.int .i64 y102.Y1)])) (wn rfl) rfl Try.call64 (evl_cons rfl evl_nil) (fun W hW => F_etchhouseref1_BoundsOf_ok N p0 Ap0_0 cp0_0 (hp0_0.ext hW.extAll) y102 hy102 (HF.start _)) ?_
      refine Tr.store 1 (cs := [(.int .i64 y102.X0), (.int .i64 y102.Y0), (.int .i64 y102.X1), (.int .i64 y102.Y1)]) [(.int .i64 y102.X0), (.int .i64 y102.Y0), (.int .i64 y102.X1), (.int .i64 y102.Y1)] (wn rfl) rfl rfl rfl rfl sz_29 rfl rfl rfl ?_
      refine Tr.val (wn rfl) rfl (fun _ _ h1 h2 => run_assign (h1.ev rfl)) ?_
      refine Tr.val (wn rfl) rfl (fun _ _ h1 h2 => run_assign (h1.ev rfl)) ?_
      refine Tr.nil (Tr.normThen ?_)
      refine Tr.ret ?_
      obtain rfl := Option.some.inj H
      exact Tr.out (m := [(.agg #[(.int .i64 y102.X0), (.int .i64 y102.Y0), (.int .i64 y102.X1), (.int .i64 y102.Y1)]), (.bool true), (.int .i64 0)]) [1] (res_cell rfl rfl ag_29 sz_29 (res_tmp rfl (res_tmp rfl res_nil))) (fun W hW => ⟨rfl, hW.low leB⟩)

theorem F_etchhouselaw1_PointsMatchSpec_ok (N : Nat) {w : Bs} (p0 : (List TRect)) (Ap0_0 : Option Addr) (cp0_0 : Nat) (hp0_0 : Sl w.R w.W fl_TRect Ap0_0 cp0_0 p0) (p1 : TPoint) (r : Bool) (H : F_etchhouselaw1_PointsMatchSpec N p0 p1 = some r) (hE : HF w w.W E0) : Calls Try.prog 5 [(.slice Ap0_0 (p0).length cp0_0), (.agg #[(.int .i64 p1.X), (.int .i64 p1.Y)])].toArray w.W fun e W' => e = .returned (.bool r) ∧ HF w W' E0 := by
  unfold F_etchhouselaw1_PointsMatchSpec at H
  have leB := Bs.Le.refl w
  refine Tr.enter (n := 65) Try.func5 rfl rfl rfl hE ?_
  refine Tr.seq ?_
  refine Tr.region ?_
  refine Tr.box 1 (cs := [(.int .i64 p1.X), (.int .i64 p1.Y)]) (wn rfl) rfl rfl rfl fun b100 => ?_
  refine Tr.val (wn rfl) rfl (fun _ _ h1 h2 => run_assign (h1.ev rfl)) ?_
  refine Tr.nil (Tr.normThen ?_)
  refine Tr.seq ?_
  refine Tr.region ?_
  refine Tr.val (wn rfl) rfl (fun _ _ h1 h2 => run_move (h1.ev rfl)) ?_
  refine Tr.val (wn rfl) rfl (fun _ _ h1 h2 => run_loadN (cs := [(.int .i64 p1.X), (.int .i64 p1.Y)]) ag_35 sz_35 (h1.ev rfl) (CellsAt.take (rdb h2 (vs := [(.int .i64 p1.X), (.int .i64 p1.Y)]) (k := 1) rfl 0) 2) rfl) ?_
  obtain ⟨y101, hy101, H⟩ := bnd H
  refine Tr.call0 (r := (.tuple #[(.bool y101.1), (.int .i64 y101.2)])) (wn rfl) rfl Try.call23 (evl_cons rfl (evl_cons rfl evl_nil)) (fun W hW => F_shape_Has_ok N p0 Ap0_0 cp0_0 (hp0_0.ext hW.extAll) p1 y101 hy101 (HF.start _)) ?_
  refine Tr.val (wn rfl) rfl (fun _ _ h1 h2 => run_move (h1.ev rfl)) ?_
  refine Tr.val (wn rfl) rfl (fun _ _ h1 h2 => run_extract (h1.ev rfl) rfl) ?_
  refine Tr.val (wn rfl) rfl (fun _ _ h1 h2 => run_extract (h1.ev rfl) rfl) ?_
  refine Tr.val (wn rfl) rfl (fun _ _ h1 h2 => run_assign (h1.ev rfl)) ?_
  refine Tr.val (wn rfl) rfl (fun _ _ h1 h2 => run_assign (h1.ev rfl)) ?_
  refine Tr.nil (Tr.normThen ?_)
  refine Tr.seq ?_
  refine Tr.region ?_
  refine Tr.val (wn rfl) rfl (fun _ _ h1 h2 => run_move (h1.ev rfl)) ?_
  refine Tr.val (wn rfl) rfl (fun _ _ h1 h2 => run_loadN (cs := [(.int .i64 p1.X), (.int .i64 p1.Y)]) ag_35 sz_35 (h1.ev rfl) (CellsAt.take (rdb h2 (vs := [(.int .i64 p1.X), (.int .i64 p1.Y)]) (k := 1) rfl 0) 2) rfl) ?_
  obtain ⟨y102, hy102, H⟩ := bnd H
  refine Tr.call0 (r := (.tuple #[(.bool y102.1), (.int .i64 y102.2)])) (wn rfl) rfl Try.call24 (evl_cons rfl (evl_cons rfl evl_nil)) (fun W hW => F_etchhouseref1_Has_ok N p0 Ap0_0 cp0_0 (hp0_0.ext hW.extAll) p1 y102 hy102 (HF.start _)) ?_
  refine Tr.val (wn rfl) rfl (fun _ _ h1 h2 => run_move (h1.ev rfl)) ?_
  refine Tr.val (wn rfl) rfl (fun _ _ h1 h2 => run_extract (h1.ev rfl) rfl) ?_
  refine Tr.val (wn rfl) rfl (fun _ _ h1 h2 => run_extract (h1.ev rfl) rfl) ?_
  refine Tr.val (wn rfl) rfl (fun _ _ h1 h2 => run_assign (h1.ev rfl)) ?_
  refine Tr.val (wn rfl) rfl (fun _ _ h1 h2 => run_assign (h1.ev rfl)) ?_
  refine Tr.nil (Tr.normThen ?_)
  refine Tr.seq ?_
  refine Tr.region ?_
  refine Tr.val (wn rfl) rfl (fun _ _ h1 h2 => run_move (h1.ev rfl)) ?_
  obtain ⟨y103, hy103, H⟩ := bnd H
  refine Tr.call0 (r := (.tuple #[(.agg #[(.int .i64 y103.1.X0), (.int .i64 y103.1.Y0), (.int .i64 y103.1.X1), (.int .i64 y103.1.Y1)]), (.bool y103.2.1), (.int .i64 y103.2.2)])) (wn rfl) rfl Try.call25 (evl_cons rfl evl_nil) (fun W hW => F_shape_Bounds_ok N p0 Ap0_0 cp0_0 (hp0_0.ext hW.extAll) y103 hy103 (HF.start _)) ?_
  refine Tr.val (wn rfl) rfl (fun _ _ h1 h2 => run_move (h1.ev rfl)) ?_
  refine Tr.val (wn rfl) rfl (fun _ _ h1 h2 => run_extract (h1.ev rfl) rfl) ?_
  refine Tr.val (wn rfl) rfl (fun _ _ h1 h2 => run_extract (h1.ev rfl) rfl) ?_
  refine Tr.val (wn rfl) rfl (fun _ _ h1 h2 => run_extract (h1.ev rfl) rfl) ?_
  refine Tr.alloc 2 (wn rfl) rfl ze_29 fun b104 => ?_
  refine Tr.store 2 (cs := [(.int .i64 y103.1.X0), (.int .i64 y103.1.Y0), (.int .i64 y103.1.X1), (.int .i64 y103.1.Y1)]) [(.int .i64 y103.1.X0), (.int .i64 y103.1.Y0), (.int .i64 y103.1.X1), (.int .i64 y103.1.Y1)] (wn rfl) rfl rfl rfl rfl sz_29 rfl rfl rfl ?_
  refine Tr.val (wn rfl) rfl (fun _ _ h1 h2 => run_assign (h1.ev rfl)) ?_
  refine Tr.val (wn rfl) rfl (fun _ _ h1 h2 => run_assign (h1.ev rfl)) ?_
  refine Tr.nil (Tr.normThen ?_)
  refine Tr.seq ?_
  refine Tr.region ?_
  refine Tr.val (wn rfl) rfl (fun _ _ h1 h2 => run_move (h1.ev rfl)) ?_
  obtain ⟨y105, hy105, H⟩ := bnd H
  refine Tr.call0 (r := (.tuple #[(.agg #[(.int .i64 y105.1.X0), (.int .i64 y105.1.Y0), (.int .i64 y105.1.X1), (.int .i64 y105.1.Y1)]), (.bool y105.2.1), (.int .i64 y105.2.2)])) (wn rfl) rfl Try.call26 (evl_cons rfl evl_nil) (fun W hW => F_etchhouseref1_Bounds_ok N p0 Ap0_0 cp0_0 (hp0_0.ext hW.extAll) y105 hy105 (HF.start _)) ?_
  refine Tr.val (wn rfl) rfl (fun _ _ h1 h2 => run_move (h1.ev rfl)) ?_
  refine Tr.val (wn rfl) rfl (fun _ _ h1 h2 => run_extract (h1.ev rfl) rfl) ?_
  refine Tr.val (wn rfl) rfl (fun _ _ h1 h2 => run_extract (h1.ev rfl) rfl) ?_
  refine Tr.val (wn rfl) rfl (fun _ _ h1 h2 => run_extract (h1.ev rfl) rfl) ?_
  refine Tr.alloc 3 (wn rfl) rfl ze_29 fun b106 => ?_
  refine Tr.store 3 (cs := [(.int .i64 y105.1.X0), (.int .i64 y105.1.Y0), (.int .i64 y105.1.X1), (.int .i64 y105.1.Y1)]) [(.int .i64 y105.1.X0), (.int .i64 y105.1.Y0), (.int .i64 y105.1.X1), (.int .i64 y105.1.Y1)] (wn rfl) rfl rfl rfl rfl sz_29 rfl rfl rfl ?_
  refine Tr.val (wn rfl) rfl (fun _ _ h1 h2 => run_assign (h1.ev rfl)) ?_
  refine Tr.val (wn rfl) rfl (fun _ _ h1 h2 => run_assign (h1.ev rfl)) ?_
  refine Tr.nil (Tr.normThen ?_)
  refine Tr.seq ?_
  refine Tr.region ?_
  refine Tr.val (wn rfl) rfl (fun _ _ h1 h2 => run_move (h1.ev rfl)) ?_
  refine Tr.val (wn rfl) rfl (fun _ _ h1 h2 => run_move (h1.ev rfl)) ?_
  refine Tr.val (wn rfl) rfl (fun _ _ h1 h2 => run_eqlB un_4 (h1.ev rfl) (h1.ev rfl)) ?_
  refine Tr.val (wn rfl) rfl (fun _ _ h1 h2 => run_move (h1.ev rfl)) ?_
  refine Tr.mid0 4 [(9, (.pointer (some ⟨b104, 0, none⟩))), (10, (.bool y103.2.1)), (11, (.int .i64 y103.2.2)), (12, (.pointer (some ⟨b106, 0, none⟩))), (13, (.bool y105.2.1)), (14, (.int .i64 y105.2.2)), (46, (.bool ((y101.1 == y102.1) && (y101.2 == y102.2))))] [(1, bx b100 #[(.int .i64 p1.X), (.int .i64 p1.Y)] 35), (2, bx b104 #[(.int .i64 y103.1.X0), (.int .i64 y103.1.Y0), (.int .i64 y103.1.X1), (.int .i64 y103.1.Y1)] 29), (3, bx b106 #[(.int .i64 y105.1.X0), (.int .i64 y105.1.Y0), (.int .i64 y105.1.X1), (.int .i64 y105.1.Y1)] 29)] ?_ ?_
  · cases hg109 : (y101.1 == y102.1)
    · refine Tr.pass rfl rfl rfl rfl rfl (by decide) ?_
      refine Tr.pass rfl rfl rfl rfl rfl (by decide) ?_
      refine Tr.pass rfl rfl rfl rfl rfl (by decide) ?_
      refine Tr.val (wn rfl) rfl (fun _ _ h1 h2 => run_pickF (h1.ev rfl) (h1.ev rfl)) ?_
      exact Tr.nil (Tr.fin0 (.cons rfl (.cons rfl (.cons rfl (.cons rfl (.cons rfl (.cons rfl (.cons rfl .nil))))))) (.cons rfl (.cons rfl (.cons rfl .nil))))
    · refine Tr.val (wg rfl rfl rfl) rfl (fun _ _ h1 h2 => run_move (h1.ev rfl)) ?_
      refine Tr.val (wg rfl rfl rfl) rfl (fun _ _ h1 h2 => run_move (h1.ev rfl)) ?_
      refine Tr.val (wg rfl rfl rfl) rfl (fun _ _ h1 h2 => run_eql (h1.ev rfl) (h1.ev rfl)) ?_
      refine Tr.val (wn rfl) rfl (fun _ _ h1 h2 => run_pickT (h1.ev rfl) (h1.ev rfl)) ?_
      exact Tr.nil (Tr.fin0 (.cons rfl (.cons rfl (.cons rfl (.cons rfl (.cons rfl (.cons rfl (.cons rfl .nil))))))) (.cons rfl (.cons rfl (.cons rfl .nil))))
  · show Tr _ _ (LF [(9, (.pointer (some ⟨b104, 0, none⟩))), (10, (.bool y103.2.1)), (11, (.int .i64 y103.2.2)), (12, (.pointer (some ⟨b106, 0, none⟩))), (13, (.bool y105.2.1)), (14, (.int .i64 y105.2.2)), (46, (.bool ((y101.1 == y102.1) && (y101.2 == y102.2))))]) (LE [(1, bx b100 #[(.int .i64 p1.X), (.int .i64 p1.Y)] 35), (2, bx b104 #[(.int .i64 y103.1.X0), (.int .i64 y103.1.Y0), (.int .i64 y103.1.X1), (.int .i64 y103.1.Y1)] 29), (3, bx b106 #[(.int .i64 y105.1.X0), (.int .i64 y105.1.Y0), (.int .i64 y105.1.X1), (.int .i64 y105.1.Y1)] 29)]) _
    refine Tr.val (wn rfl) rfl (fun _ _ h1 h2 => run_move (h1.ev rfl)) ?_
    refine Tr.mid0 4 [(10, (.bool y103.2.1)), (11, (.int .i64 y103.2.2)), (13, (.bool y105.2.1)), (14, (.int .i64 y105.2.2)), (51, (.bool (((y101.1 == y102.1) && (y101.2 == y102.2)) && (eqTRect y103.1 y105.1))))] [(1, bx b100 #[(.int .i64 p1.X), (.int .i64 p1.Y)] 35), (2, bx b104 #[(.int .i64 y103.1.X0), (.int .i64 y103.1.Y0), (.int .i64 y103.1.X1), (.int .i64 y103.1.Y1)] 29), (3, bx b106 #[(.int .i64 y105.1.X0), (.int .i64 y105.1.Y0), (.int .i64 y105.1.X1), (.int .i64 y105.1.Y1)] 29)] ?_ ?_
    · cases hg109 : ((y101.1 == y102.1) && (y101.2 == y102.2))
      · refine Tr.pass rfl rfl rfl rfl rfl (by decide) ?_
        refine Tr.pass rfl rfl rfl rfl rfl (by decide) ?_
        refine Tr.pass rfl rfl rfl rfl rfl (by decide) ?_
        refine Tr.val (wn rfl) rfl (fun _ _ h1 h2 => run_pickF (h1.ev rfl) (h1.ev rfl)) ?_
        exact Tr.nil (Tr.fin0 (.cons rfl (.cons rfl (.cons rfl (.cons rfl (.cons rfl .nil))))) (.cons rfl (.cons rfl (.cons rfl .nil))))
      · refine Tr.val (wg rfl rfl rfl) rfl (fun _ _ h1 h2 => run_loadN (cs := [(.int .i64 y103.1.X0), (.int .i64 y103.1.Y0), (.int .i64 y103.1.X1), (.int .i64 y103.1.Y1)]) ag_29 sz_29 (h1.ev rfl) (CellsAt.take (rdb h2 (vs := [(.int .i64 y103.1.X0), (.int .i64 y103.1.Y0), (.int .i64 y103.1.X1), (.int .i64 y103.1.Y1)]) (k := 2) rfl 0) 4) rfl) ?_
        refine Tr.val (wg rfl rfl rfl) rfl (fun _ _ h1 h2 => run_loadN (cs := [(.int .i64 y105.1.X0), (.int .i64 y105.1.Y0), (.int .i64 y105.1.X1), (.int .i64 y105.1.Y1)]) ag_29 sz_29 (h1.ev rfl) (CellsAt.take (rdb h2 (vs := [(.int .i64 y105.1.X0), (.int .i64 y105.1.Y0), (.int .i64 y105.1.X1), (.int .i64 y105.1.Y1)]) (k := 3) rfl 0) 4) rfl) ?_
        refine Tr.val (wg rfl rfl rfl) rfl (fun _ _ h1 h2 => run_eql_29 y103.1 y105.1 (h1.ev rfl) (h1.ev rfl)) ?_
        refine Tr.val (wn rfl) rfl (fun _ _ h1 h2 => run_pickT (h1.ev rfl) (h1.ev rfl)) ?_
        exact Tr.nil (Tr.fin0 (.cons rfl (.cons rfl (.cons rfl (.cons rfl (.cons rfl .nil))))) (.cons rfl (.cons rfl (.cons rfl .nil))))
    · show Tr _ _ (LF [(10, (.bool y103.2.1)), (11, (.int .i64 y103.2.2)), (13, (.bool y105.2.1)), (14, (.int .i64 y105.2.2)), (51, (.bool (((y101.1 == y102.1) && (y101.2 == y102.2)) && (eqTRect y103.1 y105.1))))]) (LE [(1, bx b100 #[(.int .i64 p1.X), (.int .i64 p1.Y)] 35), (2, bx b104 #[(.int .i64 y103.1.X0), (.int .i64 y103.1.Y0), (.int .i64 y103.1.X1), (.int .i64 y103.1.Y1)] 29), (3, bx b106 #[(.int .i64 y105.1.X0), (.int .i64 y105.1.Y0), (.int .i64 y105.1.X1), (.int .i64 y105.1.Y1)] 29)]) _
      refine Tr.val (wn rfl) rfl (fun _ _ h1 h2 => run_move (h1.ev rfl)) ?_
      refine Tr.mid0 4 [(11, (.int .i64 y103.2.2)), (14, (.int .i64 y105.2.2)), (56, (.bool ((((y101.1 == y102.1) && (y101.2 == y102.2)) && (eqTRect y103.1 y105.1)) && (y103.2.1 == y105.2.1))))] [(1, bx b100 #[(.int .i64 p1.X), (.int .i64 p1.Y)] 35), (2, bx b104 #[(.int .i64 y103.1.X0), (.int .i64 y103.1.Y0), (.int .i64 y103.1.X1), (.int .i64 y103.1.Y1)] 29), (3, bx b106 #[(.int .i64 y105.1.X0), (.int .i64 y105.1.Y0), (.int .i64 y105.1.X1), (.int .i64 y105.1.Y1)] 29)] ?_ ?_
      · cases hg109 : (((y101.1 == y102.1) && (y101.2 == y102.2)) && (eqTRect y103.1 y105.1))
        · refine Tr.pass rfl rfl rfl rfl rfl (by decide) ?_
          refine Tr.pass rfl rfl rfl rfl rfl (by decide) ?_
          refine Tr.pass rfl rfl rfl rfl rfl (by decide) ?_
          refine Tr.val (wn rfl) rfl (fun _ _ h1 h2 => run_pickF (h1.ev rfl) (h1.ev rfl)) ?_
          exact Tr.nil (Tr.fin0 (.cons rfl (.cons rfl (.cons rfl .nil))) (.cons rfl (.cons rfl (.cons rfl .nil))))
        · refine Tr.val (wg rfl rfl rfl) rfl (fun _ _ h1 h2 => run_move (h1.ev rfl)) ?_
          refine Tr.val (wg rfl rfl rfl) rfl (fun _ _ h1 h2 => run_move (h1.ev rfl)) ?_
          refine Tr.val (wg rfl rfl rfl) rfl (fun _ _ h1 h2 => run_eqlB un_4 (h1.ev rfl) (h1.ev rfl)) ?_
          refine Tr.val (wn rfl) rfl (fun _ _ h1 h2 => run_pickT (h1.ev rfl) (h1.ev rfl)) ?_
          exact Tr.nil (Tr.fin0 (.cons rfl (.cons rfl (.cons rfl .nil))) (.cons rfl (.cons rfl (.cons rfl .nil))))
      · show Tr _ _ (LF [(11, (.int .i64 y103.2.2)), (14, (.int .i64 y105.2.2)), (56, (.bool ((((y101.1 == y102.1) && (y101.2 == y102.2)) && (eqTRect y103.1 y105.1)) && (y103.2.1 == y105.2.1))))]) (LE [(1, bx b100 #[(.int .i64 p1.X), (.int .i64 p1.Y)] 35), (2, bx b104 #[(.int .i64 y103.1.X0), (.int .i64 y103.1.Y0), (.int .i64 y103.1.X1), (.int .i64 y103.1.Y1)] 29), (3, bx b106 #[(.int .i64 y105.1.X0), (.int .i64 y105.1.Y0), (.int .i64 y105.1.X1), (.int .i64 y105.1.Y1)] 29)]) _
        refine Tr.val (wn rfl) rfl (fun _ _ h1 h2 => run_move (h1.ev rfl)) ?_
        refine Tr.mid0 4 [(61, (.bool (((((y101.1 == y102.1) && (y101.2 == y102.2)) && (eqTRect y103.1 y105.1)) && (y103.2.1 == y105.2.1)) && (y103.2.2 == y105.2.2))))] [(1, bx b100 #[(.int .i64 p1.X), (.int .i64 p1.Y)] 35), (2, bx b104 #[(.int .i64 y103.1.X0), (.int .i64 y103.1.Y0), (.int .i64 y103.1.X1), (.int .i64 y103.1.Y1)] 29), (3, bx b106 #[(.int .i64 y105.1.X0), (.int .i64 y105.1.Y0), (.int .i64 y105.1.X1), (.int .i64 y105.1.Y1)] 29)] ?_ ?_
        · cases hg109 : ((((y101.1 == y102.1) && (y101.2 == y102.2)) && (eqTRect y103.1 y105.1)) && (y103.2.1 == y105.2.1))
          · refine Tr.pass rfl rfl rfl rfl rfl (by decide) ?_
            refine Tr.pass rfl rfl rfl rfl rfl (by decide) ?_
            refine Tr.pass rfl rfl rfl rfl rfl (by decide) ?_
            refine Tr.val (wn rfl) rfl (fun _ _ h1 h2 => run_pickF (h1.ev rfl) (h1.ev rfl)) ?_
            exact Tr.nil (Tr.fin0 (.cons rfl .nil) (.cons rfl (.cons rfl (.cons rfl .nil))))
          · refine Tr.val (wg rfl rfl rfl) rfl (fun _ _ h1 h2 => run_move (h1.ev rfl)) ?_
            refine Tr.val (wg rfl rfl rfl) rfl (fun _ _ h1 h2 => run_move (h1.ev rfl)) ?_
            refine Tr.val (wg rfl rfl rfl) rfl (fun _ _ h1 h2 => run_eql (h1.ev rfl) (h1.ev rfl)) ?_
            refine Tr.val (wn rfl) rfl (fun _ _ h1 h2 => run_pickT (h1.ev rfl) (h1.ev rfl)) ?_
            exact Tr.nil (Tr.fin0 (.cons rfl .nil) (.cons rfl (.cons rfl (.cons rfl .nil))))
        · show Tr _ _ (LF [(61, (.bool (((((y101.1 == y102.1) && (y101.2 == y102.2)) && (eqTRect y103.1 y105.1)) && (y103.2.1 == y105.2.1)) && (y103.2.2 == y105.2.2))))]) (LE [(1, bx b100 #[(.int .i64 p1.X), (.int .i64 p1.Y)] 35), (2, bx b104 #[(.int .i64 y103.1.X0), (.int .i64 y103.1.Y0), (.int .i64 y103.1.X1), (.int .i64 y103.1.Y1)] 29), (3, bx b106 #[(.int .i64 y105.1.X0), (.int .i64 y105.1.Y0), (.int .i64 y105.1.X1), (.int .i64 y105.1.Y1)] 29)]) _
          refine Tr.val (wn rfl) rfl (fun _ _ h1 h2 => run_move (h1.ev rfl)) ?_
          obtain ⟨g108, hg108, H⟩ := bnd H
          refine Tr.mid0 2 [(64, (.bool g108))] [(1, bx b100 #[(.int .i64 p1.X), (.int .i64 p1.Y)] 35), (2, bx b104 #[(.int .i64 y103.1.X0), (.int .i64 y103.1.Y0), (.int .i64 y103.1.X1), (.int .i64 y103.1.Y1)] 29), (3, bx b106 #[(.int .i64 y105.1.X0), (.int .i64 y105.1.Y0), (.int .i64 y105.1.X1), (.int .i64 y105.1.Y1)] 29)] ?_ ?_
          · cases hg109 : (((((y101.1 == y102.1) && (y101.2 == y102.2)) && (eqTRect y103.1 y105.1)) && (y103.2.1 == y105.2.1)) && (y103.2.2 == y105.2.2))
            · rw [hg109] at hg108
              rw [if_neg (by decide)] at hg108
              have H := hg108
              obtain rfl := Option.some.inj H
              refine Tr.pass rfl rfl rfl rfl rfl (by decide) ?_
              refine Tr.val (wn rfl) rfl (fun _ _ h1 h2 => run_pickF (h1.ev rfl) (h1.ev rfl)) ?_
              exact Tr.nil (Tr.fin0 (.cons rfl .nil) (.cons rfl (.cons rfl (.cons rfl .nil))))
            · rw [hg109] at hg108
              rw [if_pos rfl] at hg108
              have H := hg108
              obtain ⟨y109, hy109, H⟩ := bnd H
              refine Tr.call0 (r := (.bool y109)) (wg rfl rfl rfl) rfl Try.call20 evl_nil (fun W hW => F_etchhouselaw1_awake_ok N y109 hy109 (HF.start _)) ?_
              refine Tr.val (wn rfl) rfl (fun _ _ h1 h2 => run_pickT (h1.ev rfl) (h1.ev rfl)) ?_
              obtain rfl := Option.some.inj H
              exact Tr.nil (Tr.fin0 (.cons rfl .nil) (.cons rfl (.cons rfl (.cons rfl .nil))))
          · show Tr _ _ (LF [(64, (.bool g108))]) (LE [(1, bx b100 #[(.int .i64 p1.X), (.int .i64 p1.Y)] 35), (2, bx b104 #[(.int .i64 y103.1.X0), (.int .i64 y103.1.Y0), (.int .i64 y103.1.X1), (.int .i64 y103.1.Y1)] 29), (3, bx b106 #[(.int .i64 y105.1.X0), (.int .i64 y105.1.Y0), (.int .i64 y105.1.X1), (.int .i64 y105.1.Y1)] 29)]) _
            refine Tr.val (wn rfl) rfl (fun _ _ h1 h2 => run_assign (h1.ev rfl)) ?_
            refine Tr.nil (Tr.normThen ?_)
            refine Tr.ret ?_
            obtain rfl := Option.some.inj H
            exact Tr.out (m := [(.bool g108)]) [] (res_tmp rfl res_nil) (fun W hW => ⟨rfl, hW.low leB⟩)

theorem F_shape_Set__at_ok {w : Bs} (p0 : (List TBand)) (Ap0_0 : Option Addr) (cp0_0 : Nat) (hp0_0 : Sl w.O w.W fl_TBand Ap0_0 cp0_0 p0) (p1 : Int) (p2 : Int) (r : ((List Int) × Int)) (H : F_shape_Set__at p0 p1 p2 = some r) (hE : HF w w.W (LEn [])) : Calls Try.prog 123 [(.slice Ap0_0 (p0).length cp0_0), (.int .i64 p1), (.int .i64 p2)].toArray w.W fun e W' => ∃ (w' : Bs) (u : (Option Addr × Nat)), w.Le w' ∧ e = .returned (.tuple #[(.slice u.1 (r.1).length u.2), (.int .i64 r.2)]) ∧ (Sl w'.O w'.W fl_i64 u.1 u.2 r.1) ∧ HF w' W' (LEn []) := by
  unfold F_shape_Set__at at H
  have leB := Bs.Le.refl w
  refine Tr.enter (n := 36) Try.func123 rfl rfl rfl hE ?_
  refine Tr.seq ?_
  refine Tr.region ?_
  refine Tr.val (wn rfl) rfl (fun _ _ h1 h2 => run_assign (h1.ev rfl)) ?_
  refine Tr.nilOwn 1 3 fl_i64 ?_
  show Tr _ _ (uf _ 6 (.slice none (([] : List Int)).length 0)) _ _
  refine Tr.val (wn rfl) rfl (fun _ _ h1 h2 => run_assign (h1.ev rfl)) ?_
  refine Tr.nil (Tr.normThen ?_)
  refine Tr.seq ?_
  refine Tr.block ?_
  refine Tr.seq ?_
  refine Tr.region ?_
  refine Tr.val (wn rfl) rfl (fun _ _ h1 h2 => run_move (h1.ev rfl)) ?_
  refine Tr.val (wn rfl) rfl (fun _ _ h1 h2 => run_len un_66 (h1.ev rfl)) ?_
  refine Tr.val (wn rfl) rfl (fun _ _ h1 h2 => run_eql (h1.ev rfl) (h1.ev rfl)) ?_
  refine Tr.val (wn rfl) rfl (fun _ _ h1 h2 => run_assign (h1.ev rfl)) ?_
  refine Tr.nil (Tr.normThen ?_)
  refine Tr.cond rfl H (fun H => ?_) (fun H => ?_)
  · refine Tr.seq ?_
    refine Tr.region ?_
    refine Tr.val (wn rfl) rfl (fun _ _ h1 h2 => run_move (h1.ev rfl)) ?_
    refine Tr.val (wn rfl) rfl (fun _ _ h1 h2 => run_assign (h1.ev rfl)) ?_
    refine Tr.nilOwn 2 3 fl_i64 ?_
    show Tr _ _ (uf _ 6 (.slice none (([] : List Int)).length 0)) _ _
    refine Tr.val (wn rfl) rfl (fun _ _ h1 h2 => run_assign (h1.ev rfl)) ?_
    refine Tr.nil (Tr.normThen ?_)
    refine Tr.ret (Tr.retBlock (Tr.retThen ?_))
    obtain rfl := Option.some.inj H
    refine Tr.freeze 2 rfl fun w le101 hz100 => ?_
    replace hp0_0 := hp0_0.le le101
    replace leB := leB.trans le101
    exact Tr.out (m := [(.slice none (([] : List Int)).length 0), (.int .i64 p2)]) [] (res_tmp rfl (res_tmp rfl res_nil)) (fun W hW => ⟨w, (none, 0), leB, rfl, hz100, hW.pick (ks := []) (by decide) pk_nil⟩)
  · refine Tr.seq ?_
    refine Tr.region ?_
    refine Tr.val (wn rfl) rfl (fun _ _ h1 h2 => run_move (h1.ev rfl)) ?_
    refine Tr.val (wn rfl) rfl (fun _ _ h1 h2 => run_move (h1.ev rfl)) ?_
    obtain ⟨x102, hx102, H⟩ := bnd H
    obtain ⟨hx1020, hx1021, hx1022⟩ := idx_some hx102
    obtain ⟨u103, hRu103, hoku103, hcu103⟩ := (hp0_0).el hx1022
    obtain ⟨Au103_0, cu103_0⟩ := u103
    have hoku103_0 := hoku103
    replace hoku103_0 : Sl w.O w.W fl_i64 Au103_0 cu103_0 x102.Xs := hoku103_0
    replace hRu103 : w.R (adB Ap0_0) := Or.inl hRu103
    refine Tr.val (wn rfl) rfl (fun _ _ h1 h2 => run_indexAddr el_66 (h1.ev rfl) hp0_0.form (h1.ev rfl) hx1020 hx1021) ?_
    refine Tr.val (wn rfl) rfl (fun _ _ h1 h2 => run_fieldAddr fo_96_0 (h1.ev rfl)) ?_
    refine Tr.val (wn rfl) rfl (fun _ _ h1 h2 => run_load1 ag_3 (h1.ev rfl) (CellsAt.drop (rdR hRu103 hcu103 h2) 0) rfl) ?_
    refine Tr.val (wn rfl) rfl (fun _ _ h1 h2 => run_lss (h1.ev rfl) (h1.ev rfl)) ?_
    refine Tr.val (wn rfl) rfl (fun _ _ h1 h2 => run_assign (h1.ev rfl)) ?_
    refine Tr.nil (Tr.normThen ?_)
    refine Tr.cond rfl H (fun H => ?_) (fun H => ?_)
    · refine Tr.seq ?_
      refine Tr.draw (by kernel_rfl) (by kernel_rfl) ?_
      refine Tq.val (wn rfl) rfl (fun _ _ h1 h2 => run_move (h1.ev rfl)) ?_
      refine Tq.val (wn rfl) rfl (fun _ _ h1 h2 => run_move (h1.ev rfl)) ?_
      obtain ⟨x104, hx104, H⟩ := bnd H
      obtain ⟨hx1040, hx1041, hx1042⟩ := idx_some hx104
      obtain ⟨u105, hRu105, hoku105, hcu105⟩ := (hp0_0).el hx1042
      obtain ⟨Au105_0, cu105_0⟩ := u105
      have hoku105_0 := hoku105
      replace hoku105_0 : Sl w.O w.W fl_i64 Au105_0 cu105_0 x104.Xs := hoku105_0
      replace hRu105 : w.R (adB Ap0_0) := Or.inl hRu105
      refine Tq.val (wn rfl) rfl (fun _ _ h1 h2 => run_indexAddr el_66 (h1.ev rfl) hp0_0.form (h1.ev rfl) hx1040 hx1041) ?_
      refine Tq.val (wn rfl) rfl (fun _ _ h1 h2 => run_fieldAddr fo_96_0 (h1.ev rfl)) ?_
      refine Tq.val (wn rfl) rfl (fun _ _ h1 h2 => run_load1 ag_3 (h1.ev rfl) (CellsAt.drop (rdR hRu105 hcu105 h2) 0) rfl) ?_
      refine Tq.val (wn rfl) rfl (fun _ _ h1 h2 => run_min (h1.ev rfl) (h1.ev rfl) _) ?_
      refine Tq.val (wn rfl) rfl (fun _ _ h1 h2 => run_assign (h1.ev rfl)) ?_
      refine Tq.val (wn rfl) rfl (fun _ _ h1 h2 => run_assign (h1.ev rfl)) ?_
      refine Tq.nil (Tr.normThen ?_)
      refine Tr.ret (Tr.retBlock (Tr.retThen ?_))
      obtain rfl := Option.some.inj H
      exact Tr.out (m := [(.slice none 0 0), (.int .i64 (min p2 x104.Y0))]) [] (res_tmp rfl (res_tmp rfl res_nil)) (fun W hW => ⟨w, (none, 0), leB, rfl, (Sl.nil _ _ _), hW.pick (ks := []) (by decide) pk_nil⟩)
    · refine Tr.skip (Tr.normBlock (Tr.normThen ?_))
      refine Tr.seq ?_
      refine Tr.draw (by kernel_rfl) (by kernel_rfl) ?_
      refine Tq.val (wn rfl) rfl (fun _ _ h1 h2 => run_move (h1.ev rfl)) ?_
      obtain ⟨x106, hx106, H⟩ := bnd H
      obtain ⟨hx1060, hx1061, hx1062⟩ := idx_some hx106
      obtain ⟨u107, hRu107, hoku107, hcu107⟩ := (hp0_0).el hx1062
      obtain ⟨Au107_0, cu107_0⟩ := u107
      have hoku107_0 := hoku107
      replace hoku107_0 : Sl w.O w.W fl_i64 Au107_0 cu107_0 x106.Xs := hoku107_0
      replace hRu107 : w.R (adB Ap0_0) := Or.inl hRu107
      refine Tq.val (wn rfl) rfl (fun _ _ h1 h2 => run_indexAddr el_66 (h1.ev rfl) hp0_0.form (h1.ev rfl) hx1060 hx1061) ?_
      refine Tq.val (wn rfl) rfl (fun _ _ h1 h2 => run_fieldAddr fo_96_2 (h1.ev rfl)) ?_
      refine Tq.val (wn rfl) rfl (fun _ _ h1 h2 => run_load1 ag_89 (h1.ev rfl) (CellsAt.drop (rdR hRu107 hcu107 h2) 2) rfl) ?_
      refine Tq.val (wn rfl) rfl (fun _ _ h1 h2 => run_move (h1.ev rfl)) ?_
      refine Tq.val (wn rfl) rfl (fun _ _ h1 h2 => run_move (h1.ev rfl)) ?_
      obtain ⟨x108, hx108, H⟩ := bnd H
      obtain ⟨hx1080, hx1081, hx1082⟩ := idx_some hx108
      obtain ⟨u109, hRu109, hoku109, hcu109⟩ := (hp0_0).el hx1082
      obtain ⟨Au109_0, cu109_0⟩ := u109
      have hoku109_0 := hoku109
      replace hoku109_0 : Sl w.O w.W fl_i64 Au109_0 cu109_0 x108.Xs := hoku109_0
      replace hRu109 : w.R (adB Ap0_0) := Or.inl hRu109
      refine Tq.val (wn rfl) rfl (fun _ _ h1 h2 => run_indexAddr el_66 (h1.ev rfl) hp0_0.form (h1.ev rfl) hx1080 hx1081) ?_
      refine Tq.val (wn rfl) rfl (fun _ _ h1 h2 => run_fieldAddr fo_96_1 (h1.ev rfl)) ?_
      refine Tq.val (wn rfl) rfl (fun _ _ h1 h2 => run_load1 ag_3 (h1.ev rfl) (CellsAt.drop (rdR hRu109 hcu109 h2) 1) rfl) ?_
      refine Tq.val (wn rfl) rfl (fun _ _ h1 h2 => run_min (h1.ev rfl) (h1.ev rfl) _) ?_
      refine Tq.val (wn rfl) rfl (fun _ _ h1 h2 => run_assign (h1.ev rfl)) ?_
      refine Tq.val (wn rfl) rfl (fun _ _ h1 h2 => run_assign (h1.ev rfl)) ?_
      refine Tq.nil (Tr.normThen ?_)
      refine Tr.ret ?_
      obtain rfl := Option.some.inj H
      exact Tr.out (m := [(.slice Au107_0 (x106.Xs).length cu107_0), (.int .i64 (min p2 x108.Y1))]) [] (res_tmp rfl (res_tmp rfl res_nil)) (fun W hW => ⟨w, (Au107_0, cu107_0), leB, rfl, hoku107_0, hW.pick (ks := []) (by decide) pk_nil⟩)

theorem F_shape_line_ok (N : Nat) {w : Bs} (p0 : (List Int)) (Ap0_0 : Option Addr) (cp0_0 : Nat) (hp0_0 : Sl w.R w.W fl_i64 Ap0_0 cp0_0 p0) (p1 : (List Int)) (Ap1_0 : Option Addr) (cp1_0 : Nat) (hp1_0 : Sl w.R w.W fl_i64 Ap1_0 cp1_0 p1) (p2 : Bool → Bool → Option Bool) (fid2 : Nat) (cap2 : List Value) (hg2 : ∀ args W, (callFunc fid2 args).run Try.prog W = .ok (.enter fid2 args) W) (hf2 : ∀ (w' : Bs), w.Ext w' → ∀ (z0 : Bool) (z1 : Bool), ∀ y, p2 z0 z1 = some y → Calls Try.prog fid2 (([(.bool z0), (.bool z1)] : List Value) ++ cap2).toArray w'.W fun e W'' => e = .returned (.bool y) ∧ HF w' W'' E0) (r : (List Int)) (H : F_shape_line N p0 p1 p2 = some r) (hE : HF w w.W (LEn [emp])) : Calls Try.prog 124 [(.slice Ap0_0 (p0).length cp0_0), (.slice Ap1_0 (p1).length cp1_0), (.func (.func fid2) #[] cap2.toArray)].toArray w.W fun e W' => ∃ u : (Option Addr × Nat), e = .returned (.slice u.1 (r).length u.2) ∧ (SlF u.1 (r).length u.2) ∧ HF w W' (LEn [ow u.1 u.2 3 fl_i64 r]) := by
  unfold F_shape_line at H
  have leB := Bs.Le.refl w
  refine Tr.enter (n := 85) Try.func124 rfl rfl rfl hE ?_
  refine Tr.seq ?_
  refine Tr.region ?_
  refine Tr.val (wn rfl) rfl (fun _ _ h1 h2 => run_assign (h1.ev rfl)) ?_
  refine Tr.nilOwn 1 3 fl_i64 ?_
  show Tr _ _ (uf _ 6 (.slice none (([] : List Int)).length 0)) _ _
  refine Tr.nil (Tr.normThen ?_)
  refine Tr.seq ?_
  refine Tr.region ?_
  refine Tr.val (wn rfl) rfl (fun _ _ h1 h2 => run_assign (h1.ev rfl)) ?_
  refine Tr.nilOwn 2 3 fl_i64 ?_
  show Tr _ _ (uf _ 7 (.slice none (([] : List Int)).length 0)) _ _
  refine Tr.nil (Tr.normThen ?_)
  refine Tr.seq ?_
  refine Tr.region ?_
  refine Tr.val (wn rfl) rfl (fun _ _ h1 h2 => run_assign (h1.ev rfl)) ?_
  refine Tr.val (wn rfl) rfl (fun _ _ h1 h2 => run_assign (h1.ev rfl)) ?_
  refine Tr.val (wn rfl) rfl (fun _ _ h1 h2 => run_assign (h1.ev rfl)) ?_
  refine Tr.nil (Tr.normThen ?_)
  refine Tr.seq ?_
  refine Tr.block ?_
  refine Tr.loop (σ := (List Int) × (List Int) × (List Int) × Bool × Bool × Bool × (Option Addr) × Nat × (Option Addr) × Nat × (Option Addr) × Nat) (fun m w s => F_shape_line_L7 p2 m s.1 s.2.1 s.2.2.1 s.2.2.2.1 s.2.2.2.2.1 s.2.2.2.2.2.1 = some r ∧ Sl w.R w.W fl_i64 s.2.2.2.2.2.2.1 s.2.2.2.2.2.2.2.1 s.1 ∧ Sl w.R w.W fl_i64 s.2.2.2.2.2.2.2.2.1 s.2.2.2.2.2.2.2.2.2.1 s.2.1 ∧ SlF s.2.2.2.2.2.2.2.2.2.2.1 (s.2.2.1).length s.2.2.2.2.2.2.2.2.2.2.2) (fun s => [(0, (.slice s.2.2.2.2.2.2.1 (s.1).length s.2.2.2.2.2.2.2.1)), (1, (.slice s.2.2.2.2.2.2.2.2.1 (s.2.1).length s.2.2.2.2.2.2.2.2.2.1)), (2, (.func (.func fid2) #[] cap2.toArray)), (7, (.slice s.2.2.2.2.2.2.2.2.2.2.1 (s.2.2.1).length s.2.2.2.2.2.2.2.2.2.2.2)), (8, (.bool s.2.2.2.1)), (9, (.bool s.2.2.2.2.1)), (10, (.bool s.2.2.2.2.2.1))]) (fun s => [(2, ow s.2.2.2.2.2.2.2.2.2.2.1 s.2.2.2.2.2.2.2.2.2.2.2 3 fl_i64 s.2.2.1)]) N (p0, p1, ([] : List Int), false, false, false, Ap0_0, cp0_0, Ap1_0, cp1_0, none, 0) ⟨H, hp0_0, hp1_0, slf_nil⟩ (.cons rfl (.cons rfl (.cons rfl (.cons rfl (.cons rfl (.cons rfl (.cons rfl .nil))))))) (.cons rfl .nil) (fun _ _ h => noSome (h.1)) ?_
  intro w leF_shape_line_L7 mF_shape_line_L7 s hs
  obtain ⟨l230, l231, l232, x233, x234, x235, Al230, cl230, Al231, cl231, Al232, cl232⟩ := s
  obtain ⟨H, hl230, hl231, hl232⟩ := hs
  replace H : F_shape_line_L7 p2 (mF_shape_line_L7 + 1) l230 l231 l232 x233 x234 x235 = some r := H
  replace hf2 := fun w' he => hf2 w' (leF_shape_line_L7.ext.trans he)
  replace leB := leB.trans leF_shape_line_L7
  replace hl230 : Sl w.R w.W fl_i64 Al230 cl230 l230 := hl230
  replace hl231 : Sl w.R w.W fl_i64 Al231 cl231 l231 := hl231
  replace hl232 : SlF Al232 (l232).length cl232 := hl232
  rw [F_shape_line_L7.eq_2] at H
  show Tr _ _ (LF [(0, (.slice Al230 (l230).length cl230)), (1, (.slice Al231 (l231).length cl231)), (2, (.func (.func fid2) #[] cap2.toArray)), (7, (.slice Al232 (l232).length cl232)), (8, (.bool x233)), (9, (.bool x234)), (10, (.bool x235))]) (LE [(2, ow Al232 cl232 3 fl_i64 l232)]) _
  refine Tr.seq ?_
  refine Tr.seq ?_
  refine Tr.region ?_
  refine Tr.val (wn rfl) rfl (fun _ _ h1 h2 => run_move (h1.ev rfl)) ?_
  refine Tr.val (wn rfl) rfl (fun _ _ h1 h2 => run_len un_89 (h1.ev rfl)) ?_
  refine Tr.val (wn rfl) rfl (fun _ _ h1 h2 => run_gtr (h1.ev rfl) (h1.ev rfl)) ?_
  refine Tr.val (wn rfl) rfl (fun _ _ h1 h2 => run_move (h1.ev rfl)) ?_
  refine Tr.mid0 4 [(0, (.slice Al230 (l230).length cl230)), (1, (.slice Al231 (l231).length cl231)), (2, (.func (.func fid2) #[] cap2.toArray)), (7, (.slice Al232 (l232).length cl232)), (8, (.bool x233)), (9, (.bool x234)), (10, (.bool x235)), (20, (.bool ((decide (0 < (l230.length : Int))) || (decide (0 < (l231.length : Int))))))] [(2, ow Al232 cl232 3 fl_i64 l232)] ?_ ?_
  · cases hg291 : (decide (0 < (l230.length : Int)))
    · refine Tr.val (wg rfl rfl rfl) rfl (fun _ _ h1 h2 => run_move (h1.ev rfl)) ?_
      refine Tr.val (wg rfl rfl rfl) rfl (fun _ _ h1 h2 => run_len un_89 (h1.ev rfl)) ?_
      refine Tr.val (wg rfl rfl rfl) rfl (fun _ _ h1 h2 => run_gtr (h1.ev rfl) (h1.ev rfl)) ?_
      refine Tr.val (wn rfl) rfl (fun _ _ h1 h2 => run_pickF (h1.ev rfl) (h1.ev rfl)) ?_
      exact Tr.nil (Tr.fin0 (.cons rfl (.cons rfl (.cons rfl (.cons rfl (.cons rfl (.cons rfl (.cons rfl (.cons rfl .nil)))))))) (.cons rfl .nil))
    · refine Tr.pass rfl rfl rfl rfl rfl (by decide) ?_
      refine Tr.pass rfl rfl rfl rfl rfl (by decide) ?_
      refine Tr.pass rfl rfl rfl rfl rfl (by decide) ?_
      refine Tr.val (wn rfl) rfl (fun _ _ h1 h2 => run_pickT (h1.ev rfl) (h1.ev rfl)) ?_
      exact Tr.nil (Tr.fin0 (.cons rfl (.cons rfl (.cons rfl (.cons rfl (.cons rfl (.cons rfl (.cons rfl (.cons rfl .nil)))))))) (.cons rfl .nil))
  · show Tr _ _ (LF [(0, (.slice Al230 (l230).length cl230)), (1, (.slice Al231 (l231).length cl231)), (2, (.func (.func fid2) #[] cap2.toArray)), (7, (.slice Al232 (l232).length cl232)), (8, (.bool x233)), (9, (.bool x234)), (10, (.bool x235)), (20, (.bool ((decide (0 < (l230.length : Int))) || (decide (0 < (l231.length : Int))))))]) (LE [(2, ow Al232 cl232 3 fl_i64 l232)]) _
    refine Tr.nil (Tr.normThen ?_)
    refine Tr.cond rfl H (fun H => ?_) (fun H => ?_)
    · refine Tr.skip (Tr.normThen ?_)
      refine Tr.block ?_
      refine Tr.seq ?_
      refine Tr.region ?_
      refine Tr.val (wn rfl) rfl (fun _ _ h1 h2 => run_assign (h1.ev rfl)) ?_
      refine Tr.nil (Tr.normThen ?_)
      have leJ250 := Bs.Le.refl w
      refine Tr.cutJ (σ := Int) (fun w s => F_shape_line_J10 p2 l230 l231 l232 x233 x234 x235 (F_shape_line_L7 p2 mF_shape_line_L7) s = some r) (fun s => [(0, (.slice Al230 (l230).length cl230)), (1, (.slice Al231 (l231).length cl231)), (2, (.func (.func fid2) #[] cap2.toArray)), (7, (.slice Al232 (l232).length cl232)), (8, (.bool x233)), (9, (.bool x234)), (10, (.bool x235)), (11, (.int .i64 s))]) (fun s => [(2, ow Al232 cl232 3 fl_i64 l232)]) ?_ ?_
      · refine Tr.seq ?_
        refine Tr.draw (by kernel_rfl) (by kernel_rfl) ?_
        refine Tq.val (wn rfl) rfl (fun _ _ h1 h2 => run_move (h1.ev rfl)) ?_
        refine Tq.val (wn rfl) rfl (fun _ _ h1 h2 => run_len un_89 (h1.ev rfl)) ?_
        refine Tq.val (wn rfl) rfl (fun _ _ h1 h2 => run_eql (h1.ev rfl) (h1.ev rfl)) ?_
        refine Tq.val (wn rfl) rfl (fun _ _ h1 h2 => run_move (h1.ev rfl)) ?_
        obtain ⟨g284, hg284, H⟩ := bnd H
        refine Tq.mid 13 [(0, (.slice Al230 (l230).length cl230)), (1, (.slice Al231 (l231).length cl231)), (2, (.func (.func fid2) #[] cap2.toArray)), (7, (.slice Al232 (l232).length cl232)), (8, (.bool x233)), (9, (.bool x234)), (10, (.bool x235)), (37, (.bool g284))] ?_ ?_
        · cases hg291 : ((l231.length : Int) == 0)
          · rw [hg291] at hg284
            rw [if_neg (by decide)] at hg284
            have H := hg284
            refine Tq.val (wg rfl rfl rfl) rfl (fun _ _ h1 h2 => run_move (h1.ev rfl)) ?_
            refine Tq.val (wg rfl rfl rfl) rfl (fun _ _ h1 h2 => run_len un_89 (h1.ev rfl)) ?_
            refine Tq.val (wg rfl rfl rfl) rfl (fun _ _ h1 h2 => run_gtr (h1.ev rfl) (h1.ev rfl)) ?_
            refine Tq.val (wg rfl rfl rfl) rfl (fun _ _ h1 h2 => run_move (h1.ev rfl)) ?_
            obtain ⟨g287, hg287, H⟩ := bnd H
            refine Tq.mid 8 [(0, (.slice Al230 (l230).length cl230)), (1, (.slice Al231 (l231).length cl231)), (2, (.func (.func fid2) #[] cap2.toArray)), (7, (.slice Al232 (l232).length cl232)), (8, (.bool x233)), (9, (.bool x234)), (10, (.bool x235)), (24, (.bool false)), (36, (.bool g287))] ?_ ?_
            · cases hg289 : (decide (0 < (l230.length : Int)))
              · rw [hg289] at hg287
                rw [if_neg (by decide)] at hg287
                have H := hg287
                obtain rfl := Option.some.inj H
                refine Tq.pass rfl rfl rfl rfl rfl (by decide) ?_
                refine Tq.pass rfl rfl rfl rfl rfl (by decide) ?_
                refine Tq.pass rfl rfl rfl rfl rfl (by decide) ?_
                refine Tq.pass rfl rfl rfl rfl rfl (by decide) ?_
                refine Tq.pass rfl rfl rfl rfl rfl (by decide) ?_
                refine Tq.pass rfl rfl rfl rfl rfl (by decide) ?_
                refine Tq.pass rfl rfl rfl rfl rfl (by decide) ?_
                refine Tq.val (wg rfl rfl rfl) rfl (fun _ _ h1 h2 => run_pickF (h1.ev rfl) (h1.ev rfl)) ?_
                exact Tq.fin (.cons rfl (.cons rfl (.cons rfl (.cons rfl (.cons rfl (.cons rfl (.cons rfl (.cons rfl (.cons rfl .nil)))))))))
              · rw [hg289] at hg287
                rw [if_pos rfl] at hg287
                have H := hg287
                refine Tq.val (wg rfl rfl rfl) rfl (fun _ _ h1 h2 => run_move (h1.ev rfl)) ?_
                obtain ⟨x288, hx288, H⟩ := bnd H
                obtain ⟨hx2880, hx2881, hx2882⟩ := idx_some hx288
                refine Tq.val (wg rfl rfl rfl) rfl (fun _ _ h1 h2 => run_indexAddr el_89 (h1.ev rfl) hl230.form (h1.ev rfl) hx2880 hx2881) ?_
                refine Tq.val (wg rfl rfl rfl) rfl (fun _ _ h1 h2 => run_load1 ag_3 (h1.ev rfl) (rdF ef_i64 hl230 hx2882 h2) rfl) ?_
                refine Tq.val (wg rfl rfl rfl) rfl (fun _ _ h1 h2 => run_move (h1.ev rfl)) ?_
                obtain ⟨x289, hx289, H⟩ := bnd H
                obtain ⟨hx2890, hx2891, hx2892⟩ := idx_some hx289
                refine Tq.val (wg rfl rfl rfl) rfl (fun _ _ h1 h2 => run_indexAddr el_89 (h1.ev rfl) hl231.form (h1.ev rfl) hx2890 hx2891) ?_
                refine Tq.val (wg rfl rfl rfl) rfl (fun _ _ h1 h2 => run_load1 ag_3 (h1.ev rfl) (rdF ef_i64 hl231 hx2892 h2) rfl) ?_
                refine Tq.val (wg rfl rfl rfl) rfl (fun _ _ h1 h2 => run_leq (h1.ev rfl) (h1.ev rfl)) ?_
                refine Tq.val (wg rfl rfl rfl) rfl (fun _ _ h1 h2 => run_pickT (h1.ev rfl) (h1.ev rfl)) ?_
                obtain rfl := Option.some.inj H
                exact Tq.fin (.cons rfl (.cons rfl (.cons rfl (.cons rfl (.cons rfl (.cons rfl (.cons rfl (.cons rfl (.cons rfl .nil)))))))))
            · refine Tq.val (wn rfl) rfl (fun _ _ h1 h2 => run_pickF (h1.ev rfl) (h1.ev rfl)) ?_
              obtain rfl := Option.some.inj H
              exact Tq.fin (.cons rfl (.cons rfl (.cons rfl (.cons rfl (.cons rfl (.cons rfl (.cons rfl (.cons rfl .nil))))))))
          · rw [hg291] at hg284
            rw [if_pos rfl] at hg284
            have H := hg284
            obtain rfl := Option.some.inj H
            refine Tq.pass rfl rfl rfl rfl rfl (by decide) ?_
            refine Tq.pass rfl rfl rfl rfl rfl (by decide) ?_
            refine Tq.pass rfl rfl rfl rfl rfl (by decide) ?_
            refine Tq.pass rfl rfl rfl rfl rfl (by decide) ?_
            refine Tq.passU rfl rfl rfl rfl (by decide) ?_
            refine Tq.passU rfl rfl rfl rfl (by decide) ?_
            refine Tq.passU rfl rfl rfl rfl (by decide) ?_
            refine Tq.passU rfl rfl rfl rfl (by decide) ?_
            refine Tq.passU rfl rfl rfl rfl (by decide) ?_
            refine Tq.passU rfl rfl rfl rfl (by decide) ?_
            refine Tq.passU rfl rfl rfl rfl (by decide) ?_
            refine Tq.pass rfl rfl rfl rfl rfl (by decide) ?_
            refine Tq.val (wn rfl) rfl (fun _ _ h1 h2 => run_pickT (h1.ev rfl) (h1.ev rfl)) ?_
            exact Tq.fin (.cons rfl (.cons rfl (.cons rfl (.cons rfl (.cons rfl (.cons rfl (.cons rfl (.cons rfl .nil))))))))
        · refine Tq.nil (Tr.normThen ?_)
          refine Tr.cond rfl H (fun H => ?_) (fun H => ?_)
          · refine Tr.region ?_
            refine Tr.val (wn rfl) rfl (fun _ _ h1 h2 => run_move (h1.ev rfl)) ?_
            obtain ⟨x290, hx290, H⟩ := bnd H
            obtain ⟨hx2900, hx2901, hx2902⟩ := idx_some hx290
            refine Tr.val (wn rfl) rfl (fun _ _ h1 h2 => run_indexAddr el_89 (h1.ev rfl) hl230.form (h1.ev rfl) hx2900 hx2901) ?_
            refine Tr.val (wn rfl) rfl (fun _ _ h1 h2 => run_load1 ag_3 (h1.ev rfl) (rdF ef_i64 hl230 hx2902 h2) rfl) ?_
            refine Tr.val (wn rfl) rfl (fun _ _ h1 h2 => run_assign (h1.ev rfl)) ?_
            refine Tr.nil ?_
            exact Tr.backThen leJ250 x290 H (.cons rfl (.cons rfl (.cons rfl (.cons rfl (.cons rfl (.cons rfl (.cons rfl (.cons rfl .nil)))))))) (.cons rfl .nil)
          · refine Tr.region ?_
            refine Tr.val (wn rfl) rfl (fun _ _ h1 h2 => run_move (h1.ev rfl)) ?_
            obtain ⟨x291, hx291, H⟩ := bnd H
            obtain ⟨hx2910, hx2911, hx2912⟩ := idx_some hx291
            refine Tr.val (wn rfl) rfl (fun _ _ h1 h2 => run_indexAddr el_89 (h1.ev rfl) hl231.form (h1.ev rfl) hx2910 hx2911) ?_
            refine Tr.val (wn rfl) rfl (fun _ _ h1 h2 => run_load1 ag_3 (h1.ev rfl) (rdF ef_i64 hl231 hx2912 h2) rfl) ?_
            refine Tr.val (wn rfl) rfl (fun _ _ h1 h2 => run_assign (h1.ev rfl)) ?_
            refine Tr.nil ?_
            exact Tr.backThen leJ250 x291 H (.cons rfl (.cons rfl (.cons rfl (.cons rfl (.cons rfl (.cons rfl (.cons rfl (.cons rfl .nil)))))))) (.cons rfl .nil)
      · intro w x249 hlJ251 hs
        have H := hs
        replace H : F_shape_line_J10 p2 l230 l231 l232 x233 x234 x235 (F_shape_line_L7 p2 mF_shape_line_L7) x249 = some r := H
        replace hl230 := hl230.leR hlJ251
        replace hl231 := hl231.leR hlJ251
        replace hf2 := fun w' he => hf2 w' (hlJ251.ext.trans he)
        replace leB := leB.trans hlJ251
        replace leF_shape_line_L7 := leF_shape_line_L7.trans hlJ251
        unfold F_shape_line_J10 at H
        show Tr _ _ (LF [(0, (.slice Al230 (l230).length cl230)), (1, (.slice Al231 (l231).length cl231)), (2, (.func (.func fid2) #[] cap2.toArray)), (7, (.slice Al232 (l232).length cl232)), (8, (.bool x233)), (9, (.bool x234)), (10, (.bool x235)), (11, (.int .i64 x249))]) (LE [(2, ow Al232 cl232 3 fl_i64 l232)]) _
        have leJ258 := Bs.Le.refl w
        refine Tr.cutJ (σ := (List Int) × Bool × (Option Addr) × Nat) (fun w s => F_shape_line_J9 p2 l231 l232 x234 x235 (F_shape_line_L7 p2 mF_shape_line_L7) x249 s.1 s.2.1 = some r ∧ Sl w.R w.W fl_i64 s.2.2.1 s.2.2.2 s.1) (fun s => [(0, (.slice s.2.2.1 (s.1).length s.2.2.2)), (1, (.slice Al231 (l231).length cl231)), (2, (.func (.func fid2) #[] cap2.toArray)), (7, (.slice Al232 (l232).length cl232)), (8, (.bool s.2.1)), (9, (.bool x234)), (10, (.bool x235)), (11, (.int .i64 x249))]) (fun s => [(2, ow Al232 cl232 3 fl_i64 l232)]) ?_ ?_
        · refine Tr.seq ?_
          refine Tr.region ?_
          refine Tr.val (wn rfl) rfl (fun _ _ h1 h2 => run_move (h1.ev rfl)) ?_
          refine Tr.val (wn rfl) rfl (fun _ _ h1 h2 => run_len un_89 (h1.ev rfl)) ?_
          refine Tr.val (wn rfl) rfl (fun _ _ h1 h2 => run_gtr (h1.ev rfl) (h1.ev rfl)) ?_
          refine Tr.val (wn rfl) rfl (fun _ _ h1 h2 => run_move (h1.ev rfl)) ?_
          obtain ⟨g276, hg276, H⟩ := bnd H
          refine Tr.mid0 6 [(0, (.slice Al230 (l230).length cl230)), (1, (.slice Al231 (l231).length cl231)), (2, (.func (.func fid2) #[] cap2.toArray)), (7, (.slice Al232 (l232).length cl232)), (8, (.bool x233)), (9, (.bool x234)), (10, (.bool x235)), (11, (.int .i64 x249)), (53, (.bool g276))] [(2, ow Al232 cl232 3 fl_i64 l232)] ?_ ?_
          · cases hg278 : (decide (0 < (l230.length : Int)))
            · rw [hg278] at hg276
              rw [if_neg (by decide)] at hg276
              have H := hg276
              obtain rfl := Option.some.inj H
              refine Tr.pass rfl rfl rfl rfl rfl (by decide) ?_
              refine Tr.pass rfl rfl rfl rfl rfl (by decide) ?_
              refine Tr.pass rfl rfl rfl rfl rfl (by decide) ?_
              refine Tr.pass rfl rfl rfl rfl rfl (by decide) ?_
              refine Tr.pass rfl rfl rfl rfl rfl (by decide) ?_
              refine Tr.val (wn rfl) rfl (fun _ _ h1 h2 => run_pickF (h1.ev rfl) (h1.ev rfl)) ?_
              exact Tr.nil (Tr.fin0 (.cons rfl (.cons rfl (.cons rfl (.cons rfl (.cons rfl (.cons rfl (.cons rfl (.cons rfl (.cons rfl .nil))))))))) (.cons rfl .nil))
            · rw [hg278] at hg276
              rw [if_pos rfl] at hg276
              have H := hg276
              refine Tr.val (wg rfl rfl rfl) rfl (fun _ _ h1 h2 => run_move (h1.ev rfl)) ?_
              obtain ⟨x277, hx277, H⟩ := bnd H
              obtain ⟨hx2770, hx2771, hx2772⟩ := idx_some hx277
              refine Tr.val (wg rfl rfl rfl) rfl (fun _ _ h1 h2 => run_indexAddr el_89 (h1.ev rfl) hl230.form (h1.ev rfl) hx2770 hx2771) ?_
              refine Tr.val (wg rfl rfl rfl) rfl (fun _ _ h1 h2 => run_load1 ag_3 (h1.ev rfl) (rdF ef_i64 hl230 hx2772 h2) rfl) ?_
              refine Tr.val (wg rfl rfl rfl) rfl (fun _ _ h1 h2 => run_move (h1.ev rfl)) ?_
              refine Tr.val (wg rfl rfl rfl) rfl (fun _ _ h1 h2 => run_eql (h1.ev rfl) (h1.ev rfl)) ?_
              refine Tr.val (wn rfl) rfl (fun _ _ h1 h2 => run_pickT (h1.ev rfl) (h1.ev rfl)) ?_
              obtain rfl := Option.some.inj H
              exact Tr.nil (Tr.fin0 (.cons rfl (.cons rfl (.cons rfl (.cons rfl (.cons rfl (.cons rfl (.cons rfl (.cons rfl (.cons rfl .nil))))))))) (.cons rfl .nil))
          · show Tr _ _ (LF [(0, (.slice Al230 (l230).length cl230)), (1, (.slice Al231 (l231).length cl231)), (2, (.func (.func fid2) #[] cap2.toArray)), (7, (.slice Al232 (l232).length cl232)), (8, (.bool x233)), (9, (.bool x234)), (10, (.bool x235)), (11, (.int .i64 x249)), (53, (.bool g276))]) (LE [(2, ow Al232 cl232 3 fl_i64 l232)]) _
            refine Tr.nil (Tr.normThen ?_)
            refine Tr.cond rfl H (fun H => ?_) (fun H => ?_)
            · refine Tr.region ?_
              refine Tr.val (wn rfl) rfl (fun _ _ h1 h2 => run_move (h1.ev rfl)) ?_
              obtain ⟨l278, hl278, H⟩ := bnd H
              refine Tr.val (wn rfl) rfl (fun _ _ h1 h2 => run_cutL el_89 (h1.ev rfl) hl230.form (h1.ev rfl) hl278) ?_
              refine Tr.val (wn rfl) rfl (fun _ _ h1 h2 => run_move (h1.ev rfl)) ?_
              refine Tr.val (wn rfl) rfl (fun _ _ h1 h2 => run_not (h1.ev rfl)) ?_
              refine Tr.val (wn rfl) rfl (fun _ _ h1 h2 => run_assign (h1.ev rfl)) ?_
              refine Tr.val (wn rfl) rfl (fun _ _ h1 h2 => run_assign (h1.ev rfl)) ?_
              refine Tr.nil ?_
              exact Tr.backThen leJ258 (l278, (!x233), (cutA Al230 (1 : Int).toNat 1 cl230), (cl230 - (1 : Int).toNat)) ⟨H, (Sl.cut hl230 hl278)⟩ (.cons rfl (.cons rfl (.cons rfl (.cons rfl (.cons rfl (.cons rfl (.cons rfl (.cons rfl .nil)))))))) (.cons rfl .nil)
            · refine Tr.skip ?_
              exact Tr.backThen leJ258 (l230, x233, Al230, cl230) ⟨H, hl230⟩ (.cons rfl (.cons rfl (.cons rfl (.cons rfl (.cons rfl (.cons rfl (.cons rfl (.cons rfl .nil)))))))) (.cons rfl .nil)
        · intro w s hlJ259 hs
          obtain ⟨l256, x257, Al256, cl256⟩ := s
          obtain ⟨H, hl256⟩ := hs
          replace H : F_shape_line_J9 p2 l231 l232 x234 x235 (F_shape_line_L7 p2 mF_shape_line_L7) x249 l256 x257 = some r := H
          replace hl231 := hl231.leR hlJ259
          replace hf2 := fun w' he => hf2 w' (hlJ259.ext.trans he)
          replace leB := leB.trans hlJ259
          replace leF_shape_line_L7 := leF_shape_line_L7.trans hlJ259
          replace hl256 : Sl w.R w.W fl_i64 Al256 cl256 l256 := hl256
          unfold F_shape_line_J9 at H
          show Tr _ _ (LF [(0, (.slice Al256 (l256).length cl256)), (1, (.slice Al231 (l231).length cl231)), (2, (.func (.func fid2) #[] cap2.toArray)), (7, (.slice Al232 (l232).length cl232)), (8, (.bool x257)), (9, (.bool x234)), (10, (.bool x235)), (11, (.int .i64 x249))]) (LE [(2, ow Al232 cl232 3 fl_i64 l232)]) _
          have leJ266 := Bs.Le.refl w
          refine Tr.cutJ (σ := (List Int) × Bool × (Option Addr) × Nat) (fun w s => F_shape_line_J8 p2 l232 x235 (F_shape_line_L7 p2 mF_shape_line_L7) x249 l256 x257 s.1 s.2.1 = some r ∧ Sl w.R w.W fl_i64 s.2.2.1 s.2.2.2 s.1) (fun s => [(0, (.slice Al256 (l256).length cl256)), (1, (.slice s.2.2.1 (s.1).length s.2.2.2)), (2, (.func (.func fid2) #[] cap2.toArray)), (7, (.slice Al232 (l232).length cl232)), (8, (.bool x257)), (9, (.bool s.2.1)), (10, (.bool x235)), (11, (.int .i64 x249))]) (fun s => [(2, ow Al232 cl232 3 fl_i64 l232)]) ?_ ?_
          · refine Tr.seq ?_
            refine Tr.region ?_
            refine Tr.val (wn rfl) rfl (fun _ _ h1 h2 => run_move (h1.ev rfl)) ?_
            refine Tr.val (wn rfl) rfl (fun _ _ h1 h2 => run_len un_89 (h1.ev rfl)) ?_
            refine Tr.val (wn rfl) rfl (fun _ _ h1 h2 => run_gtr (h1.ev rfl) (h1.ev rfl)) ?_
            refine Tr.val (wn rfl) rfl (fun _ _ h1 h2 => run_move (h1.ev rfl)) ?_
            obtain ⟨g272, hg272, H⟩ := bnd H
            refine Tr.mid0 6 [(0, (.slice Al256 (l256).length cl256)), (1, (.slice Al231 (l231).length cl231)), (2, (.func (.func fid2) #[] cap2.toArray)), (7, (.slice Al232 (l232).length cl232)), (8, (.bool x257)), (9, (.bool x234)), (10, (.bool x235)), (11, (.int .i64 x249)), (67, (.bool g272))] [(2, ow Al232 cl232 3 fl_i64 l232)] ?_ ?_
            · cases hg274 : (decide (0 < (l231.length : Int)))
              · rw [hg274] at hg272
                rw [if_neg (by decide)] at hg272
                have H := hg272
                obtain rfl := Option.some.inj H
                refine Tr.pass rfl rfl rfl rfl rfl (by decide) ?_
                refine Tr.pass rfl rfl rfl rfl rfl (by decide) ?_
                refine Tr.pass rfl rfl rfl rfl rfl (by decide) ?_
                refine Tr.pass rfl rfl rfl rfl rfl (by decide) ?_
                refine Tr.pass rfl rfl rfl rfl rfl (by decide) ?_
                refine Tr.val (wn rfl) rfl (fun _ _ h1 h2 => run_pickF (h1.ev rfl) (h1.ev rfl)) ?_
                exact Tr.nil (Tr.fin0 (.cons rfl (.cons rfl (.cons rfl (.cons rfl (.cons rfl (.cons rfl (.cons rfl (.cons rfl (.cons rfl .nil))))))))) (.cons rfl .nil))
              · rw [hg274] at hg272
                rw [if_pos rfl] at hg272
                have H := hg272
                refine Tr.val (wg rfl rfl rfl) rfl (fun _ _ h1 h2 => run_move (h1.ev rfl)) ?_
                obtain ⟨x273, hx273, H⟩ := bnd H
                obtain ⟨hx2730, hx2731, hx2732⟩ := idx_some hx273
                refine Tr.val (wg rfl rfl rfl) rfl (fun _ _ h1 h2 => run_indexAddr el_89 (h1.ev rfl) hl231.form (h1.ev rfl) hx2730 hx2731) ?_
                refine Tr.val (wg rfl rfl rfl) rfl (fun _ _ h1 h2 => run_load1 ag_3 (h1.ev rfl) (rdF ef_i64 hl231 hx2732 h2) rfl) ?_
                refine Tr.val (wg rfl rfl rfl) rfl (fun _ _ h1 h2 => run_move (h1.ev rfl)) ?_
                refine Tr.val (wg rfl rfl rfl) rfl (fun _ _ h1 h2 => run_eql (h1.ev rfl) (h1.ev rfl)) ?_
                refine Tr.val (wn rfl) rfl (fun _ _ h1 h2 => run_pickT (h1.ev rfl) (h1.ev rfl)) ?_
                obtain rfl := Option.some.inj H
                exact Tr.nil (Tr.fin0 (.cons rfl (.cons rfl (.cons rfl (.cons rfl (.cons rfl (.cons rfl (.cons rfl (.cons rfl (.cons rfl .nil))))))))) (.cons rfl .nil))
            · show Tr _ _ (LF [(0, (.slice Al256 (l256).length cl256)), (1, (.slice Al231 (l231).length cl231)), (2, (.func (.func fid2) #[] cap2.toArray)), (7, (.slice Al232 (l232).length cl232)), (8, (.bool x257)), (9, (.bool x234)), (10, (.bool x235)), (11, (.int .i64 x249)), (67, (.bool g272))]) (LE [(2, ow Al232 cl232 3 fl_i64 l232)]) _
              refine Tr.nil (Tr.normThen ?_)
              refine Tr.cond rfl H (fun H => ?_) (fun H => ?_)
              · refine Tr.region ?_
                refine Tr.val (wn rfl) rfl (fun _ _ h1 h2 => run_move (h1.ev rfl)) ?_
                obtain ⟨l274, hl274, H⟩ := bnd H
                refine Tr.val (wn rfl) rfl (fun _ _ h1 h2 => run_cutL el_89 (h1.ev rfl) hl231.form (h1.ev rfl) hl274) ?_
                refine Tr.val (wn rfl) rfl (fun _ _ h1 h2 => run_move (h1.ev rfl)) ?_
                refine Tr.val (wn rfl) rfl (fun _ _ h1 h2 => run_not (h1.ev rfl)) ?_
                refine Tr.val (wn rfl) rfl (fun _ _ h1 h2 => run_assign (h1.ev rfl)) ?_
                refine Tr.val (wn rfl) rfl (fun _ _ h1 h2 => run_assign (h1.ev rfl)) ?_
                refine Tr.nil ?_
                exact Tr.backThen leJ266 (l274, (!x234), (cutA Al231 (1 : Int).toNat 1 cl231), (cl231 - (1 : Int).toNat)) ⟨H, (Sl.cut hl231 hl274)⟩ (.cons rfl (.cons rfl (.cons rfl (.cons rfl (.cons rfl (.cons rfl (.cons rfl (.cons rfl .nil)))))))) (.cons rfl .nil)
              · refine Tr.skip ?_
                exact Tr.backThen leJ266 (l231, x234, Al231, cl231) ⟨H, hl231⟩ (.cons rfl (.cons rfl (.cons rfl (.cons rfl (.cons rfl (.cons rfl (.cons rfl (.cons rfl .nil)))))))) (.cons rfl .nil)
          · intro w s hlJ267 hs
            obtain ⟨l264, x265, Al264, cl264⟩ := s
            obtain ⟨H, hl264⟩ := hs
            replace H : F_shape_line_J8 p2 l232 x235 (F_shape_line_L7 p2 mF_shape_line_L7) x249 l256 x257 l264 x265 = some r := H
            replace hl256 := hl256.leR hlJ267
            replace hf2 := fun w' he => hf2 w' (hlJ267.ext.trans he)
            replace leB := leB.trans hlJ267
            replace leF_shape_line_L7 := leF_shape_line_L7.trans hlJ267
            replace hl264 : Sl w.R w.W fl_i64 Al264 cl264 l264 := hl264
            unfold F_shape_line_J8 at H
            show Tr _ _ (LF [(0, (.slice Al256 (l256).length cl256)), (1, (.slice Al264 (l264).length cl264)), (2, (.func (.func fid2) #[] cap2.toArray)), (7, (.slice Al232 (l232).length cl232)), (8, (.bool x257)), (9, (.bool x265)), (10, (.bool x235)), (11, (.int .i64 x249))]) (LE [(2, ow Al232 cl232 3 fl_i64 l232)]) _
            refine Tr.seq ?_
            refine Tr.region ?_
            refine Tr.val (wn rfl) rfl (fun _ _ h1 h2 => run_move (h1.ev rfl)) ?_
            refine Tr.val (wn rfl) rfl (fun _ _ h1 h2 => run_move (h1.ev rfl)) ?_
            refine Tr.val (wn rfl) rfl (fun _ _ h1 h2 => run_move (h1.ev rfl)) ?_
            obtain ⟨y268, hy268, H⟩ := bnd H
            refine Tr.callF (r := (.bool y268)) (wn rfl) rfl rfl hg2 (evl_cons rfl (evl_cons rfl evl_nil)) (fun W hW => hf2 hW.all hW.extAll x257 x265 _ hy268) ?_
            refine Tr.val (wn rfl) rfl (fun _ _ h1 h2 => run_assign (h1.ev rfl)) ?_
            refine Tr.nil (Tr.normThen ?_)
            refine Tr.seq ?_
            refine Tr.region ?_
            refine Tr.val (wn rfl) rfl (fun _ _ h1 h2 => run_move (h1.ev rfl)) ?_
            refine Tr.val (wn rfl) rfl (fun _ _ h1 h2 => run_move (h1.ev rfl)) ?_
            refine Tr.val (wn rfl) rfl (fun _ _ h1 h2 => run_neqB un_4 (h1.ev rfl) (h1.ev rfl)) ?_
            refine Tr.nil (Tr.normThen ?_)
            refine Tr.cond rfl H (fun H => ?_) (fun H => ?_)
            · refine Tr.region ?_
              refine Tr.val (wn rfl) rfl (fun _ _ h1 h2 => run_move (h1.ev rfl)) ?_
              refine Tr.val (wn rfl) rfl (fun _ _ h1 h2 => run_move (h1.ev rfl)) ?_
              refine Tr.buildSlice 5 (e := 3) (vs := [(0, (.int .i64 x249))]) (cs := [(.int .i64 x249)]) (wn rfl) rfl (evs_cons rfl evs_nil) (by kernel_rfl) fun b269 => ?_
              obtain ⟨l270, hl270, H⟩ := bnd H
              refine Tr.append 2 (t := fl_i64) (l := l232) (l2 := [x249]) (wn rfl) rfl rfl rfl rfl (fun W hW => ⟨[[(.int .i64 x249)]], (.cons ⟨(), trivial, rfl⟩ .nil), rdb hW (vs := [(.int .i64 x249)]) (k := 5) rfl 0⟩) un_89 sz_3 zl_3 (by decide) by_3 rfl hl270 fun Al270 cl270 hAl270 => ?_
              refine Tr.val (wn rfl) rfl (fun _ _ h1 h2 => run_move (h1.ev rfl)) ?_
              refine Tr.val (wn rfl) rfl (fun _ _ h1 h2 => run_assign (h1.ev rfl)) ?_
              refine Tr.val (wn rfl) rfl (fun _ _ h1 h2 => run_assign (h1.ev rfl)) ?_
              refine Tr.nil (Tr.normBlock ?_)
              exact Tr.backThen leF_shape_line_L7 (l256, l264, l270, x257, x265, y268, Al256, cl256, Al264, cl264, Al270, cl270) ⟨H, hl256, hl264, hAl270⟩ (.cons rfl (.cons rfl (.cons rfl (.cons rfl (.cons rfl (.cons rfl (.cons rfl .nil))))))) (.cons rfl .nil)
            · refine Tr.skip (Tr.normBlock ?_)
              exact Tr.backThen leF_shape_line_L7 (l256, l264, l232, x257, x265, x235, Al256, cl256, Al264, cl264, Al232, cl232) ⟨H, hl256, hl264, hl232⟩ (.cons rfl (.cons rfl (.cons rfl (.cons rfl (.cons rfl (.cons rfl (.cons rfl .nil))))))) (.cons rfl .nil)
    · refine Tr.exit (Tr.exitThen (Tr.exitThen (Tr.exitBlock (Tr.normThen ?_))))
      refine Tr.seq ?_
      refine Tr.region ?_
      refine Tr.val (wn rfl) rfl (fun _ _ h1 h2 => run_move (h1.ev rfl)) ?_
      refine Tr.val (wn rfl) rfl (fun _ _ h1 h2 => run_assign (h1.ev rfl)) ?_
      refine Tr.nil (Tr.normThen ?_)
      refine Tr.ret ?_
      obtain rfl := Option.some.inj H
      exact Tr.out (m := [(.slice Al232 (l232).length cl232)]) [] (res_tmp rfl res_nil) (fun W hW => ⟨(Al232, cl232), rfl, hl232, HF.lowE leB (hW.pick (ks := [2]) (by decide) (pk_cons rfl pk_nil)) ⟨ow_any _ _ _ _ tr_i64, trivial⟩⟩)

theorem F_shape_Merge_ok (N : Nat) {w : Bs} (p0 : (List TBand)) (Ap0_0 : Option Addr) (cp0_0 : Nat) (hp0_0 : Sl w.O w.W fl_TBand Ap0_0 cp0_0 p0) (p1 : (List TBand)) (Ap1_0 : Option Addr) (cp1_0 : Nat) (hp1_0 : Sl w.O w.W fl_TBand Ap1_0 cp1_0 p1) (p2 : Bool → Bool → Option Bool) (fid2 : Nat) (cap2 : List Value) (hg2 : ∀ args W, (callFunc fid2 args).run Try.prog W = .ok (.enter fid2 args) W) (hf2 : ∀ (w' : Bs), w.Ext w' → ∀ (z0 : Bool) (z1 : Bool), ∀ y, p2 z0 z1 = some y → Calls Try.prog fid2 (([(.bool z0), (.bool z1)] : List Value) ++ cap2).toArray w'.W fun e W'' => e = .returned (.bool y) ∧ HF w' W'' E0) (r : (List TBand)) (H : F_shape_Merge N p0 p1 p2 = some r) (hE : HF w w.W (LEn [emp])) : Calls Try.prog 107 [(.slice Ap0_0 (p0).length cp0_0), (.slice Ap1_0 (p1).length cp1_0), (.func (.func fid2) #[] cap2.toArray)].toArray w.W fun e W' => ∃ (w' : Bs) (u : (Option Addr × Nat)), w.Le w' ∧ e = .returned (.slice u.1 (r).length u.2) ∧ (SlF u.1 (r).length u.2) ∧ HF w' W' (LEn [ow u.1 u.2 96 fl_TBand r]) := by
  unfold F_shape_Merge at H
  have leB := Bs.Le.refl w
  refine Tr.enter (n := 126) Try.func107 rfl rfl rfl hE ?_
  refine Tr.seq ?_
  refine Tr.region ?_
  refine Tr.val (wn rfl) rfl (fun _ _ h1 h2 => run_assign (h1.ev rfl)) ?_
  refine Tr.nilOwn 1 96 fl_TBand ?_
  show Tr _ _ (uf _ 6 (.slice none (([] : List TBand)).length 0)) _ _
  refine Tr.nil (Tr.normThen ?_)
  refine Tr.seq ?_
  refine Tr.region ?_
  refine Tr.val (wn rfl) rfl (fun _ _ h1 h2 => run_assign (h1.ev rfl)) ?_
  refine Tr.nilOwn 2 96 fl_TBand ?_
  show Tr _ _ (uf _ 7 (.slice none (([] : List TBand)).length 0)) _ _
  refine Tr.nil (Tr.normThen ?_)
  refine Tr.seq ?_
  refine Tr.seq ?_
  refine Tr.region ?_
  refine Tr.val (wn rfl) rfl (fun _ _ h1 h2 => run_move (h1.ev rfl)) ?_
  refine Tr.val (wn rfl) rfl (fun _ _ h1 h2 => run_len un_66 (h1.ev rfl)) ?_
  refine Tr.val (wn rfl) rfl (fun _ _ h1 h2 => run_move (h1.ev rfl)) ?_
  refine Tr.val (wn rfl) rfl (fun _ _ h1 h2 => run_len un_66 (h1.ev rfl)) ?_
  refine Tr.val (wn rfl) rfl (fun _ _ h1 h2 => run_add (h1.ev rfl) (h1.ev rfl)) ?_
  refine Tr.val (wn rfl) rfl (fun _ _ h1 h2 => run_eql (h1.ev rfl) (h1.ev rfl)) ?_
  refine Tr.nil (Tr.normThen ?_)
  refine Tr.cond rfl H (fun H => ?_) (fun H => ?_)
  · refine Tr.seq ?_
    refine Tr.region ?_
    refine Tr.val (wn rfl) rfl (fun _ _ h1 h2 => run_assign (h1.ev rfl)) ?_
    refine Tr.nilOwn 3 96 fl_TBand ?_
    show Tr _ _ (uf _ 6 (.slice none (([] : List TBand)).length 0)) _ _
    refine Tr.nil (Tr.normThen ?_)
    refine Tr.ret (Tr.retThen ?_)
    obtain rfl := Option.some.inj H
    exact Tr.out (m := [(.slice none (([] : List TBand)).length 0)]) [] (res_tmp rfl res_nil) (fun W hW => ⟨w, (none, 0), leB, rfl, slf_nil, hW.pick (ks := [3]) (by decide) (pk_cons rfl pk_nil)⟩)
  · refine Tr.skip (Tr.normThen ?_)
    refine Tr.seq ?_
    refine Tr.region ?_
    refine Tr.val (wn rfl) rfl (fun _ _ h1 h2 => run_assign (h1.ev rfl)) ?_
    refine Tr.val (wn rfl) rfl (fun _ _ h1 h2 => run_assign (h1.ev rfl)) ?_
    refine Tr.nil (Tr.normThen ?_)
    refine Tr.seq ?_
    refine Tr.seq ?_
    refine Tr.region ?_
    refine Tr.val (wn rfl) rfl (fun _ _ h1 h2 => run_move (h1.ev rfl)) ?_
    refine Tr.val (wn rfl) rfl (fun _ _ h1 h2 => run_move (h1.ev rfl)) ?_
    refine Tr.buildSlice 4 (e := 66) (vs := [(0, (.slice Ap0_0 (p0).length cp0_0)), (1, (.slice Ap1_0 (p1).length cp1_0))]) (cs := [(.slice Ap0_0 (p0).length cp0_0), (.slice Ap1_0 (p1).length cp1_0)]) (wn rfl) rfl (evs_cons rfl (evs_cons rfl evs_nil)) (by kernel_rfl) fun b100 => ?_
    refine Tr.val (wn rfl) rfl (fun _ _ h1 h2 => run_len un_126 (h1.ev rfl)) ?_
    refine Tr.val (wn rfl) rfl (fun _ _ h1 h2 => run_move (h1.ev rfl)) ?_
    refine Tr.nil (Tr.normThen ?_)
    refine Tr.block ?_
    refine Tr.own 4 fl_LTBand [p0, p1] (css := [[(.slice Ap0_0 (p0).length cp0_0)], [(.slice Ap1_0 (p1).length cp1_0)]]) rfl (.cons ⟨(Ap0_0, cp0_0), hp0_0, rfl⟩ (.cons ⟨(Ap1_0, cp1_0), hp1_0, rfl⟩ .nil)) rfl (by decide) (lit_max rfl) ?_
    refine Tr.ren 4 9 rfl rfl rfl ?_
    refine Tr.loop (σ := Int × Int × (List (List TBand)) × Int × (Option Addr) × Nat) (fun m w s => F_shape_Merge_L3 N p0 p1 p2 m s.1 s.2.1 s.2.2.1 s.2.2.2.1 = some r ∧ SlF s.2.2.2.2.1 (s.2.2.1).length s.2.2.2.2.2) (fun s => [(0, (.slice Ap0_0 (p0).length cp0_0)), (1, (.slice Ap1_0 (p1).length cp1_0)), (2, (.func (.func fid2) #[] cap2.toArray)), (7, (.slice none (([] : List TBand)).length 0)), (8, (.int .i64 s.1)), (9, (.int .i64 s.2.1)), (25, (.slice s.2.2.2.2.1 (s.2.2.1).length s.2.2.2.2.2)), (26, (.int .i64 2)), (27, (.int .i64 s.2.2.2.1))]) (fun s => [(2, ow none 0 96 fl_TBand ([] : List TBand)), (9, ow s.2.2.2.2.1 s.2.2.2.2.2 66 fl_LTBand s.2.2.1)]) N (0, 0, [p0, p1], 0, (some ⟨b100, 0, none⟩), 2) ⟨H, (lit_form b100 rfl)⟩ (.cons rfl (.cons rfl (.cons rfl (.cons rfl (.cons rfl (.cons rfl (.cons rfl (.cons rfl (.cons rfl .nil))))))))) (.cons rfl (.cons rfl .nil)) (fun _ _ h => noSome (h.1)) ?_
    intro w leF_shape_Merge_L3 mF_shape_Merge_L3 s hs
    obtain ⟨x150, x151, l152, x153, Al152, cl152⟩ := s
    obtain ⟨H, hl152⟩ := hs
    replace H : F_shape_Merge_L3 N p0 p1 p2 (mF_shape_Merge_L3 + 1) x150 x151 l152 x153 = some r := H
    replace hp0_0 := hp0_0.le leF_shape_Merge_L3
    replace hp1_0 := hp1_0.le leF_shape_Merge_L3
    replace hf2 := fun w' he => hf2 w' (leF_shape_Merge_L3.ext.trans he)
    replace leB := leB.trans leF_shape_Merge_L3
    replace hl152 : SlF Al152 (l152).length cl152 := hl152
    rw [F_shape_Merge_L3.eq_2] at H
    show Tr _ _ (LF [(0, (.slice Ap0_0 (p0).length cp0_0)), (1, (.slice Ap1_0 (p1).length cp1_0)), (2, (.func (.func fid2) #[] cap2.toArray)), (7, (.slice none (([] : List TBand)).length 0)), (8, (.int .i64 x150)), (9, (.int .i64 x151)), (25, (.slice Al152 (l152).length cl152)), (26, (.int .i64 2)), (27, (.int .i64 x153))]) (LE [(2, ow none 0 96 fl_TBand ([] : List TBand)), (9, ow Al152 cl152 66 fl_LTBand l152)]) _
    refine Tr.seq ?_
    refine Tr.region ?_
    refine Tr.val (wn rfl) rfl (fun _ _ h1 h2 => run_lss (h1.ev rfl) (h1.ev rfl)) ?_
    refine Tr.nil (Tr.normThen ?_)
    refine Tr.seq ?_
    refine Tr.cond rfl H (fun H => ?_) (fun H => ?_)
    · refine Tr.skip (Tr.normThen ?_)
      refine Tr.seq ?_
      refine Tr.block ?_
      refine Tr.seq ?_
      refine Tr.region ?_
      refine Tr.val (wn rfl) rfl (fun _ _ h1 h2 => run_move (h1.ev rfl)) ?_
      obtain ⟨x154, hx154, H⟩ := bnd H
      obtain ⟨hx1540, hx1541, hx1542⟩ := idx_some hx154
      refine Tr.val (wn rfl) rfl (fun _ _ h1 h2 => run_indexAddr el_126 (h1.ev rfl) hl152 (h1.ev rfl) hx1540 hx1541) ?_
      refine Tr.valE (U := (fl_LTBand).Ad) (fun u => (fl_LTBand).ok w.O w.W u x154) (fun u => (.slice u.1 (x154).length u.2)) (wn rfl) rfl (ldN (κ := 9) (t := fl_LTBand) (V := fun u => (.slice u.1 (x154).length u.2)) rfl hx1542 (fun _ _ u h1 hc => run_load1 ag_66 (h1.ev rfl) hc rfl)) ?_
      intro u155 hoku155
      obtain ⟨Au155_0, cu155_0⟩ := u155
      have hoku155_0 := hoku155
      replace hoku155_0 : Sl w.O w.W fl_TBand Au155_0 cu155_0 x154 := hoku155_0
      show Tr _ _ (uf _ 31 (.slice Au155_0 (x154).length cu155_0)) _ _
      refine Tr.val (wn rfl) rfl (fun _ _ h1 h2 => run_assign (h1.ev rfl)) ?_
      refine Tr.val (wn rfl) rfl (fun _ _ h1 h2 => run_assign (h1.ev rfl)) ?_
      refine Tr.nil (Tr.normThen ?_)
      refine Tr.seq ?_
      refine Tr.region ?_
      refine Tr.val (wn rfl) rfl (fun _ _ h1 h2 => run_move (h1.ev rfl)) ?_
      refine Tr.val (wn rfl) rfl (fun _ _ h1 h2 => run_len un_66 (h1.ev rfl)) ?_
      refine Tr.val (wn rfl) rfl (fun _ _ h1 h2 => run_gtr (h1.ev rfl) (h1.ev rfl)) ?_
      refine Tr.nil (Tr.normThen ?_)
      refine Tr.cond rfl H (fun H => ?_) (fun H => ?_)
      · have leJ162 := Bs.Le.refl w
        refine Tr.cutJ (σ := Int × Int) (fun w s => F_shape_Merge_J4 l152 x153 (F_shape_Merge_L3 N p0 p1 p2 mF_shape_Merge_L3) x154 s.1 s.2 = some r) (fun s => [(0, (.slice Ap0_0 (p0).length cp0_0)), (1, (.slice Ap1_0 (p1).length cp1_0)), (2, (.func (.func fid2) #[] cap2.toArray)), (7, (.slice none (([] : List TBand)).length 0)), (8, (.int .i64 s.1)), (9, (.int .i64 s.2)), (11, (.slice Au155_0 (x154).length cu155_0)), (25, (.slice Al152 (l152).length cl152)), (26, (.int .i64 2)), (27, (.int .i64 x153))]) (fun s => [(2, ow none 0 96 fl_TBand ([] : List TBand)), (9, ow Al152 cl152 66 fl_LTBand l152)]) ?_ ?_
        · refine Tr.seq ?_
          refine Tr.region ?_
          refine Tr.val (wn rfl) rfl (fun _ _ h1 h2 => run_move (h1.ev rfl)) ?_
          refine Tr.val (wn rfl) rfl (fun _ _ h1 h2 => run_eql (h1.ev rfl) (h1.ev rfl)) ?_
          refine Tr.val (wn rfl) rfl (fun _ _ h1 h2 => run_move (h1.ev rfl)) ?_
          refine Tr.mid0 4 [(0, (.slice Ap0_0 (p0).length cp0_0)), (1, (.slice Ap1_0 (p1).length cp1_0)), (2, (.func (.func fid2) #[] cap2.toArray)), (7, (.slice none (([] : List TBand)).length 0)), (8, (.int .i64 x150)), (9, (.int .i64 x151)), (11, (.slice Au155_0 (x154).length cu155_0)), (25, (.slice Al152 (l152).length cl152)), (26, (.int .i64 2)), (27, (.int .i64 x153)), (41, (.bool ((x153 == 0) || ((p0.length : Int) == 0))))] [(2, ow none 0 96 fl_TBand ([] : List TBand)), (9, ow Al152 cl152 66 fl_LTBand l152)] ?_ ?_
          · cases hg171 : (x153 == 0)
            · refine Tr.val (wg rfl rfl rfl) rfl (fun _ _ h1 h2 => run_move (h1.ev rfl)) ?_
              refine Tr.val (wg rfl rfl rfl) rfl (fun _ _ h1 h2 => run_len un_66 (h1.ev rfl)) ?_
              refine Tr.val (wg rfl rfl rfl) rfl (fun _ _ h1 h2 => run_eql (h1.ev rfl) (h1.ev rfl)) ?_
              refine Tr.val (wn rfl) rfl (fun _ _ h1 h2 => run_pickF (h1.ev rfl) (h1.ev rfl)) ?_
              exact Tr.nil (Tr.fin0 (.cons rfl (.cons rfl (.cons rfl (.cons rfl (.cons rfl (.cons rfl (.cons rfl (.cons rfl (.cons rfl (.cons rfl (.cons rfl .nil))))))))))) (.cons rfl (.cons rfl .nil)))
            · refine Tr.pass rfl rfl rfl rfl rfl (by decide) ?_
              refine Tr.pass rfl rfl rfl rfl rfl (by decide) ?_
              refine Tr.pass rfl rfl rfl rfl rfl (by decide) ?_
              refine Tr.val (wn rfl) rfl (fun _ _ h1 h2 => run_pickT (h1.ev rfl) (h1.ev rfl)) ?_
              exact Tr.nil (Tr.fin0 (.cons rfl (.cons rfl (.cons rfl (.cons rfl (.cons rfl (.cons rfl (.cons rfl (.cons rfl (.cons rfl (.cons rfl (.cons rfl .nil))))))))))) (.cons rfl (.cons rfl .nil)))
          · show Tr _ _ (LF [(0, (.slice Ap0_0 (p0).length cp0_0)), (1, (.slice Ap1_0 (p1).length cp1_0)), (2, (.func (.func fid2) #[] cap2.toArray)), (7, (.slice none (([] : List TBand)).length 0)), (8, (.int .i64 x150)), (9, (.int .i64 x151)), (11, (.slice Au155_0 (x154).length cu155_0)), (25, (.slice Al152 (l152).length cl152)), (26, (.int .i64 2)), (27, (.int .i64 x153)), (41, (.bool ((x153 == 0) || ((p0.length : Int) == 0))))]) (LE [(2, ow none 0 96 fl_TBand ([] : List TBand)), (9, ow Al152 cl152 66 fl_LTBand l152)]) _
            refine Tr.nil (Tr.normThen ?_)
            refine Tr.cond rfl H (fun H => ?_) (fun H => ?_)
            · refine Tr.draw (by kernel_rfl) (by kernel_rfl) ?_
              refine Tq.val (wn rfl) rfl (fun _ _ h1 h2 => run_move (h1.ev rfl)) ?_
              obtain ⟨x168, hx168, H⟩ := bnd H
              obtain ⟨hx1680, hx1681, hx1682⟩ := idx_some hx168
              obtain ⟨u169, hRu169, hoku169, hcu169⟩ := (hoku155_0).el hx1682
              obtain ⟨Au169_0, cu169_0⟩ := u169
              have hoku169_0 := hoku169
              replace hoku169_0 : Sl w.O w.W fl_i64 Au169_0 cu169_0 x168.Xs := hoku169_0
              replace hRu169 : w.R (adB Au155_0) := Or.inl hRu169
              refine Tq.val (wn rfl) rfl (fun _ _ h1 h2 => run_indexAddr el_66 (h1.ev rfl) hoku155_0.form (h1.ev rfl) hx1680 hx1681) ?_
              refine Tq.val (wn rfl) rfl (fun _ _ h1 h2 => run_fieldAddr fo_96_0 (h1.ev rfl)) ?_
              refine Tq.val (wn rfl) rfl (fun _ _ h1 h2 => run_load1 ag_3 (h1.ev rfl) (CellsAt.drop (rdR hRu169 hcu169 h2) 0) rfl) ?_
              refine Tq.val (wn rfl) rfl (fun _ _ h1 h2 => run_move (h1.ev rfl)) ?_
              refine Tq.val (wn rfl) rfl (fun _ _ h1 h2 => run_move (h1.ev rfl)) ?_
              refine Tq.val (wn rfl) rfl (fun _ _ h1 h2 => run_len un_66 (h1.ev rfl)) ?_
              refine Tq.val (wn rfl) rfl (fun _ _ h1 h2 => run_sub (h1.ev rfl) (h1.ev rfl)) ?_
              obtain ⟨x170, hx170, H⟩ := bnd H
              obtain ⟨hx1700, hx1701, hx1702⟩ := idx_some hx170
              obtain ⟨u171, hRu171, hoku171, hcu171⟩ := (hoku155_0).el hx1702
              obtain ⟨Au171_0, cu171_0⟩ := u171
              have hoku171_0 := hoku171
              replace hoku171_0 : Sl w.O w.W fl_i64 Au171_0 cu171_0 x170.Xs := hoku171_0
              replace hRu171 : w.R (adB Au155_0) := Or.inl hRu171
              refine Tq.val (wn rfl) rfl (fun _ _ h1 h2 => run_indexAddr el_66 (h1.ev rfl) hoku155_0.form (h1.ev rfl) hx1700 hx1701) ?_
              refine Tq.val (wn rfl) rfl (fun _ _ h1 h2 => run_fieldAddr fo_96_1 (h1.ev rfl)) ?_
              refine Tq.val (wn rfl) rfl (fun _ _ h1 h2 => run_load1 ag_3 (h1.ev rfl) (CellsAt.drop (rdR hRu171 hcu171 h2) 1) rfl) ?_
              refine Tq.val (wn rfl) rfl (fun _ _ h1 h2 => run_assign (h1.ev rfl)) ?_
              refine Tq.val (wn rfl) rfl (fun _ _ h1 h2 => run_assign (h1.ev rfl)) ?_
              refine Tq.nil ?_
              exact Tr.backThen leJ162 (x168.Y0, x170.Y1) H (.cons rfl (.cons rfl (.cons rfl (.cons rfl (.cons rfl (.cons rfl (.cons rfl (.cons rfl (.cons rfl (.cons rfl .nil)))))))))) (.cons rfl (.cons rfl .nil))
            · refine Tr.skip ?_
              exact Tr.backThen leJ162 (x150, x151) H (.cons rfl (.cons rfl (.cons rfl (.cons rfl (.cons rfl (.cons rfl (.cons rfl (.cons rfl (.cons rfl (.cons rfl .nil)))))))))) (.cons rfl (.cons rfl .nil))
        · intro w s hlJ163 hs
          obtain ⟨x160, x161⟩ := s
          have H := hs
          replace H : F_shape_Merge_J4 l152 x153 (F_shape_Merge_L3 N p0 p1 p2 mF_shape_Merge_L3) x154 x160 x161 = some r := H
          replace hp0_0 := hp0_0.le hlJ163
          replace hp1_0 := hp1_0.le hlJ163
          replace hf2 := fun w' he => hf2 w' (hlJ163.ext.trans he)
          replace hoku155_0 := hoku155_0.le hlJ163
          replace leB := leB.trans hlJ163
          replace leF_shape_Merge_L3 := leF_shape_Merge_L3.trans hlJ163
          unfold F_shape_Merge_J4 at H
          show Tr _ _ (LF [(0, (.slice Ap0_0 (p0).length cp0_0)), (1, (.slice Ap1_0 (p1).length cp1_0)), (2, (.func (.func fid2) #[] cap2.toArray)), (7, (.slice none (([] : List TBand)).length 0)), (8, (.int .i64 x160)), (9, (.int .i64 x161)), (11, (.slice Au155_0 (x154).length cu155_0)), (25, (.slice Al152 (l152).length cl152)), (26, (.int .i64 2)), (27, (.int .i64 x153))]) (LE [(2, ow none 0 96 fl_TBand ([] : List TBand)), (9, ow Al152 cl152 66 fl_LTBand l152)]) _
          refine Tr.draw (by kernel_rfl) (by kernel_rfl) ?_
          refine Tq.val (wn rfl) rfl (fun _ _ h1 h2 => run_move (h1.ev rfl)) ?_
          refine Tq.val (wn rfl) rfl (fun _ _ h1 h2 => run_move (h1.ev rfl)) ?_
          obtain ⟨x164, hx164, H⟩ := bnd H
          obtain ⟨hx1640, hx1641, hx1642⟩ := idx_some hx164
          obtain ⟨u165, hRu165, hoku165, hcu165⟩ := (hoku155_0).el hx1642
          obtain ⟨Au165_0, cu165_0⟩ := u165
          have hoku165_0 := hoku165
          replace hoku165_0 : Sl w.O w.W fl_i64 Au165_0 cu165_0 x164.Xs := hoku165_0
          replace hRu165 : w.R (adB Au155_0) := Or.inl hRu165
          refine Tq.val (wn rfl) rfl (fun _ _ h1 h2 => run_indexAddr el_66 (h1.ev rfl) hoku155_0.form (h1.ev rfl) hx1640 hx1641) ?_
          refine Tq.val (wn rfl) rfl (fun _ _ h1 h2 => run_fieldAddr fo_96_0 (h1.ev rfl)) ?_
          refine Tq.val (wn rfl) rfl (fun _ _ h1 h2 => run_load1 ag_3 (h1.ev rfl) (CellsAt.drop (rdR hRu165 hcu165 h2) 0) rfl) ?_
          refine Tq.val (wn rfl) rfl (fun _ _ h1 h2 => run_min (h1.ev rfl) (h1.ev rfl) _) ?_
          refine Tq.val (wn rfl) rfl (fun _ _ h1 h2 => run_move (h1.ev rfl)) ?_
          refine Tq.val (wn rfl) rfl (fun _ _ h1 h2 => run_move (h1.ev rfl)) ?_
          refine Tq.val (wn rfl) rfl (fun _ _ h1 h2 => run_move (h1.ev rfl)) ?_
          refine Tq.val (wn rfl) rfl (fun _ _ h1 h2 => run_len un_66 (h1.ev rfl)) ?_
          refine Tq.val (wn rfl) rfl (fun _ _ h1 h2 => run_sub (h1.ev rfl) (h1.ev rfl)) ?_
          obtain ⟨x166, hx166, H⟩ := bnd H
          obtain ⟨hx1660, hx1661, hx1662⟩ := idx_some hx166
          obtain ⟨u167, hRu167, hoku167, hcu167⟩ := (hoku155_0).el hx1662
          obtain ⟨Au167_0, cu167_0⟩ := u167
          have hoku167_0 := hoku167
          replace hoku167_0 : Sl w.O w.W fl_i64 Au167_0 cu167_0 x166.Xs := hoku167_0
          replace hRu167 : w.R (adB Au155_0) := Or.inl hRu167
          refine Tq.val (wn rfl) rfl (fun _ _ h1 h2 => run_indexAddr el_66 (h1.ev rfl) hoku155_0.form (h1.ev rfl) hx1660 hx1661) ?_
          refine Tq.val (wn rfl) rfl (fun _ _ h1 h2 => run_fieldAddr fo_96_1 (h1.ev rfl)) ?_
          refine Tq.val (wn rfl) rfl (fun _ _ h1 h2 => run_load1 ag_3 (h1.ev rfl) (CellsAt.drop (rdR hRu167 hcu167 h2) 1) rfl) ?_
          refine Tq.val (wn rfl) rfl (fun _ _ h1 h2 => run_max (h1.ev rfl) (h1.ev rfl) _) ?_
          refine Tq.val (wn rfl) rfl (fun _ _ h1 h2 => run_assign (h1.ev rfl)) ?_
          refine Tq.val (wn rfl) rfl (fun _ _ h1 h2 => run_assign (h1.ev rfl)) ?_
          refine Tq.nil (Tr.normBlock (Tr.normThen ?_))
          refine Tr.region ?_
          refine Tr.val (wn rfl) rfl (fun _ _ h1 h2 => run_add (h1.ev rfl) (h1.ev rfl)) ?_
          refine Tr.val (wn rfl) rfl (fun _ _ h1 h2 => run_move (h1.ev rfl)) ?_
          refine Tr.nil ?_
          exact Tr.backThen leF_shape_Merge_L3 ((min x160 x164.Y0), (max x161 x166.Y1), l152, (w64 (x153 + 1)), Al152, cl152) ⟨H, hl152⟩ (.cons rfl (.cons rfl (.cons rfl (.cons rfl (.cons rfl (.cons rfl (.cons rfl (.cons rfl (.cons rfl .nil))))))))) (.cons rfl (.cons rfl .nil))
      · refine Tr.skip (Tr.normBlock (Tr.normThen ?_))
        refine Tr.region ?_
        refine Tr.val (wn rfl) rfl (fun _ _ h1 h2 => run_add (h1.ev rfl) (h1.ev rfl)) ?_
        refine Tr.val (wn rfl) rfl (fun _ _ h1 h2 => run_move (h1.ev rfl)) ?_
        refine Tr.nil ?_
        exact Tr.backThen leF_shape_Merge_L3 (x150, x151, l152, (w64 (x153 + 1)), Al152, cl152) ⟨H, hl152⟩ (.cons rfl (.cons rfl (.cons rfl (.cons rfl (.cons rfl (.cons rfl (.cons rfl (.cons rfl (.cons rfl .nil))))))))) (.cons rfl (.cons rfl .nil))
    · refine Tr.exit (Tr.exitThen (Tr.exitThen (Tr.exitBlock (Tr.normThen ?_))))
      refine Tr.seq ?_
      refine Tr.block ?_
      refine Tr.loop (σ := (List TBand) × (List TBand) × (List TBand) × Int × (Option Addr) × Nat × (Option Addr) × Nat × (Option Addr) × Nat) (fun m w s => F_shape_Merge_L9 N p2 x151 m s.1 s.2.1 s.2.2.1 s.2.2.2.1 = some r ∧ Sl w.O w.W fl_TBand s.2.2.2.2.1 s.2.2.2.2.2.1 s.1 ∧ Sl w.O w.W fl_TBand s.2.2.2.2.2.2.1 s.2.2.2.2.2.2.2.1 s.2.1 ∧ SlF s.2.2.2.2.2.2.2.2.1 (s.2.2.1).length s.2.2.2.2.2.2.2.2.2) (fun s => [(0, (.slice s.2.2.2.2.1 (s.1).length s.2.2.2.2.2.1)), (1, (.slice s.2.2.2.2.2.2.1 (s.2.1).length s.2.2.2.2.2.2.2.1)), (2, (.func (.func fid2) #[] cap2.toArray)), (7, (.slice s.2.2.2.2.2.2.2.2.1 (s.2.2.1).length s.2.2.2.2.2.2.2.2.2)), (8, (.int .i64 s.2.2.2.1)), (9, (.int .i64 x151))]) (fun s => [(2, ow s.2.2.2.2.2.2.2.2.1 s.2.2.2.2.2.2.2.2.2 96 fl_TBand s.2.2.1)]) N (p0, p1, ([] : List TBand), x150, Ap0_0, cp0_0, Ap1_0, cp1_0, none, 0) ⟨H, hp0_0, hp1_0, slf_nil⟩ (.cons rfl (.cons rfl (.cons rfl (.cons rfl (.cons rfl (.cons rfl .nil)))))) (.cons rfl .nil) (fun _ _ h => noSome (h.1)) ?_
      intro w leF_shape_Merge_L9 mF_shape_Merge_L9 s hs
      obtain ⟨l292, l293, l294, x295, Al292, cl292, Al293, cl293, Al294, cl294⟩ := s
      obtain ⟨H, hl292, hl293, hl294⟩ := hs
      replace H : F_shape_Merge_L9 N p2 x151 (mF_shape_Merge_L9 + 1) l292 l293 l294 x295 = some r := H
      replace hf2 := fun w' he => hf2 w' (leF_shape_Merge_L9.ext.trans he)
      replace leB := leB.trans leF_shape_Merge_L9
      replace leF_shape_Merge_L3 := leF_shape_Merge_L3.trans leF_shape_Merge_L9
      replace hl292 : Sl w.O w.W fl_TBand Al292 cl292 l292 := hl292
      replace hl293 : Sl w.O w.W fl_TBand Al293 cl293 l293 := hl293
      replace hl294 : SlF Al294 (l294).length cl294 := hl294
      rw [F_shape_Merge_L9.eq_2] at H
      show Tr _ _ (LF [(0, (.slice Al292 (l292).length cl292)), (1, (.slice Al293 (l293).length cl293)), (2, (.func (.func fid2) #[] cap2.toArray)), (7, (.slice Al294 (l294).length cl294)), (8, (.int .i64 x295)), (9, (.int .i64 x151))]) (LE [(2, ow Al294 cl294 96 fl_TBand l294)]) _
      refine Tr.seq ?_
      refine Tr.seq ?_
      refine Tr.region ?_
      refine Tr.val (wn rfl) rfl (fun _ _ h1 h2 => run_move (h1.ev rfl)) ?_
      refine Tr.val (wn rfl) rfl (fun _ _ h1 h2 => run_move (h1.ev rfl)) ?_
      refine Tr.val (wn rfl) rfl (fun _ _ h1 h2 => run_lss (h1.ev rfl) (h1.ev rfl)) ?_
      refine Tr.nil (Tr.normThen ?_)
      refine Tr.cond rfl H (fun H => ?_) (fun H => ?_)
      · refine Tr.skip (Tr.normThen ?_)
        refine Tr.block ?_
        refine Tr.seq ?_
        refine Tr.block ?_
        refine Tr.loop (σ := (List TBand) × (Option Addr) × Nat) (fun m w s => F_shape_Merge_L10 N p2 x151 l293 l294 x295 (F_shape_Merge_L9 N p2 x151 mF_shape_Merge_L9) m s.1 = some r ∧ Sl w.O w.W fl_TBand s.2.1 s.2.2 s.1) (fun s => [(0, (.slice s.2.1 (s.1).length s.2.2)), (1, (.slice Al293 (l293).length cl293)), (2, (.func (.func fid2) #[] cap2.toArray)), (7, (.slice Al294 (l294).length cl294)), (8, (.int .i64 x295)), (9, (.int .i64 x151))]) (fun s => [(2, ow Al294 cl294 96 fl_TBand l294)]) N (l292, Al292, cl292) ⟨H, hl292⟩ (.cons rfl (.cons rfl (.cons rfl (.cons rfl (.cons rfl (.cons rfl .nil)))))) (.cons rfl .nil) (fun _ _ h => noSome (h.1)) ?_
        intro w leF_shape_Merge_L10 mF_shape_Merge_L10 s hs
        obtain ⟨l311, Al311, cl311⟩ := s
        obtain ⟨H, hl311⟩ := hs
        replace H : F_shape_Merge_L10 N p2 x151 l293 l294 x295 (F_shape_Merge_L9 N p2 x151 mF_shape_Merge_L9) (mF_shape_Merge_L10 + 1) l311 = some r := H
        replace hl293 := hl293.le leF_shape_Merge_L10
        replace hf2 := fun w' he => hf2 w' (leF_shape_Merge_L10.ext.trans he)
        replace leB := leB.trans leF_shape_Merge_L10
        replace leF_shape_Merge_L3 := leF_shape_Merge_L3.trans leF_shape_Merge_L10
        replace leF_shape_Merge_L9 := leF_shape_Merge_L9.trans leF_shape_Merge_L10
        replace hl311 : Sl w.O w.W fl_TBand Al311 cl311 l311 := hl311
        rw [F_shape_Merge_L10.eq_2] at H
        show Tr _ _ (LF [(0, (.slice Al311 (l311).length cl311)), (1, (.slice Al293 (l293).length cl293)), (2, (.func (.func fid2) #[] cap2.toArray)), (7, (.slice Al294 (l294).length cl294)), (8, (.int .i64 x295)), (9, (.int .i64 x151))]) (LE [(2, ow Al294 cl294 96 fl_TBand l294)]) _
        refine Tr.seq ?_
        refine Tr.seq ?_
        refine Tr.region ?_
        refine Tr.val (wn rfl) rfl (fun _ _ h1 h2 => run_move (h1.ev rfl)) ?_
        refine Tr.val (wn rfl) rfl (fun _ _ h1 h2 => run_len un_66 (h1.ev rfl)) ?_
        refine Tr.val (wn rfl) rfl (fun _ _ h1 h2 => run_gtr (h1.ev rfl) (h1.ev rfl)) ?_
        refine Tr.val (wn rfl) rfl (fun _ _ h1 h2 => run_move (h1.ev rfl)) ?_
        obtain ⟨g314, hg314, H⟩ := bnd H
        refine Tr.mid0 7 [(0, (.slice Al311 (l311).length cl311)), (1, (.slice Al293 (l293).length cl293)), (2, (.func (.func fid2) #[] cap2.toArray)), (7, (.slice Al294 (l294).length cl294)), (8, (.int .i64 x295)), (9, (.int .i64 x151)), (82, (.bool g314))] [(2, ow Al294 cl294 96 fl_TBand l294)] ?_ ?_
        · cases hg349 : (decide (0 < (l311.length : Int)))
          · rw [hg349] at hg314
            rw [if_neg (by decide)] at hg314
            have H := hg314
            obtain rfl := Option.some.inj H
            refine Tr.pass rfl rfl rfl rfl rfl (by decide) ?_
            refine Tr.pass rfl rfl rfl rfl rfl (by decide) ?_
            refine Tr.pass rfl rfl rfl rfl rfl (by decide) ?_
            refine Tr.pass rfl rfl rfl rfl rfl (by decide) ?_
            refine Tr.pass rfl rfl rfl rfl rfl (by decide) ?_
            refine Tr.pass rfl rfl rfl rfl rfl (by decide) ?_
            refine Tr.val (wn rfl) rfl (fun _ _ h1 h2 => run_pickF (h1.ev rfl) (h1.ev rfl)) ?_
            exact Tr.nil (Tr.fin0 (.cons rfl (.cons rfl (.cons rfl (.cons rfl (.cons rfl (.cons rfl (.cons rfl .nil))))))) (.cons rfl .nil))
          · rw [hg349] at hg314
            rw [if_pos rfl] at hg314
            have H := hg314
            refine Tr.val (wg rfl rfl rfl) rfl (fun _ _ h1 h2 => run_move (h1.ev rfl)) ?_
            obtain ⟨x315, hx315, H⟩ := bnd H
            obtain ⟨hx3150, hx3151, hx3152⟩ := idx_some hx315
            obtain ⟨u316, hRu316, hoku316, hcu316⟩ := (hl311).el hx3152
            obtain ⟨Au316_0, cu316_0⟩ := u316
            have hoku316_0 := hoku316
            replace hoku316_0 : Sl w.O w.W fl_i64 Au316_0 cu316_0 x315.Xs := hoku316_0
            replace hRu316 : w.R (adB Al311) := Or.inl hRu316
            refine Tr.val (wg rfl rfl rfl) rfl (fun _ _ h1 h2 => run_indexAddr el_66 (h1.ev rfl) hl311.form (h1.ev rfl) hx3150 hx3151) ?_
            refine Tr.val (wg rfl rfl rfl) rfl (fun _ _ h1 h2 => run_fieldAddr fo_96_1 (h1.ev rfl)) ?_
            refine Tr.val (wg rfl rfl rfl) rfl (fun _ _ h1 h2 => run_load1 ag_3 (h1.ev rfl) (CellsAt.drop (rdR hRu316 hcu316 h2) 1) rfl) ?_
            refine Tr.val (wg rfl rfl rfl) rfl (fun _ _ h1 h2 => run_move (h1.ev rfl)) ?_
            refine Tr.val (wg rfl rfl rfl) rfl (fun _ _ h1 h2 => run_leq (h1.ev rfl) (h1.ev rfl)) ?_
            refine Tr.val (wn rfl) rfl (fun _ _ h1 h2 => run_pickT (h1.ev rfl) (h1.ev rfl)) ?_
            obtain rfl := Option.some.inj H
            exact Tr.nil (Tr.fin0 (.cons rfl (.cons rfl (.cons rfl (.cons rfl (.cons rfl (.cons rfl (.cons rfl .nil))))))) (.cons rfl .nil))
        · show Tr _ _ (LF [(0, (.slice Al311 (l311).length cl311)), (1, (.slice Al293 (l293).length cl293)), (2, (.func (.func fid2) #[] cap2.toArray)), (7, (.slice Al294 (l294).length cl294)), (8, (.int .i64 x295)), (9, (.int .i64 x151)), (82, (.bool g314))]) (LE [(2, ow Al294 cl294 96 fl_TBand l294)]) _
          refine Tr.nil (Tr.normThen ?_)
          refine Tr.cond rfl H (fun H => ?_) (fun H => ?_)
          · refine Tr.skip (Tr.normThen ?_)
            refine Tr.block ?_
            refine Tr.region ?_
            refine Tr.val (wn rfl) rfl (fun _ _ h1 h2 => run_move (h1.ev rfl)) ?_
            obtain ⟨l317, hl317, H⟩ := bnd H
            refine Tr.val (wn rfl) rfl (fun _ _ h1 h2 => run_cutL el_66 (h1.ev rfl) hl311.form (h1.ev rfl) hl317) ?_
            refine Tr.val (wn rfl) rfl (fun _ _ h1 h2 => run_assign (h1.ev rfl)) ?_
            refine Tr.nil (Tr.normBlock ?_)
            exact Tr.backThen leF_shape_Merge_L10 (l317, (cutA Al311 (1 : Int).toNat 3 cl311), (cl311 - (1 : Int).toNat)) ⟨H, (Sl.cut hl311 hl317)⟩ (.cons rfl (.cons rfl (.cons rfl (.cons rfl (.cons rfl (.cons rfl .nil)))))) (.cons rfl .nil)
          · refine Tr.exit (Tr.exitThen (Tr.exitThen (Tr.exitBlock (Tr.normThen ?_))))
            refine Tr.seq ?_
            refine Tr.block ?_
            refine Tr.loop (σ := (List TBand) × (Option Addr) × Nat) (fun m w s => F_shape_Merge_L11 N p2 x151 l294 x295 (F_shape_Merge_L9 N p2 x151 mF_shape_Merge_L9) l311 m s.1 = some r ∧ Sl w.O w.W fl_TBand s.2.1 s.2.2 s.1) (fun s => [(0, (.slice Al311 (l311).length cl311)), (1, (.slice s.2.1 (s.1).length s.2.2)), (2, (.func (.func fid2) #[] cap2.toArray)), (7, (.slice Al294 (l294).length cl294)), (8, (.int .i64 x295)), (9, (.int .i64 x151))]) (fun s => [(2, ow Al294 cl294 96 fl_TBand l294)]) N (l293, Al293, cl293) ⟨H, hl293⟩ (.cons rfl (.cons rfl (.cons rfl (.cons rfl (.cons rfl (.cons rfl .nil)))))) (.cons rfl .nil) (fun _ _ h => noSome (h.1)) ?_
            intro w leF_shape_Merge_L11 mF_shape_Merge_L11 s hs
            obtain ⟨l333, Al333, cl333⟩ := s
            obtain ⟨H, hl333⟩ := hs
            replace H : F_shape_Merge_L11 N p2 x151 l294 x295 (F_shape_Merge_L9 N p2 x151 mF_shape_Merge_L9) l311 (mF_shape_Merge_L11 + 1) l333 = some r := H
            replace hl311 := hl311.le leF_shape_Merge_L11
            replace hf2 := fun w' he => hf2 w' (leF_shape_Merge_L11.ext.trans he)
            replace leB := leB.trans leF_shape_Merge_L11
            replace leF_shape_Merge_L3 := leF_shape_Merge_L3.trans leF_shape_Merge_L11
            replace leF_shape_Merge_L9 := leF_shape_Merge_L9.trans leF_shape_Merge_L11
            replace leF_shape_Merge_L10 := leF_shape_Merge_L10.trans leF_shape_Merge_L11
            replace hl333 : Sl w.O w.W fl_TBand Al333 cl333 l333 := hl333
            rw [F_shape_Merge_L11.eq_2] at H
            show Tr _ _ (LF [(0, (.slice Al311 (l311).length cl311)), (1, (.slice Al333 (l333).length cl333)), (2, (.func (.func fid2) #[] cap2.toArray)), (7, (.slice Al294 (l294).length cl294)), (8, (.int .i64 x295)), (9, (.int .i64 x151))]) (LE [(2, ow Al294 cl294 96 fl_TBand l294)]) _
            refine Tr.seq ?_
            refine Tr.seq ?_
            refine Tr.region ?_
            refine Tr.val (wn rfl) rfl (fun _ _ h1 h2 => run_move (h1.ev rfl)) ?_
            refine Tr.val (wn rfl) rfl (fun _ _ h1 h2 => run_len un_66 (h1.ev rfl)) ?_
            refine Tr.val (wn rfl) rfl (fun _ _ h1 h2 => run_gtr (h1.ev rfl) (h1.ev rfl)) ?_
            refine Tr.val (wn rfl) rfl (fun _ _ h1 h2 => run_move (h1.ev rfl)) ?_
            obtain ⟨g336, hg336, H⟩ := bnd H
            refine Tr.mid0 7 [(0, (.slice Al311 (l311).length cl311)), (1, (.slice Al333 (l333).length cl333)), (2, (.func (.func fid2) #[] cap2.toArray)), (7, (.slice Al294 (l294).length cl294)), (8, (.int .i64 x295)), (9, (.int .i64 x151)), (95, (.bool g336))] [(2, ow Al294 cl294 96 fl_TBand l294)] ?_ ?_
            · cases hg349 : (decide (0 < (l333.length : Int)))
              · rw [hg349] at hg336
                rw [if_neg (by decide)] at hg336
                have H := hg336
                obtain rfl := Option.some.inj H
                refine Tr.pass rfl rfl rfl rfl rfl (by decide) ?_
                refine Tr.pass rfl rfl rfl rfl rfl (by decide) ?_
                refine Tr.pass rfl rfl rfl rfl rfl (by decide) ?_
                refine Tr.pass rfl rfl rfl rfl rfl (by decide) ?_
                refine Tr.pass rfl rfl rfl rfl rfl (by decide) ?_
                refine Tr.pass rfl rfl rfl rfl rfl (by decide) ?_
                refine Tr.val (wn rfl) rfl (fun _ _ h1 h2 => run_pickF (h1.ev rfl) (h1.ev rfl)) ?_
                exact Tr.nil (Tr.fin0 (.cons rfl (.cons rfl (.cons rfl (.cons rfl (.cons rfl (.cons rfl (.cons rfl .nil))))))) (.cons rfl .nil))
              · rw [hg349] at hg336
                rw [if_pos rfl] at hg336
                have H := hg336
                refine Tr.val (wg rfl rfl rfl) rfl (fun _ _ h1 h2 => run_move (h1.ev rfl)) ?_
                obtain ⟨x337, hx337, H⟩ := bnd H
                obtain ⟨hx3370, hx3371, hx3372⟩ := idx_some hx337
                obtain ⟨u338, hRu338, hoku338, hcu338⟩ := (hl333).el hx3372
                obtain ⟨Au338_0, cu338_0⟩ := u338
                have hoku338_0 := hoku338
                replace hoku338_0 : Sl w.O w.W fl_i64 Au338_0 cu338_0 x337.Xs := hoku338_0
                replace hRu338 : w.R (adB Al333) := Or.inl hRu338
                refine Tr.val (wg rfl rfl rfl) rfl (fun _ _ h1 h2 => run_indexAddr el_66 (h1.ev rfl) hl333.form (h1.ev rfl) hx3370 hx3371) ?_
                refine Tr.val (wg rfl rfl rfl) rfl (fun _ _ h1 h2 => run_fieldAddr fo_96_1 (h1.ev rfl)) ?_
                refine Tr.val (wg rfl rfl rfl) rfl (fun _ _ h1 h2 => run_load1 ag_3 (h1.ev rfl) (CellsAt.drop (rdR hRu338 hcu338 h2) 1) rfl) ?_
                refine Tr.val (wg rfl rfl rfl) rfl (fun _ _ h1 h2 => run_move (h1.ev rfl)) ?_
                refine Tr.val (wg rfl rfl rfl) rfl (fun _ _ h1 h2 => run_leq (h1.ev rfl) (h1.ev rfl)) ?_
                refine Tr.val (wn rfl) rfl (fun _ _ h1 h2 => run_pickT (h1.ev rfl) (h1.ev rfl)) ?_
                obtain rfl := Option.some.inj H
                exact Tr.nil (Tr.fin0 (.cons rfl (.cons rfl (.cons rfl (.cons rfl (.cons rfl (.cons rfl (.cons rfl .nil))))))) (.cons rfl .nil))
            · show Tr _ _ (LF [(0, (.slice Al311 (l311).length cl311)), (1, (.slice Al333 (l333).length cl333)), (2, (.func (.func fid2) #[] cap2.toArray)), (7, (.slice Al294 (l294).length cl294)), (8, (.int .i64 x295)), (9, (.int .i64 x151)), (95, (.bool g336))]) (LE [(2, ow Al294 cl294 96 fl_TBand l294)]) _
              refine Tr.nil (Tr.normThen ?_)
              refine Tr.cond rfl H (fun H => ?_) (fun H => ?_)
              · refine Tr.skip (Tr.normThen ?_)
                refine Tr.block ?_
                refine Tr.region ?_
                refine Tr.val (wn rfl) rfl (fun _ _ h1 h2 => run_move (h1.ev rfl)) ?_
                obtain ⟨l339, hl339, H⟩ := bnd H
                refine Tr.val (wn rfl) rfl (fun _ _ h1 h2 => run_cutL el_66 (h1.ev rfl) hl333.form (h1.ev rfl) hl339) ?_
                refine Tr.val (wn rfl) rfl (fun _ _ h1 h2 => run_assign (h1.ev rfl)) ?_
                refine Tr.nil (Tr.normBlock ?_)
                exact Tr.backThen leF_shape_Merge_L11 (l339, (cutA Al333 (1 : Int).toNat 3 cl333), (cl333 - (1 : Int).toNat)) ⟨H, (Sl.cut hl333 hl339)⟩ (.cons rfl (.cons rfl (.cons rfl (.cons rfl (.cons rfl (.cons rfl .nil)))))) (.cons rfl .nil)
              · refine Tr.exit (Tr.exitThen (Tr.exitThen (Tr.exitBlock (Tr.normThen ?_))))
                refine Tr.seq ?_
                refine Tr.region ?_
                refine Tr.val (wn rfl) rfl (fun _ _ h1 h2 => run_move (h1.ev rfl)) ?_
                refine Tr.val (wn rfl) rfl (fun _ _ h1 h2 => run_move (h1.ev rfl)) ?_
                refine Tr.val (wn rfl) rfl (fun _ _ h1 h2 => run_move (h1.ev rfl)) ?_
                obtain ⟨y340, hy340, H⟩ := bnd H
                refine Tr.callG [] [] (U := (Option Addr × Nat)) (fun u => (.tuple #[(.slice u.1 (y340.1).length u.2), (.int .i64 y340.2)])) (fun O W u => Sl O W fl_i64 u.1 u.2 y340.1) (fun u => []) rfl pk_nil (fun _ => rfl) (wn rfl) rfl Try.call123 (evl_cons rfl (evl_cons rfl (evl_cons rfl evl_nil))) (fun W hW hp hE => F_shape_Set__at_ok l311 Al311 cl311 (hl311.extO (hW.extS hp)) x295 x151 y340 hy340 hE) ?_
                intro w u le341 hu
                obtain ⟨Ay340_0, cy340_0⟩ := u
                have gy340_0 := hu
                replace hl311 := hl311.le le341
                replace hl333 := hl333.le le341
                replace hf2 := fun w' he => hf2 w' (le341.ext.trans he)
                replace leB := leB.trans le341
                replace leF_shape_Merge_L3 := leF_shape_Merge_L3.trans le341
                replace leF_shape_Merge_L9 := leF_shape_Merge_L9.trans le341
                replace leF_shape_Merge_L10 := leF_shape_Merge_L10.trans le341
                replace leF_shape_Merge_L11 := leF_shape_Merge_L11.trans le341
                have hgy340_0 : Sl w.O w.W fl_i64 Ay340_0 cy340_0 y340.1 := gy340_0 --@phi
                show Tr _ _ (uf _ 102 (.tuple #[(.slice Ay340_0 (y340.1).length cy340_0), (.int .i64 y340.2)])) (_) _
                refine Tr.val (wn rfl) rfl (fun _ _ h1 h2 => run_move (h1.ev rfl)) ?_
                refine Tr.val (wn rfl) rfl (fun _ _ h1 h2 => run_extract (h1.ev rfl) rfl) ?_
                refine Tr.val (wn rfl) rfl (fun _ _ h1 h2 => run_extract (h1.ev rfl) rfl) ?_
                refine Tr.val (wn rfl) rfl (fun _ _ h1 h2 => run_assign (h1.ev rfl)) ?_
                refine Tr.val (wn rfl) rfl (fun _ _ h1 h2 => run_assign (h1.ev rfl)) ?_
                refine Tr.nil (Tr.normThen ?_)
                refine Tr.seq ?_
                refine Tr.region ?_
                refine Tr.val (wn rfl) rfl (fun _ _ h1 h2 => run_move (h1.ev rfl)) ?_
                refine Tr.val (wn rfl) rfl (fun _ _ h1 h2 => run_move (h1.ev rfl)) ?_
                refine Tr.val (wn rfl) rfl (fun _ _ h1 h2 => run_move (h1.ev rfl)) ?_
                obtain ⟨y342, hy342, H⟩ := bnd H
                refine Tr.callG [] [] (U := (Option Addr × Nat)) (fun u => (.tuple #[(.slice u.1 (y342.1).length u.2), (.int .i64 y342.2)])) (fun O W u => Sl O W fl_i64 u.1 u.2 y342.1) (fun u => []) rfl pk_nil (fun _ => rfl) (wn rfl) rfl Try.call123 (evl_cons rfl (evl_cons rfl (evl_cons rfl evl_nil))) (fun W hW hp hE => F_shape_Set__at_ok l333 Al333 cl333 (hl333.extO (hW.extS hp)) x295 x151 y342 hy342 hE) ?_
                intro w u le343 hu
                obtain ⟨Ay342_0, cy342_0⟩ := u
                have gy342_0 := hu
                replace hl311 := hl311.le le343
                replace hl333 := hl333.le le343
                replace hf2 := fun w' he => hf2 w' (le343.ext.trans he)
                replace hgy340_0 := hgy340_0.le le343
                replace leB := leB.trans le343
                replace leF_shape_Merge_L3 := leF_shape_Merge_L3.trans le343
                replace leF_shape_Merge_L9 := leF_shape_Merge_L9.trans le343
                replace leF_shape_Merge_L10 := leF_shape_Merge_L10.trans le343
                replace leF_shape_Merge_L11 := leF_shape_Merge_L11.trans le343
                have hgy342_0 : Sl w.O w.W fl_i64 Ay342_0 cy342_0 y342.1 := gy342_0 --@phi
                show Tr _ _ (uf _ 109 (.tuple #[(.slice Ay342_0 (y342.1).length cy342_0), (.int .i64 y342.2)])) (_) _
                refine Tr.val (wn rfl) rfl (fun _ _ h1 h2 => run_move (h1.ev rfl)) ?_
                refine Tr.val (wn rfl) rfl (fun _ _ h1 h2 => run_extract (h1.ev rfl) rfl) ?_
                refine Tr.val (wn rfl) rfl (fun _ _ h1 h2 => run_extract (h1.ev rfl) rfl) ?_
                refine Tr.val (wn rfl) rfl (fun _ _ h1 h2 => run_assign (h1.ev rfl)) ?_
                refine Tr.val (wn rfl) rfl (fun _ _ h1 h2 => run_assign (h1.ev rfl)) ?_
                refine Tr.nil (Tr.normThen ?_)
                refine Tr.seq ?_
                refine Tr.region ?_
                refine Tr.val (wn rfl) rfl (fun _ _ h1 h2 => run_move (h1.ev rfl)) ?_
                refine Tr.val (wn rfl) rfl (fun _ _ h1 h2 => run_move (h1.ev rfl)) ?_
                refine Tr.val (wn rfl) rfl (fun _ _ h1 h2 => run_min (h1.ev rfl) (h1.ev rfl) _) ?_
                refine Tr.val (wn rfl) rfl (fun _ _ h1 h2 => run_assign (h1.ev rfl)) ?_
                refine Tr.nil (Tr.normThen ?_)
                refine Tr.seq ?_
                refine Tr.region ?_
                refine Tr.val (wn rfl) rfl (fun _ _ h1 h2 => run_move (h1.ev rfl)) ?_
                refine Tr.val (wn rfl) rfl (fun _ _ h1 h2 => run_move (h1.ev rfl)) ?_
                refine Tr.val (wn rfl) rfl (fun _ _ h1 h2 => run_move (h1.ev rfl)) ?_
                refine Tr.val (wn rfl) rfl (fun _ _ h1 h2 => run_move (h1.ev rfl)) ?_
                refine Tr.val (wn rfl) rfl (fun _ _ h1 h2 => run_move (h1.ev rfl)) ?_
                refine Tr.val (wn rfl) rfl (fun _ _ h1 h2 => run_move (h1.ev rfl)) ?_
                obtain ⟨y344, hy344, H⟩ := bnd H
                refine Tr.callM [12] [emp] (U := (Option Addr × Nat)) (fun u => (.slice u.1 (y344).length u.2)) (fun u => SlF u.1 (y344).length u.2) (fun u => [ow u.1 u.2 3 fl_i64 y344]) rfl (pk_cons rfl pk_nil) (fun _ => rfl) (wn rfl) rfl Try.call124 (evl_cons rfl (evl_cons rfl (evl_cons rfl evl_nil))) (fun W hW hp hE => F_shape_line_ok N y340.1 Ay340_0 cy340_0 (hgy340_0.rl.ext (hW.extS hp)) y342.1 Ay342_0 cy342_0 (hgy342_0.rl.ext (hW.extS hp)) p2 fid2 cap2 hg2 (fun w' he => hf2 w' ((hW.extS hp).trans he)) y344 hy344 hE) ?_
                intro u hu
                obtain ⟨Ay344_0, cy344_0⟩ := u
                have gy344_0 := hu
                have hgy344_0 : SlF Ay344_0 (y344).length cy344_0 := gy344_0 --@phi
                show Tr _ _ (uf _ 121 (.slice Ay344_0 (y344).length cy344_0)) (up _ 12 (ow Ay344_0 cy344_0 3 fl_i64 y344)) _
                refine Tr.build (vs := [(0, (.int .i64 x295)), (1, (.int .i64 (min y340.2 y342.2))), (2, (.slice Ay344_0 (y344).length cy344_0))]) (cs := [(.int .i64 x295), (.int .i64 (min y340.2 y342.2)), (.slice Ay344_0 (y344).length cy344_0)]) (wn rfl) rfl (evs_cons rfl (evs_cons rfl (evs_cons rfl evs_nil))) (by kernel_rfl) ?_
                refine Tr.freeze 12 rfl fun w le347 hz346 => ?_
                replace hl311 := hl311.le le347
                replace hl333 := hl333.le le347
                replace hf2 := fun w' he => hf2 w' (le347.ext.trans he)
                replace hgy340_0 := hgy340_0.le le347
                replace hgy342_0 := hgy342_0.le le347
                replace leB := leB.trans le347
                replace leF_shape_Merge_L3 := leF_shape_Merge_L3.trans le347
                replace leF_shape_Merge_L9 := leF_shape_Merge_L9.trans le347
                replace leF_shape_Merge_L10 := leF_shape_Merge_L10.trans le347
                replace leF_shape_Merge_L11 := leF_shape_Merge_L11.trans le347
                obtain ⟨y348, hy348, H⟩ := bnd H
                refine Tr.callG [2] [ow Al294 cl294 96 fl_TBand l294] (U := (Option Addr × Nat)) (fun u => (.slice u.1 (y348).length u.2)) (fun O W u => SlF u.1 (y348).length u.2) (fun u => [ow u.1 u.2 96 fl_TBand y348]) rfl (pk_cons rfl pk_nil) (fun _ => rfl) (wn rfl) rfl Try.call90 (evl_cons rfl (evl_cons rfl evl_nil)) (fun W hW hp hE => F_shape_Set__push_ok l294 Al294 cl294 (TBand.mk x295 (min y340.2 y342.2) y344) Ay344_0 cy344_0 (hz346.extO (hW.extS hp)) y348 hy348 hE) ?_
                intro w u le349 hu
                obtain ⟨Ay348_0, cy348_0⟩ := u
                have gy348_0 := hu
                replace hl311 := hl311.le le349
                replace hl333 := hl333.le le349
                replace hf2 := fun w' he => hf2 w' (le349.ext.trans he)
                replace hgy340_0 := hgy340_0.le le349
                replace hgy342_0 := hgy342_0.le le349
                replace hz346 := hz346.le le349
                replace leB := leB.trans le349
                replace leF_shape_Merge_L3 := leF_shape_Merge_L3.trans le349
                replace leF_shape_Merge_L9 := leF_shape_Merge_L9.trans le349
                replace leF_shape_Merge_L10 := leF_shape_Merge_L10.trans le349
                replace leF_shape_Merge_L11 := leF_shape_Merge_L11.trans le349
                have hgy348_0 : SlF Ay348_0 (y348).length cy348_0 := gy348_0 --@phi
                show Tr _ _ (uf _ 123 (.slice Ay348_0 (y348).length cy348_0)) (up _ 2 (ow Ay348_0 cy348_0 96 fl_TBand y348)) _
                refine Tr.val (wn rfl) rfl (fun _ _ h1 h2 => run_assign (h1.ev rfl)) ?_
                refine Tr.nil (Tr.normThen ?_)
                refine Tr.region ?_
                refine Tr.val (wn rfl) rfl (fun _ _ h1 h2 => run_move (h1.ev rfl)) ?_
                refine Tr.val (wn rfl) rfl (fun _ _ h1 h2 => run_assign (h1.ev rfl)) ?_
                refine Tr.nil (Tr.normBlock ?_)
                exact Tr.backThen leF_shape_Merge_L9 (l311, l333, y348, (min y340.2 y342.2), Al311, cl311, Al333, cl333, Ay348_0, cy348_0) ⟨H, hl311, hl333, hgy348_0⟩ (.cons rfl (.cons rfl (.cons rfl (.cons rfl (.cons rfl (.cons rfl .nil)))))) (.cons rfl .nil)
      · refine Tr.exit (Tr.exitThen (Tr.exitThen (Tr.exitBlock (Tr.normThen ?_))))
        refine Tr.seq ?_
        refine Tr.region ?_
        refine Tr.val (wn rfl) rfl (fun _ _ h1 h2 => run_move (h1.ev rfl)) ?_
        refine Tr.val (wn rfl) rfl (fun _ _ h1 h2 => run_assign (h1.ev rfl)) ?_
        refine Tr.nil (Tr.normThen ?_)
        refine Tr.ret ?_
        obtain rfl := Option.some.inj H
        exact Tr.out (m := [(.slice Al294 (l294).length cl294)]) [] (res_tmp rfl res_nil) (fun W hW => ⟨w, (Al294, cl294), leB, rfl, hl294, hW.pick (ks := [2]) (by decide) (pk_cons rfl pk_nil)⟩)

theorem F_shape_Set__Or_1_ok {w : Bs} (p0 : Bool) (p1 : Bool) (r : Bool) (H : F_shape_Set__Or_1 p0 p1 = some r) (hE : HF w w.W E0) : Calls Try.prog 108 [(.bool p0), (.bool p1)].toArray w.W fun e W' => e = .returned (.bool r) ∧ HF w W' E0 := by
  unfold F_shape_Set__Or_1 at H
  have leB := Bs.Le.refl w
  refine Tr.enter (n := 9) Try.func108 rfl rfl rfl hE ?_
  refine Tr.seq ?_
  refine Tr.region ?_
  refine Tr.val (wn rfl) rfl (fun _ _ h1 h2 => run_assign (h1.ev rfl)) ?_
  refine Tr.nil (Tr.normThen ?_)
  refine Tr.seq ?_
  refine Tr.region ?_
  refine Tr.val (wn rfl) rfl (fun _ _ h1 h2 => run_move (h1.ev rfl)) ?_
  refine Tr.val (wn rfl) rfl (fun _ _ h1 h2 => run_move (h1.ev rfl)) ?_
  refine Tr.mid0 2 [(8, (.bool (p0 || p1)))] [] ?_ ?_
  · cases hg99 : p0
    · refine Tr.val (wg rfl rfl rfl) rfl (fun _ _ h1 h2 => run_move (h1.ev rfl)) ?_
      refine Tr.val (wn rfl) rfl (fun _ _ h1 h2 => run_pickF (h1.ev rfl) (h1.ev rfl)) ?_
      exact Tr.nil (Tr.fin0 (.cons rfl .nil) .nil)
    · refine Tr.pass rfl rfl rfl rfl rfl (by decide) ?_
      refine Tr.val (wn rfl) rfl (fun _ _ h1 h2 => run_pickT (h1.ev rfl) (h1.ev rfl)) ?_
      exact Tr.nil (Tr.fin0 (.cons rfl .nil) .nil)
  · show Tr _ _ (LF [(8, (.bool (p0 || p1)))]) (LE []) _
    refine Tr.val (wn rfl) rfl (fun _ _ h1 h2 => run_assign (h1.ev rfl)) ?_
    refine Tr.nil (Tr.normThen ?_)
    refine Tr.ret ?_
    obtain rfl := Option.some.inj H
    exact Tr.out (m := [(.bool (p0 || p1))]) [] (res_tmp rfl res_nil) (fun W hW => ⟨rfl, hW.low leB⟩)

theorem F_shape_Set__Or_ok (N : Nat) {w : Bs} (p0 : (List TBand)) (Ap0_0 : Option Addr) (cp0_0 : Nat) (hp0_0 : Sl w.O w.W fl_TBand Ap0_0 cp0_0 p0) (p1 : (List TBand)) (Ap1_0 : Option Addr) (cp1_0 : Nat) (hp1_0 : Sl w.O w.W fl_TBand Ap1_0 cp1_0 p1) (r : (List TBand)) (H : F_shape_Set__Or N p0 p1 = some r) (hE : HF w w.W (LEn [emp])) : Calls Try.prog 78 [(.slice Ap0_0 (p0).length cp0_0), (.slice Ap1_0 (p1).length cp1_0)].toArray w.W fun e W' => ∃ (w' : Bs) (u : (Option Addr × Nat)), w.Le w' ∧ e = .returned (.slice u.1 (r).length u.2) ∧ (SlF u.1 (r).length u.2) ∧ HF w' W' (LEn [ow u.1 u.2 96 fl_TBand r]) := by
  unfold F_shape_Set__Or at H
  have leB := Bs.Le.refl w
  refine Tr.enter (n := 8) Try.func78 rfl rfl rfl hE ?_
  refine Tr.seq ?_
  refine Tr.region ?_
  refine Tr.val (wn rfl) rfl (fun _ _ h1 h2 => run_assign (h1.ev rfl)) ?_
  refine Tr.nilOwn 1 96 fl_TBand ?_
  show Tr _ _ (uf _ 4 (.slice none (([] : List TBand)).length 0)) _ _
  refine Tr.nil (Tr.normThen ?_)
  refine Tr.seq ?_
  refine Tr.region ?_
  refine Tr.val (wn rfl) rfl (fun _ _ h1 h2 => run_move (h1.ev rfl)) ?_
  refine Tr.val (wn rfl) rfl (fun _ _ h1 h2 => run_move (h1.ev rfl)) ?_
  obtain ⟨y100, hy100, H⟩ := bnd H
  refine Tr.callG [2] [emp] (U := (Option Addr × Nat)) (fun u => (.slice u.1 (y100).length u.2)) (fun O W u => SlF u.1 (y100).length u.2) (fun u => [ow u.1 u.2 96 fl_TBand y100]) rfl (pk_cons rfl pk_nil) (fun _ => rfl) (wn rfl) rfl Try.call107 (evl_cons rfl (evl_cons rfl (evl_cons rfl evl_nil))) (fun W hW hp hE => F_shape_Merge_ok N p0 Ap0_0 cp0_0 (hp0_0.extO (hW.extS hp)) p1 Ap1_0 cp1_0 (hp1_0.extO (hW.extS hp)) (fun z0 z1 => F_shape_Set__Or_1 z0 z1) 108 [] Try.call108 (fun w' he z0 z1 y hy => F_shape_Set__Or_1_ok z0 z1 y hy (HF.start _)) y100 hy100 hE) ?_
  intro w u le101 hu
  obtain ⟨Ay100_0, cy100_0⟩ := u
  have gy100_0 := hu
  replace hp0_0 := hp0_0.le le101
  replace hp1_0 := hp1_0.le le101
  replace leB := leB.trans le101
  have hgy100_0 : SlF Ay100_0 (y100).length cy100_0 := gy100_0 --@phi
  show Tr _ _ (uf _ 7 (.slice Ay100_0 (y100).length cy100_0)) (up _ 2 (ow Ay100_0 cy100_0 96 fl_TBand y100)) _
  refine Tr.val (wn rfl) rfl (fun _ _ h1 h2 => run_assign (h1.ev rfl)) ?_
  refine Tr.nil (Tr.normThen ?_)
  refine Tr.ret ?_
  obtain rfl := Option.some.inj H
  exact Tr.out (m := [(.slice Ay100_0 (y100).length cy100_0)]) [] (res_tmp rfl res_nil) (fun W hW => ⟨w, (Ay100_0, cy100_0), leB, rfl, hgy100_0, hW.pick (ks := [2]) (by decide) (pk_cons rfl pk_nil)⟩)

theorem F_shape_two__Or_ok (N : Nat) {w : Bs} (p0 : (List TRect)) (Ap0_0 : Option Addr) (cp0_0 : Nat) (hp0_0 : Sl w.R w.W fl_TRect Ap0_0 cp0_0 p0) (p1 : (List TRect)) (Ap1_0 : Option Addr) (cp1_0 : Nat) (hp1_0 : Sl w.R w.W fl_TRect Ap1_0 cp1_0 p1) (r : ((List TRect) × Int)) (H : F_shape_two__Or N p0 p1 = some r) (hE : HF w w.W (LEn [emp])) : Calls Try.prog 77 [(.slice Ap0_0 (p0).length cp0_0), (.slice Ap1_0 (p1).length cp1_0), (.func (.func 78) #[] #[])].toArray w.W fun e W' => ∃ u : (Option Addr × Nat), e = .returned (.tuple #[(.slice u.1 (r.1).length u.2), (.int .i64 r.2)]) ∧ (SlF u.1 (r.1).length u.2) ∧ HF w W' (LEn [ow u.1 u.2 29 fl_TRect r.1]) := by
  unfold F_shape_two__Or at H
  have leB := Bs.Le.refl w
  refine Tr.enter (n := 29) Try.func77 rfl rfl rfl hE ?_
  refine Tr.seq ?_
  refine Tr.region ?_
  refine Tr.val (wn rfl) rfl (fun _ _ h1 h2 => run_assign (h1.ev rfl)) ?_
  refine Tr.nilOwn 1 29 fl_TRect ?_
  show Tr _ _ (uf _ 6 (.slice none (([] : List TRect)).length 0)) _ _
  refine Tr.val (wn rfl) rfl (fun _ _ h1 h2 => run_assign (h1.ev rfl)) ?_
  refine Tr.nil (Tr.normThen ?_)
  refine Tr.seq ?_
  refine Tr.seq ?_
  refine Tr.region ?_
  refine Tr.val (wn rfl) rfl (fun _ _ h1 h2 => run_move (h1.ev rfl)) ?_
  obtain ⟨y100, hy100, H⟩ := bnd H
  refine Tr.call0 (r := (.int .i64 y100)) (wn rfl) rfl Try.call17 (evl_cons rfl evl_nil) (fun W hW => F_shape_CheckRegion_ok N p0 Ap0_0 cp0_0 (hp0_0.ext hW.extAll) y100 hy100 (HF.start _)) ?_
  refine Tr.val (wn rfl) rfl (fun _ _ h1 h2 => run_assign (h1.ev rfl)) ?_
  refine Tr.nil (Tr.normThen ?_)
  refine Tr.seq ?_
  refine Tr.region ?_
  refine Tr.val (wn rfl) rfl (fun _ _ h1 h2 => run_move (h1.ev rfl)) ?_
  refine Tr.val (wn rfl) rfl (fun _ _ h1 h2 => run_neq (h1.ev rfl) (h1.ev rfl)) ?_
  refine Tr.nil (Tr.normThen ?_)
  refine Tr.cond rfl H (fun H => ?_) (fun H => ?_)
  · refine Tr.seq ?_
    refine Tr.region ?_
    refine Tr.val (wn rfl) rfl (fun _ _ h1 h2 => run_move (h1.ev rfl)) ?_
    refine Tr.val (wn rfl) rfl (fun _ _ h1 h2 => run_assign (h1.ev rfl)) ?_
    refine Tr.nilOwn 2 29 fl_TRect ?_
    show Tr _ _ (uf _ 6 (.slice none (([] : List TRect)).length 0)) _ _
    refine Tr.val (wn rfl) rfl (fun _ _ h1 h2 => run_assign (h1.ev rfl)) ?_
    refine Tr.nil (Tr.normThen ?_)
    refine Tr.ret (Tr.retThen ?_)
    obtain rfl := Option.some.inj H
    exact Tr.out (m := [(.slice none (([] : List TRect)).length 0), (.int .i64 y100)]) [] (res_tmp rfl (res_tmp rfl res_nil)) (fun W hW => ⟨(none, 0), rfl, slf_nil, HF.lowE leB (hW.pick (ks := [2]) (by decide) (pk_cons rfl pk_nil)) ⟨ow_any _ _ _ _ tr_TRect, trivial⟩⟩)
  · refine Tr.skip (Tr.normThen ?_)
    refine Tr.seq ?_
    refine Tr.seq ?_
    refine Tr.region ?_
    refine Tr.val (wn rfl) rfl (fun _ _ h1 h2 => run_move (h1.ev rfl)) ?_
    obtain ⟨y101, hy101, H⟩ := bnd H
    refine Tr.call0 (r := (.int .i64 y101)) (wn rfl) rfl Try.call17 (evl_cons rfl evl_nil) (fun W hW => F_shape_CheckRegion_ok N p1 Ap1_0 cp1_0 (hp1_0.ext hW.extAll) y101 hy101 (HF.start _)) ?_
    refine Tr.val (wn rfl) rfl (fun _ _ h1 h2 => run_assign (h1.ev rfl)) ?_
    refine Tr.nil (Tr.normThen ?_)
    refine Tr.seq ?_
    refine Tr.region ?_
    refine Tr.val (wn rfl) rfl (fun _ _ h1 h2 => run_move (h1.ev rfl)) ?_
    refine Tr.val (wn rfl) rfl (fun _ _ h1 h2 => run_neq (h1.ev rfl) (h1.ev rfl)) ?_
    refine Tr.nil (Tr.normThen ?_)
    refine Tr.cond rfl H (fun H => ?_) (fun H => ?_)
    · refine Tr.seq ?_
      refine Tr.region ?_
      refine Tr.val (wn rfl) rfl (fun _ _ h1 h2 => run_move (h1.ev rfl)) ?_
      refine Tr.val (wn rfl) rfl (fun _ _ h1 h2 => run_assign (h1.ev rfl)) ?_
      refine Tr.nilOwn 3 29 fl_TRect ?_
      show Tr _ _ (uf _ 6 (.slice none (([] : List TRect)).length 0)) _ _
      refine Tr.val (wn rfl) rfl (fun _ _ h1 h2 => run_assign (h1.ev rfl)) ?_
      refine Tr.nil (Tr.normThen ?_)
      refine Tr.ret (Tr.retThen ?_)
      obtain rfl := Option.some.inj H
      exact Tr.out (m := [(.slice none (([] : List TRect)).length 0), (.int .i64 y101)]) [] (res_tmp rfl (res_tmp rfl res_nil)) (fun W hW => ⟨(none, 0), rfl, slf_nil, HF.lowE leB (hW.pick (ks := [3]) (by decide) (pk_cons rfl pk_nil)) ⟨ow_any _ _ _ _ tr_TRect, trivial⟩⟩)
    · refine Tr.skip (Tr.normThen ?_)
      refine Tr.seq ?_
      refine Tr.region ?_
      refine Tr.val (wn rfl) rfl (fun _ _ h1 h2 => run_move (h1.ev rfl)) ?_
      refine Tr.val (wn rfl) rfl (fun _ _ h1 h2 => run_move (h1.ev rfl)) ?_
      obtain ⟨y102, hy102, H⟩ := bnd H
      refine Tr.callG [4] [emp] (U := (Option Addr × Nat)) (fun u => (.slice u.1 (y102).length u.2)) (fun O W u => SlF u.1 (y102).length u.2) (fun u => [ow u.1 u.2 96 fl_TBand y102]) rfl (pk_cons rfl pk_nil) (fun _ => rfl) (wn rfl) rfl Try.call50 (evl_cons rfl evl_nil) (fun W hW hp hE => F_shape_SetOf_ok N p0 Ap0_0 cp0_0 (hp0_0.ext (hW.extS hp)) y102 hy102 hE) ?_
      intro w u le103 hu
      obtain ⟨Ay102_0, cy102_0⟩ := u
      have gy102_0 := hu
      replace hp0_0 := hp0_0.leR le103
      replace hp1_0 := hp1_0.leR le103
      replace leB := leB.trans le103
      have hgy102_0 : SlF Ay102_0 (y102).length cy102_0 := gy102_0 --@phi
      show Tr _ _ (uf _ 22 (.slice Ay102_0 (y102).length cy102_0)) (up _ 4 (ow Ay102_0 cy102_0 96 fl_TBand y102)) _
      refine Tr.val (wn rfl) rfl (fun _ _ h1 h2 => run_move (h1.ev rfl)) ?_
      obtain ⟨y104, hy104, H⟩ := bnd H
      refine Tr.callG [5] [emp] (U := (Option Addr × Nat)) (fun u => (.slice u.1 (y104).length u.2)) (fun O W u => SlF u.1 (y104).length u.2) (fun u => [ow u.1 u.2 96 fl_TBand y104]) rfl (pk_cons rfl pk_nil) (fun _ => rfl) (wn rfl) rfl Try.call50 (evl_cons rfl evl_nil) (fun W hW hp hE => F_shape_SetOf_ok N p1 Ap1_0 cp1_0 (hp1_0.ext (hW.extS hp)) y104 hy104 hE) ?_
      intro w u le105 hu
      obtain ⟨Ay104_0, cy104_0⟩ := u
      have gy104_0 := hu
      replace hp0_0 := hp0_0.leR le105
      replace hp1_0 := hp1_0.leR le105
      replace leB := leB.trans le105
      have hgy104_0 : SlF Ay104_0 (y104).length cy104_0 := gy104_0 --@phi
      show Tr _ _ (uf _ 24 (.slice Ay104_0 (y104).length cy104_0)) (up _ 5 (ow Ay104_0 cy104_0 96 fl_TBand y104)) _
      refine Tr.freeze 4 rfl fun w le107 hz106 => ?_
      replace hp0_0 := hp0_0.leR le107
      replace hp1_0 := hp1_0.leR le107
      replace leB := leB.trans le107
      refine Tr.freeze 5 rfl fun w le109 hz108 => ?_
      replace hp0_0 := hp0_0.leR le109
      replace hp1_0 := hp1_0.leR le109
      replace hz106 := hz106.le le109
      replace leB := leB.trans le109
      obtain ⟨y110, hy110, H⟩ := bnd H
      refine Tr.callGV [6] [emp] (U := (Option Addr × Nat)) (fun u => (.slice u.1 (y110).length u.2)) (fun O W u => SlF u.1 (y110).length u.2) (fun u => [ow u.1 u.2 96 fl_TBand y110]) rfl (pk_cons rfl pk_nil) (fun _ => rfl) (wn rfl) rfl rfl Try.call78 (evl_cons rfl (evl_cons rfl evl_nil)) (fun W hW hp hE => F_shape_Set__Or_ok N y102 Ay102_0 cy102_0 (hz106.extO (hW.extS hp)) y104 Ay104_0 cy104_0 (hz108.extO (hW.extS hp)) y110 hy110 hE) ?_
      intro w u le111 hu
      obtain ⟨Ay110_0, cy110_0⟩ := u
      have gy110_0 := hu
      replace hp0_0 := hp0_0.leR le111
      replace hp1_0 := hp1_0.leR le111
      replace hz106 := hz106.le le111
      replace hz108 := hz108.le le111
      replace leB := leB.trans le111
      have hgy110_0 : SlF Ay110_0 (y110).length cy110_0 := gy110_0 --@phi
      show Tr _ _ (uf _ 25 (.slice Ay110_0 (y110).length cy110_0)) (up _ 6 (ow Ay110_0 cy110_0 96 fl_TBand y110)) _
      obtain ⟨y112, hy112, H⟩ := bnd H
      refine Tr.callM [7] [emp] (U := (Option Addr × Nat)) (fun u => (.tuple #[(.slice u.1 (y112.1).length u.2), (.int .i64 y112.2)])) (fun u => SlF u.1 (y112.1).length u.2) (fun u => [ow u.1 u.2 29 fl_TRect y112.1]) rfl (pk_cons rfl pk_nil) (fun _ => rfl) (wn rfl) rfl Try.call51 (evl_cons rfl evl_nil) (fun W hW hp hE => F_shape_Set__Told_ok N y110 Ay110_0 cy110_0 (hW.slS (k := 6) rfl hp rfl) y112 hy112 hE) ?_
      intro u hu
      obtain ⟨Ay112_0, cy112_0⟩ := u
      have gy112_0 := hu
      have hgy112_0 : SlF Ay112_0 (y112.1).length cy112_0 := gy112_0 --@phi
      show Tr _ _ (uf _ 26 (.tuple #[(.slice Ay112_0 (y112.1).length cy112_0), (.int .i64 y112.2)])) (up _ 7 (ow Ay112_0 cy112_0 29 fl_TRect y112.1)) _
      refine Tr.val (wn rfl) rfl (fun _ _ h1 h2 => run_extract (h1.ev rfl) rfl) ?_
      refine Tr.val (wn rfl) rfl (fun _ _ h1 h2 => run_extract (h1.ev rfl) rfl) ?_
      refine Tr.val (wn rfl) rfl (fun _ _ h1 h2 => run_assign (h1.ev rfl)) ?_
      refine Tr.val (wn rfl) rfl (fun _ _ h1 h2 => run_assign (h1.ev rfl)) ?_
      refine Tr.nil (Tr.normThen ?_)
      refine Tr.ret ?_
      obtain rfl := Option.some.inj H
      exact Tr.out (m := [(.slice Ay112_0 (y112.1).length cy112_0), (.int .i64 y112.2)]) [] (res_tmp rfl (res_tmp rfl res_nil)) (fun W hW => ⟨(Ay112_0, cy112_0), rfl, hgy112_0, HF.lowE leB (hW.pick (ks := [7]) (by decide) (pk_cons rfl pk_nil)) ⟨ow_any _ _ _ _ tr_TRect, trivial⟩⟩)

theorem F_shape_Union_ok (N : Nat) {w : Bs} (p0 : (List TRect)) (Ap0_0 : Option Addr) (cp0_0 : Nat) (hp0_0 : Sl w.R w.W fl_TRect Ap0_0 cp0_0 p0) (p1 : (List TRect)) (Ap1_0 : Option Addr) (cp1_0 : Nat) (hp1_0 : Sl w.R w.W fl_TRect Ap1_0 cp1_0 p1) (r : ((List TRect) × Int)) (H : F_shape_Union N p0 p1 = some r) (hE : HF w w.W (LEn [emp])) : Calls Try.prog 40 [(.slice Ap0_0 (p0).length cp0_0), (.slice Ap1_0 (p1).length cp1_0)].toArray w.W fun e W' => ∃ u : (Option Addr × Nat), e = .returned (.tuple #[(.slice u.1 (r.1).length u.2), (.int .i64 r.2)]) ∧ (SlF u.1 (r.1).length u.2) ∧ HF w W' (LEn [ow u.1 u.2 29 fl_TRect r.1]) := by
  unfold F_shape_Union at H
  have leB := Bs.Le.refl w
  refine Tr.enter (n := 11) Try.func40 rfl rfl rfl hE ?_
  refine Tr.seq ?_
  refine Tr.region ?_
  refine Tr.val (wn rfl) rfl (fun _ _ h1 h2 => run_assign (h1.ev rfl)) ?_
  refine Tr.nilOwn 1 29 fl_TRect ?_
  show Tr _ _ (uf _ 4 (.slice none (([] : List TRect)).length 0)) _ _
  refine Tr.val (wn rfl) rfl (fun _ _ h1 h2 => run_assign (h1.ev rfl)) ?_
  refine Tr.nil (Tr.normThen ?_)
  refine Tr.seq ?_
  refine Tr.region ?_
  refine Tr.val (wn rfl) rfl (fun _ _ h1 h2 => run_move (h1.ev rfl)) ?_
  refine Tr.val (wn rfl) rfl (fun _ _ h1 h2 => run_move (h1.ev rfl)) ?_
  obtain ⟨y100, hy100, H⟩ := bnd H
  refine Tr.callM [2] [emp] (U := (Option Addr × Nat)) (fun u => (.tuple #[(.slice u.1 (y100.1).length u.2), (.int .i64 y100.2)])) (fun u => SlF u.1 (y100.1).length u.2) (fun u => [ow u.1 u.2 29 fl_TRect y100.1]) rfl (pk_cons rfl pk_nil) (fun _ => rfl) (wn rfl) rfl Try.call77 (evl_cons rfl (evl_cons rfl (evl_cons rfl evl_nil))) (fun W hW hp hE => F_shape_two__Or_ok N p0 Ap0_0 cp0_0 (hp0_0.ext (hW.extS hp)) p1 Ap1_0 cp1_0 (hp1_0.ext (hW.extS hp)) y100 hy100 hE) ?_
  intro u hu
  obtain ⟨Ay100_0, cy100_0⟩ := u
  have gy100_0 := hu
  have hgy100_0 : SlF Ay100_0 (y100.1).length cy100_0 := gy100_0 --@phi
  show Tr _ _ (uf _ 8 (.tuple #[(.slice Ay100_0 (y100.1).length cy100_0), (.int .i64 y100.2)])) (up _ 2 (ow Ay100_0 cy100_0 29 fl_TRect y100.1)) _
  refine Tr.val (wn rfl) rfl (fun _ _ h1 h2 => run_extract (h1.ev rfl) rfl) ?_
  refine Tr.val (wn rfl) rfl (fun _ _ h1 h2 => run_extract (h1.ev rfl) rfl) ?_
  refine Tr.val (wn rfl) rfl (fun _ _ h1 h2 => run_assign (h1.ev rfl)) ?_
  refine Tr.val (wn rfl) rfl (fun _ _ h1 h2 => run_assign (h1.ev rfl)) ?_
  refine Tr.nil (Tr.normThen ?_)
  refine Tr.ret ?_
  obtain rfl := Option.some.inj H
  exact Tr.out (m := [(.slice Ay100_0 (y100.1).length cy100_0), (.int .i64 y100.2)]) [] (res_tmp rfl (res_tmp rfl res_nil)) (fun W hW => ⟨(Ay100_0, cy100_0), rfl, hgy100_0, HF.lowE leB (hW.pick (ks := [2]) (by decide) (pk_cons rfl pk_nil)) ⟨ow_any _ _ _ _ tr_TRect, trivial⟩⟩)

theorem F_etchhouseref1_mixed_ok (N : Nat) {w : Bs} (p0 : (List TSpan)) (Ap0_0 : Option Addr) (cp0_0 : Nat) (hp0_0 : Sl w.R w.W fl_TSpan Ap0_0 cp0_0 p0) (p1 : (List TSpan)) (Ap1_0 : Option Addr) (cp1_0 : Nat) (hp1_0 : Sl w.R w.W fl_TSpan Ap1_0 cp1_0 p1) (p2 : Int) (r : (List TSpan)) (H : F_etchhouseref1_mixed N p0 p1 p2 = some r) (hE : HF w w.W (LEn [emp])) : Calls Try.prog 125 [(.slice Ap0_0 (p0).length cp0_0), (.slice Ap1_0 (p1).length cp1_0), (.int .i64 p2)].toArray w.W fun e W' => ∃ u : (Option Addr × Nat), e = .returned (.slice u.1 (r).length u.2) ∧ (SlF u.1 (r).length u.2) ∧ HF w W' (LEn [ow u.1 u.2 124 fl_TSpan r]) := by
  unfold F_etchhouseref1_mixed at H
  have leB := Bs.Le.refl w
  refine Tr.enter (n := 114) Try.func125 rfl rfl rfl hE ?_
  refine Tr.seq ?_
  refine Tr.region ?_
  refine Tr.val (wn rfl) rfl (fun _ _ h1 h2 => run_assign (h1.ev rfl)) ?_
  refine Tr.nilOwn 1 124 fl_TSpan ?_
  show Tr _ _ (uf _ 6 (.slice none (([] : List TSpan)).length 0)) _ _
  refine Tr.nil (Tr.normThen ?_)
  refine Tr.seq ?_
  refine Tr.region ?_
  refine Tr.val (wn rfl) rfl (fun _ _ h1 h2 => run_assign (h1.ev rfl)) ?_
  refine Tr.nilOwn 2 3 fl_i64 ?_
  show Tr _ _ (uf _ 7 (.slice none (([] : List Int)).length 0)) _ _
  refine Tr.nil (Tr.normThen ?_)
  refine Tr.seq ?_
  refine Tr.seq ?_
  refine Tr.region ?_
  refine Tr.val (wn rfl) rfl (fun _ _ h1 h2 => run_assign (h1.ev rfl)) ?_
  refine Tr.nil (Tr.normThen ?_)
  refine Tr.block ?_
  refine Tr.freeze 2 rfl fun w le125 hz124 => ?_
  replace hp0_0 := hp0_0.leR le125
  replace hp1_0 := hp1_0.leR le125
  replace leB := leB.trans le125
  refine Tr.loop (σ := (List Int) × Int × (Option Addr) × Nat) (fun m w s => F_etchhouseref1_mixed_L1 N p0 p1 p2 m s.1 s.2.1 = some r ∧ Sl w.O w.W fl_i64 s.2.2.1 s.2.2.2 s.1) (fun s => [(0, (.slice Ap0_0 (p0).length cp0_0)), (1, (.slice Ap1_0 (p1).length cp1_0)), (2, (.int .i64 p2)), (7, (.slice s.2.2.1 (s.1).length s.2.2.2)), (8, (.int .i64 s.2.1))]) (fun s => []) N (([] : List Int), 0, none, 0) ⟨H, hz124⟩ (.cons rfl (.cons rfl (.cons rfl (.cons rfl (.cons rfl .nil))))) .nil (fun _ _ h => noSome (h.1)) ?_
  intro w leF_etchhouseref1_mixed_L1 mF_etchhouseref1_mixed_L1 s hs
  obtain ⟨l122, x123, Al122, cl122⟩ := s
  obtain ⟨H, hl122⟩ := hs
  replace H : F_etchhouseref1_mixed_L1 N p0 p1 p2 (mF_etchhouseref1_mixed_L1 + 1) l122 x123 = some r := H
  replace hp0_0 := hp0_0.leR leF_etchhouseref1_mixed_L1
  replace hp1_0 := hp1_0.leR leF_etchhouseref1_mixed_L1
  replace leB := leB.trans leF_etchhouseref1_mixed_L1
  replace hl122 : Sl w.O w.W fl_i64 Al122 cl122 l122 := hl122
  rw [F_etchhouseref1_mixed_L1.eq_2] at H
  show Tr _ _ (LF [(0, (.slice Ap0_0 (p0).length cp0_0)), (1, (.slice Ap1_0 (p1).length cp1_0)), (2, (.int .i64 p2)), (7, (.slice Al122 (l122).length cl122)), (8, (.int .i64 x123))]) (LE []) _
  refine Tr.seq ?_
  refine Tr.seq ?_
  refine Tr.region ?_
  refine Tr.val (wn rfl) rfl (fun _ _ h1 h2 => run_move (h1.ev rfl)) ?_
  refine Tr.val (wn rfl) rfl (fun _ _ h1 h2 => run_move (h1.ev rfl)) ?_
  refine Tr.val (wn rfl) rfl (fun _ _ h1 h2 => run_len un_100 (h1.ev rfl)) ?_
  refine Tr.val (wn rfl) rfl (fun _ _ h1 h2 => run_lss (h1.ev rfl) (h1.ev rfl)) ?_
  refine Tr.nil (Tr.normThen ?_)
  refine Tr.cond rfl H (fun H => ?_) (fun H => ?_)
  · refine Tr.skip (Tr.normThen ?_)
    refine Tr.seq ?_
    refine Tr.block ?_
    refine Tr.drawC 12 [] [] (by kernel_rfl) (by kernel_rfl) fun sz126 hlosz126 hEsz126 => ?_
    refine Dr.quiet 0 [(20, (.slice Al122 (l122).length cl122))] (by kernel_rfl) rfl rfl (by kernel_rfl) ?_ rfl rfl ?_
    · refine Tq.val (wn rfl) rfl (fun _ _ h1 h2 => run_move (h1.ev rfl)) ?_
      exact Tq.fin (.cons rfl .nil)
    refine Dr.quiet 1 [(21, (.slice Ap0_0 (p0).length cp0_0))] (by kernel_rfl) rfl rfl (by kernel_rfl) ?_ rfl rfl ?_
    · refine Tq.val (wn rfl) rfl (fun _ _ h1 h2 => run_move (h1.ev rfl)) ?_
      exact Tq.fin (.cons rfl .nil)
    refine Dr.quiet 2 [(22, (.int .i64 x123))] (by kernel_rfl) rfl rfl (by kernel_rfl) ?_ rfl rfl ?_
    · refine Tq.val (wn rfl) rfl (fun _ _ h1 h2 => run_move (h1.ev rfl)) ?_
      exact Tq.fin (.cons rfl .nil)
    obtain ⟨x127, hx127, H⟩ := bnd H
    obtain ⟨hx1270, hx1271, hx1272⟩ := idx_some hx127
    refine Dr.quiet 3 [(23, (.pointer (some ⟨adB Ap0_0, adO Ap0_0 + (x123).toNat * 2, none⟩)))] (by kernel_rfl) rfl rfl (by kernel_rfl) ?_ rfl rfl ?_
    · refine Tq.val (wn rfl) rfl (fun _ _ h1 h2 => run_indexAddr el_100 (h1.ev rfl) hp0_0.form (h1.ev rfl) hx1270 hx1271) ?_
      exact Tq.fin (.cons rfl .nil)
    refine Dr.quiet 4 [(24, (.pointer (some ⟨adB Ap0_0, adO Ap0_0 + (x123).toNat * 2 + 0, none⟩)))] (by kernel_rfl) rfl rfl (by kernel_rfl) ?_ rfl rfl ?_
    · refine Tq.val (wn rfl) rfl (fun _ _ h1 h2 => run_fieldAddr fo_124_0 (h1.ev rfl)) ?_
      exact Tq.fin (.cons rfl .nil)
    refine Dr.quiet 5 [(25, (.int .i64 x127.from_))] (by kernel_rfl) rfl rfl (by kernel_rfl) ?_ rfl rfl ?_
    · refine Tq.val (wn rfl) rfl (fun _ _ h1 h2 => run_load1 ag_3 (h1.ev rfl) (CellsAt.drop (rdF ef_TSpan hp0_0 hx1272 h2) 0) rfl) ?_
      exact Tq.fin (.cons rfl .nil)
    refine Dr.quiet 7 [(27, (.slice Ap0_0 (p0).length cp0_0))] (by kernel_rfl) rfl rfl (by kernel_rfl) ?_ rfl rfl ?_
    · refine Tq.val (wn rfl) rfl (fun _ _ h1 h2 => run_move (h1.ev rfl)) ?_
      exact Tq.fin (.cons rfl .nil)
    refine Dr.quiet 8 [(28, (.int .i64 x123))] (by kernel_rfl) rfl rfl (by kernel_rfl) ?_ rfl rfl ?_
    · refine Tq.val (wn rfl) rfl (fun _ _ h1 h2 => run_move (h1.ev rfl)) ?_
      exact Tq.fin (.cons rfl .nil)
    obtain ⟨x128, hx128, H⟩ := bnd H
    obtain ⟨hx1280, hx1281, hx1282⟩ := idx_some hx128
    refine Dr.quiet 9 [(29, (.pointer (some ⟨adB Ap0_0, adO Ap0_0 + (x123).toNat * 2, none⟩)))] (by kernel_rfl) rfl rfl (by kernel_rfl) ?_ rfl rfl ?_
    · refine Tq.val (wn rfl) rfl (fun _ _ h1 h2 => run_indexAddr el_100 (h1.ev rfl) hp0_0.form (h1.ev rfl) hx1280 hx1281) ?_
      exact Tq.fin (.cons rfl .nil)
    refine Dr.quiet 10 [(30, (.pointer (some ⟨adB Ap0_0, adO Ap0_0 + (x123).toNat * 2 + 1, none⟩)))] (by kernel_rfl) rfl rfl (by kernel_rfl) ?_ rfl rfl ?_
    · refine Tq.val (wn rfl) rfl (fun _ _ h1 h2 => run_fieldAddr fo_124_1 (h1.ev rfl)) ?_
      exact Tq.fin (.cons rfl .nil)
    refine Dr.quiet 11 [(31, (.int .i64 x128.to_))] (by kernel_rfl) rfl rfl (by kernel_rfl) ?_ rfl rfl ?_
    · refine Tq.val (wn rfl) rfl (fun _ _ h1 h2 => run_load1 ag_3 (h1.ev rfl) (CellsAt.drop (rdF ef_TSpan hp0_0 hx1282 h2) 1) rfl) ?_
      exact Tq.fin (.cons rfl .nil)
    obtain ⟨y129, hy129, H⟩ := bnd H
    refine Dr.one 6 (by kernel_rfl) ?_
    refine St.callG 6 [] [] (U := (Option Addr × Nat)) (fun u => (.slice u.1 (y129).length u.2)) (fun O W u => Sl O W fl_i64 u.1 u.2 y129) (fun u => []) rfl pk_nil (fun _ => rfl) (insS_no rfl) rfl (wn rfl) rfl Try.call118 (evl_cons rfl (evl_cons rfl evl_nil)) (fun W hW hp hE => F_etchhouseref1_put_ok N l122 Al122 cl122 (hl122.extO (hW.extS hp)) x127.from_ y129 hy129 hE) ?_
    intro w u le130 hu hsy129
    obtain ⟨Ay129_0, cy129_0⟩ := u
    have gy129_0 := hu
    replace hp0_0 := hp0_0.leR le130
    replace hp1_0 := hp1_0.leR le130
    replace hl122 := hl122.le le130
    replace leB := leB.trans le130
    replace leF_etchhouseref1_mixed_L1 := leF_etchhouseref1_mixed_L1.trans le130
    have hgy129_0 : Sl w.O w.W fl_i64 Ay129_0 cy129_0 y129 := gy129_0
    show Dr _ _ _ _ _ _ _ _ _ (uf _ 26 (.slice Ay129_0 (y129).length cy129_0)) (_)
    refine Dr.tail (by kernel_rfl) ?_
    obtain ⟨y131, hy131, H⟩ := bnd H
    refine Tr.callG [] [] (U := (Option Addr × Nat)) (fun u => (.slice u.1 (y131).length u.2)) (fun O W u => Sl O W fl_i64 u.1 u.2 y131) (fun u => []) rfl pk_nil (fun _ => rfl) (wn rfl) rfl Try.call118 (evl_cons rfl (evl_cons rfl evl_nil)) (fun W hW hp hE => F_etchhouseref1_put_ok N y129 Ay129_0 cy129_0 (hgy129_0.extO (hW.extS hp)) x128.to_ y131 hy131 hE) ?_
    intro w u le132 hu
    obtain ⟨Ay131_0, cy131_0⟩ := u
    have gy131_0 := hu
    replace hp0_0 := hp0_0.leR le132
    replace hp1_0 := hp1_0.leR le132
    replace hl122 := hl122.le le132
    replace hgy129_0 := hgy129_0.le le132
    replace leB := leB.trans le132
    replace leF_etchhouseref1_mixed_L1 := leF_etchhouseref1_mixed_L1.trans le132
    have hgy131_0 : Sl w.O w.W fl_i64 Ay131_0 cy131_0 y131 := gy131_0 --@phi
    show Tr _ _ (uf _ 32 (.slice Ay131_0 (y131).length cy131_0)) (_) _
    refine Tr.val (wn rfl) rfl (fun _ _ h1 h2 => run_assign (h1.ev rfl)) ?_
    refine Tr.nil (Tr.normBlock (Tr.normThen ?_))
    refine Tr.region ?_
    refine Tr.val (wn rfl) rfl (fun _ _ h1 h2 => run_move (h1.ev rfl)) ?_
    refine Tr.val (wn rfl) rfl (fun _ _ h1 h2 => run_add (h1.ev rfl) (h1.ev rfl)) ?_
    refine Tr.val (wn rfl) rfl (fun _ _ h1 h2 => run_assign (h1.ev rfl)) ?_
    refine Tr.nil ?_
    exact Tr.backThen leF_etchhouseref1_mixed_L1 (y131, (w64 (x123 + 1)), Ay131_0, cy131_0) ⟨H, hgy131_0⟩ (.cons rfl (.cons rfl (.cons rfl (.cons rfl (.cons rfl .nil))))) .nil
  · refine Tr.exit (Tr.exitThen (Tr.exitThen (Tr.exitBlock (Tr.normThen ?_))))
    refine Tr.seq ?_
    refine Tr.seq ?_
    refine Tr.region ?_
    refine Tr.val (wn rfl) rfl (fun _ _ h1 h2 => run_assign (h1.ev rfl)) ?_
    refine Tr.nil (Tr.normThen ?_)
    refine Tr.block ?_
    refine Tr.loop (σ := (List Int) × Int × (Option Addr) × Nat) (fun m w s => F_etchhouseref1_mixed_L2 N p0 p1 p2 m s.1 s.2.1 = some r ∧ Sl w.O w.W fl_i64 s.2.2.1 s.2.2.2 s.1) (fun s => [(0, (.slice Ap0_0 (p0).length cp0_0)), (1, (.slice Ap1_0 (p1).length cp1_0)), (2, (.int .i64 p2)), (7, (.slice s.2.2.1 (s.1).length s.2.2.2)), (9, (.int .i64 s.2.1))]) (fun s => []) N (l122, 0, Al122, cl122) ⟨H, hl122⟩ (.cons rfl (.cons rfl (.cons rfl (.cons rfl (.cons rfl .nil))))) .nil (fun _ _ h => noSome (h.1)) ?_
    intro w leF_etchhouseref1_mixed_L2 mF_etchhouseref1_mixed_L2 s hs
    obtain ⟨l153, x154, Al153, cl153⟩ := s
    obtain ⟨H, hl153⟩ := hs
    replace H : F_etchhouseref1_mixed_L2 N p0 p1 p2 (mF_etchhouseref1_mixed_L2 + 1) l153 x154 = some r := H
    replace hp0_0 := hp0_0.leR leF_etchhouseref1_mixed_L2
    replace hp1_0 := hp1_0.leR leF_etchhouseref1_mixed_L2
    replace leB := leB.trans leF_etchhouseref1_mixed_L2
    replace leF_etchhouseref1_mixed_L1 := leF_etchhouseref1_mixed_L1.trans leF_etchhouseref1_mixed_L2
    replace hl153 : Sl w.O w.W fl_i64 Al153 cl153 l153 := hl153
    rw [F_etchhouseref1_mixed_L2.eq_2] at H
    show Tr _ _ (LF [(0, (.slice Ap0_0 (p0).length cp0_0)), (1, (.slice Ap1_0 (p1).length cp1_0)), (2, (.int .i64 p2)), (7, (.slice Al153 (l153).length cl153)), (9, (.int .i64 x154))]) (LE []) _
    refine Tr.seq ?_
    refine Tr.seq ?_
    refine Tr.region ?_
    refine Tr.val (wn rfl) rfl (fun _ _ h1 h2 => run_move (h1.ev rfl)) ?_
    refine Tr.val (wn rfl) rfl (fun _ _ h1 h2 => run_move (h1.ev rfl)) ?_
    refine Tr.val (wn rfl) rfl (fun _ _ h1 h2 => run_len un_100 (h1.ev rfl)) ?_
    refine Tr.val (wn rfl) rfl (fun _ _ h1 h2 => run_lss (h1.ev rfl) (h1.ev rfl)) ?_
    refine Tr.nil (Tr.normThen ?_)
    refine Tr.cond rfl H (fun H => ?_) (fun H => ?_)
    · refine Tr.skip (Tr.normThen ?_)
      refine Tr.seq ?_
      refine Tr.block ?_
      refine Tr.drawC 12 [] [] (by kernel_rfl) (by kernel_rfl) fun sz155 hlosz155 hEsz155 => ?_
      refine Dr.quiet 0 [(39, (.slice Al153 (l153).length cl153))] (by kernel_rfl) rfl rfl (by kernel_rfl) ?_ rfl rfl ?_
      · refine Tq.val (wn rfl) rfl (fun _ _ h1 h2 => run_move (h1.ev rfl)) ?_
        exact Tq.fin (.cons rfl .nil)
      refine Dr.quiet 1 [(40, (.slice Ap1_0 (p1).length cp1_0))] (by kernel_rfl) rfl rfl (by kernel_rfl) ?_ rfl rfl ?_
      · refine Tq.val (wn rfl) rfl (fun _ _ h1 h2 => run_move (h1.ev rfl)) ?_
        exact Tq.fin (.cons rfl .nil)
      refine Dr.quiet 2 [(41, (.int .i64 x154))] (by kernel_rfl) rfl rfl (by kernel_rfl) ?_ rfl rfl ?_
      · refine Tq.val (wn rfl) rfl (fun _ _ h1 h2 => run_move (h1.ev rfl)) ?_
        exact Tq.fin (.cons rfl .nil)
      obtain ⟨x156, hx156, H⟩ := bnd H
      obtain ⟨hx1560, hx1561, hx1562⟩ := idx_some hx156
      refine Dr.quiet 3 [(42, (.pointer (some ⟨adB Ap1_0, adO Ap1_0 + (x154).toNat * 2, none⟩)))] (by kernel_rfl) rfl rfl (by kernel_rfl) ?_ rfl rfl ?_
      · refine Tq.val (wn rfl) rfl (fun _ _ h1 h2 => run_indexAddr el_100 (h1.ev rfl) hp1_0.form (h1.ev rfl) hx1560 hx1561) ?_
        exact Tq.fin (.cons rfl .nil)
      refine Dr.quiet 4 [(43, (.pointer (some ⟨adB Ap1_0, adO Ap1_0 + (x154).toNat * 2 + 0, none⟩)))] (by kernel_rfl) rfl rfl (by kernel_rfl) ?_ rfl rfl ?_
      · refine Tq.val (wn rfl) rfl (fun _ _ h1 h2 => run_fieldAddr fo_124_0 (h1.ev rfl)) ?_
        exact Tq.fin (.cons rfl .nil)
      refine Dr.quiet 5 [(44, (.int .i64 x156.from_))] (by kernel_rfl) rfl rfl (by kernel_rfl) ?_ rfl rfl ?_
      · refine Tq.val (wn rfl) rfl (fun _ _ h1 h2 => run_load1 ag_3 (h1.ev rfl) (CellsAt.drop (rdF ef_TSpan hp1_0 hx1562 h2) 0) rfl) ?_
        exact Tq.fin (.cons rfl .nil)
      refine Dr.quiet 7 [(46, (.slice Ap1_0 (p1).length cp1_0))] (by kernel_rfl) rfl rfl (by kernel_rfl) ?_ rfl rfl ?_
      · refine Tq.val (wn rfl) rfl (fun _ _ h1 h2 => run_move (h1.ev rfl)) ?_
        exact Tq.fin (.cons rfl .nil)
      refine Dr.quiet 8 [(47, (.int .i64 x154))] (by kernel_rfl) rfl rfl (by kernel_rfl) ?_ rfl rfl ?_
      · refine Tq.val (wn rfl) rfl (fun _ _ h1 h2 => run_move (h1.ev rfl)) ?_
        exact Tq.fin (.cons rfl .nil)
      obtain ⟨x157, hx157, H⟩ := bnd H
      obtain ⟨hx1570, hx1571, hx1572⟩ := idx_some hx157
      refine Dr.quiet 9 [(48, (.pointer (some ⟨adB Ap1_0, adO Ap1_0 + (x154).toNat * 2, none⟩)))] (by kernel_rfl) rfl rfl (by kernel_rfl) ?_ rfl rfl ?_
      · refine Tq.val (wn rfl) rfl (fun _ _ h1 h2 => run_indexAddr el_100 (h1.ev rfl) hp1_0.form (h1.ev rfl) hx1570 hx1571) ?_
        exact Tq.fin (.cons rfl .nil)
      refine Dr.quiet 10 [(49, (.pointer (some ⟨adB Ap1_0, adO Ap1_0 + (x154).toNat * 2 + 1, none⟩)))] (by kernel_rfl) rfl rfl (by kernel_rfl) ?_ rfl rfl ?_
      · refine Tq.val (wn rfl) rfl (fun _ _ h1 h2 => run_fieldAddr fo_124_1 (h1.ev rfl)) ?_
        exact Tq.fin (.cons rfl .nil)
      refine Dr.quiet 11 [(50, (.int .i64 x157.to_))] (by kernel_rfl) rfl rfl (by kernel_rfl) ?_ rfl rfl ?_
      · refine Tq.val (wn rfl) rfl (fun _ _ h1 h2 => run_load1 ag_3 (h1.ev rfl) (CellsAt.drop (rdF ef_TSpan hp1_0 hx1572 h2) 1) rfl) ?_
        exact Tq.fin (.cons rfl .nil)
      obtain ⟨y158, hy158, H⟩ := bnd H
      refine Dr.one 6 (by kernel_rfl) ?_
      refine St.callG 6 [] [] (U := (Option Addr × Nat)) (fun u => (.slice u.1 (y158).length u.2)) (fun O W u => Sl O W fl_i64 u.1 u.2 y158) (fun u => []) rfl pk_nil (fun _ => rfl) (insS_no rfl) rfl (wn rfl) rfl Try.call118 (evl_cons rfl (evl_cons rfl evl_nil)) (fun W hW hp hE => F_etchhouseref1_put_ok N l153 Al153 cl153 (hl153.extO (hW.extS hp)) x156.from_ y158 hy158 hE) ?_
      intro w u le159 hu hsy158
      obtain ⟨Ay158_0, cy158_0⟩ := u
      have gy158_0 := hu
      replace hp0_0 := hp0_0.leR le159
      replace hp1_0 := hp1_0.leR le159
      replace hl153 := hl153.le le159
      replace leB := leB.trans le159
      replace leF_etchhouseref1_mixed_L1 := leF_etchhouseref1_mixed_L1.trans le159
      replace leF_etchhouseref1_mixed_L2 := leF_etchhouseref1_mixed_L2.trans le159
      have hgy158_0 : Sl w.O w.W fl_i64 Ay158_0 cy158_0 y158 := gy158_0
      show Dr _ _ _ _ _ _ _ _ _ (uf _ 45 (.slice Ay158_0 (y158).length cy158_0)) (_)
      refine Dr.tail (by kernel_rfl) ?_
      obtain ⟨y160, hy160, H⟩ := bnd H
      refine Tr.callG [] [] (U := (Option Addr × Nat)) (fun u => (.slice u.1 (y160).length u.2)) (fun O W u => Sl O W fl_i64 u.1 u.2 y160) (fun u => []) rfl pk_nil (fun _ => rfl) (wn rfl) rfl Try.call118 (evl_cons rfl (evl_cons rfl evl_nil)) (fun W hW hp hE => F_etchhouseref1_put_ok N y158 Ay158_0 cy158_0 (hgy158_0.extO (hW.extS hp)) x157.to_ y160 hy160 hE) ?_
      intro w u le161 hu
      obtain ⟨Ay160_0, cy160_0⟩ := u
      have gy160_0 := hu
      replace hp0_0 := hp0_0.leR le161
      replace hp1_0 := hp1_0.leR le161
      replace hl153 := hl153.le le161
      replace hgy158_0 := hgy158_0.le le161
      replace leB := leB.trans le161
      replace leF_etchhouseref1_mixed_L1 := leF_etchhouseref1_mixed_L1.trans le161
      replace leF_etchhouseref1_mixed_L2 := leF_etchhouseref1_mixed_L2.trans le161
      have hgy160_0 : Sl w.O w.W fl_i64 Ay160_0 cy160_0 y160 := gy160_0 --@phi
      show Tr _ _ (uf _ 51 (.slice Ay160_0 (y160).length cy160_0)) (_) _
      refine Tr.val (wn rfl) rfl (fun _ _ h1 h2 => run_assign (h1.ev rfl)) ?_
      refine Tr.nil (Tr.normBlock (Tr.normThen ?_))
      refine Tr.region ?_
      refine Tr.val (wn rfl) rfl (fun _ _ h1 h2 => run_move (h1.ev rfl)) ?_
      refine Tr.val (wn rfl) rfl (fun _ _ h1 h2 => run_add (h1.ev rfl) (h1.ev rfl)) ?_
      refine Tr.val (wn rfl) rfl (fun _ _ h1 h2 => run_assign (h1.ev rfl)) ?_
      refine Tr.nil ?_
      exact Tr.backThen leF_etchhouseref1_mixed_L2 (y160, (w64 (x154 + 1)), Ay160_0, cy160_0) ⟨H, hgy160_0⟩ (.cons rfl (.cons rfl (.cons rfl (.cons rfl (.cons rfl .nil))))) .nil
    · refine Tr.exit (Tr.exitThen (Tr.exitThen (Tr.exitBlock (Tr.normThen ?_))))
      refine Tr.seq ?_
      refine Tr.region ?_
      refine Tr.val (wn rfl) rfl (fun _ _ h1 h2 => run_assign (h1.ev rfl)) ?_
      refine Tr.nilOwn 3 124 fl_TSpan ?_
      show Tr _ _ (uf _ 10 (.slice none (([] : List TSpan)).length 0)) _ _
      refine Tr.nil (Tr.normThen ?_)
      refine Tr.seq ?_
      refine Tr.seq ?_
      refine Tr.region ?_
      refine Tr.val (wn rfl) rfl (fun _ _ h1 h2 => run_assign (h1.ev rfl)) ?_
      refine Tr.nil (Tr.normThen ?_)
      refine Tr.block ?_
      refine Tr.ren 3 9 rfl rfl rfl ?_
      refine Tr.loop (σ := (List TSpan) × Int × (Option Addr) × Nat) (fun m w s => F_etchhouseref1_mixed_L3 N p0 p1 p2 l153 m s.1 s.2.1 = some r ∧ SlF s.2.2.1 (s.1).length s.2.2.2) (fun s => [(0, (.slice Ap0_0 (p0).length cp0_0)), (1, (.slice Ap1_0 (p1).length cp1_0)), (2, (.int .i64 p2)), (7, (.slice Al153 (l153).length cl153)), (10, (.slice s.2.2.1 (s.1).length s.2.2.2)), (11, (.int .i64 s.2.1))]) (fun s => [(9, ow s.2.2.1 s.2.2.2 124 fl_TSpan s.1)]) N (([] : List TSpan), 1, none, 0) ⟨H, slf_nil⟩ (.cons rfl (.cons rfl (.cons rfl (.cons rfl (.cons rfl (.cons rfl .nil)))))) (.cons rfl .nil) (fun _ _ h => noSome (h.1)) ?_
      intro w leF_etchhouseref1_mixed_L3 mF_etchhouseref1_mixed_L3 s hs
      obtain ⟨l184, x185, Al184, cl184⟩ := s
      obtain ⟨H, hl184⟩ := hs
      replace H : F_etchhouseref1_mixed_L3 N p0 p1 p2 l153 (mF_etchhouseref1_mixed_L3 + 1) l184 x185 = some r := H
      replace hp0_0 := hp0_0.leR leF_etchhouseref1_mixed_L3
      replace hp1_0 := hp1_0.leR leF_etchhouseref1_mixed_L3
      replace hl153 := hl153.le leF_etchhouseref1_mixed_L3
      replace leB := leB.trans leF_etchhouseref1_mixed_L3
      replace leF_etchhouseref1_mixed_L1 := leF_etchhouseref1_mixed_L1.trans leF_etchhouseref1_mixed_L3
      replace leF_etchhouseref1_mixed_L2 := leF_etchhouseref1_mixed_L2.trans leF_etchhouseref1_mixed_L3
      replace hl184 : SlF Al184 (l184).length cl184 := hl184
      rw [F_etchhouseref1_mixed_L3.eq_2] at H
      show Tr _ _ (LF [(0, (.slice Ap0_0 (p0).length cp0_0)), (1, (.slice Ap1_0 (p1).length cp1_0)), (2, (.int .i64 p2)), (7, (.slice Al153 (l153).length cl153)), (10, (.slice Al184 (l184).length cl184)), (11, (.int .i64 x185))]) (LE [(9, ow Al184 cl184 124 fl_TSpan l184)]) _
      refine Tr.seq ?_
      refine Tr.seq ?_
      refine Tr.region ?_
      refine Tr.val (wn rfl) rfl (fun _ _ h1 h2 => run_move (h1.ev rfl)) ?_
      refine Tr.val (wn rfl) rfl (fun _ _ h1 h2 => run_move (h1.ev rfl)) ?_
      refine Tr.val (wn rfl) rfl (fun _ _ h1 h2 => run_len un_89 (h1.ev rfl)) ?_
      refine Tr.val (wn rfl) rfl (fun _ _ h1 h2 => run_lss (h1.ev rfl) (h1.ev rfl)) ?_
      refine Tr.nil (Tr.normThen ?_)
      refine Tr.cond rfl H (fun H => ?_) (fun H => ?_)
      · refine Tr.skip (Tr.normThen ?_)
        refine Tr.seq ?_
        refine Tr.block ?_
        refine Tr.seq ?_
        refine Tr.draw (by kernel_rfl) (by kernel_rfl) ?_
        refine Tq.val (wn rfl) rfl (fun _ _ h1 h2 => run_move (h1.ev rfl)) ?_
        refine Tq.val (wn rfl) rfl (fun _ _ h1 h2 => run_move (h1.ev rfl)) ?_
        refine Tq.val (wn rfl) rfl (fun _ _ h1 h2 => run_move (h1.ev rfl)) ?_
        refine Tq.val (wn rfl) rfl (fun _ _ h1 h2 => run_sub (h1.ev rfl) (h1.ev rfl)) ?_
        obtain ⟨x186, hx186, H⟩ := bnd H
        obtain ⟨hx1860, hx1861, hx1862⟩ := idx_some hx186
        refine Tq.val (wn rfl) rfl (fun _ _ h1 h2 => run_indexAddr el_89 (h1.ev rfl) hl153.form (h1.ev rfl) hx1860 hx1861) ?_
        refine Tq.val (wn rfl) rfl (fun _ _ h1 h2 => run_load1 ag_3 (h1.ev rfl) (rdF ef_i64 (hl153.rl) hx1862 h2) rfl) ?_
        obtain ⟨y187, hy187, H⟩ := bnd H
        refine Tq.call0 (r := (.bool y187)) (wn rfl) rfl Try.call100 (evl_cons rfl (evl_cons rfl evl_nil)) (fun W hW => F_etchhouseref1_inside_ok N p0 Ap0_0 cp0_0 (hp0_0.ext hW.extAll) x186 y187 hy187 (HF.start _)) ?_
        refine Tq.val (wn rfl) rfl (fun _ _ h1 h2 => run_move (h1.ev rfl)) ?_
        refine Tq.val (wn rfl) rfl (fun _ _ h1 h2 => run_move (h1.ev rfl)) ?_
        refine Tq.val (wn rfl) rfl (fun _ _ h1 h2 => run_move (h1.ev rfl)) ?_
        refine Tq.val (wn rfl) rfl (fun _ _ h1 h2 => run_sub (h1.ev rfl) (h1.ev rfl)) ?_
        obtain ⟨x188, hx188, H⟩ := bnd H
        obtain ⟨hx1880, hx1881, hx1882⟩ := idx_some hx188
        refine Tq.val (wn rfl) rfl (fun _ _ h1 h2 => run_indexAddr el_89 (h1.ev rfl) hl153.form (h1.ev rfl) hx1880 hx1881) ?_
        refine Tq.val (wn rfl) rfl (fun _ _ h1 h2 => run_load1 ag_3 (h1.ev rfl) (rdF ef_i64 (hl153.rl) hx1882 h2) rfl) ?_
        obtain ⟨y189, hy189, H⟩ := bnd H
        refine Tq.call0 (r := (.bool y189)) (wn rfl) rfl Try.call100 (evl_cons rfl (evl_cons rfl evl_nil)) (fun W hW => F_etchhouseref1_inside_ok N p1 Ap1_0 cp1_0 (hp1_0.ext hW.extAll) x188 y189 hy189 (HF.start _)) ?_
        refine Tq.val (wn rfl) rfl (fun _ _ h1 h2 => run_assign (h1.ev rfl)) ?_
        refine Tq.val (wn rfl) rfl (fun _ _ h1 h2 => run_assign (h1.ev rfl)) ?_
        refine Tq.nil (Tr.normThen ?_)
        refine Tr.seq ?_
        refine Tr.region ?_
        refine Tr.val (wn rfl) rfl (fun _ _ h1 h2 => run_move (h1.ev rfl)) ?_
        refine Tr.val (wn rfl) rfl (fun _ _ h1 h2 => run_eql (h1.ev rfl) (h1.ev rfl)) ?_
        refine Tr.val (wn rfl) rfl (fun _ _ h1 h2 => run_move (h1.ev rfl)) ?_
        refine Tr.mid0 5 [(0, (.slice Ap0_0 (p0).length cp0_0)), (1, (.slice Ap1_0 (p1).length cp1_0)), (2, (.int .i64 p2)), (7, (.slice Al153 (l153).length cl153)), (10, (.slice Al184 (l184).length cl184)), (11, (.int .i64 x185)), (12, (.bool y187)), (13, (.bool y189)), (79, (.bool ((p2 == 1) && (y187 || y189))))] [(9, ow Al184 cl184 124 fl_TSpan l184)] ?_ ?_
        · cases hg193 : (p2 == 1)
          · refine Tr.pass rfl rfl rfl rfl rfl (by decide) ?_
            refine Tr.pass rfl rfl rfl rfl rfl (by decide) ?_
            refine Tr.passU rfl rfl rfl rfl (by decide) ?_
            refine Tr.pass rfl rfl rfl rfl rfl (by decide) ?_
            refine Tr.val (wn rfl) rfl (fun _ _ h1 h2 => run_pickF (h1.ev rfl) (h1.ev rfl)) ?_
            exact Tr.nil (Tr.fin0 (.cons rfl (.cons rfl (.cons rfl (.cons rfl (.cons rfl (.cons rfl (.cons rfl (.cons rfl (.cons rfl .nil))))))))) (.cons rfl .nil))
          · refine Tr.val (wg rfl rfl rfl) rfl (fun _ _ h1 h2 => run_move (h1.ev rfl)) ?_
            refine Tr.val (wg rfl rfl rfl) rfl (fun _ _ h1 h2 => run_move (h1.ev rfl)) ?_
            refine Tr.mid0 2 [(0, (.slice Ap0_0 (p0).length cp0_0)), (1, (.slice Ap1_0 (p1).length cp1_0)), (2, (.int .i64 p2)), (7, (.slice Al153 (l153).length cl153)), (10, (.slice Al184 (l184).length cl184)), (11, (.int .i64 x185)), (12, (.bool y187)), (13, (.bool y189)), (74, (.bool true)), (78, (.bool (y187 || y189)))] [(9, ow Al184 cl184 124 fl_TSpan l184)] ?_ ?_
            · cases hg189 : y187
              · refine Tr.val (wg rfl rfl rfl) rfl (fun _ _ h1 h2 => run_move (h1.ev rfl)) ?_
                refine Tr.val (wg rfl rfl rfl) rfl (fun _ _ h1 h2 => run_pickF (h1.ev rfl) (h1.ev rfl)) ?_
                exact Tr.nil (Tr.fin0 (.cons rfl (.cons rfl (.cons rfl (.cons rfl (.cons rfl (.cons rfl (.cons rfl (.cons rfl (.cons rfl (.cons rfl .nil)))))))))) (.cons rfl .nil))
              · refine Tr.pass rfl rfl rfl rfl rfl (by decide) ?_
                refine Tr.val (wg rfl rfl rfl) rfl (fun _ _ h1 h2 => run_pickT (h1.ev rfl) (h1.ev rfl)) ?_
                exact Tr.nil (Tr.fin0 (.cons rfl (.cons rfl (.cons rfl (.cons rfl (.cons rfl (.cons rfl (.cons rfl (.cons rfl (.cons rfl (.cons rfl .nil)))))))))) (.cons rfl .nil))
            · show Tr _ _ (LF [(0, (.slice Ap0_0 (p0).length cp0_0)), (1, (.slice Ap1_0 (p1).length cp1_0)), (2, (.int .i64 p2)), (7, (.slice Al153 (l153).length cl153)), (10, (.slice Al184 (l184).length cl184)), (11, (.int .i64 x185)), (12, (.bool y187)), (13, (.bool y189)), (74, (.bool true)), (78, (.bool (y187 || y189)))]) (LE [(9, ow Al184 cl184 124 fl_TSpan l184)]) _
              refine Tr.val (wn rfl) rfl (fun _ _ h1 h2 => run_pickT (h1.ev rfl) (h1.ev rfl)) ?_
              exact Tr.nil (Tr.fin0 (.cons rfl (.cons rfl (.cons rfl (.cons rfl (.cons rfl (.cons rfl (.cons rfl (.cons rfl (.cons rfl .nil))))))))) (.cons rfl .nil))
        · show Tr _ _ (LF [(0, (.slice Ap0_0 (p0).length cp0_0)), (1, (.slice Ap1_0 (p1).length cp1_0)), (2, (.int .i64 p2)), (7, (.slice Al153 (l153).length cl153)), (10, (.slice Al184 (l184).length cl184)), (11, (.int .i64 x185)), (12, (.bool y187)), (13, (.bool y189)), (79, (.bool ((p2 == 1) && (y187 || y189))))]) (LE [(9, ow Al184 cl184 124 fl_TSpan l184)]) _
          refine Tr.val (wn rfl) rfl (fun _ _ h1 h2 => run_move (h1.ev rfl)) ?_
          refine Tr.mid0 9 [(0, (.slice Ap0_0 (p0).length cp0_0)), (1, (.slice Ap1_0 (p1).length cp1_0)), (2, (.int .i64 p2)), (7, (.slice Al153 (l153).length cl153)), (10, (.slice Al184 (l184).length cl184)), (11, (.int .i64 x185)), (12, (.bool y187)), (13, (.bool y189)), (89, (.bool (((p2 == 1) && (y187 || y189)) || (((p2 == 2) && y187) && y189))))] [(9, ow Al184 cl184 124 fl_TSpan l184)] ?_ ?_
          · cases hg193 : ((p2 == 1) && (y187 || y189))
            · refine Tr.val (wg rfl rfl rfl) rfl (fun _ _ h1 h2 => run_move (h1.ev rfl)) ?_
              refine Tr.val (wg rfl rfl rfl) rfl (fun _ _ h1 h2 => run_eql (h1.ev rfl) (h1.ev rfl)) ?_
              refine Tr.val (wg rfl rfl rfl) rfl (fun _ _ h1 h2 => run_move (h1.ev rfl)) ?_
              refine Tr.mid0 2 [(0, (.slice Ap0_0 (p0).length cp0_0)), (1, (.slice Ap1_0 (p1).length cp1_0)), (2, (.int .i64 p2)), (7, (.slice Al153 (l153).length cl153)), (10, (.slice Al184 (l184).length cl184)), (11, (.int .i64 x185)), (12, (.bool y187)), (13, (.bool y189)), (80, (.bool false)), (85, (.bool ((p2 == 2) && y187)))] [(9, ow Al184 cl184 124 fl_TSpan l184)] ?_ ?_
              · cases hg189 : (p2 == 2)
                · refine Tr.pass rfl rfl rfl rfl rfl (by decide) ?_
                  refine Tr.val (wg rfl rfl rfl) rfl (fun _ _ h1 h2 => run_pickF (h1.ev rfl) (h1.ev rfl)) ?_
                  exact Tr.nil (Tr.fin0 (.cons rfl (.cons rfl (.cons rfl (.cons rfl (.cons rfl (.cons rfl (.cons rfl (.cons rfl (.cons rfl (.cons rfl .nil)))))))))) (.cons rfl .nil))
                · refine Tr.val (wg rfl rfl rfl) rfl (fun _ _ h1 h2 => run_move (h1.ev rfl)) ?_
                  refine Tr.val (wg rfl rfl rfl) rfl (fun _ _ h1 h2 => run_pickT (h1.ev rfl) (h1.ev rfl)) ?_
                  exact Tr.nil (Tr.fin0 (.cons rfl (.cons rfl (.cons rfl (.cons rfl (.cons rfl (.cons rfl (.cons rfl (.cons rfl (.cons rfl (.cons rfl .nil)))))))))) (.cons rfl .nil))
              · show Tr _ _ (LF [(0, (.slice Ap0_0 (p0).length cp0_0)), (1, (.slice Ap1_0 (p1).length cp1_0)), (2, (.int .i64 p2)), (7, (.slice Al153 (l153).length cl153)), (10, (.slice Al184 (l184).length cl184)), (11, (.int .i64 x185)), (12, (.bool y187)), (13, (.bool y189)), (80, (.bool false)), (85, (.bool ((p2 == 2) && y187)))]) (LE [(9, ow Al184 cl184 124 fl_TSpan l184)]) _
                refine Tr.val (wg rfl rfl rfl) rfl (fun _ _ h1 h2 => run_move (h1.ev rfl)) ?_
                refine Tr.mid0 2 [(0, (.slice Ap0_0 (p0).length cp0_0)), (1, (.slice Ap1_0 (p1).length cp1_0)), (2, (.int .i64 p2)), (7, (.slice Al153 (l153).length cl153)), (10, (.slice Al184 (l184).length cl184)), (11, (.int .i64 x185)), (12, (.bool y187)), (13, (.bool y189)), (80, (.bool false)), (88, (.bool (((p2 == 2) && y187) && y189)))] [(9, ow Al184 cl184 124 fl_TSpan l184)] ?_ ?_
                · cases hg189 : ((p2 == 2) && y187)
                  · refine Tr.pass rfl rfl rfl rfl rfl (by decide) ?_
                    refine Tr.val (wg rfl rfl rfl) rfl (fun _ _ h1 h2 => run_pickF (h1.ev rfl) (h1.ev rfl)) ?_
                    exact Tr.nil (Tr.fin0 (.cons rfl (.cons rfl (.cons rfl (.cons rfl (.cons rfl (.cons rfl (.cons rfl (.cons rfl (.cons rfl (.cons rfl .nil)))))))))) (.cons rfl .nil))
                  · refine Tr.val (wg rfl rfl rfl) rfl (fun _ _ h1 h2 => run_move (h1.ev rfl)) ?_
                    refine Tr.val (wg rfl rfl rfl) rfl (fun _ _ h1 h2 => run_pickT (h1.ev rfl) (h1.ev rfl)) ?_
                    exact Tr.nil (Tr.fin0 (.cons rfl (.cons rfl (.cons rfl (.cons rfl (.cons rfl (.cons rfl (.cons rfl (.cons rfl (.cons rfl (.cons rfl .nil)))))))))) (.cons rfl .nil))
                · show Tr _ _ (LF [(0, (.slice Ap0_0 (p0).length cp0_0)), (1, (.slice Ap1_0 (p1).length cp1_0)), (2, (.int .i64 p2)), (7, (.slice Al153 (l153).length cl153)), (10, (.slice Al184 (l184).length cl184)), (11, (.int .i64 x185)), (12, (.bool y187)), (13, (.bool y189)), (80, (.bool false)), (88, (.bool (((p2 == 2) && y187) && y189)))]) (LE [(9, ow Al184 cl184 124 fl_TSpan l184)]) _
                  refine Tr.val (wn rfl) rfl (fun _ _ h1 h2 => run_pickF (h1.ev rfl) (h1.ev rfl)) ?_
                  exact Tr.nil (Tr.fin0 (.cons rfl (.cons rfl (.cons rfl (.cons rfl (.cons rfl (.cons rfl (.cons rfl (.cons rfl (.cons rfl .nil))))))))) (.cons rfl .nil))
            · refine Tr.pass rfl rfl rfl rfl rfl (by decide) ?_
              refine Tr.pass rfl rfl rfl rfl rfl (by decide) ?_
              refine Tr.pass rfl rfl rfl rfl rfl (by decide) ?_
              refine Tr.passU rfl rfl rfl rfl (by decide) ?_
              refine Tr.pass rfl rfl rfl rfl rfl (by decide) ?_
              refine Tr.pass rfl rfl rfl rfl rfl (by decide) ?_
              refine Tr.passU rfl rfl rfl rfl (by decide) ?_
              refine Tr.pass rfl rfl rfl rfl rfl (by decide) ?_
              refine Tr.val (wn rfl) rfl (fun _ _ h1 h2 => run_pickT (h1.ev rfl) (h1.ev rfl)) ?_
              exact Tr.nil (Tr.fin0 (.cons rfl (.cons rfl (.cons rfl (.cons rfl (.cons rfl (.cons rfl (.cons rfl (.cons rfl (.cons rfl .nil))))))))) (.cons rfl .nil))
          · show Tr _ _ (LF [(0, (.slice Ap0_0 (p0).length cp0_0)), (1, (.slice Ap1_0 (p1).length cp1_0)), (2, (.int .i64 p2)), (7, (.slice Al153 (l153).length cl153)), (10, (.slice Al184 (l184).length cl184)), (11, (.int .i64 x185)), (12, (.bool y187)), (13, (.bool y189)), (89, (.bool (((p2 == 1) && (y187 || y189)) || (((p2 == 2) && y187) && y189))))]) (LE [(9, ow Al184 cl184 124 fl_TSpan l184)]) _
            refine Tr.val (wn rfl) rfl (fun _ _ h1 h2 => run_move (h1.ev rfl)) ?_
            refine Tr.mid0 10 [(0, (.slice Ap0_0 (p0).length cp0_0)), (1, (.slice Ap1_0 (p1).length cp1_0)), (2, (.int .i64 p2)), (7, (.slice Al153 (l153).length cl153)), (10, (.slice Al184 (l184).length cl184)), (11, (.int .i64 x185)), (100, (.bool ((((p2 == 1) && (y187 || y189)) || (((p2 == 2) && y187) && y189)) || (((p2 == 3) && y187) && (!y189)))))] [(9, ow Al184 cl184 124 fl_TSpan l184)] ?_ ?_
            · cases hg193 : (((p2 == 1) && (y187 || y189)) || (((p2 == 2) && y187) && y189))
              · refine Tr.val (wg rfl rfl rfl) rfl (fun _ _ h1 h2 => run_move (h1.ev rfl)) ?_
                refine Tr.val (wg rfl rfl rfl) rfl (fun _ _ h1 h2 => run_eql (h1.ev rfl) (h1.ev rfl)) ?_
                refine Tr.val (wg rfl rfl rfl) rfl (fun _ _ h1 h2 => run_move (h1.ev rfl)) ?_
                refine Tr.mid0 2 [(0, (.slice Ap0_0 (p0).length cp0_0)), (1, (.slice Ap1_0 (p1).length cp1_0)), (2, (.int .i64 p2)), (7, (.slice Al153 (l153).length cl153)), (10, (.slice Al184 (l184).length cl184)), (11, (.int .i64 x185)), (13, (.bool y189)), (90, (.bool false)), (95, (.bool ((p2 == 3) && y187)))] [(9, ow Al184 cl184 124 fl_TSpan l184)] ?_ ?_
                · cases hg189 : (p2 == 3)
                  · refine Tr.pass rfl rfl rfl rfl rfl (by decide) ?_
                    refine Tr.val (wg rfl rfl rfl) rfl (fun _ _ h1 h2 => run_pickF (h1.ev rfl) (h1.ev rfl)) ?_
                    exact Tr.nil (Tr.fin0 (.cons rfl (.cons rfl (.cons rfl (.cons rfl (.cons rfl (.cons rfl (.cons rfl (.cons rfl (.cons rfl .nil))))))))) (.cons rfl .nil))
                  · refine Tr.val (wg rfl rfl rfl) rfl (fun _ _ h1 h2 => run_move (h1.ev rfl)) ?_
                    refine Tr.val (wg rfl rfl rfl) rfl (fun _ _ h1 h2 => run_pickT (h1.ev rfl) (h1.ev rfl)) ?_
                    exact Tr.nil (Tr.fin0 (.cons rfl (.cons rfl (.cons rfl (.cons rfl (.cons rfl (.cons rfl (.cons rfl (.cons rfl (.cons rfl .nil))))))))) (.cons rfl .nil))
                · show Tr _ _ (LF [(0, (.slice Ap0_0 (p0).length cp0_0)), (1, (.slice Ap1_0 (p1).length cp1_0)), (2, (.int .i64 p2)), (7, (.slice Al153 (l153).length cl153)), (10, (.slice Al184 (l184).length cl184)), (11, (.int .i64 x185)), (13, (.bool y189)), (90, (.bool false)), (95, (.bool ((p2 == 3) && y187)))]) (LE [(9, ow Al184 cl184 124 fl_TSpan l184)]) _
                  refine Tr.val (wg rfl rfl rfl) rfl (fun _ _ h1 h2 => run_move (h1.ev rfl)) ?_
                  refine Tr.mid0 3 [(0, (.slice Ap0_0 (p0).length cp0_0)), (1, (.slice Ap1_0 (p1).length cp1_0)), (2, (.int .i64 p2)), (7, (.slice Al153 (l153).length cl153)), (10, (.slice Al184 (l184).length cl184)), (11, (.int .i64 x185)), (90, (.bool false)), (99, (.bool (((p2 == 3) && y187) && (!y189))))] [(9, ow Al184 cl184 124 fl_TSpan l184)] ?_ ?_
                  · cases hg189 : ((p2 == 3) && y187)
                    · refine Tr.pass rfl rfl rfl rfl rfl (by decide) ?_
                      refine Tr.pass rfl rfl rfl rfl rfl (by decide) ?_
                      refine Tr.val (wg rfl rfl rfl) rfl (fun _ _ h1 h2 => run_pickF (h1.ev rfl) (h1.ev rfl)) ?_
                      exact Tr.nil (Tr.fin0 (.cons rfl (.cons rfl (.cons rfl (.cons rfl (.cons rfl (.cons rfl (.cons rfl (.cons rfl .nil)))))))) (.cons rfl .nil))
                    · refine Tr.val (wg rfl rfl rfl) rfl (fun _ _ h1 h2 => run_move (h1.ev rfl)) ?_
                      refine Tr.val (wg rfl rfl rfl) rfl (fun _ _ h1 h2 => run_not (h1.ev rfl)) ?_
                      refine Tr.val (wg rfl rfl rfl) rfl (fun _ _ h1 h2 => run_pickT (h1.ev rfl) (h1.ev rfl)) ?_
                      exact Tr.nil (Tr.fin0 (.cons rfl (.cons rfl (.cons rfl (.cons rfl (.cons rfl (.cons rfl (.cons rfl (.cons rfl .nil)))))))) (.cons rfl .nil))
                  · show Tr _ _ (LF [(0, (.slice Ap0_0 (p0).length cp0_0)), (1, (.slice Ap1_0 (p1).length cp1_0)), (2, (.int .i64 p2)), (7, (.slice Al153 (l153).length cl153)), (10, (.slice Al184 (l184).length cl184)), (11, (.int .i64 x185)), (90, (.bool false)), (99, (.bool (((p2 == 3) && y187) && (!y189))))]) (LE [(9, ow Al184 cl184 124 fl_TSpan l184)]) _
                    refine Tr.val (wn rfl) rfl (fun _ _ h1 h2 => run_pickF (h1.ev rfl) (h1.ev rfl)) ?_
                    exact Tr.nil (Tr.fin0 (.cons rfl (.cons rfl (.cons rfl (.cons rfl (.cons rfl (.cons rfl (.cons rfl .nil))))))) (.cons rfl .nil))
              · refine Tr.pass rfl rfl rfl rfl rfl (by decide) ?_
                refine Tr.pass rfl rfl rfl rfl rfl (by decide) ?_
                refine Tr.pass rfl rfl rfl rfl rfl (by decide) ?_
                refine Tr.passU rfl rfl rfl rfl (by decide) ?_
                refine Tr.pass rfl rfl rfl rfl rfl (by decide) ?_
                refine Tr.pass rfl rfl rfl rfl rfl (by decide) ?_
                refine Tr.passU rfl rfl rfl rfl (by decide) ?_
                refine Tr.passU rfl rfl rfl rfl (by decide) ?_
                refine Tr.pass rfl rfl rfl rfl rfl (by decide) ?_
                refine Tr.val (wn rfl) rfl (fun _ _ h1 h2 => run_pickT (h1.ev rfl) (h1.ev rfl)) ?_
                exact Tr.nil (Tr.fin0 (.cons rfl (.cons rfl (.cons rfl (.cons rfl (.cons rfl (.cons rfl (.cons rfl .nil))))))) (.cons rfl .nil))
            · show Tr _ _ (LF [(0, (.slice Ap0_0 (p0).length cp0_0)), (1, (.slice Ap1_0 (p1).length cp1_0)), (2, (.int .i64 p2)), (7, (.slice Al153 (l153).length cl153)), (10, (.slice Al184 (l184).length cl184)), (11, (.int .i64 x185)), (100, (.bool ((((p2 == 1) && (y187 || y189)) || (((p2 == 2) && y187) && y189)) || (((p2 == 3) && y187) && (!y189)))))]) (LE [(9, ow Al184 cl184 124 fl_TSpan l184)]) _
              refine Tr.nil (Tr.normThen ?_)
              refine Tr.cond rfl H (fun H => ?_) (fun H => ?_)
              · refine Tr.drawTail 11 (by kernel_rfl) (by kernel_rfl) ?_
                refine Tq.val (wn rfl) rfl (fun _ _ h1 h2 => run_move (h1.ev rfl)) ?_
                refine Tq.val (wn rfl) rfl (fun _ _ h1 h2 => run_move (h1.ev rfl)) ?_
                refine Tq.val (wn rfl) rfl (fun _ _ h1 h2 => run_move (h1.ev rfl)) ?_
                refine Tq.val (wn rfl) rfl (fun _ _ h1 h2 => run_sub (h1.ev rfl) (h1.ev rfl)) ?_
                obtain ⟨x190, hx190, H⟩ := bnd H
                obtain ⟨hx1900, hx1901, hx1902⟩ := idx_some hx190
                refine Tq.val (wn rfl) rfl (fun _ _ h1 h2 => run_indexAddr el_89 (h1.ev rfl) hl153.form (h1.ev rfl) hx1900 hx1901) ?_
                refine Tq.val (wn rfl) rfl (fun _ _ h1 h2 => run_load1 ag_3 (h1.ev rfl) (rdF ef_i64 (hl153.rl) hx1902 h2) rfl) ?_
                refine Tq.val (wn rfl) rfl (fun _ _ h1 h2 => run_move (h1.ev rfl)) ?_
                refine Tq.val (wn rfl) rfl (fun _ _ h1 h2 => run_move (h1.ev rfl)) ?_
                obtain ⟨x191, hx191, H⟩ := bnd H
                obtain ⟨hx1910, hx1911, hx1912⟩ := idx_some hx191
                refine Tq.val (wn rfl) rfl (fun _ _ h1 h2 => run_indexAddr el_89 (h1.ev rfl) hl153.form (h1.ev rfl) hx1910 hx1911) ?_
                refine Tq.val (wn rfl) rfl (fun _ _ h1 h2 => run_load1 ag_3 (h1.ev rfl) (rdF ef_i64 (hl153.rl) hx1912 h2) rfl) ?_
                refine Tq.build (vs := [(0, (.int .i64 x190)), (1, (.int .i64 x191))]) (cs := [(.int .i64 x190), (.int .i64 x191)]) (wn rfl) rfl (evs_cons rfl (evs_cons rfl evs_nil)) (by kernel_rfl) ?_
                refine Tq.nil ?_
                obtain ⟨y192, hy192, H⟩ := bnd H
                refine Tr.callM [10] [emp] (U := (Option Addr × Nat)) (fun u => (.slice u.1 (y192).length u.2)) (fun u => SlF u.1 (y192).length u.2) (fun u => [ow u.1 u.2 124 fl_TSpan y192]) rfl (pk_cons rfl pk_nil) (fun _ => rfl) (wn rfl) rfl Try.call120 (evl_cons rfl (evl_cons rfl evl_nil)) (fun W hW hp hE => F_etchhouseref1_joined_ok N l184 Al184 cl184 (hW.slS (k := 9) rfl hp rfl) (TSpan.mk x190 x191) y192 hy192 hE) ?_
                intro u hu
                obtain ⟨Ay192_0, cy192_0⟩ := u
                have gy192_0 := hu
                have hgy192_0 : SlF Ay192_0 (y192).length cy192_0 := gy192_0 --@phi
                show Tr _ _ (uf _ 112 (.slice Ay192_0 (y192).length cy192_0)) (up _ 10 (ow Ay192_0 cy192_0 124 fl_TSpan y192)) _
                refine Tr.val (wn rfl) rfl (fun _ _ h1 h2 => run_assign (h1.ev rfl)) ?_
                refine Tr.nil (Tr.normBlock (Tr.normThen ?_))
                refine Tr.region ?_
                refine Tr.val (wn rfl) rfl (fun _ _ h1 h2 => run_move (h1.ev rfl)) ?_
                refine Tr.val (wn rfl) rfl (fun _ _ h1 h2 => run_add (h1.ev rfl) (h1.ev rfl)) ?_
                refine Tr.val (wn rfl) rfl (fun _ _ h1 h2 => run_assign (h1.ev rfl)) ?_
                refine Tr.nil ?_
                refine Tr.dropK 9 ?_
                refine Tr.ren 10 9 rfl rfl rfl ?_
                exact Tr.backThen leF_etchhouseref1_mixed_L3 (y192, (w64 (x185 + 1)), Ay192_0, cy192_0) ⟨H, hgy192_0⟩ (.cons rfl (.cons rfl (.cons rfl (.cons rfl (.cons rfl (.cons rfl .nil)))))) (.cons rfl .nil)
              · refine Tr.skip (Tr.normBlock (Tr.normThen ?_))
                refine Tr.region ?_
                refine Tr.val (wn rfl) rfl (fun _ _ h1 h2 => run_move (h1.ev rfl)) ?_
                refine Tr.val (wn rfl) rfl (fun _ _ h1 h2 => run_add (h1.ev rfl) (h1.ev rfl)) ?_
                refine Tr.val (wn rfl) rfl (fun _ _ h1 h2 => run_assign (h1.ev rfl)) ?_
                refine Tr.nil ?_
                exact Tr.backThen leF_etchhouseref1_mixed_L3 (l184, (w64 (x185 + 1)), Al184, cl184) ⟨H, hl184⟩ (.cons rfl (.cons rfl (.cons rfl (.cons rfl (.cons rfl (.cons rfl .nil)))))) (.cons rfl .nil)
      · refine Tr.exit (Tr.exitThen (Tr.exitThen (Tr.exitBlock (Tr.normThen ?_))))
        refine Tr.seq ?_
        refine Tr.region ?_
        refine Tr.val (wn rfl) rfl (fun _ _ h1 h2 => run_move (h1.ev rfl)) ?_
        refine Tr.val (wn rfl) rfl (fun _ _ h1 h2 => run_assign (h1.ev rfl)) ?_
        refine Tr.nil (Tr.normThen ?_)
        refine Tr.ret ?_
        obtain rfl := Option.some.inj H
        exact Tr.out (m := [(.slice Al184 (l184).length cl184)]) [] (res_tmp rfl res_nil) (fun W hW => ⟨(Al184, cl184), rfl, hl184, HF.lowE leB (hW.pick (ks := [9]) (by decide) (pk_cons rfl pk_nil)) ⟨ow_any _ _ _ _ tr_TSpan, trivial⟩⟩)

theorem F_etchhouseref1_combined_ok (N : Nat) {w : Bs} (p0 : (List TRect)) (Ap0_0 : Option Addr) (cp0_0 : Nat) (hp0_0 : Sl w.R w.W fl_TRect Ap0_0 cp0_0 p0) (p1 : (List TRect)) (Ap1_0 : Option Addr) (cp1_0 : Nat) (hp1_0 : Sl w.R w.W fl_TRect Ap1_0 cp1_0 p1) (p2 : Int) (r : (List TRect)) (H : F_etchhouseref1_combined N p0 p1 p2 = some r) (hE : HF w w.W (LEn [emp])) : Calls Try.prog 109 [(.slice Ap0_0 (p0).length cp0_0), (.slice Ap1_0 (p1).length cp1_0), (.int .i64 p2)].toArray w.W fun e W' => ∃ u : (Option Addr × Nat), e = .returned (.slice u.1 (r).length u.2) ∧ (SlF u.1 (r).length u.2) ∧ HF w W' (LEn [ow u.1 u.2 29 fl_TRect r]) := by
  unfold F_etchhouseref1_combined at H
  have leB := Bs.Le.refl w
  refine Tr.enter (n := 55) Try.func109 rfl rfl rfl hE ?_
  refine Tr.seq ?_
  refine Tr.region ?_
  refine Tr.val (wn rfl) rfl (fun _ _ h1 h2 => run_assign (h1.ev rfl)) ?_
  refine Tr.nilOwn 1 29 fl_TRect ?_
  show Tr _ _ (uf _ 6 (.slice none (([] : List TRect)).length 0)) _ _
  refine Tr.nil (Tr.normThen ?_)
  refine Tr.seq ?_
  refine Tr.region ?_
  refine Tr.val (wn rfl) rfl (fun _ _ h1 h2 => run_assign (h1.ev rfl)) ?_
  refine Tr.nilOwn 2 29 fl_TRect ?_
  show Tr _ _ (uf _ 7 (.slice none (([] : List TRect)).length 0)) _ _
  refine Tr.nil (Tr.normThen ?_)
  refine Tr.seq ?_
  refine Tr.region ?_
  refine Tr.val (wn rfl) rfl (fun _ _ h1 h2 => run_move (h1.ev rfl)) ?_
  refine Tr.val (wn rfl) rfl (fun _ _ h1 h2 => run_move (h1.ev rfl)) ?_
  obtain ⟨l100, hl100, H⟩ := bnd H
  refine Tr.appendS 2 (t := fl_TRect) (l := ([] : List TRect)) (l2 := p0) (wn rfl) rfl rfl rfl rfl (apT tr_TRect (fun W hW => (Sl.inB hp0_0 hW))) un_22 sz_29 zl_29 (by decide) by_29 rfl hl100 fun Al100 cl100 hAl100 => ?_
  refine Tr.val (wn rfl) rfl (fun _ _ h1 h2 => run_assign (h1.ev rfl)) ?_
  refine Tr.nil (Tr.normThen ?_)
  refine Tr.seq ?_
  refine Tr.region ?_
  refine Tr.val (wn rfl) rfl (fun _ _ h1 h2 => run_move (h1.ev rfl)) ?_
  refine Tr.val (wn rfl) rfl (fun _ _ h1 h2 => run_move (h1.ev rfl)) ?_
  obtain ⟨l101, hl101, H⟩ := bnd H
  refine Tr.appendS 2 (t := fl_TRect) (l := l100) (l2 := p1) (wn rfl) rfl rfl rfl rfl (apT tr_TRect (fun W hW => (Sl.inB hp1_0 hW))) un_22 sz_29 zl_29 (by decide) by_29 rfl hl101 fun Al101 cl101 hAl101 => ?_
  refine Tr.val (wn rfl) rfl (fun _ _ h1 h2 => run_assign (h1.ev rfl)) ?_
  refine Tr.nil (Tr.normThen ?_)
  refine Tr.seq ?_
  refine Tr.region ?_
  refine Tr.val (wn rfl) rfl (fun _ _ h1 h2 => run_move (h1.ev rfl)) ?_
  obtain ⟨y102, hy102, H⟩ := bnd H
  refine Tr.callG [] [] (U := (Option Addr × Nat)) (fun u => (.slice u.1 (y102).length u.2)) (fun O W u => Sl O W fl_i64 u.1 u.2 y102) (fun u => []) rfl pk_nil (fun _ => rfl) (wn rfl) rfl Try.call93 (evl_cons rfl evl_nil) (fun W hW hp hE => F_etchhouseref1_heights_ok N l101 Al101 cl101 (hW.slS (k := 2) rfl hp rfl) y102 hy102 hE) ?_
  intro w u le103 hu
  obtain ⟨Ay102_0, cy102_0⟩ := u
  have gy102_0 := hu
  replace hp0_0 := hp0_0.leR le103
  replace hp1_0 := hp1_0.leR le103
  replace leB := leB.trans le103
  have hgy102_0 : Sl w.O w.W fl_i64 Ay102_0 cy102_0 y102 := gy102_0 --@phi
  show Tr _ _ (uf _ 18 (.slice Ay102_0 (y102).length cy102_0)) (_) _
  refine Tr.val (wn rfl) rfl (fun _ _ h1 h2 => run_assign (h1.ev rfl)) ?_
  refine Tr.nil (Tr.normThen ?_)
  refine Tr.seq ?_
  refine Tr.region ?_
  refine Tr.val (wn rfl) rfl (fun _ _ h1 h2 => run_assign (h1.ev rfl)) ?_
  refine Tr.nilOwn 3 103 fl_Tetchhouseref1Band ?_
  show Tr _ _ (uf _ 9 (.slice none (([] : List Tetchhouseref1Band)).length 0)) _ _
  refine Tr.nil (Tr.normThen ?_)
  refine Tr.seq ?_
  refine Tr.seq ?_
  refine Tr.region ?_
  refine Tr.val (wn rfl) rfl (fun _ _ h1 h2 => run_assign (h1.ev rfl)) ?_
  refine Tr.nil (Tr.normThen ?_)
  refine Tr.block ?_
  refine Tr.loop (σ := (List Tetchhouseref1Band) × Int × (Option Addr) × Nat) (fun m w s => F_etchhouseref1_combined_L1 N p0 p1 p2 y102 m s.1 s.2.1 = some r ∧ SlF s.2.2.1 (s.1).length s.2.2.2) (fun s => [(0, (.slice Ap0_0 (p0).length cp0_0)), (1, (.slice Ap1_0 (p1).length cp1_0)), (2, (.int .i64 p2)), (8, (.slice Ay102_0 (y102).length cy102_0)), (9, (.slice s.2.2.1 (s.1).length s.2.2.2)), (10, (.int .i64 s.2.1))]) (fun s => [(3, ow s.2.2.1 s.2.2.2 103 fl_Tetchhouseref1Band s.1)]) N (([] : List Tetchhouseref1Band), 1, none, 0) ⟨H, slf_nil⟩ (.cons rfl (.cons rfl (.cons rfl (.cons rfl (.cons rfl (.cons rfl .nil)))))) (.cons rfl .nil) (fun _ _ h => noSome (h.1)) ?_
  intro w leF_etchhouseref1_combined_L1 mF_etchhouseref1_combined_L1 s hs
  obtain ⟨l140, x141, Al140, cl140⟩ := s
  obtain ⟨H, hl140⟩ := hs
  replace H : F_etchhouseref1_combined_L1 N p0 p1 p2 y102 (mF_etchhouseref1_combined_L1 + 1) l140 x141 = some r := H
  replace hp0_0 := hp0_0.leR leF_etchhouseref1_combined_L1
  replace hp1_0 := hp1_0.leR leF_etchhouseref1_combined_L1
  replace hgy102_0 := hgy102_0.le leF_etchhouseref1_combined_L1
  replace leB := leB.trans leF_etchhouseref1_combined_L1
  replace hl140 : SlF Al140 (l140).length cl140 := hl140
  rw [F_etchhouseref1_combined_L1.eq_2] at H
  show Tr _ _ (LF [(0, (.slice Ap0_0 (p0).length cp0_0)), (1, (.slice Ap1_0 (p1).length cp1_0)), (2, (.int .i64 p2)), (8, (.slice Ay102_0 (y102).length cy102_0)), (9, (.slice Al140 (l140).length cl140)), (10, (.int .i64 x141))]) (LE [(3, ow Al140 cl140 103 fl_Tetchhouseref1Band l140)]) _
  refine Tr.seq ?_
  refine Tr.seq ?_
  refine Tr.region ?_
  refine Tr.val (wn rfl) rfl (fun _ _ h1 h2 => run_move (h1.ev rfl)) ?_
  refine Tr.val (wn rfl) rfl (fun _ _ h1 h2 => run_move (h1.ev rfl)) ?_
  refine Tr.val (wn rfl) rfl (fun _ _ h1 h2 => run_len un_89 (h1.ev rfl)) ?_
  refine Tr.val (wn rfl) rfl (fun _ _ h1 h2 => run_lss (h1.ev rfl) (h1.ev rfl)) ?_
  refine Tr.nil (Tr.normThen ?_)
  refine Tr.cond rfl H (fun H => ?_) (fun H => ?_)
  · refine Tr.skip (Tr.normThen ?_)
    refine Tr.seq ?_
    refine Tr.block ?_
    refine Tr.drawC 27 [] [] (by kernel_rfl) (by kernel_rfl) fun sz142 hlosz142 hEsz142 => ?_
    refine Dr.quiet 0 [(25, (.slice Al140 (l140).length cl140))] (by kernel_rfl) rfl rfl (by kernel_rfl) ?_ rfl rfl ?_
    · refine Tq.val (wn rfl) rfl (fun _ _ h1 h2 => run_move (h1.ev rfl)) ?_
      exact Tq.fin (.cons rfl .nil)
    refine Dr.quiet 1 [(26, (.slice Ay102_0 (y102).length cy102_0))] (by kernel_rfl) rfl rfl (by kernel_rfl) ?_ rfl rfl ?_
    · refine Tq.val (wn rfl) rfl (fun _ _ h1 h2 => run_move (h1.ev rfl)) ?_
      exact Tq.fin (.cons rfl .nil)
    refine Dr.quiet 2 [(27, (.int .i64 x141))] (by kernel_rfl) rfl rfl (by kernel_rfl) ?_ rfl rfl ?_
    · refine Tq.val (wn rfl) rfl (fun _ _ h1 h2 => run_move (h1.ev rfl)) ?_
      exact Tq.fin (.cons rfl .nil)
    refine Dr.quiet 3 [(28, (.int .i64 (w64 (x141 - 1))))] (by kernel_rfl) rfl rfl (by kernel_rfl) ?_ rfl rfl ?_
    · refine Tq.val (wn rfl) rfl (fun _ _ h1 h2 => run_sub (h1.ev rfl) (h1.ev rfl)) ?_
      exact Tq.fin (.cons rfl .nil)
    obtain ⟨x143, hx143, H⟩ := bnd H
    obtain ⟨hx1430, hx1431, hx1432⟩ := idx_some hx143
    refine Dr.quiet 4 [(29, (.pointer (some ⟨adB Ay102_0, adO Ay102_0 + ((w64 (x141 - 1))).toNat * 1, none⟩)))] (by kernel_rfl) rfl rfl (by kernel_rfl) ?_ rfl rfl ?_
    · refine Tq.val (wn rfl) rfl (fun _ _ h1 h2 => run_indexAddr el_89 (h1.ev rfl) hgy102_0.form (h1.ev rfl) hx1430 hx1431) ?_
      exact Tq.fin (.cons rfl .nil)
    refine Dr.quiet 5 [(30, (.int .i64 x143))] (by kernel_rfl) rfl rfl (by kernel_rfl) ?_ rfl rfl ?_
    · refine Tq.val (wn rfl) rfl (fun _ _ h1 h2 => run_load1 ag_3 (h1.ev rfl) (rdF ef_i64 (hgy102_0.rl) hx1432 h2) rfl) ?_
      exact Tq.fin (.cons rfl .nil)
    refine Dr.quiet 6 [(31, (.slice Ay102_0 (y102).length cy102_0))] (by kernel_rfl) rfl rfl (by kernel_rfl) ?_ rfl rfl ?_
    · refine Tq.val (wn rfl) rfl (fun _ _ h1 h2 => run_move (h1.ev rfl)) ?_
      exact Tq.fin (.cons rfl .nil)
    refine Dr.quiet 7 [(32, (.int .i64 x141))] (by kernel_rfl) rfl rfl (by kernel_rfl) ?_ rfl rfl ?_
    · refine Tq.val (wn rfl) rfl (fun _ _ h1 h2 => run_move (h1.ev rfl)) ?_
      exact Tq.fin (.cons rfl .nil)
    obtain ⟨x144, hx144, H⟩ := bnd H
    obtain ⟨hx1440, hx1441, hx1442⟩ := idx_some hx144
    refine Dr.quiet 8 [(33, (.pointer (some ⟨adB Ay102_0, adO Ay102_0 + (x141).toNat * 1, none⟩)))] (by kernel_rfl) rfl rfl (by kernel_rfl) ?_ rfl rfl ?_
    · refine Tq.val (wn rfl) rfl (fun _ _ h1 h2 => run_indexAddr el_89 (h1.ev rfl) hgy102_0.form (h1.ev rfl) hx1440 hx1441) ?_
      exact Tq.fin (.cons rfl .nil)
    refine Dr.quiet 9 [(34, (.int .i64 x144))] (by kernel_rfl) rfl rfl (by kernel_rfl) ?_ rfl rfl ?_
    · refine Tq.val (wn rfl) rfl (fun _ _ h1 h2 => run_load1 ag_3 (h1.ev rfl) (rdF ef_i64 (hgy102_0.rl) hx1442 h2) rfl) ?_
      exact Tq.fin (.cons rfl .nil)
    refine Dr.quiet 10 [(35, (.slice Ap0_0 (p0).length cp0_0))] (by kernel_rfl) rfl rfl (by kernel_rfl) ?_ rfl rfl ?_
    · refine Tq.val (wn rfl) rfl (fun _ _ h1 h2 => run_move (h1.ev rfl)) ?_
      exact Tq.fin (.cons rfl .nil)
    refine Dr.quiet 11 [(36, (.slice Ay102_0 (y102).length cy102_0))] (by kernel_rfl) rfl rfl (by kernel_rfl) ?_ rfl rfl ?_
    · refine Tq.val (wn rfl) rfl (fun _ _ h1 h2 => run_move (h1.ev rfl)) ?_
      exact Tq.fin (.cons rfl .nil)
    refine Dr.quiet 12 [(37, (.int .i64 x141))] (by kernel_rfl) rfl rfl (by kernel_rfl) ?_ rfl rfl ?_
    · refine Tq.val (wn rfl) rfl (fun _ _ h1 h2 => run_move (h1.ev rfl)) ?_
      exact Tq.fin (.cons rfl .nil)
    refine Dr.quiet 13 [(38, (.int .i64 (w64 (x141 - 1))))] (by kernel_rfl) rfl rfl (by kernel_rfl) ?_ rfl rfl ?_
    · refine Tq.val (wn rfl) rfl (fun _ _ h1 h2 => run_sub (h1.ev rfl) (h1.ev rfl)) ?_
      exact Tq.fin (.cons rfl .nil)
    obtain ⟨x145, hx145, H⟩ := bnd H
    obtain ⟨hx1450, hx1451, hx1452⟩ := idx_some hx145
    refine Dr.quiet 14 [(39, (.pointer (some ⟨adB Ay102_0, adO Ay102_0 + ((w64 (x141 - 1))).toNat * 1, none⟩)))] (by kernel_rfl) rfl rfl (by kernel_rfl) ?_ rfl rfl ?_
    · refine Tq.val (wn rfl) rfl (fun _ _ h1 h2 => run_indexAddr el_89 (h1.ev rfl) hgy102_0.form (h1.ev rfl) hx1450 hx1451) ?_
      exact Tq.fin (.cons rfl .nil)
    refine Dr.quiet 15 [(40, (.int .i64 x145))] (by kernel_rfl) rfl rfl (by kernel_rfl) ?_ rfl rfl ?_
    · refine Tq.val (wn rfl) rfl (fun _ _ h1 h2 => run_load1 ag_3 (h1.ev rfl) (rdF ef_i64 (hgy102_0.rl) hx1452 h2) rfl) ?_
      exact Tq.fin (.cons rfl .nil)
    refine Dr.quiet 17 [(42, (.slice Ap1_0 (p1).length cp1_0))] (by kernel_rfl) rfl rfl (by kernel_rfl) ?_ rfl rfl ?_
    · refine Tq.val (wn rfl) rfl (fun _ _ h1 h2 => run_move (h1.ev rfl)) ?_
      exact Tq.fin (.cons rfl .nil)
    refine Dr.quiet 18 [(43, (.slice Ay102_0 (y102).length cy102_0))] (by kernel_rfl) rfl rfl (by kernel_rfl) ?_ rfl rfl ?_
    · refine Tq.val (wn rfl) rfl (fun _ _ h1 h2 => run_move (h1.ev rfl)) ?_
      exact Tq.fin (.cons rfl .nil)
    refine Dr.quiet 19 [(44, (.int .i64 x141))] (by kernel_rfl) rfl rfl (by kernel_rfl) ?_ rfl rfl ?_
    · refine Tq.val (wn rfl) rfl (fun _ _ h1 h2 => run_move (h1.ev rfl)) ?_
      exact Tq.fin (.cons rfl .nil)
    refine Dr.quiet 20 [(45, (.int .i64 (w64 (x141 - 1))))] (by kernel_rfl) rfl rfl (by kernel_rfl) ?_ rfl rfl ?_
    · refine Tq.val (wn rfl) rfl (fun _ _ h1 h2 => run_sub (h1.ev rfl) (h1.ev rfl)) ?_
      exact Tq.fin (.cons rfl .nil)
    obtain ⟨x146, hx146, H⟩ := bnd H
    obtain ⟨hx1460, hx1461, hx1462⟩ := idx_some hx146
    refine Dr.quiet 21 [(46, (.pointer (some ⟨adB Ay102_0, adO Ay102_0 + ((w64 (x141 - 1))).toNat * 1, none⟩)))] (by kernel_rfl) rfl rfl (by kernel_rfl) ?_ rfl rfl ?_
    · refine Tq.val (wn rfl) rfl (fun _ _ h1 h2 => run_indexAddr el_89 (h1.ev rfl) hgy102_0.form (h1.ev rfl) hx1460 hx1461) ?_
      exact Tq.fin (.cons rfl .nil)
    refine Dr.quiet 22 [(47, (.int .i64 x146))] (by kernel_rfl) rfl rfl (by kernel_rfl) ?_ rfl rfl ?_
    · refine Tq.val (wn rfl) rfl (fun _ _ h1 h2 => run_load1 ag_3 (h1.ev rfl) (rdF ef_i64 (hgy102_0.rl) hx1462 h2) rfl) ?_
      exact Tq.fin (.cons rfl .nil)
    refine Dr.quiet 24 [(49, (.int .i64 p2))] (by kernel_rfl) rfl rfl (by kernel_rfl) ?_ rfl rfl ?_
    · refine Tq.val (wn rfl) rfl (fun _ _ h1 h2 => run_move (h1.ev rfl)) ?_
      exact Tq.fin (.cons rfl .nil)
    obtain ⟨y147, hy147, H⟩ := bnd H
    refine Dr.one 16 (by kernel_rfl) ?_
    refine St.callM 16 [10] [emp] (U := (Option Addr × Nat)) (fun u => (.slice u.1 (y147).length u.2)) (fun u => SlF u.1 (y147).length u.2) (fun u => [ow u.1 u.2 124 fl_TSpan y147]) rfl (pk_cons rfl pk_nil) (fun _ => rfl) (insS_no rfl) rfl (wn rfl) rfl Try.call95 (evl_cons rfl (evl_cons rfl evl_nil)) (fun W hW hp hE => F_etchhouseref1_row_ok N p0 Ap0_0 cp0_0 (hp0_0.ext (hW.extS hp)) x145 y147 hy147 hE) ?_
    intro u hu hsy147
    obtain ⟨Ay147_0, cy147_0⟩ := u
    have gy147_0 := hu
    have hgy147_0 : SlF Ay147_0 (y147).length cy147_0 := gy147_0
    show Dr _ _ _ _ _ _ _ _ _ (uf _ 41 (.slice Ay147_0 (y147).length cy147_0)) (up _ 10 (ow Ay147_0 cy147_0 124 fl_TSpan y147))
    obtain ⟨y149, hy149, H⟩ := bnd H
    refine Dr.one 23 (by kernel_rfl) ?_
    refine St.callM 23 [11] [emp] (U := (Option Addr × Nat)) (fun u => (.slice u.1 (y149).length u.2)) (fun u => SlF u.1 (y149).length u.2) (fun u => [ow u.1 u.2 124 fl_TSpan y149]) rfl (pk_cons rfl pk_nil) (fun _ => rfl) (insS_no rfl) rfl (wn rfl) rfl Try.call95 (evl_cons rfl (evl_cons rfl evl_nil)) (fun W hW hp hE => F_etchhouseref1_row_ok N p1 Ap1_0 cp1_0 (hp1_0.ext (hW.extS hp)) x146 y149 hy149 hE) ?_
    intro u hu hsy149
    obtain ⟨Ay149_0, cy149_0⟩ := u
    have gy149_0 := hu
    have hgy149_0 : SlF Ay149_0 (y149).length cy149_0 := gy149_0
    show Dr _ _ _ _ _ _ _ _ _ (uf _ 48 (.slice Ay149_0 (y149).length cy149_0)) (up _ 11 (ow Ay149_0 cy149_0 124 fl_TSpan y149))
    obtain ⟨y151, hy151, H⟩ := bnd H
    refine Dr.one 25 (by kernel_rfl) ?_
    refine St.callM 25 [12] [emp] (U := (Option Addr × Nat)) (fun u => (.slice u.1 (y151).length u.2)) (fun u => SlF u.1 (y151).length u.2) (fun u => [ow u.1 u.2 124 fl_TSpan y151]) rfl (pk_cons rfl pk_nil) (fun _ => rfl) (insS_no rfl) rfl (wn rfl) rfl Try.call125 (evl_cons rfl (evl_cons rfl (evl_cons rfl evl_nil))) (fun W hW hp hE => F_etchhouseref1_mixed_ok N y147 Ay147_0 cy147_0 (hW.slS (k := 10) rfl hp rfl) y149 Ay149_0 cy149_0 (hW.slS (k := 11) rfl hp rfl) p2 y151 hy151 hE) ?_
    intro u hu hsy151
    obtain ⟨Ay151_0, cy151_0⟩ := u
    have gy151_0 := hu
    have hgy151_0 : SlF Ay151_0 (y151).length cy151_0 := gy151_0
    show Dr _ _ _ _ _ _ _ _ _ (uf _ 50 (.slice Ay151_0 (y151).length cy151_0)) (up _ 12 (ow Ay151_0 cy151_0 124 fl_TSpan y151))
    refine Dr.quiet 26 [(51, (.agg #[(.int .i64 x143), (.int .i64 x144), (.slice Ay151_0 (y151).length cy151_0)]))] (by kernel_rfl) rfl rfl (by kernel_rfl) ?_ rfl rfl ?_
    · refine Tq.build (vs := [(0, (.int .i64 x143)), (1, (.int .i64 x144)), (2, (.slice Ay151_0 (y151).length cy151_0))]) (cs := [(.int .i64 x143), (.int .i64 x144), (.slice Ay151_0 (y151).length cy151_0)]) (wn rfl) rfl (evs_cons rfl (evs_cons rfl (evs_cons rfl evs_nil))) (by kernel_rfl) ?_
      exact Tq.fin (.cons rfl .nil)
    refine Dr.tail (by kernel_rfl) ?_
    refine Tr.freeze 12 rfl fun w le154 hz153 => ?_
    replace hp0_0 := hp0_0.leR le154
    replace hp1_0 := hp1_0.leR le154
    replace hgy102_0 := hgy102_0.le le154
    replace leB := leB.trans le154
    replace leF_etchhouseref1_combined_L1 := leF_etchhouseref1_combined_L1.trans le154
    obtain ⟨y155, hy155, H⟩ := bnd H
    refine Tr.callG [3] [ow Al140 cl140 103 fl_Tetchhouseref1Band l140] (U := (Option Addr × Nat)) (fun u => (.slice u.1 (y155).length u.2)) (fun O W u => SlF u.1 (y155).length u.2) (fun u => [ow u.1 u.2 103 fl_Tetchhouseref1Band y155]) rfl (pk_cons rfl pk_nil) (fun _ => rfl) (wn rfl) rfl Try.call94 (evl_cons rfl (evl_cons rfl evl_nil)) (fun W hW hp hE => F_etchhouseref1_stacked_ok N l140 Al140 cl140 (Tetchhouseref1Band.mk x143 x144 y151) Ay151_0 cy151_0 (hz153.extO (hW.extS hp)) y155 hy155 hE) ?_
    intro w u le156 hu
    obtain ⟨Ay155_0, cy155_0⟩ := u
    have gy155_0 := hu
    replace hp0_0 := hp0_0.leR le156
    replace hp1_0 := hp1_0.leR le156
    replace hgy102_0 := hgy102_0.le le156
    replace hz153 := hz153.le le156
    replace leB := leB.trans le156
    replace leF_etchhouseref1_combined_L1 := leF_etchhouseref1_combined_L1.trans le156
    have hgy155_0 : SlF Ay155_0 (y155).length cy155_0 := gy155_0 --@phi
    show Tr _ _ (uf _ 52 (.slice Ay155_0 (y155).length cy155_0)) (up _ 3 (ow Ay155_0 cy155_0 103 fl_Tetchhouseref1Band y155)) _
    refine Tr.val (wn rfl) rfl (fun _ _ h1 h2 => run_assign (h1.ev rfl)) ?_
    refine Tr.nil (Tr.normBlock (Tr.normThen ?_))
    refine Tr.region ?_
    refine Tr.val (wn rfl) rfl (fun _ _ h1 h2 => run_move (h1.ev rfl)) ?_
    refine Tr.val (wn rfl) rfl (fun _ _ h1 h2 => run_add (h1.ev rfl) (h1.ev rfl)) ?_
    refine Tr.val (wn rfl) rfl (fun _ _ h1 h2 => run_assign (h1.ev rfl)) ?_
    refine Tr.nil ?_
    exact Tr.backThen leF_etchhouseref1_combined_L1 (y155, (w64 (x141 + 1)), Ay155_0, cy155_0) ⟨H, hgy155_0⟩ (.cons rfl (.cons rfl (.cons rfl (.cons rfl (.cons rfl (.cons rfl .nil)))))) (.cons rfl .nil)
  · refine Tr.exit (Tr.exitThen (Tr.exitThen (Tr.exitBlock (Tr.normThen ?_))))
    refine Tr.seq ?_
    refine Tr.region ?_
    refine Tr.val (wn rfl) rfl (fun _ _ h1 h2 => run_move (h1.ev rfl)) ?_
    obtain ⟨y157, hy157, H⟩ := bnd H
    refine Tr.callM [13] [emp] (U := (Option Addr × Nat)) (fun u => (.slice u.1 (y157).length u.2)) (fun u => SlF u.1 (y157).length u.2) (fun u => [ow u.1 u.2 29 fl_TRect y157]) rfl (pk_cons rfl pk_nil) (fun _ => rfl) (wn rfl) rfl Try.call96 (evl_cons rfl evl_nil) (fun W hW hp hE => F_etchhouseref1_told_ok N l140 Al140 cl140 (hW.slS (k := 3) rfl hp rfl) y157 hy157 hE) ?_
    intro u hu
    obtain ⟨Ay157_0, cy157_0⟩ := u
    have gy157_0 := hu
    have hgy157_0 : SlF Ay157_0 (y157).length cy157_0 := gy157_0 --@phi
    show Tr _ _ (uf _ 54 (.slice Ay157_0 (y157).length cy157_0)) (up _ 13 (ow Ay157_0 cy157_0 29 fl_TRect y157)) _
    refine Tr.val (wn rfl) rfl (fun _ _ h1 h2 => run_assign (h1.ev rfl)) ?_
    refine Tr.nil (Tr.normThen ?_)
    refine Tr.ret ?_
    obtain rfl := Option.some.inj H
    exact Tr.out (m := [(.slice Ay157_0 (y157).length cy157_0)]) [] (res_tmp rfl res_nil) (fun W hW => ⟨(Ay157_0, cy157_0), rfl, hgy157_0, HF.lowE leB (hW.pick (ks := [13]) (by decide) (pk_cons rfl pk_nil)) ⟨ow_any _ _ _ _ tr_TRect, trivial⟩⟩)

theorem F_etchhouseref1_limited_ok {w : Bs} (p0 : (List TRect)) (Ap0_0 : Option Addr) (cp0_0 : Nat) (hp0_0 : Sl w.O w.W fl_TRect Ap0_0 cp0_0 p0) (r : ((List TRect) × Int)) (H : F_etchhouseref1_limited p0 = some r) (hE : HF w w.W (LEn [])) : Calls Try.prog 52 [(.slice Ap0_0 (p0).length cp0_0)].toArray w.W fun e W' => ∃ (w' : Bs) (u : (Option Addr × Nat)), w.Le w' ∧ e = .returned (.tuple #[(.slice u.1 (r.1).length u.2), (.int .i64 r.2)]) ∧ (Sl w'.O w'.W fl_TRect u.1 u.2 r.1) ∧ HF w' W' (LEn []) := by
  unfold F_etchhouseref1_limited at H
  have leB := Bs.Le.refl w
  refine Tr.enter (n := 8) Try.func52 rfl rfl rfl hE ?_
  refine Tr.seq ?_
  refine Tr.region ?_
  refine Tr.val (wn rfl) rfl (fun _ _ h1 h2 => run_assign (h1.ev rfl)) ?_
  refine Tr.nilOwn 1 29 fl_TRect ?_
  show Tr _ _ (uf _ 2 (.slice none (([] : List TRect)).length 0)) _ _
  refine Tr.val (wn rfl) rfl (fun _ _ h1 h2 => run_assign (h1.ev rfl)) ?_
  refine Tr.nil (Tr.normThen ?_)
  refine Tr.seq ?_
  refine Tr.seq ?_
  refine Tr.region ?_
  refine Tr.val (wn rfl) rfl (fun _ _ h1 h2 => run_move (h1.ev rfl)) ?_
  refine Tr.val (wn rfl) rfl (fun _ _ h1 h2 => run_len un_22 (h1.ev rfl)) ?_
  refine Tr.val (wn rfl) rfl (fun _ _ h1 h2 => run_gtr (h1.ev rfl) (h1.ev rfl)) ?_
  refine Tr.nil (Tr.normThen ?_)
  refine Tr.cond rfl H (fun H => ?_) (fun H => ?_)
  · refine Tr.seq ?_
    refine Tr.region ?_
    refine Tr.val (wn rfl) rfl (fun _ _ h1 h2 => run_assign (h1.ev rfl)) ?_
    refine Tr.nilOwn 2 29 fl_TRect ?_
    show Tr _ _ (uf _ 2 (.slice none (([] : List TRect)).length 0)) _ _
    refine Tr.val (wn rfl) rfl (fun _ _ h1 h2 => run_assign (h1.ev rfl)) ?_
    refine Tr.nil (Tr.normThen ?_)
    refine Tr.ret (Tr.retThen ?_)
    obtain rfl := Option.some.inj H
    refine Tr.freeze 2 rfl fun w le101 hz100 => ?_
    replace hp0_0 := hp0_0.le le101
    replace leB := leB.trans le101
    exact Tr.out (m := [(.slice none (([] : List TRect)).length 0), (.int .i64 2)]) [] (res_tmp rfl (res_tmp rfl res_nil)) (fun W hW => ⟨w, (none, 0), leB, rfl, hz100, hW.pick (ks := []) (by decide) pk_nil⟩)
  · refine Tr.skip (Tr.normThen ?_)
    refine Tr.seq ?_
    refine Tr.region ?_
    refine Tr.val (wn rfl) rfl (fun _ _ h1 h2 => run_move (h1.ev rfl)) ?_
    refine Tr.val (wn rfl) rfl (fun _ _ h1 h2 => run_assign (h1.ev rfl)) ?_
    refine Tr.val (wn rfl) rfl (fun _ _ h1 h2 => run_assign (h1.ev rfl)) ?_
    refine Tr.nil (Tr.normThen ?_)
    refine Tr.ret ?_
    obtain rfl := Option.some.inj H
    exact Tr.out (m := [(.slice Ap0_0 (p0).length cp0_0), (.int .i64 0)]) [] (res_tmp rfl (res_tmp rfl res_nil)) (fun W hW => ⟨w, (Ap0_0, cp0_0), leB, rfl, hp0_0, hW.pick (ks := []) (by decide) pk_nil⟩)

theorem F_etchhouseref1_two_ok (N : Nat) {w : Bs} (p0 : (List TRect)) (Ap0_0 : Option Addr) (cp0_0 : Nat) (hp0_0 : Sl w.R w.W fl_TRect Ap0_0 cp0_0 p0) (p1 : (List TRect)) (Ap1_0 : Option Addr) (cp1_0 : Nat) (hp1_0 : Sl w.R w.W fl_TRect Ap1_0 cp1_0 p1) (p2 : Int) (r : ((List TRect) × Int)) (H : F_etchhouseref1_two N p0 p1 p2 = some r) (hE : HF w w.W (LEn [])) : Calls Try.prog 79 [(.slice Ap0_0 (p0).length cp0_0), (.slice Ap1_0 (p1).length cp1_0), (.int .i64 p2)].toArray w.W fun e W' => ∃ (w' : Bs) (u : (Option Addr × Nat)), w.Le w' ∧ e = .returned (.tuple #[(.slice u.1 (r.1).length u.2), (.int .i64 r.2)]) ∧ (Sl w'.O w'.W fl_TRect u.1 u.2 r.1) ∧ HF w' W' (LEn []) := by
  unfold F_etchhouseref1_two at H
  have leB := Bs.Le.refl w
  refine Tr.enter (n := 27) Try.func79 rfl rfl rfl hE ?_
  refine Tr.seq ?_
  refine Tr.region ?_
  refine Tr.val (wn rfl) rfl (fun _ _ h1 h2 => run_assign (h1.ev rfl)) ?_
  refine Tr.nilOwn 1 29 fl_TRect ?_
  show Tr _ _ (uf _ 6 (.slice none (([] : List TRect)).length 0)) _ _
  refine Tr.val (wn rfl) rfl (fun _ _ h1 h2 => run_assign (h1.ev rfl)) ?_
  refine Tr.nil (Tr.normThen ?_)
  refine Tr.seq ?_
  refine Tr.seq ?_
  refine Tr.region ?_
  refine Tr.val (wn rfl) rfl (fun _ _ h1 h2 => run_move (h1.ev rfl)) ?_
  obtain ⟨y100, hy100, H⟩ := bnd H
  refine Tr.call0 (r := (.int .i64 y100)) (wn rfl) rfl Try.call18 (evl_cons rfl evl_nil) (fun W hW => F_etchhouseref1_CheckRegion_ok N p0 Ap0_0 cp0_0 (hp0_0.ext hW.extAll) y100 hy100 (HF.start _)) ?_
  refine Tr.val (wn rfl) rfl (fun _ _ h1 h2 => run_assign (h1.ev rfl)) ?_
  refine Tr.nil (Tr.normThen ?_)
  refine Tr.seq ?_
  refine Tr.region ?_
  refine Tr.val (wn rfl) rfl (fun _ _ h1 h2 => run_move (h1.ev rfl)) ?_
  refine Tr.val (wn rfl) rfl (fun _ _ h1 h2 => run_neq (h1.ev rfl) (h1.ev rfl)) ?_
  refine Tr.nil (Tr.normThen ?_)
  refine Tr.cond rfl H (fun H => ?_) (fun H => ?_)
  · refine Tr.seq ?_
    refine Tr.region ?_
    refine Tr.val (wn rfl) rfl (fun _ _ h1 h2 => run_move (h1.ev rfl)) ?_
    refine Tr.val (wn rfl) rfl (fun _ _ h1 h2 => run_assign (h1.ev rfl)) ?_
    refine Tr.nilOwn 2 29 fl_TRect ?_
    show Tr _ _ (uf _ 6 (.slice none (([] : List TRect)).length 0)) _ _
    refine Tr.val (wn rfl) rfl (fun _ _ h1 h2 => run_assign (h1.ev rfl)) ?_
    refine Tr.nil (Tr.normThen ?_)
    refine Tr.ret (Tr.retThen ?_)
    obtain rfl := Option.some.inj H
    refine Tr.freeze 2 rfl fun w le102 hz101 => ?_
    replace hp0_0 := hp0_0.leR le102
    replace hp1_0 := hp1_0.leR le102
    replace leB := leB.trans le102
    exact Tr.out (m := [(.slice none (([] : List TRect)).length 0), (.int .i64 y100)]) [] (res_tmp rfl (res_tmp rfl res_nil)) (fun W hW => ⟨w, (none, 0), leB, rfl, hz101, hW.pick (ks := []) (by decide) pk_nil⟩)
  · refine Tr.skip (Tr.normThen ?_)
    refine Tr.seq ?_
    refine Tr.seq ?_
    refine Tr.region ?_
    refine Tr.val (wn rfl) rfl (fun _ _ h1 h2 => run_move (h1.ev rfl)) ?_
    obtain ⟨y103, hy103, H⟩ := bnd H
    refine Tr.call0 (r := (.int .i64 y103)) (wn rfl) rfl Try.call18 (evl_cons rfl evl_nil) (fun W hW => F_etchhouseref1_CheckRegion_ok N p1 Ap1_0 cp1_0 (hp1_0.ext hW.extAll) y103 hy103 (HF.start _)) ?_
    refine Tr.val (wn rfl) rfl (fun _ _ h1 h2 => run_assign (h1.ev rfl)) ?_
    refine Tr.nil (Tr.normThen ?_)
    refine Tr.seq ?_
    refine Tr.region ?_
    refine Tr.val (wn rfl) rfl (fun _ _ h1 h2 => run_move (h1.ev rfl)) ?_
    refine Tr.val (wn rfl) rfl (fun _ _ h1 h2 => run_neq (h1.ev rfl) (h1.ev rfl)) ?_
    refine Tr.nil (Tr.normThen ?_)
    refine Tr.cond rfl H (fun H => ?_) (fun H => ?_)
    · refine Tr.seq ?_
      refine Tr.region ?_
      refine Tr.val (wn rfl) rfl (fun _ _ h1 h2 => run_move (h1.ev rfl)) ?_
      refine Tr.val (wn rfl) rfl (fun _ _ h1 h2 => run_assign (h1.ev rfl)) ?_
      refine Tr.nilOwn 3 29 fl_TRect ?_
      show Tr _ _ (uf _ 6 (.slice none (([] : List TRect)).length 0)) _ _
      refine Tr.val (wn rfl) rfl (fun _ _ h1 h2 => run_assign (h1.ev rfl)) ?_
      refine Tr.nil (Tr.normThen ?_)
      refine Tr.ret (Tr.retThen ?_)
      obtain rfl := Option.some.inj H
      refine Tr.freeze 3 rfl fun w le105 hz104 => ?_
      replace hp0_0 := hp0_0.leR le105
      replace hp1_0 := hp1_0.leR le105
      replace leB := leB.trans le105
      exact Tr.out (m := [(.slice none (([] : List TRect)).length 0), (.int .i64 y103)]) [] (res_tmp rfl (res_tmp rfl res_nil)) (fun W hW => ⟨w, (none, 0), leB, rfl, hz104, hW.pick (ks := []) (by decide) pk_nil⟩)
    · refine Tr.skip (Tr.normThen ?_)
      refine Tr.seq ?_
      refine Tr.region ?_
      refine Tr.val (wn rfl) rfl (fun _ _ h1 h2 => run_move (h1.ev rfl)) ?_
      refine Tr.val (wn rfl) rfl (fun _ _ h1 h2 => run_move (h1.ev rfl)) ?_
      refine Tr.val (wn rfl) rfl (fun _ _ h1 h2 => run_move (h1.ev rfl)) ?_
      obtain ⟨y106, hy106, H⟩ := bnd H
      refine Tr.callM [4] [emp] (U := (Option Addr × Nat)) (fun u => (.slice u.1 (y106).length u.2)) (fun u => SlF u.1 (y106).length u.2) (fun u => [ow u.1 u.2 29 fl_TRect y106]) rfl (pk_cons rfl pk_nil) (fun _ => rfl) (wn rfl) rfl Try.call109 (evl_cons rfl (evl_cons rfl (evl_cons rfl evl_nil))) (fun W hW hp hE => F_etchhouseref1_combined_ok N p0 Ap0_0 cp0_0 (hp0_0.ext (hW.extS hp)) p1 Ap1_0 cp1_0 (hp1_0.ext (hW.extS hp)) p2 y106 hy106 hE) ?_
      intro u hu
      obtain ⟨Ay106_0, cy106_0⟩ := u
      have gy106_0 := hu
      have hgy106_0 : SlF Ay106_0 (y106).length cy106_0 := gy106_0 --@phi
      show Tr _ _ (uf _ 23 (.slice Ay106_0 (y106).length cy106_0)) (up _ 4 (ow Ay106_0 cy106_0 29 fl_TRect y106)) _
      refine Tr.freeze 4 rfl fun w le109 hz108 => ?_
      replace hp0_0 := hp0_0.leR le109
      replace hp1_0 := hp1_0.leR le109
      replace leB := leB.trans le109
      obtain ⟨y110, hy110, H⟩ := bnd H
      refine Tr.callG [] [] (U := (Option Addr × Nat)) (fun u => (.tuple #[(.slice u.1 (y110.1).length u.2), (.int .i64 y110.2)])) (fun O W u => Sl O W fl_TRect u.1 u.2 y110.1) (fun u => []) rfl pk_nil (fun _ => rfl) (wn rfl) rfl Try.call52 (evl_cons rfl evl_nil) (fun W hW hp hE => F_etchhouseref1_limited_ok y106 Ay106_0 cy106_0 (hz108.extO (hW.extS hp)) y110 hy110 hE) ?_
      intro w u le111 hu
      obtain ⟨Ay110_0, cy110_0⟩ := u
      have gy110_0 := hu
      replace hp0_0 := hp0_0.leR le111
      replace hp1_0 := hp1_0.leR le111
      replace hz108 := hz108.le le111
      replace leB := leB.trans le111
      have hgy110_0 : Sl w.O w.W fl_TRect Ay110_0 cy110_0 y110.1 := gy110_0 --@phi
      show Tr _ _ (uf _ 24 (.tuple #[(.slice Ay110_0 (y110.1).length cy110_0), (.int .i64 y110.2)])) (_) _
      refine Tr.val (wn rfl) rfl (fun _ _ h1 h2 => run_extract (h1.ev rfl) rfl) ?_
      refine Tr.val (wn rfl) rfl (fun _ _ h1 h2 => run_extract (h1.ev rfl) rfl) ?_
      refine Tr.val (wn rfl) rfl (fun _ _ h1 h2 => run_assign (h1.ev rfl)) ?_
      refine Tr.val (wn rfl) rfl (fun _ _ h1 h2 => run_assign (h1.ev rfl)) ?_
      refine Tr.nil (Tr.normThen ?_)
      refine Tr.ret ?_
      obtain rfl := Option.some.inj H
      exact Tr.out (m := [(.slice Ay110_0 (y110.1).length cy110_0), (.int .i64 y110.2)]) [] (res_tmp rfl (res_tmp rfl res_nil)) (fun W hW => ⟨w, (Ay110_0, cy110_0), leB, rfl, hgy110_0, hW.pick (ks := []) (by decide) pk_nil⟩)

theorem F_etchhouseref1_Union_ok (N : Nat) {w : Bs} (p0 : (List TRect)) (Ap0_0 : Option Addr) (cp0_0 : Nat) (hp0_0 : Sl w.R w.W fl_TRect Ap0_0 cp0_0 p0) (p1 : (List TRect)) (Ap1_0 : Option Addr) (cp1_0 : Nat) (hp1_0 : Sl w.R w.W fl_TRect Ap1_0 cp1_0 p1) (r : ((List TRect) × Int)) (H : F_etchhouseref1_Union N p0 p1 = some r) (hE : HF w w.W (LEn [])) : Calls Try.prog 41 [(.slice Ap0_0 (p0).length cp0_0), (.slice Ap1_0 (p1).length cp1_0)].toArray w.W fun e W' => ∃ (w' : Bs) (u : (Option Addr × Nat)), w.Le w' ∧ e = .returned (.tuple #[(.slice u.1 (r.1).length u.2), (.int .i64 r.2)]) ∧ (Sl w'.O w'.W fl_TRect u.1 u.2 r.1) ∧ HF w' W' (LEn []) := by
  unfold F_etchhouseref1_Union at H
  have leB := Bs.Le.refl w
  refine Tr.enter (n := 11) Try.func41 rfl rfl rfl hE ?_
  refine Tr.seq ?_
  refine Tr.region ?_
  refine Tr.val (wn rfl) rfl (fun _ _ h1 h2 => run_assign (h1.ev rfl)) ?_
  refine Tr.nilOwn 1 29 fl_TRect ?_
  show Tr _ _ (uf _ 4 (.slice none (([] : List TRect)).length 0)) _ _
  refine Tr.val (wn rfl) rfl (fun _ _ h1 h2 => run_assign (h1.ev rfl)) ?_
  refine Tr.nil (Tr.normThen ?_)
  refine Tr.seq ?_
  refine Tr.region ?_
  refine Tr.val (wn rfl) rfl (fun _ _ h1 h2 => run_move (h1.ev rfl)) ?_
  refine Tr.val (wn rfl) rfl (fun _ _ h1 h2 => run_move (h1.ev rfl)) ?_
  obtain ⟨y100, hy100, H⟩ := bnd H
  refine Tr.callG [] [] (U := (Option Addr × Nat)) (fun u => (.tuple #[(.slice u.1 (y100.1).length u.2), (.int .i64 y100.2)])) (fun O W u => Sl O W fl_TRect u.1 u.2 y100.1) (fun u => []) rfl pk_nil (fun _ => rfl) (wn rfl) rfl Try.call79 (evl_cons rfl (evl_cons rfl (evl_cons rfl evl_nil))) (fun W hW hp hE => F_etchhouseref1_two_ok N p0 Ap0_0 cp0_0 (hp0_0.ext (hW.extS hp)) p1 Ap1_0 cp1_0 (hp1_0.ext (hW.extS hp)) 1 y100 hy100 hE) ?_
  intro w u le101 hu
  obtain ⟨Ay100_0, cy100_0⟩ := u
  have gy100_0 := hu
  replace hp0_0 := hp0_0.leR le101
  replace hp1_0 := hp1_0.leR le101
  replace leB := leB.trans le101
  have hgy100_0 : Sl w.O w.W fl_TRect Ay100_0 cy100_0 y100.1 := gy100_0 --@phi
  show Tr _ _ (uf _ 8 (.tuple #[(.slice Ay100_0 (y100.1).length cy100_0), (.int .i64 y100.2)])) (_) _
  refine Tr.val (wn rfl) rfl (fun _ _ h1 h2 => run_extract (h1.ev rfl) rfl) ?_
  refine Tr.val (wn rfl) rfl (fun _ _ h1 h2 => run_extract (h1.ev rfl) rfl) ?_
  refine Tr.val (wn rfl) rfl (fun _ _ h1 h2 => run_assign (h1.ev rfl)) ?_
  refine Tr.val (wn rfl) rfl (fun _ _ h1 h2 => run_assign (h1.ev rfl)) ?_
  refine Tr.nil (Tr.normThen ?_)
  refine Tr.ret ?_
  obtain rfl := Option.some.inj H
  exact Tr.out (m := [(.slice Ay100_0 (y100.1).length cy100_0), (.int .i64 y100.2)]) [] (res_tmp rfl (res_tmp rfl res_nil)) (fun W hW => ⟨w, (Ay100_0, cy100_0), leB, rfl, hgy100_0, hW.pick (ks := []) (by decide) pk_nil⟩)

theorem F_shape_Set__And_1_ok {w : Bs} (p0 : Bool) (p1 : Bool) (r : Bool) (H : F_shape_Set__And_1 p0 p1 = some r) (hE : HF w w.W E0) : Calls Try.prog 110 [(.bool p0), (.bool p1)].toArray w.W fun e W' => e = .returned (.bool r) ∧ HF w W' E0 := by
  unfold F_shape_Set__And_1 at H
  have leB := Bs.Le.refl w
  refine Tr.enter (n := 9) Try.func110 rfl rfl rfl hE ?_
  refine Tr.seq ?_
  refine Tr.region ?_
  refine Tr.val (wn rfl) rfl (fun _ _ h1 h2 => run_assign (h1.ev rfl)) ?_
  refine Tr.nil (Tr.normThen ?_)
  refine Tr.seq ?_
  refine Tr.region ?_
  refine Tr.val (wn rfl) rfl (fun _ _ h1 h2 => run_move (h1.ev rfl)) ?_
  refine Tr.val (wn rfl) rfl (fun _ _ h1 h2 => run_move (h1.ev rfl)) ?_
  refine Tr.mid0 2 [(8, (.bool (p0 && p1)))] [] ?_ ?_
  · cases hg99 : p0
    · refine Tr.pass rfl rfl rfl rfl rfl (by decide) ?_
      refine Tr.val (wn rfl) rfl (fun _ _ h1 h2 => run_pickF (h1.ev rfl) (h1.ev rfl)) ?_
      exact Tr.nil (Tr.fin0 (.cons rfl .nil) .nil)
    · refine Tr.val (wg rfl rfl rfl) rfl (fun _ _ h1 h2 => run_move (h1.ev rfl)) ?_
      refine Tr.val (wn rfl) rfl (fun _ _ h1 h2 => run_pickT (h1.ev rfl) (h1.ev rfl)) ?_
      exact Tr.nil (Tr.fin0 (.cons rfl .nil) .nil)
  · show Tr _ _ (LF [(8, (.bool (p0 && p1)))]) (LE []) _
    refine Tr.val (wn rfl) rfl (fun _ _ h1 h2 => run_assign (h1.ev rfl)) ?_
    refine Tr.nil (Tr.normThen ?_)
    refine Tr.ret ?_
    obtain rfl := Option.some.inj H
    exact Tr.out (m := [(.bool (p0 && p1))]) [] (res_tmp rfl res_nil) (fun W hW => ⟨rfl, hW.low leB⟩)

theorem F_shape_Set__And_ok (N : Nat) {w : Bs} (p0 : (List TBand)) (Ap0_0 : Option Addr) (cp0_0 : Nat) (hp0_0 : Sl w.O w.W fl_TBand Ap0_0 cp0_0 p0) (p1 : (List TBand)) (Ap1_0 : Option Addr) (cp1_0 : Nat) (hp1_0 : Sl w.O w.W fl_TBand Ap1_0 cp1_0 p1) (r : (List TBand)) (H : F_shape_Set__And N p0 p1 = some r) (hE : HF w w.W (LEn [emp])) : Calls Try.prog 80 [(.slice Ap0_0 (p0).length cp0_0), (.slice Ap1_0 (p1).length cp1_0)].toArray w.W fun e W' => ∃ (w' : Bs) (u : (Option Addr × Nat)), w.Le w' ∧ e = .returned (.slice u.1 (r).length u.2) ∧ (SlF u.1 (r).length u.2) ∧ HF w' W' (LEn [ow u.1 u.2 96 fl_TBand r]) := by
  unfold F_shape_Set__And at H
  have leB := Bs.Le.refl w
  refine Tr.enter (n := 8) Try.func80 rfl rfl rfl hE ?_
  refine Tr.seq ?_
  refine Tr.region ?_
  refine Tr.val (wn rfl) rfl (fun _ _ h1 h2 => run_assign (h1.ev rfl)) ?_
  refine Tr.nilOwn 1 96 fl_TBand ?_
  show Tr _ _ (uf _ 4 (.slice none (([] : List TBand)).length 0)) _ _
  refine Tr.nil (Tr.normThen ?_)
  refine Tr.seq ?_
  refine Tr.region ?_
  refine Tr.val (wn rfl) rfl (fun _ _ h1 h2 => run_move (h1.ev rfl)) ?_
  refine Tr.val (wn rfl) rfl (fun _ _ h1 h2 => run_move (h1.ev rfl)) ?_
  obtain ⟨y100, hy100, H⟩ := bnd H
  refine Tr.callG [2] [emp] (U := (Option Addr × Nat)) (fun u => (.slice u.1 (y100).length u.2)) (fun O W u => SlF u.1 (y100).length u.2) (fun u => [ow u.1 u.2 96 fl_TBand y100]) rfl (pk_cons rfl pk_nil) (fun _ => rfl) (wn rfl) rfl Try.call107 (evl_cons rfl (evl_cons rfl (evl_cons rfl evl_nil))) (fun W hW hp hE => F_shape_Merge_ok N p0 Ap0_0 cp0_0 (hp0_0.extO (hW.extS hp)) p1 Ap1_0 cp1_0 (hp1_0.extO (hW.extS hp)) (fun z0 z1 => F_shape_Set__And_1 z0 z1) 110 [] Try.call110 (fun w' he z0 z1 y hy => F_shape_Set__And_1_ok z0 z1 y hy (HF.start _)) y100 hy100 hE) ?_
  intro w u le101 hu
  obtain ⟨Ay100_0, cy100_0⟩ := u
  have gy100_0 := hu
  replace hp0_0 := hp0_0.le le101
  replace hp1_0 := hp1_0.le le101
  replace leB := leB.trans le101
  have hgy100_0 : SlF Ay100_0 (y100).length cy100_0 := gy100_0 --@phi
  show Tr _ _ (uf _ 7 (.slice Ay100_0 (y100).length cy100_0)) (up _ 2 (ow Ay100_0 cy100_0 96 fl_TBand y100)) _
  refine Tr.val (wn rfl) rfl (fun _ _ h1 h2 => run_assign (h1.ev rfl)) ?_
  refine Tr.nil (Tr.normThen ?_)
  refine Tr.ret ?_
  obtain rfl := Option.some.inj H
  exact Tr.out (m := [(.slice Ay100_0 (y100).length cy100_0)]) [] (res_tmp rfl res_nil) (fun W hW => ⟨w, (Ay100_0, cy100_0), leB, rfl, hgy100_0, hW.pick (ks := [2]) (by decide) (pk_cons rfl pk_nil)⟩)

end Go.Proofs.Ytcebbfodkadggaa
