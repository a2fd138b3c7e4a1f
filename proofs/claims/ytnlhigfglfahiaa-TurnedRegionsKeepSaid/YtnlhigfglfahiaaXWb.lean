/- The walks: each function computes its plain function. -/
import Derived.Test.YtnlhigfglfahiaaXWa
namespace Go.Proofs.Ytnlhigfglfahiaa
open Go.RowKit
set_option maxRecDepth 100000
set_option maxHeartbeats 1000000
theorem F_shape_Set__Around_ok {w : Bs} (p0 : (List TBand)) (Ap0_0 : Option Addr) (cp0_0 : Nat) (hp0_0 : Sl w.R w.W fl_TBand Ap0_0 cp0_0 p0) (r : TRect) (H : F_shape_Set__Around p0 = some r) (hE : HF w w.W E0) : Calls Try.prog 51 [(.slice Ap0_0 (p0).length cp0_0)].toArray w.W fun e W' => e = .returned (.agg #[(.int .i64 r.X0), (.int .i64 r.Y0), (.int .i64 r.X1), (.int .i64 r.Y1)]) ∧ HF w W' E0 := by
  unfold F_shape_Set__Around at H
  have leB := Bs.Le.refl w
  refine Tr.enter (n := 58) Try.func51 rfl rfl rfl hE ?_
  refine Tr.seq ?_
  refine Tr.region ?_
  refine Tr.alloc 1 (wn rfl) rfl ze_29 fun b100 => ?_
  refine Tr.nil (Tr.normThen ?_)
  refine Tr.seq ?_
  obtain ⟨x102, hx102, H⟩ := bnd H
  obtain ⟨hx1020, hx1021, hx1022⟩ := idx_some hx102
  obtain ⟨u103, hRu103, hoku103, hcu103⟩ := (hp0_0).el hx1022
  obtain ⟨Au103_0, cu103_0⟩ := u103
  obtain ⟨x104, hx104, H⟩ := bnd H
  obtain ⟨hx1040, hx1041, hx1042⟩ := idx_some hx104
  obtain ⟨x105, hx105, H⟩ := bnd H
  obtain ⟨hx1050, hx1051, hx1052⟩ := idx_some hx105
  obtain ⟨u106, hRu106, hoku106, hcu106⟩ := (hp0_0).el hx1052
  obtain ⟨Au106_0, cu106_0⟩ := u106
  obtain ⟨x107, hx107, H⟩ := bnd H
  obtain ⟨hx1070, hx1071, hx1072⟩ := idx_some hx107
  obtain ⟨u108, hRu108, hoku108, hcu108⟩ := (hp0_0).el hx1072
  obtain ⟨Au108_0, cu108_0⟩ := u108
  obtain ⟨x109, hx109, H⟩ := bnd H
  obtain ⟨hx1090, hx1091, hx1092⟩ := idx_some hx109
  obtain ⟨x110, hx110, H⟩ := bnd H
  obtain ⟨hx1100, hx1101, hx1102⟩ := idx_some hx110
  obtain ⟨u111, hRu111, hoku111, hcu111⟩ := (hp0_0).el hx1102
  obtain ⟨Au111_0, cu111_0⟩ := u111
  refine Tr.drawF 25 [(24, .makeFunc (.func 0) #[] #[])] [(24, ⟨3, 2, (.func (.func 0) #[] #[]), fun b => .pointer (some ⟨b, 0, none⟩), fun b => bx b #[(.int .i64 0), (.int .i64 0), (.int .i64 0), (.int .i64 0)] 29⟩)] [(0, (.slice Ap0_0 (p0).length cp0_0)), (2, (.pointer (some ⟨b100, 0, none⟩))), (3, (.func (.func 0) #[] #[])), (6, (.slice Ap0_0 (p0).length cp0_0)), (7, (.pointer (some ⟨adB Ap0_0, adO Ap0_0 + ((0 : Int)).toNat * 3, none⟩))), (8, (.pointer (some ⟨adB Ap0_0, adO Ap0_0 + ((0 : Int)).toNat * 3 + 2, none⟩))), (9, (.slice Au103_0 (x102.Xs).length cu103_0)), (10, (.pointer (some ⟨adB Au103_0, adO Au103_0 + ((0 : Int)).toNat * 1, none⟩))), (11, (.int .i64 x104)), (12, (.slice Ap0_0 (p0).length cp0_0)), (13, (.pointer (some ⟨adB Ap0_0, adO Ap0_0 + ((0 : Int)).toNat * 3, none⟩))), (14, (.pointer (some ⟨adB Ap0_0, adO Ap0_0 + ((0 : Int)).toNat * 3 + 0, none⟩))), (15, (.int .i64 x105.Y0)), (16, (.slice Ap0_0 (p0).length cp0_0)), (17, (.pointer (some ⟨adB Ap0_0, adO Ap0_0 + ((0 : Int)).toNat * 3, none⟩))), (18, (.pointer (some ⟨adB Ap0_0, adO Ap0_0 + ((0 : Int)).toNat * 3 + 2, none⟩))), (19, (.slice Au108_0 (x107.Xs).length cu108_0)), (20, (.pointer (some ⟨adB Au108_0, adO Au108_0 + ((1 : Int)).toNat * 1, none⟩))), (21, (.int .i64 x109)), (22, (.slice Ap0_0 (p0).length cp0_0)), (23, (.slice Ap0_0 (p0).length cp0_0)), (24, (.int .i64 (p0.length : Int))), (25, (.int .i64 (w64 ((p0.length : Int) - 1)))), (26, (.pointer (some ⟨adB Ap0_0, adO Ap0_0 + ((w64 ((p0.length : Int) - 1))).toNat * 3, none⟩))), (27, (.pointer (some ⟨adB Ap0_0, adO Ap0_0 + ((w64 ((p0.length : Int) - 1))).toNat * 3 + 1, none⟩))), (28, (.int .i64 x110.Y1)), (29, (.agg #[(.int .i64 x104), (.int .i64 x105.Y0), (.int .i64 x109), (.int .i64 x110.Y1)]))] (by kernel_rfl) (by kernel_rfl) (by kernel_rfl) (by kernel_rfl) (by kernel_rfl) (by kernel_rfl) (by kernel_rfl) (fall_cons (fr_alloc rfl rfl ze_29) fall_nil) (fall_cons rfl fall_nil) (fall_cons rfl fall_nil) ?_ ?_
  · refine Tq.val (wn rfl) rfl (fun _ _ h1 h2 => run_move (h1.ev rfl)) ?_
    have hoku103_0 := hoku103
    replace hoku103_0 : Sl w.R w.W fl_i64 Au103_0 cu103_0 x102.Xs := hoku103_0
    refine Tq.val (wn rfl) rfl (fun _ _ h1 h2 => run_indexAddr el_65 (h1.ev rfl) hp0_0.form (h1.ev rfl) hx1020 hx1021) ?_
    refine Tq.val (wn rfl) rfl (fun _ _ h1 h2 => run_fieldAddr fo_104_2 (h1.ev rfl)) ?_
    refine Tq.val (wn rfl) rfl (fun _ _ h1 h2 => run_load1 ag_97 (h1.ev rfl) (CellsAt.drop (rdR hRu103 hcu103 h2) 2) rfl) ?_
    refine Tq.val (wn rfl) rfl (fun _ _ h1 h2 => run_indexAddr el_97 (h1.ev rfl) hoku103_0.form (h1.ev rfl) hx1040 hx1041) ?_
    refine Tq.val (wn rfl) rfl (fun _ _ h1 h2 => run_load1 ag_3 (h1.ev rfl) (rdF ef_i64 hoku103_0 hx1042 h2) rfl) ?_
    refine Tq.val (wn rfl) rfl (fun _ _ h1 h2 => run_move (h1.ev rfl)) ?_
    have hoku106_0 := hoku106
    replace hoku106_0 : Sl w.R w.W fl_i64 Au106_0 cu106_0 x105.Xs := hoku106_0
    refine Tq.val (wn rfl) rfl (fun _ _ h1 h2 => run_indexAddr el_65 (h1.ev rfl) hp0_0.form (h1.ev rfl) hx1050 hx1051) ?_
    refine Tq.val (wn rfl) rfl (fun _ _ h1 h2 => run_fieldAddr fo_104_0 (h1.ev rfl)) ?_
    refine Tq.val (wn rfl) rfl (fun _ _ h1 h2 => run_load1 ag_3 (h1.ev rfl) (CellsAt.drop (rdR hRu106 hcu106 h2) 0) rfl) ?_
    refine Tq.val (wn rfl) rfl (fun _ _ h1 h2 => run_move (h1.ev rfl)) ?_
    have hoku108_0 := hoku108
    replace hoku108_0 : Sl w.R w.W fl_i64 Au108_0 cu108_0 x107.Xs := hoku108_0
    refine Tq.val (wn rfl) rfl (fun _ _ h1 h2 => run_indexAddr el_65 (h1.ev rfl) hp0_0.form (h1.ev rfl) hx1070 hx1071) ?_
    refine Tq.val (wn rfl) rfl (fun _ _ h1 h2 => run_fieldAddr fo_104_2 (h1.ev rfl)) ?_
    refine Tq.val (wn rfl) rfl (fun _ _ h1 h2 => run_load1 ag_97 (h1.ev rfl) (CellsAt.drop (rdR hRu108 hcu108 h2) 2) rfl) ?_
    refine Tq.val (wn rfl) rfl (fun _ _ h1 h2 => run_indexAddr el_97 (h1.ev rfl) hoku108_0.form (h1.ev rfl) hx1090 hx1091) ?_
    refine Tq.val (wn rfl) rfl (fun _ _ h1 h2 => run_load1 ag_3 (h1.ev rfl) (rdF ef_i64 hoku108_0 hx1092 h2) rfl) ?_
    refine Tq.val (wn rfl) rfl (fun _ _ h1 h2 => run_move (h1.ev rfl)) ?_
    refine Tq.val (wn rfl) rfl (fun _ _ h1 h2 => run_move (h1.ev rfl)) ?_
    refine Tq.val (wn rfl) rfl (fun _ _ h1 h2 => run_len un_65 (h1.ev rfl)) ?_
    refine Tq.val (wn rfl) rfl (fun _ _ h1 h2 => run_sub (h1.ev rfl) (h1.ev rfl)) ?_
    have hoku111_0 := hoku111
    replace hoku111_0 : Sl w.R w.W fl_i64 Au111_0 cu111_0 x110.Xs := hoku111_0
    refine Tq.val (wn rfl) rfl (fun _ _ h1 h2 => run_indexAddr el_65 (h1.ev rfl) hp0_0.form (h1.ev rfl) hx1100 hx1101) ?_
    refine Tq.val (wn rfl) rfl (fun _ _ h1 h2 => run_fieldAddr fo_104_1 (h1.ev rfl)) ?_
    refine Tq.val (wn rfl) rfl (fun _ _ h1 h2 => run_load1 ag_3 (h1.ev rfl) (CellsAt.drop (rdR hRu111 hcu111 h2) 1) rfl) ?_
    refine Tq.build (vs := [(0, (.int .i64 x104)), (1, (.int .i64 x105.Y0)), (2, (.int .i64 x109)), (3, (.int .i64 x110.Y1))]) (cs := [(.int .i64 x104), (.int .i64 x105.Y0), (.int .i64 x109), (.int .i64 x110.Y1)]) (wn rfl) rfl (evs_cons rfl (evs_cons rfl (evs_cons rfl (evs_cons rfl evs_nil)))) (by kernel_rfl) ?_
    refine Tq.mkFunc (vs := []) (wn rfl) rfl evl_nil ?_
    exact Tq.fin (.cons rfl (.cons rfl (.cons rfl (.cons rfl (.cons rfl (.cons rfl (.cons rfl (.cons rfl (.cons rfl (.cons rfl (.cons rfl (.cons rfl (.cons rfl (.cons rfl (.cons rfl (.cons rfl (.cons rfl (.cons rfl (.cons rfl (.cons rfl (.cons rfl (.cons rfl (.cons rfl (.cons rfl (.cons rfl (.cons rfl (.cons rfl .nil)))))))))))))))))))))))))))
  · intro bs101
    refine Tr.sel (lf := [(0, (.slice Ap0_0 (p0).length cp0_0)), (2, (.pointer (some ⟨b100, 0, none⟩))), (3, (.pointer (some ⟨(bs101 24), 0, none⟩))), (29, (.agg #[(.int .i64 x104), (.int .i64 x105.Y0), (.int .i64 x109), (.int .i64 x110.Y1)]))]) (le := [(1, bx b100 #[(.int .i64 0), (.int .i64 0), (.int .i64 0), (.int .i64 0)] 29), (2, bx (bs101 24) #[(.int .i64 0), (.int .i64 0), (.int .i64 0), (.int .i64 0)] 29)]) (.cons rfl (.cons rfl (.cons rfl (.cons rfl .nil)))) (.cons rfl (.cons rfl .nil)) ?_
    refine Tr.store 2 (cs := [(.int .i64 x104), (.int .i64 x105.Y0), (.int .i64 x109), (.int .i64 x110.Y1)]) [(.int .i64 x104), (.int .i64 x105.Y0), (.int .i64 x109), (.int .i64 x110.Y1)] (wn rfl) rfl rfl rfl rfl sz_29 rfl rfl rfl ?_
    refine Tr.nil (Tr.normThen ?_)
    refine Tr.seq ?_
    refine Tr.seq ?_
    refine Tr.region ?_
    refine Tr.val (wn rfl) rfl (fun _ _ h1 h2 => run_move (h1.ev rfl)) ?_
    refine Tr.val (wn rfl) rfl (fun _ _ h1 h2 => run_len un_65 (h1.ev rfl)) ?_
    refine Tr.val (wn rfl) rfl (fun _ _ h1 h2 => run_move (h1.ev rfl)) ?_
    refine Tr.nil (Tr.normThen ?_)
    refine Tr.block ?_
    refine Tr.loop (σ := (List TBand) × Nat × Int × Int) (fun m w s => m = s.1.length + 1 ∧ s.1 = List.drop s.2.1 p0 ∧ s.2.1 ≤ p0.length ∧ F_shape_Set__Around_L1 x105 x110 s.1 s.2.1 s.2.2.1 s.2.2.2 = some r) (fun s => [(2, (.pointer (some ⟨b100, 0, none⟩))), (3, (.pointer (some ⟨(bs101 24), 0, none⟩))), (30, (.slice Ap0_0 (p0).length cp0_0)), (31, (.int .i64 (p0.length : Int))), (32, (.int .i64 (s.2.1 : Int)))]) (fun s => [(1, bx b100 #[(.int .i64 0), (.int .i64 0), (.int .i64 0), (.int .i64 0)] 29), (2, bx (bs101 24) #[(.int .i64 s.2.2.1), (.int .i64 x105.Y0), (.int .i64 s.2.2.2), (.int .i64 x110.Y1)] 29)]) (p0.length + 1) (p0, 0, x104, x109) ⟨rfl, rfl, Nat.zero_le _, H⟩ (.cons rfl (.cons rfl (.cons rfl (.cons rfl (.cons rfl .nil))))) (.cons rfl (.cons rfl .nil)) (fun _ _ h => absurd h.1 (by simp)) ?_
    intro w leF_shape_Set__Around_L1 m s hs
    obtain ⟨restF_shape_Set__Around_L1, iF_shape_Set__Around_L1, x133, x134⟩ := s
    obtain ⟨hmF_shape_Set__Around_L1, hdF_shape_Set__Around_L1, hiF_shape_Set__Around_L1, H⟩ := hs
    replace hdF_shape_Set__Around_L1 : restF_shape_Set__Around_L1 = List.drop iF_shape_Set__Around_L1 p0 := hdF_shape_Set__Around_L1
    replace H : F_shape_Set__Around_L1 x105 x110 restF_shape_Set__Around_L1 iF_shape_Set__Around_L1 x133 x134 = some r := H
    replace hmF_shape_Set__Around_L1 : m + 1 = restF_shape_Set__Around_L1.length + 1 := hmF_shape_Set__Around_L1
    replace hp0_0 := hp0_0.leR leF_shape_Set__Around_L1
    replace leB := leB.trans leF_shape_Set__Around_L1
    obtain rfl : m = restF_shape_Set__Around_L1.length := by omega
    clear hmF_shape_Set__Around_L1
    show Tr _ _ (LF [(2, (.pointer (some ⟨b100, 0, none⟩))), (3, (.pointer (some ⟨(bs101 24), 0, none⟩))), (30, (.slice Ap0_0 (p0).length cp0_0)), (31, (.int .i64 (p0.length : Int))), (32, (.int .i64 (iF_shape_Set__Around_L1 : Int)))]) (LE [(1, bx b100 #[(.int .i64 0), (.int .i64 0), (.int .i64 0), (.int .i64 0)] 29), (2, bx (bs101 24) #[(.int .i64 x133), (.int .i64 x105.Y0), (.int .i64 x134), (.int .i64 x110.Y1)] 29)]) _
    cases restF_shape_Set__Around_L1 with
    | nil =>
      rw [F_shape_Set__Around_L1.eq_1] at H
      refine Tr.seq ?_
      refine Tr.region ?_
      refine Tr.val (wn rfl) rfl (fun _ _ h1 h2 => run_lss (h1.ev rfl) (h1.ev rfl)) ?_
      refine Tr.nil (Tr.normThen ?_)
      refine Tr.seq ?_
      refine Tr.condF rfl (range_nil hdF_shape_Set__Around_L1) ?_
      refine Tr.exit (Tr.exitThen (Tr.exitThen (Tr.exitBlock (Tr.normThen ?_))))
      refine Tr.seq ?_
      refine Tr.region ?_
      refine Tr.val (wn rfl) rfl (fun _ _ h1 h2 => run_loadN (cs := [(.int .i64 x133), (.int .i64 x105.Y0), (.int .i64 x134), (.int .i64 x110.Y1)]) ag_29 sz_29 (h1.ev rfl) (CellsAt.take (rdb h2 (vs := [(.int .i64 x133), (.int .i64 x105.Y0), (.int .i64 x134), (.int .i64 x110.Y1)]) (k := 2) rfl 0) 4) rfl) ?_
      refine Tr.store 1 (cs := [(.int .i64 x133), (.int .i64 x105.Y0), (.int .i64 x134), (.int .i64 x110.Y1)]) [(.int .i64 x133), (.int .i64 x105.Y0), (.int .i64 x134), (.int .i64 x110.Y1)] (wn rfl) rfl rfl rfl rfl sz_29 rfl rfl rfl ?_
      refine Tr.nil (Tr.normThen ?_)
      refine Tr.ret ?_
      obtain rfl := Option.some.inj H
      exact Tr.out (m := [(.agg #[(.int .i64 x133), (.int .i64 x105.Y0), (.int .i64 x134), (.int .i64 x110.Y1)])]) [1] (res_cell rfl rfl ag_29 sz_29 res_nil) (fun W hW => ⟨rfl, hW.low leB⟩)
    | cons xF_shape_Set__Around_L1 restF_shape_Set__Around_L1 =>
      rw [F_shape_Set__Around_L1.eq_2] at H
      refine Tr.seq ?_
      refine Tr.region ?_
      refine Tr.val (wn rfl) rfl (fun _ _ h1 h2 => run_lss (h1.ev rfl) (h1.ev rfl)) ?_
      refine Tr.nil (Tr.normThen ?_)
      refine Tr.seq ?_
      refine Tr.condT rfl (range_on hdF_shape_Set__Around_L1) ?_
      refine Tr.skip (Tr.normThen ?_)
      refine Tr.seq ?_
      refine Tr.block ?_
      refine Tr.seq ?_
      refine Tr.region ?_
      obtain ⟨u135, hRu135, hoku135, hcu135⟩ := (hp0_0).el (range_at hdF_shape_Set__Around_L1)
      obtain ⟨Au135_0, cu135_0⟩ := u135
      have hoku135_0 := hoku135
      replace hoku135_0 : Sl w.R w.W fl_i64 Au135_0 cu135_0 xF_shape_Set__Around_L1.Xs := hoku135_0
      refine Tr.val (wn rfl) rfl (fun _ _ h1 h2 => run_indexAddr el_65 (h1.ev rfl) hp0_0.form (h1.ev rfl) (Int.natCast_nonneg _) (range_lt hdF_shape_Set__Around_L1)) ?_
      refine Tr.val (wn rfl) rfl (fun _ _ h1 h2 => run_loadN (cs := [(.int .i64 xF_shape_Set__Around_L1.Y0), (.int .i64 xF_shape_Set__Around_L1.Y1), (.slice Au135_0 (xF_shape_Set__Around_L1.Xs).length cu135_0)]) ag_104 sz_104 (h1.ev rfl) (CellsAt.take (rdR hRu135 hcu135 h2) 3) rfl) ?_
      refine Tr.alloc 5 (wn rfl) rfl ze_104 fun b136 => ?_
      refine Tr.store 5 (cs := [(.int .i64 xF_shape_Set__Around_L1.Y0), (.int .i64 xF_shape_Set__Around_L1.Y1), (.slice Au135_0 (xF_shape_Set__Around_L1.Xs).length cu135_0)]) [(.int .i64 xF_shape_Set__Around_L1.Y0), (.int .i64 xF_shape_Set__Around_L1.Y1), (.slice Au135_0 (xF_shape_Set__Around_L1.Xs).length cu135_0)] (wn rfl) rfl rfl rfl rfl sz_104 rfl rfl rfl ?_
      refine Tr.nil (Tr.normThen ?_)
      refine Tr.drawC 20 [(19, fun x => x = (bs101 24))] [] (by kernel_rfl) (by kernel_rfl) fun sz137 hlosz137 hEsz137 => ?_
      refine Dr.quiet 0 [(36, (.pointer (some ⟨(bs101 24), 0, none⟩)))] (by kernel_rfl) rfl rfl (by kernel_rfl) ?_ rfl rfl ?_
      · refine Tq.val (wn rfl) rfl (fun _ _ h1 h2 => run_fieldAddr fo_29_0 (h1.ev rfl)) ?_
        exact Tq.fin (.cons rfl .nil)
      refine Dr.quiet 1 [(37, (.int .i64 x133))] (by kernel_rfl) rfl rfl (by kernel_rfl) ?_ rfl rfl ?_
      · refine Tq.val (wn rfl) rfl (fun _ _ h1 h2 => run_load1 ag_3 (h1.ev rfl) (rdb h2 (vs := [(.int .i64 x133), (.int .i64 x105.Y0), (.int .i64 x134), (.int .i64 x110.Y1)]) (k := 2) rfl 0) rfl) ?_
        exact Tq.fin (.cons rfl .nil)
      refine Dr.quiet 2 [(38, (.pointer (some ⟨b136, 2, none⟩)))] (by kernel_rfl) rfl rfl (by kernel_rfl) ?_ rfl rfl ?_
      · refine Tq.val (wn rfl) rfl (fun _ _ h1 h2 => run_fieldAddr fo_104_2 (h1.ev rfl)) ?_
        exact Tq.fin (.cons rfl .nil)
      refine Dr.quiet 3 [(39, (.slice Au135_0 (xF_shape_Set__Around_L1.Xs).length cu135_0))] (by kernel_rfl) rfl rfl (by kernel_rfl) ?_ rfl rfl ?_
      · refine Tq.val (wn rfl) rfl (fun _ _ h1 h2 => run_load1 ag_97 (h1.ev rfl) (rdb h2 (vs := [(.int .i64 xF_shape_Set__Around_L1.Y0), (.int .i64 xF_shape_Set__Around_L1.Y1), (.slice Au135_0 (xF_shape_Set__Around_L1.Xs).length cu135_0)]) (k := 5) rfl 2) rfl) ?_
        exact Tq.fin (.cons rfl .nil)
      obtain ⟨x138, hx138, H⟩ := bnd H
      obtain ⟨hx1380, hx1381, hx1382⟩ := idx_some hx138
      refine Dr.quiet 4 [(40, (.pointer (some ⟨adB Au135_0, adO Au135_0 + ((0 : Int)).toNat * 1, none⟩)))] (by kernel_rfl) rfl rfl (by kernel_rfl) ?_ rfl rfl ?_
      · refine Tq.val (wn rfl) rfl (fun _ _ h1 h2 => run_indexAddr el_97 (h1.ev rfl) hoku135_0.form (h1.ev rfl) hx1380 hx1381) ?_
        exact Tq.fin (.cons rfl .nil)
      refine Dr.quiet 5 [(41, (.int .i64 x138))] (by kernel_rfl) rfl rfl (by kernel_rfl) ?_ rfl rfl ?_
      · refine Tq.val (wn rfl) rfl (fun _ _ h1 h2 => run_load1 ag_3 (h1.ev rfl) (rdF ef_i64 hoku135_0 hx1382 h2) rfl) ?_
        exact Tq.fin (.cons rfl .nil)
      refine Dr.quiet 6 [(42, (.int .i64 (min x133 x138)))] (by kernel_rfl) rfl rfl (by kernel_rfl) ?_ rfl rfl ?_
      · refine Tq.val (wn rfl) rfl (fun _ _ h1 h2 => run_min (h1.ev rfl) (h1.ev rfl) _) ?_
        exact Tq.fin (.cons rfl .nil)
      refine Dr.quiet 7 [(43, (.pointer (some ⟨(bs101 24), 2, none⟩)))] (by kernel_rfl) rfl rfl (by kernel_rfl) ?_ rfl rfl ?_
      · refine Tq.val (wn rfl) rfl (fun _ _ h1 h2 => run_fieldAddr fo_29_2 (h1.ev rfl)) ?_
        exact Tq.fin (.cons rfl .nil)
      refine Dr.quiet 8 [(44, (.int .i64 x134))] (by kernel_rfl) rfl rfl (by kernel_rfl) ?_ rfl rfl ?_
      · refine Tq.val (wn rfl) rfl (fun _ _ h1 h2 => run_load1 ag_3 (h1.ev rfl) (rdb h2 (vs := [(.int .i64 x133), (.int .i64 x105.Y0), (.int .i64 x134), (.int .i64 x110.Y1)]) (k := 2) rfl 2) rfl) ?_
        exact Tq.fin (.cons rfl .nil)
      refine Dr.quietP 9 (by kernel_rfl) rfl (wn rfl) rfl (by kernel_rfl) (fun _ _ h1 => run_fieldAddr fo_104_2 (h1.ev rfl)) rfl ?_
      refine Dr.quietZ 10 [(46, (.slice Au135_0 (xF_shape_Set__Around_L1.Xs).length cu135_0))] [19] false (by kernel_rfl) rfl rfl (by kernel_rfl) (fun W W' h2 hsW hk => HF.keepZ (le := [(5, bx b136 #[(.int .i64 xF_shape_Set__Around_L1.Y0), (.int .i64 xF_shape_Set__Around_L1.Y1), (.slice Au135_0 (xF_shape_Set__Around_L1.Xs).length cu135_0)] 104)]) (ks := [(2, fun x => x = (bs101 24))]) (s0 := sz137) false h2 hk (fun h => absurd h (by decide)) (.cons rfl .nil) (fun b hb => hb.elim (fun ⟨p, hp, hf, hb⟩ => by simp only [List.mem_cons, List.not_mem_nil, or_false] at hp; rcases hp with rfl; exact .inl ⟨_, List.mem_cons_self, hb⟩) (fun hb => absurd hb.1 (by decide))) (List.forall_mem_cons.2 ⟨fun b hb => hb, (fun _ h => nomatch h)⟩) rfl) ?_ rfl rfl ?_
      · refine Tq.val (wn rfl) rfl (fun _ _ h1 h2 => run_load1 ag_97 (h1.ev rfl) (rdb h2 (vs := [(.int .i64 xF_shape_Set__Around_L1.Y0), (.int .i64 xF_shape_Set__Around_L1.Y1), (.slice Au135_0 (xF_shape_Set__Around_L1.Xs).length cu135_0)]) (k := 5) rfl 2) rfl) ?_
        exact Tq.fin (.cons rfl .nil)
      refine Dr.quietP 11 (by kernel_rfl) rfl (wn rfl) rfl (by kernel_rfl) (fun _ _ h1 => run_fieldAddr fo_104_2 (h1.ev rfl)) rfl ?_
      refine Dr.quietZ 12 [(48, (.slice Au135_0 (xF_shape_Set__Around_L1.Xs).length cu135_0))] [19] false (by kernel_rfl) rfl rfl (by kernel_rfl) (fun W W' h2 hsW hk => HF.keepZ (le := [(5, bx b136 #[(.int .i64 xF_shape_Set__Around_L1.Y0), (.int .i64 xF_shape_Set__Around_L1.Y1), (.slice Au135_0 (xF_shape_Set__Around_L1.Xs).length cu135_0)] 104)]) (ks := [(2, fun x => x = (bs101 24))]) (s0 := sz137) false h2 hk (fun h => absurd h (by decide)) (.cons rfl .nil) (fun b hb => hb.elim (fun ⟨p, hp, hf, hb⟩ => by simp only [List.mem_cons, List.not_mem_nil, or_false] at hp; rcases hp with rfl; exact .inl ⟨_, List.mem_cons_self, hb⟩) (fun hb => absurd hb.1 (by decide))) (List.forall_mem_cons.2 ⟨fun b hb => hb, (fun _ h => nomatch h)⟩) rfl) ?_ rfl rfl ?_
      · refine Tq.val (wn rfl) rfl (fun _ _ h1 h2 => run_load1 ag_97 (h1.ev rfl) (rdb h2 (vs := [(.int .i64 xF_shape_Set__Around_L1.Y0), (.int .i64 xF_shape_Set__Around_L1.Y1), (.slice Au135_0 (xF_shape_Set__Around_L1.Xs).length cu135_0)]) (k := 5) rfl 2) rfl) ?_
        exact Tq.fin (.cons rfl .nil)
      refine Dr.quietP 13 (by kernel_rfl) rfl (wn rfl) rfl (by kernel_rfl) (fun _ _ h1 => run_len un_97 (h1.ev rfl)) rfl ?_
      refine Dr.quietP 14 (by kernel_rfl) rfl (wn rfl) rfl (by kernel_rfl) (fun _ _ h1 => run_sub (h1.ev rfl) (h1.ev rfl)) rfl ?_
      obtain ⟨x139, hx139, H⟩ := bnd H
      obtain ⟨hx1390, hx1391, hx1392⟩ := idx_some hx139
      refine Dr.quietP 15 (by kernel_rfl) rfl (wn rfl) rfl (by kernel_rfl) (fun _ _ h1 => run_indexAddr el_97 (h1.ev rfl) hoku135_0.form (h1.ev rfl) hx1390 hx1391) rfl ?_
      refine Dr.quietZ 16 [(52, (.int .i64 x139))] [19] false (by kernel_rfl) rfl rfl (by kernel_rfl) (fun W W' h2 hsW hk => HF.keepZ (le := []) (ks := [(2, fun x => x = (bs101 24))]) (s0 := sz137) false h2 hk (fun h => absurd h (by decide)) .nil (fun b hb => hb.elim (fun ⟨p, hp, hf, hb⟩ => by simp only [List.mem_cons, List.not_mem_nil, or_false] at hp; rcases hp with rfl; exact .inl ⟨_, List.mem_cons_self, hb⟩) (fun hb => absurd hb.1 (by decide))) (List.forall_mem_cons.2 ⟨fun b hb => hb, (fun _ h => nomatch h)⟩) rfl) ?_ rfl rfl ?_
      · refine Tq.val (wn rfl) rfl (fun _ _ h1 h2 => run_load1 ag_3 (h1.ev rfl) (rdF ef_i64 hoku135_0 hx1392 h2) rfl) ?_
        exact Tq.fin (.cons rfl .nil)
      refine Dr.quietP 17 (by kernel_rfl) rfl (wn rfl) rfl (by kernel_rfl) (fun _ _ h1 => run_max (h1.ev rfl) (h1.ev rfl) _) rfl ?_
      refine Dr.quiet 18 [(54, (.pointer (some ⟨(bs101 24), 0, none⟩)))] (by kernel_rfl) rfl rfl (by kernel_rfl) ?_ rfl rfl ?_
      · refine Tq.val (wn rfl) rfl (fun _ _ h1 h2 => run_fieldAddr fo_29_0 (h1.ev rfl)) ?_
        exact Tq.fin (.cons rfl .nil)
      refine Dr.one 19 (by kernel_rfl) ?_
      refine St.store 19 2 (cs := [(.int .i64 (min x133 x138))]) [(.int .i64 (min x133 x138)), (.int .i64 x105.Y0), (.int .i64 x134), (.int .i64 x110.Y1)] rfl (wn rfl) (.inl ⟨_, List.mem_cons_self, rfl, rfl⟩) rfl rfl rfl rfl sz_3 rfl rfl rfl ?_
      refine Dr.tail (by kernel_rfl) ?_
      refine Tr.val (wn rfl) rfl (fun _ _ h1 h2 => run_fieldAddr fo_29_2 (h1.ev rfl)) ?_
      refine Tr.store 2 (cs := [(.int .i64 (max x134 x139))]) [(.int .i64 (min x133 x138)), (.int .i64 x105.Y0), (.int .i64 (max x134 x139)), (.int .i64 x110.Y1)] (wn rfl) rfl rfl rfl rfl sz_3 rfl rfl rfl ?_
      refine Tr.nil (Tr.normBlock (Tr.normThen ?_))
      refine Tr.region ?_
      refine Tr.val (wn rfl) rfl (fun _ _ h1 h2 => run_add (h1.ev rfl) (h1.ev rfl)) ?_
      refine Tr.val (wn rfl) rfl (fun _ _ h1 h2 => run_move (h1.ev rfl)) ?_
      refine Tr.nil ?_
      exact Tr.backThen leF_shape_Set__Around_L1 (restF_shape_Set__Around_L1, (iF_shape_Set__Around_L1 + 1), (min x133 x138), (max x134 x139)) ⟨rfl, range_tl hdF_shape_Set__Around_L1, range_lt hdF_shape_Set__Around_L1, H⟩ (.cons rfl (.cons rfl (.cons rfl (.cons rfl (.cons (congrArg (fun z => some (Value.int .i64 z)) (range_up hdF_shape_Set__Around_L1 hp0_0.form)) .nil))))) (.cons rfl (.cons rfl .nil))

theorem F_shape_Set__Fits_ok {w : Bs} (p0 : (List TBand)) (Ap0_0 : Option Addr) (cp0_0 : Nat) (hp0_0 : Sl w.R w.W fl_TBand Ap0_0 cp0_0 p0) (r : Bool) (H : F_shape_Set__Fits p0 = some r) (hE : HF w w.W E0) : Calls Try.prog 58 [(.slice Ap0_0 (p0).length cp0_0)].toArray w.W fun e W' => e = .returned (.bool r) ∧ HF w W' E0 := by
  unfold F_shape_Set__Fits at H
  have leB := Bs.Le.refl w
  refine Tr.enter (n := 11) Try.func58 rfl rfl rfl hE ?_
  refine Tr.seq ?_
  refine Tr.region ?_
  refine Tr.val (wn rfl) rfl (fun _ _ h1 h2 => run_assign (h1.ev rfl)) ?_
  refine Tr.nil (Tr.normThen ?_)
  refine Tr.seq ?_
  refine Tr.region ?_
  refine Tr.val (wn rfl) rfl (fun _ _ h1 h2 => run_move (h1.ev rfl)) ?_
  refine Tr.val (wn rfl) rfl (fun _ _ h1 h2 => run_len un_65 (h1.ev rfl)) ?_
  refine Tr.val (wn rfl) rfl (fun _ _ h1 h2 => run_eql (h1.ev rfl) (h1.ev rfl)) ?_
  refine Tr.val (wn rfl) rfl (fun _ _ h1 h2 => run_move (h1.ev rfl)) ?_
  obtain ⟨g102, hg102, H⟩ := bnd H
  refine Tr.mid0 4 [(10, (.bool g102))] [] ?_ ?_
  · cases hg104 : ((p0.length : Int) == 0)
    · rw [hg104] at hg102
      rw [if_neg (by decide)] at hg102
      have H := hg102
      refine Tr.val (wg rfl rfl rfl) rfl (fun _ _ h1 h2 => run_move (h1.ev rfl)) ?_
      obtain ⟨y103, hy103, H⟩ := bnd H
      refine Tr.call0 (r := (.agg #[(.int .i64 y103.X0), (.int .i64 y103.Y0), (.int .i64 y103.X1), (.int .i64 y103.Y1)])) (wg rfl rfl rfl) rfl Try.call51 (evl_cons rfl evl_nil) (fun W hW => F_shape_Set__Around_ok p0 Ap0_0 cp0_0 (hp0_0.ext hW.extAll) y103 hy103 (HF.start _)) ?_
      obtain ⟨y104, hy104, H⟩ := bnd H
      refine Tr.call0 (r := (.bool y104)) (wg rfl rfl rfl) rfl Try.call69 (evl_cons rfl evl_nil) (fun W hW => F_shape_isRect_ok y103 y104 hy104 (HF.start _)) ?_
      refine Tr.val (wn rfl) rfl (fun _ _ h1 h2 => run_pickF (h1.ev rfl) (h1.ev rfl)) ?_
      obtain rfl := Option.some.inj H
      exact Tr.nil (Tr.fin0 (.cons rfl .nil) .nil)
    · rw [hg104] at hg102
      rw [if_pos rfl] at hg102
      have H := hg102
      obtain rfl := Option.some.inj H
      refine Tr.pass rfl rfl rfl rfl rfl (by decide) ?_
      refine Tr.pass rfl rfl rfl rfl rfl (by decide) ?_
      refine Tr.pass rfl rfl rfl rfl rfl (by decide) ?_
      refine Tr.val (wn rfl) rfl (fun _ _ h1 h2 => run_pickT (h1.ev rfl) (h1.ev rfl)) ?_
      exact Tr.nil (Tr.fin0 (.cons rfl .nil) .nil)
  · show Tr _ _ (LF [(10, (.bool g102))]) (LE []) _
    refine Tr.val (wn rfl) rfl (fun _ _ h1 h2 => run_assign (h1.ev rfl)) ?_
    refine Tr.nil (Tr.normThen ?_)
    refine Tr.ret ?_
    obtain rfl := Option.some.inj H
    exact Tr.out (m := [(.bool g102)]) [] (res_tmp rfl res_nil) (fun W hW => ⟨rfl, hW.low leB⟩)

theorem F_shape_Set__Many_ok {w : Bs} (p0 : (List TBand)) (Ap0_0 : Option Addr) (cp0_0 : Nat) (hp0_0 : Sl w.R w.W fl_TBand Ap0_0 cp0_0 p0) (r : Int) (H : F_shape_Set__Many p0 = some r) (hE : HF w w.W E0) : Calls Try.prog 66 [(.slice Ap0_0 (p0).length cp0_0)].toArray w.W fun e W' => e = .returned (.int .i64 r) ∧ HF w W' E0 := by
  unfold F_shape_Set__Many at H
  have leB := Bs.Le.refl w
  refine Tr.enter (n := 20) Try.func66 rfl rfl rfl hE ?_
  refine Tr.seq ?_
  refine Tr.region ?_
  refine Tr.val (wn rfl) rfl (fun _ _ h1 h2 => run_assign (h1.ev rfl)) ?_
  refine Tr.nil (Tr.normThen ?_)
  refine Tr.seq ?_
  refine Tr.region ?_
  refine Tr.val (wn rfl) rfl (fun _ _ h1 h2 => run_assign (h1.ev rfl)) ?_
  refine Tr.nil (Tr.normThen ?_)
  refine Tr.seq ?_
  refine Tr.seq ?_
  refine Tr.region ?_
  refine Tr.val (wn rfl) rfl (fun _ _ h1 h2 => run_move (h1.ev rfl)) ?_
  refine Tr.val (wn rfl) rfl (fun _ _ h1 h2 => run_len un_65 (h1.ev rfl)) ?_
  refine Tr.val (wn rfl) rfl (fun _ _ h1 h2 => run_move (h1.ev rfl)) ?_
  refine Tr.nil (Tr.normThen ?_)
  refine Tr.block ?_
  refine Tr.loop (σ := (List TBand) × Nat × Int) (fun m w s => m = s.1.length + 1 ∧ s.1 = List.drop s.2.1 p0 ∧ s.2.1 ≤ p0.length ∧ F_shape_Set__Many_L1 s.1 s.2.1 s.2.2 = some r) (fun s => [(3, (.int .i64 s.2.2)), (6, (.slice Ap0_0 (p0).length cp0_0)), (7, (.int .i64 (p0.length : Int))), (8, (.int .i64 (s.2.1 : Int)))]) (fun s => []) (p0.length + 1) (p0, 0, 0) ⟨rfl, rfl, Nat.zero_le _, H⟩ (.cons rfl (.cons rfl (.cons rfl (.cons rfl .nil)))) .nil (fun _ _ h => absurd h.1 (by simp)) ?_
  intro w leF_shape_Set__Many_L1 m s hs
  obtain ⟨restF_shape_Set__Many_L1, iF_shape_Set__Many_L1, x112⟩ := s
  obtain ⟨hmF_shape_Set__Many_L1, hdF_shape_Set__Many_L1, hiF_shape_Set__Many_L1, H⟩ := hs
  replace hdF_shape_Set__Many_L1 : restF_shape_Set__Many_L1 = List.drop iF_shape_Set__Many_L1 p0 := hdF_shape_Set__Many_L1
  replace H : F_shape_Set__Many_L1 restF_shape_Set__Many_L1 iF_shape_Set__Many_L1 x112 = some r := H
  replace hmF_shape_Set__Many_L1 : m + 1 = restF_shape_Set__Many_L1.length + 1 := hmF_shape_Set__Many_L1
  replace hp0_0 := hp0_0.leR leF_shape_Set__Many_L1
  replace leB := leB.trans leF_shape_Set__Many_L1
  obtain rfl : m = restF_shape_Set__Many_L1.length := by omega
  clear hmF_shape_Set__Many_L1
  show Tr _ _ (LF [(3, (.int .i64 x112)), (6, (.slice Ap0_0 (p0).length cp0_0)), (7, (.int .i64 (p0.length : Int))), (8, (.int .i64 (iF_shape_Set__Many_L1 : Int)))]) (LE []) _
  cases restF_shape_Set__Many_L1 with
  | nil =>
    rw [F_shape_Set__Many_L1.eq_1] at H
    refine Tr.seq ?_
    refine Tr.region ?_
    refine Tr.val (wn rfl) rfl (fun _ _ h1 h2 => run_lss (h1.ev rfl) (h1.ev rfl)) ?_
    refine Tr.nil (Tr.normThen ?_)
    refine Tr.seq ?_
    refine Tr.condF rfl (range_nil hdF_shape_Set__Many_L1) ?_
    refine Tr.exit (Tr.exitThen (Tr.exitThen (Tr.exitBlock (Tr.normThen ?_))))
    refine Tr.seq ?_
    refine Tr.region ?_
    refine Tr.val (wn rfl) rfl (fun _ _ h1 h2 => run_move (h1.ev rfl)) ?_
    refine Tr.val (wn rfl) rfl (fun _ _ h1 h2 => run_assign (h1.ev rfl)) ?_
    refine Tr.nil (Tr.normThen ?_)
    refine Tr.ret ?_
    obtain rfl := Option.some.inj H
    exact Tr.out (m := [(.int .i64 x112)]) [] (res_tmp rfl res_nil) (fun W hW => ⟨rfl, hW.low leB⟩)
  | cons xF_shape_Set__Many_L1 restF_shape_Set__Many_L1 =>
    rw [F_shape_Set__Many_L1.eq_2] at H
    refine Tr.seq ?_
    refine Tr.region ?_
    refine Tr.val (wn rfl) rfl (fun _ _ h1 h2 => run_lss (h1.ev rfl) (h1.ev rfl)) ?_
    refine Tr.nil (Tr.normThen ?_)
    refine Tr.seq ?_
    refine Tr.condT rfl (range_on hdF_shape_Set__Many_L1) ?_
    refine Tr.skip (Tr.normThen ?_)
    refine Tr.seq ?_
    refine Tr.block ?_
    refine Tr.seq ?_
    refine Tr.region ?_
    obtain ⟨u113, hRu113, hoku113, hcu113⟩ := (hp0_0).el (range_at hdF_shape_Set__Many_L1)
    obtain ⟨Au113_0, cu113_0⟩ := u113
    have hoku113_0 := hoku113
    replace hoku113_0 : Sl w.R w.W fl_i64 Au113_0 cu113_0 xF_shape_Set__Many_L1.Xs := hoku113_0
    refine Tr.val (wn rfl) rfl (fun _ _ h1 h2 => run_indexAddr el_65 (h1.ev rfl) hp0_0.form (h1.ev rfl) (Int.natCast_nonneg _) (range_lt hdF_shape_Set__Many_L1)) ?_
    refine Tr.val (wn rfl) rfl (fun _ _ h1 h2 => run_loadN (cs := [(.int .i64 xF_shape_Set__Many_L1.Y0), (.int .i64 xF_shape_Set__Many_L1.Y1), (.slice Au113_0 (xF_shape_Set__Many_L1.Xs).length cu113_0)]) ag_104 sz_104 (h1.ev rfl) (CellsAt.take (rdR hRu113 hcu113 h2) 3) rfl) ?_
    refine Tr.alloc 3 (wn rfl) rfl ze_104 fun b114 => ?_
    refine Tr.store 3 (cs := [(.int .i64 xF_shape_Set__Many_L1.Y0), (.int .i64 xF_shape_Set__Many_L1.Y1), (.slice Au113_0 (xF_shape_Set__Many_L1.Xs).length cu113_0)]) [(.int .i64 xF_shape_Set__Many_L1.Y0), (.int .i64 xF_shape_Set__Many_L1.Y1), (.slice Au113_0 (xF_shape_Set__Many_L1.Xs).length cu113_0)] (wn rfl) rfl rfl rfl rfl sz_104 rfl rfl rfl ?_
    refine Tr.nil (Tr.normThen ?_)
    refine Tr.region ?_
    refine Tr.val (wn rfl) rfl (fun _ _ h1 h2 => run_move (h1.ev rfl)) ?_
    refine Tr.val (wn rfl) rfl (fun _ _ h1 h2 => run_fieldAddr fo_104_2 (h1.ev rfl)) ?_
    refine Tr.val (wn rfl) rfl (fun _ _ h1 h2 => run_load1 ag_97 (h1.ev rfl) (rdb h2 (vs := [(.int .i64 xF_shape_Set__Many_L1.Y0), (.int .i64 xF_shape_Set__Many_L1.Y1), (.slice Au113_0 (xF_shape_Set__Many_L1.Xs).length cu113_0)]) (k := 3) rfl 2) rfl) ?_
    refine Tr.val (wn rfl) rfl (fun _ _ h1 h2 => run_len un_97 (h1.ev rfl)) ?_
    refine Tr.val (wn rfl) rfl (fun _ _ h1 h2 => run_quo (h1.ev rfl) (h1.ev rfl) (by decide)) ?_
    refine Tr.val (wn rfl) rfl (fun _ _ h1 h2 => run_add (h1.ev rfl) (h1.ev rfl)) ?_
    refine Tr.val (wn rfl) rfl (fun _ _ h1 h2 => run_assign (h1.ev rfl)) ?_
    refine Tr.nil (Tr.normBlock (Tr.normThen ?_))
    refine Tr.region ?_
    refine Tr.val (wn rfl) rfl (fun _ _ h1 h2 => run_add (h1.ev rfl) (h1.ev rfl)) ?_
    refine Tr.val (wn rfl) rfl (fun _ _ h1 h2 => run_move (h1.ev rfl)) ?_
    refine Tr.nil ?_
    exact Tr.backThen leF_shape_Set__Many_L1 (restF_shape_Set__Many_L1, (iF_shape_Set__Many_L1 + 1), (w64 (x112 + (w64 (Int.tdiv (xF_shape_Set__Many_L1.Xs.length : Int) 2))))) ⟨rfl, range_tl hdF_shape_Set__Many_L1, range_lt hdF_shape_Set__Many_L1, H⟩ (.cons rfl (.cons rfl (.cons rfl (.cons (congrArg (fun z => some (Value.int .i64 z)) (range_up hdF_shape_Set__Many_L1 hp0_0.form)) .nil)))) .nil

theorem F_shape_Set__Told_ok (N : Nat) {w : Bs} (p0 : (List TBand)) (Ap0_0 : Option Addr) (cp0_0 : Nat) (hp0_0 : Sl w.R w.W fl_TBand Ap0_0 cp0_0 p0) (r : ((List TRect) × Int)) (H : F_shape_Set__Told N p0 = some r) (hE : HF w w.W (LEn [emp])) : Calls Try.prog 48 [(.slice Ap0_0 (p0).length cp0_0)].toArray w.W fun e W' => ∃ u : (Option Addr × Nat), e = .returned (.tuple #[(.slice u.1 (r.1).length u.2), (.int .i64 r.2)]) ∧ (SlF u.1 (r.1).length u.2) ∧ HF w W' (LEn [ow u.1 u.2 29 fl_TRect r.1]) := by
  unfold F_shape_Set__Told at H
  have leB := Bs.Le.refl w
  refine Tr.enter (n := 9) Try.func48 rfl rfl rfl hE ?_
  refine Tr.seq ?_
  refine Tr.region ?_
  refine Tr.val (wn rfl) rfl (fun _ _ h1 h2 => run_assign (h1.ev rfl)) ?_
  refine Tr.nilOwn 1 29 fl_TRect ?_
  show Tr _ _ (uf _ 2 (.slice none (([] : List TRect)).length 0)) _ _
  refine Tr.val (wn rfl) rfl (fun _ _ h1 h2 => run_assign (h1.ev rfl)) ?_
  refine Tr.nil (Tr.normThen ?_)
  refine Tr.seq ?_
  refine Tr.seq ?_
  refine Tr.region ?_
  refine Tr.val (wn rfl) rfl (fun _ _ h1 h2 => run_move (h1.ev rfl)) ?_
  obtain ⟨y100, hy100, H⟩ := bnd H
  refine Tr.call0 (r := (.int .i64 y100)) (wn rfl) rfl Try.call66 (evl_cons rfl evl_nil) (fun W hW => F_shape_Set__Many_ok p0 Ap0_0 cp0_0 (hp0_0.ext hW.extAll) y100 hy100 (HF.start _)) ?_
  refine Tr.val (wn rfl) rfl (fun _ _ h1 h2 => run_gtr (h1.ev rfl) (h1.ev rfl)) ?_
  refine Tr.nil (Tr.normThen ?_)
  refine Tr.cond rfl H (fun H => ?_) (fun H => ?_)
  · refine Tr.seq ?_
    refine Tr.region ?_
    refine Tr.val (wn rfl) rfl (fun _ _ h1 h2 => run_assign (h1.ev rfl)) ?_
    refine Tr.nilOwn 2 29 fl_TRect ?_
    show Tr _ _ (uf _ 2 (.slice none (([] : List TRect)).length 0)) _ _
    refine Tr.val (wn rfl) rfl (fun _ _ h1 h2 => run_assign (h1.ev rfl)) ?_
    refine Tr.nil (Tr.normThen ?_)
    refine Tr.ret (Tr.retThen ?_)
    obtain rfl := Option.some.inj H
    exact Tr.out (m := [(.slice none (([] : List TRect)).length 0), (.int .i64 2)]) [] (res_tmp rfl (res_tmp rfl res_nil)) (fun W hW => ⟨(none, 0), rfl, slf_nil, HF.lowE leB (hW.pick (ks := [2]) (by decide) (pk_cons rfl pk_nil)) ⟨ow_any _ _ _ _ tr_TRect, trivial⟩⟩)
  · refine Tr.skip (Tr.normThen ?_)
    refine Tr.seq ?_
    refine Tr.region ?_
    refine Tr.val (wn rfl) rfl (fun _ _ h1 h2 => run_move (h1.ev rfl)) ?_
    obtain ⟨y101, hy101, H⟩ := bnd H
    refine Tr.callM [3] [emp] (U := (Option Addr × Nat)) (fun u => (.slice u.1 (y101).length u.2)) (fun u => SlF u.1 (y101).length u.2) (fun u => [ow u.1 u.2 29 fl_TRect y101]) rfl (pk_cons rfl pk_nil) (fun _ => rfl) (wn rfl) rfl Try.call41 (evl_cons rfl evl_nil) (fun W hW hp hE => F_shape_Set__Rects_ok N p0 Ap0_0 cp0_0 (hp0_0.ext (hW.extS hp)) y101 hy101 hE) ?_
    intro u hu
    obtain ⟨Ay101_0, cy101_0⟩ := u
    have gy101_0 := hu
    have hgy101_0 : SlF Ay101_0 (y101).length cy101_0 := gy101_0 --@phi
    show Tr _ _ (uf _ 8 (.slice Ay101_0 (y101).length cy101_0)) (up _ 3 (ow Ay101_0 cy101_0 29 fl_TRect y101)) _
    refine Tr.val (wn rfl) rfl (fun _ _ h1 h2 => run_assign (h1.ev rfl)) ?_
    refine Tr.val (wn rfl) rfl (fun _ _ h1 h2 => run_assign (h1.ev rfl)) ?_
    refine Tr.nil (Tr.normThen ?_)
    refine Tr.ret ?_
    obtain rfl := Option.some.inj H
    exact Tr.out (m := [(.slice Ay101_0 (y101).length cy101_0), (.int .i64 0)]) [] (res_tmp rfl (res_tmp rfl res_nil)) (fun W hW => ⟨(Ay101_0, cy101_0), rfl, hgy101_0, HF.lowE leB (hW.pick (ks := [3]) (by decide) (pk_cons rfl pk_nil)) ⟨ow_any _ _ _ _ tr_TRect, trivial⟩⟩)

theorem F_shape_TurnedRegion_ok (N : Nat) {w : Bs} (p0 : (List TRect)) (Ap0_0 : Option Addr) (cp0_0 : Nat) (hp0_0 : Sl w.R w.W fl_TRect Ap0_0 cp0_0 p0) (p1 : TTurn) (r : ((List TRect) × Int)) (H : F_shape_TurnedRegion N p0 p1 = some r) (hE : HF w w.W (LEn [emp])) : Calls Try.prog 30 [(.slice Ap0_0 (p0).length cp0_0), (.agg #[(.bool p1.Flip), (.int .i64 p1.Quarters), (.int .i64 p1.At.X), (.int .i64 p1.At.Y)])].toArray w.W fun e W' => ∃ u : (Option Addr × Nat), e = .returned (.tuple #[(.slice u.1 (r.1).length u.2), (.int .i64 r.2)]) ∧ (SlF u.1 (r.1).length u.2) ∧ HF w W' (LEn [ow u.1 u.2 29 fl_TRect r.1]) := by
  unfold F_shape_TurnedRegion at H
  have leB := Bs.Le.refl w
  refine Tr.enter (n := 30) Try.func30 rfl rfl rfl hE ?_
  refine Tr.seq ?_
  refine Tr.region ?_
  refine Tr.box 1 (cs := [(.bool p1.Flip), (.int .i64 p1.Quarters), (.int .i64 p1.At.X), (.int .i64 p1.At.Y)]) (wn rfl) rfl rfl rfl fun b100 => ?_
  refine Tr.val (wn rfl) rfl (fun _ _ h1 h2 => run_assign (h1.ev rfl)) ?_
  refine Tr.nilOwn 2 29 fl_TRect ?_
  show Tr _ _ (uf _ 4 (.slice none (([] : List TRect)).length 0)) _ _
  refine Tr.val (wn rfl) rfl (fun _ _ h1 h2 => run_assign (h1.ev rfl)) ?_
  refine Tr.nil (Tr.normThen ?_)
  refine Tr.seq ?_
  refine Tr.seq ?_
  refine Tr.region ?_
  refine Tr.val (wn rfl) rfl (fun _ _ h1 h2 => run_move (h1.ev rfl)) ?_
  obtain ⟨y101, hy101, H⟩ := bnd H
  refine Tr.call0 (r := (.int .i64 y101)) (wn rfl) rfl Try.call18 (evl_cons rfl evl_nil) (fun W hW => F_shape_CheckRegion_ok N p0 Ap0_0 cp0_0 (hp0_0.ext hW.extAll) y101 hy101 (HF.start _)) ?_
  refine Tr.val (wn rfl) rfl (fun _ _ h1 h2 => run_assign (h1.ev rfl)) ?_
  refine Tr.nil (Tr.normThen ?_)
  refine Tr.seq ?_
  refine Tr.region ?_
  refine Tr.val (wn rfl) rfl (fun _ _ h1 h2 => run_move (h1.ev rfl)) ?_
  refine Tr.val (wn rfl) rfl (fun _ _ h1 h2 => run_neq (h1.ev rfl) (h1.ev rfl)) ?_
  refine Tr.nil (Tr.normThen ?_)
  refine Tr.cond rfl H (fun H => ?_) (fun H => ?_)
  · refine Tr.seq ?_
    refine Tr.region ?_
    refine Tr.val (wn rfl) rfl (fun _ _ h1 h2 => run_move (h1.ev rfl)) ?_
    refine Tr.val (wn rfl) rfl (fun _ _ h1 h2 => run_assign (h1.ev rfl)) ?_
    refine Tr.nilOwn 3 29 fl_TRect ?_
    show Tr _ _ (uf _ 4 (.slice none (([] : List TRect)).length 0)) _ _
    refine Tr.val (wn rfl) rfl (fun _ _ h1 h2 => run_assign (h1.ev rfl)) ?_
    refine Tr.nil (Tr.normThen ?_)
    refine Tr.ret (Tr.retThen ?_)
    obtain rfl := Option.some.inj H
    exact Tr.out (m := [(.slice none (([] : List TRect)).length 0), (.int .i64 y101)]) [] (res_tmp rfl (res_tmp rfl res_nil)) (fun W hW => ⟨(none, 0), rfl, slf_nil, HF.lowE leB (hW.pick (ks := [3]) (by decide) (pk_cons rfl pk_nil)) ⟨ow_any _ _ _ _ tr_TRect, trivial⟩⟩)
  · refine Tr.skip (Tr.normThen ?_)
    refine Tr.seq ?_
    refine Tr.seq ?_
    refine Tr.region ?_
    refine Tr.val (wn rfl) rfl (fun _ _ h1 h2 => run_loadN (cs := [(.bool p1.Flip), (.int .i64 p1.Quarters), (.int .i64 p1.At.X), (.int .i64 p1.At.Y)]) ag_51 sz_51 (h1.ev rfl) (CellsAt.take (rdb h2 (vs := [(.bool p1.Flip), (.int .i64 p1.Quarters), (.int .i64 p1.At.X), (.int .i64 p1.At.Y)]) (k := 1) rfl 0) 4) rfl) ?_
    obtain ⟨y102, hy102, H⟩ := bnd H
    refine Tr.call0 (r := (.int .i64 y102)) (wn rfl) rfl Try.call56 (evl_cons rfl evl_nil) (fun W hW => F_shape_CheckTurn_ok p1 y102 hy102 (HF.start _)) ?_
    refine Tr.val (wn rfl) rfl (fun _ _ h1 h2 => run_assign (h1.ev rfl)) ?_
    refine Tr.nil (Tr.normThen ?_)
    refine Tr.seq ?_
    refine Tr.region ?_
    refine Tr.val (wn rfl) rfl (fun _ _ h1 h2 => run_move (h1.ev rfl)) ?_
    refine Tr.val (wn rfl) rfl (fun _ _ h1 h2 => run_neq (h1.ev rfl) (h1.ev rfl)) ?_
    refine Tr.nil (Tr.normThen ?_)
    refine Tr.cond rfl H (fun H => ?_) (fun H => ?_)
    · refine Tr.seq ?_
      refine Tr.region ?_
      refine Tr.val (wn rfl) rfl (fun _ _ h1 h2 => run_move (h1.ev rfl)) ?_
      refine Tr.val (wn rfl) rfl (fun _ _ h1 h2 => run_assign (h1.ev rfl)) ?_
      refine Tr.nilOwn 4 29 fl_TRect ?_
      show Tr _ _ (uf _ 4 (.slice none (([] : List TRect)).length 0)) _ _
      refine Tr.val (wn rfl) rfl (fun _ _ h1 h2 => run_assign (h1.ev rfl)) ?_
      refine Tr.nil (Tr.normThen ?_)
      refine Tr.ret (Tr.retThen ?_)
      obtain rfl := Option.some.inj H
      exact Tr.out (m := [(.slice none (([] : List TRect)).length 0), (.int .i64 y102)]) [] (res_tmp rfl (res_tmp rfl res_nil)) (fun W hW => ⟨(none, 0), rfl, slf_nil, HF.lowE leB (hW.pick (ks := [4]) (by decide) (pk_cons rfl pk_nil)) ⟨ow_any _ _ _ _ tr_TRect, trivial⟩⟩)
    · refine Tr.skip (Tr.normThen ?_)
      refine Tr.seq ?_
      refine Tr.drawC 3 [] [] (by kernel_rfl) (by kernel_rfl) fun sz103 hlosz103 hEsz103 => ?_
      refine Dr.quiet 0 [(19, (.slice Ap0_0 (p0).length cp0_0))] (by kernel_rfl) rfl rfl (by kernel_rfl) ?_ rfl rfl ?_
      · refine Tq.val (wn rfl) rfl (fun _ _ h1 h2 => run_move (h1.ev rfl)) ?_
        exact Tq.fin (.cons rfl .nil)
      refine Dr.quiet 2 [(21, (.agg #[(.bool p1.Flip), (.int .i64 p1.Quarters), (.int .i64 p1.At.X), (.int .i64 p1.At.Y)]))] (by kernel_rfl) rfl rfl (by kernel_rfl) ?_ rfl rfl ?_
      · refine Tq.val (wn rfl) rfl (fun _ _ h1 h2 => run_loadN (cs := [(.bool p1.Flip), (.int .i64 p1.Quarters), (.int .i64 p1.At.X), (.int .i64 p1.At.Y)]) ag_51 sz_51 (h1.ev rfl) (CellsAt.take (rdb h2 (vs := [(.bool p1.Flip), (.int .i64 p1.Quarters), (.int .i64 p1.At.X), (.int .i64 p1.At.Y)]) (k := 1) rfl 0) 4) rfl) ?_
        exact Tq.fin (.cons rfl .nil)
      obtain ⟨y104, hy104, H⟩ := bnd H
      refine Dr.one 1 (by kernel_rfl) ?_
      refine St.callG 1 [5] [emp] (U := (Option Addr × Nat)) (fun u => (.slice u.1 (y104).length u.2)) (fun O W u => SlF u.1 (y104).length u.2) (fun u => [ow u.1 u.2 104 fl_TBand y104]) rfl (pk_cons rfl pk_nil) (fun _ => rfl) (insS_no rfl) rfl (wn rfl) rfl Try.call40 (evl_cons rfl evl_nil) (fun W hW hp hE => F_shape_SetOf_ok N p0 Ap0_0 cp0_0 (hp0_0.ext (hW.extS hp)) y104 hy104 hE) ?_
      intro w u le105 hu hsy104
      obtain ⟨Ay104_0, cy104_0⟩ := u
      have gy104_0 := hu
      replace hp0_0 := hp0_0.leR le105
      replace leB := leB.trans le105
      have hgy104_0 : SlF Ay104_0 (y104).length cy104_0 := gy104_0
      show Dr _ _ _ _ _ _ _ _ _ (uf _ 20 (.slice Ay104_0 (y104).length cy104_0)) (up _ 5 (ow Ay104_0 cy104_0 104 fl_TBand y104))
      refine Dr.tail (by kernel_rfl) ?_
      obtain ⟨y106, hy106, H⟩ := bnd H
      refine Tr.callG [6] [emp] (U := (Option Addr × Nat)) (fun u => (.slice u.1 (y106).length u.2)) (fun O W u => SlF u.1 (y106).length u.2) (fun u => [ow u.1 u.2 104 fl_TBand y106]) rfl (pk_cons rfl pk_nil) (fun _ => rfl) (wn rfl) rfl Try.call57 (evl_cons rfl (evl_cons rfl evl_nil)) (fun W hW hp hE => F_shape_Set__TurnSet_ok N y104 Ay104_0 cy104_0 (hW.slS (k := 5) rfl hp rfl) p1 y106 hy106 hE) ?_
      intro w u le107 hu
      obtain ⟨Ay106_0, cy106_0⟩ := u
      have gy106_0 := hu
      replace hp0_0 := hp0_0.leR le107
      replace leB := leB.trans le107
      have hgy106_0 : SlF Ay106_0 (y106).length cy106_0 := gy106_0 --@phi
      show Tr _ _ (uf _ 22 (.slice Ay106_0 (y106).length cy106_0)) (up _ 6 (ow Ay106_0 cy106_0 104 fl_TBand y106)) _
      refine Tr.val (wn rfl) rfl (fun _ _ h1 h2 => run_assign (h1.ev rfl)) ?_
      refine Tr.nil (Tr.normThen ?_)
      refine Tr.seq ?_
      refine Tr.seq ?_
      refine Tr.region ?_
      refine Tr.val (wn rfl) rfl (fun _ _ h1 h2 => run_move (h1.ev rfl)) ?_
      obtain ⟨y108, hy108, H⟩ := bnd H
      refine Tr.call0 (r := (.bool y108)) (wn rfl) rfl Try.call58 (evl_cons rfl evl_nil) (fun W hW => F_shape_Set__Fits_ok y106 Ay106_0 cy106_0 (hW.slCall (k := 6) rfl) y108 hy108 (HF.start _)) ?_
      refine Tr.val (wn rfl) rfl (fun _ _ h1 h2 => run_not (h1.ev rfl)) ?_
      refine Tr.nil (Tr.normThen ?_)
      refine Tr.cond rfl H (fun H => ?_) (fun H => ?_)
      · refine Tr.seq ?_
        refine Tr.region ?_
        refine Tr.val (wn rfl) rfl (fun _ _ h1 h2 => run_assign (h1.ev rfl)) ?_
        refine Tr.nilOwn 7 29 fl_TRect ?_
        show Tr _ _ (uf _ 4 (.slice none (([] : List TRect)).length 0)) _ _
        refine Tr.val (wn rfl) rfl (fun _ _ h1 h2 => run_assign (h1.ev rfl)) ?_
        refine Tr.nil (Tr.normThen ?_)
        refine Tr.ret (Tr.retThen ?_)
        obtain rfl := Option.some.inj H
        exact Tr.out (m := [(.slice none (([] : List TRect)).length 0), (.int .i64 1)]) [] (res_tmp rfl (res_tmp rfl res_nil)) (fun W hW => ⟨(none, 0), rfl, slf_nil, HF.lowE leB (hW.pick (ks := [7]) (by decide) (pk_cons rfl pk_nil)) ⟨ow_any _ _ _ _ tr_TRect, trivial⟩⟩)
      · refine Tr.skip (Tr.normThen ?_)
        refine Tr.seq ?_
        refine Tr.region ?_
        refine Tr.val (wn rfl) rfl (fun _ _ h1 h2 => run_move (h1.ev rfl)) ?_
        obtain ⟨y109, hy109, H⟩ := bnd H
        refine Tr.callM [8] [emp] (U := (Option Addr × Nat)) (fun u => (.tuple #[(.slice u.1 (y109.1).length u.2), (.int .i64 y109.2)])) (fun u => SlF u.1 (y109.1).length u.2) (fun u => [ow u.1 u.2 29 fl_TRect y109.1]) rfl (pk_cons rfl pk_nil) (fun _ => rfl) (wn rfl) rfl Try.call48 (evl_cons rfl evl_nil) (fun W hW hp hE => F_shape_Set__Told_ok N y106 Ay106_0 cy106_0 (hW.slS (k := 6) rfl hp rfl) y109 hy109 hE) ?_
        intro u hu
        obtain ⟨Ay109_0, cy109_0⟩ := u
        have gy109_0 := hu
        have hgy109_0 : SlF Ay109_0 (y109.1).length cy109_0 := gy109_0 --@phi
        show Tr _ _ (uf _ 27 (.tuple #[(.slice Ay109_0 (y109.1).length cy109_0), (.int .i64 y109.2)])) (up _ 8 (ow Ay109_0 cy109_0 29 fl_TRect y109.1)) _
        refine Tr.val (wn rfl) rfl (fun _ _ h1 h2 => run_extract (h1.ev rfl) rfl) ?_
        refine Tr.val (wn rfl) rfl (fun _ _ h1 h2 => run_extract (h1.ev rfl) rfl) ?_
        refine Tr.val (wn rfl) rfl (fun _ _ h1 h2 => run_assign (h1.ev rfl)) ?_
        refine Tr.val (wn rfl) rfl (fun _ _ h1 h2 => run_assign (h1.ev rfl)) ?_
        refine Tr.nil (Tr.normThen ?_)
        refine Tr.ret ?_
        obtain rfl := Option.some.inj H
        exact Tr.out (m := [(.slice Ay109_0 (y109.1).length cy109_0), (.int .i64 y109.2)]) [] (res_tmp rfl (res_tmp rfl res_nil)) (fun W hW => ⟨(Ay109_0, cy109_0), rfl, hgy109_0, HF.lowE leB (hW.pick (ks := [8]) (by decide) (pk_cons rfl pk_nil)) ⟨ow_any _ _ _ _ tr_TRect, trivial⟩⟩)

theorem F_shape_AreaOf_ok {w : Bs} (p0 : (List TRect)) (Ap0_0 : Option Addr) (cp0_0 : Nat) (hp0_0 : Sl w.R w.W fl_TRect Ap0_0 cp0_0 p0) (r : Int) (H : F_shape_AreaOf p0 = some r) (hE : HF w w.W E0) : Calls Try.prog 67 [(.slice Ap0_0 (p0).length cp0_0)].toArray w.W fun e W' => e = .returned (.int .i64 r) ∧ HF w W' E0 := by
  unfold F_shape_AreaOf at H
  have leB := Bs.Le.refl w
  refine Tr.enter (n := 27) Try.func67 rfl rfl rfl hE ?_
  refine Tr.seq ?_
  refine Tr.region ?_
  refine Tr.val (wn rfl) rfl (fun _ _ h1 h2 => run_assign (h1.ev rfl)) ?_
  refine Tr.nil (Tr.normThen ?_)
  refine Tr.seq ?_
  refine Tr.region ?_
  refine Tr.val (wn rfl) rfl (fun _ _ h1 h2 => run_assign (h1.ev rfl)) ?_
  refine Tr.nil (Tr.normThen ?_)
  refine Tr.seq ?_
  refine Tr.seq ?_
  refine Tr.region ?_
  refine Tr.val (wn rfl) rfl (fun _ _ h1 h2 => run_move (h1.ev rfl)) ?_
  refine Tr.val (wn rfl) rfl (fun _ _ h1 h2 => run_len un_22 (h1.ev rfl)) ?_
  refine Tr.val (wn rfl) rfl (fun _ _ h1 h2 => run_move (h1.ev rfl)) ?_
  refine Tr.nil (Tr.normThen ?_)
  refine Tr.block ?_
  refine Tr.loop (σ := (List TRect) × Nat × Int) (fun m w s => m = s.1.length + 1 ∧ s.1 = List.drop s.2.1 p0 ∧ s.2.1 ≤ p0.length ∧ F_shape_AreaOf_L1 s.1 s.2.1 s.2.2 = some r) (fun s => [(3, (.int .i64 s.2.2)), (6, (.slice Ap0_0 (p0).length cp0_0)), (7, (.int .i64 (p0.length : Int))), (8, (.int .i64 (s.2.1 : Int)))]) (fun s => []) (p0.length + 1) (p0, 0, 0) ⟨rfl, rfl, Nat.zero_le _, H⟩ (.cons rfl (.cons rfl (.cons rfl (.cons rfl .nil)))) .nil (fun _ _ h => absurd h.1 (by simp)) ?_
  intro w leF_shape_AreaOf_L1 m s hs
  obtain ⟨restF_shape_AreaOf_L1, iF_shape_AreaOf_L1, x110⟩ := s
  obtain ⟨hmF_shape_AreaOf_L1, hdF_shape_AreaOf_L1, hiF_shape_AreaOf_L1, H⟩ := hs
  replace hdF_shape_AreaOf_L1 : restF_shape_AreaOf_L1 = List.drop iF_shape_AreaOf_L1 p0 := hdF_shape_AreaOf_L1
  replace H : F_shape_AreaOf_L1 restF_shape_AreaOf_L1 iF_shape_AreaOf_L1 x110 = some r := H
  replace hmF_shape_AreaOf_L1 : m + 1 = restF_shape_AreaOf_L1.length + 1 := hmF_shape_AreaOf_L1
  replace hp0_0 := hp0_0.leR leF_shape_AreaOf_L1
  replace leB := leB.trans leF_shape_AreaOf_L1
  obtain rfl : m = restF_shape_AreaOf_L1.length := by omega
  clear hmF_shape_AreaOf_L1
  show Tr _ _ (LF [(3, (.int .i64 x110)), (6, (.slice Ap0_0 (p0).length cp0_0)), (7, (.int .i64 (p0.length : Int))), (8, (.int .i64 (iF_shape_AreaOf_L1 : Int)))]) (LE []) _
  cases restF_shape_AreaOf_L1 with
  | nil =>
    rw [F_shape_AreaOf_L1.eq_1] at H
    refine Tr.seq ?_
    refine Tr.region ?_
    refine Tr.val (wn rfl) rfl (fun _ _ h1 h2 => run_lss (h1.ev rfl) (h1.ev rfl)) ?_
    refine Tr.nil (Tr.normThen ?_)
    refine Tr.seq ?_
    refine Tr.condF rfl (range_nil hdF_shape_AreaOf_L1) ?_
    refine Tr.exit (Tr.exitThen (Tr.exitThen (Tr.exitBlock (Tr.normThen ?_))))
    refine Tr.seq ?_
    refine Tr.region ?_
    refine Tr.val (wn rfl) rfl (fun _ _ h1 h2 => run_move (h1.ev rfl)) ?_
    refine Tr.val (wn rfl) rfl (fun _ _ h1 h2 => run_assign (h1.ev rfl)) ?_
    refine Tr.nil (Tr.normThen ?_)
    refine Tr.ret ?_
    obtain rfl := Option.some.inj H
    exact Tr.out (m := [(.int .i64 x110)]) [] (res_tmp rfl res_nil) (fun W hW => ⟨rfl, hW.low leB⟩)
  | cons xF_shape_AreaOf_L1 restF_shape_AreaOf_L1 =>
    rw [F_shape_AreaOf_L1.eq_2] at H
    refine Tr.seq ?_
    refine Tr.region ?_
    refine Tr.val (wn rfl) rfl (fun _ _ h1 h2 => run_lss (h1.ev rfl) (h1.ev rfl)) ?_
    refine Tr.nil (Tr.normThen ?_)
    refine Tr.seq ?_
    refine Tr.condT rfl (range_on hdF_shape_AreaOf_L1) ?_
    refine Tr.skip (Tr.normThen ?_)
    refine Tr.seq ?_
    refine Tr.block ?_
    refine Tr.seq ?_
    refine Tr.region ?_
    refine Tr.val (wn rfl) rfl (fun _ _ h1 h2 => run_indexAddr el_22 (h1.ev rfl) hp0_0.form (h1.ev rfl) (Int.natCast_nonneg _) (range_lt hdF_shape_AreaOf_L1)) ?_
    refine Tr.val (wn rfl) rfl (fun _ _ h1 h2 => run_loadN (cs := [(.int .i64 xF_shape_AreaOf_L1.X0), (.int .i64 xF_shape_AreaOf_L1.Y0), (.int .i64 xF_shape_AreaOf_L1.X1), (.int .i64 xF_shape_AreaOf_L1.Y1)]) ag_29 sz_29 (h1.ev rfl) (CellsAt.take (rdF ef_TRect hp0_0 (range_at hdF_shape_AreaOf_L1) h2) 4) rfl) ?_
    refine Tr.alloc 3 (wn rfl) rfl ze_29 fun b111 => ?_
    refine Tr.store 3 (cs := [(.int .i64 xF_shape_AreaOf_L1.X0), (.int .i64 xF_shape_AreaOf_L1.Y0), (.int .i64 xF_shape_AreaOf_L1.X1), (.int .i64 xF_shape_AreaOf_L1.Y1)]) [(.int .i64 xF_shape_AreaOf_L1.X0), (.int .i64 xF_shape_AreaOf_L1.Y0), (.int .i64 xF_shape_AreaOf_L1.X1), (.int .i64 xF_shape_AreaOf_L1.Y1)] (wn rfl) rfl rfl rfl rfl sz_29 rfl rfl rfl ?_
    refine Tr.nil (Tr.normThen ?_)
    refine Tr.region ?_
    refine Tr.val (wn rfl) rfl (fun _ _ h1 h2 => run_move (h1.ev rfl)) ?_
    refine Tr.val (wn rfl) rfl (fun _ _ h1 h2 => run_fieldAddr fo_29_2 (h1.ev rfl)) ?_
    refine Tr.val (wn rfl) rfl (fun _ _ h1 h2 => run_load1 ag_3 (h1.ev rfl) (rdb h2 (vs := [(.int .i64 xF_shape_AreaOf_L1.X0), (.int .i64 xF_shape_AreaOf_L1.Y0), (.int .i64 xF_shape_AreaOf_L1.X1), (.int .i64 xF_shape_AreaOf_L1.Y1)]) (k := 3) rfl 2) rfl) ?_
    refine Tr.val (wn rfl) rfl (fun _ _ h1 h2 => run_fieldAddr fo_29_0 (h1.ev rfl)) ?_
    refine Tr.val (wn rfl) rfl (fun _ _ h1 h2 => run_load1 ag_3 (h1.ev rfl) (rdb h2 (vs := [(.int .i64 xF_shape_AreaOf_L1.X0), (.int .i64 xF_shape_AreaOf_L1.Y0), (.int .i64 xF_shape_AreaOf_L1.X1), (.int .i64 xF_shape_AreaOf_L1.Y1)]) (k := 3) rfl 0) rfl) ?_
    refine Tr.val (wn rfl) rfl (fun _ _ h1 h2 => run_sub (h1.ev rfl) (h1.ev rfl)) ?_
    refine Tr.val (wn rfl) rfl (fun _ _ h1 h2 => run_fieldAddr fo_29_3 (h1.ev rfl)) ?_
    refine Tr.val (wn rfl) rfl (fun _ _ h1 h2 => run_load1 ag_3 (h1.ev rfl) (rdb h2 (vs := [(.int .i64 xF_shape_AreaOf_L1.X0), (.int .i64 xF_shape_AreaOf_L1.Y0), (.int .i64 xF_shape_AreaOf_L1.X1), (.int .i64 xF_shape_AreaOf_L1.Y1)]) (k := 3) rfl 3) rfl) ?_
    refine Tr.val (wn rfl) rfl (fun _ _ h1 h2 => run_fieldAddr fo_29_1 (h1.ev rfl)) ?_
    refine Tr.val (wn rfl) rfl (fun _ _ h1 h2 => run_load1 ag_3 (h1.ev rfl) (rdb h2 (vs := [(.int .i64 xF_shape_AreaOf_L1.X0), (.int .i64 xF_shape_AreaOf_L1.Y0), (.int .i64 xF_shape_AreaOf_L1.X1), (.int .i64 xF_shape_AreaOf_L1.Y1)]) (k := 3) rfl 1) rfl) ?_
    refine Tr.val (wn rfl) rfl (fun _ _ h1 h2 => run_sub (h1.ev rfl) (h1.ev rfl)) ?_
    refine Tr.val (wn rfl) rfl (fun _ _ h1 h2 => run_mul (h1.ev rfl) (h1.ev rfl)) ?_
    refine Tr.val (wn rfl) rfl (fun _ _ h1 h2 => run_add (h1.ev rfl) (h1.ev rfl)) ?_
    refine Tr.val (wn rfl) rfl (fun _ _ h1 h2 => run_assign (h1.ev rfl)) ?_
    refine Tr.nil (Tr.normBlock (Tr.normThen ?_))
    refine Tr.region ?_
    refine Tr.val (wn rfl) rfl (fun _ _ h1 h2 => run_add (h1.ev rfl) (h1.ev rfl)) ?_
    refine Tr.val (wn rfl) rfl (fun _ _ h1 h2 => run_move (h1.ev rfl)) ?_
    refine Tr.nil ?_
    exact Tr.backThen leF_shape_AreaOf_L1 (restF_shape_AreaOf_L1, (iF_shape_AreaOf_L1 + 1), (w64 (x110 + (w64 ((w64 (xF_shape_AreaOf_L1.X1 - xF_shape_AreaOf_L1.X0)) * (w64 (xF_shape_AreaOf_L1.Y1 - xF_shape_AreaOf_L1.Y0))))))) ⟨rfl, range_tl hdF_shape_AreaOf_L1, range_lt hdF_shape_AreaOf_L1, H⟩ (.cons rfl (.cons rfl (.cons rfl (.cons (congrArg (fun z => some (Value.int .i64 z)) (range_up hdF_shape_AreaOf_L1 hp0_0.form)) .nil)))) .nil

theorem F_shape_Area_ok (N : Nat) {w : Bs} (p0 : (List TRect)) (Ap0_0 : Option Addr) (cp0_0 : Nat) (hp0_0 : Sl w.R w.W fl_TRect Ap0_0 cp0_0 p0) (r : (Int × Int)) (H : F_shape_Area N p0 = some r) (hE : HF w w.W E0) : Calls Try.prog 36 [(.slice Ap0_0 (p0).length cp0_0)].toArray w.W fun e W' => e = .returned (.tuple #[(.int .i64 r.1), (.int .i64 r.2)]) ∧ HF w W' E0 := by
  unfold F_shape_Area at H
  have leB := Bs.Le.refl w
  refine Tr.enter (n := 12) Try.func36 rfl rfl rfl hE ?_
  refine Tr.seq ?_
  refine Tr.region ?_
  refine Tr.val (wn rfl) rfl (fun _ _ h1 h2 => run_assign (h1.ev rfl)) ?_
  refine Tr.val (wn rfl) rfl (fun _ _ h1 h2 => run_assign (h1.ev rfl)) ?_
  refine Tr.nil (Tr.normThen ?_)
  refine Tr.seq ?_
  refine Tr.seq ?_
  refine Tr.region ?_
  refine Tr.val (wn rfl) rfl (fun _ _ h1 h2 => run_move (h1.ev rfl)) ?_
  obtain ⟨y100, hy100, H⟩ := bnd H
  refine Tr.call0 (r := (.int .i64 y100)) (wn rfl) rfl Try.call18 (evl_cons rfl evl_nil) (fun W hW => F_shape_CheckRegion_ok N p0 Ap0_0 cp0_0 (hp0_0.ext hW.extAll) y100 hy100 (HF.start _)) ?_
  refine Tr.val (wn rfl) rfl (fun _ _ h1 h2 => run_assign (h1.ev rfl)) ?_
  refine Tr.nil (Tr.normThen ?_)
  refine Tr.seq ?_
  refine Tr.region ?_
  refine Tr.val (wn rfl) rfl (fun _ _ h1 h2 => run_move (h1.ev rfl)) ?_
  refine Tr.val (wn rfl) rfl (fun _ _ h1 h2 => run_neq (h1.ev rfl) (h1.ev rfl)) ?_
  refine Tr.nil (Tr.normThen ?_)
  refine Tr.cond rfl H (fun H => ?_) (fun H => ?_)
  · refine Tr.seq ?_
    refine Tr.region ?_
    refine Tr.val (wn rfl) rfl (fun _ _ h1 h2 => run_move (h1.ev rfl)) ?_
    refine Tr.val (wn rfl) rfl (fun _ _ h1 h2 => run_assign (h1.ev rfl)) ?_
    refine Tr.val (wn rfl) rfl (fun _ _ h1 h2 => run_assign (h1.ev rfl)) ?_
    refine Tr.nil (Tr.normThen ?_)
    refine Tr.ret (Tr.retThen ?_)
    obtain rfl := Option.some.inj H
    exact Tr.out (m := [(.int .i64 0), (.int .i64 y100)]) [] (res_tmp rfl (res_tmp rfl res_nil)) (fun W hW => ⟨rfl, hW.low leB⟩)
  · refine Tr.skip (Tr.normThen ?_)
    refine Tr.seq ?_
    refine Tr.region ?_
    refine Tr.val (wn rfl) rfl (fun _ _ h1 h2 => run_move (h1.ev rfl)) ?_
    obtain ⟨y101, hy101, H⟩ := bnd H
    refine Tr.call0 (r := (.int .i64 y101)) (wn rfl) rfl Try.call67 (evl_cons rfl evl_nil) (fun W hW => F_shape_AreaOf_ok p0 Ap0_0 cp0_0 (hp0_0.ext hW.extAll) y101 hy101 (HF.start _)) ?_
    refine Tr.val (wn rfl) rfl (fun _ _ h1 h2 => run_assign (h1.ev rfl)) ?_
    refine Tr.val (wn rfl) rfl (fun _ _ h1 h2 => run_assign (h1.ev rfl)) ?_
    refine Tr.nil (Tr.normThen ?_)
    refine Tr.ret ?_
    obtain rfl := Option.some.inj H
    exact Tr.out (m := [(.int .i64 y101), (.int .i64 0)]) [] (res_tmp rfl (res_tmp rfl res_nil)) (fun W hW => ⟨rfl, hW.low leB⟩)

theorem F_etchhouselaw1_awake_ok (N : Nat) {w : Bs}  (r : Bool) (H : F_etchhouselaw1_awake N = some r) (hE : HF w w.W E0) : Calls Try.prog 12 [].toArray w.W fun e W' => e = .returned (.bool r) ∧ HF w W' E0 := by
  unfold F_etchhouselaw1_awake at H
  have leB := Bs.Le.refl w
  refine Tr.enter (n := 15) Try.func12 rfl rfl rfl hE ?_
  refine Tr.seq ?_
  refine Tr.region ?_
  refine Tr.val (wn rfl) rfl (fun _ _ h1 h2 => run_assign (h1.ev rfl)) ?_
  refine Tr.nil (Tr.normThen ?_)
  refine Tr.seq ?_
  refine Tr.region ?_
  refine Tr.build (vs := [(2, (.int .i64 2)), (3, (.int .i64 3))]) (cs := [(.int .i64 0), (.int .i64 0), (.int .i64 2), (.int .i64 3)]) (wn rfl) rfl (evs_cons rfl (evs_cons rfl evs_nil)) (by kernel_rfl) ?_
  refine Tr.buildSlice 1 (e := 29) (vs := [(0, (.agg #[(.int .i64 0), (.int .i64 0), (.int .i64 2), (.int .i64 3)]))]) (cs := [(.int .i64 0), (.int .i64 0), (.int .i64 2), (.int .i64 3)]) (wn rfl) rfl (evs_cons rfl evs_nil) (by kernel_rfl) fun b100 => ?_
  refine Tr.own 1 fl_TRect [(TRect.mk 0 0 2 3)] (css := [[(.int .i64 0), (.int .i64 0), (.int .i64 2), (.int .i64 3)]]) rfl (.cons ⟨(), trivial, rfl⟩ .nil) rfl (by decide) (lit_max rfl) ?_
  obtain ⟨y101, hy101, H⟩ := bnd H
  refine Tr.call0 (r := (.tuple #[(.int .i64 y101.1), (.int .i64 y101.2)])) (wn rfl) rfl Try.call36 (evl_cons rfl evl_nil) (fun W hW => F_shape_Area_ok N [(TRect.mk 0 0 2 3)] (some ⟨b100, 0, none⟩) 1 (hW.slCall (k := 1) rfl) y101 hy101 (HF.start _)) ?_
  refine Tr.val (wn rfl) rfl (fun _ _ h1 h2 => run_move (h1.ev rfl)) ?_
  refine Tr.val (wn rfl) rfl (fun _ _ h1 h2 => run_extract (h1.ev rfl) rfl) ?_
  refine Tr.val (wn rfl) rfl (fun _ _ h1 h2 => run_extract (h1.ev rfl) rfl) ?_
  refine Tr.val (wn rfl) rfl (fun _ _ h1 h2 => run_assign (h1.ev rfl)) ?_
  refine Tr.val (wn rfl) rfl (fun _ _ h1 h2 => run_assign (h1.ev rfl)) ?_
  refine Tr.nil (Tr.normThen ?_)
  refine Tr.seq ?_
  refine Tr.region ?_
  refine Tr.val (wn rfl) rfl (fun _ _ h1 h2 => run_move (h1.ev rfl)) ?_
  refine Tr.val (wn rfl) rfl (fun _ _ h1 h2 => run_eql (h1.ev rfl) (h1.ev rfl)) ?_
  refine Tr.val (wn rfl) rfl (fun _ _ h1 h2 => run_move (h1.ev rfl)) ?_
  refine Tr.mid0 3 [(14, (.bool ((y101.2 == 0) && (y101.1 == 6))))] [(1, ow (some ⟨b100, 0, none⟩) 1 29 fl_TRect [(TRect.mk 0 0 2 3)])] ?_ ?_
  · cases hg101 : (y101.2 == 0)
    · refine Tr.pass rfl rfl rfl rfl rfl (by decide) ?_
      refine Tr.pass rfl rfl rfl rfl rfl (by decide) ?_
      refine Tr.val (wn rfl) rfl (fun _ _ h1 h2 => run_pickF (h1.ev rfl) (h1.ev rfl)) ?_
      exact Tr.nil (Tr.fin0 (.cons rfl .nil) (.cons rfl .nil))
    · refine Tr.val (wg rfl rfl rfl) rfl (fun _ _ h1 h2 => run_move (h1.ev rfl)) ?_
      refine Tr.val (wg rfl rfl rfl) rfl (fun _ _ h1 h2 => run_eql (h1.ev rfl) (h1.ev rfl)) ?_
      refine Tr.val (wn rfl) rfl (fun _ _ h1 h2 => run_pickT (h1.ev rfl) (h1.ev rfl)) ?_
      exact Tr.nil (Tr.fin0 (.cons rfl .nil) (.cons rfl .nil))
  · show Tr _ _ (LF [(14, (.bool ((y101.2 == 0) && (y101.1 == 6))))]) (LE [(1, ow (some ⟨b100, 0, none⟩) 1 29 fl_TRect [(TRect.mk 0 0 2 3)])]) _
    refine Tr.val (wn rfl) rfl (fun _ _ h1 h2 => run_assign (h1.ev rfl)) ?_
    refine Tr.nil (Tr.normThen ?_)
    refine Tr.ret ?_
    obtain rfl := Option.some.inj H
    exact Tr.out (m := [(.bool ((y101.2 == 0) && (y101.1 == 6)))]) [] (res_tmp rfl res_nil) (fun W hW => ⟨rfl, hW.low leB⟩)

theorem F_shape_Back_ok (N : Nat) {w : Bs} (p0 : TTurn) (r : (TTurn × Int)) (H : F_shape_Back N p0 = some r) (hE : HF w w.W E0) : Calls Try.prog 31 [(.agg #[(.bool p0.Flip), (.int .i64 p0.Quarters), (.int .i64 p0.At.X), (.int .i64 p0.At.Y)])].toArray w.W fun e W' => e = .returned (.tuple #[(.agg #[(.bool r.1.Flip), (.int .i64 r.1.Quarters), (.int .i64 r.1.At.X), (.int .i64 r.1.At.Y)]), (.int .i64 r.2)]) ∧ HF w W' E0 := by
  unfold F_shape_Back at H
  have leB := Bs.Le.refl w
  refine Tr.enter (n := 39) Try.func31 rfl rfl rfl hE ?_
  refine Tr.seq ?_
  refine Tr.region ?_
  refine Tr.box 1 (cs := [(.bool p0.Flip), (.int .i64 p0.Quarters), (.int .i64 p0.At.X), (.int .i64 p0.At.Y)]) (wn rfl) rfl rfl rfl fun b100 => ?_
  refine Tr.alloc 2 (wn rfl) rfl ze_51 fun b101 => ?_
  refine Tr.val (wn rfl) rfl (fun _ _ h1 h2 => run_assign (h1.ev rfl)) ?_
  refine Tr.nil (Tr.normThen ?_)
  refine Tr.seq ?_
  refine Tr.seq ?_
  refine Tr.region ?_
  refine Tr.val (wn rfl) rfl (fun _ _ h1 h2 => run_loadN (cs := [(.bool p0.Flip), (.int .i64 p0.Quarters), (.int .i64 p0.At.X), (.int .i64 p0.At.Y)]) ag_51 sz_51 (h1.ev rfl) (CellsAt.take (rdb h2 (vs := [(.bool p0.Flip), (.int .i64 p0.Quarters), (.int .i64 p0.At.X), (.int .i64 p0.At.Y)]) (k := 1) rfl 0) 4) rfl) ?_
  obtain ⟨y102, hy102, H⟩ := bnd H
  refine Tr.call0 (r := (.int .i64 y102)) (wn rfl) rfl Try.call56 (evl_cons rfl evl_nil) (fun W hW => F_shape_CheckTurn_ok p0 y102 hy102 (HF.start _)) ?_
  refine Tr.val (wn rfl) rfl (fun _ _ h1 h2 => run_assign (h1.ev rfl)) ?_
  refine Tr.nil (Tr.normThen ?_)
  refine Tr.seq ?_
  refine Tr.region ?_
  refine Tr.val (wn rfl) rfl (fun _ _ h1 h2 => run_move (h1.ev rfl)) ?_
  refine Tr.val (wn rfl) rfl (fun _ _ h1 h2 => run_neq (h1.ev rfl) (h1.ev rfl)) ?_
  refine Tr.nil (Tr.normThen ?_)
  refine Tr.cond rfl H (fun H => ?_) (fun H => ?_)
  · refine Tr.seq ?_
    refine Tr.region ?_
    refine Tr.build (vs := []) (cs := [(.bool false), (.int .i64 0), (.int .i64 0), (.int .i64 0)]) (wn rfl) rfl evs_nil (by kernel_rfl) ?_
    refine Tr.val (wn rfl) rfl (fun _ _ h1 h2 => run_move (h1.ev rfl)) ?_
    refine Tr.store 2 (cs := [(.bool false), (.int .i64 0), (.int .i64 0), (.int .i64 0)]) [(.bool false), (.int .i64 0), (.int .i64 0), (.int .i64 0)] (wn rfl) rfl rfl rfl rfl sz_51 rfl rfl rfl ?_
    refine Tr.val (wn rfl) rfl (fun _ _ h1 h2 => run_assign (h1.ev rfl)) ?_
    refine Tr.nil (Tr.normThen ?_)
    refine Tr.ret (Tr.retThen ?_)
    obtain rfl := Option.some.inj H
    exact Tr.out (m := [(.agg #[(.bool false), (.int .i64 0), (.int .i64 0), (.int .i64 0)]), (.int .i64 y102)]) [2] (res_cell rfl rfl ag_51 sz_51 (res_tmp rfl res_nil)) (fun W hW => ⟨rfl, hW.low leB⟩)
  · refine Tr.skip (Tr.normThen ?_)
    refine Tr.seq ?_
    refine Tr.region ?_
    refine Tr.val (wn rfl) rfl (fun _ _ h1 h2 => run_fieldAddr fo_51_0 (h1.ev rfl)) ?_
    refine Tr.val (wn rfl) rfl (fun _ _ h1 h2 => run_load1 ag_4 (h1.ev rfl) (rdb h2 (vs := [(.bool p0.Flip), (.int .i64 p0.Quarters), (.int .i64 p0.At.X), (.int .i64 p0.At.Y)]) (k := 1) rfl 0) rfl) ?_
    refine Tr.val (wn rfl) rfl (fun _ _ h1 h2 => run_fieldAddr fo_51_1 (h1.ev rfl)) ?_
    refine Tr.val (wn rfl) rfl (fun _ _ h1 h2 => run_load1 ag_3 (h1.ev rfl) (rdb h2 (vs := [(.bool p0.Flip), (.int .i64 p0.Quarters), (.int .i64 p0.At.X), (.int .i64 p0.At.Y)]) (k := 1) rfl 1) rfl) ?_
    refine Tr.build (vs := [(0, (.bool p0.Flip)), (1, (.int .i64 p0.Quarters))]) (cs := [(.bool p0.Flip), (.int .i64 p0.Quarters), (.int .i64 0), (.int .i64 0)]) (wn rfl) rfl (evs_cons rfl (evs_cons rfl evs_nil)) (by kernel_rfl) ?_
    refine Tr.alloc 3 (wn rfl) rfl ze_51 fun b103 => ?_
    refine Tr.store 3 (cs := [(.bool p0.Flip), (.int .i64 p0.Quarters), (.int .i64 0), (.int .i64 0)]) [(.bool p0.Flip), (.int .i64 p0.Quarters), (.int .i64 0), (.int .i64 0)] (wn rfl) rfl rfl rfl rfl sz_51 rfl rfl rfl ?_
    refine Tr.nil (Tr.normThen ?_)
    have leJ105 := Bs.Le.refl w
    refine Tr.cutJ (σ := Int) (fun w s => F_shape_Back_J1 N p0 s = some r) (fun s => [(1, (.pointer (some ⟨b100, 0, none⟩))), (2, (.pointer (some ⟨b101, 0, none⟩))), (5, (.pointer (some ⟨b103, 0, none⟩)))]) (fun s => [(1, bx b100 #[(.bool p0.Flip), (.int .i64 p0.Quarters), (.int .i64 p0.At.X), (.int .i64 p0.At.Y)] 51), (2, bx b101 #[(.bool false), (.int .i64 0), (.int .i64 0), (.int .i64 0)] 51), (3, bx b103 #[(.bool p0.Flip), (.int .i64 s), (.int .i64 0), (.int .i64 0)] 51)]) ?_ ?_
    · refine Tr.seq ?_
      refine Tr.region ?_
      refine Tr.val (wn rfl) rfl (fun _ _ h1 h2 => run_fieldAddr fo_51_0 (h1.ev rfl)) ?_
      refine Tr.val (wn rfl) rfl (fun _ _ h1 h2 => run_load1 ag_4 (h1.ev rfl) (rdb h2 (vs := [(.bool p0.Flip), (.int .i64 p0.Quarters), (.int .i64 p0.At.X), (.int .i64 p0.At.Y)]) (k := 1) rfl 0) rfl) ?_
      refine Tr.val (wn rfl) rfl (fun _ _ h1 h2 => run_not (h1.ev rfl)) ?_
      refine Tr.nil (Tr.normThen ?_)
      refine Tr.cond rfl H (fun H => ?_) (fun H => ?_)
      · refine Tr.region ?_
        refine Tr.val (wn rfl) rfl (fun _ _ h1 h2 => run_fieldAddr fo_51_1 (h1.ev rfl)) ?_
        refine Tr.val (wn rfl) rfl (fun _ _ h1 h2 => run_load1 ag_3 (h1.ev rfl) (rdb h2 (vs := [(.bool p0.Flip), (.int .i64 p0.Quarters), (.int .i64 p0.At.X), (.int .i64 p0.At.Y)]) (k := 1) rfl 1) rfl) ?_
        refine Tr.val (wn rfl) rfl (fun _ _ h1 h2 => run_sub (h1.ev rfl) (h1.ev rfl)) ?_
        refine Tr.val (wn rfl) rfl (fun _ _ h1 h2 => run_rem (h1.ev rfl) (h1.ev rfl) (by decide)) ?_
        refine Tr.val (wn rfl) rfl (fun _ _ h1 h2 => run_fieldAddr fo_51_1 (h1.ev rfl)) ?_
        refine Tr.store 3 (cs := [(.int .i64 (Int.tmod (w64 (4 - p0.Quarters)) 4))]) [(.bool p0.Flip), (.int .i64 (Int.tmod (w64 (4 - p0.Quarters)) 4)), (.int .i64 0), (.int .i64 0)] (wn rfl) rfl rfl rfl rfl sz_3 rfl rfl rfl ?_
        refine Tr.nil ?_
        exact Tr.backThen leJ105 (Int.tmod (w64 (4 - p0.Quarters)) 4) H (.cons rfl (.cons rfl (.cons rfl .nil))) (.cons rfl (.cons rfl (.cons rfl .nil)))
      · refine Tr.skip ?_
        exact Tr.backThen leJ105 p0.Quarters H (.cons rfl (.cons rfl (.cons rfl .nil))) (.cons rfl (.cons rfl (.cons rfl .nil)))
    · intro w x104 hlJ106 hs
      have H := hs
      replace H : F_shape_Back_J1 N p0 x104 = some r := H
      replace leB := leB.trans hlJ106
      unfold F_shape_Back_J1 at H
      show Tr _ _ (LF [(1, (.pointer (some ⟨b100, 0, none⟩))), (2, (.pointer (some ⟨b101, 0, none⟩))), (5, (.pointer (some ⟨b103, 0, none⟩)))]) (LE [(1, bx b100 #[(.bool p0.Flip), (.int .i64 p0.Quarters), (.int .i64 p0.At.X), (.int .i64 p0.At.Y)] 51), (2, bx b101 #[(.bool false), (.int .i64 0), (.int .i64 0), (.int .i64 0)] 51), (3, bx b103 #[(.bool p0.Flip), (.int .i64 x104), (.int .i64 0), (.int .i64 0)] 51)]) _
      refine Tr.seq ?_
      refine Tr.region ?_
      refine Tr.val (wn rfl) rfl (fun _ _ h1 h2 => run_fieldAddr fo_51_2 (h1.ev rfl)) ?_
      refine Tr.val (wn rfl) rfl (fun _ _ h1 h2 => run_loadN (cs := [(.int .i64 p0.At.X), (.int .i64 p0.At.Y)]) ag_32 sz_32 (h1.ev rfl) (CellsAt.take (rdb h2 (vs := [(.bool p0.Flip), (.int .i64 p0.Quarters), (.int .i64 p0.At.X), (.int .i64 p0.At.Y)]) (k := 1) rfl 2) 2) rfl) ?_
      refine Tr.val (wn rfl) rfl (fun _ _ h1 h2 => run_loadN (cs := [(.bool p0.Flip), (.int .i64 x104), (.int .i64 0), (.int .i64 0)]) ag_51 sz_51 (h1.ev rfl) (CellsAt.take (rdb h2 (vs := [(.bool p0.Flip), (.int .i64 x104), (.int .i64 0), (.int .i64 0)]) (k := 3) rfl 0) 4) rfl) ?_
      obtain ⟨y107, hy107, H⟩ := bnd H
      refine Tr.call0 (r := (.agg #[(.int .i64 y107.X), (.int .i64 y107.Y)])) (wn rfl) rfl Try.call59 (evl_cons rfl (evl_cons rfl evl_nil)) (fun W hW => F_shape_TurnPoint_ok N p0.At (TTurn.mk p0.Flip x104 (TPoint.mk 0 0)) y107 hy107 (HF.start _)) ?_
      refine Tr.alloc 4 (wn rfl) rfl ze_32 fun b108 => ?_
      refine Tr.store 4 (cs := [(.int .i64 y107.X), (.int .i64 y107.Y)]) [(.int .i64 y107.X), (.int .i64 y107.Y)] (wn rfl) rfl rfl rfl rfl sz_32 rfl rfl rfl ?_
      refine Tr.nil (Tr.normThen ?_)
      refine Tr.seq ?_
      refine Tr.region ?_
      refine Tr.val (wn rfl) rfl (fun _ _ h1 h2 => run_fieldAddr fo_32_0 (h1.ev rfl)) ?_
      refine Tr.val (wn rfl) rfl (fun _ _ h1 h2 => run_load1 ag_3 (h1.ev rfl) (rdb h2 (vs := [(.int .i64 y107.X), (.int .i64 y107.Y)]) (k := 4) rfl 0) rfl) ?_
      refine Tr.val (wn rfl) rfl (fun _ _ h1 h2 => run_neg (h1.ev rfl)) ?_
      refine Tr.val (wn rfl) rfl (fun _ _ h1 h2 => run_fieldAddr fo_32_1 (h1.ev rfl)) ?_
      refine Tr.val (wn rfl) rfl (fun _ _ h1 h2 => run_load1 ag_3 (h1.ev rfl) (rdb h2 (vs := [(.int .i64 y107.X), (.int .i64 y107.Y)]) (k := 4) rfl 1) rfl) ?_
      refine Tr.val (wn rfl) rfl (fun _ _ h1 h2 => run_neg (h1.ev rfl)) ?_
      refine Tr.build (vs := [(0, (.int .i64 (w64 (0 - y107.X)))), (1, (.int .i64 (w64 (0 - y107.Y))))]) (cs := [(.int .i64 (w64 (0 - y107.X))), (.int .i64 (w64 (0 - y107.Y)))]) (wn rfl) rfl (evs_cons rfl (evs_cons rfl evs_nil)) (by kernel_rfl) ?_
      refine Tr.val (wn rfl) rfl (fun _ _ h1 h2 => run_fieldAddr fo_51_2 (h1.ev rfl)) ?_
      refine Tr.store 3 (cs := [(.int .i64 (w64 (0 - y107.X))), (.int .i64 (w64 (0 - y107.Y)))]) [(.bool p0.Flip), (.int .i64 x104), (.int .i64 (w64 (0 - y107.X))), (.int .i64 (w64 (0 - y107.Y)))] (wn rfl) rfl rfl rfl rfl sz_32 rfl rfl rfl ?_
      refine Tr.nil (Tr.normThen ?_)
      refine Tr.seq ?_
      refine Tr.region ?_
      refine Tr.val (wn rfl) rfl (fun _ _ h1 h2 => run_loadN (cs := [(.bool p0.Flip), (.int .i64 x104), (.int .i64 (w64 (0 - y107.X))), (.int .i64 (w64 (0 - y107.Y)))]) ag_51 sz_51 (h1.ev rfl) (CellsAt.take (rdb h2 (vs := [(.bool p0.Flip), (.int .i64 x104), (.int .i64 (w64 (0 - y107.X))), (.int .i64 (w64 (0 - y107.Y)))]) (k := 3) rfl 0) 4) rfl) ?_
      refine Tr.store 2 (cs := [(.bool p0.Flip), (.int .i64 x104), (.int .i64 (w64 (0 - y107.X))), (.int .i64 (w64 (0 - y107.Y)))]) [(.bool p0.Flip), (.int .i64 x104), (.int .i64 (w64 (0 - y107.X))), (.int .i64 (w64 (0 - y107.Y)))] (wn rfl) rfl rfl rfl rfl sz_51 rfl rfl rfl ?_
      refine Tr.val (wn rfl) rfl (fun _ _ h1 h2 => run_assign (h1.ev rfl)) ?_
      refine Tr.nil (Tr.normThen ?_)
      refine Tr.ret ?_
      obtain rfl := Option.some.inj H
      exact Tr.out (m := [(.agg #[(.bool p0.Flip), (.int .i64 x104), (.int .i64 (w64 (0 - y107.X))), (.int .i64 (w64 (0 - y107.Y)))]), (.int .i64 0)]) [2] (res_cell rfl rfl ag_51 sz_51 (res_tmp rfl res_nil)) (fun W hW => ⟨rfl, hW.low leB⟩)

theorem F_shape_Set__Parts_1_ok (N : Nat) {w : Bs} (p0 : Int) (q0 : (List Int)) (Aq0_0 : Option Addr) (cq0_0 : Nat) (bq0 : Nat) (r : (Int × (List Int))) (H : F_shape_Set__Parts_1 N p0 q0 = some r) (hE : HF w w.W (LEn [bx bq0 #[(.slice Aq0_0 (q0).length cq0_0)] 97, ow Aq0_0 cq0_0 3 fl_i64 q0])) : Calls Try.prog 84 [(.int .i64 p0), (.pointer (some ⟨bq0, 0, none⟩))].toArray w.W fun e W' => ∃ u : (Option Addr × Nat), e = .returned (.int .i64 r.1) ∧ (SlF u.1 (r.2).length u.2) ∧ HF w W' (LEn [bx bq0 #[(.slice u.1 (r.2).length u.2)] 97, ow u.1 u.2 3 fl_i64 r.2]) := by
  unfold F_shape_Set__Parts_1 at H
  have hfhq0_0 := (hE.sl (k := 1) rfl).form
  have leB := Bs.Le.refl w
  refine Tr.enter (n := 25) Try.func84 rfl rfl rfl hE ?_
  refine Tr.seq ?_
  refine Tr.region ?_
  refine Tr.val (wn rfl) rfl (fun _ _ h1 h2 => run_assign (h1.ev rfl)) ?_
  refine Tr.nil (Tr.normThen ?_)
  refine Tr.seq ?_
  refine Tr.block ?_
  refine Tr.loop (σ := (List Int) × Int) (fun m w s => F_shape_Set__Parts_1_L1 m s.1 s.2 = some r ∧ (s.1).length = (q0).length) (fun s => [(0, (.int .i64 s.2)), (1, (.pointer (some ⟨bq0, 0, none⟩)))]) (fun s => [(0, bx bq0 #[(.slice Aq0_0 (s.1).length cq0_0)] 97), (1, ow Aq0_0 cq0_0 3 fl_i64 s.1)]) N (q0, p0) ⟨H, rfl⟩ (.cons rfl (.cons rfl .nil)) (.cons rfl (.cons rfl .nil)) (fun _ _ h => noSome (h.1)) ?_
  intro w leF_shape_Set__Parts_1_L1 mF_shape_Set__Parts_1_L1 s hs
  obtain ⟨l118, x119⟩ := s
  obtain ⟨H, hl118⟩ := hs
  replace H : F_shape_Set__Parts_1_L1 (mF_shape_Set__Parts_1_L1 + 1) l118 x119 = some r := H
  replace leB := leB.trans leF_shape_Set__Parts_1_L1
  replace hl118 : (l118).length = (q0).length := hl118
  have hfl118 : SlF Aq0_0 (l118).length cq0_0 := (by rw [hl118]; exact hfhq0_0)
  rw [F_shape_Set__Parts_1_L1.eq_2] at H
  show Tr _ _ (LF [(0, (.int .i64 x119)), (1, (.pointer (some ⟨bq0, 0, none⟩)))]) (LE [(0, bx bq0 #[(.slice Aq0_0 (l118).length cq0_0)] 97), (1, ow Aq0_0 cq0_0 3 fl_i64 l118)]) _
  refine Tr.seq ?_
  refine Tr.seq ?_
  refine Tr.region ?_
  refine Tr.val (wn rfl) rfl (fun _ _ h1 h2 => run_load1 ag_97 (h1.ev rfl) (rdb h2 (vs := [(.slice Aq0_0 (l118).length cq0_0)]) (k := 0) rfl 0) rfl) ?_
  refine Tr.val (wn rfl) rfl (fun _ _ h1 h2 => run_move (h1.ev rfl)) ?_
  obtain ⟨x120, hx120, H⟩ := bnd H
  obtain ⟨hx1200, hx1201, hx1202⟩ := idx_some hx120
  refine Tr.val (wn rfl) rfl (fun _ _ h1 h2 => run_indexAddr el_97 (h1.ev rfl) hfl118 (h1.ev rfl) hx1200 hx1201) ?_
  refine Tr.val (wn rfl) rfl (fun _ _ h1 h2 => run_load1 ag_3 (h1.ev rfl) (rdo ef_i64 (k := 1) h2 rfl hx1202) rfl) ?_
  refine Tr.val (wn rfl) rfl (fun _ _ h1 h2 => run_move (h1.ev rfl)) ?_
  refine Tr.val (wn rfl) rfl (fun _ _ h1 h2 => run_neq (h1.ev rfl) (h1.ev rfl)) ?_
  refine Tr.nil (Tr.normThen ?_)
  refine Tr.cond rfl H (fun H => ?_) (fun H => ?_)
  · refine Tr.skip (Tr.normThen ?_)
    refine Tr.block ?_
    refine Tr.seq ?_
    refine Tr.drawTail 9 (by kernel_rfl) (by kernel_rfl) ?_
    refine Tq.val (wn rfl) rfl (fun _ _ h1 h2 => run_load1 ag_97 (h1.ev rfl) (rdb h2 (vs := [(.slice Aq0_0 (l118).length cq0_0)]) (k := 0) rfl 0) rfl) ?_
    refine Tq.val (wn rfl) rfl (fun _ _ h1 h2 => run_move (h1.ev rfl)) ?_
    refine Tq.val (wn rfl) rfl (fun _ _ h1 h2 => run_load1 ag_97 (h1.ev rfl) (rdb h2 (vs := [(.slice Aq0_0 (l118).length cq0_0)]) (k := 0) rfl 0) rfl) ?_
    refine Tq.val (wn rfl) rfl (fun _ _ h1 h2 => run_load1 ag_97 (h1.ev rfl) (rdb h2 (vs := [(.slice Aq0_0 (l118).length cq0_0)]) (k := 0) rfl 0) rfl) ?_
    refine Tq.val (wn rfl) rfl (fun _ _ h1 h2 => run_move (h1.ev rfl)) ?_
    obtain ⟨x121, hx121, H⟩ := bnd H
    obtain ⟨hx1210, hx1211, hx1212⟩ := idx_some hx121
    refine Tq.val (wn rfl) rfl (fun _ _ h1 h2 => run_indexAddr el_97 (h1.ev rfl) hfl118 (h1.ev rfl) hx1210 hx1211) ?_
    refine Tq.val (wn rfl) rfl (fun _ _ h1 h2 => run_load1 ag_3 (h1.ev rfl) (rdo ef_i64 (k := 1) h2 rfl hx1212) rfl) ?_
    obtain ⟨x122, hx122, H⟩ := bnd H
    obtain ⟨hx1220, hx1221, hx1222⟩ := idx_some hx122
    refine Tq.val (wn rfl) rfl (fun _ _ h1 h2 => run_indexAddr el_97 (h1.ev rfl) hfl118 (h1.ev rfl) hx1220 hx1221) ?_
    refine Tq.val (wn rfl) rfl (fun _ _ h1 h2 => run_load1 ag_3 (h1.ev rfl) (rdo ef_i64 (k := 1) h2 rfl hx1222) rfl) ?_
    refine Tq.nil ?_
    obtain ⟨x123, hx123, H⟩ := bnd H
    obtain ⟨hx1230, hx1231, hx1232⟩ := idx_some hx123
    refine Tr.val (wn rfl) rfl (fun _ _ h1 h2 => run_indexAddr el_97 (h1.ev rfl) hfl118 (h1.ev rfl) hx1230 hx1231) ?_
    obtain ⟨l124, hl124, H⟩ := bnd H
    have hnl124 := sets_len hl124
    refine Tr.storeEl 1 (t := fl_i64) (l := l118) (i := x119) (fo := 0) (cs := [(.int .i64 x122)]) x122 (wn rfl) rfl rfl rfl rfl rfl hx1232 sz_3 rfl (fun u _ => ⟨u, trivial, rfl⟩) rfl hl124 ?_
    have hfl124 : SlF Aq0_0 (l124).length cq0_0 := by rw [hnl124]; exact hfl118
    have hsl124 := hnl124.trans hl118
    refine Tr.sel (lf := [(0, (.int .i64 x119)), (1, (.pointer (some ⟨bq0, 0, none⟩))), (4, (.slice Aq0_0 (l124).length cq0_0)), (5, (.int .i64 x119)), (7, (.int .i64 x120)), (8, (.int .i64 x119)), (9, (.bool (x120 != x119))), (10, (.slice Aq0_0 (l124).length cq0_0)), (11, (.int .i64 x119)), (12, (.slice Aq0_0 (l124).length cq0_0)), (13, (.slice Aq0_0 (l124).length cq0_0)), (14, (.int .i64 x119)), (16, (.int .i64 x121)), (18, (.int .i64 x122))]) (le := [(0, bx bq0 #[(.slice Aq0_0 (l124).length cq0_0)] 97), (1, ow Aq0_0 cq0_0 3 fl_i64 l124)]) (.cons rfl (.cons rfl (.cons (slenV rfl (by rw [hnl124])) (.cons rfl (.cons rfl (.cons rfl (.cons rfl (.cons (slenV rfl (by rw [hnl124])) (.cons rfl (.cons (slenV rfl (by rw [hnl124])) (.cons (slenV rfl (by rw [hnl124])) (.cons rfl (.cons rfl (.cons rfl .nil)))))))))))))) (.cons (ebx rfl (by rw [hnl124])) (.cons rfl .nil)) ?_
    refine Tr.nil (Tr.normThen ?_)
    refine Tr.region ?_
    refine Tr.val (wn rfl) rfl (fun _ _ h1 h2 => run_load1 ag_97 (h1.ev rfl) (rdb h2 (vs := [(.slice Aq0_0 (l124).length cq0_0)]) (k := 0) rfl 0) rfl) ?_
    refine Tr.val (wn rfl) rfl (fun _ _ h1 h2 => run_move (h1.ev rfl)) ?_
    obtain ⟨x125, hx125, H⟩ := bnd H
    obtain ⟨hx1250, hx1251, hx1252⟩ := idx_some hx125
    refine Tr.val (wn rfl) rfl (fun _ _ h1 h2 => run_indexAddr el_97 (h1.ev rfl) hfl124 (h1.ev rfl) hx1250 hx1251) ?_
    refine Tr.val (wn rfl) rfl (fun _ _ h1 h2 => run_load1 ag_3 (h1.ev rfl) (rdo ef_i64 (k := 1) h2 rfl hx1252) rfl) ?_
    refine Tr.val (wn rfl) rfl (fun _ _ h1 h2 => run_assign (h1.ev rfl)) ?_
    refine Tr.nil (Tr.normBlock ?_)
    exact Tr.backThen leF_shape_Set__Parts_1_L1 (l124, x125) ⟨H, hsl124⟩ (.cons rfl (.cons rfl .nil)) (.cons rfl (.cons rfl .nil))
  · refine Tr.exit (Tr.exitThen (Tr.exitThen (Tr.exitBlock (Tr.normThen ?_))))
    refine Tr.seq ?_
    refine Tr.region ?_
    refine Tr.val (wn rfl) rfl (fun _ _ h1 h2 => run_move (h1.ev rfl)) ?_
    refine Tr.val (wn rfl) rfl (fun _ _ h1 h2 => run_assign (h1.ev rfl)) ?_
    refine Tr.nil (Tr.normThen ?_)
    refine Tr.ret ?_
    obtain rfl := Option.some.inj H
    exact Tr.out (m := [(.int .i64 x119)]) [] (res_tmp rfl res_nil) (fun W hW => ⟨(Aq0_0, cq0_0), rfl, hfl118, HF.lowE leB (hW.pick (ks := [0, 1]) (by decide) (pk_cons rfl (pk_cons rfl pk_nil))) ⟨bx_any _ _ _, ow_any _ _ _ _ tr_i64, trivial⟩⟩)

theorem F_shape_Set__Parts_ok (N : Nat) {w : Bs} (p0 : (List TBand)) (Ap0_0 : Option Addr) (cp0_0 : Nat) (hp0_0 : Sl w.R w.W fl_TBand Ap0_0 cp0_0 p0) (r : (List (List TBand))) (H : F_shape_Set__Parts N p0 = some r) (hE : HF w w.W (LEn [emp])) : Calls Try.prog 47 [(.slice Ap0_0 (p0).length cp0_0)].toArray w.W fun e W' => ∃ (w' : Bs) (u : (Option Addr × Nat)), w.Le w' ∧ e = .returned (.slice u.1 (r).length u.2) ∧ (SlF u.1 (r).length u.2) ∧ HF w' W' (LEn [ow u.1 u.2 65 fl_LTBand r]) := by
  unfold F_shape_Set__Parts at H
  have leB := Bs.Le.refl w
  refine Tr.enter (n := 187) Try.func47 rfl rfl rfl hE ?_
  refine Tr.seq ?_
  refine Tr.region ?_
  refine Tr.val (wn rfl) rfl (fun _ _ h1 h2 => run_assign (h1.ev rfl)) ?_
  refine Tr.nilOwn 1 65 fl_LTBand ?_
  show Tr _ _ (uf _ 2 (.slice none (([] : List (List TBand))).length 0)) _ _
  refine Tr.nil (Tr.normThen ?_)
  refine Tr.seq ?_
  refine Tr.region ?_
  refine Tr.val (wn rfl) rfl (fun _ _ h1 h2 => run_move (h1.ev rfl)) ?_
  obtain ⟨y100, hy100, H⟩ := bnd H
  refine Tr.callM [2] [emp] (U := (Option Addr × Nat)) (fun u => (.slice u.1 (y100).length u.2)) (fun u => SlF u.1 (y100).length u.2) (fun u => [ow u.1 u.2 29 fl_TRect y100]) rfl (pk_cons rfl pk_nil) (fun _ => rfl) (wn rfl) rfl Try.call41 (evl_cons rfl evl_nil) (fun W hW hp hE => F_shape_Set__Rects_ok N p0 Ap0_0 cp0_0 (hp0_0.ext (hW.extS hp)) y100 hy100 hE) ?_
  intro u hu
  obtain ⟨Ay100_0, cy100_0⟩ := u
  have gy100_0 := hu
  have hgy100_0 : SlF Ay100_0 (y100).length cy100_0 := gy100_0 --@phi
  show Tr _ _ (uf _ 27 (.slice Ay100_0 (y100).length cy100_0)) (up _ 2 (ow Ay100_0 cy100_0 29 fl_TRect y100)) _
  refine Tr.val (wn rfl) rfl (fun _ _ h1 h2 => run_assign (h1.ev rfl)) ?_
  refine Tr.nil (Tr.normThen ?_)
  refine Tr.seq ?_
  refine Tr.region ?_
  refine Tr.val (wn rfl) rfl (fun _ _ h1 h2 => run_move (h1.ev rfl)) ?_
  refine Tr.val (wn rfl) rfl (fun _ _ h1 h2 => run_len un_22 (h1.ev rfl)) ?_
  obtain ⟨l102, hl102, H⟩ := bnd H
  refine Tr.makeSlice 3 fl_i64 0 (wn rfl) rfl rfl rfl un_97 sz_3 rfl ze_3 by_3 rfl ⟨(), fun _ _ => tr_i64 _ _ _ _, rfl⟩ hl102 fun b103 hfl102 => ?_
  refine Tr.alloc 4 (wn rfl) rfl ze_97 fun b104 => ?_
  refine Tr.store 4 (cs := [(.slice (some ⟨b103, 0, none⟩) (l102).length (l102).length)]) [(.slice (some ⟨b103, 0, none⟩) (l102).length (l102).length)] (wn rfl) rfl rfl rfl rfl sz_97 rfl rfl rfl ?_
  refine Tr.nil (Tr.normThen ?_)
  refine Tr.seq ?_
  refine Tr.seq ?_
  refine Tr.region ?_
  refine Tr.val (wn rfl) rfl (fun _ _ h1 h2 => run_load1 ag_97 (h1.ev rfl) (rdb h2 (vs := [(.slice (some ⟨b103, 0, none⟩) (l102).length (l102).length)]) (k := 4) rfl 0) rfl) ?_
  refine Tr.val (wn rfl) rfl (fun _ _ h1 h2 => run_len un_97 (h1.ev rfl)) ?_
  refine Tr.val (wn rfl) rfl (fun _ _ h1 h2 => run_move (h1.ev rfl)) ?_
  refine Tr.nil (Tr.normThen ?_)
  refine Tr.block ?_
  refine Tr.loop (σ := (List Int) × Int × (Option Addr) × Nat) (fun m w s => F_shape_Set__Parts_L1 N p0 y100 l102 m s.1 s.2.1 = some r ∧ SlF s.2.2.1 (s.1).length s.2.2.2) (fun s => [(0, (.slice Ap0_0 (p0).length cp0_0)), (3, (.slice Ay100_0 (y100).length cy100_0)), (4, (.pointer (some ⟨b104, 0, none⟩))), (32, (.int .i64 (l102.length : Int))), (33, (.int .i64 s.2.1))]) (fun s => [(2, ow Ay100_0 cy100_0 29 fl_TRect y100), (3, ow s.2.2.1 s.2.2.2 3 fl_i64 s.1), (4, bx b104 #[(.slice s.2.2.1 (s.1).length s.2.2.2)] 97)]) N (l102, 0, (some ⟨b103, 0, none⟩), (l102).length) ⟨H, hfl102⟩ (.cons rfl (.cons rfl (.cons rfl (.cons rfl (.cons rfl .nil))))) (.cons rfl (.cons rfl (.cons rfl .nil))) (fun _ _ h => noSome (h.1)) ?_
  intro w leF_shape_Set__Parts_L1 mF_shape_Set__Parts_L1 s hs
  obtain ⟨l115, x116, Al115, cl115⟩ := s
  obtain ⟨H, hl115⟩ := hs
  replace H : F_shape_Set__Parts_L1 N p0 y100 l102 (mF_shape_Set__Parts_L1 + 1) l115 x116 = some r := H
  replace hp0_0 := hp0_0.leR leF_shape_Set__Parts_L1
  replace leB := leB.trans leF_shape_Set__Parts_L1
  replace hl115 : SlF Al115 (l115).length cl115 := hl115
  rw [F_shape_Set__Parts_L1.eq_2] at H
  show Tr _ _ (LF [(0, (.slice Ap0_0 (p0).length cp0_0)), (3, (.slice Ay100_0 (y100).length cy100_0)), (4, (.pointer (some ⟨b104, 0, none⟩))), (32, (.int .i64 (l102.length : Int))), (33, (.int .i64 x116))]) (LE [(2, ow Ay100_0 cy100_0 29 fl_TRect y100), (3, ow Al115 cl115 3 fl_i64 l115), (4, bx b104 #[(.slice Al115 (l115).length cl115)] 97)]) _
  refine Tr.seq ?_
  refine Tr.region ?_
  refine Tr.val (wn rfl) rfl (fun _ _ h1 h2 => run_lss (h1.ev rfl) (h1.ev rfl)) ?_
  refine Tr.nil (Tr.normThen ?_)
  refine Tr.seq ?_
  refine Tr.cond rfl H (fun H => ?_) (fun H => ?_)
  · refine Tr.skip (Tr.normThen ?_)
    refine Tr.seq ?_
    refine Tr.block ?_
    refine Tr.seq ?_
    refine Tr.region ?_
    refine Tr.val (wn rfl) rfl (fun _ _ h1 h2 => run_move (h1.ev rfl)) ?_
    refine Tr.val (wn rfl) rfl (fun _ _ h1 h2 => run_assign (h1.ev rfl)) ?_
    refine Tr.nil (Tr.normThen ?_)
    refine Tr.region ?_
    refine Tr.val (wn rfl) rfl (fun _ _ h1 h2 => run_load1 ag_97 (h1.ev rfl) (rdb h2 (vs := [(.slice Al115 (l115).length cl115)]) (k := 4) rfl 0) rfl) ?_
    refine Tr.val (wn rfl) rfl (fun _ _ h1 h2 => run_move (h1.ev rfl)) ?_
    refine Tr.val (wn rfl) rfl (fun _ _ h1 h2 => run_move (h1.ev rfl)) ?_
    obtain ⟨x117, hx117, H⟩ := bnd H
    obtain ⟨hx1170, hx1171, hx1172⟩ := idx_some hx117
    refine Tr.val (wn rfl) rfl (fun _ _ h1 h2 => run_indexAddr el_97 (h1.ev rfl) hl115 (h1.ev rfl) hx1170 hx1171) ?_
    obtain ⟨l118, hl118, H⟩ := bnd H
    have hnl118 := sets_len hl118
    refine Tr.storeEl 3 (t := fl_i64) (l := l115) (i := x116) (fo := 0) (cs := [(.int .i64 x116)]) x116 (wn rfl) rfl rfl rfl rfl rfl hx1172 sz_3 rfl (fun u _ => ⟨u, trivial, rfl⟩) rfl hl118 ?_
    have hfl118 : SlF Al115 (l118).length cl115 := by rw [hnl118]; exact hl115
    refine Tr.sel (lf := [(0, (.slice Ap0_0 (p0).length cp0_0)), (3, (.slice Ay100_0 (y100).length cy100_0)), (4, (.pointer (some ⟨b104, 0, none⟩))), (5, (.int .i64 x116)), (32, (.int .i64 (l102.length : Int))), (33, (.int .i64 x116)), (34, (.bool (decide (x116 < (l102.length : Int))))), (35, (.int .i64 x116)), (36, (.slice Al115 (l118).length cl115)), (37, (.int .i64 x116)), (38, (.int .i64 x116))]) (le := [(2, ow Ay100_0 cy100_0 29 fl_TRect y100), (3, ow Al115 cl115 3 fl_i64 l118), (4, bx b104 #[(.slice Al115 (l118).length cl115)] 97)]) (.cons rfl (.cons rfl (.cons rfl (.cons rfl (.cons rfl (.cons rfl (.cons rfl (.cons rfl (.cons (slenV rfl (by rw [hnl118])) (.cons rfl (.cons rfl .nil))))))))))) (.cons rfl (.cons rfl (.cons (ebx rfl (by rw [hnl118])) .nil))) ?_
    refine Tr.nil (Tr.normBlock (Tr.normThen ?_))
    refine Tr.region ?_
    refine Tr.val (wn rfl) rfl (fun _ _ h1 h2 => run_add (h1.ev rfl) (h1.ev rfl)) ?_
    refine Tr.val (wn rfl) rfl (fun _ _ h1 h2 => run_move (h1.ev rfl)) ?_
    refine Tr.nil ?_
    exact Tr.backThen leF_shape_Set__Parts_L1 (l118, (w64 (x116 + 1)), Al115, cl115) ⟨H, hfl118⟩ (.cons rfl (.cons rfl (.cons rfl (.cons rfl (.cons rfl .nil))))) (.cons rfl (.cons rfl (.cons rfl .nil)))
  · refine Tr.exit (Tr.exitThen (Tr.exitThen (Tr.exitBlock (Tr.normThen ?_))))
    refine Tr.seq ?_
    refine Tr.region ?_
    refine Tr.mkFunc (vs := [(.pointer (some ⟨b104, 0, none⟩))]) (wn rfl) rfl (evl_cons rfl evl_nil) ?_
    refine Tr.val (wn rfl) rfl (fun _ _ h1 h2 => run_assign (h1.ev rfl)) ?_
    refine Tr.nil (Tr.normThen ?_)
    refine Tr.seq ?_
    refine Tr.region ?_
    refine Tr.val (wn rfl) rfl (fun _ _ h1 h2 => run_assign (h1.ev rfl)) ?_
    refine Tr.val (wn rfl) rfl (fun _ _ h1 h2 => run_assign (h1.ev rfl)) ?_
    refine Tr.nil (Tr.normThen ?_)
    refine Tr.seq ?_
    refine Tr.seq ?_
    refine Tr.region ?_
    refine Tr.val (wn rfl) rfl (fun _ _ h1 h2 => run_move (h1.ev rfl)) ?_
    refine Tr.val (wn rfl) rfl (fun _ _ h1 h2 => run_len un_65 (h1.ev rfl)) ?_
    refine Tr.val (wn rfl) rfl (fun _ _ h1 h2 => run_move (h1.ev rfl)) ?_
    refine Tr.nil (Tr.normThen ?_)
    refine Tr.block ?_
    refine Tr.loop (σ := (List TBand) × Nat × (List Int) × Int × Int × (Option Addr) × Nat) (fun m w s => m = s.1.length + 1 ∧ s.1 = List.drop s.2.1 p0 ∧ s.2.1 ≤ p0.length ∧ F_shape_Set__Parts_L20 N p0 y100 s.1 s.2.1 s.2.2.1 s.2.2.2.1 s.2.2.2.2.1 = some r ∧ SlF s.2.2.2.2.2.1 (s.2.2.1).length s.2.2.2.2.2.2) (fun s => [(0, (.slice Ap0_0 (p0).length cp0_0)), (3, (.slice Ay100_0 (y100).length cy100_0)), (4, (.pointer (some ⟨b104, 0, none⟩))), (6, (.func (.func 84) #[] #[(.pointer (some ⟨b104, 0, none⟩))])), (7, (.int .i64 s.2.2.2.1)), (8, (.int .i64 s.2.2.2.2.1)), (42, (.slice Ap0_0 (p0).length cp0_0)), (43, (.int .i64 (p0.length : Int))), (44, (.int .i64 (s.2.1 : Int)))]) (fun s => [(2, ow Ay100_0 cy100_0 29 fl_TRect y100), (3, ow s.2.2.2.2.2.1 s.2.2.2.2.2.2 3 fl_i64 s.2.2.1), (4, bx b104 #[(.slice s.2.2.2.2.2.1 (s.2.2.1).length s.2.2.2.2.2.2)] 97)]) (p0.length + 1) (p0, 0, l115, 0, 0, Al115, cl115) ⟨rfl, rfl, Nat.zero_le _, H, hl115⟩ (.cons rfl (.cons rfl (.cons rfl (.cons rfl (.cons rfl (.cons rfl (.cons rfl (.cons rfl (.cons rfl .nil))))))))) (.cons rfl (.cons rfl (.cons rfl .nil))) (fun _ _ h => absurd h.1 (by simp)) ?_
    intro w leF_shape_Set__Parts_L20 m s hs
    obtain ⟨restF_shape_Set__Parts_L20, iF_shape_Set__Parts_L20, l581, x582, x583, Al581, cl581⟩ := s
    obtain ⟨hmF_shape_Set__Parts_L20, hdF_shape_Set__Parts_L20, hiF_shape_Set__Parts_L20, H, hl581⟩ := hs
    replace hdF_shape_Set__Parts_L20 : restF_shape_Set__Parts_L20 = List.drop iF_shape_Set__Parts_L20 p0 := hdF_shape_Set__Parts_L20
    replace H : F_shape_Set__Parts_L20 N p0 y100 restF_shape_Set__Parts_L20 iF_shape_Set__Parts_L20 l581 x582 x583 = some r := H
    replace hmF_shape_Set__Parts_L20 : m + 1 = restF_shape_Set__Parts_L20.length + 1 := hmF_shape_Set__Parts_L20
    replace hp0_0 := hp0_0.leR leF_shape_Set__Parts_L20
    replace leB := leB.trans leF_shape_Set__Parts_L20
    replace leF_shape_Set__Parts_L1 := leF_shape_Set__Parts_L1.trans leF_shape_Set__Parts_L20
    replace hl581 : SlF Al581 (l581).length cl581 := hl581
    obtain rfl : m = restF_shape_Set__Parts_L20.length := by omega
    clear hmF_shape_Set__Parts_L20
    show Tr _ _ (LF [(0, (.slice Ap0_0 (p0).length cp0_0)), (3, (.slice Ay100_0 (y100).length cy100_0)), (4, (.pointer (some ⟨b104, 0, none⟩))), (6, (.func (.func 84) #[] #[(.pointer (some ⟨b104, 0, none⟩))])), (7, (.int .i64 x582)), (8, (.int .i64 x583)), (42, (.slice Ap0_0 (p0).length cp0_0)), (43, (.int .i64 (p0.length : Int))), (44, (.int .i64 (iF_shape_Set__Parts_L20 : Int)))]) (LE [(2, ow Ay100_0 cy100_0 29 fl_TRect y100), (3, ow Al581 cl581 3 fl_i64 l581), (4, bx b104 #[(.slice Al581 (l581).length cl581)] 97)]) _
    cases restF_shape_Set__Parts_L20 with
    | nil =>
      rw [F_shape_Set__Parts_L20.eq_1] at H
      refine Tr.seq ?_
      refine Tr.region ?_
      refine Tr.val (wn rfl) rfl (fun _ _ h1 h2 => run_lss (h1.ev rfl) (h1.ev rfl)) ?_
      refine Tr.nil (Tr.normThen ?_)
      refine Tr.seq ?_
      refine Tr.condF rfl (range_nil hdF_shape_Set__Parts_L20) ?_
      refine Tr.exit (Tr.exitThen (Tr.exitThen (Tr.exitBlock (Tr.normThen ?_))))
      refine Tr.seq ?_
      refine Tr.region ?_
      refine Tr.makeMapI 7 (wn rfl) rfl fun b584 => ?_
      refine Tr.val (wn rfl) rfl (fun _ _ h1 h2 => run_assign (h1.ev rfl)) ?_
      refine Tr.nil (Tr.normThen ?_)
      refine Tr.seq ?_
      refine Tr.region ?_
      refine Tr.val (wn rfl) rfl (fun _ _ h1 h2 => run_assign (h1.ev rfl)) ?_
      refine Tr.nestNil 8 22 29 fl_TRect ?_
      show Tr _ _ (uf _ 17 (.slice none (([] : List (List TRect))).length 0)) (up _ 8 (no none ([] : List (List TRect)).length 0 22 29 fl_TRect [])) _
      refine Tr.nil (Tr.normThen ?_)
      refine Tr.seq ?_
      refine Tr.seq ?_
      refine Tr.region ?_
      refine Tr.val (wn rfl) rfl (fun _ _ h1 h2 => run_move (h1.ev rfl)) ?_
      refine Tr.val (wn rfl) rfl (fun _ _ h1 h2 => run_len un_22 (h1.ev rfl)) ?_
      refine Tr.val (wn rfl) rfl (fun _ _ h1 h2 => run_move (h1.ev rfl)) ?_
      refine Tr.nil (Tr.normThen ?_)
      refine Tr.block ?_
      refine Tr.loop (σ := (List TRect) × Nat × (List Int) × (List (Int × Int)) × (List (List TRect)) × (Option Addr) × Nat × (Option Addr) × Nat × (List (NE TRect))) (fun m w s => m = s.1.length + 1 ∧ s.1 = List.drop s.2.1 y100 ∧ s.2.1 ≤ y100.length ∧ F_shape_Set__Parts_L23 N s.1 s.2.1 s.2.2.1 s.2.2.2.1 s.2.2.2.2.1 = some r ∧ SlF s.2.2.2.2.2.1 (s.2.2.1).length s.2.2.2.2.2.2.1 ∧ (NC s.2.2.2.2.2.2.2.2.2 s.2.2.2.2.1 ∧ SlF s.2.2.2.2.2.2.2.1 (s.2.2.2.2.1).length s.2.2.2.2.2.2.2.2.1)) (fun s => [(6, (.func (.func 84) #[] #[(.pointer (some ⟨b104, 0, none⟩))])), (16, (.map (some b584))), (17, (.slice s.2.2.2.2.2.2.2.1 (s.2.2.2.2.1).length s.2.2.2.2.2.2.2.2.1)), (137, (.slice Ay100_0 (y100).length cy100_0)), (138, (.int .i64 (y100.length : Int))), (139, (.int .i64 (s.2.1 : Int)))]) (fun s => [(2, ow Ay100_0 cy100_0 29 fl_TRect y100), (3, ow s.2.2.2.2.2.1 s.2.2.2.2.2.2.1 3 fl_i64 s.2.2.1), (4, bx b104 #[(.slice s.2.2.2.2.2.1 (s.2.2.1).length s.2.2.2.2.2.2.1)] 97), (7, mi b584 s.2.2.2.1), (8, no s.2.2.2.2.2.2.2.1 (s.2.2.2.2.1).length s.2.2.2.2.2.2.2.2.1 22 29 fl_TRect s.2.2.2.2.2.2.2.2.2)]) (y100.length + 1) (y100, 0, l581, ([] : List (Int × Int)), ([] : List (List TRect)), Al581, cl581, none, 0, ([] : List (NE TRect))) ⟨rfl, rfl, Nat.zero_le _, H, hl581, ⟨NC.nil, slf_nil⟩⟩ (.cons rfl (.cons rfl (.cons rfl (.cons rfl (.cons rfl (.cons rfl .nil)))))) (.cons rfl (.cons rfl (.cons rfl (.cons rfl (.cons rfl .nil))))) (fun _ _ h => absurd h.1 (by simp)) ?_
      intro w leF_shape_Set__Parts_L23 m s hs
      obtain ⟨restF_shape_Set__Parts_L23, iF_shape_Set__Parts_L23, l647, m648, m649, Al647, cl647, Am649, cm649, msm649⟩ := s
      obtain ⟨hmF_shape_Set__Parts_L23, hdF_shape_Set__Parts_L23, hiF_shape_Set__Parts_L23, H, hl647, hm649⟩ := hs
      replace hdF_shape_Set__Parts_L23 : restF_shape_Set__Parts_L23 = List.drop iF_shape_Set__Parts_L23 y100 := hdF_shape_Set__Parts_L23
      replace H : F_shape_Set__Parts_L23 N restF_shape_Set__Parts_L23 iF_shape_Set__Parts_L23 l647 m648 m649 = some r := H
      replace hmF_shape_Set__Parts_L23 : m + 1 = restF_shape_Set__Parts_L23.length + 1 := hmF_shape_Set__Parts_L23
      replace leB := leB.trans leF_shape_Set__Parts_L23
      replace leF_shape_Set__Parts_L1 := leF_shape_Set__Parts_L1.trans leF_shape_Set__Parts_L23
      replace leF_shape_Set__Parts_L20 := leF_shape_Set__Parts_L20.trans leF_shape_Set__Parts_L23
      replace hl647 : SlF Al647 (l647).length cl647 := hl647
      replace hm649 : NC msm649 m649 ∧ SlF Am649 (m649).length cm649 := hm649
      obtain rfl : m = restF_shape_Set__Parts_L23.length := by omega
      clear hmF_shape_Set__Parts_L23
      show Tr _ _ (LF [(6, (.func (.func 84) #[] #[(.pointer (some ⟨b104, 0, none⟩))])), (16, (.map (some b584))), (17, (.slice Am649 (m649).length cm649)), (137, (.slice Ay100_0 (y100).length cy100_0)), (138, (.int .i64 (y100.length : Int))), (139, (.int .i64 (iF_shape_Set__Parts_L23 : Int)))]) (LE [(2, ow Ay100_0 cy100_0 29 fl_TRect y100), (3, ow Al647 cl647 3 fl_i64 l647), (4, bx b104 #[(.slice Al647 (l647).length cl647)] 97), (7, mi b584 m648), (8, no Am649 (m649).length cm649 22 29 fl_TRect msm649)]) _
      cases restF_shape_Set__Parts_L23 with
      | nil =>
        rw [F_shape_Set__Parts_L23.eq_1] at H
        refine Tr.seq ?_
        refine Tr.region ?_
        refine Tr.val (wn rfl) rfl (fun _ _ h1 h2 => run_lss (h1.ev rfl) (h1.ev rfl)) ?_
        refine Tr.nil (Tr.normThen ?_)
        refine Tr.seq ?_
        refine Tr.condF rfl (range_nil hdF_shape_Set__Parts_L23) ?_
        refine Tr.exit (Tr.exitThen (Tr.exitThen (Tr.exitBlock (Tr.normThen ?_))))
        refine Tr.seq ?_
        refine Tr.region ?_
        refine Tr.val (wn rfl) rfl (fun _ _ h1 h2 => run_assign (h1.ev rfl)) ?_
        refine Tr.nilOwn 25 65 fl_LTBand ?_
        show Tr _ _ (uf _ 23 (.slice none (([] : List (List TBand))).length 0)) _ _
        refine Tr.nil (Tr.normThen ?_)
        refine Tr.seq ?_
        refine Tr.seq ?_
        refine Tr.nestFreeze 8 fl_LTRect rfl hm649.1 rfl (fun A c l => ⟨(A, c), rfl, fun _ _ h => h⟩) fun w le651 hz650 => ?_
        replace leB := leB.trans le651
        replace leF_shape_Set__Parts_L1 := leF_shape_Set__Parts_L1.trans le651
        replace leF_shape_Set__Parts_L20 := leF_shape_Set__Parts_L20.trans le651
        replace leF_shape_Set__Parts_L23 := leF_shape_Set__Parts_L23.trans le651
        refine Tr.region ?_
        refine Tr.val (wn rfl) rfl (fun _ _ h1 h2 => run_move (h1.ev rfl)) ?_
        refine Tr.val (wn rfl) rfl (fun _ _ h1 h2 => run_len un_40 (h1.ev rfl)) ?_
        refine Tr.val (wn rfl) rfl (fun _ _ h1 h2 => run_move (h1.ev rfl)) ?_
        refine Tr.nil (Tr.normThen ?_)
        refine Tr.block ?_
        refine Tr.loop (σ := (List (List TRect)) × Nat × (List (List TBand)) × (Option Addr) × Nat) (fun m w s => m = s.1.length + 1 ∧ s.1 = List.drop s.2.1 m649 ∧ s.2.1 ≤ m649.length ∧ F_shape_Set__Parts_L24 N s.1 s.2.1 s.2.2.1 = some r ∧ SlF s.2.2.2.1 (s.2.2.1).length s.2.2.2.2) (fun s => [(23, (.slice s.2.2.2.1 (s.2.2.1).length s.2.2.2.2)), (174, (.slice Am649 (m649).length cm649)), (175, (.int .i64 (m649.length : Int))), (176, (.int .i64 (s.2.1 : Int)))]) (fun s => [(25, ow s.2.2.2.1 s.2.2.2.2 65 fl_LTBand s.2.2.1)]) (m649.length + 1) (m649, 0, ([] : List (List TBand)), none, 0) ⟨rfl, rfl, Nat.zero_le _, H, slf_nil⟩ (.cons rfl (.cons rfl (.cons rfl (.cons rfl .nil)))) (.cons rfl .nil) (fun _ _ h => absurd h.1 (by simp)) ?_
        intro w leF_shape_Set__Parts_L24 m s hs
        obtain ⟨restF_shape_Set__Parts_L24, iF_shape_Set__Parts_L24, l674, Al674, cl674⟩ := s
        obtain ⟨hmF_shape_Set__Parts_L24, hdF_shape_Set__Parts_L24, hiF_shape_Set__Parts_L24, H, hl674⟩ := hs
        replace hdF_shape_Set__Parts_L24 : restF_shape_Set__Parts_L24 = List.drop iF_shape_Set__Parts_L24 m649 := hdF_shape_Set__Parts_L24
        replace H : F_shape_Set__Parts_L24 N restF_shape_Set__Parts_L24 iF_shape_Set__Parts_L24 l674 = some r := H
        replace hmF_shape_Set__Parts_L24 : m + 1 = restF_shape_Set__Parts_L24.length + 1 := hmF_shape_Set__Parts_L24
        replace hz650 := hz650.le leF_shape_Set__Parts_L24
        replace leB := leB.trans leF_shape_Set__Parts_L24
        replace leF_shape_Set__Parts_L1 := leF_shape_Set__Parts_L1.trans leF_shape_Set__Parts_L24
        replace leF_shape_Set__Parts_L20 := leF_shape_Set__Parts_L20.trans leF_shape_Set__Parts_L24
        replace leF_shape_Set__Parts_L23 := leF_shape_Set__Parts_L23.trans leF_shape_Set__Parts_L24
        replace hl674 : SlF Al674 (l674).length cl674 := hl674
        obtain rfl : m = restF_shape_Set__Parts_L24.length := by omega
        clear hmF_shape_Set__Parts_L24
        show Tr _ _ (LF [(23, (.slice Al674 (l674).length cl674)), (174, (.slice Am649 (m649).length cm649)), (175, (.int .i64 (m649.length : Int))), (176, (.int .i64 (iF_shape_Set__Parts_L24 : Int)))]) (LE [(25, ow Al674 cl674 65 fl_LTBand l674)]) _
        cases restF_shape_Set__Parts_L24 with
        | nil =>
          rw [F_shape_Set__Parts_L24.eq_1] at H
          refine Tr.seq ?_
          refine Tr.region ?_
          refine Tr.val (wn rfl) rfl (fun _ _ h1 h2 => run_lss (h1.ev rfl) (h1.ev rfl)) ?_
          refine Tr.nil (Tr.normThen ?_)
          refine Tr.seq ?_
          refine Tr.condF rfl (range_nil hdF_shape_Set__Parts_L24) ?_
          refine Tr.exit (Tr.exitThen (Tr.exitThen (Tr.exitBlock (Tr.normThen ?_))))
          refine Tr.seq ?_
          refine Tr.region ?_
          refine Tr.val (wn rfl) rfl (fun _ _ h1 h2 => run_move (h1.ev rfl)) ?_
          refine Tr.val (wn rfl) rfl (fun _ _ h1 h2 => run_assign (h1.ev rfl)) ?_
          refine Tr.nil (Tr.normThen ?_)
          refine Tr.ret ?_
          obtain rfl := Option.some.inj H
          exact Tr.out (m := [(.slice Al674 (l674).length cl674)]) [] (res_tmp rfl res_nil) (fun W hW => ⟨w, (Al674, cl674), leB, rfl, hl674, hW.pick (ks := [25]) (by decide) (pk_cons rfl pk_nil)⟩)
        | cons xF_shape_Set__Parts_L24 restF_shape_Set__Parts_L24 =>
          rw [F_shape_Set__Parts_L24.eq_2] at H
          refine Tr.seq ?_
          refine Tr.region ?_
          refine Tr.val (wn rfl) rfl (fun _ _ h1 h2 => run_lss (h1.ev rfl) (h1.ev rfl)) ?_
          refine Tr.nil (Tr.normThen ?_)
          refine Tr.seq ?_
          refine Tr.condT rfl (range_on hdF_shape_Set__Parts_L24) ?_
          refine Tr.skip (Tr.normThen ?_)
          refine Tr.seq ?_
          refine Tr.block ?_
          refine Tr.seq ?_
          refine Tr.region ?_
          obtain ⟨u675, hRu675, hoku675, hcu675⟩ := (hz650).el (range_at hdF_shape_Set__Parts_L24)
          obtain ⟨Au675_0, cu675_0⟩ := u675
          have hoku675_0 := hoku675
          replace hoku675_0 : Sl w.O w.W fl_TRect Au675_0 cu675_0 xF_shape_Set__Parts_L24 := hoku675_0
          replace hRu675 : w.R (adB Am649) := Or.inl hRu675
          refine Tr.val (wn rfl) rfl (fun _ _ h1 h2 => run_indexAddr el_40 (h1.ev rfl) hz650.form (h1.ev rfl) (Int.natCast_nonneg _) (range_lt hdF_shape_Set__Parts_L24)) ?_
          refine Tr.val (wn rfl) rfl (fun _ _ h1 h2 => run_load1 ag_22 (h1.ev rfl) (rdR hRu675 hcu675 h2) rfl) ?_
          refine Tr.val (wn rfl) rfl (fun _ _ h1 h2 => run_assign (h1.ev rfl)) ?_
          refine Tr.nil (Tr.normThen ?_)
          refine Tr.region ?_
          refine Tr.val (wn rfl) rfl (fun _ _ h1 h2 => run_move (h1.ev rfl)) ?_
          refine Tr.val (wn rfl) rfl (fun _ _ h1 h2 => run_move (h1.ev rfl)) ?_
          obtain ⟨y676, hy676, H⟩ := bnd H
          refine Tr.callG [30] [emp] (U := (Option Addr × Nat)) (fun u => (.slice u.1 (y676).length u.2)) (fun O W u => SlF u.1 (y676).length u.2) (fun u => [ow u.1 u.2 104 fl_TBand y676]) rfl (pk_cons rfl pk_nil) (fun _ => rfl) (wn rfl) rfl Try.call40 (evl_cons rfl evl_nil) (fun W hW hp hE => F_shape_SetOf_ok N xF_shape_Set__Parts_L24 Au675_0 cu675_0 (hoku675_0.rl.ext (hW.extS hp)) y676 hy676 hE) ?_
          intro w u le677 hu
          obtain ⟨Ay676_0, cy676_0⟩ := u
          have gy676_0 := hu
          replace hz650 := hz650.le le677
          replace hcu675 := le677.ext.cells hRu675 hcu675
          replace hRu675 := le677.r _ hRu675
          replace hoku675_0 := hoku675_0.le le677
          replace leB := leB.trans le677
          replace leF_shape_Set__Parts_L1 := leF_shape_Set__Parts_L1.trans le677
          replace leF_shape_Set__Parts_L20 := leF_shape_Set__Parts_L20.trans le677
          replace leF_shape_Set__Parts_L23 := leF_shape_Set__Parts_L23.trans le677
          replace leF_shape_Set__Parts_L24 := leF_shape_Set__Parts_L24.trans le677
          have hgy676_0 : SlF Ay676_0 (y676).length cy676_0 := gy676_0 --@phi
          show Tr _ _ (uf _ 182 (.slice Ay676_0 (y676).length cy676_0)) (up _ 30 (ow Ay676_0 cy676_0 104 fl_TBand y676)) _
          refine Tr.freeze 30 rfl fun w le679 hz678 => ?_
          replace hz650 := hz650.le le679
          replace hcu675 := le679.ext.cells hRu675 hcu675
          replace hRu675 := le679.r _ hRu675
          replace hoku675_0 := hoku675_0.le le679
          replace leB := leB.trans le679
          replace leF_shape_Set__Parts_L1 := leF_shape_Set__Parts_L1.trans le679
          replace leF_shape_Set__Parts_L20 := leF_shape_Set__Parts_L20.trans le679
          replace leF_shape_Set__Parts_L23 := leF_shape_Set__Parts_L23.trans le679
          replace leF_shape_Set__Parts_L24 := leF_shape_Set__Parts_L24.trans le679
          refine Tr.buildSlice 31 (e := 65) (vs := [(0, (.slice Ay676_0 (y676).length cy676_0))]) (cs := [(.slice Ay676_0 (y676).length cy676_0)]) (wn rfl) rfl (evs_cons rfl evs_nil) (by kernel_rfl) fun b680 => ?_
          obtain ⟨l681, hl681, H⟩ := bnd H
          refine Tr.append 25 (t := fl_LTBand) (l := l674) (l2 := [y676]) (wn rfl) rfl rfl rfl rfl (fun W hW => ⟨[[(.slice Ay676_0 (y676).length cy676_0)]], (.cons ⟨(Ay676_0, cy676_0), hz678, rfl⟩ .nil), rdb hW (vs := [(.slice Ay676_0 (y676).length cy676_0)]) (k := 31) rfl 0⟩) un_75 sz_65 zl_65 (by decide) by_65 rfl hl681 fun Al681 cl681 hAl681 => ?_
          refine Tr.val (wn rfl) rfl (fun _ _ h1 h2 => run_assign (h1.ev rfl)) ?_
          refine Tr.nil (Tr.normBlock (Tr.normThen ?_))
          refine Tr.region ?_
          refine Tr.val (wn rfl) rfl (fun _ _ h1 h2 => run_add (h1.ev rfl) (h1.ev rfl)) ?_
          refine Tr.val (wn rfl) rfl (fun _ _ h1 h2 => run_move (h1.ev rfl)) ?_
          refine Tr.nil ?_
          exact Tr.backThen leF_shape_Set__Parts_L24 (restF_shape_Set__Parts_L24, (iF_shape_Set__Parts_L24 + 1), l681, Al681, cl681) ⟨rfl, range_tl hdF_shape_Set__Parts_L24, range_lt hdF_shape_Set__Parts_L24, H, hAl681⟩ (.cons rfl (.cons rfl (.cons rfl (.cons (congrArg (fun z => some (Value.int .i64 z)) (range_up hdF_shape_Set__Parts_L24 hz650.form)) .nil)))) (.cons rfl .nil)
      | cons xF_shape_Set__Parts_L23 restF_shape_Set__Parts_L23 =>
        rw [F_shape_Set__Parts_L23.eq_2] at H
        refine Tr.seq ?_
        refine Tr.region ?_
        refine Tr.val (wn rfl) rfl (fun _ _ h1 h2 => run_lss (h1.ev rfl) (h1.ev rfl)) ?_
        refine Tr.nil (Tr.normThen ?_)
        refine Tr.seq ?_
        refine Tr.condT rfl (range_on hdF_shape_Set__Parts_L23) ?_
        refine Tr.skip (Tr.normThen ?_)
        refine Tr.seq ?_
        refine Tr.block ?_
        refine Tr.seq ?_
        refine Tr.region ?_
        refine Tr.val (wn rfl) rfl (fun _ _ h1 h2 => run_move (h1.ev rfl)) ?_
        refine Tr.val (wn rfl) rfl (fun _ _ h1 h2 => run_indexAddr el_22 (h1.ev rfl) hgy100_0 (h1.ev rfl) (Int.natCast_nonneg _) (range_lt hdF_shape_Set__Parts_L23)) ?_
        refine Tr.val (wn rfl) rfl (fun _ _ h1 h2 => run_loadN (cs := [(.int .i64 xF_shape_Set__Parts_L23.X0), (.int .i64 xF_shape_Set__Parts_L23.Y0), (.int .i64 xF_shape_Set__Parts_L23.X1), (.int .i64 xF_shape_Set__Parts_L23.Y1)]) ag_29 sz_29 (h1.ev rfl) (CellsAt.take (rdo ef_TRect (k := 2) h2 rfl (range_at hdF_shape_Set__Parts_L23)) 4) rfl) ?_
        refine Tr.alloc 32 (wn rfl) rfl ze_29 fun b682 => ?_
        refine Tr.val (wn rfl) rfl (fun _ _ h1 h2 => run_assign (h1.ev rfl)) ?_
        refine Tr.store 32 (cs := [(.int .i64 xF_shape_Set__Parts_L23.X0), (.int .i64 xF_shape_Set__Parts_L23.Y0), (.int .i64 xF_shape_Set__Parts_L23.X1), (.int .i64 xF_shape_Set__Parts_L23.Y1)]) [(.int .i64 xF_shape_Set__Parts_L23.X0), (.int .i64 xF_shape_Set__Parts_L23.Y0), (.int .i64 xF_shape_Set__Parts_L23.X1), (.int .i64 xF_shape_Set__Parts_L23.Y1)] (wn rfl) rfl rfl rfl rfl sz_29 rfl rfl rfl ?_
        refine Tr.nil (Tr.normThen ?_)
        refine Tr.seq ?_
        refine Tr.region ?_
        refine Tr.val (wn rfl) rfl (fun _ _ h1 h2 => run_move (h1.ev rfl)) ?_
        refine Tr.val (wn rfl) rfl (fun _ _ h1 h2 => run_move (h1.ev rfl)) ?_
        obtain ⟨y683, hy683, H⟩ := bnd H
        refine Tr.callMC [4, 3] [bx b104 #[(.slice Al647 (l647).length cl647)] 97, ow Al647 cl647 3 fl_i64 l647] (U := (Option Addr × Nat)) (fun u => (.int .i64 y683.1)) (fun u => SlF u.1 (y683.2).length u.2) (fun u => [bx b104 #[(.slice u.1 (y683.2).length u.2)] 97, ow u.1 u.2 3 fl_i64 y683.2]) rfl (pk_cons rfl (pk_cons rfl pk_nil)) (fun _ => rfl) (wn rfl) rfl rfl Try.call84 (evl_cons rfl evl_nil) (fun W hW hp hE => F_shape_Set__Parts_1_ok N (iF_shape_Set__Parts_L23 : Int) l647 Al647 cl647 b104 y683 hy683 hE) ?_
        intro u hu
        obtain ⟨Ay683_0, cy683_0⟩ := u
        have gy683_0 := hu
        have hgy683_0 : SlF Ay683_0 (y683.2).length cy683_0 := gy683_0 --@phi
        show Tr _ _ (uf _ 146 (.int .i64 y683.1)) (up (up _ 3 (ow Ay683_0 cy683_0 3 fl_i64 y683.2)) 4 (bx b104 #[(.slice Ay683_0 (y683.2).length cy683_0)] 97)) _
        refine Tr.val (wn rfl) rfl (fun _ _ h1 h2 => run_assign (h1.ev rfl)) ?_
        refine Tr.nil (Tr.normThen ?_)
        refine Tr.seq ?_
        refine Tr.region ?_
        refine Tr.val (wn rfl) rfl (fun _ _ h1 h2 => run_move (h1.ev rfl)) ?_
        refine Tr.val (wn rfl) rfl (fun _ _ h1 h2 => run_move (h1.ev rfl)) ?_
        obtain ⟨g685, hg685, H⟩ := bnd H
        refine Tr.val (wn rfl) rfl (fun _ _ h1 h2 => run_lookupI un_110 un_3 zi_3 (h1.ev rfl) (h1.ev rfl) h2 (κ := 7) rfl hg685) ?_
        refine Tr.val (wn rfl) rfl (fun _ _ h1 h2 => run_move (h1.ev rfl)) ?_
        refine Tr.val (wn rfl) rfl (fun _ _ h1 h2 => run_extract (h1.ev rfl) rfl) ?_
        refine Tr.val (wn rfl) rfl (fun _ _ h1 h2 => run_extract (h1.ev rfl) rfl) ?_
        refine Tr.val (wn rfl) rfl (fun _ _ h1 h2 => run_assign (h1.ev rfl)) ?_
        refine Tr.val (wn rfl) rfl (fun _ _ h1 h2 => run_assign (h1.ev rfl)) ?_
        refine Tr.nil (Tr.normThen ?_)
        have leJ693 := Bs.Le.refl w
        refine Tr.cutJ (σ := (List (Int × Int)) × (List (List TRect)) × Int × (Option Addr) × Nat × (List (NE TRect))) (fun w s => F_shape_Set__Parts_J25 (F_shape_Set__Parts_L23 N restF_shape_Set__Parts_L23 (iF_shape_Set__Parts_L23 + 1)) xF_shape_Set__Parts_L23 y683 s.1 s.2.1 s.2.2.1 = some r ∧ (NC s.2.2.2.2.2 s.2.1 ∧ SlF s.2.2.2.1 (s.2.1).length s.2.2.2.2.1)) (fun s => [(6, (.func (.func 84) #[] #[(.pointer (some ⟨b104, 0, none⟩))])), (16, (.map (some b584))), (17, (.slice s.2.2.2.1 (s.2.1).length s.2.2.2.2.1)), (19, (.pointer (some ⟨b682, 0, none⟩))), (21, (.int .i64 s.2.2.1)), (137, (.slice Ay100_0 (y100).length cy100_0)), (138, (.int .i64 (y100.length : Int))), (139, (.int .i64 (iF_shape_Set__Parts_L23 : Int)))]) (fun s => [(2, ow Ay100_0 cy100_0 29 fl_TRect y100), (3, ow Ay683_0 cy683_0 3 fl_i64 y683.2), (4, bx b104 #[(.slice Ay683_0 (y683.2).length cy683_0)] 97), (7, mi b584 s.1), (8, no s.2.2.2.1 (s.2.1).length s.2.2.2.2.1 22 29 fl_TRect s.2.2.2.2.2), (32, bx b682 #[(.int .i64 xF_shape_Set__Parts_L23.X0), (.int .i64 xF_shape_Set__Parts_L23.Y0), (.int .i64 xF_shape_Set__Parts_L23.X1), (.int .i64 xF_shape_Set__Parts_L23.Y1)] 29)]) ?_ ?_
        · refine Tr.seq ?_
          refine Tr.region ?_
          refine Tr.val (wn rfl) rfl (fun _ _ h1 h2 => run_move (h1.ev rfl)) ?_
          refine Tr.val (wn rfl) rfl (fun _ _ h1 h2 => run_not (h1.ev rfl)) ?_
          refine Tr.nil (Tr.normThen ?_)
          refine Tr.cond rfl H (fun H => ?_) (fun H => ?_)
          · refine Tr.seq ?_
            refine Tr.region ?_
            refine Tr.val (wn rfl) rfl (fun _ _ h1 h2 => run_move (h1.ev rfl)) ?_
            refine Tr.val (wn rfl) rfl (fun _ _ h1 h2 => run_len un_40 (h1.ev rfl)) ?_
            refine Tr.val (wn rfl) rfl (fun _ _ h1 h2 => run_assign (h1.ev rfl)) ?_
            refine Tr.nil (Tr.normThen ?_)
            refine Tr.seq ?_
            refine Tr.region ?_
            refine Tr.val (wn rfl) rfl (fun _ _ h1 h2 => run_move (h1.ev rfl)) ?_
            refine Tr.val (wn rfl) rfl (fun _ _ h1 h2 => run_move (h1.ev rfl)) ?_
            refine Tr.val (wn rfl) rfl (fun _ _ h1 h2 => run_move (h1.ev rfl)) ?_
            obtain ⟨m702, hm702, H⟩ := bnd H
            refine Tr.mapPutI 7 (wn rfl) un_110 un_3 rfl rfl rfl rfl hm702 ?_
            refine Tr.nil (Tr.normThen ?_)
            refine Tr.region ?_
            refine Tr.val (wn rfl) rfl (fun _ _ h1 h2 => run_move (h1.ev rfl)) ?_
            refine Tr.buildSlice 38 (e := 22) (vs := [(0, (.slice none 0 0))]) (cs := [(.slice none 0 0)]) (wn rfl) rfl (evs_cons rfl evs_nil) (by kernel_rfl) fun b703 => ?_
            obtain ⟨l704, hl704, H⟩ := bnd H
            refine Tr.nestPush 8 39 38 rfl rfl rfl rfl (wn rfl) rfl rfl rfl hm649.1 rfl rfl un_40 sz_22 zl_22 by_22 rfl hl704 fun Al704 cl704 ms705 hmms705 hfl704 => ?_
            refine Tr.val (wn rfl) rfl (fun _ _ h1 h2 => run_assign (h1.ev rfl)) ?_
            refine Tr.nil ?_
            exact Tr.backThen leJ693 (m702, l704, (m649.length : Int), Al704, cl704, ms705) ⟨H, ⟨hmms705, hfl704⟩⟩ (.cons rfl (.cons rfl (.cons rfl (.cons rfl (.cons rfl (.cons rfl (.cons rfl (.cons rfl .nil)))))))) (.cons rfl (.cons rfl (.cons rfl (.cons rfl (.cons rfl (.cons rfl .nil))))))
          · refine Tr.skip ?_
            exact Tr.backThen leJ693 (m648, m649, g685.1, Am649, cm649, msm649) ⟨H, ⟨hm649.1, hm649.2⟩⟩ (.cons rfl (.cons rfl (.cons rfl (.cons rfl (.cons rfl (.cons rfl (.cons rfl (.cons rfl .nil)))))))) (.cons rfl (.cons rfl (.cons rfl (.cons rfl (.cons rfl (.cons rfl .nil))))))
        · intro w s hlJ694 hs
          obtain ⟨m690, m691, x692, Am691, cm691, msm691⟩ := s
          obtain ⟨H, hm691⟩ := hs
          replace H : F_shape_Set__Parts_J25 (F_shape_Set__Parts_L23 N restF_shape_Set__Parts_L23 (iF_shape_Set__Parts_L23 + 1)) xF_shape_Set__Parts_L23 y683 m690 m691 x692 = some r := H
          replace leB := leB.trans hlJ694
          replace leF_shape_Set__Parts_L1 := leF_shape_Set__Parts_L1.trans hlJ694
          replace leF_shape_Set__Parts_L20 := leF_shape_Set__Parts_L20.trans hlJ694
          replace leF_shape_Set__Parts_L23 := leF_shape_Set__Parts_L23.trans hlJ694
          replace hm691 : NC msm691 m691 ∧ SlF Am691 (m691).length cm691 := hm691
          unfold F_shape_Set__Parts_J25 at H
          show Tr _ _ (LF [(6, (.func (.func 84) #[] #[(.pointer (some ⟨b104, 0, none⟩))])), (16, (.map (some b584))), (17, (.slice Am691 (m691).length cm691)), (19, (.pointer (some ⟨b682, 0, none⟩))), (21, (.int .i64 x692)), (137, (.slice Ay100_0 (y100).length cy100_0)), (138, (.int .i64 (y100.length : Int))), (139, (.int .i64 (iF_shape_Set__Parts_L23 : Int)))]) (LE [(2, ow Ay100_0 cy100_0 29 fl_TRect y100), (3, ow Ay683_0 cy683_0 3 fl_i64 y683.2), (4, bx b104 #[(.slice Ay683_0 (y683.2).length cy683_0)] 97), (7, mi b584 m690), (8, no Am691 (m691).length cm691 22 29 fl_TRect msm691), (32, bx b682 #[(.int .i64 xF_shape_Set__Parts_L23.X0), (.int .i64 xF_shape_Set__Parts_L23.Y0), (.int .i64 xF_shape_Set__Parts_L23.X1), (.int .i64 xF_shape_Set__Parts_L23.Y1)] 29)]) _
          obtain ⟨l695, hl695, H⟩ := bnd H
          obtain ⟨hl6950, hl6951, hl6952⟩ := idx_some hl695
          refine Tr.nestTake 8 35 (i := x692) rfl rfl hm691.1 hl695 fun ms696 Al695 cl695 hMl695 hfl695 => ?_
          refine Tr.drawC 9 [(8, (ow Al695 cl695 29 fl_TRect l695).S)] [] (by kernel_rfl) (by kernel_rfl) fun sz697 hlosz697 hEsz697 => ?_
          refine Dr.quietP 0 (by kernel_rfl) rfl (wn rfl) rfl (by kernel_rfl) (fun _ _ h1 => run_move (h1.ev rfl)) rfl ?_
          refine Dr.quietP 1 (by kernel_rfl) rfl (wn rfl) rfl (by kernel_rfl) (fun _ _ h1 => run_move (h1.ev rfl)) rfl ?_
          refine Dr.quietP 2 (by kernel_rfl) rfl (wn rfl) rfl (by kernel_rfl) (fun _ _ h1 => run_move (h1.ev rfl)) rfl ?_
          refine Dr.quietP 3 (by kernel_rfl) rfl (wn rfl) rfl (by kernel_rfl) (fun _ _ h1 => run_move (h1.ev rfl)) rfl ?_
          refine Dr.quietP 4 (by kernel_rfl) rfl (wn rfl) rfl (by kernel_rfl) (fun _ _ h1 => run_indexAddr el_40 (h1.ev rfl) hm691.2 (h1.ev rfl) hl6950 hl6951) rfl ?_
          refine Dr.quiet 5 [(168, (.slice Al695 (l695).length cl695))] (by kernel_rfl) rfl rfl (by kernel_rfl) ?_ rfl rfl ?_
          · refine Tq.val (wn rfl) rfl (fun _ _ h1 h2 => run_loadNest ag_22 (h1.ev rfl) rfl h2 (κ := 8) rfl hMl695) ?_
            exact Tq.fin (.cons rfl .nil)
          refine Dr.quietZ 6 [(169, (.agg #[(.int .i64 xF_shape_Set__Parts_L23.X0), (.int .i64 xF_shape_Set__Parts_L23.Y0), (.int .i64 xF_shape_Set__Parts_L23.X1), (.int .i64 xF_shape_Set__Parts_L23.Y1)]))] [8] false (by kernel_rfl) rfl rfl (by kernel_rfl) (fun W W' h2 hsW hk => HF.keepZ (le := [(32, bx b682 #[(.int .i64 xF_shape_Set__Parts_L23.X0), (.int .i64 xF_shape_Set__Parts_L23.Y0), (.int .i64 xF_shape_Set__Parts_L23.X1), (.int .i64 xF_shape_Set__Parts_L23.Y1)] 29)]) (ks := [(35, (ow Al695 cl695 29 fl_TRect l695).S)]) (s0 := sz697) false h2 hk (fun h => absurd h (by decide)) (.cons rfl .nil) (fun b hb => hb.elim (fun ⟨p, hp, hf, hb⟩ => by simp only [List.mem_cons, List.not_mem_nil, or_false] at hp; rcases hp with rfl; exact .inl ⟨_, List.mem_cons_self, hb⟩) (fun hb => absurd hb.1 (by decide))) (List.forall_mem_cons.2 ⟨fun b hb => hb, (fun _ h => nomatch h)⟩) rfl) ?_ rfl rfl ?_
          · refine Tq.val (wn rfl) rfl (fun _ _ h1 h2 => run_loadN (cs := [(.int .i64 xF_shape_Set__Parts_L23.X0), (.int .i64 xF_shape_Set__Parts_L23.Y0), (.int .i64 xF_shape_Set__Parts_L23.X1), (.int .i64 xF_shape_Set__Parts_L23.Y1)]) ag_29 sz_29 (h1.ev rfl) (CellsAt.take (rdb h2 (vs := [(.int .i64 xF_shape_Set__Parts_L23.X0), (.int .i64 xF_shape_Set__Parts_L23.Y0), (.int .i64 xF_shape_Set__Parts_L23.X1), (.int .i64 xF_shape_Set__Parts_L23.Y1)]) (k := 32) rfl 0) 4) rfl) ?_
            exact Tq.fin (.cons rfl .nil)
          refine Dr.one 7 (by kernel_rfl) ?_
          refine St.buildSlice 7 36 (e := 29) (vs := [(0, (.agg #[(.int .i64 xF_shape_Set__Parts_L23.X0), (.int .i64 xF_shape_Set__Parts_L23.Y0), (.int .i64 xF_shape_Set__Parts_L23.X1), (.int .i64 xF_shape_Set__Parts_L23.Y1)]))]) (cs := [(.int .i64 xF_shape_Set__Parts_L23.X0), (.int .i64 xF_shape_Set__Parts_L23.Y0), (.int .i64 xF_shape_Set__Parts_L23.X1), (.int .i64 xF_shape_Set__Parts_L23.Y1)]) rfl (wn rfl) rfl (evs_cons rfl evs_nil) (by kernel_rfl) fun b698 hb698 => ?_
          obtain ⟨l699, hl699, H⟩ := bnd H
          refine Dr.one 8 (by kernel_rfl) ?_
          refine St.append 8 35 (t' := fl_TRect) (ll := l695) (l2 := [xF_shape_Set__Parts_L23]) (fun b hb => .inl ⟨_, List.mem_cons_self, rfl, hb⟩) rfl (wn rfl) rfl rfl rfl rfl (fun W hW => ⟨[[(.int .i64 xF_shape_Set__Parts_L23.X0), (.int .i64 xF_shape_Set__Parts_L23.Y0), (.int .i64 xF_shape_Set__Parts_L23.X1), (.int .i64 xF_shape_Set__Parts_L23.Y1)]], (.cons ⟨(), trivial, rfl⟩ .nil), rdb hW (vs := [(.int .i64 xF_shape_Set__Parts_L23.X0), (.int .i64 xF_shape_Set__Parts_L23.Y0), (.int .i64 xF_shape_Set__Parts_L23.X1), (.int .i64 xF_shape_Set__Parts_L23.Y1)]) (k := 36) rfl 0⟩) un_22 sz_29 zl_29 (by decide) by_29 rfl hl699 fun Al699 cl699 hAl699 => ?_
          refine Dr.tail (by kernel_rfl) ?_
          refine Tr.val (wn rfl) rfl (fun _ _ h1 h2 => run_indexAddr el_40 (h1.ev rfl) hm691.2 (h1.ev rfl) hl6950 hl6951) ?_
          obtain ⟨l700, hl700, H⟩ := bnd H
          have hnl700 := sets_len hl700
          refine Tr.nestPut 8 35 37 (i := x692) rfl rfl rfl rfl (wn rfl) rfl rfl rfl rfl rfl hMl695 hAl699 sz_22 hl700 fun ms701 hmms701 => ?_
          have hfl700 : SlF Am691 (l700).length cm691 := by rw [hnl700]; exact hm691.2
          refine Tr.sel (lf := [(6, (.func (.func 84) #[] #[(.pointer (some ⟨b104, 0, none⟩))])), (16, (.map (some b584))), (17, (.slice Am691 (l700).length cm691)), (19, (.pointer (some ⟨b682, 0, none⟩))), (21, (.int .i64 x692)), (137, (.slice Ay100_0 (y100).length cy100_0)), (138, (.int .i64 (y100.length : Int))), (139, (.int .i64 (iF_shape_Set__Parts_L23 : Int))), (163, (.slice Am691 (l700).length cm691)), (164, (.int .i64 x692)), (165, (.slice Am691 (l700).length cm691)), (166, (.int .i64 x692)), (169, (.agg #[(.int .i64 xF_shape_Set__Parts_L23.X0), (.int .i64 xF_shape_Set__Parts_L23.Y0), (.int .i64 xF_shape_Set__Parts_L23.X1), (.int .i64 xF_shape_Set__Parts_L23.Y1)]))]) (le := [(2, ow Ay100_0 cy100_0 29 fl_TRect y100), (3, ow Ay683_0 cy683_0 3 fl_i64 y683.2), (4, bx b104 #[(.slice Ay683_0 (y683.2).length cy683_0)] 97), (7, mi b584 m690), (8, no Am691 (l700).length cm691 22 29 fl_TRect ms701), (32, bx b682 #[(.int .i64 xF_shape_Set__Parts_L23.X0), (.int .i64 xF_shape_Set__Parts_L23.Y0), (.int .i64 xF_shape_Set__Parts_L23.X1), (.int .i64 xF_shape_Set__Parts_L23.Y1)] 29)]) (.cons rfl (.cons rfl (.cons (slenV rfl (by rw [hnl700])) (.cons rfl (.cons rfl (.cons rfl (.cons rfl (.cons rfl (.cons (slenV rfl (by rw [hnl700])) (.cons rfl (.cons (slenV rfl (by rw [hnl700])) (.cons rfl (.cons rfl .nil))))))))))))) (.cons rfl (.cons rfl (.cons rfl (.cons rfl (.cons rfl (.cons rfl .nil)))))) ?_
          refine Tr.nil (Tr.normBlock (Tr.normThen ?_))
          refine Tr.region ?_
          refine Tr.val (wn rfl) rfl (fun _ _ h1 h2 => run_add (h1.ev rfl) (h1.ev rfl)) ?_
          refine Tr.val (wn rfl) rfl (fun _ _ h1 h2 => run_move (h1.ev rfl)) ?_
          refine Tr.nil ?_
          exact Tr.backThen leF_shape_Set__Parts_L23 (restF_shape_Set__Parts_L23, (iF_shape_Set__Parts_L23 + 1), y683.2, m690, l700, Ay683_0, cy683_0, Am691, cm691, ms701) ⟨rfl, range_tl hdF_shape_Set__Parts_L23, range_lt hdF_shape_Set__Parts_L23, H, hgy683_0, ⟨hmms701, hfl700⟩⟩ (.cons rfl (.cons rfl (.cons rfl (.cons rfl (.cons rfl (.cons (congrArg (fun z => some (Value.int .i64 z)) (range_up hdF_shape_Set__Parts_L23 hgy100_0)) .nil)))))) (.cons rfl (.cons rfl (.cons rfl (.cons rfl (.cons rfl .nil)))))
    | cons xF_shape_Set__Parts_L20 restF_shape_Set__Parts_L20 =>
      rw [F_shape_Set__Parts_L20.eq_2] at H
      refine Tr.seq ?_
      refine Tr.region ?_
      refine Tr.val (wn rfl) rfl (fun _ _ h1 h2 => run_lss (h1.ev rfl) (h1.ev rfl)) ?_
      refine Tr.nil (Tr.normThen ?_)
      refine Tr.seq ?_
      refine Tr.condT rfl (range_on hdF_shape_Set__Parts_L20) ?_
      refine Tr.skip (Tr.normThen ?_)
      refine Tr.seq ?_
      refine Tr.block ?_
      refine Tr.seq ?_
      refine Tr.region ?_
      refine Tr.val (wn rfl) rfl (fun _ _ h1 h2 => run_move (h1.ev rfl)) ?_
      obtain ⟨u706, hRu706, hoku706, hcu706⟩ := (hp0_0).el (range_at hdF_shape_Set__Parts_L20)
      obtain ⟨Au706_0, cu706_0⟩ := u706
      have hoku706_0 := hoku706
      replace hoku706_0 : Sl w.R w.W fl_i64 Au706_0 cu706_0 xF_shape_Set__Parts_L20.Xs := hoku706_0
      refine Tr.val (wn rfl) rfl (fun _ _ h1 h2 => run_indexAddr el_65 (h1.ev rfl) hp0_0.form (h1.ev rfl) (Int.natCast_nonneg _) (range_lt hdF_shape_Set__Parts_L20)) ?_
      refine Tr.val (wn rfl) rfl (fun _ _ h1 h2 => run_loadN (cs := [(.int .i64 xF_shape_Set__Parts_L20.Y0), (.int .i64 xF_shape_Set__Parts_L20.Y1), (.slice Au706_0 (xF_shape_Set__Parts_L20.Xs).length cu706_0)]) ag_104 sz_104 (h1.ev rfl) (CellsAt.take (rdR hRu706 hcu706 h2) 3) rfl) ?_
      refine Tr.alloc 40 (wn rfl) rfl ze_104 fun b707 => ?_
      refine Tr.val (wn rfl) rfl (fun _ _ h1 h2 => run_assign (h1.ev rfl)) ?_
      refine Tr.store 40 (cs := [(.int .i64 xF_shape_Set__Parts_L20.Y0), (.int .i64 xF_shape_Set__Parts_L20.Y1), (.slice Au706_0 (xF_shape_Set__Parts_L20.Xs).length cu706_0)]) [(.int .i64 xF_shape_Set__Parts_L20.Y0), (.int .i64 xF_shape_Set__Parts_L20.Y1), (.slice Au706_0 (xF_shape_Set__Parts_L20.Xs).length cu706_0)] (wn rfl) rfl rfl rfl rfl sz_104 rfl rfl rfl ?_
      refine Tr.nil (Tr.normThen ?_)
      refine Tr.seq ?_
      refine Tr.region ?_
      refine Tr.val (wn rfl) rfl (fun _ _ h1 h2 => run_fieldAddr fo_104_2 (h1.ev rfl)) ?_
      refine Tr.val (wn rfl) rfl (fun _ _ h1 h2 => run_load1 ag_97 (h1.ev rfl) (rdb h2 (vs := [(.int .i64 xF_shape_Set__Parts_L20.Y0), (.int .i64 xF_shape_Set__Parts_L20.Y1), (.slice Au706_0 (xF_shape_Set__Parts_L20.Xs).length cu706_0)]) (k := 40) rfl 2) rfl) ?_
      refine Tr.val (wn rfl) rfl (fun _ _ h1 h2 => run_len un_97 (h1.ev rfl)) ?_
      refine Tr.val (wn rfl) rfl (fun _ _ h1 h2 => run_quo (h1.ev rfl) (h1.ev rfl) (by decide)) ?_
      refine Tr.val (wn rfl) rfl (fun _ _ h1 h2 => run_assign (h1.ev rfl)) ?_
      refine Tr.nil (Tr.normThen ?_)
      have leJ819 := Bs.Le.refl w
      refine Tr.cutJ (σ := (List Int) × (Option Addr) × Nat) (fun w s => F_shape_Set__Parts_J30 x582 (F_shape_Set__Parts_L20 N p0 y100 restF_shape_Set__Parts_L20 (iF_shape_Set__Parts_L20 + 1)) xF_shape_Set__Parts_L20 s.1 = some r ∧ SlF s.2.1 (s.1).length s.2.2) (fun s => [(0, (.slice Ap0_0 (p0).length cp0_0)), (3, (.slice Ay100_0 (y100).length cy100_0)), (4, (.pointer (some ⟨b104, 0, none⟩))), (6, (.func (.func 84) #[] #[(.pointer (some ⟨b104, 0, none⟩))])), (7, (.int .i64 x582)), (11, (.int .i64 (w64 (Int.tdiv (xF_shape_Set__Parts_L20.Xs.length : Int) 2)))), (42, (.slice Ap0_0 (p0).length cp0_0)), (43, (.int .i64 (p0.length : Int))), (44, (.int .i64 (iF_shape_Set__Parts_L20 : Int)))]) (fun s => [(2, ow Ay100_0 cy100_0 29 fl_TRect y100), (3, ow s.2.1 s.2.2 3 fl_i64 s.1), (4, bx b104 #[(.slice s.2.1 (s.1).length s.2.2)] 97)]) ?_ ?_
      · refine Tr.seq ?_
        refine Tr.draw (by kernel_rfl) (by kernel_rfl) ?_
        refine Tq.val (wn rfl) rfl (fun _ _ h1 h2 => run_move (h1.ev rfl)) ?_
        refine Tq.val (wn rfl) rfl (fun _ _ h1 h2 => run_gtr (h1.ev rfl) (h1.ev rfl)) ?_
        refine Tq.val (wn rfl) rfl (fun _ _ h1 h2 => run_move (h1.ev rfl)) ?_
        obtain ⟨g823, hg823, H⟩ := bnd H
        refine Tq.mid 10 [(0, (.slice Ap0_0 (p0).length cp0_0)), (3, (.slice Ay100_0 (y100).length cy100_0)), (4, (.pointer (some ⟨b104, 0, none⟩))), (6, (.func (.func 84) #[] #[(.pointer (some ⟨b104, 0, none⟩))])), (7, (.int .i64 x582)), (8, (.int .i64 x583)), (11, (.int .i64 (w64 (Int.tdiv (xF_shape_Set__Parts_L20.Xs.length : Int) 2)))), (42, (.slice Ap0_0 (p0).length cp0_0)), (43, (.int .i64 (p0.length : Int))), (44, (.int .i64 (iF_shape_Set__Parts_L20 : Int))), (65, (.bool g823))] ?_ ?_
        · cases hg930 : (decide (0 < (iF_shape_Set__Parts_L20 : Int)))
          · rw [hg930] at hg823
            rw [if_neg (by decide)] at hg823
            have H := hg823
            obtain rfl := Option.some.inj H
            refine Tq.pass rfl rfl rfl rfl rfl (by decide) ?_
            refine Tq.pass rfl rfl rfl rfl rfl (by decide) ?_
            refine Tq.pass rfl rfl rfl rfl rfl (by decide) ?_
            refine Tq.pass rfl rfl rfl rfl rfl (by decide) ?_
            refine Tq.pass rfl rfl rfl rfl rfl (by decide) ?_
            refine Tq.pass rfl rfl rfl rfl rfl (by decide) ?_
            refine Tq.pass rfl rfl rfl rfl rfl (by decide) ?_
            refine Tq.pass rfl rfl rfl rfl rfl (by decide) ?_
            refine Tq.pass rfl rfl rfl rfl rfl (by decide) ?_
            refine Tq.val (wn rfl) rfl (fun _ _ h1 h2 => run_pickF (h1.ev rfl) (h1.ev rfl)) ?_
            exact Tq.fin (.cons rfl (.cons rfl (.cons rfl (.cons rfl (.cons rfl (.cons rfl (.cons rfl (.cons rfl (.cons rfl (.cons rfl (.cons rfl .nil)))))))))))
          · rw [hg930] at hg823
            rw [if_pos rfl] at hg823
            have H := hg823
            refine Tq.val (wg rfl rfl rfl) rfl (fun _ _ h1 h2 => run_move (h1.ev rfl)) ?_
            refine Tq.val (wg rfl rfl rfl) rfl (fun _ _ h1 h2 => run_move (h1.ev rfl)) ?_
            refine Tq.val (wg rfl rfl rfl) rfl (fun _ _ h1 h2 => run_sub (h1.ev rfl) (h1.ev rfl)) ?_
            obtain ⟨x824, hx824, H⟩ := bnd H
            obtain ⟨hx8240, hx8241, hx8242⟩ := idx_some hx824
            obtain ⟨u825, hRu825, hoku825, hcu825⟩ := (hp0_0).el hx8242
            obtain ⟨Au825_0, cu825_0⟩ := u825
            have hoku825_0 := hoku825
            replace hoku825_0 : Sl w.R w.W fl_i64 Au825_0 cu825_0 x824.Xs := hoku825_0
            refine Tq.val (wg rfl rfl rfl) rfl (fun _ _ h1 h2 => run_indexAddr el_65 (h1.ev rfl) hp0_0.form (h1.ev rfl) hx8240 hx8241) ?_
            refine Tq.val (wg rfl rfl rfl) rfl (fun _ _ h1 h2 => run_fieldAddr fo_104_1 (h1.ev rfl)) ?_
            refine Tq.val (wg rfl rfl rfl) rfl (fun _ _ h1 h2 => run_load1 ag_3 (h1.ev rfl) (CellsAt.drop (rdR hRu825 hcu825 h2) 1) rfl) ?_
            refine Tq.val (wg rfl rfl rfl) rfl (fun _ _ h1 h2 => run_fieldAddr fo_104_0 (h1.ev rfl)) ?_
            refine Tq.val (wg rfl rfl rfl) rfl (fun _ _ h1 h2 => run_load1 ag_3 (h1.ev rfl) (rdb h2 (vs := [(.int .i64 xF_shape_Set__Parts_L20.Y0), (.int .i64 xF_shape_Set__Parts_L20.Y1), (.slice Au706_0 (xF_shape_Set__Parts_L20.Xs).length cu706_0)]) (k := 40) rfl 0) rfl) ?_
            refine Tq.val (wg rfl rfl rfl) rfl (fun _ _ h1 h2 => run_eql (h1.ev rfl) (h1.ev rfl)) ?_
            refine Tq.val (wn rfl) rfl (fun _ _ h1 h2 => run_pickT (h1.ev rfl) (h1.ev rfl)) ?_
            obtain rfl := Option.some.inj H
            exact Tq.fin (.cons rfl (.cons rfl (.cons rfl (.cons rfl (.cons rfl (.cons rfl (.cons rfl (.cons rfl (.cons rfl (.cons rfl (.cons rfl .nil)))))))))))
        · refine Tq.nil (Tr.normThen ?_)
          refine Tr.cond rfl H (fun H => ?_) (fun H => ?_)
          · refine Tr.seq ?_
            refine Tr.region ?_
            refine Tr.val (wn rfl) rfl (fun _ _ h1 h2 => run_move (h1.ev rfl)) ?_
            refine Tr.val (wn rfl) rfl (fun _ _ h1 h2 => run_move (h1.ev rfl)) ?_
            refine Tr.val (wn rfl) rfl (fun _ _ h1 h2 => run_assign (h1.ev rfl)) ?_
            refine Tr.val (wn rfl) rfl (fun _ _ h1 h2 => run_assign (h1.ev rfl)) ?_
            refine Tr.nil (Tr.normThen ?_)
            refine Tr.block ?_
            refine Tr.loop (σ := (List Int) × Int × Int × (Option Addr) × Nat) (fun m w s => F_shape_Set__Parts_L33 N y100 x582 (F_shape_Set__Parts_L20 N p0 y100 restF_shape_Set__Parts_L20 (iF_shape_Set__Parts_L20 + 1)) xF_shape_Set__Parts_L20 m s.1 s.2.1 s.2.2.1 = some r ∧ SlF s.2.2.2.1 (s.1).length s.2.2.2.2) (fun s => [(0, (.slice Ap0_0 (p0).length cp0_0)), (3, (.slice Ay100_0 (y100).length cy100_0)), (4, (.pointer (some ⟨b104, 0, none⟩))), (6, (.func (.func 84) #[] #[(.pointer (some ⟨b104, 0, none⟩))])), (7, (.int .i64 x582)), (11, (.int .i64 (w64 (Int.tdiv (xF_shape_Set__Parts_L20.Xs.length : Int) 2)))), (12, (.int .i64 s.2.1)), (13, (.int .i64 s.2.2.1)), (42, (.slice Ap0_0 (p0).length cp0_0)), (43, (.int .i64 (p0.length : Int))), (44, (.int .i64 (iF_shape_Set__Parts_L20 : Int)))]) (fun s => [(2, ow Ay100_0 cy100_0 29 fl_TRect y100), (3, ow s.2.2.2.1 s.2.2.2.2 3 fl_i64 s.1), (4, bx b104 #[(.slice s.2.2.2.1 (s.1).length s.2.2.2.2)] 97)]) N (l581, x583, x582, Al581, cl581) ⟨H, hl581⟩ (.cons rfl (.cons rfl (.cons rfl (.cons rfl (.cons rfl (.cons rfl (.cons rfl (.cons rfl (.cons rfl (.cons rfl (.cons rfl .nil))))))))))) (.cons rfl (.cons rfl (.cons rfl .nil))) (fun _ _ h => noSome (h.1)) ?_
            intro w leF_shape_Set__Parts_L33 mF_shape_Set__Parts_L33 s hs
            obtain ⟨l897, x898, x899, Al897, cl897⟩ := s
            obtain ⟨H, hl897⟩ := hs
            replace H : F_shape_Set__Parts_L33 N y100 x582 (F_shape_Set__Parts_L20 N p0 y100 restF_shape_Set__Parts_L20 (iF_shape_Set__Parts_L20 + 1)) xF_shape_Set__Parts_L20 (mF_shape_Set__Parts_L33 + 1) l897 x898 x899 = some r := H
            replace hp0_0 := hp0_0.leR leF_shape_Set__Parts_L33
            replace leB := leB.trans leF_shape_Set__Parts_L33
            replace leF_shape_Set__Parts_L1 := leF_shape_Set__Parts_L1.trans leF_shape_Set__Parts_L33
            replace leF_shape_Set__Parts_L20 := leF_shape_Set__Parts_L20.trans leF_shape_Set__Parts_L33
            replace leJ819 := leJ819.trans leF_shape_Set__Parts_L33
            replace hl897 : SlF Al897 (l897).length cl897 := hl897
            rw [F_shape_Set__Parts_L33.eq_2] at H
            show Tr _ _ (LF [(0, (.slice Ap0_0 (p0).length cp0_0)), (3, (.slice Ay100_0 (y100).length cy100_0)), (4, (.pointer (some ⟨b104, 0, none⟩))), (6, (.func (.func 84) #[] #[(.pointer (some ⟨b104, 0, none⟩))])), (7, (.int .i64 x582)), (11, (.int .i64 (w64 (Int.tdiv (xF_shape_Set__Parts_L20.Xs.length : Int) 2)))), (12, (.int .i64 x898)), (13, (.int .i64 x899)), (42, (.slice Ap0_0 (p0).length cp0_0)), (43, (.int .i64 (p0.length : Int))), (44, (.int .i64 (iF_shape_Set__Parts_L20 : Int)))]) (LE [(2, ow Ay100_0 cy100_0 29 fl_TRect y100), (3, ow Al897 cl897 3 fl_i64 l897), (4, bx b104 #[(.slice Al897 (l897).length cl897)] 97)]) _
            refine Tr.seq ?_
            refine Tr.seq ?_
            refine Tr.region ?_
            refine Tr.val (wn rfl) rfl (fun _ _ h1 h2 => run_move (h1.ev rfl)) ?_
            refine Tr.val (wn rfl) rfl (fun _ _ h1 h2 => run_move (h1.ev rfl)) ?_
            refine Tr.val (wn rfl) rfl (fun _ _ h1 h2 => run_lss (h1.ev rfl) (h1.ev rfl)) ?_
            refine Tr.val (wn rfl) rfl (fun _ _ h1 h2 => run_move (h1.ev rfl)) ?_
            refine Tr.mid0 6 [(0, (.slice Ap0_0 (p0).length cp0_0)), (3, (.slice Ay100_0 (y100).length cy100_0)), (4, (.pointer (some ⟨b104, 0, none⟩))), (6, (.func (.func 84) #[] #[(.pointer (some ⟨b104, 0, none⟩))])), (7, (.int .i64 x582)), (11, (.int .i64 (w64 (Int.tdiv (xF_shape_Set__Parts_L20.Xs.length : Int) 2)))), (12, (.int .i64 x898)), (13, (.int .i64 x899)), (42, (.slice Ap0_0 (p0).length cp0_0)), (43, (.int .i64 (p0.length : Int))), (44, (.int .i64 (iF_shape_Set__Parts_L20 : Int))), (77, (.bool ((decide (x898 < x582)) && (decide (x899 < (w64 (x582 + (w64 (Int.tdiv (xF_shape_Set__Parts_L20.Xs.length : Int) 2)))))))))] [(2, ow Ay100_0 cy100_0 29 fl_TRect y100), (3, ow Al897 cl897 3 fl_i64 l897), (4, bx b104 #[(.slice Al897 (l897).length cl897)] 97)] ?_ ?_
            · cases hg930 : (decide (x898 < x582))
              · refine Tr.pass rfl rfl rfl rfl rfl (by decide) ?_
                refine Tr.pass rfl rfl rfl rfl rfl (by decide) ?_
                refine Tr.pass rfl rfl rfl rfl rfl (by decide) ?_
                refine Tr.pass rfl rfl rfl rfl rfl (by decide) ?_
                refine Tr.pass rfl rfl rfl rfl rfl (by decide) ?_
                refine Tr.val (wn rfl) rfl (fun _ _ h1 h2 => run_pickF (h1.ev rfl) (h1.ev rfl)) ?_
                exact Tr.nil (Tr.fin0 (.cons rfl (.cons rfl (.cons rfl (.cons rfl (.cons rfl (.cons rfl (.cons rfl (.cons rfl (.cons rfl (.cons rfl (.cons rfl (.cons rfl .nil)))))))))))) (.cons rfl (.cons rfl (.cons rfl .nil))))
              · refine Tr.val (wg rfl rfl rfl) rfl (fun _ _ h1 h2 => run_move (h1.ev rfl)) ?_
                refine Tr.val (wg rfl rfl rfl) rfl (fun _ _ h1 h2 => run_move (h1.ev rfl)) ?_
                refine Tr.val (wg rfl rfl rfl) rfl (fun _ _ h1 h2 => run_move (h1.ev rfl)) ?_
                refine Tr.val (wg rfl rfl rfl) rfl (fun _ _ h1 h2 => run_add (h1.ev rfl) (h1.ev rfl)) ?_
                refine Tr.val (wg rfl rfl rfl) rfl (fun _ _ h1 h2 => run_lss (h1.ev rfl) (h1.ev rfl)) ?_
                refine Tr.val (wn rfl) rfl (fun _ _ h1 h2 => run_pickT (h1.ev rfl) (h1.ev rfl)) ?_
                exact Tr.nil (Tr.fin0 (.cons rfl (.cons rfl (.cons rfl (.cons rfl (.cons rfl (.cons rfl (.cons rfl (.cons rfl (.cons rfl (.cons rfl (.cons rfl (.cons rfl .nil)))))))))))) (.cons rfl (.cons rfl (.cons rfl .nil))))
            · show Tr _ _ (LF [(0, (.slice Ap0_0 (p0).length cp0_0)), (3, (.slice Ay100_0 (y100).length cy100_0)), (4, (.pointer (some ⟨b104, 0, none⟩))), (6, (.func (.func 84) #[] #[(.pointer (some ⟨b104, 0, none⟩))])), (7, (.int .i64 x582)), (11, (.int .i64 (w64 (Int.tdiv (xF_shape_Set__Parts_L20.Xs.length : Int) 2)))), (12, (.int .i64 x898)), (13, (.int .i64 x899)), (42, (.slice Ap0_0 (p0).length cp0_0)), (43, (.int .i64 (p0.length : Int))), (44, (.int .i64 (iF_shape_Set__Parts_L20 : Int))), (77, (.bool ((decide (x898 < x582)) && (decide (x899 < (w64 (x582 + (w64 (Int.tdiv (xF_shape_Set__Parts_L20.Xs.length : Int) 2)))))))))]) (LE [(2, ow Ay100_0 cy100_0 29 fl_TRect y100), (3, ow Al897 cl897 3 fl_i64 l897), (4, bx b104 #[(.slice Al897 (l897).length cl897)] 97)]) _
              refine Tr.nil (Tr.normThen ?_)
              refine Tr.cond rfl H (fun H => ?_) (fun H => ?_)
              · refine Tr.skip (Tr.normThen ?_)
                refine Tr.block ?_
                have leJ914 := Bs.Le.refl w
                refine Tr.cutJ (σ := (List Int) × (Option Addr) × Nat) (fun w s => F_shape_Set__Parts_J34 y100 x898 x899 (F_shape_Set__Parts_L33 N y100 x582 (F_shape_Set__Parts_L20 N p0 y100 restF_shape_Set__Parts_L20 (iF_shape_Set__Parts_L20 + 1)) xF_shape_Set__Parts_L20 mF_shape_Set__Parts_L33) s.1 = some r ∧ SlF s.2.1 (s.1).length s.2.2) (fun s => [(0, (.slice Ap0_0 (p0).length cp0_0)), (3, (.slice Ay100_0 (y100).length cy100_0)), (4, (.pointer (some ⟨b104, 0, none⟩))), (6, (.func (.func 84) #[] #[(.pointer (some ⟨b104, 0, none⟩))])), (7, (.int .i64 x582)), (11, (.int .i64 (w64 (Int.tdiv (xF_shape_Set__Parts_L20.Xs.length : Int) 2)))), (12, (.int .i64 x898)), (13, (.int .i64 x899)), (42, (.slice Ap0_0 (p0).length cp0_0)), (43, (.int .i64 (p0.length : Int))), (44, (.int .i64 (iF_shape_Set__Parts_L20 : Int)))]) (fun s => [(2, ow Ay100_0 cy100_0 29 fl_TRect y100), (3, ow s.2.1 s.2.2 3 fl_i64 s.1), (4, bx b104 #[(.slice s.2.1 (s.1).length s.2.2)] 97)]) ?_ ?_
                · refine Tr.seq ?_
                  refine Tr.draw (by kernel_rfl) (by kernel_rfl) ?_
                  refine Tq.val (wn rfl) rfl (fun _ _ h1 h2 => run_move (h1.ev rfl)) ?_
                  refine Tq.val (wn rfl) rfl (fun _ _ h1 h2 => run_move (h1.ev rfl)) ?_
                  obtain ⟨x918, hx918, H⟩ := bnd H
                  obtain ⟨hx9180, hx9181, hx9182⟩ := idx_some hx918
                  refine Tq.val (wn rfl) rfl (fun _ _ h1 h2 => run_indexAddr el_22 (h1.ev rfl) hgy100_0 (h1.ev rfl) hx9180 hx9181) ?_
                  refine Tq.val (wn rfl) rfl (fun _ _ h1 h2 => run_fieldAddr fo_29_0 (h1.ev rfl)) ?_
                  refine Tq.val (wn rfl) rfl (fun _ _ h1 h2 => run_load1 ag_3 (h1.ev rfl) (CellsAt.drop (rdo ef_TRect (k := 2) h2 rfl hx9182) 0) rfl) ?_
                  refine Tq.val (wn rfl) rfl (fun _ _ h1 h2 => run_move (h1.ev rfl)) ?_
                  refine Tq.val (wn rfl) rfl (fun _ _ h1 h2 => run_move (h1.ev rfl)) ?_
                  obtain ⟨x919, hx919, H⟩ := bnd H
                  obtain ⟨hx9190, hx9191, hx9192⟩ := idx_some hx919
                  refine Tq.val (wn rfl) rfl (fun _ _ h1 h2 => run_indexAddr el_22 (h1.ev rfl) hgy100_0 (h1.ev rfl) hx9190 hx9191) ?_
                  refine Tq.val (wn rfl) rfl (fun _ _ h1 h2 => run_fieldAddr fo_29_2 (h1.ev rfl)) ?_
                  refine Tq.val (wn rfl) rfl (fun _ _ h1 h2 => run_load1 ag_3 (h1.ev rfl) (CellsAt.drop (rdo ef_TRect (k := 2) h2 rfl hx9192) 2) rfl) ?_
                  refine Tq.val (wn rfl) rfl (fun _ _ h1 h2 => run_lss (h1.ev rfl) (h1.ev rfl)) ?_
                  refine Tq.val (wn rfl) rfl (fun _ _ h1 h2 => run_move (h1.ev rfl)) ?_
                  obtain ⟨g922, hg922, H⟩ := bnd H
                  refine Tq.mid 12 [(0, (.slice Ap0_0 (p0).length cp0_0)), (3, (.slice Ay100_0 (y100).length cy100_0)), (4, (.pointer (some ⟨b104, 0, none⟩))), (6, (.func (.func 84) #[] #[(.pointer (some ⟨b104, 0, none⟩))])), (7, (.int .i64 x582)), (11, (.int .i64 (w64 (Int.tdiv (xF_shape_Set__Parts_L20.Xs.length : Int) 2)))), (12, (.int .i64 x898)), (13, (.int .i64 x899)), (42, (.slice Ap0_0 (p0).length cp0_0)), (43, (.int .i64 (p0.length : Int))), (44, (.int .i64 (iF_shape_Set__Parts_L20 : Int))), (101, (.bool g922))] ?_ ?_
                  · cases hg930 : (decide (x918.X0 < x919.X1))
                    · rw [hg930] at hg922
                      rw [if_neg (by decide)] at hg922
                      have H := hg922
                      obtain rfl := Option.some.inj H
                      refine Tq.pass rfl rfl rfl rfl rfl (by decide) ?_
                      refine Tq.pass rfl rfl rfl rfl rfl (by decide) ?_
                      refine Tq.pass rfl rfl rfl rfl rfl (by decide) ?_
                      refine Tq.pass rfl rfl rfl rfl rfl (by decide) ?_
                      refine Tq.pass rfl rfl rfl rfl rfl (by decide) ?_
                      refine Tq.pass rfl rfl rfl rfl rfl (by decide) ?_
                      refine Tq.pass rfl rfl rfl rfl rfl (by decide) ?_
                      refine Tq.pass rfl rfl rfl rfl rfl (by decide) ?_
                      refine Tq.pass rfl rfl rfl rfl rfl (by decide) ?_
                      refine Tq.pass rfl rfl rfl rfl rfl (by decide) ?_
                      refine Tq.pass rfl rfl rfl rfl rfl (by decide) ?_
                      refine Tq.val (wn rfl) rfl (fun _ _ h1 h2 => run_pickF (h1.ev rfl) (h1.ev rfl)) ?_
                      exact Tq.fin (.cons rfl (.cons rfl (.cons rfl (.cons rfl (.cons rfl (.cons rfl (.cons rfl (.cons rfl (.cons rfl (.cons rfl (.cons rfl (.cons rfl .nil))))))))))))
                    · rw [hg930] at hg922
                      rw [if_pos rfl] at hg922
                      have H := hg922
                      refine Tq.val (wg rfl rfl rfl) rfl (fun _ _ h1 h2 => run_move (h1.ev rfl)) ?_
                      refine Tq.val (wg rfl rfl rfl) rfl (fun _ _ h1 h2 => run_move (h1.ev rfl)) ?_
                      obtain ⟨x923, hx923, H⟩ := bnd H
                      obtain ⟨hx9230, hx9231, hx9232⟩ := idx_some hx923
                      refine Tq.val (wg rfl rfl rfl) rfl (fun _ _ h1 h2 => run_indexAddr el_22 (h1.ev rfl) hgy100_0 (h1.ev rfl) hx9230 hx9231) ?_
                      refine Tq.val (wg rfl rfl rfl) rfl (fun _ _ h1 h2 => run_fieldAddr fo_29_0 (h1.ev rfl)) ?_
                      refine Tq.val (wg rfl rfl rfl) rfl (fun _ _ h1 h2 => run_load1 ag_3 (h1.ev rfl) (CellsAt.drop (rdo ef_TRect (k := 2) h2 rfl hx9232) 0) rfl) ?_
                      refine Tq.val (wg rfl rfl rfl) rfl (fun _ _ h1 h2 => run_move (h1.ev rfl)) ?_
                      refine Tq.val (wg rfl rfl rfl) rfl (fun _ _ h1 h2 => run_move (h1.ev rfl)) ?_
                      obtain ⟨x924, hx924, H⟩ := bnd H
                      obtain ⟨hx9240, hx9241, hx9242⟩ := idx_some hx924
                      refine Tq.val (wg rfl rfl rfl) rfl (fun _ _ h1 h2 => run_indexAddr el_22 (h1.ev rfl) hgy100_0 (h1.ev rfl) hx9240 hx9241) ?_
                      refine Tq.val (wg rfl rfl rfl) rfl (fun _ _ h1 h2 => run_fieldAddr fo_29_2 (h1.ev rfl)) ?_
                      refine Tq.val (wg rfl rfl rfl) rfl (fun _ _ h1 h2 => run_load1 ag_3 (h1.ev rfl) (CellsAt.drop (rdo ef_TRect (k := 2) h2 rfl hx9242) 2) rfl) ?_
                      refine Tq.val (wg rfl rfl rfl) rfl (fun _ _ h1 h2 => run_lss (h1.ev rfl) (h1.ev rfl)) ?_
                      refine Tq.val (wn rfl) rfl (fun _ _ h1 h2 => run_pickT (h1.ev rfl) (h1.ev rfl)) ?_
                      obtain rfl := Option.some.inj H
                      exact Tq.fin (.cons rfl (.cons rfl (.cons rfl (.cons rfl (.cons rfl (.cons rfl (.cons rfl (.cons rfl (.cons rfl (.cons rfl (.cons rfl (.cons rfl .nil))))))))))))
                  · refine Tq.nil (Tr.normThen ?_)
                    refine Tr.cond rfl H (fun H => ?_) (fun H => ?_)
                    · refine Tr.seq ?_
                      refine Tr.region ?_
                      refine Tr.val (wn rfl) rfl (fun _ _ h1 h2 => run_move (h1.ev rfl)) ?_
                      refine Tr.val (wn rfl) rfl (fun _ _ h1 h2 => run_move (h1.ev rfl)) ?_
                      obtain ⟨y925, hy925, H⟩ := bnd H
                      refine Tr.callMC [4, 3] [bx b104 #[(.slice Al897 (l897).length cl897)] 97, ow Al897 cl897 3 fl_i64 l897] (U := (Option Addr × Nat)) (fun u => (.int .i64 y925.1)) (fun u => SlF u.1 (y925.2).length u.2) (fun u => [bx b104 #[(.slice u.1 (y925.2).length u.2)] 97, ow u.1 u.2 3 fl_i64 y925.2]) rfl (pk_cons rfl (pk_cons rfl pk_nil)) (fun _ => rfl) (wn rfl) rfl rfl Try.call84 (evl_cons rfl evl_nil) (fun W hW hp hE => F_shape_Set__Parts_1_ok N x898 l897 Al897 cl897 b104 y925 hy925 hE) ?_
                      intro u hu
                      obtain ⟨Ay925_0, cy925_0⟩ := u
                      have gy925_0 := hu
                      have hgy925_0 : SlF Ay925_0 (y925.2).length cy925_0 := gy925_0 --@phi
                      show Tr _ _ (uf _ 104 (.int .i64 y925.1)) (up (up _ 3 (ow Ay925_0 cy925_0 3 fl_i64 y925.2)) 4 (bx b104 #[(.slice Ay925_0 (y925.2).length cy925_0)] 97)) _
                      refine Tr.val (wn rfl) rfl (fun _ _ h1 h2 => run_move (h1.ev rfl)) ?_
                      refine Tr.val (wn rfl) rfl (fun _ _ h1 h2 => run_move (h1.ev rfl)) ?_
                      obtain ⟨y927, hy927, H⟩ := bnd H
                      refine Tr.callMC [4, 3] [bx b104 #[(.slice Ay925_0 (y925.2).length cy925_0)] 97, ow Ay925_0 cy925_0 3 fl_i64 y925.2] (U := (Option Addr × Nat)) (fun u => (.int .i64 y927.1)) (fun u => SlF u.1 (y927.2).length u.2) (fun u => [bx b104 #[(.slice u.1 (y927.2).length u.2)] 97, ow u.1 u.2 3 fl_i64 y927.2]) rfl (pk_cons rfl (pk_cons rfl pk_nil)) (fun _ => rfl) (wn rfl) rfl rfl Try.call84 (evl_cons rfl evl_nil) (fun W hW hp hE => F_shape_Set__Parts_1_ok N x899 y925.2 Ay925_0 cy925_0 b104 y927 hy927 hE) ?_
                      intro u hu
                      obtain ⟨Ay927_0, cy927_0⟩ := u
                      have gy927_0 := hu
                      have hgy927_0 : SlF Ay927_0 (y927.2).length cy927_0 := gy927_0 --@phi
                      show Tr _ _ (uf _ 107 (.int .i64 y927.1)) (up (up _ 3 (ow Ay927_0 cy927_0 3 fl_i64 y927.2)) 4 (bx b104 #[(.slice Ay927_0 (y927.2).length cy927_0)] 97)) _
                      refine Tr.val (wn rfl) rfl (fun _ _ h1 h2 => run_assign (h1.ev rfl)) ?_
                      refine Tr.val (wn rfl) rfl (fun _ _ h1 h2 => run_assign (h1.ev rfl)) ?_
                      refine Tr.nil (Tr.normThen ?_)
                      refine Tr.region ?_
                      refine Tr.val (wn rfl) rfl (fun _ _ h1 h2 => run_load1 ag_97 (h1.ev rfl) (rdb h2 (vs := [(.slice Ay927_0 (y927.2).length cy927_0)]) (k := 4) rfl 0) rfl) ?_
                      refine Tr.val (wn rfl) rfl (fun _ _ h1 h2 => run_move (h1.ev rfl)) ?_
                      refine Tr.val (wn rfl) rfl (fun _ _ h1 h2 => run_move (h1.ev rfl)) ?_
                      refine Tr.val (wn rfl) rfl (fun _ _ h1 h2 => run_max (h1.ev rfl) (h1.ev rfl) _) ?_
                      refine Tr.val (wn rfl) rfl (fun _ _ h1 h2 => run_move (h1.ev rfl)) ?_
                      refine Tr.val (wn rfl) rfl (fun _ _ h1 h2 => run_move (h1.ev rfl)) ?_
                      refine Tr.val (wn rfl) rfl (fun _ _ h1 h2 => run_min (h1.ev rfl) (h1.ev rfl) _) ?_
                      obtain ⟨x929, hx929, H⟩ := bnd H
                      obtain ⟨hx9290, hx9291, hx9292⟩ := idx_some hx929
                      refine Tr.val (wn rfl) rfl (fun _ _ h1 h2 => run_indexAddr el_97 (h1.ev rfl) hgy927_0 (h1.ev rfl) hx9290 hx9291) ?_
                      obtain ⟨l930, hl930, H⟩ := bnd H
                      have hnl930 := sets_len hl930
                      refine Tr.storeEl 3 (t := fl_i64) (l := y927.2) (i := (max y925.1 y927.1)) (fo := 0) (cs := [(.int .i64 (min y925.1 y927.1))]) (min y925.1 y927.1) (wn rfl) rfl rfl rfl rfl rfl hx9292 sz_3 rfl (fun u _ => ⟨u, trivial, rfl⟩) rfl hl930 ?_
                      have hfl930 : SlF Ay927_0 (l930).length cy927_0 := by rw [hnl930]; exact hgy927_0
                      refine Tr.sel (lf := [(0, (.slice Ap0_0 (p0).length cp0_0)), (3, (.slice Ay100_0 (y100).length cy100_0)), (4, (.pointer (some ⟨b104, 0, none⟩))), (6, (.func (.func 84) #[] #[(.pointer (some ⟨b104, 0, none⟩))])), (7, (.int .i64 x582)), (11, (.int .i64 (w64 (Int.tdiv (xF_shape_Set__Parts_L20.Xs.length : Int) 2)))), (12, (.int .i64 x898)), (13, (.int .i64 x899)), (14, (.int .i64 y925.1)), (15, (.int .i64 y927.1)), (42, (.slice Ap0_0 (p0).length cp0_0)), (43, (.int .i64 (p0.length : Int))), (44, (.int .i64 (iF_shape_Set__Parts_L20 : Int))), (101, (.bool g922)), (102, (.func (.func 84) #[] #[(.pointer (some ⟨b104, 0, none⟩))])), (103, (.int .i64 x898)), (104, (.int .i64 y925.1)), (105, (.func (.func 84) #[] #[(.pointer (some ⟨b104, 0, none⟩))])), (106, (.int .i64 x899)), (107, (.int .i64 y927.1)), (108, (.slice Ay927_0 (l930).length cy927_0)), (109, (.int .i64 y925.1)), (110, (.int .i64 y927.1)), (111, (.int .i64 (max y925.1 y927.1))), (112, (.int .i64 y925.1)), (113, (.int .i64 y927.1)), (114, (.int .i64 (min y925.1 y927.1)))]) (le := [(2, ow Ay100_0 cy100_0 29 fl_TRect y100), (3, ow Ay927_0 cy927_0 3 fl_i64 l930), (4, bx b104 #[(.slice Ay927_0 (l930).length cy927_0)] 97)]) (.cons rfl (.cons rfl (.cons rfl (.cons rfl (.cons rfl (.cons rfl (.cons rfl (.cons rfl (.cons rfl (.cons rfl (.cons rfl (.cons rfl (.cons rfl (.cons rfl (.cons rfl (.cons rfl (.cons rfl (.cons rfl (.cons rfl (.cons rfl (.cons (slenV rfl (by rw [hnl930])) (.cons rfl (.cons rfl (.cons rfl (.cons rfl (.cons rfl (.cons rfl .nil))))))))))))))))))))))))))) (.cons rfl (.cons rfl (.cons (ebx rfl (by rw [hnl930])) .nil))) ?_
                      refine Tr.nil ?_
                      exact Tr.backThen leJ914 (l930, Ay927_0, cy927_0) ⟨H, hfl930⟩ (.cons rfl (.cons rfl (.cons rfl (.cons rfl (.cons rfl (.cons rfl (.cons rfl (.cons rfl (.cons rfl (.cons rfl (.cons rfl .nil))))))))))) (.cons rfl (.cons rfl (.cons rfl .nil)))
                    · refine Tr.skip ?_
                      exact Tr.backThen leJ914 (l897, Al897, cl897) ⟨H, hl897⟩ (.cons rfl (.cons rfl (.cons rfl (.cons rfl (.cons rfl (.cons rfl (.cons rfl (.cons rfl (.cons rfl (.cons rfl (.cons rfl .nil))))))))))) (.cons rfl (.cons rfl (.cons rfl .nil)))
                · intro w s hlJ915 hs
                  obtain ⟨l913, Al913, cl913⟩ := s
                  obtain ⟨H, hl913⟩ := hs
                  replace H : F_shape_Set__Parts_J34 y100 x898 x899 (F_shape_Set__Parts_L33 N y100 x582 (F_shape_Set__Parts_L20 N p0 y100 restF_shape_Set__Parts_L20 (iF_shape_Set__Parts_L20 + 1)) xF_shape_Set__Parts_L20 mF_shape_Set__Parts_L33) l913 = some r := H
                  replace hp0_0 := hp0_0.leR hlJ915
                  replace leB := leB.trans hlJ915
                  replace leF_shape_Set__Parts_L1 := leF_shape_Set__Parts_L1.trans hlJ915
                  replace leF_shape_Set__Parts_L20 := leF_shape_Set__Parts_L20.trans hlJ915
                  replace leJ819 := leJ819.trans hlJ915
                  replace leF_shape_Set__Parts_L33 := leF_shape_Set__Parts_L33.trans hlJ915
                  replace hl913 : SlF Al913 (l913).length cl913 := hl913
                  unfold F_shape_Set__Parts_J34 at H
                  show Tr _ _ (LF [(0, (.slice Ap0_0 (p0).length cp0_0)), (3, (.slice Ay100_0 (y100).length cy100_0)), (4, (.pointer (some ⟨b104, 0, none⟩))), (6, (.func (.func 84) #[] #[(.pointer (some ⟨b104, 0, none⟩))])), (7, (.int .i64 x582)), (11, (.int .i64 (w64 (Int.tdiv (xF_shape_Set__Parts_L20.Xs.length : Int) 2)))), (12, (.int .i64 x898)), (13, (.int .i64 x899)), (42, (.slice Ap0_0 (p0).length cp0_0)), (43, (.int .i64 (p0.length : Int))), (44, (.int .i64 (iF_shape_Set__Parts_L20 : Int)))]) (LE [(2, ow Ay100_0 cy100_0 29 fl_TRect y100), (3, ow Al913 cl913 3 fl_i64 l913), (4, bx b104 #[(.slice Al913 (l913).length cl913)] 97)]) _
                  refine Tr.seq ?_
                  refine Tr.draw (by kernel_rfl) (by kernel_rfl) ?_
                  refine Tq.val (wn rfl) rfl (fun _ _ h1 h2 => run_move (h1.ev rfl)) ?_
                  refine Tq.val (wn rfl) rfl (fun _ _ h1 h2 => run_move (h1.ev rfl)) ?_
                  obtain ⟨x916, hx916, H⟩ := bnd H
                  obtain ⟨hx9160, hx9161, hx9162⟩ := idx_some hx916
                  refine Tq.val (wn rfl) rfl (fun _ _ h1 h2 => run_indexAddr el_22 (h1.ev rfl) hgy100_0 (h1.ev rfl) hx9160 hx9161) ?_
                  refine Tq.val (wn rfl) rfl (fun _ _ h1 h2 => run_fieldAddr fo_29_2 (h1.ev rfl)) ?_
                  refine Tq.val (wn rfl) rfl (fun _ _ h1 h2 => run_load1 ag_3 (h1.ev rfl) (CellsAt.drop (rdo ef_TRect (k := 2) h2 rfl hx9162) 2) rfl) ?_
                  refine Tq.val (wn rfl) rfl (fun _ _ h1 h2 => run_move (h1.ev rfl)) ?_
                  refine Tq.val (wn rfl) rfl (fun _ _ h1 h2 => run_move (h1.ev rfl)) ?_
                  obtain ⟨x917, hx917, H⟩ := bnd H
                  obtain ⟨hx9170, hx9171, hx9172⟩ := idx_some hx917
                  refine Tq.val (wn rfl) rfl (fun _ _ h1 h2 => run_indexAddr el_22 (h1.ev rfl) hgy100_0 (h1.ev rfl) hx9170 hx9171) ?_
                  refine Tq.val (wn rfl) rfl (fun _ _ h1 h2 => run_fieldAddr fo_29_2 (h1.ev rfl)) ?_
                  refine Tq.val (wn rfl) rfl (fun _ _ h1 h2 => run_load1 ag_3 (h1.ev rfl) (CellsAt.drop (rdo ef_TRect (k := 2) h2 rfl hx9172) 2) rfl) ?_
                  refine Tq.val (wn rfl) rfl (fun _ _ h1 h2 => run_lss (h1.ev rfl) (h1.ev rfl)) ?_
                  refine Tq.nil (Tr.normThen ?_)
                  refine Tr.cond rfl H (fun H => ?_) (fun H => ?_)
                  · refine Tr.region ?_
                    refine Tr.val (wn rfl) rfl (fun _ _ h1 h2 => run_move (h1.ev rfl)) ?_
                    refine Tr.val (wn rfl) rfl (fun _ _ h1 h2 => run_add (h1.ev rfl) (h1.ev rfl)) ?_
                    refine Tr.val (wn rfl) rfl (fun _ _ h1 h2 => run_assign (h1.ev rfl)) ?_
                    refine Tr.nil (Tr.normBlock ?_)
                    exact Tr.backThen leF_shape_Set__Parts_L33 (l913, (w64 (x898 + 1)), x899, Al913, cl913) ⟨H, hl913⟩ (.cons rfl (.cons rfl (.cons rfl (.cons rfl (.cons rfl (.cons rfl (.cons rfl (.cons rfl (.cons rfl (.cons rfl (.cons rfl .nil))))))))))) (.cons rfl (.cons rfl (.cons rfl .nil)))
                  · refine Tr.region ?_
                    refine Tr.val (wn rfl) rfl (fun _ _ h1 h2 => run_move (h1.ev rfl)) ?_
                    refine Tr.val (wn rfl) rfl (fun _ _ h1 h2 => run_add (h1.ev rfl) (h1.ev rfl)) ?_
                    refine Tr.val (wn rfl) rfl (fun _ _ h1 h2 => run_assign (h1.ev rfl)) ?_
                    refine Tr.nil (Tr.normBlock ?_)
                    exact Tr.backThen leF_shape_Set__Parts_L33 (l913, x898, (w64 (x899 + 1)), Al913, cl913) ⟨H, hl913⟩ (.cons rfl (.cons rfl (.cons rfl (.cons rfl (.cons rfl (.cons rfl (.cons rfl (.cons rfl (.cons rfl (.cons rfl (.cons rfl .nil))))))))))) (.cons rfl (.cons rfl (.cons rfl .nil)))
              · refine Tr.exit (Tr.exitThen (Tr.exitThen (Tr.exitBlock ?_)))
                exact Tr.backThen leJ819 (l897, Al897, cl897) ⟨H, hl897⟩ (.cons rfl (.cons rfl (.cons rfl (.cons rfl (.cons rfl (.cons rfl (.cons rfl (.cons rfl (.cons rfl .nil))))))))) (.cons rfl (.cons rfl (.cons rfl .nil)))
          · refine Tr.skip ?_
            exact Tr.backThen leJ819 (l581, Al581, cl581) ⟨H, hl581⟩ (.cons rfl (.cons rfl (.cons rfl (.cons rfl (.cons rfl (.cons rfl (.cons rfl (.cons rfl (.cons rfl .nil))))))))) (.cons rfl (.cons rfl (.cons rfl .nil)))
      · intro w s hlJ820 hs
        obtain ⟨l818, Al818, cl818⟩ := s
        obtain ⟨H, hl818⟩ := hs
        replace H : F_shape_Set__Parts_J30 x582 (F_shape_Set__Parts_L20 N p0 y100 restF_shape_Set__Parts_L20 (iF_shape_Set__Parts_L20 + 1)) xF_shape_Set__Parts_L20 l818 = some r := H
        replace hp0_0 := hp0_0.leR hlJ820
        replace leB := leB.trans hlJ820
        replace leF_shape_Set__Parts_L1 := leF_shape_Set__Parts_L1.trans hlJ820
        replace leF_shape_Set__Parts_L20 := leF_shape_Set__Parts_L20.trans hlJ820
        replace hl818 : SlF Al818 (l818).length cl818 := hl818
        unfold F_shape_Set__Parts_J30 at H
        show Tr _ _ (LF [(0, (.slice Ap0_0 (p0).length cp0_0)), (3, (.slice Ay100_0 (y100).length cy100_0)), (4, (.pointer (some ⟨b104, 0, none⟩))), (6, (.func (.func 84) #[] #[(.pointer (some ⟨b104, 0, none⟩))])), (7, (.int .i64 x582)), (11, (.int .i64 (w64 (Int.tdiv (xF_shape_Set__Parts_L20.Xs.length : Int) 2)))), (42, (.slice Ap0_0 (p0).length cp0_0)), (43, (.int .i64 (p0.length : Int))), (44, (.int .i64 (iF_shape_Set__Parts_L20 : Int)))]) (LE [(2, ow Ay100_0 cy100_0 29 fl_TRect y100), (3, ow Al818 cl818 3 fl_i64 l818), (4, bx b104 #[(.slice Al818 (l818).length cl818)] 97)]) _
        refine Tr.region ?_
        refine Tr.val (wn rfl) rfl (fun _ _ h1 h2 => run_move (h1.ev rfl)) ?_
        refine Tr.val (wn rfl) rfl (fun _ _ h1 h2 => run_move (h1.ev rfl)) ?_
        refine Tr.val (wn rfl) rfl (fun _ _ h1 h2 => run_move (h1.ev rfl)) ?_
        refine Tr.val (wn rfl) rfl (fun _ _ h1 h2 => run_add (h1.ev rfl) (h1.ev rfl)) ?_
        refine Tr.val (wn rfl) rfl (fun _ _ h1 h2 => run_assign (h1.ev rfl)) ?_
        refine Tr.val (wn rfl) rfl (fun _ _ h1 h2 => run_assign (h1.ev rfl)) ?_
        refine Tr.nil (Tr.normBlock (Tr.normThen ?_))
        refine Tr.region ?_
        refine Tr.val (wn rfl) rfl (fun _ _ h1 h2 => run_add (h1.ev rfl) (h1.ev rfl)) ?_
        refine Tr.val (wn rfl) rfl (fun _ _ h1 h2 => run_move (h1.ev rfl)) ?_
        refine Tr.nil ?_
        exact Tr.backThen leF_shape_Set__Parts_L20 (restF_shape_Set__Parts_L20, (iF_shape_Set__Parts_L20 + 1), l818, (w64 (x582 + (w64 (Int.tdiv (xF_shape_Set__Parts_L20.Xs.length : Int) 2)))), x582, Al818, cl818) ⟨rfl, range_tl hdF_shape_Set__Parts_L20, range_lt hdF_shape_Set__Parts_L20, H, hl818⟩ (.cons rfl (.cons rfl (.cons rfl (.cons rfl (.cons rfl (.cons rfl (.cons rfl (.cons rfl (.cons (congrArg (fun z => some (Value.int .i64 z)) (range_up hdF_shape_Set__Parts_L20 hp0_0.form)) .nil))))))))) (.cons rfl (.cons rfl (.cons rfl .nil)))

theorem F_shape_Pieces_ok (N : Nat) {w : Bs} (p0 : (List TRect)) (Ap0_0 : Option Addr) (cp0_0 : Nat) (hp0_0 : Sl w.R w.W fl_TRect Ap0_0 cp0_0 p0) (r : ((List (List TRect)) × Int)) (H : F_shape_Pieces N p0 = some r) (hE : HF w w.W (LEn [emp])) : Calls Try.prog 22 [(.slice Ap0_0 (p0).length cp0_0)].toArray w.W fun e W' => ∃ (w' : Bs) (u : (Option Addr × Nat)), w.Le w' ∧ e = .returned (.tuple #[(.slice u.1 (r.1).length u.2), (.int .i64 r.2)]) ∧ (SlF u.1 (r.1).length u.2) ∧ HF w' W' (LEn [ow u.1 u.2 22 fl_LTRect r.1]) := by
  unfold F_shape_Pieces at H
  have leB := Bs.Le.refl w
  refine Tr.enter (n := 28) Try.func22 rfl rfl rfl hE ?_
  refine Tr.seq ?_
  refine Tr.region ?_
  refine Tr.val (wn rfl) rfl (fun _ _ h1 h2 => run_assign (h1.ev rfl)) ?_
  refine Tr.nilOwn 1 22 fl_LTRect ?_
  show Tr _ _ (uf _ 2 (.slice none (([] : List (List TRect))).length 0)) _ _
  refine Tr.val (wn rfl) rfl (fun _ _ h1 h2 => run_assign (h1.ev rfl)) ?_
  refine Tr.nil (Tr.normThen ?_)
  refine Tr.seq ?_
  refine Tr.seq ?_
  refine Tr.region ?_
  refine Tr.val (wn rfl) rfl (fun _ _ h1 h2 => run_move (h1.ev rfl)) ?_
  obtain ⟨y100, hy100, H⟩ := bnd H
  refine Tr.call0 (r := (.int .i64 y100)) (wn rfl) rfl Try.call18 (evl_cons rfl evl_nil) (fun W hW => F_shape_CheckRegion_ok N p0 Ap0_0 cp0_0 (hp0_0.ext hW.extAll) y100 hy100 (HF.start _)) ?_
  refine Tr.val (wn rfl) rfl (fun _ _ h1 h2 => run_assign (h1.ev rfl)) ?_
  refine Tr.nil (Tr.normThen ?_)
  refine Tr.seq ?_
  refine Tr.region ?_
  refine Tr.val (wn rfl) rfl (fun _ _ h1 h2 => run_move (h1.ev rfl)) ?_
  refine Tr.val (wn rfl) rfl (fun _ _ h1 h2 => run_neq (h1.ev rfl) (h1.ev rfl)) ?_
  refine Tr.nil (Tr.normThen ?_)
  refine Tr.cond rfl H (fun H => ?_) (fun H => ?_)
  · refine Tr.seq ?_
    refine Tr.region ?_
    refine Tr.val (wn rfl) rfl (fun _ _ h1 h2 => run_move (h1.ev rfl)) ?_
    refine Tr.val (wn rfl) rfl (fun _ _ h1 h2 => run_assign (h1.ev rfl)) ?_
    refine Tr.nilOwn 2 22 fl_LTRect ?_
    show Tr _ _ (uf _ 2 (.slice none (([] : List (List TRect))).length 0)) _ _
    refine Tr.val (wn rfl) rfl (fun _ _ h1 h2 => run_assign (h1.ev rfl)) ?_
    refine Tr.nil (Tr.normThen ?_)
    refine Tr.ret (Tr.retThen ?_)
    obtain rfl := Option.some.inj H
    exact Tr.out (m := [(.slice none (([] : List (List TRect))).length 0), (.int .i64 y100)]) [] (res_tmp rfl (res_tmp rfl res_nil)) (fun W hW => ⟨w, (none, 0), leB, rfl, slf_nil, hW.pick (ks := [2]) (by decide) (pk_cons rfl pk_nil)⟩)
  · refine Tr.skip (Tr.normThen ?_)
    refine Tr.seq ?_
    refine Tr.region ?_
    refine Tr.val (wn rfl) rfl (fun _ _ h1 h2 => run_assign (h1.ev rfl)) ?_
    refine Tr.nilOwn 3 22 fl_LTRect ?_
    show Tr _ _ (uf _ 5 (.slice none (([] : List (List TRect))).length 0)) _ _
    refine Tr.nil (Tr.normThen ?_)
    refine Tr.seq ?_
    refine Tr.seq ?_
    refine Tr.region ?_
    refine Tr.val (wn rfl) rfl (fun _ _ h1 h2 => run_move (h1.ev rfl)) ?_
    obtain ⟨y101, hy101, H⟩ := bnd H
    refine Tr.callG [4] [emp] (U := (Option Addr × Nat)) (fun u => (.slice u.1 (y101).length u.2)) (fun O W u => SlF u.1 (y101).length u.2) (fun u => [ow u.1 u.2 104 fl_TBand y101]) rfl (pk_cons rfl pk_nil) (fun _ => rfl) (wn rfl) rfl Try.call40 (evl_cons rfl evl_nil) (fun W hW hp hE => F_shape_SetOf_ok N p0 Ap0_0 cp0_0 (hp0_0.ext (hW.extS hp)) y101 hy101 hE) ?_
    intro w u le102 hu
    obtain ⟨Ay101_0, cy101_0⟩ := u
    have gy101_0 := hu
    replace hp0_0 := hp0_0.leR le102
    replace leB := leB.trans le102
    have hgy101_0 : SlF Ay101_0 (y101).length cy101_0 := gy101_0 --@phi
    show Tr _ _ (uf _ 14 (.slice Ay101_0 (y101).length cy101_0)) (up _ 4 (ow Ay101_0 cy101_0 104 fl_TBand y101)) _
    obtain ⟨y103, hy103, H⟩ := bnd H
    refine Tr.callG [5] [emp] (U := (Option Addr × Nat)) (fun u => (.slice u.1 (y103).length u.2)) (fun O W u => SlF u.1 (y103).length u.2) (fun u => [ow u.1 u.2 65 fl_LTBand y103]) rfl (pk_cons rfl pk_nil) (fun _ => rfl) (wn rfl) rfl Try.call47 (evl_cons rfl evl_nil) (fun W hW hp hE => F_shape_Set__Parts_ok N y101 Ay101_0 cy101_0 (hW.slS (k := 4) rfl hp rfl) y103 hy103 hE) ?_
    intro w u le104 hu
    obtain ⟨Ay103_0, cy103_0⟩ := u
    have gy103_0 := hu
    replace hp0_0 := hp0_0.leR le104
    replace leB := leB.trans le104
    have hgy103_0 : SlF Ay103_0 (y103).length cy103_0 := gy103_0 --@phi
    show Tr _ _ (uf _ 15 (.slice Ay103_0 (y103).length cy103_0)) (up _ 5 (ow Ay103_0 cy103_0 65 fl_LTBand y103)) _
    refine Tr.val (wn rfl) rfl (fun _ _ h1 h2 => run_len un_75 (h1.ev rfl)) ?_
    refine Tr.val (wn rfl) rfl (fun _ _ h1 h2 => run_move (h1.ev rfl)) ?_
    refine Tr.nil (Tr.normThen ?_)
    refine Tr.block ?_
    refine Tr.loop (σ := (List (List TBand)) × Nat × (List (List TRect)) × (Option Addr) × Nat) (fun m w s => m = s.1.length + 1 ∧ s.1 = List.drop s.2.1 y103 ∧ s.2.1 ≤ y103.length ∧ F_shape_Pieces_L1 N s.1 s.2.1 s.2.2.1 = some r ∧ SlF s.2.2.2.1 (s.2.2.1).length s.2.2.2.2) (fun s => [(5, (.slice s.2.2.2.1 (s.2.2.1).length s.2.2.2.2)), (15, (.slice Ay103_0 (y103).length cy103_0)), (16, (.int .i64 (y103.length : Int))), (17, (.int .i64 (s.2.1 : Int)))]) (fun s => [(3, ow s.2.2.2.1 s.2.2.2.2 22 fl_LTRect s.2.2.1), (5, ow Ay103_0 cy103_0 65 fl_LTBand y103)]) (y103.length + 1) (y103, 0, ([] : List (List TRect)), none, 0) ⟨rfl, rfl, Nat.zero_le _, H, slf_nil⟩ (.cons rfl (.cons rfl (.cons rfl (.cons rfl .nil)))) (.cons rfl (.cons rfl .nil)) (fun _ _ h => absurd h.1 (by simp)) ?_
    intro w leF_shape_Pieces_L1 m s hs
    obtain ⟨restF_shape_Pieces_L1, iF_shape_Pieces_L1, l127, Al127, cl127⟩ := s
    obtain ⟨hmF_shape_Pieces_L1, hdF_shape_Pieces_L1, hiF_shape_Pieces_L1, H, hl127⟩ := hs
    replace hdF_shape_Pieces_L1 : restF_shape_Pieces_L1 = List.drop iF_shape_Pieces_L1 y103 := hdF_shape_Pieces_L1
    replace H : F_shape_Pieces_L1 N restF_shape_Pieces_L1 iF_shape_Pieces_L1 l127 = some r := H
    replace hmF_shape_Pieces_L1 : m + 1 = restF_shape_Pieces_L1.length + 1 := hmF_shape_Pieces_L1
    replace leB := leB.trans leF_shape_Pieces_L1
    replace hl127 : SlF Al127 (l127).length cl127 := hl127
    obtain rfl : m = restF_shape_Pieces_L1.length := by omega
    clear hmF_shape_Pieces_L1
    show Tr _ _ (LF [(5, (.slice Al127 (l127).length cl127)), (15, (.slice Ay103_0 (y103).length cy103_0)), (16, (.int .i64 (y103.length : Int))), (17, (.int .i64 (iF_shape_Pieces_L1 : Int)))]) (LE [(3, ow Al127 cl127 22 fl_LTRect l127), (5, ow Ay103_0 cy103_0 65 fl_LTBand y103)]) _
    cases restF_shape_Pieces_L1 with
    | nil =>
      rw [F_shape_Pieces_L1.eq_1] at H
      refine Tr.seq ?_
      refine Tr.region ?_
      refine Tr.val (wn rfl) rfl (fun _ _ h1 h2 => run_lss (h1.ev rfl) (h1.ev rfl)) ?_
      refine Tr.nil (Tr.normThen ?_)
      refine Tr.seq ?_
      refine Tr.condF rfl (range_nil hdF_shape_Pieces_L1) ?_
      refine Tr.exit (Tr.exitThen (Tr.exitThen (Tr.exitBlock (Tr.normThen ?_))))
      refine Tr.seq ?_
      refine Tr.region ?_
      refine Tr.val (wn rfl) rfl (fun _ _ h1 h2 => run_move (h1.ev rfl)) ?_
      refine Tr.val (wn rfl) rfl (fun _ _ h1 h2 => run_assign (h1.ev rfl)) ?_
      refine Tr.val (wn rfl) rfl (fun _ _ h1 h2 => run_assign (h1.ev rfl)) ?_
      refine Tr.nil (Tr.normThen ?_)
      refine Tr.ret ?_
      obtain rfl := Option.some.inj H
      exact Tr.out (m := [(.slice Al127 (l127).length cl127), (.int .i64 0)]) [] (res_tmp rfl (res_tmp rfl res_nil)) (fun W hW => ⟨w, (Al127, cl127), leB, rfl, hl127, hW.pick (ks := [3]) (by decide) (pk_cons rfl pk_nil)⟩)
    | cons xF_shape_Pieces_L1 restF_shape_Pieces_L1 =>
      rw [F_shape_Pieces_L1.eq_2] at H
      refine Tr.seq ?_
      refine Tr.region ?_
      refine Tr.val (wn rfl) rfl (fun _ _ h1 h2 => run_lss (h1.ev rfl) (h1.ev rfl)) ?_
      refine Tr.nil (Tr.normThen ?_)
      refine Tr.seq ?_
      refine Tr.condT rfl (range_on hdF_shape_Pieces_L1) ?_
      refine Tr.skip (Tr.normThen ?_)
      refine Tr.seq ?_
      refine Tr.block ?_
      refine Tr.seq ?_
      refine Tr.region ?_
      refine Tr.val (wn rfl) rfl (fun _ _ h1 h2 => run_indexAddr el_75 (h1.ev rfl) hgy103_0 (h1.ev rfl) (Int.natCast_nonneg _) (range_lt hdF_shape_Pieces_L1)) ?_
      refine Tr.valE (U := (fl_LTBand).Ad) (fun u => (fl_LTBand).ok w.O w.W u xF_shape_Pieces_L1) (fun u => (.slice u.1 (xF_shape_Pieces_L1).length u.2)) (wn rfl) rfl (ldN (κ := 5) (t := fl_LTBand) (V := fun u => (.slice u.1 (xF_shape_Pieces_L1).length u.2)) rfl (range_at hdF_shape_Pieces_L1) (fun _ _ u h1 hc => run_load1 ag_65 (h1.ev rfl) hc rfl)) ?_
      intro u128 hoku128
      obtain ⟨Au128_0, cu128_0⟩ := u128
      have hoku128_0 := hoku128
      replace hoku128_0 : Sl w.O w.W fl_TBand Au128_0 cu128_0 xF_shape_Pieces_L1 := hoku128_0
      show Tr _ _ (uf _ 20 (.slice Au128_0 (xF_shape_Pieces_L1).length cu128_0)) _ _
      refine Tr.val (wn rfl) rfl (fun _ _ h1 h2 => run_assign (h1.ev rfl)) ?_
      refine Tr.nil (Tr.normThen ?_)
      refine Tr.region ?_
      refine Tr.val (wn rfl) rfl (fun _ _ h1 h2 => run_move (h1.ev rfl)) ?_
      refine Tr.val (wn rfl) rfl (fun _ _ h1 h2 => run_move (h1.ev rfl)) ?_
      obtain ⟨y129, hy129, H⟩ := bnd H
      refine Tr.callM [10] [emp] (U := (Option Addr × Nat)) (fun u => (.slice u.1 (y129).length u.2)) (fun u => SlF u.1 (y129).length u.2) (fun u => [ow u.1 u.2 29 fl_TRect y129]) rfl (pk_cons rfl pk_nil) (fun _ => rfl) (wn rfl) rfl Try.call41 (evl_cons rfl evl_nil) (fun W hW hp hE => F_shape_Set__Rects_ok N xF_shape_Pieces_L1 Au128_0 cu128_0 (hoku128_0.rl.ext (hW.extS hp)) y129 hy129 hE) ?_
      intro u hu
      obtain ⟨Ay129_0, cy129_0⟩ := u
      have gy129_0 := hu
      have hgy129_0 : SlF Ay129_0 (y129).length cy129_0 := gy129_0 --@phi
      show Tr _ _ (uf _ 23 (.slice Ay129_0 (y129).length cy129_0)) (up _ 10 (ow Ay129_0 cy129_0 29 fl_TRect y129)) _
      refine Tr.freeze 10 rfl fun w le132 hz131 => ?_
      replace hoku128_0 := hoku128_0.le le132
      replace leB := leB.trans le132
      replace leF_shape_Pieces_L1 := leF_shape_Pieces_L1.trans le132
      refine Tr.buildSlice 11 (e := 22) (vs := [(0, (.slice Ay129_0 (y129).length cy129_0))]) (cs := [(.slice Ay129_0 (y129).length cy129_0)]) (wn rfl) rfl (evs_cons rfl evs_nil) (by kernel_rfl) fun b133 => ?_
      obtain ⟨l134, hl134, H⟩ := bnd H
      refine Tr.append 3 (t := fl_LTRect) (l := l127) (l2 := [y129]) (wn rfl) rfl rfl rfl rfl (fun W hW => ⟨[[(.slice Ay129_0 (y129).length cy129_0)]], (.cons ⟨(Ay129_0, cy129_0), hz131, rfl⟩ .nil), rdb hW (vs := [(.slice Ay129_0 (y129).length cy129_0)]) (k := 11) rfl 0⟩) un_40 sz_22 zl_22 (by decide) by_22 rfl hl134 fun Al134 cl134 hAl134 => ?_
      refine Tr.val (wn rfl) rfl (fun _ _ h1 h2 => run_assign (h1.ev rfl)) ?_
      refine Tr.nil (Tr.normBlock (Tr.normThen ?_))
      refine Tr.region ?_
      refine Tr.val (wn rfl) rfl (fun _ _ h1 h2 => run_add (h1.ev rfl) (h1.ev rfl)) ?_
      refine Tr.val (wn rfl) rfl (fun _ _ h1 h2 => run_move (h1.ev rfl)) ?_
      refine Tr.nil ?_
      exact Tr.backThen leF_shape_Pieces_L1 (restF_shape_Pieces_L1, (iF_shape_Pieces_L1 + 1), l134, Al134, cl134) ⟨rfl, range_tl hdF_shape_Pieces_L1, range_lt hdF_shape_Pieces_L1, H, hAl134⟩ (.cons rfl (.cons rfl (.cons rfl (.cons (congrArg (fun z => some (Value.int .i64 z)) (range_up hdF_shape_Pieces_L1 hgy103_0)) .nil)))) (.cons rfl (.cons rfl .nil))

theorem F_shape_Set__Spread_ok (N : Nat) {w : Bs} (p0 : (List TBand)) (Ap0_0 : Option Addr) (cp0_0 : Nat) (hp0_0 : Sl w.R w.W fl_TBand Ap0_0 cp0_0 p0) (p1 : Int) (p2 : Int) (p3 : Int) (p4 : Int) (r : (List TBand)) (H : F_shape_Set__Spread N p0 p1 p2 p3 p4 = some r) (hE : HF w w.W (LEn [emp])) : Calls Try.prog 91 [(.slice Ap0_0 (p0).length cp0_0), (.int .i64 p1), (.int .i64 p2), (.int .i64 p3), (.int .i64 p4)].toArray w.W fun e W' => ∃ (w' : Bs) (u : (Option Addr × Nat)), w.Le w' ∧ e = .returned (.slice u.1 (r).length u.2) ∧ (SlF u.1 (r).length u.2) ∧ HF w' W' (LEn [ow u.1 u.2 104 fl_TBand r]) := by
  unfold F_shape_Set__Spread at H
  have leB := Bs.Le.refl w
  refine Tr.enter (n := 46) Try.func91 rfl rfl rfl hE ?_
  refine Tr.seq ?_
  refine Tr.region ?_
  refine Tr.val (wn rfl) rfl (fun _ _ h1 h2 => run_assign (h1.ev rfl)) ?_
  refine Tr.nilOwn 1 104 fl_TBand ?_
  show Tr _ _ (uf _ 10 (.slice none (([] : List TBand)).length 0)) _ _
  refine Tr.nil (Tr.normThen ?_)
  refine Tr.seq ?_
  refine Tr.region ?_
  refine Tr.val (wn rfl) rfl (fun _ _ h1 h2 => run_move (h1.ev rfl)) ?_
  obtain ⟨y100, hy100, H⟩ := bnd H
  refine Tr.callM [2] [emp] (U := (Option Addr × Nat)) (fun u => (.slice u.1 (y100).length u.2)) (fun u => SlF u.1 (y100).length u.2) (fun u => [ow u.1 u.2 29 fl_TRect y100]) rfl (pk_cons rfl pk_nil) (fun _ => rfl) (wn rfl) rfl Try.call41 (evl_cons rfl evl_nil) (fun W hW hp hE => F_shape_Set__Rects_ok N p0 Ap0_0 cp0_0 (hp0_0.ext (hW.extS hp)) y100 hy100 hE) ?_
  intro u hu
  obtain ⟨Ay100_0, cy100_0⟩ := u
  have gy100_0 := hu
  have hgy100_0 : SlF Ay100_0 (y100).length cy100_0 := gy100_0 --@phi
  show Tr _ _ (uf _ 15 (.slice Ay100_0 (y100).length cy100_0)) (up _ 2 (ow Ay100_0 cy100_0 29 fl_TRect y100)) _
  refine Tr.val (wn rfl) rfl (fun _ _ h1 h2 => run_assign (h1.ev rfl)) ?_
  refine Tr.nil (Tr.normThen ?_)
  refine Tr.seq ?_
  refine Tr.seq ?_
  refine Tr.region ?_
  refine Tr.val (wn rfl) rfl (fun _ _ h1 h2 => run_move (h1.ev rfl)) ?_
  refine Tr.val (wn rfl) rfl (fun _ _ h1 h2 => run_len un_22 (h1.ev rfl)) ?_
  refine Tr.val (wn rfl) rfl (fun _ _ h1 h2 => run_move (h1.ev rfl)) ?_
  refine Tr.nil (Tr.normThen ?_)
  refine Tr.block ?_
  refine Tr.loop (σ := (List TRect) × Int × (Option Addr) × Nat) (fun m w s => F_shape_Set__Spread_L1 N p1 p2 p3 p4 y100 m s.1 s.2.1 = some r ∧ SlF s.2.2.1 (s.1).length s.2.2.2) (fun s => [(1, (.int .i64 p1)), (2, (.int .i64 p2)), (3, (.int .i64 p3)), (4, (.int .i64 p4)), (11, (.slice s.2.2.1 (s.1).length s.2.2.2)), (16, (.slice s.2.2.1 (s.1).length s.2.2.2)), (17, (.int .i64 (y100.length : Int))), (18, (.int .i64 s.2.1))]) (fun s => [(2, ow s.2.2.1 s.2.2.2 29 fl_TRect s.1)]) N (y100, 0, Ay100_0, cy100_0) ⟨H, hgy100_0⟩ (.cons rfl (.cons rfl (.cons rfl (.cons rfl (.cons rfl (.cons rfl (.cons rfl (.cons rfl .nil)))))))) (.cons rfl .nil) (fun _ _ h => noSome (h.1)) ?_
  intro w leF_shape_Set__Spread_L1 mF_shape_Set__Spread_L1 s hs
  obtain ⟨l116, x117, Al116, cl116⟩ := s
  obtain ⟨H, hl116⟩ := hs
  replace H : F_shape_Set__Spread_L1 N p1 p2 p3 p4 y100 (mF_shape_Set__Spread_L1 + 1) l116 x117 = some r := H
  replace leB := leB.trans leF_shape_Set__Spread_L1
  replace hl116 : SlF Al116 (l116).length cl116 := hl116
  rw [F_shape_Set__Spread_L1.eq_2] at H
  show Tr _ _ (LF [(1, (.int .i64 p1)), (2, (.int .i64 p2)), (3, (.int .i64 p3)), (4, (.int .i64 p4)), (11, (.slice Al116 (l116).length cl116)), (16, (.slice Al116 (l116).length cl116)), (17, (.int .i64 (y100.length : Int))), (18, (.int .i64 x117))]) (LE [(2, ow Al116 cl116 29 fl_TRect l116)]) _
  refine Tr.seq ?_
  refine Tr.region ?_
  refine Tr.val (wn rfl) rfl (fun _ _ h1 h2 => run_lss (h1.ev rfl) (h1.ev rfl)) ?_
  refine Tr.nil (Tr.normThen ?_)
  refine Tr.seq ?_
  refine Tr.cond rfl H (fun H => ?_) (fun H => ?_)
  · refine Tr.skip (Tr.normThen ?_)
    refine Tr.seq ?_
    refine Tr.block ?_
    refine Tr.seq ?_
    refine Tr.region ?_
    refine Tr.val (wn rfl) rfl (fun _ _ h1 h2 => run_move (h1.ev rfl)) ?_
    obtain ⟨x118, hx118, H⟩ := bnd H
    obtain ⟨hx1180, hx1181, hx1182⟩ := idx_some hx118
    refine Tr.val (wn rfl) rfl (fun _ _ h1 h2 => run_indexAddr el_22 (h1.ev rfl) hl116 (h1.ev rfl) hx1180 hx1181) ?_
    refine Tr.val (wn rfl) rfl (fun _ _ h1 h2 => run_loadN (cs := [(.int .i64 x118.X0), (.int .i64 x118.Y0), (.int .i64 x118.X1), (.int .i64 x118.Y1)]) ag_29 sz_29 (h1.ev rfl) (CellsAt.take (rdo ef_TRect (k := 2) h2 rfl hx1182) 4) rfl) ?_
    refine Tr.alloc 5 (wn rfl) rfl ze_29 fun b119 => ?_
    refine Tr.val (wn rfl) rfl (fun _ _ h1 h2 => run_assign (h1.ev rfl)) ?_
    refine Tr.store 5 (cs := [(.int .i64 x118.X0), (.int .i64 x118.Y0), (.int .i64 x118.X1), (.int .i64 x118.Y1)]) [(.int .i64 x118.X0), (.int .i64 x118.Y0), (.int .i64 x118.X1), (.int .i64 x118.Y1)] (wn rfl) rfl rfl rfl rfl sz_29 rfl rfl rfl ?_
    refine Tr.nil (Tr.normThen ?_)
    refine Tr.region ?_
    refine Tr.val (wn rfl) rfl (fun _ _ h1 h2 => run_move (h1.ev rfl)) ?_
    refine Tr.val (wn rfl) rfl (fun _ _ h1 h2 => run_move (h1.ev rfl)) ?_
    refine Tr.val (wn rfl) rfl (fun _ _ h1 h2 => run_fieldAddr fo_29_0 (h1.ev rfl)) ?_
    refine Tr.val (wn rfl) rfl (fun _ _ h1 h2 => run_load1 ag_3 (h1.ev rfl) (rdb h2 (vs := [(.int .i64 x118.X0), (.int .i64 x118.Y0), (.int .i64 x118.X1), (.int .i64 x118.Y1)]) (k := 5) rfl 0) rfl) ?_
    refine Tr.val (wn rfl) rfl (fun _ _ h1 h2 => run_move (h1.ev rfl)) ?_
    refine Tr.val (wn rfl) rfl (fun _ _ h1 h2 => run_sub (h1.ev rfl) (h1.ev rfl)) ?_
    refine Tr.val (wn rfl) rfl (fun _ _ h1 h2 => run_fieldAddr fo_29_1 (h1.ev rfl)) ?_
    refine Tr.val (wn rfl) rfl (fun _ _ h1 h2 => run_load1 ag_3 (h1.ev rfl) (rdb h2 (vs := [(.int .i64 x118.X0), (.int .i64 x118.Y0), (.int .i64 x118.X1), (.int .i64 x118.Y1)]) (k := 5) rfl 1) rfl) ?_
    refine Tr.val (wn rfl) rfl (fun _ _ h1 h2 => run_move (h1.ev rfl)) ?_
    refine Tr.val (wn rfl) rfl (fun _ _ h1 h2 => run_sub (h1.ev rfl) (h1.ev rfl)) ?_
    refine Tr.val (wn rfl) rfl (fun _ _ h1 h2 => run_fieldAddr fo_29_2 (h1.ev rfl)) ?_
    refine Tr.val (wn rfl) rfl (fun _ _ h1 h2 => run_load1 ag_3 (h1.ev rfl) (rdb h2 (vs := [(.int .i64 x118.X0), (.int .i64 x118.Y0), (.int .i64 x118.X1), (.int .i64 x118.Y1)]) (k := 5) rfl 2) rfl) ?_
    refine Tr.val (wn rfl) rfl (fun _ _ h1 h2 => run_move (h1.ev rfl)) ?_
    refine Tr.val (wn rfl) rfl (fun _ _ h1 h2 => run_add (h1.ev rfl) (h1.ev rfl)) ?_
    refine Tr.val (wn rfl) rfl (fun _ _ h1 h2 => run_fieldAddr fo_29_3 (h1.ev rfl)) ?_
    refine Tr.val (wn rfl) rfl (fun _ _ h1 h2 => run_load1 ag_3 (h1.ev rfl) (rdb h2 (vs := [(.int .i64 x118.X0), (.int .i64 x118.Y0), (.int .i64 x118.X1), (.int .i64 x118.Y1)]) (k := 5) rfl 3) rfl) ?_
    refine Tr.val (wn rfl) rfl (fun _ _ h1 h2 => run_move (h1.ev rfl)) ?_
    refine Tr.val (wn rfl) rfl (fun _ _ h1 h2 => run_add (h1.ev rfl) (h1.ev rfl)) ?_
    refine Tr.build (vs := [(0, (.int .i64 (w64 (x118.X0 - p1)))), (1, (.int .i64 (w64 (x118.Y0 - p3)))), (2, (.int .i64 (w64 (x118.X1 + p2)))), (3, (.int .i64 (w64 (x118.Y1 + p4))))]) (cs := [(.int .i64 (w64 (x118.X0 - p1))), (.int .i64 (w64 (x118.Y0 - p3))), (.int .i64 (w64 (x118.X1 + p2))), (.int .i64 (w64 (x118.Y1 + p4)))]) (wn rfl) rfl (evs_cons rfl (evs_cons rfl (evs_cons rfl (evs_cons rfl evs_nil)))) (by kernel_rfl) ?_
    obtain ⟨x120, hx120, H⟩ := bnd H
    obtain ⟨hx1200, hx1201, hx1202⟩ := idx_some hx120
    refine Tr.val (wn rfl) rfl (fun _ _ h1 h2 => run_indexAddr el_22 (h1.ev rfl) hl116 (h1.ev rfl) hx1200 hx1201) ?_
    obtain ⟨l121, hl121, H⟩ := bnd H
    have hnl121 := sets_len hl121
    refine Tr.storeEl 2 (t := fl_TRect) (l := l116) (i := x117) (fo := 0) (cs := [(.int .i64 (w64 (x118.X0 - p1))), (.int .i64 (w64 (x118.Y0 - p3))), (.int .i64 (w64 (x118.X1 + p2))), (.int .i64 (w64 (x118.Y1 + p4)))]) (TRect.mk (w64 (x118.X0 - p1)) (w64 (x118.Y0 - p3)) (w64 (x118.X1 + p2)) (w64 (x118.Y1 + p4))) (wn rfl) rfl rfl rfl rfl rfl hx1202 sz_29 rfl (fun u _ => ⟨u, trivial, rfl⟩) rfl hl121 ?_
    have hfl121 : SlF Al116 (l121).length cl116 := by rw [hnl121]; exact hl116
    refine Tr.sel (lf := [(1, (.int .i64 p1)), (2, (.int .i64 p2)), (3, (.int .i64 p3)), (4, (.int .i64 p4)), (11, (.slice Al116 (l121).length cl116)), (12, (.int .i64 x117)), (13, (.pointer (some ⟨b119, 0, none⟩))), (16, (.slice Al116 (l121).length cl116)), (17, (.int .i64 (y100.length : Int))), (18, (.int .i64 x117)), (19, (.bool (decide (x117 < (y100.length : Int))))), (20, (.int .i64 x117)), (22, (.agg #[(.int .i64 x118.X0), (.int .i64 x118.Y0), (.int .i64 x118.X1), (.int .i64 x118.Y1)])), (23, (.slice Al116 (l121).length cl116)), (24, (.int .i64 x117)), (25, (.pointer (some ⟨b119, 0, none⟩))), (26, (.int .i64 x118.X0)), (27, (.int .i64 p1)), (28, (.int .i64 (w64 (x118.X0 - p1)))), (29, (.pointer (some ⟨b119, 1, none⟩))), (30, (.int .i64 x118.Y0)), (31, (.int .i64 p3)), (32, (.int .i64 (w64 (x118.Y0 - p3)))), (33, (.pointer (some ⟨b119, 2, none⟩))), (34, (.int .i64 x118.X1)), (35, (.int .i64 p2)), (36, (.int .i64 (w64 (x118.X1 + p2)))), (37, (.pointer (some ⟨b119, 3, none⟩))), (38, (.int .i64 x118.Y1)), (39, (.int .i64 p4)), (40, (.int .i64 (w64 (x118.Y1 + p4)))), (41, (.agg #[(.int .i64 (w64 (x118.X0 - p1))), (.int .i64 (w64 (x118.Y0 - p3))), (.int .i64 (w64 (x118.X1 + p2))), (.int .i64 (w64 (x118.Y1 + p4)))]))]) (le := [(2, ow Al116 cl116 29 fl_TRect l121), (5, bx b119 #[(.int .i64 x118.X0), (.int .i64 x118.Y0), (.int .i64 x118.X1), (.int .i64 x118.Y1)] 29)]) (.cons rfl (.cons rfl (.cons rfl (.cons rfl (.cons (slenV rfl (by rw [hnl121])) (.cons rfl (.cons rfl (.cons (slenV rfl (by rw [hnl121])) (.cons rfl (.cons rfl (.cons rfl (.cons rfl (.cons rfl (.cons (slenV rfl (by rw [hnl121])) (.cons rfl (.cons rfl (.cons rfl (.cons rfl (.cons rfl (.cons rfl (.cons rfl (.cons rfl (.cons rfl (.cons rfl (.cons rfl (.cons rfl (.cons rfl (.cons rfl (.cons rfl (.cons rfl (.cons rfl (.cons rfl .nil)))))))))))))))))))))))))))))))) (.cons rfl (.cons rfl .nil)) ?_
    refine Tr.nil (Tr.normBlock (Tr.normThen ?_))
    refine Tr.region ?_
    refine Tr.val (wn rfl) rfl (fun _ _ h1 h2 => run_add (h1.ev rfl) (h1.ev rfl)) ?_
    refine Tr.val (wn rfl) rfl (fun _ _ h1 h2 => run_move (h1.ev rfl)) ?_
    refine Tr.nil ?_
    exact Tr.backThen leF_shape_Set__Spread_L1 (l121, (w64 (x117 + 1)), Al116, cl116) ⟨H, hfl121⟩ (.cons rfl (.cons rfl (.cons rfl (.cons rfl (.cons rfl (.cons rfl (.cons rfl (.cons rfl .nil)))))))) (.cons rfl .nil)
  · refine Tr.exit (Tr.exitThen (Tr.exitThen (Tr.exitBlock (Tr.normThen ?_))))
    refine Tr.seq ?_
    refine Tr.region ?_
    refine Tr.val (wn rfl) rfl (fun _ _ h1 h2 => run_move (h1.ev rfl)) ?_
    obtain ⟨y122, hy122, H⟩ := bnd H
    refine Tr.callG [6] [emp] (U := (Option Addr × Nat)) (fun u => (.slice u.1 (y122).length u.2)) (fun O W u => SlF u.1 (y122).length u.2) (fun u => [ow u.1 u.2 104 fl_TBand y122]) rfl (pk_cons rfl pk_nil) (fun _ => rfl) (wn rfl) rfl Try.call40 (evl_cons rfl evl_nil) (fun W hW hp hE => F_shape_SetOf_ok N l116 Al116 cl116 (hW.slS (k := 2) rfl hp rfl) y122 hy122 hE) ?_
    intro w u le123 hu
    obtain ⟨Ay122_0, cy122_0⟩ := u
    have gy122_0 := hu
    replace leB := leB.trans le123
    replace leF_shape_Set__Spread_L1 := leF_shape_Set__Spread_L1.trans le123
    have hgy122_0 : SlF Ay122_0 (y122).length cy122_0 := gy122_0 --@phi
    show Tr _ _ (uf _ 45 (.slice Ay122_0 (y122).length cy122_0)) (up _ 6 (ow Ay122_0 cy122_0 104 fl_TBand y122)) _
    refine Tr.val (wn rfl) rfl (fun _ _ h1 h2 => run_assign (h1.ev rfl)) ?_
    refine Tr.nil (Tr.normThen ?_)
    refine Tr.ret ?_
    obtain rfl := Option.some.inj H
    exact Tr.out (m := [(.slice Ay122_0 (y122).length cy122_0)]) [] (res_tmp rfl res_nil) (fun W hW => ⟨w, (Ay122_0, cy122_0), leB, rfl, hgy122_0, hW.pick (ks := [6]) (by decide) (pk_cons rfl pk_nil)⟩)

theorem F_shape_Set__Wide_ok (N : Nat) {w : Bs} (p0 : (List TBand)) (Ap0_0 : Option Addr) (cp0_0 : Nat) (hp0_0 : Sl w.R w.W fl_TBand Ap0_0 cp0_0 p0) (p1 : Int) (r : (List TBand)) (H : F_shape_Set__Wide N p0 p1 = some r) (hE : HF w w.W (LEn [emp])) : Calls Try.prog 52 [(.slice Ap0_0 (p0).length cp0_0), (.int .i64 p1)].toArray w.W fun e W' => ∃ (w' : Bs) (u : (Option Addr × Nat)), w.Le w' ∧ e = .returned (.slice u.1 (r).length u.2) ∧ (SlF u.1 (r).length u.2) ∧ HF w' W' (LEn [ow u.1 u.2 104 fl_TBand r]) := by
  unfold F_shape_Set__Wide at H
  have leB := Bs.Le.refl w
  refine Tr.enter (n := 11) Try.func52 rfl rfl rfl hE ?_
  refine Tr.seq ?_
  refine Tr.region ?_
  refine Tr.val (wn rfl) rfl (fun _ _ h1 h2 => run_assign (h1.ev rfl)) ?_
  refine Tr.nilOwn 1 104 fl_TBand ?_
  show Tr _ _ (uf _ 4 (.slice none (([] : List TBand)).length 0)) _ _
  refine Tr.nil (Tr.normThen ?_)
  refine Tr.seq ?_
  refine Tr.region ?_
  refine Tr.val (wn rfl) rfl (fun _ _ h1 h2 => run_move (h1.ev rfl)) ?_
  refine Tr.val (wn rfl) rfl (fun _ _ h1 h2 => run_move (h1.ev rfl)) ?_
  refine Tr.val (wn rfl) rfl (fun _ _ h1 h2 => run_move (h1.ev rfl)) ?_
  refine Tr.val (wn rfl) rfl (fun _ _ h1 h2 => run_move (h1.ev rfl)) ?_
  refine Tr.val (wn rfl) rfl (fun _ _ h1 h2 => run_move (h1.ev rfl)) ?_
  obtain ⟨y100, hy100, H⟩ := bnd H
  refine Tr.callG [2] [emp] (U := (Option Addr × Nat)) (fun u => (.slice u.1 (y100).length u.2)) (fun O W u => SlF u.1 (y100).length u.2) (fun u => [ow u.1 u.2 104 fl_TBand y100]) rfl (pk_cons rfl pk_nil) (fun _ => rfl) (wn rfl) rfl Try.call91 (evl_cons rfl (evl_cons rfl (evl_cons rfl (evl_cons rfl (evl_cons rfl evl_nil))))) (fun W hW hp hE => F_shape_Set__Spread_ok N p0 Ap0_0 cp0_0 (hp0_0.ext (hW.extS hp)) p1 p1 p1 p1 y100 hy100 hE) ?_
  intro w u le101 hu
  obtain ⟨Ay100_0, cy100_0⟩ := u
  have gy100_0 := hu
  replace hp0_0 := hp0_0.leR le101
  replace leB := leB.trans le101
  have hgy100_0 : SlF Ay100_0 (y100).length cy100_0 := gy100_0 --@phi
  show Tr _ _ (uf _ 10 (.slice Ay100_0 (y100).length cy100_0)) (up _ 2 (ow Ay100_0 cy100_0 104 fl_TBand y100)) _
  refine Tr.val (wn rfl) rfl (fun _ _ h1 h2 => run_assign (h1.ev rfl)) ?_
  refine Tr.nil (Tr.normThen ?_)
  refine Tr.ret ?_
  obtain rfl := Option.some.inj H
  exact Tr.out (m := [(.slice Ay100_0 (y100).length cy100_0)]) [] (res_tmp rfl res_nil) (fun W hW => ⟨w, (Ay100_0, cy100_0), leB, rfl, hgy100_0, hW.pick (ks := [2]) (by decide) (pk_cons rfl pk_nil)⟩)

theorem F_shape_Set__at_ok {w : Bs} (p0 : (List TBand)) (Ap0_0 : Option Addr) (cp0_0 : Nat) (hp0_0 : Sl w.O w.W fl_TBand Ap0_0 cp0_0 p0) (p1 : Int) (p2 : Int) (r : ((List Int) × Int)) (H : F_shape_Set__at p0 p1 p2 = some r) (hE : HF w w.W (LEn [])) : Calls Try.prog 115 [(.slice Ap0_0 (p0).length cp0_0), (.int .i64 p1), (.int .i64 p2)].toArray w.W fun e W' => ∃ (w' : Bs) (u : (Option Addr × Nat)), w.Le w' ∧ e = .returned (.tuple #[(.slice u.1 (r.1).length u.2), (.int .i64 r.2)]) ∧ (Sl w'.O w'.W fl_i64 u.1 u.2 r.1) ∧ HF w' W' (LEn []) := by
  unfold F_shape_Set__at at H
  have leB := Bs.Le.refl w
  refine Tr.enter (n := 36) Try.func115 rfl rfl rfl hE ?_
  refine Tr.seq ?_
  refine Tr.region ?_
  refine Tr.val (wn rfl) rfl (fun _ _ h1 h2 => run_assign (h1.ev rfl)) ?_
  refine Tr.nilOwn 1 3 fl_i64 ?_
  show Tr _ _ (uf _ 6 (.slice none (([] : List Int)).length 0)) _ _
  refine Tr.val (wn rfl) rfl (fun _ _ h1 h2 => run_assign (h1.ev rfl)) ?_
  refine Tr.nil (Tr.normThen ?_)
  refine Tr.seq ?_
  refine Tr.block ?_
  refine Tr.seq ?_
  refine Tr.region ?_
  refine Tr.val (wn rfl) rfl (fun _ _ h1 h2 => run_move (h1.ev rfl)) ?_
  refine Tr.val (wn rfl) rfl (fun _ _ h1 h2 => run_len un_65 (h1.ev rfl)) ?_
  refine Tr.val (wn rfl) rfl (fun _ _ h1 h2 => run_eql (h1.ev rfl) (h1.ev rfl)) ?_
  refine Tr.val (wn rfl) rfl (fun _ _ h1 h2 => run_assign (h1.ev rfl)) ?_
  refine Tr.nil (Tr.normThen ?_)
  refine Tr.cond rfl H (fun H => ?_) (fun H => ?_)
  · refine Tr.seq ?_
    refine Tr.region ?_
    refine Tr.val (wn rfl) rfl (fun _ _ h1 h2 => run_move (h1.ev rfl)) ?_
    refine Tr.val (wn rfl) rfl (fun _ _ h1 h2 => run_assign (h1.ev rfl)) ?_
    refine Tr.nilOwn 2 3 fl_i64 ?_
    show Tr _ _ (uf _ 6 (.slice none (([] : List Int)).length 0)) _ _
    refine Tr.val (wn rfl) rfl (fun _ _ h1 h2 => run_assign (h1.ev rfl)) ?_
    refine Tr.nil (Tr.normThen ?_)
    refine Tr.ret (Tr.retBlock (Tr.retThen ?_))
    obtain rfl := Option.some.inj H
    refine Tr.freeze 2 rfl fun w le101 hz100 => ?_
    replace hp0_0 := hp0_0.le le101
    replace leB := leB.trans le101
    exact Tr.out (m := [(.slice none (([] : List Int)).length 0), (.int .i64 p2)]) [] (res_tmp rfl (res_tmp rfl res_nil)) (fun W hW => ⟨w, (none, 0), leB, rfl, hz100, hW.pick (ks := []) (by decide) pk_nil⟩)
  · refine Tr.seq ?_
    refine Tr.region ?_
    refine Tr.val (wn rfl) rfl (fun _ _ h1 h2 => run_move (h1.ev rfl)) ?_
    refine Tr.val (wn rfl) rfl (fun _ _ h1 h2 => run_move (h1.ev rfl)) ?_
    obtain ⟨x102, hx102, H⟩ := bnd H
    obtain ⟨hx1020, hx1021, hx1022⟩ := idx_some hx102
    obtain ⟨u103, hRu103, hoku103, hcu103⟩ := (hp0_0).el hx1022
    obtain ⟨Au103_0, cu103_0⟩ := u103
    have hoku103_0 := hoku103
    replace hoku103_0 : Sl w.O w.W fl_i64 Au103_0 cu103_0 x102.Xs := hoku103_0
    replace hRu103 : w.R (adB Ap0_0) := Or.inl hRu103
    refine Tr.val (wn rfl) rfl (fun _ _ h1 h2 => run_indexAddr el_65 (h1.ev rfl) hp0_0.form (h1.ev rfl) hx1020 hx1021) ?_
    refine Tr.val (wn rfl) rfl (fun _ _ h1 h2 => run_fieldAddr fo_104_0 (h1.ev rfl)) ?_
    refine Tr.val (wn rfl) rfl (fun _ _ h1 h2 => run_load1 ag_3 (h1.ev rfl) (CellsAt.drop (rdR hRu103 hcu103 h2) 0) rfl) ?_
    refine Tr.val (wn rfl) rfl (fun _ _ h1 h2 => run_lss (h1.ev rfl) (h1.ev rfl)) ?_
    refine Tr.val (wn rfl) rfl (fun _ _ h1 h2 => run_assign (h1.ev rfl)) ?_
    refine Tr.nil (Tr.normThen ?_)
    refine Tr.cond rfl H (fun H => ?_) (fun H => ?_)
    · refine Tr.seq ?_
      refine Tr.draw (by kernel_rfl) (by kernel_rfl) ?_
      refine Tq.val (wn rfl) rfl (fun _ _ h1 h2 => run_move (h1.ev rfl)) ?_
      refine Tq.val (wn rfl) rfl (fun _ _ h1 h2 => run_move (h1.ev rfl)) ?_
      obtain ⟨x104, hx104, H⟩ := bnd H
      obtain ⟨hx1040, hx1041, hx1042⟩ := idx_some hx104
      obtain ⟨u105, hRu105, hoku105, hcu105⟩ := (hp0_0).el hx1042
      obtain ⟨Au105_0, cu105_0⟩ := u105
      have hoku105_0 := hoku105
      replace hoku105_0 : Sl w.O w.W fl_i64 Au105_0 cu105_0 x104.Xs := hoku105_0
      replace hRu105 : w.R (adB Ap0_0) := Or.inl hRu105
      refine Tq.val (wn rfl) rfl (fun _ _ h1 h2 => run_indexAddr el_65 (h1.ev rfl) hp0_0.form (h1.ev rfl) hx1040 hx1041) ?_
      refine Tq.val (wn rfl) rfl (fun _ _ h1 h2 => run_fieldAddr fo_104_0 (h1.ev rfl)) ?_
      refine Tq.val (wn rfl) rfl (fun _ _ h1 h2 => run_load1 ag_3 (h1.ev rfl) (CellsAt.drop (rdR hRu105 hcu105 h2) 0) rfl) ?_
      refine Tq.val (wn rfl) rfl (fun _ _ h1 h2 => run_min (h1.ev rfl) (h1.ev rfl) _) ?_
      refine Tq.val (wn rfl) rfl (fun _ _ h1 h2 => run_assign (h1.ev rfl)) ?_
      refine Tq.val (wn rfl) rfl (fun _ _ h1 h2 => run_assign (h1.ev rfl)) ?_
      refine Tq.nil (Tr.normThen ?_)
      refine Tr.ret (Tr.retBlock (Tr.retThen ?_))
      obtain rfl := Option.some.inj H
      exact Tr.out (m := [(.slice none 0 0), (.int .i64 (min p2 x104.Y0))]) [] (res_tmp rfl (res_tmp rfl res_nil)) (fun W hW => ⟨w, (none, 0), leB, rfl, (Sl.nil _ _ _), hW.pick (ks := []) (by decide) pk_nil⟩)
    · refine Tr.skip (Tr.normBlock (Tr.normThen ?_))
      refine Tr.seq ?_
      refine Tr.draw (by kernel_rfl) (by kernel_rfl) ?_
      refine Tq.val (wn rfl) rfl (fun _ _ h1 h2 => run_move (h1.ev rfl)) ?_
      obtain ⟨x106, hx106, H⟩ := bnd H
      obtain ⟨hx1060, hx1061, hx1062⟩ := idx_some hx106
      obtain ⟨u107, hRu107, hoku107, hcu107⟩ := (hp0_0).el hx1062
      obtain ⟨Au107_0, cu107_0⟩ := u107
      have hoku107_0 := hoku107
      replace hoku107_0 : Sl w.O w.W fl_i64 Au107_0 cu107_0 x106.Xs := hoku107_0
      replace hRu107 : w.R (adB Ap0_0) := Or.inl hRu107
      refine Tq.val (wn rfl) rfl (fun _ _ h1 h2 => run_indexAddr el_65 (h1.ev rfl) hp0_0.form (h1.ev rfl) hx1060 hx1061) ?_
      refine Tq.val (wn rfl) rfl (fun _ _ h1 h2 => run_fieldAddr fo_104_2 (h1.ev rfl)) ?_
      refine Tq.val (wn rfl) rfl (fun _ _ h1 h2 => run_load1 ag_97 (h1.ev rfl) (CellsAt.drop (rdR hRu107 hcu107 h2) 2) rfl) ?_
      refine Tq.val (wn rfl) rfl (fun _ _ h1 h2 => run_move (h1.ev rfl)) ?_
      refine Tq.val (wn rfl) rfl (fun _ _ h1 h2 => run_move (h1.ev rfl)) ?_
      obtain ⟨x108, hx108, H⟩ := bnd H
      obtain ⟨hx1080, hx1081, hx1082⟩ := idx_some hx108
      obtain ⟨u109, hRu109, hoku109, hcu109⟩ := (hp0_0).el hx1082
      obtain ⟨Au109_0, cu109_0⟩ := u109
      have hoku109_0 := hoku109
      replace hoku109_0 : Sl w.O w.W fl_i64 Au109_0 cu109_0 x108.Xs := hoku109_0
      replace hRu109 : w.R (adB Ap0_0) := Or.inl hRu109
      refine Tq.val (wn rfl) rfl (fun _ _ h1 h2 => run_indexAddr el_65 (h1.ev rfl) hp0_0.form (h1.ev rfl) hx1080 hx1081) ?_
      refine Tq.val (wn rfl) rfl (fun _ _ h1 h2 => run_fieldAddr fo_104_1 (h1.ev rfl)) ?_
      refine Tq.val (wn rfl) rfl (fun _ _ h1 h2 => run_load1 ag_3 (h1.ev rfl) (CellsAt.drop (rdR hRu109 hcu109 h2) 1) rfl) ?_
      refine Tq.val (wn rfl) rfl (fun _ _ h1 h2 => run_min (h1.ev rfl) (h1.ev rfl) _) ?_
      refine Tq.val (wn rfl) rfl (fun _ _ h1 h2 => run_assign (h1.ev rfl)) ?_
      refine Tq.val (wn rfl) rfl (fun _ _ h1 h2 => run_assign (h1.ev rfl)) ?_
      refine Tq.nil (Tr.normThen ?_)
      refine Tr.ret ?_
      obtain rfl := Option.some.inj H
      exact Tr.out (m := [(.slice Au107_0 (x106.Xs).length cu107_0), (.int .i64 (min p2 x108.Y1))]) [] (res_tmp rfl (res_tmp rfl res_nil)) (fun W hW => ⟨w, (Au107_0, cu107_0), leB, rfl, hoku107_0, hW.pick (ks := []) (by decide) pk_nil⟩)

theorem F_shape_line_ok (N : Nat) {w : Bs} (p0 : (List Int)) (Ap0_0 : Option Addr) (cp0_0 : Nat) (hp0_0 : Sl w.R w.W fl_i64 Ap0_0 cp0_0 p0) (p1 : (List Int)) (Ap1_0 : Option Addr) (cp1_0 : Nat) (hp1_0 : Sl w.R w.W fl_i64 Ap1_0 cp1_0 p1) (p2 : Bool → Bool → Option Bool) (fid2 : Nat) (cap2 : List Value) (hg2 : ∀ args W, (callFunc fid2 args).run Try.prog W = .ok (.enter fid2 args) W) (hf2 : ∀ (w' : Bs), w.Ext w' → ∀ (z0 : Bool) (z1 : Bool), ∀ y, p2 z0 z1 = some y → Calls Try.prog fid2 (([(.bool z0), (.bool z1)] : List Value) ++ cap2).toArray w'.W fun e W'' => e = .returned (.bool y) ∧ HF w' W'' E0) (r : (List Int)) (H : F_shape_line N p0 p1 p2 = some r) (hE : HF w w.W (LEn [emp])) : Calls Try.prog 116 [(.slice Ap0_0 (p0).length cp0_0), (.slice Ap1_0 (p1).length cp1_0), (.func (.func fid2) #[] cap2.toArray)].toArray w.W fun e W' => ∃ u : (Option Addr × Nat), e = .returned (.slice u.1 (r).length u.2) ∧ (SlF u.1 (r).length u.2) ∧ HF w W' (LEn [ow u.1 u.2 3 fl_i64 r]) := by
  unfold F_shape_line at H
  have leB := Bs.Le.refl w
  refine Tr.enter (n := 85) Try.func116 rfl rfl rfl hE ?_
  refine Tr.seq ?_
  refine Tr.region ?_
  refine Tr.val (wn rfl) rfl (fun _ _ h1 h2 => run_assign (h1.ev rfl)) ?_
  refine Tr.nilOwn 1 3 fl_i64 ?_
  show Tr _ _ (uf _ 6 (.slice none (([] : List Int)).length 0)) _ _
  refine Tr.nil (Tr.normThen ?_)
  refine Tr.seq ?_
  refine Tr.region ?_
  refine Tr.val (wn rfl) rfl (fun _ _ h1 h2 => run_assign (h1.ev rfl)) ?_
  refine Tr.nilOwn 2 3 fl_i64 ?_
  show Tr _ _ (uf _ 7 (.slice none (([] : List Int)).length 0)) _ _
  refine Tr.nil (Tr.normThen ?_)
  refine Tr.seq ?_
  refine Tr.region ?_
  refine Tr.val (wn rfl) rfl (fun _ _ h1 h2 => run_assign (h1.ev rfl)) ?_
  refine Tr.val (wn rfl) rfl (fun _ _ h1 h2 => run_assign (h1.ev rfl)) ?_
  refine Tr.val (wn rfl) rfl (fun _ _ h1 h2 => run_assign (h1.ev rfl)) ?_
  refine Tr.nil (Tr.normThen ?_)
  refine Tr.seq ?_
  refine Tr.block ?_
  refine Tr.loop (σ := (List Int) × (List Int) × (List Int) × Bool × Bool × Bool × (Option Addr) × Nat × (Option Addr) × Nat × (Option Addr) × Nat) (fun m w s => F_shape_line_L7 p2 m s.1 s.2.1 s.2.2.1 s.2.2.2.1 s.2.2.2.2.1 s.2.2.2.2.2.1 = some r ∧ Sl w.R w.W fl_i64 s.2.2.2.2.2.2.1 s.2.2.2.2.2.2.2.1 s.1 ∧ Sl w.R w.W fl_i64 s.2.2.2.2.2.2.2.2.1 s.2.2.2.2.2.2.2.2.2.1 s.2.1 ∧ SlF s.2.2.2.2.2.2.2.2.2.2.1 (s.2.2.1).length s.2.2.2.2.2.2.2.2.2.2.2) (fun s => [(0, (.slice s.2.2.2.2.2.2.1 (s.1).length s.2.2.2.2.2.2.2.1)), (1, (.slice s.2.2.2.2.2.2.2.2.1 (s.2.1).length s.2.2.2.2.2.2.2.2.2.1)), (2, (.func (.func fid2) #[] cap2.toArray)), (7, (.slice s.2.2.2.2.2.2.2.2.2.2.1 (s.2.2.1).length s.2.2.2.2.2.2.2.2.2.2.2)), (8, (.bool s.2.2.2.1)), (9, (.bool s.2.2.2.2.1)), (10, (.bool s.2.2.2.2.2.1))]) (fun s => [(2, ow s.2.2.2.2.2.2.2.2.2.2.1 s.2.2.2.2.2.2.2.2.2.2.2 3 fl_i64 s.2.2.1)]) N (p0, p1, ([] : List Int), false, false, false, Ap0_0, cp0_0, Ap1_0, cp1_0, none, 0) ⟨H, hp0_0, hp1_0, slf_nil⟩ (.cons rfl (.cons rfl (.cons rfl (.cons rfl (.cons rfl (.cons rfl (.cons rfl .nil))))))) (.cons rfl .nil) (fun _ _ h => noSome (h.1)) ?_
  intro w leF_shape_line_L7 mF_shape_line_L7 s hs
  obtain ⟨l230, l231, l232, x233, x234, x235, Al230, cl230, Al231, cl231, Al232, cl232⟩ := s
  obtain ⟨H, hl230, hl231, hl232⟩ := hs
  replace H : F_shape_line_L7 p2 (mF_shape_line_L7 + 1) l230 l231 l232 x233 x234 x235 = some r := H
  replace hf2 := fun w' he => hf2 w' (leF_shape_line_L7.ext.trans he)
  replace leB := leB.trans leF_shape_line_L7
  replace hl230 : Sl w.R w.W fl_i64 Al230 cl230 l230 := hl230
  replace hl231 : Sl w.R w.W fl_i64 Al231 cl231 l231 := hl231
  replace hl232 : SlF Al232 (l232).length cl232 := hl232
  rw [F_shape_line_L7.eq_2] at H
  show Tr _ _ (LF [(0, (.slice Al230 (l230).length cl230)), (1, (.slice Al231 (l231).length cl231)), (2, (.func (.func fid2) #[] cap2.toArray)), (7, (.slice Al232 (l232).length cl232)), (8, (.bool x233)), (9, (.bool x234)), (10, (.bool x235))]) (LE [(2, ow Al232 cl232 3 fl_i64 l232)]) _
  refine Tr.seq ?_
  refine Tr.seq ?_
  refine Tr.region ?_
  refine Tr.val (wn rfl) rfl (fun _ _ h1 h2 => run_move (h1.ev rfl)) ?_
  refine Tr.val (wn rfl) rfl (fun _ _ h1 h2 => run_len un_97 (h1.ev rfl)) ?_
  refine Tr.val (wn rfl) rfl (fun _ _ h1 h2 => run_gtr (h1.ev rfl) (h1.ev rfl)) ?_
  refine Tr.val (wn rfl) rfl (fun _ _ h1 h2 => run_move (h1.ev rfl)) ?_
  refine Tr.mid0 4 [(0, (.slice Al230 (l230).length cl230)), (1, (.slice Al231 (l231).length cl231)), (2, (.func (.func fid2) #[] cap2.toArray)), (7, (.slice Al232 (l232).length cl232)), (8, (.bool x233)), (9, (.bool x234)), (10, (.bool x235)), (20, (.bool ((decide (0 < (l230.length : Int))) || (decide (0 < (l231.length : Int))))))] [(2, ow Al232 cl232 3 fl_i64 l232)] ?_ ?_
  · cases hg291 : (decide (0 < (l230.length : Int)))
    · refine Tr.val (wg rfl rfl rfl) rfl (fun _ _ h1 h2 => run_move (h1.ev rfl)) ?_
      refine Tr.val (wg rfl rfl rfl) rfl (fun _ _ h1 h2 => run_len un_97 (h1.ev rfl)) ?_
      refine Tr.val (wg rfl rfl rfl) rfl (fun _ _ h1 h2 => run_gtr (h1.ev rfl) (h1.ev rfl)) ?_
      refine Tr.val (wn rfl) rfl (fun _ _ h1 h2 => run_pickF (h1.ev rfl) (h1.ev rfl)) ?_
      exact Tr.nil (Tr.fin0 (.cons rfl (.cons rfl (.cons rfl (.cons rfl (.cons rfl (.cons rfl (.cons rfl (.cons rfl .nil)))))))) (.cons rfl .nil))
    · refine Tr.pass rfl rfl rfl rfl rfl (by decide) ?_
      refine Tr.pass rfl rfl rfl rfl rfl (by decide) ?_
      refine Tr.pass rfl rfl rfl rfl rfl (by decide) ?_
      refine Tr.val (wn rfl) rfl (fun _ _ h1 h2 => run_pickT (h1.ev rfl) (h1.ev rfl)) ?_
      exact Tr.nil (Tr.fin0 (.cons rfl (.cons rfl (.cons rfl (.cons rfl (.cons rfl (.cons rfl (.cons rfl (.cons rfl .nil)))))))) (.cons rfl .nil))
  · show Tr _ _ (LF [(0, (.slice Al230 (l230).length cl230)), (1, (.slice Al231 (l231).length cl231)), (2, (.func (.func fid2) #[] cap2.toArray)), (7, (.slice Al232 (l232).length cl232)), (8, (.bool x233)), (9, (.bool x234)), (10, (.bool x235)), (20, (.bool ((decide (0 < (l230.length : Int))) || (decide (0 < (l231.length : Int))))))]) (LE [(2, ow Al232 cl232 3 fl_i64 l232)]) _
    refine Tr.nil (Tr.normThen ?_)
    refine Tr.cond rfl H (fun H => ?_) (fun H => ?_)
    · refine Tr.skip (Tr.normThen ?_)
      refine Tr.block ?_
      refine Tr.seq ?_
      refine Tr.region ?_
      refine Tr.val (wn rfl) rfl (fun _ _ h1 h2 => run_assign (h1.ev rfl)) ?_
      refine Tr.nil (Tr.normThen ?_)
      have leJ250 := Bs.Le.refl w
      refine Tr.cutJ (σ := Int) (fun w s => F_shape_line_J10 p2 l230 l231 l232 x233 x234 x235 (F_shape_line_L7 p2 mF_shape_line_L7) s = some r) (fun s => [(0, (.slice Al230 (l230).length cl230)), (1, (.slice Al231 (l231).length cl231)), (2, (.func (.func fid2) #[] cap2.toArray)), (7, (.slice Al232 (l232).length cl232)), (8, (.bool x233)), (9, (.bool x234)), (10, (.bool x235)), (11, (.int .i64 s))]) (fun s => [(2, ow Al232 cl232 3 fl_i64 l232)]) ?_ ?_
      · refine Tr.seq ?_
        refine Tr.draw (by kernel_rfl) (by kernel_rfl) ?_
        refine Tq.val (wn rfl) rfl (fun _ _ h1 h2 => run_move (h1.ev rfl)) ?_
        refine Tq.val (wn rfl) rfl (fun _ _ h1 h2 => run_len un_97 (h1.ev rfl)) ?_
        refine Tq.val (wn rfl) rfl (fun _ _ h1 h2 => run_eql (h1.ev rfl) (h1.ev rfl)) ?_
        refine Tq.val (wn rfl) rfl (fun _ _ h1 h2 => run_move (h1.ev rfl)) ?_
        obtain ⟨g284, hg284, H⟩ := bnd H
        refine Tq.mid 13 [(0, (.slice Al230 (l230).length cl230)), (1, (.slice Al231 (l231).length cl231)), (2, (.func (.func fid2) #[] cap2.toArray)), (7, (.slice Al232 (l232).length cl232)), (8, (.bool x233)), (9, (.bool x234)), (10, (.bool x235)), (37, (.bool g284))] ?_ ?_
        · cases hg291 : ((l231.length : Int) == 0)
          · rw [hg291] at hg284
            rw [if_neg (by decide)] at hg284
            have H := hg284
            refine Tq.val (wg rfl rfl rfl) rfl (fun _ _ h1 h2 => run_move (h1.ev rfl)) ?_
            refine Tq.val (wg rfl rfl rfl) rfl (fun _ _ h1 h2 => run_len un_97 (h1.ev rfl)) ?_
            refine Tq.val (wg rfl rfl rfl) rfl (fun _ _ h1 h2 => run_gtr (h1.ev rfl) (h1.ev rfl)) ?_
            refine Tq.val (wg rfl rfl rfl) rfl (fun _ _ h1 h2 => run_move (h1.ev rfl)) ?_
            obtain ⟨g287, hg287, H⟩ := bnd H
            refine Tq.mid 8 [(0, (.slice Al230 (l230).length cl230)), (1, (.slice Al231 (l231).length cl231)), (2, (.func (.func fid2) #[] cap2.toArray)), (7, (.slice Al232 (l232).length cl232)), (8, (.bool x233)), (9, (.bool x234)), (10, (.bool x235)), (24, (.bool false)), (36, (.bool g287))] ?_ ?_
            · cases hg289 : (decide (0 < (l230.length : Int)))
              · rw [hg289] at hg287
                rw [if_neg (by decide)] at hg287
                have H := hg287
                obtain rfl := Option.some.inj H
                refine Tq.pass rfl rfl rfl rfl rfl (by decide) ?_
                refine Tq.pass rfl rfl rfl rfl rfl (by decide) ?_
                refine Tq.pass rfl rfl rfl rfl rfl (by decide) ?_
                refine Tq.pass rfl rfl rfl rfl rfl (by decide) ?_
                refine Tq.pass rfl rfl rfl rfl rfl (by decide) ?_
                refine Tq.pass rfl rfl rfl rfl rfl (by decide) ?_
                refine Tq.pass rfl rfl rfl rfl rfl (by decide) ?_
                refine Tq.val (wg rfl rfl rfl) rfl (fun _ _ h1 h2 => run_pickF (h1.ev rfl) (h1.ev rfl)) ?_
                exact Tq.fin (.cons rfl (.cons rfl (.cons rfl (.cons rfl (.cons rfl (.cons rfl (.cons rfl (.cons rfl (.cons rfl .nil)))))))))
              · rw [hg289] at hg287
                rw [if_pos rfl] at hg287
                have H := hg287
                refine Tq.val (wg rfl rfl rfl) rfl (fun _ _ h1 h2 => run_move (h1.ev rfl)) ?_
                obtain ⟨x288, hx288, H⟩ := bnd H
                obtain ⟨hx2880, hx2881, hx2882⟩ := idx_some hx288
                refine Tq.val (wg rfl rfl rfl) rfl (fun _ _ h1 h2 => run_indexAddr el_97 (h1.ev rfl) hl230.form (h1.ev rfl) hx2880 hx2881) ?_
                refine Tq.val (wg rfl rfl rfl) rfl (fun _ _ h1 h2 => run_load1 ag_3 (h1.ev rfl) (rdF ef_i64 hl230 hx2882 h2) rfl) ?_
                refine Tq.val (wg rfl rfl rfl) rfl (fun _ _ h1 h2 => run_move (h1.ev rfl)) ?_
                obtain ⟨x289, hx289, H⟩ := bnd H
                obtain ⟨hx2890, hx2891, hx2892⟩ := idx_some hx289
                refine Tq.val (wg rfl rfl rfl) rfl (fun _ _ h1 h2 => run_indexAddr el_97 (h1.ev rfl) hl231.form (h1.ev rfl) hx2890 hx2891) ?_
                refine Tq.val (wg rfl rfl rfl) rfl (fun _ _ h1 h2 => run_load1 ag_3 (h1.ev rfl) (rdF ef_i64 hl231 hx2892 h2) rfl) ?_
                refine Tq.val (wg rfl rfl rfl) rfl (fun _ _ h1 h2 => run_leq (h1.ev rfl) (h1.ev rfl)) ?_
                refine Tq.val (wg rfl rfl rfl) rfl (fun _ _ h1 h2 => run_pickT (h1.ev rfl) (h1.ev rfl)) ?_
                obtain rfl := Option.some.inj H
                exact Tq.fin (.cons rfl (.cons rfl (.cons rfl (.cons rfl (.cons rfl (.cons rfl (.cons rfl (.cons rfl (.cons rfl .nil)))))))))
            · refine Tq.val (wn rfl) rfl (fun _ _ h1 h2 => run_pickF (h1.ev rfl) (h1.ev rfl)) ?_
              obtain rfl := Option.some.inj H
              exact Tq.fin (.cons rfl (.cons rfl (.cons rfl (.cons rfl (.cons rfl (.cons rfl (.cons rfl (.cons rfl .nil))))))))
          · rw [hg291] at hg284
            rw [if_pos rfl] at hg284
            have H := hg284
            obtain rfl := Option.some.inj H
            refine Tq.pass rfl rfl rfl rfl rfl (by decide) ?_
            refine Tq.pass rfl rfl rfl rfl rfl (by decide) ?_
            refine Tq.pass rfl rfl rfl rfl rfl (by decide) ?_
            refine Tq.pass rfl rfl rfl rfl rfl (by decide) ?_
            refine Tq.passU rfl rfl rfl rfl (by decide) ?_
            refine Tq.passU rfl rfl rfl rfl (by decide) ?_
            refine Tq.passU rfl rfl rfl rfl (by decide) ?_
            refine Tq.passU rfl rfl rfl rfl (by decide) ?_
            refine Tq.passU rfl rfl rfl rfl (by decide) ?_
            refine Tq.passU rfl rfl rfl rfl (by decide) ?_
            refine Tq.passU rfl rfl rfl rfl (by decide) ?_
            refine Tq.pass rfl rfl rfl rfl rfl (by decide) ?_
            refine Tq.val (wn rfl) rfl (fun _ _ h1 h2 => run_pickT (h1.ev rfl) (h1.ev rfl)) ?_
            exact Tq.fin (.cons rfl (.cons rfl (.cons rfl (.cons rfl (.cons rfl (.cons rfl (.cons rfl (.cons rfl .nil))))))))
        · refine Tq.nil (Tr.normThen ?_)
          refine Tr.cond rfl H (fun H => ?_) (fun H => ?_)
          · refine Tr.region ?_
            refine Tr.val (wn rfl) rfl (fun _ _ h1 h2 => run_move (h1.ev rfl)) ?_
            obtain ⟨x290, hx290, H⟩ := bnd H
            obtain ⟨hx2900, hx2901, hx2902⟩ := idx_some hx290
            refine Tr.val (wn rfl) rfl (fun _ _ h1 h2 => run_indexAddr el_97 (h1.ev rfl) hl230.form (h1.ev rfl) hx2900 hx2901) ?_
            refine Tr.val (wn rfl) rfl (fun _ _ h1 h2 => run_load1 ag_3 (h1.ev rfl) (rdF ef_i64 hl230 hx2902 h2) rfl) ?_
            refine Tr.val (wn rfl) rfl (fun _ _ h1 h2 => run_assign (h1.ev rfl)) ?_
            refine Tr.nil ?_
            exact Tr.backThen leJ250 x290 H (.cons rfl (.cons rfl (.cons rfl (.cons rfl (.cons rfl (.cons rfl (.cons rfl (.cons rfl .nil)))))))) (.cons rfl .nil)
          · refine Tr.region ?_
            refine Tr.val (wn rfl) rfl (fun _ _ h1 h2 => run_move (h1.ev rfl)) ?_
            obtain ⟨x291, hx291, H⟩ := bnd H
            obtain ⟨hx2910, hx2911, hx2912⟩ := idx_some hx291
            refine Tr.val (wn rfl) rfl (fun _ _ h1 h2 => run_indexAddr el_97 (h1.ev rfl) hl231.form (h1.ev rfl) hx2910 hx2911) ?_
            refine Tr.val (wn rfl) rfl (fun _ _ h1 h2 => run_load1 ag_3 (h1.ev rfl) (rdF ef_i64 hl231 hx2912 h2) rfl) ?_
            refine Tr.val (wn rfl) rfl (fun _ _ h1 h2 => run_assign (h1.ev rfl)) ?_
            refine Tr.nil ?_
            exact Tr.backThen leJ250 x291 H (.cons rfl (.cons rfl (.cons rfl (.cons rfl (.cons rfl (.cons rfl (.cons rfl (.cons rfl .nil)))))))) (.cons rfl .nil)
      · intro w x249 hlJ251 hs
        have H := hs
        replace H : F_shape_line_J10 p2 l230 l231 l232 x233 x234 x235 (F_shape_line_L7 p2 mF_shape_line_L7) x249 = some r := H
        replace hl230 := hl230.leR hlJ251
        replace hl231 := hl231.leR hlJ251
        replace hf2 := fun w' he => hf2 w' (hlJ251.ext.trans he)
        replace leB := leB.trans hlJ251
        replace leF_shape_line_L7 := leF_shape_line_L7.trans hlJ251
        unfold F_shape_line_J10 at H
        show Tr _ _ (LF [(0, (.slice Al230 (l230).length cl230)), (1, (.slice Al231 (l231).length cl231)), (2, (.func (.func fid2) #[] cap2.toArray)), (7, (.slice Al232 (l232).length cl232)), (8, (.bool x233)), (9, (.bool x234)), (10, (.bool x235)), (11, (.int .i64 x249))]) (LE [(2, ow Al232 cl232 3 fl_i64 l232)]) _
        have leJ258 := Bs.Le.refl w
        refine Tr.cutJ (σ := (List Int) × Bool × (Option Addr) × Nat) (fun w s => F_shape_line_J9 p2 l231 l232 x234 x235 (F_shape_line_L7 p2 mF_shape_line_L7) x249 s.1 s.2.1 = some r ∧ Sl w.R w.W fl_i64 s.2.2.1 s.2.2.2 s.1) (fun s => [(0, (.slice s.2.2.1 (s.1).length s.2.2.2)), (1, (.slice Al231 (l231).length cl231)), (2, (.func (.func fid2) #[] cap2.toArray)), (7, (.slice Al232 (l232).length cl232)), (8, (.bool s.2.1)), (9, (.bool x234)), (10, (.bool x235)), (11, (.int .i64 x249))]) (fun s => [(2, ow Al232 cl232 3 fl_i64 l232)]) ?_ ?_
        · refine Tr.seq ?_
          refine Tr.region ?_
          refine Tr.val (wn rfl) rfl (fun _ _ h1 h2 => run_move (h1.ev rfl)) ?_
          refine Tr.val (wn rfl) rfl (fun _ _ h1 h2 => run_len un_97 (h1.ev rfl)) ?_
          refine Tr.val (wn rfl) rfl (fun _ _ h1 h2 => run_gtr (h1.ev rfl) (h1.ev rfl)) ?_
          refine Tr.val (wn rfl) rfl (fun _ _ h1 h2 => run_move (h1.ev rfl)) ?_
          obtain ⟨g276, hg276, H⟩ := bnd H
          refine Tr.mid0 6 [(0, (.slice Al230 (l230).length cl230)), (1, (.slice Al231 (l231).length cl231)), (2, (.func (.func fid2) #[] cap2.toArray)), (7, (.slice Al232 (l232).length cl232)), (8, (.bool x233)), (9, (.bool x234)), (10, (.bool x235)), (11, (.int .i64 x249)), (53, (.bool g276))] [(2, ow Al232 cl232 3 fl_i64 l232)] ?_ ?_
          · cases hg278 : (decide (0 < (l230.length : Int)))
            · rw [hg278] at hg276
              rw [if_neg (by decide)] at hg276
              have H := hg276
              obtain rfl := Option.some.inj H
              refine Tr.pass rfl rfl rfl rfl rfl (by decide) ?_
              refine Tr.pass rfl rfl rfl rfl rfl (by decide) ?_
              refine Tr.pass rfl rfl rfl rfl rfl (by decide) ?_
              refine Tr.pass rfl rfl rfl rfl rfl (by decide) ?_
              refine Tr.pass rfl rfl rfl rfl rfl (by decide) ?_
              refine Tr.val (wn rfl) rfl (fun _ _ h1 h2 => run_pickF (h1.ev rfl) (h1.ev rfl)) ?_
              exact Tr.nil (Tr.fin0 (.cons rfl (.cons rfl (.cons rfl (.cons rfl (.cons rfl (.cons rfl (.cons rfl (.cons rfl (.cons rfl .nil))))))))) (.cons rfl .nil))
            · rw [hg278] at hg276
              rw [if_pos rfl] at hg276
              have H := hg276
              refine Tr.val (wg rfl rfl rfl) rfl (fun _ _ h1 h2 => run_move (h1.ev rfl)) ?_
              obtain ⟨x277, hx277, H⟩ := bnd H
              obtain ⟨hx2770, hx2771, hx2772⟩ := idx_some hx277
              refine Tr.val (wg rfl rfl rfl) rfl (fun _ _ h1 h2 => run_indexAddr el_97 (h1.ev rfl) hl230.form (h1.ev rfl) hx2770 hx2771) ?_
              refine Tr.val (wg rfl rfl rfl) rfl (fun _ _ h1 h2 => run_load1 ag_3 (h1.ev rfl) (rdF ef_i64 hl230 hx2772 h2) rfl) ?_
              refine Tr.val (wg rfl rfl rfl) rfl (fun _ _ h1 h2 => run_move (h1.ev rfl)) ?_
              refine Tr.val (wg rfl rfl rfl) rfl (fun _ _ h1 h2 => run_eql (h1.ev rfl) (h1.ev rfl)) ?_
              refine Tr.val (wn rfl) rfl (fun _ _ h1 h2 => run_pickT (h1.ev rfl) (h1.ev rfl)) ?_
              obtain rfl := Option.some.inj H
              exact Tr.nil (Tr.fin0 (.cons rfl (.cons rfl (.cons rfl (.cons rfl (.cons rfl (.cons rfl (.cons rfl (.cons rfl (.cons rfl .nil))))))))) (.cons rfl .nil))
          · show Tr _ _ (LF [(0, (.slice Al230 (l230).length cl230)), (1, (.slice Al231 (l231).length cl231)), (2, (.func (.func fid2) #[] cap2.toArray)), (7, (.slice Al232 (l232).length cl232)), (8, (.bool x233)), (9, (.bool x234)), (10, (.bool x235)), (11, (.int .i64 x249)), (53, (.bool g276))]) (LE [(2, ow Al232 cl232 3 fl_i64 l232)]) _
            refine Tr.nil (Tr.normThen ?_)
            refine Tr.cond rfl H (fun H => ?_) (fun H => ?_)
            · refine Tr.region ?_
              refine Tr.val (wn rfl) rfl (fun _ _ h1 h2 => run_move (h1.ev rfl)) ?_
              obtain ⟨l278, hl278, H⟩ := bnd H
              refine Tr.val (wn rfl) rfl (fun _ _ h1 h2 => run_cutL el_97 (h1.ev rfl) hl230.form (h1.ev rfl) hl278) ?_
              refine Tr.val (wn rfl) rfl (fun _ _ h1 h2 => run_move (h1.ev rfl)) ?_
              refine Tr.val (wn rfl) rfl (fun _ _ h1 h2 => run_not (h1.ev rfl)) ?_
              refine Tr.val (wn rfl) rfl (fun _ _ h1 h2 => run_assign (h1.ev rfl)) ?_
              refine Tr.val (wn rfl) rfl (fun _ _ h1 h2 => run_assign (h1.ev rfl)) ?_
              refine Tr.nil ?_
              exact Tr.backThen leJ258 (l278, (!x233), (cutA Al230 (1 : Int).toNat 1 cl230), (cl230 - (1 : Int).toNat)) ⟨H, (Sl.cut hl230 hl278)⟩ (.cons rfl (.cons rfl (.cons rfl (.cons rfl (.cons rfl (.cons rfl (.cons rfl (.cons rfl .nil)))))))) (.cons rfl .nil)
            · refine Tr.skip ?_
              exact Tr.backThen leJ258 (l230, x233, Al230, cl230) ⟨H, hl230⟩ (.cons rfl (.cons rfl (.cons rfl (.cons rfl (.cons rfl (.cons rfl (.cons rfl (.cons rfl .nil)))))))) (.cons rfl .nil)
        · intro w s hlJ259 hs
          obtain ⟨l256, x257, Al256, cl256⟩ := s
          obtain ⟨H, hl256⟩ := hs
          replace H : F_shape_line_J9 p2 l231 l232 x234 x235 (F_shape_line_L7 p2 mF_shape_line_L7) x249 l256 x257 = some r := H
          replace hl231 := hl231.leR hlJ259
          replace hf2 := fun w' he => hf2 w' (hlJ259.ext.trans he)
          replace leB := leB.trans hlJ259
          replace leF_shape_line_L7 := leF_shape_line_L7.trans hlJ259
          replace hl256 : Sl w.R w.W fl_i64 Al256 cl256 l256 := hl256
          unfold F_shape_line_J9 at H
          show Tr _ _ (LF [(0, (.slice Al256 (l256).length cl256)), (1, (.slice Al231 (l231).length cl231)), (2, (.func (.func fid2) #[] cap2.toArray)), (7, (.slice Al232 (l232).length cl232)), (8, (.bool x257)), (9, (.bool x234)), (10, (.bool x235)), (11, (.int .i64 x249))]) (LE [(2, ow Al232 cl232 3 fl_i64 l232)]) _
          have leJ266 := Bs.Le.refl w
          refine Tr.cutJ (σ := (List Int) × Bool × (Option Addr) × Nat) (fun w s => F_shape_line_J8 p2 l232 x235 (F_shape_line_L7 p2 mF_shape_line_L7) x249 l256 x257 s.1 s.2.1 = some r ∧ Sl w.R w.W fl_i64 s.2.2.1 s.2.2.2 s.1) (fun s => [(0, (.slice Al256 (l256).length cl256)), (1, (.slice s.2.2.1 (s.1).length s.2.2.2)), (2, (.func (.func fid2) #[] cap2.toArray)), (7, (.slice Al232 (l232).length cl232)), (8, (.bool x257)), (9, (.bool s.2.1)), (10, (.bool x235)), (11, (.int .i64 x249))]) (fun s => [(2, ow Al232 cl232 3 fl_i64 l232)]) ?_ ?_
          · refine Tr.seq ?_
            refine Tr.region ?_
            refine Tr.val (wn rfl) rfl (fun _ _ h1 h2 => run_move (h1.ev rfl)) ?_
            refine Tr.val (wn rfl) rfl (fun _ _ h1 h2 => run_len un_97 (h1.ev rfl)) ?_
            refine Tr.val (wn rfl) rfl (fun _ _ h1 h2 => run_gtr (h1.ev rfl) (h1.ev rfl)) ?_
            refine Tr.val (wn rfl) rfl (fun _ _ h1 h2 => run_move (h1.ev rfl)) ?_
            obtain ⟨g272, hg272, H⟩ := bnd H
            refine Tr.mid0 6 [(0, (.slice Al256 (l256).length cl256)), (1, (.slice Al231 (l231).length cl231)), (2, (.func (.func fid2) #[] cap2.toArray)), (7, (.slice Al232 (l232).length cl232)), (8, (.bool x257)), (9, (.bool x234)), (10, (.bool x235)), (11, (.int .i64 x249)), (67, (.bool g272))] [(2, ow Al232 cl232 3 fl_i64 l232)] ?_ ?_
            · cases hg274 : (decide (0 < (l231.length : Int)))
              · rw [hg274] at hg272
                rw [if_neg (by decide)] at hg272
                have H := hg272
                obtain rfl := Option.some.inj H
                refine Tr.pass rfl rfl rfl rfl rfl (by decide) ?_
                refine Tr.pass rfl rfl rfl rfl rfl (by decide) ?_
                refine Tr.pass rfl rfl rfl rfl rfl (by decide) ?_
                refine Tr.pass rfl rfl rfl rfl rfl (by decide) ?_
                refine Tr.pass rfl rfl rfl rfl rfl (by decide) ?_
                refine Tr.val (wn rfl) rfl (fun _ _ h1 h2 => run_pickF (h1.ev rfl) (h1.ev rfl)) ?_
                exact Tr.nil (Tr.fin0 (.cons rfl (.cons rfl (.cons rfl (.cons rfl (.cons rfl (.cons rfl (.cons rfl (.cons rfl (.cons rfl .nil))))))))) (.cons rfl .nil))
              · rw [hg274] at hg272
                rw [if_pos rfl] at hg272
                have H := hg272
                refine Tr.val (wg rfl rfl rfl) rfl (fun _ _ h1 h2 => run_move (h1.ev rfl)) ?_
                obtain ⟨x273, hx273, H⟩ := bnd H
                obtain ⟨hx2730, hx2731, hx2732⟩ := idx_some hx273
                refine Tr.val (wg rfl rfl rfl) rfl (fun _ _ h1 h2 => run_indexAddr el_97 (h1.ev rfl) hl231.form (h1.ev rfl) hx2730 hx2731) ?_
                refine Tr.val (wg rfl rfl rfl) rfl (fun _ _ h1 h2 => run_load1 ag_3 (h1.ev rfl) (rdF ef_i64 hl231 hx2732 h2) rfl) ?_
                refine Tr.val (wg rfl rfl rfl) rfl (fun _ _ h1 h2 => run_move (h1.ev rfl)) ?_
                refine Tr.val (wg rfl rfl rfl) rfl (fun _ _ h1 h2 => run_eql (h1.ev rfl) (h1.ev rfl)) ?_
                refine Tr.val (wn rfl) rfl (fun _ _ h1 h2 => run_pickT (h1.ev rfl) (h1.ev rfl)) ?_
                obtain rfl := Option.some.inj H
                exact Tr.nil (Tr.fin0 (.cons rfl (.cons rfl (.cons rfl (.cons rfl (.cons rfl (.cons rfl (.cons rfl (.cons rfl (.cons rfl .nil))))))))) (.cons rfl .nil))
            · show Tr _ _ (LF [(0, (.slice Al256 (l256).length cl256)), (1, (.slice Al231 (l231).length cl231)), (2, (.func (.func fid2) #[] cap2.toArray)), (7, (.slice Al232 (l232).length cl232)), (8, (.bool x257)), (9, (.bool x234)), (10, (.bool x235)), (11, (.int .i64 x249)), (67, (.bool g272))]) (LE [(2, ow Al232 cl232 3 fl_i64 l232)]) _
              refine Tr.nil (Tr.normThen ?_)
              refine Tr.cond rfl H (fun H => ?_) (fun H => ?_)
              · refine Tr.region ?_
                refine Tr.val (wn rfl) rfl (fun _ _ h1 h2 => run_move (h1.ev rfl)) ?_
                obtain ⟨l274, hl274, H⟩ := bnd H
                refine Tr.val (wn rfl) rfl (fun _ _ h1 h2 => run_cutL el_97 (h1.ev rfl) hl231.form (h1.ev rfl) hl274) ?_
                refine Tr.val (wn rfl) rfl (fun _ _ h1 h2 => run_move (h1.ev rfl)) ?_
                refine Tr.val (wn rfl) rfl (fun _ _ h1 h2 => run_not (h1.ev rfl)) ?_
                refine Tr.val (wn rfl) rfl (fun _ _ h1 h2 => run_assign (h1.ev rfl)) ?_
                refine Tr.val (wn rfl) rfl (fun _ _ h1 h2 => run_assign (h1.ev rfl)) ?_
                refine Tr.nil ?_
                exact Tr.backThen leJ266 (l274, (!x234), (cutA Al231 (1 : Int).toNat 1 cl231), (cl231 - (1 : Int).toNat)) ⟨H, (Sl.cut hl231 hl274)⟩ (.cons rfl (.cons rfl (.cons rfl (.cons rfl (.cons rfl (.cons rfl (.cons rfl (.cons rfl .nil)))))))) (.cons rfl .nil)
              · refine Tr.skip ?_
                exact Tr.backThen leJ266 (l231, x234, Al231, cl231) ⟨H, hl231⟩ (.cons rfl (.cons rfl (.cons rfl (.cons rfl (.cons rfl (.cons rfl (.cons rfl (.cons rfl .nil)))))))) (.cons rfl .nil)
          · intro w s hlJ267 hs
            obtain ⟨l264, x265, Al264, cl264⟩ := s
            obtain ⟨H, hl264⟩ := hs
            replace H : F_shape_line_J8 p2 l232 x235 (F_shape_line_L7 p2 mF_shape_line_L7) x249 l256 x257 l264 x265 = some r := H
            replace hl256 := hl256.leR hlJ267
            replace hf2 := fun w' he => hf2 w' (hlJ267.ext.trans he)
            replace leB := leB.trans hlJ267
            replace leF_shape_line_L7 := leF_shape_line_L7.trans hlJ267
            replace hl264 : Sl w.R w.W fl_i64 Al264 cl264 l264 := hl264
            unfold F_shape_line_J8 at H
            show Tr _ _ (LF [(0, (.slice Al256 (l256).length cl256)), (1, (.slice Al264 (l264).length cl264)), (2, (.func (.func fid2) #[] cap2.toArray)), (7, (.slice Al232 (l232).length cl232)), (8, (.bool x257)), (9, (.bool x265)), (10, (.bool x235)), (11, (.int .i64 x249))]) (LE [(2, ow Al232 cl232 3 fl_i64 l232)]) _
            refine Tr.seq ?_
            refine Tr.region ?_
            refine Tr.val (wn rfl) rfl (fun _ _ h1 h2 => run_move (h1.ev rfl)) ?_
            refine Tr.val (wn rfl) rfl (fun _ _ h1 h2 => run_move (h1.ev rfl)) ?_
            refine Tr.val (wn rfl) rfl (fun _ _ h1 h2 => run_move (h1.ev rfl)) ?_
            obtain ⟨y268, hy268, H⟩ := bnd H
            refine Tr.callF (r := (.bool y268)) (wn rfl) rfl rfl hg2 (evl_cons rfl (evl_cons rfl evl_nil)) (fun W hW => hf2 hW.all hW.extAll x257 x265 _ hy268) ?_
            refine Tr.val (wn rfl) rfl (fun _ _ h1 h2 => run_assign (h1.ev rfl)) ?_
            refine Tr.nil (Tr.normThen ?_)
            refine Tr.seq ?_
            refine Tr.region ?_
            refine Tr.val (wn rfl) rfl (fun _ _ h1 h2 => run_move (h1.ev rfl)) ?_
            refine Tr.val (wn rfl) rfl (fun _ _ h1 h2 => run_move (h1.ev rfl)) ?_
            refine Tr.val (wn rfl) rfl (fun _ _ h1 h2 => run_neqB un_4 (h1.ev rfl) (h1.ev rfl)) ?_
            refine Tr.nil (Tr.normThen ?_)
            refine Tr.cond rfl H (fun H => ?_) (fun H => ?_)
            · refine Tr.region ?_
              refine Tr.val (wn rfl) rfl (fun _ _ h1 h2 => run_move (h1.ev rfl)) ?_
              refine Tr.val (wn rfl) rfl (fun _ _ h1 h2 => run_move (h1.ev rfl)) ?_
              refine Tr.buildSlice 5 (e := 3) (vs := [(0, (.int .i64 x249))]) (cs := [(.int .i64 x249)]) (wn rfl) rfl (evs_cons rfl evs_nil) (by kernel_rfl) fun b269 => ?_
              obtain ⟨l270, hl270, H⟩ := bnd H
              refine Tr.append 2 (t := fl_i64) (l := l232) (l2 := [x249]) (wn rfl) rfl rfl rfl rfl (fun W hW => ⟨[[(.int .i64 x249)]], (.cons ⟨(), trivial, rfl⟩ .nil), rdb hW (vs := [(.int .i64 x249)]) (k := 5) rfl 0⟩) un_97 sz_3 zl_3 (by decide) by_3 rfl hl270 fun Al270 cl270 hAl270 => ?_
              refine Tr.val (wn rfl) rfl (fun _ _ h1 h2 => run_move (h1.ev rfl)) ?_
              refine Tr.val (wn rfl) rfl (fun _ _ h1 h2 => run_assign (h1.ev rfl)) ?_
              refine Tr.val (wn rfl) rfl (fun _ _ h1 h2 => run_assign (h1.ev rfl)) ?_
              refine Tr.nil (Tr.normBlock ?_)
              exact Tr.backThen leF_shape_line_L7 (l256, l264, l270, x257, x265, y268, Al256, cl256, Al264, cl264, Al270, cl270) ⟨H, hl256, hl264, hAl270⟩ (.cons rfl (.cons rfl (.cons rfl (.cons rfl (.cons rfl (.cons rfl (.cons rfl .nil))))))) (.cons rfl .nil)
            · refine Tr.skip (Tr.normBlock ?_)
              exact Tr.backThen leF_shape_line_L7 (l256, l264, l232, x257, x265, x235, Al256, cl256, Al264, cl264, Al232, cl232) ⟨H, hl256, hl264, hl232⟩ (.cons rfl (.cons rfl (.cons rfl (.cons rfl (.cons rfl (.cons rfl (.cons rfl .nil))))))) (.cons rfl .nil)
    · refine Tr.exit (Tr.exitThen (Tr.exitThen (Tr.exitBlock (Tr.normThen ?_))))
      refine Tr.seq ?_
      refine Tr.region ?_
      refine Tr.val (wn rfl) rfl (fun _ _ h1 h2 => run_move (h1.ev rfl)) ?_
      refine Tr.val (wn rfl) rfl (fun _ _ h1 h2 => run_assign (h1.ev rfl)) ?_
      refine Tr.nil (Tr.normThen ?_)
      refine Tr.ret ?_
      obtain rfl := Option.some.inj H
      exact Tr.out (m := [(.slice Al232 (l232).length cl232)]) [] (res_tmp rfl res_nil) (fun W hW => ⟨(Al232, cl232), rfl, hl232, HF.lowE leB (hW.pick (ks := [2]) (by decide) (pk_cons rfl pk_nil)) ⟨ow_any _ _ _ _ tr_i64, trivial⟩⟩)

end Go.Proofs.Ytnlhigfglfahiaa
