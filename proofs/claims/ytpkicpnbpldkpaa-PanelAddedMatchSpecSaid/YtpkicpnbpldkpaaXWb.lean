/- The walks: each function computes its plain function. -/
import Derived.Test.YtpkicpnbpldkpaaXWa
namespace Go.Proofs.Ytpkicpnbpldkpaa
open Go.RowKit
set_option maxRecDepth 100000
set_option maxHeartbeats 1000000
theorem F_panel_Added_ok (N : Nat) {w : Bs} (p0 : TPanel) (Ap0_0 : Option Addr) (cp0_0 : Nat) (hp0_0 : Sl w.R w.W fl_TBoardKind Ap0_0 cp0_0 p0.Kinds) (Ap0_1 : Option Addr) (cp0_1 : Nat) (hp0_1 : Sl w.R w.W fl_TSlot Ap0_1 cp0_1 p0.Slots) (Ap0_2 : Option Addr) (cp0_2 : Nat) (hp0_2 : Sl w.R w.W fl_TPoint Ap0_2 cp0_2 p0.Marks) (p1 : ByteArray) (r : (TPanel × Bool × Int)) (H : F_panel_Added N p0 p1 = some r) (hE : HF w w.W (LEn [emp, emp])) : Calls Try.prog 32 [(.agg #[(.int .i64 p0.W), (.int .i64 p0.H), (.int .i64 p0.Rail), (.int .i64 p0.Gap), (.slice Ap0_0 (p0.Kinds).length cp0_0), (.slice Ap0_1 (p0.Slots).length cp0_1), (.slice Ap0_2 (p0.Marks).length cp0_2)]), (.string p1)].toArray w.W fun e W' => ∃ (w' : Bs) (u : (Option Addr × Nat) × (Option Addr × Nat) × (Option Addr × Nat)), w.Le w' ∧ e = .returned (.tuple #[(.agg #[(.int .i64 r.1.W), (.int .i64 r.1.H), (.int .i64 r.1.Rail), (.int .i64 r.1.Gap), (.slice u.1.1 (r.1.Kinds).length u.1.2), (.slice u.2.1.1 (r.1.Slots).length u.2.1.2), (.slice u.2.2.1 (r.1.Marks).length u.2.2.2)]), (.bool r.2.1), (.int .i64 r.2.2)]) ∧ (SlF u.1.1 (r.1.Kinds).length u.1.2 ∧ Sl w'.O w'.W fl_TSlot u.2.1.1 u.2.1.2 r.1.Slots ∧ SlF u.2.2.1 (r.1.Marks).length u.2.2.2) ∧ HF w' W' (LEn [ow u.1.1 u.1.2 82 fl_TBoardKind r.1.Kinds, ow u.2.2.1 u.2.2.2 32 fl_TPoint r.1.Marks]) := by
  unfold F_panel_Added at H
  have leB := Bs.Le.refl w
  refine Tr.enter (n := 151) Try.func32 rfl rfl rfl hE ?_
  refine Tr.seq ?_
  refine Tr.region ?_
  refine Tr.box 1 (cs := [(.int .i64 p0.W), (.int .i64 p0.H), (.int .i64 p0.Rail), (.int .i64 p0.Gap), (.slice Ap0_0 (p0.Kinds).length cp0_0), (.slice Ap0_1 (p0.Slots).length cp0_1), (.slice Ap0_2 (p0.Marks).length cp0_2)]) (wn rfl) rfl rfl rfl fun b100 => ?_
  refine Tr.alloc 2 (wn rfl) rfl ze_26 fun b101 => ?_
  refine Tr.val (wn rfl) rfl (fun _ _ h1 h2 => run_assign (h1.ev rfl)) ?_
  refine Tr.val (wn rfl) rfl (fun _ _ h1 h2 => run_assign (h1.ev rfl)) ?_
  refine Tr.nil (Tr.normThen ?_)
  refine Tr.seq ?_
  refine Tr.region ?_
  refine Tr.val (wn rfl) rfl (fun _ _ h1 h2 => run_loadN (cs := [(.int .i64 p0.W), (.int .i64 p0.H), (.int .i64 p0.Rail), (.int .i64 p0.Gap), (.slice Ap0_0 (p0.Kinds).length cp0_0), (.slice Ap0_1 (p0.Slots).length cp0_1), (.slice Ap0_2 (p0.Marks).length cp0_2)]) ag_26 sz_26 (h1.ev rfl) (CellsAt.take (rdb h2 (vs := [(.int .i64 p0.W), (.int .i64 p0.H), (.int .i64 p0.Rail), (.int .i64 p0.Gap), (.slice Ap0_0 (p0.Kinds).length cp0_0), (.slice Ap0_1 (p0.Slots).length cp0_1), (.slice Ap0_2 (p0.Marks).length cp0_2)]) (k := 1) rfl 0) 7) rfl) ?_
  obtain ⟨y102, hy102, H⟩ := bnd H
  refine Tr.callM [3] [emp] (U := (Option Addr × Nat)) (fun u => (.tuple #[(.slice u.1 (y102.1).length u.2), (.int .i64 y102.2)])) (fun u => SlF u.1 (y102.1).length u.2) (fun u => [ow u.1 u.2 42 fl_TRect y102.1]) rfl (pk_cons rfl pk_nil) (fun _ => rfl) (wn rfl) rfl Try.call47 (evl_cons rfl evl_nil) (fun W hW hp hE => F_panel_open_ok N p0 Ap0_0 cp0_0 (hp0_0.ext (hW.extS hp)) Ap0_1 cp0_1 (hp0_1.ext (hW.extS hp)) Ap0_2 cp0_2 (hp0_2.ext (hW.extS hp)) y102 hy102 hE) ?_
  intro u hu
  obtain ⟨Ay102_0, cy102_0⟩ := u
  have gy102_0 := hu
  have hgy102_0 : SlF Ay102_0 (y102.1).length cy102_0 := gy102_0 --@phi
  show Tr _ _ (uf _ 25 (.tuple #[(.slice Ay102_0 (y102.1).length cy102_0), (.int .i64 y102.2)])) (up _ 3 (ow Ay102_0 cy102_0 42 fl_TRect y102.1)) _
  refine Tr.val (wn rfl) rfl (fun _ _ h1 h2 => run_move (h1.ev rfl)) ?_
  refine Tr.val (wn rfl) rfl (fun _ _ h1 h2 => run_extract (h1.ev rfl) rfl) ?_
  refine Tr.val (wn rfl) rfl (fun _ _ h1 h2 => run_extract (h1.ev rfl) rfl) ?_
  refine Tr.val (wn rfl) rfl (fun _ _ h1 h2 => run_assign (h1.ev rfl)) ?_
  refine Tr.val (wn rfl) rfl (fun _ _ h1 h2 => run_assign (h1.ev rfl)) ?_
  refine Tr.nil (Tr.normThen ?_)
  refine Tr.seq ?_
  refine Tr.seq ?_
  refine Tr.region ?_
  refine Tr.val (wn rfl) rfl (fun _ _ h1 h2 => run_move (h1.ev rfl)) ?_
  refine Tr.val (wn rfl) rfl (fun _ _ h1 h2 => run_neq (h1.ev rfl) (h1.ev rfl)) ?_
  refine Tr.nil (Tr.normThen ?_)
  refine Tr.cond rfl H (fun H => ?_) (fun H => ?_)
  · refine Tr.seq ?_
    refine Tr.region ?_
    refine Tr.build (vs := []) (cs := [(.int .i64 0), (.int .i64 0), (.int .i64 0), (.int .i64 0), (.slice none 0 0), (.slice none 0 0), (.slice none 0 0)]) (wn rfl) rfl evs_nil (by kernel_rfl) ?_
    refine Tr.val (wn rfl) rfl (fun _ _ h1 h2 => run_move (h1.ev rfl)) ?_
    refine Tr.store 2 (cs := [(.int .i64 0), (.int .i64 0), (.int .i64 0), (.int .i64 0), (.slice none 0 0), (.slice none 0 0), (.slice none 0 0)]) [(.int .i64 0), (.int .i64 0), (.int .i64 0), (.int .i64 0), (.slice none 0 0), (.slice none 0 0), (.slice none 0 0)] (wn rfl) rfl rfl rfl rfl sz_26 rfl rfl rfl ?_
    refine Tr.val (wn rfl) rfl (fun _ _ h1 h2 => run_assign (h1.ev rfl)) ?_
    refine Tr.val (wn rfl) rfl (fun _ _ h1 h2 => run_assign (h1.ev rfl)) ?_
    refine Tr.nil (Tr.normThen ?_)
    refine Tr.ret (Tr.retThen ?_)
    obtain rfl := Option.some.inj H
    refine Tr.nilOwn 4 82 fl_TBoardKind ?_
    refine Tr.nilOwn 5 32 fl_TPoint ?_
    exact Tr.out (m := [(.agg #[(.int .i64 0), (.int .i64 0), (.int .i64 0), (.int .i64 0), (.slice none 0 0), (.slice none 0 0), (.slice none 0 0)]), (.bool false), (.int .i64 y102.2)]) [2] (res_cell rfl rfl ag_26 sz_26 (res_tmp rfl (res_tmp rfl res_nil))) (fun W hW => ⟨w, ((none, 0), (none, 0), (none, 0)), leB, rfl, ⟨slf_nil, (Sl.nil _ _ _), slf_nil⟩, hW.pick (ks := [4, 5]) (by decide) (pk_cons rfl (pk_cons rfl pk_nil))⟩)
  · refine Tr.skip (Tr.normThen ?_)
    refine Tr.seq ?_
    refine Tr.region ?_
    refine Tr.val (wn rfl) rfl (fun _ _ h1 h2 => run_loadN (cs := [(.int .i64 p0.W), (.int .i64 p0.H), (.int .i64 p0.Rail), (.int .i64 p0.Gap), (.slice Ap0_0 (p0.Kinds).length cp0_0), (.slice Ap0_1 (p0.Slots).length cp0_1), (.slice Ap0_2 (p0.Marks).length cp0_2)]) ag_26 sz_26 (h1.ev rfl) (CellsAt.take (rdb h2 (vs := [(.int .i64 p0.W), (.int .i64 p0.H), (.int .i64 p0.Rail), (.int .i64 p0.Gap), (.slice Ap0_0 (p0.Kinds).length cp0_0), (.slice Ap0_1 (p0.Slots).length cp0_1), (.slice Ap0_2 (p0.Marks).length cp0_2)]) (k := 1) rfl 0) 7) rfl) ?_
    refine Tr.val (wn rfl) rfl (fun _ _ h1 h2 => run_move (h1.ev rfl)) ?_
    obtain ⟨y104, hy104, H⟩ := bnd H
    refine Tr.call0 (r := (.int .i64 y104)) (wn rfl) rfl Try.call45 (evl_cons rfl (evl_cons rfl evl_nil)) (fun W hW => F_panel_kindAt_ok p0 Ap0_0 cp0_0 (hp0_0.ext hW.extAll) Ap0_1 cp0_1 (hp0_1.ext hW.extAll) Ap0_2 cp0_2 (hp0_2.ext hW.extAll) p1 y104 hy104 (HF.start _)) ?_
    refine Tr.val (wn rfl) rfl (fun _ _ h1 h2 => run_assign (h1.ev rfl)) ?_
    refine Tr.nil (Tr.normThen ?_)
    refine Tr.seq ?_
    refine Tr.seq ?_
    refine Tr.region ?_
    refine Tr.val (wn rfl) rfl (fun _ _ h1 h2 => run_move (h1.ev rfl)) ?_
    refine Tr.val (wn rfl) rfl (fun _ _ h1 h2 => run_lss (h1.ev rfl) (h1.ev rfl)) ?_
    refine Tr.nil (Tr.normThen ?_)
    refine Tr.cond rfl H (fun H => ?_) (fun H => ?_)
    · refine Tr.seq ?_
      refine Tr.region ?_
      refine Tr.build (vs := []) (cs := [(.int .i64 0), (.int .i64 0), (.int .i64 0), (.int .i64 0), (.slice none 0 0), (.slice none 0 0), (.slice none 0 0)]) (wn rfl) rfl evs_nil (by kernel_rfl) ?_
      refine Tr.store 2 (cs := [(.int .i64 0), (.int .i64 0), (.int .i64 0), (.int .i64 0), (.slice none 0 0), (.slice none 0 0), (.slice none 0 0)]) [(.int .i64 0), (.int .i64 0), (.int .i64 0), (.int .i64 0), (.slice none 0 0), (.slice none 0 0), (.slice none 0 0)] (wn rfl) rfl rfl rfl rfl sz_26 rfl rfl rfl ?_
      refine Tr.val (wn rfl) rfl (fun _ _ h1 h2 => run_assign (h1.ev rfl)) ?_
      refine Tr.val (wn rfl) rfl (fun _ _ h1 h2 => run_assign (h1.ev rfl)) ?_
      refine Tr.nil (Tr.normThen ?_)
      refine Tr.ret (Tr.retThen ?_)
      obtain rfl := Option.some.inj H
      refine Tr.nilOwn 6 82 fl_TBoardKind ?_
      refine Tr.nilOwn 7 32 fl_TPoint ?_
      exact Tr.out (m := [(.agg #[(.int .i64 0), (.int .i64 0), (.int .i64 0), (.int .i64 0), (.slice none 0 0), (.slice none 0 0), (.slice none 0 0)]), (.bool false), (.int .i64 9)]) [2] (res_cell rfl rfl ag_26 sz_26 (res_tmp rfl (res_tmp rfl res_nil))) (fun W hW => ⟨w, ((none, 0), (none, 0), (none, 0)), leB, rfl, ⟨slf_nil, (Sl.nil _ _ _), slf_nil⟩, hW.pick (ks := [6, 7]) (by decide) (pk_cons rfl (pk_cons rfl pk_nil))⟩)
    · refine Tr.skip (Tr.normThen ?_)
      refine Tr.seq ?_
      refine Tr.drawC 7 [] [] (by kernel_rfl) (by kernel_rfl) fun sz105 hlosz105 hEsz105 => ?_
      refine Dr.quiet 0 [(38, (.pointer (some ⟨b100, 2, none⟩)))] (by kernel_rfl) rfl rfl (by kernel_rfl) ?_ rfl rfl ?_
      · refine Tq.val (wn rfl) rfl (fun _ _ h1 h2 => run_fieldAddr fo_26_2 (h1.ev rfl)) ?_
        exact Tq.fin (.cons rfl .nil)
      refine Dr.quiet 1 [(39, (.int .i64 p0.Rail))] (by kernel_rfl) rfl rfl (by kernel_rfl) ?_ rfl rfl ?_
      · refine Tq.val (wn rfl) rfl (fun _ _ h1 h2 => run_load1 ag_3 (h1.ev rfl) (rdb h2 (vs := [(.int .i64 p0.W), (.int .i64 p0.H), (.int .i64 p0.Rail), (.int .i64 p0.Gap), (.slice Ap0_0 (p0.Kinds).length cp0_0), (.slice Ap0_1 (p0.Slots).length cp0_1), (.slice Ap0_2 (p0.Marks).length cp0_2)]) (k := 1) rfl 2) rfl) ?_
        exact Tq.fin (.cons rfl .nil)
      refine Dr.quiet 3 [(41, (.pointer (some ⟨b100, 2, none⟩)))] (by kernel_rfl) rfl rfl (by kernel_rfl) ?_ rfl rfl ?_
      · refine Tq.val (wn rfl) rfl (fun _ _ h1 h2 => run_fieldAddr fo_26_2 (h1.ev rfl)) ?_
        exact Tq.fin (.cons rfl .nil)
      refine Dr.quiet 4 [(42, (.int .i64 p0.Rail))] (by kernel_rfl) rfl rfl (by kernel_rfl) ?_ rfl rfl ?_
      · refine Tq.val (wn rfl) rfl (fun _ _ h1 h2 => run_load1 ag_3 (h1.ev rfl) (rdb h2 (vs := [(.int .i64 p0.W), (.int .i64 p0.H), (.int .i64 p0.Rail), (.int .i64 p0.Gap), (.slice Ap0_0 (p0.Kinds).length cp0_0), (.slice Ap0_1 (p0.Slots).length cp0_1), (.slice Ap0_2 (p0.Marks).length cp0_2)]) (k := 1) rfl 2) rfl) ?_
        exact Tq.fin (.cons rfl .nil)
      refine Dr.cut (U := Nat × Nat) [2, 6, 5] 0 (fun u => sz105 ≤ u.1 ∧ sz105 ≤ u.2) (fun u => [(0, (.agg #[(.int .i64 p0.W), (.int .i64 p0.H), (.int .i64 p0.Rail), (.int .i64 p0.Gap), (.slice Ap0_0 (p0.Kinds).length cp0_0), (.slice Ap0_1 (p0.Slots).length cp0_1), (.slice Ap0_2 (p0.Marks).length cp0_2)])), (1, (.string p1)), (2, (.pointer (some ⟨b100, 0, none⟩))), (4, (.pointer (some ⟨b101, 0, none⟩))), (5, (.bool false)), (6, (.int .i64 0)), (7, (.slice Ay102_0 (y102.1).length cy102_0)), (8, (.int .i64 y102.2)), (9, (.int .i64 y104)), (10, (.slice (some ⟨u.1, 0, none⟩) 1 1)), (23, (.tuple #[(.slice Ay102_0 (y102.1).length cy102_0), (.int .i64 y102.2)])), (24, (.agg #[(.int .i64 p0.W), (.int .i64 p0.H), (.int .i64 p0.Rail), (.int .i64 p0.Gap), (.slice Ap0_0 (p0.Kinds).length cp0_0), (.slice Ap0_1 (p0.Slots).length cp0_1), (.slice Ap0_2 (p0.Marks).length cp0_2)])), (25, (.tuple #[(.slice Ay102_0 (y102.1).length cy102_0), (.int .i64 y102.2)])), (26, (.slice Ay102_0 (y102.1).length cy102_0)), (27, (.int .i64 y102.2)), (28, (.int .i64 y102.2)), (29, (.bool (y102.2 != 0))), (32, (.agg #[(.int .i64 p0.W), (.int .i64 p0.H), (.int .i64 p0.Rail), (.int .i64 p0.Gap), (.slice Ap0_0 (p0.Kinds).length cp0_0), (.slice Ap0_1 (p0.Slots).length cp0_1), (.slice Ap0_2 (p0.Marks).length cp0_2)])), (33, (.string p1)), (34, (.int .i64 y104)), (35, (.int .i64 y104)), (36, (.bool (decide (y104 < 0)))), (38, (.pointer (some ⟨b100, 2, none⟩))), (39, (.int .i64 p0.Rail)), (40, (.slice (some ⟨u.1, 0, none⟩) 1 1)), (41, (.pointer (some ⟨b100, 2, none⟩))), (42, (.int .i64 p0.Rail)), (43, (.slice (some ⟨u.2, 0, none⟩) 1 1))]) (fun u => [(1, bx b100 #[(.int .i64 p0.W), (.int .i64 p0.H), (.int .i64 p0.Rail), (.int .i64 p0.Gap), (.slice Ap0_0 (p0.Kinds).length cp0_0), (.slice Ap0_1 (p0.Slots).length cp0_1), (.slice Ap0_2 (p0.Marks).length cp0_2)] 26), (2, bx b101 #[(.int .i64 0), (.int .i64 0), (.int .i64 0), (.int .i64 0), (.slice none 0 0), (.slice none 0 0), (.slice none 0 0)] 26), (3, ow Ay102_0 cy102_0 42 fl_TRect y102.1), (8, bx u.1 #[(.int .i64 p0.Rail)] 3), (9, bx u.2 #[(.int .i64 p0.Rail)] 3)]) ?_ ?_
      · intro hC
        refine Dr.pair 2 5 (by kernel_rfl) ?_ ?_
        · refine St.buildSlice 2 8 (e := 3) (vs := [(0, (.int .i64 p0.Rail))]) (cs := [(.int .i64 p0.Rail)]) rfl (wn rfl) rfl (evs_cons rfl evs_nil) (by kernel_rfl) fun b106 hb106 => ?_
          refine Dr.quiet 6 [(10, (.slice (some ⟨b106, 0, none⟩) 1 1))] (by kernel_rfl) rfl rfl (by kernel_rfl) ?_ rfl rfl ?_
          · refine Tq.val (wn rfl) rfl (fun _ _ h1 h2 => run_assign (h1.ev rfl)) ?_
            exact Tq.fin (.cons rfl .nil)
          refine Dr.one 5 (by kernel_rfl) ?_
          refine St.buildSlice 5 9 (e := 3) (vs := [(0, (.int .i64 p0.Rail))]) (cs := [(.int .i64 p0.Rail)]) rfl (wn rfl) rfl (evs_cons rfl evs_nil) (by kernel_rfl) fun b107 hb107 => ?_
          exact (hC ⟨b106, b107⟩ ⟨hb106, hb107⟩).use (by kernel_rfl) (.cons rfl (.cons rfl (.cons rfl (.cons rfl (.cons rfl (.cons rfl (.cons rfl (.cons rfl (.cons rfl (.cons rfl (.cons rfl (.cons rfl (.cons rfl (.cons rfl (.cons rfl (.cons rfl (.cons rfl (.cons rfl (.cons rfl (.cons rfl (.cons rfl (.cons rfl (.cons rfl (.cons rfl (.cons rfl (.cons rfl (.cons rfl (.cons rfl .nil)))))))))))))))))))))))))))) (.cons rfl (.cons rfl (.cons rfl (.cons rfl (.cons rfl .nil)))))
        · refine St.buildSlice 5 9 (e := 3) (vs := [(0, (.int .i64 p0.Rail))]) (cs := [(.int .i64 p0.Rail)]) rfl (wn rfl) rfl (evs_cons rfl evs_nil) (by kernel_rfl) fun b107 hb107 => ?_
          refine Dr.one 2 (by kernel_rfl) ?_
          refine St.buildSlice 2 8 (e := 3) (vs := [(0, (.int .i64 p0.Rail))]) (cs := [(.int .i64 p0.Rail)]) rfl (wn rfl) rfl (evs_cons rfl evs_nil) (by kernel_rfl) fun b106 hb106 => ?_
          refine Dr.quiet 6 [(10, (.slice (some ⟨b106, 0, none⟩) 1 1))] (by kernel_rfl) rfl rfl (by kernel_rfl) ?_ rfl rfl ?_
          · refine Tq.val (wn rfl) rfl (fun _ _ h1 h2 => run_assign (h1.ev rfl)) ?_
            exact Tq.fin (.cons rfl .nil)
          exact (hC ⟨b106, b107⟩ ⟨hb106, hb107⟩).use (by kernel_rfl) (.cons rfl (.cons rfl (.cons rfl (.cons rfl (.cons rfl (.cons rfl (.cons rfl (.cons rfl (.cons rfl (.cons rfl (.cons rfl (.cons rfl (.cons rfl (.cons rfl (.cons rfl (.cons rfl (.cons rfl (.cons rfl (.cons rfl (.cons rfl (.cons rfl (.cons rfl (.cons rfl (.cons rfl (.cons rfl (.cons rfl (.cons rfl (.cons rfl .nil)))))))))))))))))))))))))))) (.cons rfl (.cons rfl (.cons rfl (.cons rfl (.cons rfl .nil)))))
      intro u hu
      obtain ⟨b106, b107⟩ := u
      obtain ⟨hb106, hb107⟩ := hu
      replace hb106 : sz105 ≤ b106 := hb106
      replace hb107 : sz105 ≤ b107 := hb107
      show Dr _ _ _ _ _ _ _ _ _ (LF [(0, (.agg #[(.int .i64 p0.W), (.int .i64 p0.H), (.int .i64 p0.Rail), (.int .i64 p0.Gap), (.slice Ap0_0 (p0.Kinds).length cp0_0), (.slice Ap0_1 (p0.Slots).length cp0_1), (.slice Ap0_2 (p0.Marks).length cp0_2)])), (1, (.string p1)), (2, (.pointer (some ⟨b100, 0, none⟩))), (4, (.pointer (some ⟨b101, 0, none⟩))), (5, (.bool false)), (6, (.int .i64 0)), (7, (.slice Ay102_0 (y102.1).length cy102_0)), (8, (.int .i64 y102.2)), (9, (.int .i64 y104)), (10, (.slice (some ⟨b106, 0, none⟩) 1 1)), (23, (.tuple #[(.slice Ay102_0 (y102.1).length cy102_0), (.int .i64 y102.2)])), (24, (.agg #[(.int .i64 p0.W), (.int .i64 p0.H), (.int .i64 p0.Rail), (.int .i64 p0.Gap), (.slice Ap0_0 (p0.Kinds).length cp0_0), (.slice Ap0_1 (p0.Slots).length cp0_1), (.slice Ap0_2 (p0.Marks).length cp0_2)])), (25, (.tuple #[(.slice Ay102_0 (y102.1).length cy102_0), (.int .i64 y102.2)])), (26, (.slice Ay102_0 (y102.1).length cy102_0)), (27, (.int .i64 y102.2)), (28, (.int .i64 y102.2)), (29, (.bool (y102.2 != 0))), (32, (.agg #[(.int .i64 p0.W), (.int .i64 p0.H), (.int .i64 p0.Rail), (.int .i64 p0.Gap), (.slice Ap0_0 (p0.Kinds).length cp0_0), (.slice Ap0_1 (p0.Slots).length cp0_1), (.slice Ap0_2 (p0.Marks).length cp0_2)])), (33, (.string p1)), (34, (.int .i64 y104)), (35, (.int .i64 y104)), (36, (.bool (decide (y104 < 0)))), (38, (.pointer (some ⟨b100, 2, none⟩))), (39, (.int .i64 p0.Rail)), (40, (.slice (some ⟨b106, 0, none⟩) 1 1)), (41, (.pointer (some ⟨b100, 2, none⟩))), (42, (.int .i64 p0.Rail)), (43, (.slice (some ⟨b107, 0, none⟩) 1 1))]) (LE [(1, bx b100 #[(.int .i64 p0.W), (.int .i64 p0.H), (.int .i64 p0.Rail), (.int .i64 p0.Gap), (.slice Ap0_0 (p0.Kinds).length cp0_0), (.slice Ap0_1 (p0.Slots).length cp0_1), (.slice Ap0_2 (p0.Marks).length cp0_2)] 26), (2, bx b101 #[(.int .i64 0), (.int .i64 0), (.int .i64 0), (.int .i64 0), (.slice none 0 0), (.slice none 0 0), (.slice none 0 0)] 26), (3, ow Ay102_0 cy102_0 42 fl_TRect y102.1), (8, bx b106 #[(.int .i64 p0.Rail)] 3), (9, bx b107 #[(.int .i64 p0.Rail)] 3)])
      refine Dr.tail (by kernel_rfl) ?_
      refine Tr.own 9 fl_i64 [p0.Rail] (css := [[(.int .i64 p0.Rail)]]) rfl (.cons ⟨(), trivial, rfl⟩ .nil) rfl (by decide) (lit_max rfl) ?_
      refine Tr.val (wn rfl) rfl (fun _ _ h1 h2 => run_assign (h1.ev rfl)) ?_
      refine Tr.nil (Tr.normThen ?_)
      refine Tr.seq ?_
      refine Tr.seq ?_
      refine Tr.region ?_
      refine Tr.val (wn rfl) rfl (fun _ _ h1 h2 => run_move (h1.ev rfl)) ?_
      refine Tr.val (wn rfl) rfl (fun _ _ h1 h2 => run_len un_38 (h1.ev rfl)) ?_
      refine Tr.val (wn rfl) rfl (fun _ _ h1 h2 => run_move (h1.ev rfl)) ?_
      refine Tr.nil (Tr.normThen ?_)
      refine Tr.block ?_
      refine Tr.own 8 fl_i64 [p0.Rail] (css := [[(.int .i64 p0.Rail)]]) rfl (.cons ⟨(), trivial, rfl⟩ .nil) rfl (by decide) (lit_max rfl) ?_
      refine Tr.ren 8 20 rfl rfl rfl ?_
      refine Tr.loop (σ := (List TRect) × Nat × (List Int) × (List Int) × (Option Addr) × Nat × (Option Addr) × Nat) (fun m w s => m = s.1.length + 1 ∧ s.1 = List.drop s.2.1 y102.1 ∧ s.2.1 ≤ y102.1.length ∧ F_panel_Added_L1 N p0 p1 y102 y104 s.1 s.2.1 s.2.2.1 s.2.2.2.1 = some r ∧ SlF s.2.2.2.2.1 (s.2.2.1).length s.2.2.2.2.2.1 ∧ SlF s.2.2.2.2.2.2.1 (s.2.2.2.1).length s.2.2.2.2.2.2.2) (fun s => [(1, (.string p1)), (2, (.pointer (some ⟨b100, 0, none⟩))), (4, (.pointer (some ⟨b101, 0, none⟩))), (7, (.slice Ay102_0 (y102.1).length cy102_0)), (9, (.int .i64 y104)), (10, (.slice s.2.2.2.2.1 (s.2.2.1).length s.2.2.2.2.2.1)), (11, (.slice s.2.2.2.2.2.2.1 (s.2.2.2.1).length s.2.2.2.2.2.2.2)), (44, (.slice Ay102_0 (y102.1).length cy102_0)), (45, (.int .i64 (y102.1.length : Int))), (46, (.int .i64 (s.2.1 : Int)))]) (fun s => [(1, bx b100 #[(.int .i64 p0.W), (.int .i64 p0.H), (.int .i64 p0.Rail), (.int .i64 p0.Gap), (.slice Ap0_0 (p0.Kinds).length cp0_0), (.slice Ap0_1 (p0.Slots).length cp0_1), (.slice Ap0_2 (p0.Marks).length cp0_2)] 26), (2, bx b101 #[(.int .i64 0), (.int .i64 0), (.int .i64 0), (.int .i64 0), (.slice none 0 0), (.slice none 0 0), (.slice none 0 0)] 26), (3, ow Ay102_0 cy102_0 42 fl_TRect y102.1), (9, ow s.2.2.2.2.2.2.1 s.2.2.2.2.2.2.2 3 fl_i64 s.2.2.2.1), (20, ow s.2.2.2.2.1 s.2.2.2.2.2.1 3 fl_i64 s.2.2.1)]) (y102.1.length + 1) (y102.1, 0, [p0.Rail], [p0.Rail], (some ⟨b106, 0, none⟩), 1, (some ⟨b107, 0, none⟩), 1) ⟨rfl, rfl, Nat.zero_le _, H, (lit_form b106 rfl), (lit_form b107 rfl)⟩ (.cons rfl (.cons rfl (.cons rfl (.cons rfl (.cons rfl (.cons rfl (.cons rfl (.cons rfl (.cons rfl (.cons rfl .nil)))))))))) (.cons rfl (.cons rfl (.cons rfl (.cons rfl (.cons rfl .nil))))) (fun _ _ h => absurd h.1 (by simp)) ?_
      intro w leF_panel_Added_L1 m s hs
      obtain ⟨restF_panel_Added_L1, iF_panel_Added_L1, l134, l135, Al134, cl134, Al135, cl135⟩ := s
      obtain ⟨hmF_panel_Added_L1, hdF_panel_Added_L1, hiF_panel_Added_L1, H, hl134, hl135⟩ := hs
      replace hdF_panel_Added_L1 : restF_panel_Added_L1 = List.drop iF_panel_Added_L1 y102.1 := hdF_panel_Added_L1
      replace H : F_panel_Added_L1 N p0 p1 y102 y104 restF_panel_Added_L1 iF_panel_Added_L1 l134 l135 = some r := H
      replace hmF_panel_Added_L1 : m + 1 = restF_panel_Added_L1.length + 1 := hmF_panel_Added_L1
      replace hp0_0 := hp0_0.leR leF_panel_Added_L1
      replace hp0_1 := hp0_1.leR leF_panel_Added_L1
      replace hp0_2 := hp0_2.leR leF_panel_Added_L1
      replace leB := leB.trans leF_panel_Added_L1
      replace hl134 : SlF Al134 (l134).length cl134 := hl134
      replace hl135 : SlF Al135 (l135).length cl135 := hl135
      obtain rfl : m = restF_panel_Added_L1.length := by omega
      clear hmF_panel_Added_L1
      show Tr _ _ (LF [(1, (.string p1)), (2, (.pointer (some ⟨b100, 0, none⟩))), (4, (.pointer (some ⟨b101, 0, none⟩))), (7, (.slice Ay102_0 (y102.1).length cy102_0)), (9, (.int .i64 y104)), (10, (.slice Al134 (l134).length cl134)), (11, (.slice Al135 (l135).length cl135)), (44, (.slice Ay102_0 (y102.1).length cy102_0)), (45, (.int .i64 (y102.1.length : Int))), (46, (.int .i64 (iF_panel_Added_L1 : Int)))]) (LE [(1, bx b100 #[(.int .i64 p0.W), (.int .i64 p0.H), (.int .i64 p0.Rail), (.int .i64 p0.Gap), (.slice Ap0_0 (p0.Kinds).length cp0_0), (.slice Ap0_1 (p0.Slots).length cp0_1), (.slice Ap0_2 (p0.Marks).length cp0_2)] 26), (2, bx b101 #[(.int .i64 0), (.int .i64 0), (.int .i64 0), (.int .i64 0), (.slice none 0 0), (.slice none 0 0), (.slice none 0 0)] 26), (3, ow Ay102_0 cy102_0 42 fl_TRect y102.1), (9, ow Al135 cl135 3 fl_i64 l135), (20, ow Al134 cl134 3 fl_i64 l134)]) _
      cases restF_panel_Added_L1 with
      | nil =>
        rw [F_panel_Added_L1.eq_1] at H
        refine Tr.seq ?_
        refine Tr.region ?_
        refine Tr.val (wn rfl) rfl (fun _ _ h1 h2 => run_lss (h1.ev rfl) (h1.ev rfl)) ?_
        refine Tr.nil (Tr.normThen ?_)
        refine Tr.seq ?_
        refine Tr.condF rfl (range_nil hdF_panel_Added_L1) ?_
        refine Tr.exit (Tr.exitThen (Tr.exitThen (Tr.exitBlock (Tr.normThen ?_))))
        refine Tr.seq ?_
        refine Tr.region ?_
        refine Tr.val (wn rfl) rfl (fun _ _ h1 h2 => run_move (h1.ev rfl)) ?_
        obtain ⟨y136, hy136, H⟩ := bnd H
        refine Tr.callM [20] [ow Al134 cl134 3 fl_i64 l134] (U := Unit) (fun u => (.tuple #[])) (fun u => (y136).length = (l134).length) (fun u => [ow Al134 cl134 3 fl_i64 y136]) rfl (pk_cons rfl pk_nil) (fun _ => rfl) (wn rfl) rfl Try.call66 (evl_cons rfl evl_nil) (fun W hW hp hE => F_slices_Sort_int_ok l134 Al134 cl134 y136 hy136 hE) ?_
        intro u hu
        have gky136_0 := hu
        have hgky136_0 : (y136).length = (l134).length := gky136_0 --@phi
        have hfky136_0 : SlF Al134 (y136).length cl134 := by rw [hgky136_0]; exact hl134
        show Tr _ _ (uf _ 68 (.tuple #[])) (up _ 20 (ow Al134 cl134 3 fl_i64 y136)) _
        refine Tr.sel (lf := [(1, (.string p1)), (2, (.pointer (some ⟨b100, 0, none⟩))), (4, (.pointer (some ⟨b101, 0, none⟩))), (7, (.slice Ay102_0 (y102.1).length cy102_0)), (9, (.int .i64 y104)), (10, (.slice Al134 (y136).length cl134)), (11, (.slice Al135 (l135).length cl135)), (44, (.slice Ay102_0 (y102.1).length cy102_0)), (45, (.int .i64 (y102.1.length : Int))), (46, (.int .i64 (iF_panel_Added_L1 : Int))), (47, (.bool (decide ((iF_panel_Added_L1 : Int) < (y102.1.length : Int))))), (67, (.slice Al134 (y136).length cl134)), (68, (.tuple #[]))]) (le := [(1, bx b100 #[(.int .i64 p0.W), (.int .i64 p0.H), (.int .i64 p0.Rail), (.int .i64 p0.Gap), (.slice Ap0_0 (p0.Kinds).length cp0_0), (.slice Ap0_1 (p0.Slots).length cp0_1), (.slice Ap0_2 (p0.Marks).length cp0_2)] 26), (2, bx b101 #[(.int .i64 0), (.int .i64 0), (.int .i64 0), (.int .i64 0), (.slice none 0 0), (.slice none 0 0), (.slice none 0 0)] 26), (3, ow Ay102_0 cy102_0 42 fl_TRect y102.1), (9, ow Al135 cl135 3 fl_i64 l135), (20, ow Al134 cl134 3 fl_i64 y136)]) (.cons rfl (.cons rfl (.cons rfl (.cons rfl (.cons rfl (.cons (slenV rfl (by rw [hgky136_0])) (.cons rfl (.cons rfl (.cons rfl (.cons rfl (.cons rfl (.cons (slenV rfl (by rw [hgky136_0])) (.cons rfl .nil))))))))))))) (.cons rfl (.cons rfl (.cons rfl (.cons rfl (.cons rfl .nil))))) ?_
        refine Tr.nil (Tr.normThen ?_)
        refine Tr.seq ?_
        refine Tr.region ?_
        refine Tr.val (wn rfl) rfl (fun _ _ h1 h2 => run_move (h1.ev rfl)) ?_
        obtain ⟨y138, hy138, H⟩ := bnd H
        refine Tr.callM [9] [ow Al135 cl135 3 fl_i64 l135] (U := Unit) (fun u => (.tuple #[])) (fun u => (y138).length = (l135).length) (fun u => [ow Al135 cl135 3 fl_i64 y138]) rfl (pk_cons rfl pk_nil) (fun _ => rfl) (wn rfl) rfl Try.call66 (evl_cons rfl evl_nil) (fun W hW hp hE => F_slices_Sort_int_ok l135 Al135 cl135 y138 hy138 hE) ?_
        intro u hu
        have gky138_0 := hu
        have hgky138_0 : (y138).length = (l135).length := gky138_0 --@phi
        have hfky138_0 : SlF Al135 (y138).length cl135 := by rw [hgky138_0]; exact hl135
        show Tr _ _ (uf _ 70 (.tuple #[])) (up _ 9 (ow Al135 cl135 3 fl_i64 y138)) _
        refine Tr.sel (lf := [(1, (.string p1)), (2, (.pointer (some ⟨b100, 0, none⟩))), (4, (.pointer (some ⟨b101, 0, none⟩))), (7, (.slice Ay102_0 (y102.1).length cy102_0)), (9, (.int .i64 y104)), (10, (.slice Al134 (y136).length cl134)), (11, (.slice Al135 (y138).length cl135)), (44, (.slice Ay102_0 (y102.1).length cy102_0)), (45, (.int .i64 (y102.1.length : Int))), (46, (.int .i64 (iF_panel_Added_L1 : Int))), (47, (.bool (decide ((iF_panel_Added_L1 : Int) < (y102.1.length : Int))))), (67, (.slice Al134 (y136).length cl134)), (68, (.tuple #[])), (69, (.slice Al135 (y138).length cl135)), (70, (.tuple #[]))]) (le := [(1, bx b100 #[(.int .i64 p0.W), (.int .i64 p0.H), (.int .i64 p0.Rail), (.int .i64 p0.Gap), (.slice Ap0_0 (p0.Kinds).length cp0_0), (.slice Ap0_1 (p0.Slots).length cp0_1), (.slice Ap0_2 (p0.Marks).length cp0_2)] 26), (2, bx b101 #[(.int .i64 0), (.int .i64 0), (.int .i64 0), (.int .i64 0), (.slice none 0 0), (.slice none 0 0), (.slice none 0 0)] 26), (3, ow Ay102_0 cy102_0 42 fl_TRect y102.1), (9, ow Al135 cl135 3 fl_i64 y138), (20, ow Al134 cl134 3 fl_i64 y136)]) (.cons rfl (.cons rfl (.cons rfl (.cons rfl (.cons rfl (.cons rfl (.cons (slenV rfl (by rw [hgky138_0])) (.cons rfl (.cons rfl (.cons rfl (.cons rfl (.cons rfl (.cons rfl (.cons (slenV rfl (by rw [hgky138_0])) (.cons rfl .nil))))))))))))))) (.cons rfl (.cons rfl (.cons rfl (.cons rfl (.cons rfl .nil))))) ?_
        refine Tr.nil (Tr.normThen ?_)
        refine Tr.seq ?_
        refine Tr.region ?_
        refine Tr.val (wn rfl) rfl (fun _ _ h1 h2 => run_move (h1.ev rfl)) ?_
        obtain ⟨y140, hy140, H⟩ := bnd H
        refine Tr.callM [20] [ow Al134 cl134 3 fl_i64 y136] (U := (Option Addr × Nat)) (fun u => (.slice u.1 (y140).length u.2)) (fun u => SlF u.1 (y140).length u.2) (fun u => [ow u.1 u.2 3 fl_i64 y140]) rfl (pk_cons rfl pk_nil) (fun _ => rfl) (wn rfl) rfl Try.call67 (evl_cons rfl evl_nil) (fun W hW hp hE => F_slices_Compact_int_ok y136 Al134 cl134 y140 hy140 hE) ?_
        intro u hu
        obtain ⟨Ay140_0, cy140_0⟩ := u
        have gy140_0 := hu
        have hgy140_0 : SlF Ay140_0 (y140).length cy140_0 := gy140_0 --@phi
        show Tr _ _ (uf _ 72 (.slice Ay140_0 (y140).length cy140_0)) (up _ 20 (ow Ay140_0 cy140_0 3 fl_i64 y140)) _
        refine Tr.val (wn rfl) rfl (fun _ _ h1 h2 => run_move (h1.ev rfl)) ?_
        obtain ⟨y142, hy142, H⟩ := bnd H
        refine Tr.callM [9] [ow Al135 cl135 3 fl_i64 y138] (U := (Option Addr × Nat)) (fun u => (.slice u.1 (y142).length u.2)) (fun u => SlF u.1 (y142).length u.2) (fun u => [ow u.1 u.2 3 fl_i64 y142]) rfl (pk_cons rfl pk_nil) (fun _ => rfl) (wn rfl) rfl Try.call67 (evl_cons rfl evl_nil) (fun W hW hp hE => F_slices_Compact_int_ok y138 Al135 cl135 y142 hy142 hE) ?_
        intro u hu
        obtain ⟨Ay142_0, cy142_0⟩ := u
        have gy142_0 := hu
        have hgy142_0 : SlF Ay142_0 (y142).length cy142_0 := gy142_0 --@phi
        show Tr _ _ (uf _ 74 (.slice Ay142_0 (y142).length cy142_0)) (up _ 9 (ow Ay142_0 cy142_0 3 fl_i64 y142)) _
        refine Tr.val (wn rfl) rfl (fun _ _ h1 h2 => run_assign (h1.ev rfl)) ?_
        refine Tr.val (wn rfl) rfl (fun _ _ h1 h2 => run_assign (h1.ev rfl)) ?_
        refine Tr.nil (Tr.normThen ?_)
        refine Tr.seq ?_
        refine Tr.seq ?_
        refine Tr.region ?_
        refine Tr.val (wn rfl) rfl (fun _ _ h1 h2 => run_move (h1.ev rfl)) ?_
        refine Tr.val (wn rfl) rfl (fun _ _ h1 h2 => run_len un_63 (h1.ev rfl)) ?_
        refine Tr.val (wn rfl) rfl (fun _ _ h1 h2 => run_move (h1.ev rfl)) ?_
        refine Tr.nil (Tr.normThen ?_)
        refine Tr.block ?_
        refine Tr.loop (σ := (List Int) × Nat) (fun m w s => m = s.1.length + 1 ∧ s.1 = List.drop s.2 y142 ∧ s.2 ≤ y142.length ∧ F_panel_Added_L5 N p0 p1 y102 y104 y140 s.1 s.2 = some r) (fun s => [(1, (.string p1)), (2, (.pointer (some ⟨b100, 0, none⟩))), (4, (.pointer (some ⟨b101, 0, none⟩))), (7, (.slice Ay102_0 (y102.1).length cy102_0)), (9, (.int .i64 y104)), (10, (.slice Ay140_0 (y140).length cy140_0)), (75, (.slice Ay142_0 (y142).length cy142_0)), (76, (.int .i64 (y142.length : Int))), (77, (.int .i64 (s.2 : Int)))]) (fun s => [(1, bx b100 #[(.int .i64 p0.W), (.int .i64 p0.H), (.int .i64 p0.Rail), (.int .i64 p0.Gap), (.slice Ap0_0 (p0.Kinds).length cp0_0), (.slice Ap0_1 (p0.Slots).length cp0_1), (.slice Ap0_2 (p0.Marks).length cp0_2)] 26), (2, bx b101 #[(.int .i64 0), (.int .i64 0), (.int .i64 0), (.int .i64 0), (.slice none 0 0), (.slice none 0 0), (.slice none 0 0)] 26), (3, ow Ay102_0 cy102_0 42 fl_TRect y102.1), (9, ow Ay142_0 cy142_0 3 fl_i64 y142), (20, ow Ay140_0 cy140_0 3 fl_i64 y140)]) (y142.length + 1) (y142, 0) ⟨rfl, rfl, Nat.zero_le _, H⟩ (.cons rfl (.cons rfl (.cons rfl (.cons rfl (.cons rfl (.cons rfl (.cons rfl (.cons rfl (.cons rfl .nil))))))))) (.cons rfl (.cons rfl (.cons rfl (.cons rfl (.cons rfl .nil))))) (fun _ _ h => absurd h.1 (by simp)) ?_
        intro w leF_panel_Added_L5 m s hs
        obtain ⟨restF_panel_Added_L5, iF_panel_Added_L5⟩ := s
        obtain ⟨hmF_panel_Added_L5, hdF_panel_Added_L5, hiF_panel_Added_L5, H⟩ := hs
        replace hdF_panel_Added_L5 : restF_panel_Added_L5 = List.drop iF_panel_Added_L5 y142 := hdF_panel_Added_L5
        replace H : F_panel_Added_L5 N p0 p1 y102 y104 y140 restF_panel_Added_L5 iF_panel_Added_L5 = some r := H
        replace hmF_panel_Added_L5 : m + 1 = restF_panel_Added_L5.length + 1 := hmF_panel_Added_L5
        replace hp0_0 := hp0_0.leR leF_panel_Added_L5
        replace hp0_1 := hp0_1.leR leF_panel_Added_L5
        replace hp0_2 := hp0_2.leR leF_panel_Added_L5
        replace leB := leB.trans leF_panel_Added_L5
        replace leF_panel_Added_L1 := leF_panel_Added_L1.trans leF_panel_Added_L5
        obtain rfl : m = restF_panel_Added_L5.length := by omega
        clear hmF_panel_Added_L5
        show Tr _ _ (LF [(1, (.string p1)), (2, (.pointer (some ⟨b100, 0, none⟩))), (4, (.pointer (some ⟨b101, 0, none⟩))), (7, (.slice Ay102_0 (y102.1).length cy102_0)), (9, (.int .i64 y104)), (10, (.slice Ay140_0 (y140).length cy140_0)), (75, (.slice Ay142_0 (y142).length cy142_0)), (76, (.int .i64 (y142.length : Int))), (77, (.int .i64 (iF_panel_Added_L5 : Int)))]) (LE [(1, bx b100 #[(.int .i64 p0.W), (.int .i64 p0.H), (.int .i64 p0.Rail), (.int .i64 p0.Gap), (.slice Ap0_0 (p0.Kinds).length cp0_0), (.slice Ap0_1 (p0.Slots).length cp0_1), (.slice Ap0_2 (p0.Marks).length cp0_2)] 26), (2, bx b101 #[(.int .i64 0), (.int .i64 0), (.int .i64 0), (.int .i64 0), (.slice none 0 0), (.slice none 0 0), (.slice none 0 0)] 26), (3, ow Ay102_0 cy102_0 42 fl_TRect y102.1), (9, ow Ay142_0 cy142_0 3 fl_i64 y142), (20, ow Ay140_0 cy140_0 3 fl_i64 y140)]) _
        cases restF_panel_Added_L5 with
        | nil =>
          rw [F_panel_Added_L5.eq_1] at H
          refine Tr.seq ?_
          refine Tr.region ?_
          refine Tr.val (wn rfl) rfl (fun _ _ h1 h2 => run_lss (h1.ev rfl) (h1.ev rfl)) ?_
          refine Tr.nil (Tr.normThen ?_)
          refine Tr.seq ?_
          refine Tr.condF rfl (range_nil hdF_panel_Added_L5) ?_
          refine Tr.exit (Tr.exitThen (Tr.exitThen (Tr.exitBlock (Tr.normThen ?_))))
          refine Tr.seq ?_
          refine Tr.drawC 4 [] [] (by kernel_rfl) (by kernel_rfl) fun sz282 hlosz282 hEsz282 => ?_
          refine Dr.quiet 0 [(146, (.agg #[(.int .i64 p0.W), (.int .i64 p0.H), (.int .i64 p0.Rail), (.int .i64 p0.Gap), (.slice Ap0_0 (p0.Kinds).length cp0_0), (.slice Ap0_1 (p0.Slots).length cp0_1), (.slice Ap0_2 (p0.Marks).length cp0_2)]))] (by kernel_rfl) rfl rfl (by kernel_rfl) ?_ rfl rfl ?_
          · refine Tq.val (wn rfl) rfl (fun _ _ h1 h2 => run_loadN (cs := [(.int .i64 p0.W), (.int .i64 p0.H), (.int .i64 p0.Rail), (.int .i64 p0.Gap), (.slice Ap0_0 (p0.Kinds).length cp0_0), (.slice Ap0_1 (p0.Slots).length cp0_1), (.slice Ap0_2 (p0.Marks).length cp0_2)]) ag_26 sz_26 (h1.ev rfl) (CellsAt.take (rdb h2 (vs := [(.int .i64 p0.W), (.int .i64 p0.H), (.int .i64 p0.Rail), (.int .i64 p0.Gap), (.slice Ap0_0 (p0.Kinds).length cp0_0), (.slice Ap0_1 (p0.Slots).length cp0_1), (.slice Ap0_2 (p0.Marks).length cp0_2)]) (k := 1) rfl 0) 7) rfl) ?_
            exact Tq.fin (.cons rfl .nil)
          refine Dr.quiet 1 [(147, (.pointer (some ⟨b100, 5, none⟩)))] (by kernel_rfl) rfl rfl (by kernel_rfl) ?_ rfl rfl ?_
          · refine Tq.val (wn rfl) rfl (fun _ _ h1 h2 => run_fieldAddr fo_26_5 (h1.ev rfl)) ?_
            exact Tq.fin (.cons rfl .nil)
          refine Dr.quiet 2 [(148, (.slice Ap0_1 (p0.Slots).length cp0_1))] (by kernel_rfl) rfl rfl (by kernel_rfl) ?_ rfl rfl ?_
          · refine Tq.val (wn rfl) rfl (fun _ _ h1 h2 => run_load1 ag_23 (h1.ev rfl) (rdb h2 (vs := [(.int .i64 p0.W), (.int .i64 p0.H), (.int .i64 p0.Rail), (.int .i64 p0.Gap), (.slice Ap0_0 (p0.Kinds).length cp0_0), (.slice Ap0_1 (p0.Slots).length cp0_1), (.slice Ap0_2 (p0.Marks).length cp0_2)]) (k := 1) rfl 5) rfl) ?_
            exact Tq.fin (.cons rfl .nil)
          obtain ⟨y283, hy283, H⟩ := bnd H
          refine Dr.one 3 (by kernel_rfl) ?_
          refine St.callM 3 [57] [emp] (U := (Option Addr × Nat)) (fun u => (.slice u.1 (y283).length u.2)) (fun u => SlF u.1 (y283).length u.2) (fun u => [ow u.1 u.2 34 fl_TSlot y283]) rfl (pk_cons rfl pk_nil) (fun _ => rfl) (insS_no rfl) rfl (wn rfl) rfl Try.call76 (evl_cons rfl evl_nil) (fun W hW hp hE => F_slices_Clone_Slot_ok p0.Slots Ap0_1 cp0_1 (hp0_1.ext (hW.extS hp)) y283 hy283 hE) ?_
          intro u hu hsy283
          obtain ⟨Ay283_0, cy283_0⟩ := u
          have gy283_0 := hu
          have hgy283_0 : SlF Ay283_0 (y283).length cy283_0 := gy283_0
          show Dr _ _ _ _ _ _ _ _ _ (uf _ 149 (.slice Ay283_0 (y283).length cy283_0)) (up _ 57 (ow Ay283_0 cy283_0 34 fl_TSlot y283))
          refine Dr.tail (by kernel_rfl) ?_
          refine Tr.freeze 57 rfl fun w le286 hz285 => ?_
          replace hp0_0 := hp0_0.leR le286
          replace hp0_1 := hp0_1.leR le286
          replace hp0_2 := hp0_2.leR le286
          replace leB := leB.trans le286
          replace leF_panel_Added_L1 := leF_panel_Added_L1.trans le286
          replace leF_panel_Added_L5 := leF_panel_Added_L5.trans le286
          obtain ⟨y287, hy287, H⟩ := bnd H
          refine Tr.callG [58, 59] [emp, emp] (U := (Option Addr × Nat) × (Option Addr × Nat) × (Option Addr × Nat)) (fun u => (.agg #[(.int .i64 y287.W), (.int .i64 y287.H), (.int .i64 y287.Rail), (.int .i64 y287.Gap), (.slice u.1.1 (y287.Kinds).length u.1.2), (.slice u.2.1.1 (y287.Slots).length u.2.1.2), (.slice u.2.2.1 (y287.Marks).length u.2.2.2)])) (fun O W u => SlF u.1.1 (y287.Kinds).length u.1.2 ∧ Sl O W fl_TSlot u.2.1.1 u.2.1.2 y287.Slots ∧ SlF u.2.2.1 (y287.Marks).length u.2.2.2) (fun u => [ow u.1.1 u.1.2 82 fl_TBoardKind y287.Kinds, ow u.2.2.1 u.2.2.2 32 fl_TPoint y287.Marks]) rfl (pk_cons rfl (pk_cons rfl pk_nil)) (fun _ => rfl) (wn rfl) rfl Try.call75 (evl_cons rfl (evl_cons rfl evl_nil)) (fun W hW hp hE => F_panel_own_ok p0 Ap0_0 cp0_0 (hp0_0.ext (hW.extS hp)) Ap0_1 cp0_1 (hp0_1.ext (hW.extS hp)) Ap0_2 cp0_2 (hp0_2.ext (hW.extS hp)) y283 Ay283_0 cy283_0 (hz285.extO (hW.extS hp)) y287 hy287 hE) ?_
          intro w u le288 hu
          obtain ⟨⟨Ay287_0, cy287_0⟩, ⟨Ay287_1, cy287_1⟩, ⟨Ay287_2, cy287_2⟩⟩ := u
          obtain ⟨gy287_0, gy287_1, gy287_2⟩ := hu
          replace hp0_0 := hp0_0.leR le288
          replace hp0_1 := hp0_1.leR le288
          replace hp0_2 := hp0_2.leR le288
          replace hz285 := hz285.le le288
          replace leB := leB.trans le288
          replace leF_panel_Added_L1 := leF_panel_Added_L1.trans le288
          replace leF_panel_Added_L5 := leF_panel_Added_L5.trans le288
          have hgy287_0 : SlF Ay287_0 (y287.Kinds).length cy287_0 := gy287_0 --@phi
          have hgy287_1 : Sl w.O w.W fl_TSlot Ay287_1 cy287_1 y287.Slots := gy287_1 --@phi
          have hgy287_2 : SlF Ay287_2 (y287.Marks).length cy287_2 := gy287_2 --@phi
          show Tr _ _ (uf _ 150 (.agg #[(.int .i64 y287.W), (.int .i64 y287.H), (.int .i64 y287.Rail), (.int .i64 y287.Gap), (.slice Ay287_0 (y287.Kinds).length cy287_0), (.slice Ay287_1 (y287.Slots).length cy287_1), (.slice Ay287_2 (y287.Marks).length cy287_2)])) (up (up _ 59 (ow Ay287_2 cy287_2 32 fl_TPoint y287.Marks)) 58 (ow Ay287_0 cy287_0 82 fl_TBoardKind y287.Kinds)) _
          refine Tr.store 2 (cs := [(.int .i64 y287.W), (.int .i64 y287.H), (.int .i64 y287.Rail), (.int .i64 y287.Gap), (.slice Ay287_0 (y287.Kinds).length cy287_0), (.slice Ay287_1 (y287.Slots).length cy287_1), (.slice Ay287_2 (y287.Marks).length cy287_2)]) [(.int .i64 y287.W), (.int .i64 y287.H), (.int .i64 y287.Rail), (.int .i64 y287.Gap), (.slice Ay287_0 (y287.Kinds).length cy287_0), (.slice Ay287_1 (y287.Slots).length cy287_1), (.slice Ay287_2 (y287.Marks).length cy287_2)] (wn rfl) rfl rfl rfl rfl sz_26 rfl rfl rfl ?_
          refine Tr.val (wn rfl) rfl (fun _ _ h1 h2 => run_assign (h1.ev rfl)) ?_
          refine Tr.val (wn rfl) rfl (fun _ _ h1 h2 => run_assign (h1.ev rfl)) ?_
          refine Tr.nil (Tr.normThen ?_)
          refine Tr.ret ?_
          obtain rfl := Option.some.inj H
          exact Tr.out (m := [(.agg #[(.int .i64 y287.W), (.int .i64 y287.H), (.int .i64 y287.Rail), (.int .i64 y287.Gap), (.slice Ay287_0 (y287.Kinds).length cy287_0), (.slice Ay287_1 (y287.Slots).length cy287_1), (.slice Ay287_2 (y287.Marks).length cy287_2)]), (.bool false), (.int .i64 0)]) [2] (res_cell rfl rfl ag_26 sz_26 (res_tmp rfl (res_tmp rfl res_nil))) (fun W hW => ⟨w, ((Ay287_0, cy287_0), (Ay287_1, cy287_1), (Ay287_2, cy287_2)), leB, rfl, ⟨hgy287_0, hgy287_1, hgy287_2⟩, hW.pick (ks := [58, 59]) (by decide) (pk_cons rfl (pk_cons rfl pk_nil))⟩)
        | cons xF_panel_Added_L5 restF_panel_Added_L5 =>
          rw [F_panel_Added_L5.eq_2] at H
          refine Tr.seq ?_
          refine Tr.region ?_
          refine Tr.val (wn rfl) rfl (fun _ _ h1 h2 => run_lss (h1.ev rfl) (h1.ev rfl)) ?_
          refine Tr.nil (Tr.normThen ?_)
          refine Tr.seq ?_
          refine Tr.condT rfl (range_on hdF_panel_Added_L5) ?_
          refine Tr.skip (Tr.normThen ?_)
          refine Tr.seq ?_
          refine Tr.block ?_
          refine Tr.seq ?_
          refine Tr.region ?_
          refine Tr.val (wn rfl) rfl (fun _ _ h1 h2 => run_indexAddr el_63 (h1.ev rfl) hgy142_0 (h1.ev rfl) (Int.natCast_nonneg _) (range_lt hdF_panel_Added_L5)) ?_
          refine Tr.val (wn rfl) rfl (fun _ _ h1 h2 => run_load1 ag_3 (h1.ev rfl) (rdo ef_i64 (k := 9) h2 rfl (range_at hdF_panel_Added_L5)) rfl) ?_
          refine Tr.val (wn rfl) rfl (fun _ _ h1 h2 => run_assign (h1.ev rfl)) ?_
          refine Tr.nil (Tr.normThen ?_)
          refine Tr.seq ?_
          refine Tr.region ?_
          refine Tr.val (wn rfl) rfl (fun _ _ h1 h2 => run_move (h1.ev rfl)) ?_
          refine Tr.val (wn rfl) rfl (fun _ _ h1 h2 => run_len un_63 (h1.ev rfl)) ?_
          refine Tr.val (wn rfl) rfl (fun _ _ h1 h2 => run_move (h1.ev rfl)) ?_
          refine Tr.nil (Tr.normThen ?_)
          refine Tr.block ?_
          refine Tr.loop (σ := (List Int) × Nat) (fun m w s => m = s.1.length + 1 ∧ s.1 = List.drop s.2 y140 ∧ s.2 ≤ y140.length ∧ F_panel_Added_L7 N p0 p1 y102 y104 (F_panel_Added_L5 N p0 p1 y102 y104 y140 restF_panel_Added_L5 (iF_panel_Added_L5 + 1)) xF_panel_Added_L5 s.1 s.2 = some r) (fun s => [(1, (.string p1)), (2, (.pointer (some ⟨b100, 0, none⟩))), (4, (.pointer (some ⟨b101, 0, none⟩))), (7, (.slice Ay102_0 (y102.1).length cy102_0)), (9, (.int .i64 y104)), (10, (.slice Ay140_0 (y140).length cy140_0)), (15, (.int .i64 xF_panel_Added_L5)), (75, (.slice Ay142_0 (y142).length cy142_0)), (76, (.int .i64 (y142.length : Int))), (77, (.int .i64 (iF_panel_Added_L5 : Int))), (81, (.slice Ay140_0 (y140).length cy140_0)), (82, (.int .i64 (y140.length : Int))), (83, (.int .i64 (s.2 : Int)))]) (fun s => [(1, bx b100 #[(.int .i64 p0.W), (.int .i64 p0.H), (.int .i64 p0.Rail), (.int .i64 p0.Gap), (.slice Ap0_0 (p0.Kinds).length cp0_0), (.slice Ap0_1 (p0.Slots).length cp0_1), (.slice Ap0_2 (p0.Marks).length cp0_2)] 26), (2, bx b101 #[(.int .i64 0), (.int .i64 0), (.int .i64 0), (.int .i64 0), (.slice none 0 0), (.slice none 0 0), (.slice none 0 0)] 26), (3, ow Ay102_0 cy102_0 42 fl_TRect y102.1), (9, ow Ay142_0 cy142_0 3 fl_i64 y142), (20, ow Ay140_0 cy140_0 3 fl_i64 y140)]) (y140.length + 1) (y140, 0) ⟨rfl, rfl, Nat.zero_le _, H⟩ (.cons rfl (.cons rfl (.cons rfl (.cons rfl (.cons rfl (.cons rfl (.cons rfl (.cons rfl (.cons rfl (.cons rfl (.cons rfl (.cons rfl (.cons rfl .nil))))))))))))) (.cons rfl (.cons rfl (.cons rfl (.cons rfl (.cons rfl .nil))))) (fun _ _ h => absurd h.1 (by simp)) ?_
          intro w leF_panel_Added_L7 m s hs
          obtain ⟨restF_panel_Added_L7, iF_panel_Added_L7⟩ := s
          obtain ⟨hmF_panel_Added_L7, hdF_panel_Added_L7, hiF_panel_Added_L7, H⟩ := hs
          replace hdF_panel_Added_L7 : restF_panel_Added_L7 = List.drop iF_panel_Added_L7 y140 := hdF_panel_Added_L7
          replace H : F_panel_Added_L7 N p0 p1 y102 y104 (F_panel_Added_L5 N p0 p1 y102 y104 y140 restF_panel_Added_L5 (iF_panel_Added_L5 + 1)) xF_panel_Added_L5 restF_panel_Added_L7 iF_panel_Added_L7 = some r := H
          replace hmF_panel_Added_L7 : m + 1 = restF_panel_Added_L7.length + 1 := hmF_panel_Added_L7
          replace hp0_0 := hp0_0.leR leF_panel_Added_L7
          replace hp0_1 := hp0_1.leR leF_panel_Added_L7
          replace hp0_2 := hp0_2.leR leF_panel_Added_L7
          replace leB := leB.trans leF_panel_Added_L7
          replace leF_panel_Added_L1 := leF_panel_Added_L1.trans leF_panel_Added_L7
          replace leF_panel_Added_L5 := leF_panel_Added_L5.trans leF_panel_Added_L7
          obtain rfl : m = restF_panel_Added_L7.length := by omega
          clear hmF_panel_Added_L7
          show Tr _ _ (LF [(1, (.string p1)), (2, (.pointer (some ⟨b100, 0, none⟩))), (4, (.pointer (some ⟨b101, 0, none⟩))), (7, (.slice Ay102_0 (y102.1).length cy102_0)), (9, (.int .i64 y104)), (10, (.slice Ay140_0 (y140).length cy140_0)), (15, (.int .i64 xF_panel_Added_L5)), (75, (.slice Ay142_0 (y142).length cy142_0)), (76, (.int .i64 (y142.length : Int))), (77, (.int .i64 (iF_panel_Added_L5 : Int))), (81, (.slice Ay140_0 (y140).length cy140_0)), (82, (.int .i64 (y140.length : Int))), (83, (.int .i64 (iF_panel_Added_L7 : Int)))]) (LE [(1, bx b100 #[(.int .i64 p0.W), (.int .i64 p0.H), (.int .i64 p0.Rail), (.int .i64 p0.Gap), (.slice Ap0_0 (p0.Kinds).length cp0_0), (.slice Ap0_1 (p0.Slots).length cp0_1), (.slice Ap0_2 (p0.Marks).length cp0_2)] 26), (2, bx b101 #[(.int .i64 0), (.int .i64 0), (.int .i64 0), (.int .i64 0), (.slice none 0 0), (.slice none 0 0), (.slice none 0 0)] 26), (3, ow Ay102_0 cy102_0 42 fl_TRect y102.1), (9, ow Ay142_0 cy142_0 3 fl_i64 y142), (20, ow Ay140_0 cy140_0 3 fl_i64 y140)]) _
          cases restF_panel_Added_L7 with
          | nil =>
            rw [F_panel_Added_L7.eq_1] at H
            refine Tr.seq ?_
            refine Tr.region ?_
            refine Tr.val (wn rfl) rfl (fun _ _ h1 h2 => run_lss (h1.ev rfl) (h1.ev rfl)) ?_
            refine Tr.nil (Tr.normThen ?_)
            refine Tr.seq ?_
            refine Tr.condF rfl (range_nil hdF_panel_Added_L7) ?_
            refine Tr.exit (Tr.exitThen (Tr.exitThen (Tr.exitBlock (Tr.normBlock (Tr.normThen ?_)))))
            refine Tr.region ?_
            refine Tr.val (wn rfl) rfl (fun _ _ h1 h2 => run_add (h1.ev rfl) (h1.ev rfl)) ?_
            refine Tr.val (wn rfl) rfl (fun _ _ h1 h2 => run_move (h1.ev rfl)) ?_
            refine Tr.nil ?_
            exact Tr.backThen leF_panel_Added_L5 (restF_panel_Added_L5, (iF_panel_Added_L5 + 1)) ⟨rfl, range_tl hdF_panel_Added_L5, range_lt hdF_panel_Added_L5, H⟩ (.cons rfl (.cons rfl (.cons rfl (.cons rfl (.cons rfl (.cons rfl (.cons rfl (.cons rfl (.cons (congrArg (fun z => some (Value.int .i64 z)) (range_up hdF_panel_Added_L5 hgy142_0)) .nil))))))))) (.cons rfl (.cons rfl (.cons rfl (.cons rfl (.cons rfl .nil)))))
          | cons xF_panel_Added_L7 restF_panel_Added_L7 =>
            rw [F_panel_Added_L7.eq_2] at H
            refine Tr.seq ?_
            refine Tr.region ?_
            refine Tr.val (wn rfl) rfl (fun _ _ h1 h2 => run_lss (h1.ev rfl) (h1.ev rfl)) ?_
            refine Tr.nil (Tr.normThen ?_)
            refine Tr.seq ?_
            refine Tr.condT rfl (range_on hdF_panel_Added_L7) ?_
            refine Tr.skip (Tr.normThen ?_)
            refine Tr.seq ?_
            refine Tr.block ?_
            refine Tr.seq ?_
            refine Tr.region ?_
            refine Tr.val (wn rfl) rfl (fun _ _ h1 h2 => run_indexAddr el_63 (h1.ev rfl) hgy140_0 (h1.ev rfl) (Int.natCast_nonneg _) (range_lt hdF_panel_Added_L7)) ?_
            refine Tr.val (wn rfl) rfl (fun _ _ h1 h2 => run_load1 ag_3 (h1.ev rfl) (rdo ef_i64 (k := 20) h2 rfl (range_at hdF_panel_Added_L7)) rfl) ?_
            refine Tr.val (wn rfl) rfl (fun _ _ h1 h2 => run_assign (h1.ev rfl)) ?_
            refine Tr.nil (Tr.normThen ?_)
            refine Tr.seq ?_
            refine Tr.region ?_
            refine Tr.val (wn rfl) rfl (fun _ _ h1 h2 => run_move (h1.ev rfl)) ?_
            refine Tr.nil (Tr.normThen ?_)
            refine Tr.block ?_
            refine Tr.loop (σ := Int) (fun m w s => F_panel_Added_L8 p0 p1 y102 y104 xF_panel_Added_L5 (F_panel_Added_L7 N p0 p1 y102 y104 (F_panel_Added_L5 N p0 p1 y102 y104 y140 restF_panel_Added_L5 (iF_panel_Added_L5 + 1)) xF_panel_Added_L5 restF_panel_Added_L7 (iF_panel_Added_L7 + 1)) xF_panel_Added_L7 m s = some r) (fun s => [(1, (.string p1)), (2, (.pointer (some ⟨b100, 0, none⟩))), (4, (.pointer (some ⟨b101, 0, none⟩))), (7, (.slice Ay102_0 (y102.1).length cy102_0)), (9, (.int .i64 y104)), (10, (.slice Ay140_0 (y140).length cy140_0)), (15, (.int .i64 xF_panel_Added_L5)), (17, (.int .i64 xF_panel_Added_L7)), (75, (.slice Ay142_0 (y142).length cy142_0)), (76, (.int .i64 (y142.length : Int))), (77, (.int .i64 (iF_panel_Added_L5 : Int))), (81, (.slice Ay140_0 (y140).length cy140_0)), (82, (.int .i64 (y140.length : Int))), (83, (.int .i64 (iF_panel_Added_L7 : Int))), (87, (.int .i64 s))]) (fun s => [(1, bx b100 #[(.int .i64 p0.W), (.int .i64 p0.H), (.int .i64 p0.Rail), (.int .i64 p0.Gap), (.slice Ap0_0 (p0.Kinds).length cp0_0), (.slice Ap0_1 (p0.Slots).length cp0_1), (.slice Ap0_2 (p0.Marks).length cp0_2)] 26), (2, bx b101 #[(.int .i64 0), (.int .i64 0), (.int .i64 0), (.int .i64 0), (.slice none 0 0), (.slice none 0 0), (.slice none 0 0)] 26), (3, ow Ay102_0 cy102_0 42 fl_TRect y102.1), (9, ow Ay142_0 cy142_0 3 fl_i64 y142), (20, ow Ay140_0 cy140_0 3 fl_i64 y140)]) N 0 H (.cons rfl (.cons rfl (.cons rfl (.cons rfl (.cons rfl (.cons rfl (.cons rfl (.cons rfl (.cons rfl (.cons rfl (.cons rfl (.cons rfl (.cons rfl (.cons rfl (.cons rfl .nil))))))))))))))) (.cons rfl (.cons rfl (.cons rfl (.cons rfl (.cons rfl .nil))))) (fun _ _ h => noSome (h)) ?_
            intro w leF_panel_Added_L8 mF_panel_Added_L8 x403 hs
            have H := hs
            replace H : F_panel_Added_L8 p0 p1 y102 y104 xF_panel_Added_L5 (F_panel_Added_L7 N p0 p1 y102 y104 (F_panel_Added_L5 N p0 p1 y102 y104 y140 restF_panel_Added_L5 (iF_panel_Added_L5 + 1)) xF_panel_Added_L5 restF_panel_Added_L7 (iF_panel_Added_L7 + 1)) xF_panel_Added_L7 (mF_panel_Added_L8 + 1) x403 = some r := H
            replace hp0_0 := hp0_0.leR leF_panel_Added_L8
            replace hp0_1 := hp0_1.leR leF_panel_Added_L8
            replace hp0_2 := hp0_2.leR leF_panel_Added_L8
            replace leB := leB.trans leF_panel_Added_L8
            replace leF_panel_Added_L1 := leF_panel_Added_L1.trans leF_panel_Added_L8
            replace leF_panel_Added_L5 := leF_panel_Added_L5.trans leF_panel_Added_L8
            replace leF_panel_Added_L7 := leF_panel_Added_L7.trans leF_panel_Added_L8
            rw [F_panel_Added_L8.eq_2] at H
            show Tr _ _ (LF [(1, (.string p1)), (2, (.pointer (some ⟨b100, 0, none⟩))), (4, (.pointer (some ⟨b101, 0, none⟩))), (7, (.slice Ay102_0 (y102.1).length cy102_0)), (9, (.int .i64 y104)), (10, (.slice Ay140_0 (y140).length cy140_0)), (15, (.int .i64 xF_panel_Added_L5)), (17, (.int .i64 xF_panel_Added_L7)), (75, (.slice Ay142_0 (y142).length cy142_0)), (76, (.int .i64 (y142.length : Int))), (77, (.int .i64 (iF_panel_Added_L5 : Int))), (81, (.slice Ay140_0 (y140).length cy140_0)), (82, (.int .i64 (y140.length : Int))), (83, (.int .i64 (iF_panel_Added_L7 : Int))), (87, (.int .i64 x403))]) (LE [(1, bx b100 #[(.int .i64 p0.W), (.int .i64 p0.H), (.int .i64 p0.Rail), (.int .i64 p0.Gap), (.slice Ap0_0 (p0.Kinds).length cp0_0), (.slice Ap0_1 (p0.Slots).length cp0_1), (.slice Ap0_2 (p0.Marks).length cp0_2)] 26), (2, bx b101 #[(.int .i64 0), (.int .i64 0), (.int .i64 0), (.int .i64 0), (.slice none 0 0), (.slice none 0 0), (.slice none 0 0)] 26), (3, ow Ay102_0 cy102_0 42 fl_TRect y102.1), (9, ow Ay142_0 cy142_0 3 fl_i64 y142), (20, ow Ay140_0 cy140_0 3 fl_i64 y140)]) _
            refine Tr.seq ?_
            refine Tr.region ?_
            refine Tr.val (wn rfl) rfl (fun _ _ h1 h2 => run_lss (h1.ev rfl) (h1.ev rfl)) ?_
            refine Tr.nil (Tr.normThen ?_)
            refine Tr.seq ?_
            refine Tr.cond rfl H (fun H => ?_) (fun H => ?_)
            · refine Tr.skip (Tr.normThen ?_)
              refine Tr.seq ?_
              refine Tr.block ?_
              refine Tr.seq ?_
              refine Tr.region ?_
              refine Tr.val (wn rfl) rfl (fun _ _ h1 h2 => run_move (h1.ev rfl)) ?_
              refine Tr.val (wn rfl) rfl (fun _ _ h1 h2 => run_assign (h1.ev rfl)) ?_
              refine Tr.nil (Tr.normThen ?_)
              refine Tr.seq ?_
              refine Tr.region ?_
              refine Tr.val (wn rfl) rfl (fun _ _ h1 h2 => run_fieldAddr fo_26_4 (h1.ev rfl)) ?_
              refine Tr.val (wn rfl) rfl (fun _ _ h1 h2 => run_load1 ag_22 (h1.ev rfl) (rdb h2 (vs := [(.int .i64 p0.W), (.int .i64 p0.H), (.int .i64 p0.Rail), (.int .i64 p0.Gap), (.slice Ap0_0 (p0.Kinds).length cp0_0), (.slice Ap0_1 (p0.Slots).length cp0_1), (.slice Ap0_2 (p0.Marks).length cp0_2)]) (k := 1) rfl 4) rfl) ?_
              refine Tr.val (wn rfl) rfl (fun _ _ h1 h2 => run_move (h1.ev rfl)) ?_
              obtain ⟨x404, hx404, H⟩ := bnd H
              obtain ⟨hx4040, hx4041, hx4042⟩ := idx_some hx404
              refine Tr.val (wn rfl) rfl (fun _ _ h1 h2 => run_indexAddr el_22 (h1.ev rfl) hp0_0.form (h1.ev rfl) hx4040 hx4041) ?_
              refine Tr.val (wn rfl) rfl (fun _ _ h1 h2 => run_loadN (cs := [(.string x404.Name), (.int .i64 x404.W), (.int .i64 x404.H)]) ag_82 sz_82 (h1.ev rfl) (CellsAt.take (rdF ef_TBoardKind hp0_0 hx4042 h2) 3) rfl) ?_
              refine Tr.val (wn rfl) rfl (fun _ _ h1 h2 => run_move (h1.ev rfl)) ?_
              obtain ⟨y405, hy405, H⟩ := bnd H
              refine Tr.call0 (r := (.tuple #[(.int .i64 y405.1), (.int .i64 y405.2)])) (wn rfl) rfl Try.call59 (evl_cons rfl (evl_cons rfl evl_nil)) (fun W hW => F_panel_sizeOf_ok x404 x403 y405 hy405 (HF.start _)) ?_
              refine Tr.val (wn rfl) rfl (fun _ _ h1 h2 => run_move (h1.ev rfl)) ?_
              refine Tr.val (wn rfl) rfl (fun _ _ h1 h2 => run_extract (h1.ev rfl) rfl) ?_
              refine Tr.val (wn rfl) rfl (fun _ _ h1 h2 => run_extract (h1.ev rfl) rfl) ?_
              refine Tr.val (wn rfl) rfl (fun _ _ h1 h2 => run_assign (h1.ev rfl)) ?_
              refine Tr.val (wn rfl) rfl (fun _ _ h1 h2 => run_assign (h1.ev rfl)) ?_
              refine Tr.nil (Tr.normThen ?_)
              refine Tr.seq ?_
              refine Tr.region ?_
              refine Tr.val (wn rfl) rfl (fun _ _ h1 h2 => run_move (h1.ev rfl)) ?_
              refine Tr.val (wn rfl) rfl (fun _ _ h1 h2 => run_move (h1.ev rfl)) ?_
              refine Tr.val (wn rfl) rfl (fun _ _ h1 h2 => run_move (h1.ev rfl)) ?_
              refine Tr.val (wn rfl) rfl (fun _ _ h1 h2 => run_move (h1.ev rfl)) ?_
              refine Tr.val (wn rfl) rfl (fun _ _ h1 h2 => run_add (h1.ev rfl) (h1.ev rfl)) ?_
              refine Tr.val (wn rfl) rfl (fun _ _ h1 h2 => run_move (h1.ev rfl)) ?_
              refine Tr.val (wn rfl) rfl (fun _ _ h1 h2 => run_move (h1.ev rfl)) ?_
              refine Tr.val (wn rfl) rfl (fun _ _ h1 h2 => run_add (h1.ev rfl) (h1.ev rfl)) ?_
              refine Tr.build (vs := [(0, (.int .i64 xF_panel_Added_L7)), (1, (.int .i64 xF_panel_Added_L5)), (2, (.int .i64 (w64 (xF_panel_Added_L7 + y405.1)))), (3, (.int .i64 (w64 (xF_panel_Added_L5 + y405.2))))]) (cs := [(.int .i64 xF_panel_Added_L7), (.int .i64 xF_panel_Added_L5), (.int .i64 (w64 (xF_panel_Added_L7 + y405.1))), (.int .i64 (w64 (xF_panel_Added_L5 + y405.2)))]) (wn rfl) rfl (evs_cons rfl (evs_cons rfl (evs_cons rfl (evs_cons rfl evs_nil)))) (by kernel_rfl) ?_
              refine Tr.alloc 90 (wn rfl) rfl ze_42 fun b406 => ?_
              refine Tr.store 90 (cs := [(.int .i64 xF_panel_Added_L7), (.int .i64 xF_panel_Added_L5), (.int .i64 (w64 (xF_panel_Added_L7 + y405.1))), (.int .i64 (w64 (xF_panel_Added_L5 + y405.2)))]) [(.int .i64 xF_panel_Added_L7), (.int .i64 xF_panel_Added_L5), (.int .i64 (w64 (xF_panel_Added_L7 + y405.1))), (.int .i64 (w64 (xF_panel_Added_L5 + y405.2)))] (wn rfl) rfl rfl rfl rfl sz_42 rfl rfl rfl ?_
              refine Tr.nil (Tr.normThen ?_)
              refine Tr.seq ?_
              refine Tr.seq ?_
              refine Tr.region ?_
              refine Tr.val (wn rfl) rfl (fun _ _ h1 h2 => run_loadN (cs := [(.int .i64 p0.W), (.int .i64 p0.H), (.int .i64 p0.Rail), (.int .i64 p0.Gap), (.slice Ap0_0 (p0.Kinds).length cp0_0), (.slice Ap0_1 (p0.Slots).length cp0_1), (.slice Ap0_2 (p0.Marks).length cp0_2)]) ag_26 sz_26 (h1.ev rfl) (CellsAt.take (rdb h2 (vs := [(.int .i64 p0.W), (.int .i64 p0.H), (.int .i64 p0.Rail), (.int .i64 p0.Gap), (.slice Ap0_0 (p0.Kinds).length cp0_0), (.slice Ap0_1 (p0.Slots).length cp0_1), (.slice Ap0_2 (p0.Marks).length cp0_2)]) (k := 1) rfl 0) 7) rfl) ?_
              refine Tr.val (wn rfl) rfl (fun _ _ h1 h2 => run_loadN (cs := [(.int .i64 xF_panel_Added_L7), (.int .i64 xF_panel_Added_L5), (.int .i64 (w64 (xF_panel_Added_L7 + y405.1))), (.int .i64 (w64 (xF_panel_Added_L5 + y405.2)))]) ag_42 sz_42 (h1.ev rfl) (CellsAt.take (rdb h2 (vs := [(.int .i64 xF_panel_Added_L7), (.int .i64 xF_panel_Added_L5), (.int .i64 (w64 (xF_panel_Added_L7 + y405.1))), (.int .i64 (w64 (xF_panel_Added_L5 + y405.2)))]) (k := 90) rfl 0) 4) rfl) ?_
              obtain ⟨y407, hy407, H⟩ := bnd H
              refine Tr.call0 (r := (.bool y407)) (wn rfl) rfl Try.call68 (evl_cons rfl (evl_cons rfl evl_nil)) (fun W hW => F_panel_isOn_ok p0 Ap0_0 cp0_0 (hp0_0.ext hW.extAll) Ap0_1 cp0_1 (hp0_1.ext hW.extAll) Ap0_2 cp0_2 (hp0_2.ext hW.extAll) (TRect.mk xF_panel_Added_L7 xF_panel_Added_L5 (w64 (xF_panel_Added_L7 + y405.1)) (w64 (xF_panel_Added_L5 + y405.2))) y407 hy407 (HF.start _)) ?_
              refine Tr.val (wn rfl) rfl (fun _ _ h1 h2 => run_not (h1.ev rfl)) ?_
              refine Tr.val (wn rfl) rfl (fun _ _ h1 h2 => run_move (h1.ev rfl)) ?_
              obtain ⟨g409, hg409, H⟩ := bnd H
              refine Tr.mid0 4 [(1, (.string p1)), (2, (.pointer (some ⟨b100, 0, none⟩))), (4, (.pointer (some ⟨b101, 0, none⟩))), (7, (.slice Ay102_0 (y102.1).length cy102_0)), (9, (.int .i64 y104)), (10, (.slice Ay140_0 (y140).length cy140_0)), (15, (.int .i64 xF_panel_Added_L5)), (17, (.int .i64 xF_panel_Added_L7)), (18, (.int .i64 x403)), (21, (.pointer (some ⟨b406, 0, none⟩))), (75, (.slice Ay142_0 (y142).length cy142_0)), (76, (.int .i64 (y142.length : Int))), (77, (.int .i64 (iF_panel_Added_L5 : Int))), (81, (.slice Ay140_0 (y140).length cy140_0)), (82, (.int .i64 (y140.length : Int))), (83, (.int .i64 (iF_panel_Added_L7 : Int))), (87, (.int .i64 x403)), (117, (.bool g409))] [(1, bx b100 #[(.int .i64 p0.W), (.int .i64 p0.H), (.int .i64 p0.Rail), (.int .i64 p0.Gap), (.slice Ap0_0 (p0.Kinds).length cp0_0), (.slice Ap0_1 (p0.Slots).length cp0_1), (.slice Ap0_2 (p0.Marks).length cp0_2)] 26), (2, bx b101 #[(.int .i64 0), (.int .i64 0), (.int .i64 0), (.int .i64 0), (.slice none 0 0), (.slice none 0 0), (.slice none 0 0)] 26), (3, ow Ay102_0 cy102_0 42 fl_TRect y102.1), (9, ow Ay142_0 cy142_0 3 fl_i64 y142), (20, ow Ay140_0 cy140_0 3 fl_i64 y140), (90, bx b406 #[(.int .i64 xF_panel_Added_L7), (.int .i64 xF_panel_Added_L5), (.int .i64 (w64 (xF_panel_Added_L7 + y405.1))), (.int .i64 (w64 (xF_panel_Added_L5 + y405.2)))] 42)] ?_ ?_
              · cases hg424 : (!y407)
                · rw [hg424] at hg409
                  rw [if_neg (by decide)] at hg409
                  have H := hg409
                  refine Tr.val (wg rfl rfl rfl) rfl (fun _ _ h1 h2 => run_move (h1.ev rfl)) ?_
                  refine Tr.mkFunc (vs := [(.pointer (some ⟨b406, 0, none⟩)), (.pointer (some ⟨b100, 0, none⟩))]) (wg rfl rfl rfl) rfl (evl_cons rfl (evl_cons rfl evl_nil)) ?_
                  obtain ⟨y410, hy410, H⟩ := bnd H
                  refine Tr.call0 (r := (.bool y410)) (wg rfl rfl rfl) rfl Try.call69 (evl_cons rfl (evl_cons rfl evl_nil)) (fun W hW => F_slices_ContainsFunc_Rect_ok y102.1 Ay102_0 cy102_0 (hW.slCall (k := 3) rfl) (fun z0 => F_panel_Added_1 z0 (TRect.mk xF_panel_Added_L7 xF_panel_Added_L5 (w64 (xF_panel_Added_L7 + y405.1)) (w64 (xF_panel_Added_L5 + y405.2))) p0) 70 [(.pointer (some ⟨b406, 0, none⟩)), (.pointer (some ⟨b100, 0, none⟩))] Try.call70 (fun w' he z0 y hy => F_panel_Added_1_ok z0 (TRect.mk xF_panel_Added_L7 xF_panel_Added_L5 (w64 (xF_panel_Added_L7 + y405.1)) (w64 (xF_panel_Added_L5 + y405.2))) b406 (he.r _ (hW.capR (k := 90) rfl)) (he.cells (hW.capR (k := 90) rfl) (hW.capC (k := 90) rfl)) p0 Ap0_0 cp0_0 (hp0_0.ext (hW.extAll.trans he)) Ap0_1 cp0_1 (hp0_1.ext (hW.extAll.trans he)) Ap0_2 cp0_2 (hp0_2.ext (hW.extAll.trans he)) b100 (he.r _ (hW.capR (k := 1) rfl)) (he.cells (hW.capR (k := 1) rfl) (hW.capC (k := 1) rfl)) y hy (HF.start _)) y410 hy410 (HF.start _)) ?_
                  refine Tr.val (wn rfl) rfl (fun _ _ h1 h2 => run_pickF (h1.ev rfl) (h1.ev rfl)) ?_
                  obtain rfl := Option.some.inj H
                  exact Tr.nil (Tr.fin0 (.cons rfl (.cons rfl (.cons rfl (.cons rfl (.cons rfl (.cons rfl (.cons rfl (.cons rfl (.cons rfl (.cons rfl (.cons rfl (.cons rfl (.cons rfl (.cons rfl (.cons rfl (.cons rfl (.cons rfl (.cons rfl .nil)))))))))))))))))) (.cons rfl (.cons rfl (.cons rfl (.cons rfl (.cons rfl (.cons rfl .nil)))))))
                · rw [hg424] at hg409
                  rw [if_pos rfl] at hg409
                  have H := hg409
                  obtain rfl := Option.some.inj H
                  refine Tr.pass rfl rfl rfl rfl rfl (by decide) ?_
                  refine Tr.pass rfl rfl rfl rfl rfl (by decide) ?_
                  refine Tr.pass rfl rfl rfl rfl rfl (by decide) ?_
                  refine Tr.val (wn rfl) rfl (fun _ _ h1 h2 => run_pickT (h1.ev rfl) (h1.ev rfl)) ?_
                  exact Tr.nil (Tr.fin0 (.cons rfl (.cons rfl (.cons rfl (.cons rfl (.cons rfl (.cons rfl (.cons rfl (.cons rfl (.cons rfl (.cons rfl (.cons rfl (.cons rfl (.cons rfl (.cons rfl (.cons rfl (.cons rfl (.cons rfl (.cons rfl .nil)))))))))))))))))) (.cons rfl (.cons rfl (.cons rfl (.cons rfl (.cons rfl (.cons rfl .nil)))))))
              · show Tr _ _ (LF [(1, (.string p1)), (2, (.pointer (some ⟨b100, 0, none⟩))), (4, (.pointer (some ⟨b101, 0, none⟩))), (7, (.slice Ay102_0 (y102.1).length cy102_0)), (9, (.int .i64 y104)), (10, (.slice Ay140_0 (y140).length cy140_0)), (15, (.int .i64 xF_panel_Added_L5)), (17, (.int .i64 xF_panel_Added_L7)), (18, (.int .i64 x403)), (21, (.pointer (some ⟨b406, 0, none⟩))), (75, (.slice Ay142_0 (y142).length cy142_0)), (76, (.int .i64 (y142.length : Int))), (77, (.int .i64 (iF_panel_Added_L5 : Int))), (81, (.slice Ay140_0 (y140).length cy140_0)), (82, (.int .i64 (y140.length : Int))), (83, (.int .i64 (iF_panel_Added_L7 : Int))), (87, (.int .i64 x403)), (117, (.bool g409))]) (LE [(1, bx b100 #[(.int .i64 p0.W), (.int .i64 p0.H), (.int .i64 p0.Rail), (.int .i64 p0.Gap), (.slice Ap0_0 (p0.Kinds).length cp0_0), (.slice Ap0_1 (p0.Slots).length cp0_1), (.slice Ap0_2 (p0.Marks).length cp0_2)] 26), (2, bx b101 #[(.int .i64 0), (.int .i64 0), (.int .i64 0), (.int .i64 0), (.slice none 0 0), (.slice none 0 0), (.slice none 0 0)] 26), (3, ow Ay102_0 cy102_0 42 fl_TRect y102.1), (9, ow Ay142_0 cy142_0 3 fl_i64 y142), (20, ow Ay140_0 cy140_0 3 fl_i64 y140), (90, bx b406 #[(.int .i64 xF_panel_Added_L7), (.int .i64 xF_panel_Added_L5), (.int .i64 (w64 (xF_panel_Added_L7 + y405.1))), (.int .i64 (w64 (xF_panel_Added_L5 + y405.2)))] 42)]) _
                refine Tr.val (wn rfl) rfl (fun _ _ h1 h2 => run_move (h1.ev rfl)) ?_
                obtain ⟨g412, hg412, H⟩ := bnd H
                refine Tr.mid0 5 [(1, (.string p1)), (2, (.pointer (some ⟨b100, 0, none⟩))), (4, (.pointer (some ⟨b101, 0, none⟩))), (7, (.slice Ay102_0 (y102.1).length cy102_0)), (9, (.int .i64 y104)), (10, (.slice Ay140_0 (y140).length cy140_0)), (15, (.int .i64 xF_panel_Added_L5)), (17, (.int .i64 xF_panel_Added_L7)), (18, (.int .i64 x403)), (75, (.slice Ay142_0 (y142).length cy142_0)), (76, (.int .i64 (y142.length : Int))), (77, (.int .i64 (iF_panel_Added_L5 : Int))), (81, (.slice Ay140_0 (y140).length cy140_0)), (82, (.int .i64 (y140.length : Int))), (83, (.int .i64 (iF_panel_Added_L7 : Int))), (87, (.int .i64 x403)), (123, (.bool g412))] [(1, bx b100 #[(.int .i64 p0.W), (.int .i64 p0.H), (.int .i64 p0.Rail), (.int .i64 p0.Gap), (.slice Ap0_0 (p0.Kinds).length cp0_0), (.slice Ap0_1 (p0.Slots).length cp0_1), (.slice Ap0_2 (p0.Marks).length cp0_2)] 26), (2, bx b101 #[(.int .i64 0), (.int .i64 0), (.int .i64 0), (.int .i64 0), (.slice none 0 0), (.slice none 0 0), (.slice none 0 0)] 26), (3, ow Ay102_0 cy102_0 42 fl_TRect y102.1), (9, ow Ay142_0 cy142_0 3 fl_i64 y142), (20, ow Ay140_0 cy140_0 3 fl_i64 y140), (90, bx b406 #[(.int .i64 xF_panel_Added_L7), (.int .i64 xF_panel_Added_L5), (.int .i64 (w64 (xF_panel_Added_L7 + y405.1))), (.int .i64 (w64 (xF_panel_Added_L5 + y405.2)))] 42)] ?_ ?_
                · cases hg424 : g409
                  · rw [hg424] at hg412
                    rw [if_neg (by decide)] at hg412
                    have H := hg412
                    refine Tr.val (wg rfl rfl rfl) rfl (fun _ _ h1 h2 => run_fieldAddr fo_26_6 (h1.ev rfl)) ?_
                    refine Tr.val (wg rfl rfl rfl) rfl (fun _ _ h1 h2 => run_load1 ag_24 (h1.ev rfl) (rdb h2 (vs := [(.int .i64 p0.W), (.int .i64 p0.H), (.int .i64 p0.Rail), (.int .i64 p0.Gap), (.slice Ap0_0 (p0.Kinds).length cp0_0), (.slice Ap0_1 (p0.Slots).length cp0_1), (.slice Ap0_2 (p0.Marks).length cp0_2)]) (k := 1) rfl 6) rfl) ?_
                    refine Tr.mkFunc (vs := [(.pointer (some ⟨b406, 0, none⟩))]) (wg rfl rfl rfl) rfl (evl_cons rfl evl_nil) ?_
                    obtain ⟨y413, hy413, H⟩ := bnd H
                    refine Tr.call0 (r := (.bool y413)) (wg rfl rfl rfl) rfl Try.call72 (evl_cons rfl (evl_cons rfl evl_nil)) (fun W hW => F_slices_ContainsFunc_Point_ok p0.Marks Ap0_2 cp0_2 (hp0_2.ext hW.extAll) (fun z0 => F_panel_Added_2 z0 (TRect.mk xF_panel_Added_L7 xF_panel_Added_L5 (w64 (xF_panel_Added_L7 + y405.1)) (w64 (xF_panel_Added_L5 + y405.2)))) 73 [(.pointer (some ⟨b406, 0, none⟩))] Try.call73 (fun w' he z0 y hy => F_panel_Added_2_ok z0 (TRect.mk xF_panel_Added_L7 xF_panel_Added_L5 (w64 (xF_panel_Added_L7 + y405.1)) (w64 (xF_panel_Added_L5 + y405.2))) b406 (he.r _ (hW.capR (k := 90) rfl)) (he.cells (hW.capR (k := 90) rfl) (hW.capC (k := 90) rfl)) y hy (HF.start _)) y413 hy413 (HF.start _)) ?_
                    refine Tr.val (wn rfl) rfl (fun _ _ h1 h2 => run_pickF (h1.ev rfl) (h1.ev rfl)) ?_
                    obtain rfl := Option.some.inj H
                    exact Tr.nil (Tr.fin0 (.cons rfl (.cons rfl (.cons rfl (.cons rfl (.cons rfl (.cons rfl (.cons rfl (.cons rfl (.cons rfl (.cons rfl (.cons rfl (.cons rfl (.cons rfl (.cons rfl (.cons rfl (.cons rfl (.cons rfl .nil))))))))))))))))) (.cons rfl (.cons rfl (.cons rfl (.cons rfl (.cons rfl (.cons rfl .nil)))))))
                  · rw [hg424] at hg412
                    rw [if_pos rfl] at hg412
                    have H := hg412
                    obtain rfl := Option.some.inj H
                    refine Tr.pass rfl rfl rfl rfl rfl (by decide) ?_
                    refine Tr.pass rfl rfl rfl rfl rfl (by decide) ?_
                    refine Tr.pass rfl rfl rfl rfl rfl (by decide) ?_
                    refine Tr.pass rfl rfl rfl rfl rfl (by decide) ?_
                    refine Tr.val (wn rfl) rfl (fun _ _ h1 h2 => run_pickT (h1.ev rfl) (h1.ev rfl)) ?_
                    exact Tr.nil (Tr.fin0 (.cons rfl (.cons rfl (.cons rfl (.cons rfl (.cons rfl (.cons rfl (.cons rfl (.cons rfl (.cons rfl (.cons rfl (.cons rfl (.cons rfl (.cons rfl (.cons rfl (.cons rfl (.cons rfl (.cons rfl .nil))))))))))))))))) (.cons rfl (.cons rfl (.cons rfl (.cons rfl (.cons rfl (.cons rfl .nil)))))))
                · show Tr _ _ (LF [(1, (.string p1)), (2, (.pointer (some ⟨b100, 0, none⟩))), (4, (.pointer (some ⟨b101, 0, none⟩))), (7, (.slice Ay102_0 (y102.1).length cy102_0)), (9, (.int .i64 y104)), (10, (.slice Ay140_0 (y140).length cy140_0)), (15, (.int .i64 xF_panel_Added_L5)), (17, (.int .i64 xF_panel_Added_L7)), (18, (.int .i64 x403)), (75, (.slice Ay142_0 (y142).length cy142_0)), (76, (.int .i64 (y142.length : Int))), (77, (.int .i64 (iF_panel_Added_L5 : Int))), (81, (.slice Ay140_0 (y140).length cy140_0)), (82, (.int .i64 (y140.length : Int))), (83, (.int .i64 (iF_panel_Added_L7 : Int))), (87, (.int .i64 x403)), (123, (.bool g412))]) (LE [(1, bx b100 #[(.int .i64 p0.W), (.int .i64 p0.H), (.int .i64 p0.Rail), (.int .i64 p0.Gap), (.slice Ap0_0 (p0.Kinds).length cp0_0), (.slice Ap0_1 (p0.Slots).length cp0_1), (.slice Ap0_2 (p0.Marks).length cp0_2)] 26), (2, bx b101 #[(.int .i64 0), (.int .i64 0), (.int .i64 0), (.int .i64 0), (.slice none 0 0), (.slice none 0 0), (.slice none 0 0)] 26), (3, ow Ay102_0 cy102_0 42 fl_TRect y102.1), (9, ow Ay142_0 cy142_0 3 fl_i64 y142), (20, ow Ay140_0 cy140_0 3 fl_i64 y140), (90, bx b406 #[(.int .i64 xF_panel_Added_L7), (.int .i64 xF_panel_Added_L5), (.int .i64 (w64 (xF_panel_Added_L7 + y405.1))), (.int .i64 (w64 (xF_panel_Added_L5 + y405.2)))] 42)]) _
                  refine Tr.nil (Tr.normThen ?_)
                  refine Tr.cond rfl H (fun H => ?_) (fun H => ?_)
                  · refine Tr.exit (Tr.exitThen (Tr.exitBlock (Tr.normThen ?_)))
                    refine Tr.region ?_
                    refine Tr.val (wn rfl) rfl (fun _ _ h1 h2 => run_add (h1.ev rfl) (h1.ev rfl)) ?_
                    refine Tr.val (wn rfl) rfl (fun _ _ h1 h2 => run_move (h1.ev rfl)) ?_
                    refine Tr.nil ?_
                    exact Tr.backThen leF_panel_Added_L8 (w64 (x403 + 1)) H (.cons rfl (.cons rfl (.cons rfl (.cons rfl (.cons rfl (.cons rfl (.cons rfl (.cons rfl (.cons rfl (.cons rfl (.cons rfl (.cons rfl (.cons rfl (.cons rfl (.cons rfl .nil))))))))))))))) (.cons rfl (.cons rfl (.cons rfl (.cons rfl (.cons rfl .nil)))))
                  · refine Tr.skip (Tr.normThen ?_)
                    refine Tr.seq ?_
                    refine Tr.seq ?_
                    refine Tr.region ?_
                    refine Tr.val (wn rfl) rfl (fun _ _ h1 h2 => run_fieldAddr fo_26_5 (h1.ev rfl)) ?_
                    refine Tr.val (wn rfl) rfl (fun _ _ h1 h2 => run_load1 ag_23 (h1.ev rfl) (rdb h2 (vs := [(.int .i64 p0.W), (.int .i64 p0.H), (.int .i64 p0.Rail), (.int .i64 p0.Gap), (.slice Ap0_0 (p0.Kinds).length cp0_0), (.slice Ap0_1 (p0.Slots).length cp0_1), (.slice Ap0_2 (p0.Marks).length cp0_2)]) (k := 1) rfl 5) rfl) ?_
                    refine Tr.val (wn rfl) rfl (fun _ _ h1 h2 => run_len un_23 (h1.ev rfl)) ?_
                    refine Tr.val (wn rfl) rfl (fun _ _ h1 h2 => run_geq (h1.ev rfl) (h1.ev rfl)) ?_
                    refine Tr.nil (Tr.normThen ?_)
                    refine Tr.cond rfl H (fun H => ?_) (fun H => ?_)
                    · refine Tr.seq ?_
                      refine Tr.region ?_
                      refine Tr.build (vs := []) (cs := [(.int .i64 0), (.int .i64 0), (.int .i64 0), (.int .i64 0), (.slice none 0 0), (.slice none 0 0), (.slice none 0 0)]) (wn rfl) rfl evs_nil (by kernel_rfl) ?_
                      refine Tr.store 2 (cs := [(.int .i64 0), (.int .i64 0), (.int .i64 0), (.int .i64 0), (.slice none 0 0), (.slice none 0 0), (.slice none 0 0)]) [(.int .i64 0), (.int .i64 0), (.int .i64 0), (.int .i64 0), (.slice none 0 0), (.slice none 0 0), (.slice none 0 0)] (wn rfl) rfl rfl rfl rfl sz_26 rfl rfl rfl ?_
                      refine Tr.val (wn rfl) rfl (fun _ _ h1 h2 => run_assign (h1.ev rfl)) ?_
                      refine Tr.val (wn rfl) rfl (fun _ _ h1 h2 => run_assign (h1.ev rfl)) ?_
                      refine Tr.nil (Tr.normThen ?_)
                      refine Tr.ret (Tr.retThen (Tr.retBlock (Tr.retThen (Tr.retThen (Tr.retBlock (Tr.retBlock (Tr.retThen (Tr.retThen (Tr.retBlock (Tr.retBlock (Tr.retThen (Tr.retThen (Tr.retBlock (Tr.retThen ?_))))))))))))))
                      obtain rfl := Option.some.inj H
                      refine Tr.nilOwn 91 82 fl_TBoardKind ?_
                      refine Tr.nilOwn 92 32 fl_TPoint ?_
                      exact Tr.out (m := [(.agg #[(.int .i64 0), (.int .i64 0), (.int .i64 0), (.int .i64 0), (.slice none 0 0), (.slice none 0 0), (.slice none 0 0)]), (.bool false), (.int .i64 2)]) [2] (res_cell rfl rfl ag_26 sz_26 (res_tmp rfl (res_tmp rfl res_nil))) (fun W hW => ⟨w, ((none, 0), (none, 0), (none, 0)), leB, rfl, ⟨slf_nil, (Sl.nil _ _ _), slf_nil⟩, hW.pick (ks := [91, 92]) (by decide) (pk_cons rfl (pk_cons rfl pk_nil))⟩)
                    · refine Tr.skip (Tr.normThen ?_)
                      refine Tr.seq ?_
                      refine Tr.region ?_
                      refine Tr.val (wn rfl) rfl (fun _ _ h1 h2 => run_move (h1.ev rfl)) ?_
                      refine Tr.val (wn rfl) rfl (fun _ _ h1 h2 => run_move (h1.ev rfl)) ?_
                      refine Tr.val (wn rfl) rfl (fun _ _ h1 h2 => run_move (h1.ev rfl)) ?_
                      refine Tr.val (wn rfl) rfl (fun _ _ h1 h2 => run_move (h1.ev rfl)) ?_
                      refine Tr.build (vs := [(0, (.int .i64 xF_panel_Added_L7)), (1, (.int .i64 xF_panel_Added_L5))]) (cs := [(.int .i64 xF_panel_Added_L7), (.int .i64 xF_panel_Added_L5)]) (wn rfl) rfl (evs_cons rfl (evs_cons rfl evs_nil)) (by kernel_rfl) ?_
                      refine Tr.build (vs := [(0, (.string p1)), (1, (.int .i64 x403)), (2, (.agg #[(.int .i64 xF_panel_Added_L7), (.int .i64 xF_panel_Added_L5)]))]) (cs := [(.string p1), (.int .i64 x403), (.int .i64 xF_panel_Added_L7), (.int .i64 xF_panel_Added_L5)]) (wn rfl) rfl (evs_cons rfl (evs_cons rfl (evs_cons rfl evs_nil))) (by kernel_rfl) ?_
                      refine Tr.alloc 93 (wn rfl) rfl ze_34 fun b414 => ?_
                      refine Tr.store 93 (cs := [(.string p1), (.int .i64 x403), (.int .i64 xF_panel_Added_L7), (.int .i64 xF_panel_Added_L5)]) [(.string p1), (.int .i64 x403), (.int .i64 xF_panel_Added_L7), (.int .i64 xF_panel_Added_L5)] (wn rfl) rfl rfl rfl rfl sz_34 rfl rfl rfl ?_
                      refine Tr.nil (Tr.normThen ?_)
                      refine Tr.seq ?_
                      refine Tr.drawC 7 [] [6] (by kernel_rfl) (by kernel_rfl) fun sz415 hlosz415 hEsz415 => ?_
                      refine Dr.quietZ 0 [(135, (.agg #[(.int .i64 p0.W), (.int .i64 p0.H), (.int .i64 p0.Rail), (.int .i64 p0.Gap), (.slice Ap0_0 (p0.Kinds).length cp0_0), (.slice Ap0_1 (p0.Slots).length cp0_1), (.slice Ap0_2 (p0.Marks).length cp0_2)]))] [] true (by kernel_rfl) rfl rfl (by kernel_rfl) (fun W W' h2 hsW hk => HF.keepZ (le := [(1, bx b100 #[(.int .i64 p0.W), (.int .i64 p0.H), (.int .i64 p0.Rail), (.int .i64 p0.Gap), (.slice Ap0_0 (p0.Kinds).length cp0_0), (.slice Ap0_1 (p0.Slots).length cp0_1), (.slice Ap0_2 (p0.Marks).length cp0_2)] 26)]) (ks := []) (s0 := sz415) true h2 hk (fun _ => hlosz415) (.cons rfl .nil) (fun b hb => hb.elim (fun ⟨_, hp, _⟩ => nomatch hp) (fun hb => .inr ⟨rfl, hb.2, (List.forall_mem_cons.2 ⟨fun b hb => hEsz415 1 b hb, (fun _ h => nomatch h)⟩)⟩)) (fun _ h => nomatch h) rfl) ?_ rfl rfl ?_
                      · refine Tq.val (wn rfl) rfl (fun _ _ h1 h2 => run_loadN (cs := [(.int .i64 p0.W), (.int .i64 p0.H), (.int .i64 p0.Rail), (.int .i64 p0.Gap), (.slice Ap0_0 (p0.Kinds).length cp0_0), (.slice Ap0_1 (p0.Slots).length cp0_1), (.slice Ap0_2 (p0.Marks).length cp0_2)]) ag_26 sz_26 (h1.ev rfl) (CellsAt.take (rdb h2 (vs := [(.int .i64 p0.W), (.int .i64 p0.H), (.int .i64 p0.Rail), (.int .i64 p0.Gap), (.slice Ap0_0 (p0.Kinds).length cp0_0), (.slice Ap0_1 (p0.Slots).length cp0_1), (.slice Ap0_2 (p0.Marks).length cp0_2)]) (k := 1) rfl 0) 7) rfl) ?_
                        exact Tq.fin (.cons rfl .nil)
                      refine Dr.quietP 1 (by kernel_rfl) rfl (wn rfl) rfl (by kernel_rfl) (fun _ _ h1 => run_fieldAddr fo_26_5 (h1.ev rfl)) rfl ?_
                      refine Dr.quietZ 2 [(137, (.slice Ap0_1 (p0.Slots).length cp0_1))] [] true (by kernel_rfl) rfl rfl (by kernel_rfl) (fun W W' h2 hsW hk => HF.keepZ (le := [(1, bx b100 #[(.int .i64 p0.W), (.int .i64 p0.H), (.int .i64 p0.Rail), (.int .i64 p0.Gap), (.slice Ap0_0 (p0.Kinds).length cp0_0), (.slice Ap0_1 (p0.Slots).length cp0_1), (.slice Ap0_2 (p0.Marks).length cp0_2)] 26)]) (ks := []) (s0 := sz415) true h2 hk (fun _ => hlosz415) (.cons rfl .nil) (fun b hb => hb.elim (fun ⟨_, hp, _⟩ => nomatch hp) (fun hb => .inr ⟨rfl, hb.2, (List.forall_mem_cons.2 ⟨fun b hb => hEsz415 1 b hb, (fun _ h => nomatch h)⟩)⟩)) (fun _ h => nomatch h) rfl) ?_ rfl rfl ?_
                      · refine Tq.val (wn rfl) rfl (fun _ _ h1 h2 => run_load1 ag_23 (h1.ev rfl) (rdb h2 (vs := [(.int .i64 p0.W), (.int .i64 p0.H), (.int .i64 p0.Rail), (.int .i64 p0.Gap), (.slice Ap0_0 (p0.Kinds).length cp0_0), (.slice Ap0_1 (p0.Slots).length cp0_1), (.slice Ap0_2 (p0.Marks).length cp0_2)]) (k := 1) rfl 5) rfl) ?_
                        exact Tq.fin (.cons rfl .nil)
                      refine Dr.quietZ 4 [(139, (.agg #[(.string p1), (.int .i64 x403), (.int .i64 xF_panel_Added_L7), (.int .i64 xF_panel_Added_L5)]))] [] true (by kernel_rfl) rfl rfl (by kernel_rfl) (fun W W' h2 hsW hk => HF.keepZ (le := [(93, bx b414 #[(.string p1), (.int .i64 x403), (.int .i64 xF_panel_Added_L7), (.int .i64 xF_panel_Added_L5)] 34)]) (ks := []) (s0 := sz415) true h2 hk (fun _ => hlosz415) (.cons rfl .nil) (fun b hb => hb.elim (fun ⟨_, hp, _⟩ => nomatch hp) (fun hb => .inr ⟨rfl, hb.2, (List.forall_mem_cons.2 ⟨fun b hb => hEsz415 93 b hb, (fun _ h => nomatch h)⟩)⟩)) (fun _ h => nomatch h) rfl) ?_ rfl rfl ?_
                      · refine Tq.val (wn rfl) rfl (fun _ _ h1 h2 => run_loadN (cs := [(.string p1), (.int .i64 x403), (.int .i64 xF_panel_Added_L7), (.int .i64 xF_panel_Added_L5)]) ag_34 sz_34 (h1.ev rfl) (CellsAt.take (rdb h2 (vs := [(.string p1), (.int .i64 x403), (.int .i64 xF_panel_Added_L7), (.int .i64 xF_panel_Added_L5)]) (k := 93) rfl 0) 4) rfl) ?_
                        exact Tq.fin (.cons rfl .nil)
                      obtain ⟨y416, hy416, H⟩ := bnd H
                      refine Dr.cut (U := Option Addr × Nat × Nat) [3, 5] 1 (fun u => SlF u.1 (y416).length u.2.1 ∧ (∀ b, insS [ow u.1 u.2.1 34 fl_TSlot y416] b → sz415 ≤ b) ∧ sz415 ≤ u.2.2) (fun u => [(1, (.string p1)), (2, (.pointer (some ⟨b100, 0, none⟩))), (4, (.pointer (some ⟨b101, 0, none⟩))), (7, (.slice Ay102_0 (y102.1).length cy102_0)), (9, (.int .i64 y104)), (10, (.slice Ay140_0 (y140).length cy140_0)), (15, (.int .i64 xF_panel_Added_L5)), (17, (.int .i64 xF_panel_Added_L7)), (18, (.int .i64 x403)), (22, (.pointer (some ⟨b414, 0, none⟩))), (75, (.slice Ay142_0 (y142).length cy142_0)), (76, (.int .i64 (y142.length : Int))), (77, (.int .i64 (iF_panel_Added_L5 : Int))), (81, (.slice Ay140_0 (y140).length cy140_0)), (82, (.int .i64 (y140.length : Int))), (83, (.int .i64 (iF_panel_Added_L7 : Int))), (87, (.int .i64 x403)), (123, (.bool g412)), (124, (.pointer (some ⟨b100, 5, none⟩))), (125, (.slice Ap0_1 (p0.Slots).length cp0_1)), (126, (.int .i64 (p0.Slots.length : Int))), (127, (.bool (decide (500 ≤ (p0.Slots.length : Int))))), (129, (.string p1)), (130, (.int .i64 x403)), (131, (.int .i64 xF_panel_Added_L7)), (132, (.int .i64 xF_panel_Added_L5)), (133, (.agg #[(.int .i64 xF_panel_Added_L7), (.int .i64 xF_panel_Added_L5)])), (134, (.agg #[(.string p1), (.int .i64 x403), (.int .i64 xF_panel_Added_L7), (.int .i64 xF_panel_Added_L5)])), (135, (.agg #[(.int .i64 p0.W), (.int .i64 p0.H), (.int .i64 p0.Rail), (.int .i64 p0.Gap), (.slice Ap0_0 (p0.Kinds).length cp0_0), (.slice Ap0_1 (p0.Slots).length cp0_1), (.slice Ap0_2 (p0.Marks).length cp0_2)])), (136, (.pointer (some ⟨b100, 5, none⟩))), (137, (.slice Ap0_1 (p0.Slots).length cp0_1)), (138, (.slice u.1 (y416).length u.2.1)), (139, (.agg #[(.string p1), (.int .i64 x403), (.int .i64 xF_panel_Added_L7), (.int .i64 xF_panel_Added_L5)])), (140, (.slice (some ⟨u.2.2, 0, none⟩) 1 1))]) (fun u => [(1, bx b100 #[(.int .i64 p0.W), (.int .i64 p0.H), (.int .i64 p0.Rail), (.int .i64 p0.Gap), (.slice Ap0_0 (p0.Kinds).length cp0_0), (.slice Ap0_1 (p0.Slots).length cp0_1), (.slice Ap0_2 (p0.Marks).length cp0_2)] 26), (2, bx b101 #[(.int .i64 0), (.int .i64 0), (.int .i64 0), (.int .i64 0), (.slice none 0 0), (.slice none 0 0), (.slice none 0 0)] 26), (3, ow Ay102_0 cy102_0 42 fl_TRect y102.1), (9, ow Ay142_0 cy142_0 3 fl_i64 y142), (20, ow Ay140_0 cy140_0 3 fl_i64 y140), (90, bx b406 #[(.int .i64 xF_panel_Added_L7), (.int .i64 xF_panel_Added_L5), (.int .i64 (w64 (xF_panel_Added_L7 + y405.1))), (.int .i64 (w64 (xF_panel_Added_L5 + y405.2)))] 42), (93, bx b414 #[(.string p1), (.int .i64 x403), (.int .i64 xF_panel_Added_L7), (.int .i64 xF_panel_Added_L5)] 34), (94, ow u.1 u.2.1 34 fl_TSlot y416), (95, bx u.2.2 #[(.string p1), (.int .i64 x403), (.int .i64 xF_panel_Added_L7), (.int .i64 xF_panel_Added_L5)] 34)]) ?_ ?_
                      · intro hC
                        refine Dr.pair 3 5 (by kernel_rfl) ?_ ?_
                        · refine St.callM 3 [94] [emp] (U := (Option Addr × Nat)) (fun u => (.slice u.1 (y416).length u.2)) (fun u => SlF u.1 (y416).length u.2) (fun u => [ow u.1 u.2 34 fl_TSlot y416]) rfl (pk_cons rfl pk_nil) (fun _ => rfl) (insS_no rfl) rfl (wn rfl) rfl Try.call76 (evl_cons rfl evl_nil) (fun W hW hp hE => F_slices_Clone_Slot_ok p0.Slots Ap0_1 cp0_1 (hp0_1.ext (hW.extS hp)) y416 hy416 hE) ?_
                          intro u hu hsy416
                          obtain ⟨Ay416_0, cy416_0⟩ := u
                          have gy416_0 := hu
                          have hgy416_0 : SlF Ay416_0 (y416).length cy416_0 := gy416_0
                          show Dr _ _ _ _ _ _ _ _ _ (uf _ 138 (.slice Ay416_0 (y416).length cy416_0)) (up _ 94 (ow Ay416_0 cy416_0 34 fl_TSlot y416))
                          refine Dr.one 5 (by kernel_rfl) ?_
                          refine St.buildSlice 5 95 (e := 34) (vs := [(0, (.agg #[(.string p1), (.int .i64 x403), (.int .i64 xF_panel_Added_L7), (.int .i64 xF_panel_Added_L5)]))]) (cs := [(.string p1), (.int .i64 x403), (.int .i64 xF_panel_Added_L7), (.int .i64 xF_panel_Added_L5)]) rfl (wn rfl) rfl (evs_cons rfl evs_nil) (by kernel_rfl) fun b418 hb418 => ?_
                          exact (hC ⟨Ay416_0, cy416_0, b418⟩ ⟨hgy416_0, hsy416, hb418⟩).use (by kernel_rfl) (.cons rfl (.cons rfl (.cons rfl (.cons rfl (.cons rfl (.cons rfl (.cons rfl (.cons rfl (.cons rfl (.cons rfl (.cons rfl (.cons rfl (.cons rfl (.cons rfl (.cons rfl (.cons rfl (.cons rfl (.cons rfl (.cons rfl (.cons rfl (.cons rfl (.cons rfl (.cons rfl (.cons rfl (.cons rfl (.cons rfl (.cons rfl (.cons rfl (.cons rfl (.cons rfl (.cons rfl (.cons rfl (.cons rfl (.cons rfl .nil)))))))))))))))))))))))))))))))))) (.cons rfl (.cons rfl (.cons rfl (.cons rfl (.cons rfl (.cons rfl (.cons rfl (.cons rfl (.cons rfl .nil)))))))))
                        · refine St.buildSlice 5 95 (e := 34) (vs := [(0, (.agg #[(.string p1), (.int .i64 x403), (.int .i64 xF_panel_Added_L7), (.int .i64 xF_panel_Added_L5)]))]) (cs := [(.string p1), (.int .i64 x403), (.int .i64 xF_panel_Added_L7), (.int .i64 xF_panel_Added_L5)]) rfl (wn rfl) rfl (evs_cons rfl evs_nil) (by kernel_rfl) fun b418 hb418 => ?_
                          refine Dr.one 3 (by kernel_rfl) ?_
                          refine St.callM 3 [94] [emp] (U := (Option Addr × Nat)) (fun u => (.slice u.1 (y416).length u.2)) (fun u => SlF u.1 (y416).length u.2) (fun u => [ow u.1 u.2 34 fl_TSlot y416]) rfl (pk_cons rfl pk_nil) (fun _ => rfl) (insS_no rfl) rfl (wn rfl) rfl Try.call76 (evl_cons rfl evl_nil) (fun W hW hp hE => F_slices_Clone_Slot_ok p0.Slots Ap0_1 cp0_1 (hp0_1.ext (hW.extS hp)) y416 hy416 hE) ?_
                          intro u hu hsy416
                          obtain ⟨Ay416_0, cy416_0⟩ := u
                          have gy416_0 := hu
                          have hgy416_0 : SlF Ay416_0 (y416).length cy416_0 := gy416_0
                          show Dr _ _ _ _ _ _ _ _ _ (uf _ 138 (.slice Ay416_0 (y416).length cy416_0)) (up _ 94 (ow Ay416_0 cy416_0 34 fl_TSlot y416))
                          exact (hC ⟨Ay416_0, cy416_0, b418⟩ ⟨hgy416_0, hsy416, hb418⟩).use (by kernel_rfl) (.cons rfl (.cons rfl (.cons rfl (.cons rfl (.cons rfl (.cons rfl (.cons rfl (.cons rfl (.cons rfl (.cons rfl (.cons rfl (.cons rfl (.cons rfl (.cons rfl (.cons rfl (.cons rfl (.cons rfl (.cons rfl (.cons rfl (.cons rfl (.cons rfl (.cons rfl (.cons rfl (.cons rfl (.cons rfl (.cons rfl (.cons rfl (.cons rfl (.cons rfl (.cons rfl (.cons rfl (.cons rfl (.cons rfl (.cons rfl .nil)))))))))))))))))))))))))))))))))) (.cons rfl (.cons rfl (.cons rfl (.cons rfl (.cons rfl (.cons rfl (.cons rfl (.cons rfl (.cons rfl .nil)))))))))
                      intro u hu
                      obtain ⟨Ay416_0, cy416_0, b418⟩ := u
                      obtain ⟨hgy416_0, hsy416, hb418⟩ := hu
                      replace hgy416_0 : SlF Ay416_0 (y416).length cy416_0 := hgy416_0
                      replace hsy416 : (∀ b, insS [ow Ay416_0 cy416_0 34 fl_TSlot y416] b → sz415 ≤ b) := hsy416
                      replace hb418 : sz415 ≤ b418 := hb418
                      show Dr _ _ _ _ _ _ _ _ _ (LF [(1, (.string p1)), (2, (.pointer (some ⟨b100, 0, none⟩))), (4, (.pointer (some ⟨b101, 0, none⟩))), (7, (.slice Ay102_0 (y102.1).length cy102_0)), (9, (.int .i64 y104)), (10, (.slice Ay140_0 (y140).length cy140_0)), (15, (.int .i64 xF_panel_Added_L5)), (17, (.int .i64 xF_panel_Added_L7)), (18, (.int .i64 x403)), (22, (.pointer (some ⟨b414, 0, none⟩))), (75, (.slice Ay142_0 (y142).length cy142_0)), (76, (.int .i64 (y142.length : Int))), (77, (.int .i64 (iF_panel_Added_L5 : Int))), (81, (.slice Ay140_0 (y140).length cy140_0)), (82, (.int .i64 (y140.length : Int))), (83, (.int .i64 (iF_panel_Added_L7 : Int))), (87, (.int .i64 x403)), (123, (.bool g412)), (124, (.pointer (some ⟨b100, 5, none⟩))), (125, (.slice Ap0_1 (p0.Slots).length cp0_1)), (126, (.int .i64 (p0.Slots.length : Int))), (127, (.bool (decide (500 ≤ (p0.Slots.length : Int))))), (129, (.string p1)), (130, (.int .i64 x403)), (131, (.int .i64 xF_panel_Added_L7)), (132, (.int .i64 xF_panel_Added_L5)), (133, (.agg #[(.int .i64 xF_panel_Added_L7), (.int .i64 xF_panel_Added_L5)])), (134, (.agg #[(.string p1), (.int .i64 x403), (.int .i64 xF_panel_Added_L7), (.int .i64 xF_panel_Added_L5)])), (135, (.agg #[(.int .i64 p0.W), (.int .i64 p0.H), (.int .i64 p0.Rail), (.int .i64 p0.Gap), (.slice Ap0_0 (p0.Kinds).length cp0_0), (.slice Ap0_1 (p0.Slots).length cp0_1), (.slice Ap0_2 (p0.Marks).length cp0_2)])), (136, (.pointer (some ⟨b100, 5, none⟩))), (137, (.slice Ap0_1 (p0.Slots).length cp0_1)), (138, (.slice Ay416_0 (y416).length cy416_0)), (139, (.agg #[(.string p1), (.int .i64 x403), (.int .i64 xF_panel_Added_L7), (.int .i64 xF_panel_Added_L5)])), (140, (.slice (some ⟨b418, 0, none⟩) 1 1))]) (LE [(1, bx b100 #[(.int .i64 p0.W), (.int .i64 p0.H), (.int .i64 p0.Rail), (.int .i64 p0.Gap), (.slice Ap0_0 (p0.Kinds).length cp0_0), (.slice Ap0_1 (p0.Slots).length cp0_1), (.slice Ap0_2 (p0.Marks).length cp0_2)] 26), (2, bx b101 #[(.int .i64 0), (.int .i64 0), (.int .i64 0), (.int .i64 0), (.slice none 0 0), (.slice none 0 0), (.slice none 0 0)] 26), (3, ow Ay102_0 cy102_0 42 fl_TRect y102.1), (9, ow Ay142_0 cy142_0 3 fl_i64 y142), (20, ow Ay140_0 cy140_0 3 fl_i64 y140), (90, bx b406 #[(.int .i64 xF_panel_Added_L7), (.int .i64 xF_panel_Added_L5), (.int .i64 (w64 (xF_panel_Added_L7 + y405.1))), (.int .i64 (w64 (xF_panel_Added_L5 + y405.2)))] 42), (93, bx b414 #[(.string p1), (.int .i64 x403), (.int .i64 xF_panel_Added_L7), (.int .i64 xF_panel_Added_L5)] 34), (94, ow Ay416_0 cy416_0 34 fl_TSlot y416), (95, bx b418 #[(.string p1), (.int .i64 x403), (.int .i64 xF_panel_Added_L7), (.int .i64 xF_panel_Added_L5)] 34)])
                      obtain ⟨l419, hl419, H⟩ := bnd H
                      refine Dr.one 6 (by kernel_rfl) ?_
                      refine St.append 6 94 (t' := fl_TSlot) (ll := y416) (l2 := [(TSlot.mk p1 x403 (TPoint.mk xF_panel_Added_L7 xF_panel_Added_L5))]) (fun b hb => .inr ⟨by simp, hsy416 b ⟨_, List.mem_cons_self, hb⟩⟩) rfl (wn rfl) rfl rfl rfl rfl (fun W hW => ⟨[[(.string p1), (.int .i64 x403), (.int .i64 xF_panel_Added_L7), (.int .i64 xF_panel_Added_L5)]], (.cons ⟨(), trivial, rfl⟩ .nil), rdb hW (vs := [(.string p1), (.int .i64 x403), (.int .i64 xF_panel_Added_L7), (.int .i64 xF_panel_Added_L5)]) (k := 95) rfl 0⟩) un_23 sz_34 zl_34 (by decide) by_34 rfl hl419 fun Al419 cl419 hAl419 => ?_
                      refine Dr.tail (by kernel_rfl) ?_
                      refine Tr.freeze 94 rfl fun w le421 hz420 => ?_
                      replace hp0_0 := hp0_0.leR le421
                      replace hp0_1 := hp0_1.leR le421
                      replace hp0_2 := hp0_2.leR le421
                      replace leB := leB.trans le421
                      replace leF_panel_Added_L1 := leF_panel_Added_L1.trans le421
                      replace leF_panel_Added_L5 := leF_panel_Added_L5.trans le421
                      replace leF_panel_Added_L7 := leF_panel_Added_L7.trans le421
                      replace leF_panel_Added_L8 := leF_panel_Added_L8.trans le421
                      obtain ⟨y422, hy422, H⟩ := bnd H
                      refine Tr.callG [96, 97] [emp, emp] (U := (Option Addr × Nat) × (Option Addr × Nat) × (Option Addr × Nat)) (fun u => (.agg #[(.int .i64 y422.W), (.int .i64 y422.H), (.int .i64 y422.Rail), (.int .i64 y422.Gap), (.slice u.1.1 (y422.Kinds).length u.1.2), (.slice u.2.1.1 (y422.Slots).length u.2.1.2), (.slice u.2.2.1 (y422.Marks).length u.2.2.2)])) (fun O W u => SlF u.1.1 (y422.Kinds).length u.1.2 ∧ Sl O W fl_TSlot u.2.1.1 u.2.1.2 y422.Slots ∧ SlF u.2.2.1 (y422.Marks).length u.2.2.2) (fun u => [ow u.1.1 u.1.2 82 fl_TBoardKind y422.Kinds, ow u.2.2.1 u.2.2.2 32 fl_TPoint y422.Marks]) rfl (pk_cons rfl (pk_cons rfl pk_nil)) (fun _ => rfl) (wn rfl) rfl Try.call75 (evl_cons rfl (evl_cons rfl evl_nil)) (fun W hW hp hE => F_panel_own_ok p0 Ap0_0 cp0_0 (hp0_0.ext (hW.extS hp)) Ap0_1 cp0_1 (hp0_1.ext (hW.extS hp)) Ap0_2 cp0_2 (hp0_2.ext (hW.extS hp)) l419 Al419 cl419 (hz420.extO (hW.extS hp)) y422 hy422 hE) ?_
                      intro w u le423 hu
                      obtain ⟨⟨Ay422_0, cy422_0⟩, ⟨Ay422_1, cy422_1⟩, ⟨Ay422_2, cy422_2⟩⟩ := u
                      obtain ⟨gy422_0, gy422_1, gy422_2⟩ := hu
                      replace hp0_0 := hp0_0.leR le423
                      replace hp0_1 := hp0_1.leR le423
                      replace hp0_2 := hp0_2.leR le423
                      replace hz420 := hz420.le le423
                      replace leB := leB.trans le423
                      replace leF_panel_Added_L1 := leF_panel_Added_L1.trans le423
                      replace leF_panel_Added_L5 := leF_panel_Added_L5.trans le423
                      replace leF_panel_Added_L7 := leF_panel_Added_L7.trans le423
                      replace leF_panel_Added_L8 := leF_panel_Added_L8.trans le423
                      have hgy422_0 : SlF Ay422_0 (y422.Kinds).length cy422_0 := gy422_0 --@phi
                      have hgy422_1 : Sl w.O w.W fl_TSlot Ay422_1 cy422_1 y422.Slots := gy422_1 --@phi
                      have hgy422_2 : SlF Ay422_2 (y422.Marks).length cy422_2 := gy422_2 --@phi
                      show Tr _ _ (uf _ 142 (.agg #[(.int .i64 y422.W), (.int .i64 y422.H), (.int .i64 y422.Rail), (.int .i64 y422.Gap), (.slice Ay422_0 (y422.Kinds).length cy422_0), (.slice Ay422_1 (y422.Slots).length cy422_1), (.slice Ay422_2 (y422.Marks).length cy422_2)])) (up (up _ 97 (ow Ay422_2 cy422_2 32 fl_TPoint y422.Marks)) 96 (ow Ay422_0 cy422_0 82 fl_TBoardKind y422.Kinds)) _
                      refine Tr.store 2 (cs := [(.int .i64 y422.W), (.int .i64 y422.H), (.int .i64 y422.Rail), (.int .i64 y422.Gap), (.slice Ay422_0 (y422.Kinds).length cy422_0), (.slice Ay422_1 (y422.Slots).length cy422_1), (.slice Ay422_2 (y422.Marks).length cy422_2)]) [(.int .i64 y422.W), (.int .i64 y422.H), (.int .i64 y422.Rail), (.int .i64 y422.Gap), (.slice Ay422_0 (y422.Kinds).length cy422_0), (.slice Ay422_1 (y422.Slots).length cy422_1), (.slice Ay422_2 (y422.Marks).length cy422_2)] (wn rfl) rfl rfl rfl rfl sz_26 rfl rfl rfl ?_
                      refine Tr.val (wn rfl) rfl (fun _ _ h1 h2 => run_assign (h1.ev rfl)) ?_
                      refine Tr.val (wn rfl) rfl (fun _ _ h1 h2 => run_assign (h1.ev rfl)) ?_
                      refine Tr.nil (Tr.normThen ?_)
                      refine Tr.ret (Tr.retBlock (Tr.retThen (Tr.retThen (Tr.retBlock (Tr.retBlock (Tr.retThen (Tr.retThen (Tr.retBlock (Tr.retBlock (Tr.retThen (Tr.retThen (Tr.retBlock (Tr.retThen ?_)))))))))))))
                      obtain rfl := Option.some.inj H
                      exact Tr.out (m := [(.agg #[(.int .i64 y422.W), (.int .i64 y422.H), (.int .i64 y422.Rail), (.int .i64 y422.Gap), (.slice Ay422_0 (y422.Kinds).length cy422_0), (.slice Ay422_1 (y422.Slots).length cy422_1), (.slice Ay422_2 (y422.Marks).length cy422_2)]), (.bool true), (.int .i64 0)]) [2] (res_cell rfl rfl ag_26 sz_26 (res_tmp rfl (res_tmp rfl res_nil))) (fun W hW => ⟨w, ((Ay422_0, cy422_0), (Ay422_1, cy422_1), (Ay422_2, cy422_2)), leB, rfl, ⟨hgy422_0, hgy422_1, hgy422_2⟩, hW.pick (ks := [96, 97]) (by decide) (pk_cons rfl (pk_cons rfl pk_nil))⟩)
            · refine Tr.exit (Tr.exitThen (Tr.exitThen (Tr.exitBlock (Tr.normBlock (Tr.normThen ?_)))))
              refine Tr.region ?_
              refine Tr.val (wn rfl) rfl (fun _ _ h1 h2 => run_add (h1.ev rfl) (h1.ev rfl)) ?_
              refine Tr.val (wn rfl) rfl (fun _ _ h1 h2 => run_move (h1.ev rfl)) ?_
              refine Tr.nil ?_
              exact Tr.backThen leF_panel_Added_L7 (restF_panel_Added_L7, (iF_panel_Added_L7 + 1)) ⟨rfl, range_tl hdF_panel_Added_L7, range_lt hdF_panel_Added_L7, H⟩ (.cons rfl (.cons rfl (.cons rfl (.cons rfl (.cons rfl (.cons rfl (.cons rfl (.cons rfl (.cons rfl (.cons rfl (.cons rfl (.cons rfl (.cons (congrArg (fun z => some (Value.int .i64 z)) (range_up hdF_panel_Added_L7 hgy140_0)) .nil))))))))))))) (.cons rfl (.cons rfl (.cons rfl (.cons rfl (.cons rfl .nil)))))
      | cons xF_panel_Added_L1 restF_panel_Added_L1 =>
        rw [F_panel_Added_L1.eq_2] at H
        refine Tr.seq ?_
        refine Tr.region ?_
        refine Tr.val (wn rfl) rfl (fun _ _ h1 h2 => run_lss (h1.ev rfl) (h1.ev rfl)) ?_
        refine Tr.nil (Tr.normThen ?_)
        refine Tr.seq ?_
        refine Tr.condT rfl (range_on hdF_panel_Added_L1) ?_
        refine Tr.skip (Tr.normThen ?_)
        refine Tr.seq ?_
        refine Tr.block ?_
        refine Tr.seq ?_
        refine Tr.region ?_
        refine Tr.val (wn rfl) rfl (fun _ _ h1 h2 => run_indexAddr el_38 (h1.ev rfl) hgy102_0 (h1.ev rfl) (Int.natCast_nonneg _) (range_lt hdF_panel_Added_L1)) ?_
        refine Tr.val (wn rfl) rfl (fun _ _ h1 h2 => run_loadN (cs := [(.int .i64 xF_panel_Added_L1.X0), (.int .i64 xF_panel_Added_L1.Y0), (.int .i64 xF_panel_Added_L1.X1), (.int .i64 xF_panel_Added_L1.Y1)]) ag_42 sz_42 (h1.ev rfl) (CellsAt.take (rdo ef_TRect (k := 3) h2 rfl (range_at hdF_panel_Added_L1)) 4) rfl) ?_
        refine Tr.alloc 98 (wn rfl) rfl ze_42 fun b425 => ?_
        refine Tr.store 98 (cs := [(.int .i64 xF_panel_Added_L1.X0), (.int .i64 xF_panel_Added_L1.Y0), (.int .i64 xF_panel_Added_L1.X1), (.int .i64 xF_panel_Added_L1.Y1)]) [(.int .i64 xF_panel_Added_L1.X0), (.int .i64 xF_panel_Added_L1.Y0), (.int .i64 xF_panel_Added_L1.X1), (.int .i64 xF_panel_Added_L1.Y1)] (wn rfl) rfl rfl rfl rfl sz_42 rfl rfl rfl ?_
        refine Tr.nil (Tr.normThen ?_)
        refine Tr.drawC 15 [(7, (ow Al134 cl134 3 fl_i64 l134).S)] [] (by kernel_rfl) (by kernel_rfl) fun sz426 hlosz426 hEsz426 => ?_
        refine Dr.quiet 0 [(50, (.slice Al134 (l134).length cl134))] (by kernel_rfl) rfl rfl (by kernel_rfl) ?_ rfl rfl ?_
        · refine Tq.val (wn rfl) rfl (fun _ _ h1 h2 => run_move (h1.ev rfl)) ?_
          exact Tq.fin (.cons rfl .nil)
        refine Dr.quietP 1 (by kernel_rfl) rfl (wn rfl) rfl (by kernel_rfl) (fun _ _ h1 => run_fieldAddr fo_42_2 (h1.ev rfl)) rfl ?_
        refine Dr.quietZ 2 [(52, (.int .i64 xF_panel_Added_L1.X1))] [7] false (by kernel_rfl) rfl rfl (by kernel_rfl) (fun W W' h2 hsW hk => HF.keepZ (le := [(98, bx b425 #[(.int .i64 xF_panel_Added_L1.X0), (.int .i64 xF_panel_Added_L1.Y0), (.int .i64 xF_panel_Added_L1.X1), (.int .i64 xF_panel_Added_L1.Y1)] 42)]) (ks := [(20, (ow Al134 cl134 3 fl_i64 l134).S)]) (s0 := sz426) false h2 hk (fun h => absurd h (by decide)) (.cons rfl .nil) (fun b hb => hb.elim (fun ⟨p, hp, hf, hb⟩ => by simp only [List.mem_cons, List.not_mem_nil, or_false] at hp; rcases hp with rfl; exact .inl ⟨_, List.mem_cons_self, hb⟩) (fun hb => absurd hb.1 (by decide))) (List.forall_mem_cons.2 ⟨fun b hb => hb, (fun _ h => nomatch h)⟩) rfl) ?_ rfl rfl ?_
        · refine Tq.val (wn rfl) rfl (fun _ _ h1 h2 => run_load1 ag_3 (h1.ev rfl) (rdb h2 (vs := [(.int .i64 xF_panel_Added_L1.X0), (.int .i64 xF_panel_Added_L1.Y0), (.int .i64 xF_panel_Added_L1.X1), (.int .i64 xF_panel_Added_L1.Y1)]) (k := 98) rfl 2) rfl) ?_
          exact Tq.fin (.cons rfl .nil)
        refine Dr.quietP 3 (by kernel_rfl) rfl (wn rfl) rfl (by kernel_rfl) (fun _ _ h1 => run_fieldAddr fo_26_3 (h1.ev rfl)) rfl ?_
        refine Dr.quietZ 4 [(54, (.int .i64 p0.Gap))] [7] false (by kernel_rfl) rfl rfl (by kernel_rfl) (fun W W' h2 hsW hk => HF.keepZ (le := [(1, bx b100 #[(.int .i64 p0.W), (.int .i64 p0.H), (.int .i64 p0.Rail), (.int .i64 p0.Gap), (.slice Ap0_0 (p0.Kinds).length cp0_0), (.slice Ap0_1 (p0.Slots).length cp0_1), (.slice Ap0_2 (p0.Marks).length cp0_2)] 26)]) (ks := [(20, (ow Al134 cl134 3 fl_i64 l134).S)]) (s0 := sz426) false h2 hk (fun h => absurd h (by decide)) (.cons rfl .nil) (fun b hb => hb.elim (fun ⟨p, hp, hf, hb⟩ => by simp only [List.mem_cons, List.not_mem_nil, or_false] at hp; rcases hp with rfl; exact .inl ⟨_, List.mem_cons_self, hb⟩) (fun hb => absurd hb.1 (by decide))) (List.forall_mem_cons.2 ⟨fun b hb => hb, (fun _ h => nomatch h)⟩) rfl) ?_ rfl rfl ?_
        · refine Tq.val (wn rfl) rfl (fun _ _ h1 h2 => run_load1 ag_3 (h1.ev rfl) (rdb h2 (vs := [(.int .i64 p0.W), (.int .i64 p0.H), (.int .i64 p0.Rail), (.int .i64 p0.Gap), (.slice Ap0_0 (p0.Kinds).length cp0_0), (.slice Ap0_1 (p0.Slots).length cp0_1), (.slice Ap0_2 (p0.Marks).length cp0_2)]) (k := 1) rfl 3) rfl) ?_
          exact Tq.fin (.cons rfl .nil)
        refine Dr.quietP 5 (by kernel_rfl) rfl (wn rfl) rfl (by kernel_rfl) (fun _ _ h1 => run_add (h1.ev rfl) (h1.ev rfl)) rfl ?_
        refine Dr.quietP 8 (by kernel_rfl) rfl (wn rfl) rfl (by kernel_rfl) (fun _ _ h1 => run_move (h1.ev rfl)) rfl ?_
        refine Dr.quietP 9 (by kernel_rfl) rfl (wn rfl) rfl (by kernel_rfl) (fun _ _ h1 => run_fieldAddr fo_42_3 (h1.ev rfl)) rfl ?_
        refine Dr.quietZ 10 [(60, (.int .i64 xF_panel_Added_L1.Y1))] [7] false (by kernel_rfl) rfl rfl (by kernel_rfl) (fun W W' h2 hsW hk => HF.keepZ (le := [(98, bx b425 #[(.int .i64 xF_panel_Added_L1.X0), (.int .i64 xF_panel_Added_L1.Y0), (.int .i64 xF_panel_Added_L1.X1), (.int .i64 xF_panel_Added_L1.Y1)] 42)]) (ks := [(20, (ow Al134 cl134 3 fl_i64 l134).S)]) (s0 := sz426) false h2 hk (fun h => absurd h (by decide)) (.cons rfl .nil) (fun b hb => hb.elim (fun ⟨p, hp, hf, hb⟩ => by simp only [List.mem_cons, List.not_mem_nil, or_false] at hp; rcases hp with rfl; exact .inl ⟨_, List.mem_cons_self, hb⟩) (fun hb => absurd hb.1 (by decide))) (List.forall_mem_cons.2 ⟨fun b hb => hb, (fun _ h => nomatch h)⟩) rfl) ?_ rfl rfl ?_
        · refine Tq.val (wn rfl) rfl (fun _ _ h1 h2 => run_load1 ag_3 (h1.ev rfl) (rdb h2 (vs := [(.int .i64 xF_panel_Added_L1.X0), (.int .i64 xF_panel_Added_L1.Y0), (.int .i64 xF_panel_Added_L1.X1), (.int .i64 xF_panel_Added_L1.Y1)]) (k := 98) rfl 3) rfl) ?_
          exact Tq.fin (.cons rfl .nil)
        refine Dr.quietP 11 (by kernel_rfl) rfl (wn rfl) rfl (by kernel_rfl) (fun _ _ h1 => run_fieldAddr fo_26_3 (h1.ev rfl)) rfl ?_
        refine Dr.quietZ 12 [(62, (.int .i64 p0.Gap))] [7] false (by kernel_rfl) rfl rfl (by kernel_rfl) (fun W W' h2 hsW hk => HF.keepZ (le := [(1, bx b100 #[(.int .i64 p0.W), (.int .i64 p0.H), (.int .i64 p0.Rail), (.int .i64 p0.Gap), (.slice Ap0_0 (p0.Kinds).length cp0_0), (.slice Ap0_1 (p0.Slots).length cp0_1), (.slice Ap0_2 (p0.Marks).length cp0_2)] 26)]) (ks := [(20, (ow Al134 cl134 3 fl_i64 l134).S)]) (s0 := sz426) false h2 hk (fun h => absurd h (by decide)) (.cons rfl .nil) (fun b hb => hb.elim (fun ⟨p, hp, hf, hb⟩ => by simp only [List.mem_cons, List.not_mem_nil, or_false] at hp; rcases hp with rfl; exact .inl ⟨_, List.mem_cons_self, hb⟩) (fun hb => absurd hb.1 (by decide))) (List.forall_mem_cons.2 ⟨fun b hb => hb, (fun _ h => nomatch h)⟩) rfl) ?_ rfl rfl ?_
        · refine Tq.val (wn rfl) rfl (fun _ _ h1 h2 => run_load1 ag_3 (h1.ev rfl) (rdb h2 (vs := [(.int .i64 p0.W), (.int .i64 p0.H), (.int .i64 p0.Rail), (.int .i64 p0.Gap), (.slice Ap0_0 (p0.Kinds).length cp0_0), (.slice Ap0_1 (p0.Slots).length cp0_1), (.slice Ap0_2 (p0.Marks).length cp0_2)]) (k := 1) rfl 3) rfl) ?_
          exact Tq.fin (.cons rfl .nil)
        refine Dr.quietP 13 (by kernel_rfl) rfl (wn rfl) rfl (by kernel_rfl) (fun _ _ h1 => run_add (h1.ev rfl) (h1.ev rfl)) rfl ?_
        obtain ⟨l428, hl428, H⟩ := bnd H
        refine Dr.cut (U := Nat × Option Addr × Nat × Nat) [6, 7, 14] 0 (fun u => sz426 ≤ u.1 ∧ SlF u.2.1 l428.length u.2.2.1 ∧ sz426 ≤ u.2.2.2) (fun u => [(1, (.string p1)), (2, (.pointer (some ⟨b100, 0, none⟩))), (4, (.pointer (some ⟨b101, 0, none⟩))), (7, (.slice Ay102_0 (y102.1).length cy102_0)), (9, (.int .i64 y104)), (11, (.slice Al135 (l135).length cl135)), (13, (.pointer (some ⟨b425, 0, none⟩))), (44, (.slice Ay102_0 (y102.1).length cy102_0)), (45, (.int .i64 (y102.1.length : Int))), (46, (.int .i64 (iF_panel_Added_L1 : Int))), (47, (.bool (decide ((iF_panel_Added_L1 : Int) < (y102.1.length : Int))))), (48, (.pointer (some ⟨adB Ay102_0, adO Ay102_0 + ((iF_panel_Added_L1 : Int)).toNat * 4, none⟩))), (49, (.agg #[(.int .i64 xF_panel_Added_L1.X0), (.int .i64 xF_panel_Added_L1.Y0), (.int .i64 xF_panel_Added_L1.X1), (.int .i64 xF_panel_Added_L1.Y1)])), (51, (.pointer (some ⟨b425, 2, none⟩))), (52, (.int .i64 xF_panel_Added_L1.X1)), (53, (.pointer (some ⟨b100, 3, none⟩))), (54, (.int .i64 p0.Gap)), (55, (.int .i64 (w64 (xF_panel_Added_L1.X1 + p0.Gap)))), (57, (.slice u.2.1 (l428).length u.2.2.1)), (58, (.slice Al135 (l135).length cl135)), (59, (.pointer (some ⟨b425, 3, none⟩))), (60, (.int .i64 xF_panel_Added_L1.Y1)), (61, (.pointer (some ⟨b100, 3, none⟩))), (62, (.int .i64 p0.Gap)), (63, (.int .i64 (w64 (xF_panel_Added_L1.Y1 + p0.Gap)))), (64, (.slice (some ⟨u.2.2.2, 0, none⟩) 1 1))]) (fun u => [(1, bx b100 #[(.int .i64 p0.W), (.int .i64 p0.H), (.int .i64 p0.Rail), (.int .i64 p0.Gap), (.slice Ap0_0 (p0.Kinds).length cp0_0), (.slice Ap0_1 (p0.Slots).length cp0_1), (.slice Ap0_2 (p0.Marks).length cp0_2)] 26), (2, bx b101 #[(.int .i64 0), (.int .i64 0), (.int .i64 0), (.int .i64 0), (.slice none 0 0), (.slice none 0 0), (.slice none 0 0)] 26), (3, ow Ay102_0 cy102_0 42 fl_TRect y102.1), (9, ow Al135 cl135 3 fl_i64 l135), (20, ow u.2.1 u.2.2.1 3 fl_i64 l428), (98, bx b425 #[(.int .i64 xF_panel_Added_L1.X0), (.int .i64 xF_panel_Added_L1.Y0), (.int .i64 xF_panel_Added_L1.X1), (.int .i64 xF_panel_Added_L1.Y1)] 42), (100, bx u.2.2.2 #[(.int .i64 (w64 (xF_panel_Added_L1.Y1 + p0.Gap)))] 3)]) ?_ ?_
        · intro hC
          refine Dr.pair 6 14 (by kernel_rfl) ?_ ?_
          · refine St.buildSlice 6 99 (e := 3) (vs := [(0, (.int .i64 (w64 (xF_panel_Added_L1.X1 + p0.Gap))))]) (cs := [(.int .i64 (w64 (xF_panel_Added_L1.X1 + p0.Gap)))]) rfl (wn rfl) rfl (evs_cons rfl evs_nil) (by kernel_rfl) fun b427 hb427 => ?_
            refine Dr.pair 7 14 (by kernel_rfl) ?_ ?_
            · refine St.append 7 20 (t' := fl_i64) (ll := l134) (l2 := [(w64 (xF_panel_Added_L1.X1 + p0.Gap))]) (fun b hb => .inl ⟨_, List.mem_cons_self, rfl, hb⟩) rfl (wn rfl) rfl rfl rfl rfl (fun W hW => ⟨[[(.int .i64 (w64 (xF_panel_Added_L1.X1 + p0.Gap)))]], (.cons ⟨(), trivial, rfl⟩ .nil), rdb hW (vs := [(.int .i64 (w64 (xF_panel_Added_L1.X1 + p0.Gap)))]) (k := 99) rfl 0⟩) un_63 sz_3 zl_3 (by decide) by_3 rfl hl428 fun Al428 cl428 hAl428 => ?_
              refine Dr.one 14 (by kernel_rfl) ?_
              refine St.buildSlice 14 100 (e := 3) (vs := [(0, (.int .i64 (w64 (xF_panel_Added_L1.Y1 + p0.Gap))))]) (cs := [(.int .i64 (w64 (xF_panel_Added_L1.Y1 + p0.Gap)))]) rfl (wn rfl) rfl (evs_cons rfl evs_nil) (by kernel_rfl) fun b429 hb429 => ?_
              exact (hC ⟨b427, Al428, cl428, b429⟩ ⟨hb427, hAl428, hb429⟩).use (by kernel_rfl) (.cons rfl (.cons rfl (.cons rfl (.cons rfl (.cons rfl (.cons rfl (.cons rfl (.cons rfl (.cons rfl (.cons rfl (.cons rfl (.cons rfl (.cons rfl (.cons rfl (.cons rfl (.cons rfl (.cons rfl (.cons rfl (.cons rfl (.cons rfl (.cons rfl (.cons rfl (.cons rfl (.cons rfl (.cons rfl (.cons rfl .nil)))))))))))))))))))))))))) (.cons rfl (.cons rfl (.cons rfl (.cons rfl (.cons rfl (.cons rfl (.cons rfl .nil)))))))
            · refine St.buildSlice 14 100 (e := 3) (vs := [(0, (.int .i64 (w64 (xF_panel_Added_L1.Y1 + p0.Gap))))]) (cs := [(.int .i64 (w64 (xF_panel_Added_L1.Y1 + p0.Gap)))]) rfl (wn rfl) rfl (evs_cons rfl evs_nil) (by kernel_rfl) fun b429 hb429 => ?_
              refine Dr.one 7 (by kernel_rfl) ?_
              refine St.append 7 20 (t' := fl_i64) (ll := l134) (l2 := [(w64 (xF_panel_Added_L1.X1 + p0.Gap))]) (fun b hb => .inl ⟨_, List.mem_cons_self, rfl, hb⟩) rfl (wn rfl) rfl rfl rfl rfl (fun W hW => ⟨[[(.int .i64 (w64 (xF_panel_Added_L1.X1 + p0.Gap)))]], (.cons ⟨(), trivial, rfl⟩ .nil), rdb hW (vs := [(.int .i64 (w64 (xF_panel_Added_L1.X1 + p0.Gap)))]) (k := 99) rfl 0⟩) un_63 sz_3 zl_3 (by decide) by_3 rfl hl428 fun Al428 cl428 hAl428 => ?_
              exact (hC ⟨b427, Al428, cl428, b429⟩ ⟨hb427, hAl428, hb429⟩).use (by kernel_rfl) (.cons rfl (.cons rfl (.cons rfl (.cons rfl (.cons rfl (.cons rfl (.cons rfl (.cons rfl (.cons rfl (.cons rfl (.cons rfl (.cons rfl (.cons rfl (.cons rfl (.cons rfl (.cons rfl (.cons rfl (.cons rfl (.cons rfl (.cons rfl (.cons rfl (.cons rfl (.cons rfl (.cons rfl (.cons rfl (.cons rfl .nil)))))))))))))))))))))))))) (.cons rfl (.cons rfl (.cons rfl (.cons rfl (.cons rfl (.cons rfl (.cons rfl .nil)))))))
          · refine St.buildSlice 14 100 (e := 3) (vs := [(0, (.int .i64 (w64 (xF_panel_Added_L1.Y1 + p0.Gap))))]) (cs := [(.int .i64 (w64 (xF_panel_Added_L1.Y1 + p0.Gap)))]) rfl (wn rfl) rfl (evs_cons rfl evs_nil) (by kernel_rfl) fun b429 hb429 => ?_
            refine Dr.one 6 (by kernel_rfl) ?_
            refine St.buildSlice 6 99 (e := 3) (vs := [(0, (.int .i64 (w64 (xF_panel_Added_L1.X1 + p0.Gap))))]) (cs := [(.int .i64 (w64 (xF_panel_Added_L1.X1 + p0.Gap)))]) rfl (wn rfl) rfl (evs_cons rfl evs_nil) (by kernel_rfl) fun b427 hb427 => ?_
            refine Dr.one 7 (by kernel_rfl) ?_
            refine St.append 7 20 (t' := fl_i64) (ll := l134) (l2 := [(w64 (xF_panel_Added_L1.X1 + p0.Gap))]) (fun b hb => .inl ⟨_, List.mem_cons_self, rfl, hb⟩) rfl (wn rfl) rfl rfl rfl rfl (fun W hW => ⟨[[(.int .i64 (w64 (xF_panel_Added_L1.X1 + p0.Gap)))]], (.cons ⟨(), trivial, rfl⟩ .nil), rdb hW (vs := [(.int .i64 (w64 (xF_panel_Added_L1.X1 + p0.Gap)))]) (k := 99) rfl 0⟩) un_63 sz_3 zl_3 (by decide) by_3 rfl hl428 fun Al428 cl428 hAl428 => ?_
            exact (hC ⟨b427, Al428, cl428, b429⟩ ⟨hb427, hAl428, hb429⟩).use (by kernel_rfl) (.cons rfl (.cons rfl (.cons rfl (.cons rfl (.cons rfl (.cons rfl (.cons rfl (.cons rfl (.cons rfl (.cons rfl (.cons rfl (.cons rfl (.cons rfl (.cons rfl (.cons rfl (.cons rfl (.cons rfl (.cons rfl (.cons rfl (.cons rfl (.cons rfl (.cons rfl (.cons rfl (.cons rfl (.cons rfl (.cons rfl .nil)))))))))))))))))))))))))) (.cons rfl (.cons rfl (.cons rfl (.cons rfl (.cons rfl (.cons rfl (.cons rfl .nil)))))))
        intro u hu
        obtain ⟨b427, Al428, cl428, b429⟩ := u
        obtain ⟨hb427, hAl428, hb429⟩ := hu
        replace hb427 : sz426 ≤ b427 := hb427
        replace hAl428 : SlF Al428 l428.length cl428 := hAl428
        replace hb429 : sz426 ≤ b429 := hb429
        show Dr _ _ _ _ _ _ _ _ _ (LF [(1, (.string p1)), (2, (.pointer (some ⟨b100, 0, none⟩))), (4, (.pointer (some ⟨b101, 0, none⟩))), (7, (.slice Ay102_0 (y102.1).length cy102_0)), (9, (.int .i64 y104)), (11, (.slice Al135 (l135).length cl135)), (13, (.pointer (some ⟨b425, 0, none⟩))), (44, (.slice Ay102_0 (y102.1).length cy102_0)), (45, (.int .i64 (y102.1.length : Int))), (46, (.int .i64 (iF_panel_Added_L1 : Int))), (47, (.bool (decide ((iF_panel_Added_L1 : Int) < (y102.1.length : Int))))), (48, (.pointer (some ⟨adB Ay102_0, adO Ay102_0 + ((iF_panel_Added_L1 : Int)).toNat * 4, none⟩))), (49, (.agg #[(.int .i64 xF_panel_Added_L1.X0), (.int .i64 xF_panel_Added_L1.Y0), (.int .i64 xF_panel_Added_L1.X1), (.int .i64 xF_panel_Added_L1.Y1)])), (51, (.pointer (some ⟨b425, 2, none⟩))), (52, (.int .i64 xF_panel_Added_L1.X1)), (53, (.pointer (some ⟨b100, 3, none⟩))), (54, (.int .i64 p0.Gap)), (55, (.int .i64 (w64 (xF_panel_Added_L1.X1 + p0.Gap)))), (57, (.slice Al428 (l428).length cl428)), (58, (.slice Al135 (l135).length cl135)), (59, (.pointer (some ⟨b425, 3, none⟩))), (60, (.int .i64 xF_panel_Added_L1.Y1)), (61, (.pointer (some ⟨b100, 3, none⟩))), (62, (.int .i64 p0.Gap)), (63, (.int .i64 (w64 (xF_panel_Added_L1.Y1 + p0.Gap)))), (64, (.slice (some ⟨b429, 0, none⟩) 1 1))]) (LE [(1, bx b100 #[(.int .i64 p0.W), (.int .i64 p0.H), (.int .i64 p0.Rail), (.int .i64 p0.Gap), (.slice Ap0_0 (p0.Kinds).length cp0_0), (.slice Ap0_1 (p0.Slots).length cp0_1), (.slice Ap0_2 (p0.Marks).length cp0_2)] 26), (2, bx b101 #[(.int .i64 0), (.int .i64 0), (.int .i64 0), (.int .i64 0), (.slice none 0 0), (.slice none 0 0), (.slice none 0 0)] 26), (3, ow Ay102_0 cy102_0 42 fl_TRect y102.1), (9, ow Al135 cl135 3 fl_i64 l135), (20, ow Al428 cl428 3 fl_i64 l428), (98, bx b425 #[(.int .i64 xF_panel_Added_L1.X0), (.int .i64 xF_panel_Added_L1.Y0), (.int .i64 xF_panel_Added_L1.X1), (.int .i64 xF_panel_Added_L1.Y1)] 42), (100, bx b429 #[(.int .i64 (w64 (xF_panel_Added_L1.Y1 + p0.Gap)))] 3)])
        refine Dr.tail (by kernel_rfl) ?_
        obtain ⟨l430, hl430, H⟩ := bnd H
        refine Tr.append 9 (t := fl_i64) (l := l135) (l2 := [(w64 (xF_panel_Added_L1.Y1 + p0.Gap))]) (wn rfl) rfl rfl rfl rfl (fun W hW => ⟨[[(.int .i64 (w64 (xF_panel_Added_L1.Y1 + p0.Gap)))]], (.cons ⟨(), trivial, rfl⟩ .nil), rdb hW (vs := [(.int .i64 (w64 (xF_panel_Added_L1.Y1 + p0.Gap)))]) (k := 100) rfl 0⟩) un_63 sz_3 zl_3 (by decide) by_3 rfl hl430 fun Al430 cl430 hAl430 => ?_
        refine Tr.val (wn rfl) rfl (fun _ _ h1 h2 => run_assign (h1.ev rfl)) ?_
        refine Tr.val (wn rfl) rfl (fun _ _ h1 h2 => run_assign (h1.ev rfl)) ?_
        refine Tr.nil (Tr.normBlock (Tr.normThen ?_))
        refine Tr.region ?_
        refine Tr.val (wn rfl) rfl (fun _ _ h1 h2 => run_add (h1.ev rfl) (h1.ev rfl)) ?_
        refine Tr.val (wn rfl) rfl (fun _ _ h1 h2 => run_move (h1.ev rfl)) ?_
        refine Tr.nil ?_
        exact Tr.backThen leF_panel_Added_L1 (restF_panel_Added_L1, (iF_panel_Added_L1 + 1), l428, l430, Al428, cl428, Al430, cl430) ⟨rfl, range_tl hdF_panel_Added_L1, range_lt hdF_panel_Added_L1, H, hAl428, hAl430⟩ (.cons rfl (.cons rfl (.cons rfl (.cons rfl (.cons rfl (.cons rfl (.cons rfl (.cons rfl (.cons rfl (.cons (congrArg (fun z => some (Value.int .i64 z)) (range_up hdF_panel_Added_L1 hgy102_0)) .nil)))))))))) (.cons rfl (.cons rfl (.cons rfl (.cons rfl (.cons rfl .nil)))))

theorem F_shape_AreaOf_ok {w : Bs} (p0 : (List TRect)) (Ap0_0 : Option Addr) (cp0_0 : Nat) (hp0_0 : Sl w.R w.W fl_TRect Ap0_0 cp0_0 p0) (r : Int) (H : F_shape_AreaOf p0 = some r) (hE : HF w w.W E0) : Calls Try.prog 88 [(.slice Ap0_0 (p0).length cp0_0)].toArray w.W fun e W' => e = .returned (.int .i64 r) ∧ HF w W' E0 := by
  unfold F_shape_AreaOf at H
  have leB := Bs.Le.refl w
  refine Tr.enter (n := 27) Try.func88 rfl rfl rfl hE ?_
  refine Tr.seq ?_
  refine Tr.region ?_
  refine Tr.val (wn rfl) rfl (fun _ _ h1 h2 => run_assign (h1.ev rfl)) ?_
  refine Tr.nil (Tr.normThen ?_)
  refine Tr.seq ?_
  refine Tr.region ?_
  refine Tr.val (wn rfl) rfl (fun _ _ h1 h2 => run_assign (h1.ev rfl)) ?_
  refine Tr.nil (Tr.normThen ?_)
  refine Tr.seq ?_
  refine Tr.seq ?_
  refine Tr.region ?_
  refine Tr.val (wn rfl) rfl (fun _ _ h1 h2 => run_move (h1.ev rfl)) ?_
  refine Tr.val (wn rfl) rfl (fun _ _ h1 h2 => run_len un_38 (h1.ev rfl)) ?_
  refine Tr.val (wn rfl) rfl (fun _ _ h1 h2 => run_move (h1.ev rfl)) ?_
  refine Tr.nil (Tr.normThen ?_)
  refine Tr.block ?_
  refine Tr.loop (σ := (List TRect) × Nat × Int) (fun m w s => m = s.1.length + 1 ∧ s.1 = List.drop s.2.1 p0 ∧ s.2.1 ≤ p0.length ∧ F_shape_AreaOf_L1 s.1 s.2.1 s.2.2 = some r) (fun s => [(3, (.int .i64 s.2.2)), (6, (.slice Ap0_0 (p0).length cp0_0)), (7, (.int .i64 (p0.length : Int))), (8, (.int .i64 (s.2.1 : Int)))]) (fun s => []) (p0.length + 1) (p0, 0, 0) ⟨rfl, rfl, Nat.zero_le _, H⟩ (.cons rfl (.cons rfl (.cons rfl (.cons rfl .nil)))) .nil (fun _ _ h => absurd h.1 (by simp)) ?_
  intro w leF_shape_AreaOf_L1 m s hs
  obtain ⟨restF_shape_AreaOf_L1, iF_shape_AreaOf_L1, x110⟩ := s
  obtain ⟨hmF_shape_AreaOf_L1, hdF_shape_AreaOf_L1, hiF_shape_AreaOf_L1, H⟩ := hs
  replace hdF_shape_AreaOf_L1 : restF_shape_AreaOf_L1 = List.drop iF_shape_AreaOf_L1 p0 := hdF_shape_AreaOf_L1
  replace H : F_shape_AreaOf_L1 restF_shape_AreaOf_L1 iF_shape_AreaOf_L1 x110 = some r := H
  replace hmF_shape_AreaOf_L1 : m + 1 = restF_shape_AreaOf_L1.length + 1 := hmF_shape_AreaOf_L1
  replace hp0_0 := hp0_0.leR leF_shape_AreaOf_L1
  replace leB := leB.trans leF_shape_AreaOf_L1
  obtain rfl : m = restF_shape_AreaOf_L1.length := by omega
  clear hmF_shape_AreaOf_L1
  show Tr _ _ (LF [(3, (.int .i64 x110)), (6, (.slice Ap0_0 (p0).length cp0_0)), (7, (.int .i64 (p0.length : Int))), (8, (.int .i64 (iF_shape_AreaOf_L1 : Int)))]) (LE []) _
  cases restF_shape_AreaOf_L1 with
  | nil =>
    rw [F_shape_AreaOf_L1.eq_1] at H
    refine Tr.seq ?_
    refine Tr.region ?_
    refine Tr.val (wn rfl) rfl (fun _ _ h1 h2 => run_lss (h1.ev rfl) (h1.ev rfl)) ?_
    refine Tr.nil (Tr.normThen ?_)
    refine Tr.seq ?_
    refine Tr.condF rfl (range_nil hdF_shape_AreaOf_L1) ?_
    refine Tr.exit (Tr.exitThen (Tr.exitThen (Tr.exitBlock (Tr.normThen ?_))))
    refine Tr.seq ?_
    refine Tr.region ?_
    refine Tr.val (wn rfl) rfl (fun _ _ h1 h2 => run_move (h1.ev rfl)) ?_
    refine Tr.val (wn rfl) rfl (fun _ _ h1 h2 => run_assign (h1.ev rfl)) ?_
    refine Tr.nil (Tr.normThen ?_)
    refine Tr.ret ?_
    obtain rfl := Option.some.inj H
    exact Tr.out (m := [(.int .i64 x110)]) [] (res_tmp rfl res_nil) (fun W hW => ⟨rfl, hW.low leB⟩)
  | cons xF_shape_AreaOf_L1 restF_shape_AreaOf_L1 =>
    rw [F_shape_AreaOf_L1.eq_2] at H
    refine Tr.seq ?_
    refine Tr.region ?_
    refine Tr.val (wn rfl) rfl (fun _ _ h1 h2 => run_lss (h1.ev rfl) (h1.ev rfl)) ?_
    refine Tr.nil (Tr.normThen ?_)
    refine Tr.seq ?_
    refine Tr.condT rfl (range_on hdF_shape_AreaOf_L1) ?_
    refine Tr.skip (Tr.normThen ?_)
    refine Tr.seq ?_
    refine Tr.block ?_
    refine Tr.seq ?_
    refine Tr.region ?_
    refine Tr.val (wn rfl) rfl (fun _ _ h1 h2 => run_indexAddr el_38 (h1.ev rfl) hp0_0.form (h1.ev rfl) (Int.natCast_nonneg _) (range_lt hdF_shape_AreaOf_L1)) ?_
    refine Tr.val (wn rfl) rfl (fun _ _ h1 h2 => run_loadN (cs := [(.int .i64 xF_shape_AreaOf_L1.X0), (.int .i64 xF_shape_AreaOf_L1.Y0), (.int .i64 xF_shape_AreaOf_L1.X1), (.int .i64 xF_shape_AreaOf_L1.Y1)]) ag_42 sz_42 (h1.ev rfl) (CellsAt.take (rdF ef_TRect hp0_0 (range_at hdF_shape_AreaOf_L1) h2) 4) rfl) ?_
    refine Tr.alloc 3 (wn rfl) rfl ze_42 fun b111 => ?_
    refine Tr.store 3 (cs := [(.int .i64 xF_shape_AreaOf_L1.X0), (.int .i64 xF_shape_AreaOf_L1.Y0), (.int .i64 xF_shape_AreaOf_L1.X1), (.int .i64 xF_shape_AreaOf_L1.Y1)]) [(.int .i64 xF_shape_AreaOf_L1.X0), (.int .i64 xF_shape_AreaOf_L1.Y0), (.int .i64 xF_shape_AreaOf_L1.X1), (.int .i64 xF_shape_AreaOf_L1.Y1)] (wn rfl) rfl rfl rfl rfl sz_42 rfl rfl rfl ?_
    refine Tr.nil (Tr.normThen ?_)
    refine Tr.region ?_
    refine Tr.val (wn rfl) rfl (fun _ _ h1 h2 => run_move (h1.ev rfl)) ?_
    refine Tr.val (wn rfl) rfl (fun _ _ h1 h2 => run_fieldAddr fo_42_2 (h1.ev rfl)) ?_
    refine Tr.val (wn rfl) rfl (fun _ _ h1 h2 => run_load1 ag_3 (h1.ev rfl) (rdb h2 (vs := [(.int .i64 xF_shape_AreaOf_L1.X0), (.int .i64 xF_shape_AreaOf_L1.Y0), (.int .i64 xF_shape_AreaOf_L1.X1), (.int .i64 xF_shape_AreaOf_L1.Y1)]) (k := 3) rfl 2) rfl) ?_
    refine Tr.val (wn rfl) rfl (fun _ _ h1 h2 => run_fieldAddr fo_42_0 (h1.ev rfl)) ?_
    refine Tr.val (wn rfl) rfl (fun _ _ h1 h2 => run_load1 ag_3 (h1.ev rfl) (rdb h2 (vs := [(.int .i64 xF_shape_AreaOf_L1.X0), (.int .i64 xF_shape_AreaOf_L1.Y0), (.int .i64 xF_shape_AreaOf_L1.X1), (.int .i64 xF_shape_AreaOf_L1.Y1)]) (k := 3) rfl 0) rfl) ?_
    refine Tr.val (wn rfl) rfl (fun _ _ h1 h2 => run_sub (h1.ev rfl) (h1.ev rfl)) ?_
    refine Tr.val (wn rfl) rfl (fun _ _ h1 h2 => run_fieldAddr fo_42_3 (h1.ev rfl)) ?_
    refine Tr.val (wn rfl) rfl (fun _ _ h1 h2 => run_load1 ag_3 (h1.ev rfl) (rdb h2 (vs := [(.int .i64 xF_shape_AreaOf_L1.X0), (.int .i64 xF_shape_AreaOf_L1.Y0), (.int .i64 xF_shape_AreaOf_L1.X1), (.int .i64 xF_shape_AreaOf_L1.Y1)]) (k := 3) rfl 3) rfl) ?_
    refine Tr.val (wn rfl) rfl (fun _ _ h1 h2 => run_fieldAddr fo_42_1 (h1.ev rfl)) ?_
    refine Tr.val (wn rfl) rfl (fun _ _ h1 h2 => run_load1 ag_3 (h1.ev rfl) (rdb h2 (vs := [(.int .i64 xF_shape_AreaOf_L1.X0), (.int .i64 xF_shape_AreaOf_L1.Y0), (.int .i64 xF_shape_AreaOf_L1.X1), (.int .i64 xF_shape_AreaOf_L1.Y1)]) (k := 3) rfl 1) rfl) ?_
    refine Tr.val (wn rfl) rfl (fun _ _ h1 h2 => run_sub (h1.ev rfl) (h1.ev rfl)) ?_
    refine Tr.val (wn rfl) rfl (fun _ _ h1 h2 => run_mul (h1.ev rfl) (h1.ev rfl)) ?_
    refine Tr.val (wn rfl) rfl (fun _ _ h1 h2 => run_add (h1.ev rfl) (h1.ev rfl)) ?_
    refine Tr.val (wn rfl) rfl (fun _ _ h1 h2 => run_assign (h1.ev rfl)) ?_
    refine Tr.nil (Tr.normBlock (Tr.normThen ?_))
    refine Tr.region ?_
    refine Tr.val (wn rfl) rfl (fun _ _ h1 h2 => run_add (h1.ev rfl) (h1.ev rfl)) ?_
    refine Tr.val (wn rfl) rfl (fun _ _ h1 h2 => run_move (h1.ev rfl)) ?_
    refine Tr.nil ?_
    exact Tr.backThen leF_shape_AreaOf_L1 (restF_shape_AreaOf_L1, (iF_shape_AreaOf_L1 + 1), (w64 (x110 + (w64 ((w64 (xF_shape_AreaOf_L1.X1 - xF_shape_AreaOf_L1.X0)) * (w64 (xF_shape_AreaOf_L1.Y1 - xF_shape_AreaOf_L1.Y0))))))) ⟨rfl, range_tl hdF_shape_AreaOf_L1, range_lt hdF_shape_AreaOf_L1, H⟩ (.cons rfl (.cons rfl (.cons rfl (.cons (congrArg (fun z => some (Value.int .i64 z)) (range_up hdF_shape_AreaOf_L1 hp0_0.form)) .nil)))) .nil

theorem F_panel_Lowest_ok (N : Nat) {w : Bs} (p0 : Int) (p1 : Int) (r : TShare) (H : F_panel_Lowest N p0 p1 = some r) (hE : HF w w.W E0) : Calls Try.prog 87 [(.int .i64 p0), (.int .i64 p1)].toArray w.W fun e W' => e = .returned (.agg #[(.int .i64 r.Num), (.int .i64 r.Den)]) ∧ HF w W' E0 := by
  unfold F_panel_Lowest at H
  have leB := Bs.Le.refl w
  refine Tr.enter (n := 22) Try.func87 rfl rfl rfl hE ?_
  refine Tr.seq ?_
  refine Tr.region ?_
  refine Tr.alloc 1 (wn rfl) rfl ze_70 fun b100 => ?_
  refine Tr.nil (Tr.normThen ?_)
  refine Tr.seq ?_
  refine Tr.region ?_
  refine Tr.val (wn rfl) rfl (fun _ _ h1 h2 => run_move (h1.ev rfl)) ?_
  refine Tr.val (wn rfl) rfl (fun _ _ h1 h2 => run_move (h1.ev rfl)) ?_
  refine Tr.val (wn rfl) rfl (fun _ _ h1 h2 => run_assign (h1.ev rfl)) ?_
  refine Tr.val (wn rfl) rfl (fun _ _ h1 h2 => run_assign (h1.ev rfl)) ?_
  refine Tr.nil (Tr.normThen ?_)
  refine Tr.seq ?_
  refine Tr.block ?_
  refine Tr.loop (σ := Int × Int) (fun m w s => F_panel_Lowest_L1 p0 p1 m s.1 s.2 = some r) (fun s => [(0, (.int .i64 p0)), (1, (.int .i64 p1)), (4, (.pointer (some ⟨b100, 0, none⟩))), (5, (.int .i64 s.1)), (6, (.int .i64 s.2))]) (fun s => [(1, bx b100 #[(.int .i64 0), (.int .i64 0)] 70)]) N (p0, p1) H (.cons rfl (.cons rfl (.cons rfl (.cons rfl (.cons rfl .nil))))) (.cons rfl .nil) (fun _ _ h => noSome (h)) ?_
  intro w leF_panel_Lowest_L1 mF_panel_Lowest_L1 s hs
  obtain ⟨x109, x110⟩ := s
  have H := hs
  replace H : F_panel_Lowest_L1 p0 p1 (mF_panel_Lowest_L1 + 1) x109 x110 = some r := H
  replace leB := leB.trans leF_panel_Lowest_L1
  rw [F_panel_Lowest_L1.eq_2] at H
  show Tr _ _ (LF [(0, (.int .i64 p0)), (1, (.int .i64 p1)), (4, (.pointer (some ⟨b100, 0, none⟩))), (5, (.int .i64 x109)), (6, (.int .i64 x110))]) (LE [(1, bx b100 #[(.int .i64 0), (.int .i64 0)] 70)]) _
  refine Tr.seq ?_
  refine Tr.seq ?_
  refine Tr.region ?_
  refine Tr.val (wn rfl) rfl (fun _ _ h1 h2 => run_move (h1.ev rfl)) ?_
  refine Tr.val (wn rfl) rfl (fun _ _ h1 h2 => run_neq (h1.ev rfl) (h1.ev rfl)) ?_
  refine Tr.nil (Tr.normThen ?_)
  refine Tr.cond rfl H (fun H => ?_) (fun H => ?_)
  · refine Tr.skip (Tr.normThen ?_)
    refine Tr.block ?_
    refine Tr.draw (by kernel_rfl) (by kernel_rfl) ?_
    refine Tq.val (wn rfl) rfl (fun _ _ h1 h2 => run_move (h1.ev rfl)) ?_
    refine Tq.val (wn rfl) rfl (fun _ _ h1 h2 => run_move (h1.ev rfl)) ?_
    refine Tq.val (wn rfl) rfl (fun _ _ h1 h2 => run_move (h1.ev rfl)) ?_
    obtain ⟨q111, hq111, H⟩ := bnd H
    refine Tq.val (wn rfl) rfl (fun _ _ h1 h2 => run_md (h1.ev rfl) (h1.ev rfl) hq111) ?_
    refine Tq.val (wn rfl) rfl (fun _ _ h1 h2 => run_assign (h1.ev rfl)) ?_
    refine Tq.val (wn rfl) rfl (fun _ _ h1 h2 => run_assign (h1.ev rfl)) ?_
    refine Tq.nil (Tr.normBlock ?_)
    exact Tr.backThen leF_panel_Lowest_L1 (x110, q111) H (.cons rfl (.cons rfl (.cons rfl (.cons rfl (.cons rfl .nil))))) (.cons rfl .nil)
  · refine Tr.exit (Tr.exitThen (Tr.exitThen (Tr.exitBlock (Tr.normThen ?_))))
    refine Tr.seq ?_
    refine Tr.drawTail 6 (by kernel_rfl) (by kernel_rfl) ?_
    refine Tq.val (wn rfl) rfl (fun _ _ h1 h2 => run_move (h1.ev rfl)) ?_
    refine Tq.val (wn rfl) rfl (fun _ _ h1 h2 => run_move (h1.ev rfl)) ?_
    obtain ⟨q112, hq112, H⟩ := bnd H
    refine Tq.val (wn rfl) rfl (fun _ _ h1 h2 => run_dv (h1.ev rfl) (h1.ev rfl) hq112) ?_
    refine Tq.val (wn rfl) rfl (fun _ _ h1 h2 => run_move (h1.ev rfl)) ?_
    refine Tq.val (wn rfl) rfl (fun _ _ h1 h2 => run_move (h1.ev rfl)) ?_
    obtain ⟨q113, hq113, H⟩ := bnd H
    refine Tq.val (wn rfl) rfl (fun _ _ h1 h2 => run_dv (h1.ev rfl) (h1.ev rfl) hq113) ?_
    refine Tq.nil ?_
    refine Tr.build (vs := [(0, (.int .i64 q112)), (1, (.int .i64 q113))]) (cs := [(.int .i64 q112), (.int .i64 q113)]) (wn rfl) rfl (evs_cons rfl (evs_cons rfl evs_nil)) (by kernel_rfl) ?_
    refine Tr.store 1 (cs := [(.int .i64 q112), (.int .i64 q113)]) [(.int .i64 q112), (.int .i64 q113)] (wn rfl) rfl rfl rfl rfl sz_70 rfl rfl rfl ?_
    refine Tr.nil (Tr.normThen ?_)
    refine Tr.ret ?_
    obtain rfl := Option.some.inj H
    exact Tr.out (m := [(.agg #[(.int .i64 q112), (.int .i64 q113)])]) [1] (res_cell rfl rfl ag_70 sz_70 res_nil) (fun W hW => ⟨rfl, hW.low leB⟩)

theorem F_panel_Use_ok (N : Nat) {w : Bs} (p0 : TPanel) (Ap0_0 : Option Addr) (cp0_0 : Nat) (hp0_0 : Sl w.R w.W fl_TBoardKind Ap0_0 cp0_0 p0.Kinds) (Ap0_1 : Option Addr) (cp0_1 : Nat) (hp0_1 : Sl w.R w.W fl_TSlot Ap0_1 cp0_1 p0.Slots) (Ap0_2 : Option Addr) (cp0_2 : Nat) (hp0_2 : Sl w.R w.W fl_TPoint Ap0_2 cp0_2 p0.Marks) (r : (TShare × Int)) (H : F_panel_Use N p0 = some r) (hE : HF w w.W E0) : Calls Try.prog 41 [(.agg #[(.int .i64 p0.W), (.int .i64 p0.H), (.int .i64 p0.Rail), (.int .i64 p0.Gap), (.slice Ap0_0 (p0.Kinds).length cp0_0), (.slice Ap0_1 (p0.Slots).length cp0_1), (.slice Ap0_2 (p0.Marks).length cp0_2)])].toArray w.W fun e W' => e = .returned (.tuple #[(.agg #[(.int .i64 r.1.Num), (.int .i64 r.1.Den)]), (.int .i64 r.2)]) ∧ HF w W' E0 := by
  unfold F_panel_Use at H
  have leB := Bs.Le.refl w
  refine Tr.enter (n := 23) Try.func41 rfl rfl rfl hE ?_
  refine Tr.seq ?_
  refine Tr.region ?_
  refine Tr.box 1 (cs := [(.int .i64 p0.W), (.int .i64 p0.H), (.int .i64 p0.Rail), (.int .i64 p0.Gap), (.slice Ap0_0 (p0.Kinds).length cp0_0), (.slice Ap0_1 (p0.Slots).length cp0_1), (.slice Ap0_2 (p0.Marks).length cp0_2)]) (wn rfl) rfl rfl rfl fun b100 => ?_
  refine Tr.alloc 2 (wn rfl) rfl ze_70 fun b101 => ?_
  refine Tr.val (wn rfl) rfl (fun _ _ h1 h2 => run_assign (h1.ev rfl)) ?_
  refine Tr.nil (Tr.normThen ?_)
  refine Tr.seq ?_
  refine Tr.region ?_
  refine Tr.val (wn rfl) rfl (fun _ _ h1 h2 => run_loadN (cs := [(.int .i64 p0.W), (.int .i64 p0.H), (.int .i64 p0.Rail), (.int .i64 p0.Gap), (.slice Ap0_0 (p0.Kinds).length cp0_0), (.slice Ap0_1 (p0.Slots).length cp0_1), (.slice Ap0_2 (p0.Marks).length cp0_2)]) ag_26 sz_26 (h1.ev rfl) (CellsAt.take (rdb h2 (vs := [(.int .i64 p0.W), (.int .i64 p0.H), (.int .i64 p0.Rail), (.int .i64 p0.Gap), (.slice Ap0_0 (p0.Kinds).length cp0_0), (.slice Ap0_1 (p0.Slots).length cp0_1), (.slice Ap0_2 (p0.Marks).length cp0_2)]) (k := 1) rfl 0) 7) rfl) ?_
  obtain ⟨y102, hy102, H⟩ := bnd H
  refine Tr.callM [3] [emp] (U := (Option Addr × Nat)) (fun u => (.tuple #[(.slice u.1 (y102.1).length u.2), (.int .i64 y102.2)])) (fun u => SlF u.1 (y102.1).length u.2) (fun u => [ow u.1 u.2 42 fl_TRect y102.1]) rfl (pk_cons rfl pk_nil) (fun _ => rfl) (wn rfl) rfl Try.call47 (evl_cons rfl evl_nil) (fun W hW hp hE => F_panel_open_ok N p0 Ap0_0 cp0_0 (hp0_0.ext (hW.extS hp)) Ap0_1 cp0_1 (hp0_1.ext (hW.extS hp)) Ap0_2 cp0_2 (hp0_2.ext (hW.extS hp)) y102 hy102 hE) ?_
  intro u hu
  obtain ⟨Ay102_0, cy102_0⟩ := u
  have gy102_0 := hu
  have hgy102_0 : SlF Ay102_0 (y102.1).length cy102_0 := gy102_0 --@phi
  show Tr _ _ (uf _ 8 (.tuple #[(.slice Ay102_0 (y102.1).length cy102_0), (.int .i64 y102.2)])) (up _ 3 (ow Ay102_0 cy102_0 42 fl_TRect y102.1)) _
  refine Tr.val (wn rfl) rfl (fun _ _ h1 h2 => run_move (h1.ev rfl)) ?_
  refine Tr.val (wn rfl) rfl (fun _ _ h1 h2 => run_extract (h1.ev rfl) rfl) ?_
  refine Tr.val (wn rfl) rfl (fun _ _ h1 h2 => run_extract (h1.ev rfl) rfl) ?_
  refine Tr.val (wn rfl) rfl (fun _ _ h1 h2 => run_assign (h1.ev rfl)) ?_
  refine Tr.val (wn rfl) rfl (fun _ _ h1 h2 => run_assign (h1.ev rfl)) ?_
  refine Tr.nil (Tr.normThen ?_)
  refine Tr.seq ?_
  refine Tr.seq ?_
  refine Tr.region ?_
  refine Tr.val (wn rfl) rfl (fun _ _ h1 h2 => run_move (h1.ev rfl)) ?_
  refine Tr.val (wn rfl) rfl (fun _ _ h1 h2 => run_neq (h1.ev rfl) (h1.ev rfl)) ?_
  refine Tr.nil (Tr.normThen ?_)
  refine Tr.cond rfl H (fun H => ?_) (fun H => ?_)
  · refine Tr.seq ?_
    refine Tr.region ?_
    refine Tr.build (vs := []) (cs := [(.int .i64 0), (.int .i64 0)]) (wn rfl) rfl evs_nil (by kernel_rfl) ?_
    refine Tr.val (wn rfl) rfl (fun _ _ h1 h2 => run_move (h1.ev rfl)) ?_
    refine Tr.store 2 (cs := [(.int .i64 0), (.int .i64 0)]) [(.int .i64 0), (.int .i64 0)] (wn rfl) rfl rfl rfl rfl sz_70 rfl rfl rfl ?_
    refine Tr.val (wn rfl) rfl (fun _ _ h1 h2 => run_assign (h1.ev rfl)) ?_
    refine Tr.nil (Tr.normThen ?_)
    refine Tr.ret (Tr.retThen ?_)
    obtain rfl := Option.some.inj H
    exact Tr.out (m := [(.agg #[(.int .i64 0), (.int .i64 0)]), (.int .i64 y102.2)]) [2] (res_cell rfl rfl ag_70 sz_70 (res_tmp rfl res_nil)) (fun W hW => ⟨rfl, hW.low leB⟩)
  · refine Tr.skip (Tr.normThen ?_)
    refine Tr.seq ?_
    refine Tr.drawTail 7 (by kernel_rfl) (by kernel_rfl) ?_
    refine Tq.val (wn rfl) rfl (fun _ _ h1 h2 => run_move (h1.ev rfl)) ?_
    obtain ⟨y104, hy104, H⟩ := bnd H
    refine Tq.call0 (r := (.int .i64 y104)) (wn rfl) rfl Try.call88 (evl_cons rfl evl_nil) (fun W hW => F_shape_AreaOf_ok y102.1 Ay102_0 cy102_0 (hW.slCall (k := 3) rfl) y104 hy104 (HF.start _)) ?_
    refine Tq.val (wn rfl) rfl (fun _ _ h1 h2 => run_fieldAddr fo_26_0 (h1.ev rfl)) ?_
    refine Tq.val (wn rfl) rfl (fun _ _ h1 h2 => run_load1 ag_3 (h1.ev rfl) (rdb h2 (vs := [(.int .i64 p0.W), (.int .i64 p0.H), (.int .i64 p0.Rail), (.int .i64 p0.Gap), (.slice Ap0_0 (p0.Kinds).length cp0_0), (.slice Ap0_1 (p0.Slots).length cp0_1), (.slice Ap0_2 (p0.Marks).length cp0_2)]) (k := 1) rfl 0) rfl) ?_
    refine Tq.val (wn rfl) rfl (fun _ _ h1 h2 => run_fieldAddr fo_26_1 (h1.ev rfl)) ?_
    refine Tq.val (wn rfl) rfl (fun _ _ h1 h2 => run_load1 ag_3 (h1.ev rfl) (rdb h2 (vs := [(.int .i64 p0.W), (.int .i64 p0.H), (.int .i64 p0.Rail), (.int .i64 p0.Gap), (.slice Ap0_0 (p0.Kinds).length cp0_0), (.slice Ap0_1 (p0.Slots).length cp0_1), (.slice Ap0_2 (p0.Marks).length cp0_2)]) (k := 1) rfl 1) rfl) ?_
    refine Tq.val (wn rfl) rfl (fun _ _ h1 h2 => run_mul (h1.ev rfl) (h1.ev rfl)) ?_
    refine Tq.nil ?_
    obtain ⟨y105, hy105, H⟩ := bnd H
    refine Tr.call0 (r := (.agg #[(.int .i64 y105.Num), (.int .i64 y105.Den)])) (wn rfl) rfl Try.call87 (evl_cons rfl (evl_cons rfl evl_nil)) (fun W hW => F_panel_Lowest_ok N y104 (w64 (p0.W * p0.H)) y105 hy105 (HF.start _)) ?_
    refine Tr.store 2 (cs := [(.int .i64 y105.Num), (.int .i64 y105.Den)]) [(.int .i64 y105.Num), (.int .i64 y105.Den)] (wn rfl) rfl rfl rfl rfl sz_70 rfl rfl rfl ?_
    refine Tr.val (wn rfl) rfl (fun _ _ h1 h2 => run_assign (h1.ev rfl)) ?_
    refine Tr.nil (Tr.normThen ?_)
    refine Tr.ret ?_
    obtain rfl := Option.some.inj H
    exact Tr.out (m := [(.agg #[(.int .i64 y105.Num), (.int .i64 y105.Den)]), (.int .i64 0)]) [2] (res_cell rfl rfl ag_70 sz_70 (res_tmp rfl res_nil)) (fun W hW => ⟨rfl, hW.low leB⟩)

theorem F_etchhouselaw9_awake_ok (N : Nat) {w : Bs}  (r : Bool) (H : F_etchhouselaw9_awake N = some r) (hE : HF w w.W E0) : Calls Try.prog 15 [].toArray w.W fun e W' => e = .returned (.bool r) ∧ HF w W' E0 := by
  unfold F_etchhouselaw9_awake at H
  have leB := Bs.Le.refl w
  refine Tr.enter (n := 15) Try.func15 rfl rfl rfl hE ?_
  refine Tr.seq ?_
  refine Tr.region ?_
  refine Tr.val (wn rfl) rfl (fun _ _ h1 h2 => run_assign (h1.ev rfl)) ?_
  refine Tr.nil (Tr.normThen ?_)
  refine Tr.seq ?_
  refine Tr.region ?_
  refine Tr.build (vs := [(0, (.int .i64 1)), (1, (.int .i64 1))]) (cs := [(.int .i64 1), (.int .i64 1), (.int .i64 0), (.int .i64 0), (.slice none 0 0), (.slice none 0 0), (.slice none 0 0)]) (wn rfl) rfl (evs_cons rfl (evs_cons rfl evs_nil)) (by kernel_rfl) ?_
  obtain ⟨y100, hy100, H⟩ := bnd H
  refine Tr.call0 (r := (.tuple #[(.agg #[(.int .i64 y100.1.Num), (.int .i64 y100.1.Den)]), (.int .i64 y100.2)])) (wn rfl) rfl Try.call41 (evl_cons rfl evl_nil) (fun W hW => F_panel_Use_ok N (TPanel.mk 1 1 0 0 [] [] []) none 0 (Sl.nil _ _ _) none 0 (Sl.nil _ _ _) none 0 (Sl.nil _ _ _) y100 hy100 (HF.start _)) ?_
  refine Tr.val (wn rfl) rfl (fun _ _ h1 h2 => run_move (h1.ev rfl)) ?_
  refine Tr.val (wn rfl) rfl (fun _ _ h1 h2 => run_extract (h1.ev rfl) rfl) ?_
  refine Tr.val (wn rfl) rfl (fun _ _ h1 h2 => run_extract (h1.ev rfl) rfl) ?_
  refine Tr.alloc 1 (wn rfl) rfl ze_70 fun b101 => ?_
  refine Tr.store 1 (cs := [(.int .i64 y100.1.Num), (.int .i64 y100.1.Den)]) [(.int .i64 y100.1.Num), (.int .i64 y100.1.Den)] (wn rfl) rfl rfl rfl rfl sz_70 rfl rfl rfl ?_
  refine Tr.val (wn rfl) rfl (fun _ _ h1 h2 => run_assign (h1.ev rfl)) ?_
  refine Tr.nil (Tr.normThen ?_)
  refine Tr.seq ?_
  refine Tr.region ?_
  refine Tr.val (wn rfl) rfl (fun _ _ h1 h2 => run_move (h1.ev rfl)) ?_
  refine Tr.val (wn rfl) rfl (fun _ _ h1 h2 => run_eql (h1.ev rfl) (h1.ev rfl)) ?_
  refine Tr.val (wn rfl) rfl (fun _ _ h1 h2 => run_move (h1.ev rfl)) ?_
  refine Tr.mid0 4 [(14, (.bool ((y100.2 == 0) && (eqTShare y100.1 (TShare.mk 0 1)))))] [(1, bx b101 #[(.int .i64 y100.1.Num), (.int .i64 y100.1.Den)] 70)] ?_ ?_
  · cases hg101 : (y100.2 == 0)
    · refine Tr.pass rfl rfl rfl rfl rfl (by decide) ?_
      refine Tr.pass rfl rfl rfl rfl rfl (by decide) ?_
      refine Tr.pass rfl rfl rfl rfl rfl (by decide) ?_
      refine Tr.val (wn rfl) rfl (fun _ _ h1 h2 => run_pickF (h1.ev rfl) (h1.ev rfl)) ?_
      exact Tr.nil (Tr.fin0 (.cons rfl .nil) (.cons rfl .nil))
    · refine Tr.val (wg rfl rfl rfl) rfl (fun _ _ h1 h2 => run_loadN (cs := [(.int .i64 y100.1.Num), (.int .i64 y100.1.Den)]) ag_70 sz_70 (h1.ev rfl) (CellsAt.take (rdb h2 (vs := [(.int .i64 y100.1.Num), (.int .i64 y100.1.Den)]) (k := 1) rfl 0) 2) rfl) ?_
      refine Tr.build (vs := [(1, (.int .i64 1))]) (cs := [(.int .i64 0), (.int .i64 1)]) (wg rfl rfl rfl) rfl (evs_cons rfl evs_nil) (by kernel_rfl) ?_
      refine Tr.val (wg rfl rfl rfl) rfl (fun _ _ h1 h2 => run_eql_70 y100.1 (TShare.mk 0 1) (h1.ev rfl) (h1.ev rfl)) ?_
      refine Tr.val (wn rfl) rfl (fun _ _ h1 h2 => run_pickT (h1.ev rfl) (h1.ev rfl)) ?_
      exact Tr.nil (Tr.fin0 (.cons rfl .nil) (.cons rfl .nil))
  · show Tr _ _ (LF [(14, (.bool ((y100.2 == 0) && (eqTShare y100.1 (TShare.mk 0 1)))))]) (LE [(1, bx b101 #[(.int .i64 y100.1.Num), (.int .i64 y100.1.Den)] 70)]) _
    refine Tr.val (wn rfl) rfl (fun _ _ h1 h2 => run_assign (h1.ev rfl)) ?_
    refine Tr.nil (Tr.normThen ?_)
    refine Tr.ret ?_
    obtain rfl := Option.some.inj H
    exact Tr.out (m := [(.bool ((y100.2 == 0) && (eqTShare y100.1 (TShare.mk 0 1))))]) [] (res_tmp rfl res_nil) (fun W hW => ⟨rfl, hW.low leB⟩)

theorem F_etchhouseref9_Same_ok (N : Nat) {w : Bs} (p0 : TPanel) (Ap0_0 : Option Addr) (cp0_0 : Nat) (hp0_0 : Sl w.R w.W fl_TBoardKind Ap0_0 cp0_0 p0.Kinds) (Ap0_1 : Option Addr) (cp0_1 : Nat) (hp0_1 : Sl w.R w.W fl_TSlot Ap0_1 cp0_1 p0.Slots) (Ap0_2 : Option Addr) (cp0_2 : Nat) (hp0_2 : Sl w.R w.W fl_TPoint Ap0_2 cp0_2 p0.Marks) (p1 : TPanel) (Ap1_0 : Option Addr) (cp1_0 : Nat) (hp1_0 : Sl w.R w.W fl_TBoardKind Ap1_0 cp1_0 p1.Kinds) (Ap1_1 : Option Addr) (cp1_1 : Nat) (hp1_1 : Sl w.R w.W fl_TSlot Ap1_1 cp1_1 p1.Slots) (Ap1_2 : Option Addr) (cp1_2 : Nat) (hp1_2 : Sl w.R w.W fl_TPoint Ap1_2 cp1_2 p1.Marks) (r : Bool) (H : F_etchhouseref9_Same N p0 p1 = some r) (hE : HF w w.W E0) : Calls Try.prog 30 [(.agg #[(.int .i64 p0.W), (.int .i64 p0.H), (.int .i64 p0.Rail), (.int .i64 p0.Gap), (.slice Ap0_0 (p0.Kinds).length cp0_0), (.slice Ap0_1 (p0.Slots).length cp0_1), (.slice Ap0_2 (p0.Marks).length cp0_2)]), (.agg #[(.int .i64 p1.W), (.int .i64 p1.H), (.int .i64 p1.Rail), (.int .i64 p1.Gap), (.slice Ap1_0 (p1.Kinds).length cp1_0), (.slice Ap1_1 (p1.Slots).length cp1_1), (.slice Ap1_2 (p1.Marks).length cp1_2)])].toArray w.W fun e W' => e = .returned (.bool r) ∧ HF w W' E0 := by
  unfold F_etchhouseref9_Same at H
  have leB := Bs.Le.refl w
  refine Tr.enter (n := 115) Try.func30 rfl rfl rfl hE ?_
  refine Tr.seq ?_
  refine Tr.region ?_
  refine Tr.box 1 (cs := [(.int .i64 p0.W), (.int .i64 p0.H), (.int .i64 p0.Rail), (.int .i64 p0.Gap), (.slice Ap0_0 (p0.Kinds).length cp0_0), (.slice Ap0_1 (p0.Slots).length cp0_1), (.slice Ap0_2 (p0.Marks).length cp0_2)]) (wn rfl) rfl rfl rfl fun b100 => ?_
  refine Tr.box 2 (cs := [(.int .i64 p1.W), (.int .i64 p1.H), (.int .i64 p1.Rail), (.int .i64 p1.Gap), (.slice Ap1_0 (p1.Kinds).length cp1_0), (.slice Ap1_1 (p1.Slots).length cp1_1), (.slice Ap1_2 (p1.Marks).length cp1_2)]) (wn rfl) rfl rfl rfl fun b101 => ?_
  refine Tr.val (wn rfl) rfl (fun _ _ h1 h2 => run_assign (h1.ev rfl)) ?_
  refine Tr.nil (Tr.normThen ?_)
  refine Tr.seq ?_
  refine Tr.seq ?_
  refine Tr.region ?_
  refine Tr.val (wn rfl) rfl (fun _ _ h1 h2 => run_fieldAddr fo_26_0 (h1.ev rfl)) ?_
  refine Tr.val (wn rfl) rfl (fun _ _ h1 h2 => run_load1 ag_3 (h1.ev rfl) (rdb h2 (vs := [(.int .i64 p0.W), (.int .i64 p0.H), (.int .i64 p0.Rail), (.int .i64 p0.Gap), (.slice Ap0_0 (p0.Kinds).length cp0_0), (.slice Ap0_1 (p0.Slots).length cp0_1), (.slice Ap0_2 (p0.Marks).length cp0_2)]) (k := 1) rfl 0) rfl) ?_
  refine Tr.val (wn rfl) rfl (fun _ _ h1 h2 => run_fieldAddr fo_26_0 (h1.ev rfl)) ?_
  refine Tr.val (wn rfl) rfl (fun _ _ h1 h2 => run_load1 ag_3 (h1.ev rfl) (rdb h2 (vs := [(.int .i64 p1.W), (.int .i64 p1.H), (.int .i64 p1.Rail), (.int .i64 p1.Gap), (.slice Ap1_0 (p1.Kinds).length cp1_0), (.slice Ap1_1 (p1.Slots).length cp1_1), (.slice Ap1_2 (p1.Marks).length cp1_2)]) (k := 2) rfl 0) rfl) ?_
  refine Tr.val (wn rfl) rfl (fun _ _ h1 h2 => run_neq (h1.ev rfl) (h1.ev rfl)) ?_
  refine Tr.val (wn rfl) rfl (fun _ _ h1 h2 => run_move (h1.ev rfl)) ?_
  refine Tr.mid0 6 [(2, (.pointer (some ⟨b100, 0, none⟩))), (3, (.pointer (some ⟨b101, 0, none⟩))), (19, (.bool ((p0.W != p1.W) || (p0.H != p1.H))))] [(1, bx b100 #[(.int .i64 p0.W), (.int .i64 p0.H), (.int .i64 p0.Rail), (.int .i64 p0.Gap), (.slice Ap0_0 (p0.Kinds).length cp0_0), (.slice Ap0_1 (p0.Slots).length cp0_1), (.slice Ap0_2 (p0.Marks).length cp0_2)] 26), (2, bx b101 #[(.int .i64 p1.W), (.int .i64 p1.H), (.int .i64 p1.Rail), (.int .i64 p1.Gap), (.slice Ap1_0 (p1.Kinds).length cp1_0), (.slice Ap1_1 (p1.Slots).length cp1_1), (.slice Ap1_2 (p1.Marks).length cp1_2)] 26)] ?_ ?_
  · cases hg131 : (p0.W != p1.W)
    · refine Tr.val (wg rfl rfl rfl) rfl (fun _ _ h1 h2 => run_fieldAddr fo_26_1 (h1.ev rfl)) ?_
      refine Tr.val (wg rfl rfl rfl) rfl (fun _ _ h1 h2 => run_load1 ag_3 (h1.ev rfl) (rdb h2 (vs := [(.int .i64 p0.W), (.int .i64 p0.H), (.int .i64 p0.Rail), (.int .i64 p0.Gap), (.slice Ap0_0 (p0.Kinds).length cp0_0), (.slice Ap0_1 (p0.Slots).length cp0_1), (.slice Ap0_2 (p0.Marks).length cp0_2)]) (k := 1) rfl 1) rfl) ?_
      refine Tr.val (wg rfl rfl rfl) rfl (fun _ _ h1 h2 => run_fieldAddr fo_26_1 (h1.ev rfl)) ?_
      refine Tr.val (wg rfl rfl rfl) rfl (fun _ _ h1 h2 => run_load1 ag_3 (h1.ev rfl) (rdb h2 (vs := [(.int .i64 p1.W), (.int .i64 p1.H), (.int .i64 p1.Rail), (.int .i64 p1.Gap), (.slice Ap1_0 (p1.Kinds).length cp1_0), (.slice Ap1_1 (p1.Slots).length cp1_1), (.slice Ap1_2 (p1.Marks).length cp1_2)]) (k := 2) rfl 1) rfl) ?_
      refine Tr.val (wg rfl rfl rfl) rfl (fun _ _ h1 h2 => run_neq (h1.ev rfl) (h1.ev rfl)) ?_
      refine Tr.val (wn rfl) rfl (fun _ _ h1 h2 => run_pickF (h1.ev rfl) (h1.ev rfl)) ?_
      exact Tr.nil (Tr.fin0 (.cons rfl (.cons rfl (.cons rfl .nil))) (.cons rfl (.cons rfl .nil)))
    · refine Tr.pass rfl rfl rfl rfl rfl (by decide) ?_
      refine Tr.pass rfl rfl rfl rfl rfl (by decide) ?_
      refine Tr.pass rfl rfl rfl rfl rfl (by decide) ?_
      refine Tr.pass rfl rfl rfl rfl rfl (by decide) ?_
      refine Tr.pass rfl rfl rfl rfl rfl (by decide) ?_
      refine Tr.val (wn rfl) rfl (fun _ _ h1 h2 => run_pickT (h1.ev rfl) (h1.ev rfl)) ?_
      exact Tr.nil (Tr.fin0 (.cons rfl (.cons rfl (.cons rfl .nil))) (.cons rfl (.cons rfl .nil)))
  · show Tr _ _ (LF [(2, (.pointer (some ⟨b100, 0, none⟩))), (3, (.pointer (some ⟨b101, 0, none⟩))), (19, (.bool ((p0.W != p1.W) || (p0.H != p1.H))))]) (LE [(1, bx b100 #[(.int .i64 p0.W), (.int .i64 p0.H), (.int .i64 p0.Rail), (.int .i64 p0.Gap), (.slice Ap0_0 (p0.Kinds).length cp0_0), (.slice Ap0_1 (p0.Slots).length cp0_1), (.slice Ap0_2 (p0.Marks).length cp0_2)] 26), (2, bx b101 #[(.int .i64 p1.W), (.int .i64 p1.H), (.int .i64 p1.Rail), (.int .i64 p1.Gap), (.slice Ap1_0 (p1.Kinds).length cp1_0), (.slice Ap1_1 (p1.Slots).length cp1_1), (.slice Ap1_2 (p1.Marks).length cp1_2)] 26)]) _
    refine Tr.val (wn rfl) rfl (fun _ _ h1 h2 => run_move (h1.ev rfl)) ?_
    refine Tr.mid0 6 [(2, (.pointer (some ⟨b100, 0, none⟩))), (3, (.pointer (some ⟨b101, 0, none⟩))), (26, (.bool (((p0.W != p1.W) || (p0.H != p1.H)) || (p0.Rail != p1.Rail))))] [(1, bx b100 #[(.int .i64 p0.W), (.int .i64 p0.H), (.int .i64 p0.Rail), (.int .i64 p0.Gap), (.slice Ap0_0 (p0.Kinds).length cp0_0), (.slice Ap0_1 (p0.Slots).length cp0_1), (.slice Ap0_2 (p0.Marks).length cp0_2)] 26), (2, bx b101 #[(.int .i64 p1.W), (.int .i64 p1.H), (.int .i64 p1.Rail), (.int .i64 p1.Gap), (.slice Ap1_0 (p1.Kinds).length cp1_0), (.slice Ap1_1 (p1.Slots).length cp1_1), (.slice Ap1_2 (p1.Marks).length cp1_2)] 26)] ?_ ?_
    · cases hg131 : ((p0.W != p1.W) || (p0.H != p1.H))
      · refine Tr.val (wg rfl rfl rfl) rfl (fun _ _ h1 h2 => run_fieldAddr fo_26_2 (h1.ev rfl)) ?_
        refine Tr.val (wg rfl rfl rfl) rfl (fun _ _ h1 h2 => run_load1 ag_3 (h1.ev rfl) (rdb h2 (vs := [(.int .i64 p0.W), (.int .i64 p0.H), (.int .i64 p0.Rail), (.int .i64 p0.Gap), (.slice Ap0_0 (p0.Kinds).length cp0_0), (.slice Ap0_1 (p0.Slots).length cp0_1), (.slice Ap0_2 (p0.Marks).length cp0_2)]) (k := 1) rfl 2) rfl) ?_
        refine Tr.val (wg rfl rfl rfl) rfl (fun _ _ h1 h2 => run_fieldAddr fo_26_2 (h1.ev rfl)) ?_
        refine Tr.val (wg rfl rfl rfl) rfl (fun _ _ h1 h2 => run_load1 ag_3 (h1.ev rfl) (rdb h2 (vs := [(.int .i64 p1.W), (.int .i64 p1.H), (.int .i64 p1.Rail), (.int .i64 p1.Gap), (.slice Ap1_0 (p1.Kinds).length cp1_0), (.slice Ap1_1 (p1.Slots).length cp1_1), (.slice Ap1_2 (p1.Marks).length cp1_2)]) (k := 2) rfl 2) rfl) ?_
        refine Tr.val (wg rfl rfl rfl) rfl (fun _ _ h1 h2 => run_neq (h1.ev rfl) (h1.ev rfl)) ?_
        refine Tr.val (wn rfl) rfl (fun _ _ h1 h2 => run_pickF (h1.ev rfl) (h1.ev rfl)) ?_
        exact Tr.nil (Tr.fin0 (.cons rfl (.cons rfl (.cons rfl .nil))) (.cons rfl (.cons rfl .nil)))
      · refine Tr.pass rfl rfl rfl rfl rfl (by decide) ?_
        refine Tr.pass rfl rfl rfl rfl rfl (by decide) ?_
        refine Tr.pass rfl rfl rfl rfl rfl (by decide) ?_
        refine Tr.pass rfl rfl rfl rfl rfl (by decide) ?_
        refine Tr.pass rfl rfl rfl rfl rfl (by decide) ?_
        refine Tr.val (wn rfl) rfl (fun _ _ h1 h2 => run_pickT (h1.ev rfl) (h1.ev rfl)) ?_
        exact Tr.nil (Tr.fin0 (.cons rfl (.cons rfl (.cons rfl .nil))) (.cons rfl (.cons rfl .nil)))
    · show Tr _ _ (LF [(2, (.pointer (some ⟨b100, 0, none⟩))), (3, (.pointer (some ⟨b101, 0, none⟩))), (26, (.bool (((p0.W != p1.W) || (p0.H != p1.H)) || (p0.Rail != p1.Rail))))]) (LE [(1, bx b100 #[(.int .i64 p0.W), (.int .i64 p0.H), (.int .i64 p0.Rail), (.int .i64 p0.Gap), (.slice Ap0_0 (p0.Kinds).length cp0_0), (.slice Ap0_1 (p0.Slots).length cp0_1), (.slice Ap0_2 (p0.Marks).length cp0_2)] 26), (2, bx b101 #[(.int .i64 p1.W), (.int .i64 p1.H), (.int .i64 p1.Rail), (.int .i64 p1.Gap), (.slice Ap1_0 (p1.Kinds).length cp1_0), (.slice Ap1_1 (p1.Slots).length cp1_1), (.slice Ap1_2 (p1.Marks).length cp1_2)] 26)]) _
      refine Tr.val (wn rfl) rfl (fun _ _ h1 h2 => run_move (h1.ev rfl)) ?_
      refine Tr.mid0 6 [(2, (.pointer (some ⟨b100, 0, none⟩))), (3, (.pointer (some ⟨b101, 0, none⟩))), (33, (.bool ((((p0.W != p1.W) || (p0.H != p1.H)) || (p0.Rail != p1.Rail)) || (p0.Gap != p1.Gap))))] [(1, bx b100 #[(.int .i64 p0.W), (.int .i64 p0.H), (.int .i64 p0.Rail), (.int .i64 p0.Gap), (.slice Ap0_0 (p0.Kinds).length cp0_0), (.slice Ap0_1 (p0.Slots).length cp0_1), (.slice Ap0_2 (p0.Marks).length cp0_2)] 26), (2, bx b101 #[(.int .i64 p1.W), (.int .i64 p1.H), (.int .i64 p1.Rail), (.int .i64 p1.Gap), (.slice Ap1_0 (p1.Kinds).length cp1_0), (.slice Ap1_1 (p1.Slots).length cp1_1), (.slice Ap1_2 (p1.Marks).length cp1_2)] 26)] ?_ ?_
      · cases hg131 : (((p0.W != p1.W) || (p0.H != p1.H)) || (p0.Rail != p1.Rail))
        · refine Tr.val (wg rfl rfl rfl) rfl (fun _ _ h1 h2 => run_fieldAddr fo_26_3 (h1.ev rfl)) ?_
          refine Tr.val (wg rfl rfl rfl) rfl (fun _ _ h1 h2 => run_load1 ag_3 (h1.ev rfl) (rdb h2 (vs := [(.int .i64 p0.W), (.int .i64 p0.H), (.int .i64 p0.Rail), (.int .i64 p0.Gap), (.slice Ap0_0 (p0.Kinds).length cp0_0), (.slice Ap0_1 (p0.Slots).length cp0_1), (.slice Ap0_2 (p0.Marks).length cp0_2)]) (k := 1) rfl 3) rfl) ?_
          refine Tr.val (wg rfl rfl rfl) rfl (fun _ _ h1 h2 => run_fieldAddr fo_26_3 (h1.ev rfl)) ?_
          refine Tr.val (wg rfl rfl rfl) rfl (fun _ _ h1 h2 => run_load1 ag_3 (h1.ev rfl) (rdb h2 (vs := [(.int .i64 p1.W), (.int .i64 p1.H), (.int .i64 p1.Rail), (.int .i64 p1.Gap), (.slice Ap1_0 (p1.Kinds).length cp1_0), (.slice Ap1_1 (p1.Slots).length cp1_1), (.slice Ap1_2 (p1.Marks).length cp1_2)]) (k := 2) rfl 3) rfl) ?_
          refine Tr.val (wg rfl rfl rfl) rfl (fun _ _ h1 h2 => run_neq (h1.ev rfl) (h1.ev rfl)) ?_
          refine Tr.val (wn rfl) rfl (fun _ _ h1 h2 => run_pickF (h1.ev rfl) (h1.ev rfl)) ?_
          exact Tr.nil (Tr.fin0 (.cons rfl (.cons rfl (.cons rfl .nil))) (.cons rfl (.cons rfl .nil)))
        · refine Tr.pass rfl rfl rfl rfl rfl (by decide) ?_
          refine Tr.pass rfl rfl rfl rfl rfl (by decide) ?_
          refine Tr.pass rfl rfl rfl rfl rfl (by decide) ?_
          refine Tr.pass rfl rfl rfl rfl rfl (by decide) ?_
          refine Tr.pass rfl rfl rfl rfl rfl (by decide) ?_
          refine Tr.val (wn rfl) rfl (fun _ _ h1 h2 => run_pickT (h1.ev rfl) (h1.ev rfl)) ?_
          exact Tr.nil (Tr.fin0 (.cons rfl (.cons rfl (.cons rfl .nil))) (.cons rfl (.cons rfl .nil)))
      · show Tr _ _ (LF [(2, (.pointer (some ⟨b100, 0, none⟩))), (3, (.pointer (some ⟨b101, 0, none⟩))), (33, (.bool ((((p0.W != p1.W) || (p0.H != p1.H)) || (p0.Rail != p1.Rail)) || (p0.Gap != p1.Gap))))]) (LE [(1, bx b100 #[(.int .i64 p0.W), (.int .i64 p0.H), (.int .i64 p0.Rail), (.int .i64 p0.Gap), (.slice Ap0_0 (p0.Kinds).length cp0_0), (.slice Ap0_1 (p0.Slots).length cp0_1), (.slice Ap0_2 (p0.Marks).length cp0_2)] 26), (2, bx b101 #[(.int .i64 p1.W), (.int .i64 p1.H), (.int .i64 p1.Rail), (.int .i64 p1.Gap), (.slice Ap1_0 (p1.Kinds).length cp1_0), (.slice Ap1_1 (p1.Slots).length cp1_1), (.slice Ap1_2 (p1.Marks).length cp1_2)] 26)]) _
        refine Tr.val (wn rfl) rfl (fun _ _ h1 h2 => run_move (h1.ev rfl)) ?_
        refine Tr.mid0 8 [(2, (.pointer (some ⟨b100, 0, none⟩))), (3, (.pointer (some ⟨b101, 0, none⟩))), (42, (.bool (((((p0.W != p1.W) || (p0.H != p1.H)) || (p0.Rail != p1.Rail)) || (p0.Gap != p1.Gap)) || ((p0.Kinds.length : Int) != (p1.Kinds.length : Int)))))] [(1, bx b100 #[(.int .i64 p0.W), (.int .i64 p0.H), (.int .i64 p0.Rail), (.int .i64 p0.Gap), (.slice Ap0_0 (p0.Kinds).length cp0_0), (.slice Ap0_1 (p0.Slots).length cp0_1), (.slice Ap0_2 (p0.Marks).length cp0_2)] 26), (2, bx b101 #[(.int .i64 p1.W), (.int .i64 p1.H), (.int .i64 p1.Rail), (.int .i64 p1.Gap), (.slice Ap1_0 (p1.Kinds).length cp1_0), (.slice Ap1_1 (p1.Slots).length cp1_1), (.slice Ap1_2 (p1.Marks).length cp1_2)] 26)] ?_ ?_
        · cases hg131 : ((((p0.W != p1.W) || (p0.H != p1.H)) || (p0.Rail != p1.Rail)) || (p0.Gap != p1.Gap))
          · refine Tr.val (wg rfl rfl rfl) rfl (fun _ _ h1 h2 => run_fieldAddr fo_26_4 (h1.ev rfl)) ?_
            refine Tr.val (wg rfl rfl rfl) rfl (fun _ _ h1 h2 => run_load1 ag_22 (h1.ev rfl) (rdb h2 (vs := [(.int .i64 p0.W), (.int .i64 p0.H), (.int .i64 p0.Rail), (.int .i64 p0.Gap), (.slice Ap0_0 (p0.Kinds).length cp0_0), (.slice Ap0_1 (p0.Slots).length cp0_1), (.slice Ap0_2 (p0.Marks).length cp0_2)]) (k := 1) rfl 4) rfl) ?_
            refine Tr.val (wg rfl rfl rfl) rfl (fun _ _ h1 h2 => run_len un_22 (h1.ev rfl)) ?_
            refine Tr.val (wg rfl rfl rfl) rfl (fun _ _ h1 h2 => run_fieldAddr fo_26_4 (h1.ev rfl)) ?_
            refine Tr.val (wg rfl rfl rfl) rfl (fun _ _ h1 h2 => run_load1 ag_22 (h1.ev rfl) (rdb h2 (vs := [(.int .i64 p1.W), (.int .i64 p1.H), (.int .i64 p1.Rail), (.int .i64 p1.Gap), (.slice Ap1_0 (p1.Kinds).length cp1_0), (.slice Ap1_1 (p1.Slots).length cp1_1), (.slice Ap1_2 (p1.Marks).length cp1_2)]) (k := 2) rfl 4) rfl) ?_
            refine Tr.val (wg rfl rfl rfl) rfl (fun _ _ h1 h2 => run_len un_22 (h1.ev rfl)) ?_
            refine Tr.val (wg rfl rfl rfl) rfl (fun _ _ h1 h2 => run_neq (h1.ev rfl) (h1.ev rfl)) ?_
            refine Tr.val (wn rfl) rfl (fun _ _ h1 h2 => run_pickF (h1.ev rfl) (h1.ev rfl)) ?_
            exact Tr.nil (Tr.fin0 (.cons rfl (.cons rfl (.cons rfl .nil))) (.cons rfl (.cons rfl .nil)))
          · refine Tr.pass rfl rfl rfl rfl rfl (by decide) ?_
            refine Tr.pass rfl rfl rfl rfl rfl (by decide) ?_
            refine Tr.pass rfl rfl rfl rfl rfl (by decide) ?_
            refine Tr.pass rfl rfl rfl rfl rfl (by decide) ?_
            refine Tr.pass rfl rfl rfl rfl rfl (by decide) ?_
            refine Tr.pass rfl rfl rfl rfl rfl (by decide) ?_
            refine Tr.pass rfl rfl rfl rfl rfl (by decide) ?_
            refine Tr.val (wn rfl) rfl (fun _ _ h1 h2 => run_pickT (h1.ev rfl) (h1.ev rfl)) ?_
            exact Tr.nil (Tr.fin0 (.cons rfl (.cons rfl (.cons rfl .nil))) (.cons rfl (.cons rfl .nil)))
        · show Tr _ _ (LF [(2, (.pointer (some ⟨b100, 0, none⟩))), (3, (.pointer (some ⟨b101, 0, none⟩))), (42, (.bool (((((p0.W != p1.W) || (p0.H != p1.H)) || (p0.Rail != p1.Rail)) || (p0.Gap != p1.Gap)) || ((p0.Kinds.length : Int) != (p1.Kinds.length : Int)))))]) (LE [(1, bx b100 #[(.int .i64 p0.W), (.int .i64 p0.H), (.int .i64 p0.Rail), (.int .i64 p0.Gap), (.slice Ap0_0 (p0.Kinds).length cp0_0), (.slice Ap0_1 (p0.Slots).length cp0_1), (.slice Ap0_2 (p0.Marks).length cp0_2)] 26), (2, bx b101 #[(.int .i64 p1.W), (.int .i64 p1.H), (.int .i64 p1.Rail), (.int .i64 p1.Gap), (.slice Ap1_0 (p1.Kinds).length cp1_0), (.slice Ap1_1 (p1.Slots).length cp1_1), (.slice Ap1_2 (p1.Marks).length cp1_2)] 26)]) _
          refine Tr.val (wn rfl) rfl (fun _ _ h1 h2 => run_move (h1.ev rfl)) ?_
          refine Tr.mid0 8 [(2, (.pointer (some ⟨b100, 0, none⟩))), (3, (.pointer (some ⟨b101, 0, none⟩))), (51, (.bool ((((((p0.W != p1.W) || (p0.H != p1.H)) || (p0.Rail != p1.Rail)) || (p0.Gap != p1.Gap)) || ((p0.Kinds.length : Int) != (p1.Kinds.length : Int))) || ((p0.Slots.length : Int) != (p1.Slots.length : Int)))))] [(1, bx b100 #[(.int .i64 p0.W), (.int .i64 p0.H), (.int .i64 p0.Rail), (.int .i64 p0.Gap), (.slice Ap0_0 (p0.Kinds).length cp0_0), (.slice Ap0_1 (p0.Slots).length cp0_1), (.slice Ap0_2 (p0.Marks).length cp0_2)] 26), (2, bx b101 #[(.int .i64 p1.W), (.int .i64 p1.H), (.int .i64 p1.Rail), (.int .i64 p1.Gap), (.slice Ap1_0 (p1.Kinds).length cp1_0), (.slice Ap1_1 (p1.Slots).length cp1_1), (.slice Ap1_2 (p1.Marks).length cp1_2)] 26)] ?_ ?_
          · cases hg131 : (((((p0.W != p1.W) || (p0.H != p1.H)) || (p0.Rail != p1.Rail)) || (p0.Gap != p1.Gap)) || ((p0.Kinds.length : Int) != (p1.Kinds.length : Int)))
            · refine Tr.val (wg rfl rfl rfl) rfl (fun _ _ h1 h2 => run_fieldAddr fo_26_5 (h1.ev rfl)) ?_
              refine Tr.val (wg rfl rfl rfl) rfl (fun _ _ h1 h2 => run_load1 ag_23 (h1.ev rfl) (rdb h2 (vs := [(.int .i64 p0.W), (.int .i64 p0.H), (.int .i64 p0.Rail), (.int .i64 p0.Gap), (.slice Ap0_0 (p0.Kinds).length cp0_0), (.slice Ap0_1 (p0.Slots).length cp0_1), (.slice Ap0_2 (p0.Marks).length cp0_2)]) (k := 1) rfl 5) rfl) ?_
              refine Tr.val (wg rfl rfl rfl) rfl (fun _ _ h1 h2 => run_len un_23 (h1.ev rfl)) ?_
              refine Tr.val (wg rfl rfl rfl) rfl (fun _ _ h1 h2 => run_fieldAddr fo_26_5 (h1.ev rfl)) ?_
              refine Tr.val (wg rfl rfl rfl) rfl (fun _ _ h1 h2 => run_load1 ag_23 (h1.ev rfl) (rdb h2 (vs := [(.int .i64 p1.W), (.int .i64 p1.H), (.int .i64 p1.Rail), (.int .i64 p1.Gap), (.slice Ap1_0 (p1.Kinds).length cp1_0), (.slice Ap1_1 (p1.Slots).length cp1_1), (.slice Ap1_2 (p1.Marks).length cp1_2)]) (k := 2) rfl 5) rfl) ?_
              refine Tr.val (wg rfl rfl rfl) rfl (fun _ _ h1 h2 => run_len un_23 (h1.ev rfl)) ?_
              refine Tr.val (wg rfl rfl rfl) rfl (fun _ _ h1 h2 => run_neq (h1.ev rfl) (h1.ev rfl)) ?_
              refine Tr.val (wn rfl) rfl (fun _ _ h1 h2 => run_pickF (h1.ev rfl) (h1.ev rfl)) ?_
              exact Tr.nil (Tr.fin0 (.cons rfl (.cons rfl (.cons rfl .nil))) (.cons rfl (.cons rfl .nil)))
            · refine Tr.pass rfl rfl rfl rfl rfl (by decide) ?_
              refine Tr.pass rfl rfl rfl rfl rfl (by decide) ?_
              refine Tr.pass rfl rfl rfl rfl rfl (by decide) ?_
              refine Tr.pass rfl rfl rfl rfl rfl (by decide) ?_
              refine Tr.pass rfl rfl rfl rfl rfl (by decide) ?_
              refine Tr.pass rfl rfl rfl rfl rfl (by decide) ?_
              refine Tr.pass rfl rfl rfl rfl rfl (by decide) ?_
              refine Tr.val (wn rfl) rfl (fun _ _ h1 h2 => run_pickT (h1.ev rfl) (h1.ev rfl)) ?_
              exact Tr.nil (Tr.fin0 (.cons rfl (.cons rfl (.cons rfl .nil))) (.cons rfl (.cons rfl .nil)))
          · show Tr _ _ (LF [(2, (.pointer (some ⟨b100, 0, none⟩))), (3, (.pointer (some ⟨b101, 0, none⟩))), (51, (.bool ((((((p0.W != p1.W) || (p0.H != p1.H)) || (p0.Rail != p1.Rail)) || (p0.Gap != p1.Gap)) || ((p0.Kinds.length : Int) != (p1.Kinds.length : Int))) || ((p0.Slots.length : Int) != (p1.Slots.length : Int)))))]) (LE [(1, bx b100 #[(.int .i64 p0.W), (.int .i64 p0.H), (.int .i64 p0.Rail), (.int .i64 p0.Gap), (.slice Ap0_0 (p0.Kinds).length cp0_0), (.slice Ap0_1 (p0.Slots).length cp0_1), (.slice Ap0_2 (p0.Marks).length cp0_2)] 26), (2, bx b101 #[(.int .i64 p1.W), (.int .i64 p1.H), (.int .i64 p1.Rail), (.int .i64 p1.Gap), (.slice Ap1_0 (p1.Kinds).length cp1_0), (.slice Ap1_1 (p1.Slots).length cp1_1), (.slice Ap1_2 (p1.Marks).length cp1_2)] 26)]) _
            refine Tr.val (wn rfl) rfl (fun _ _ h1 h2 => run_move (h1.ev rfl)) ?_
            refine Tr.mid0 8 [(2, (.pointer (some ⟨b100, 0, none⟩))), (3, (.pointer (some ⟨b101, 0, none⟩))), (60, (.bool (((((((p0.W != p1.W) || (p0.H != p1.H)) || (p0.Rail != p1.Rail)) || (p0.Gap != p1.Gap)) || ((p0.Kinds.length : Int) != (p1.Kinds.length : Int))) || ((p0.Slots.length : Int) != (p1.Slots.length : Int))) || ((p0.Marks.length : Int) != (p1.Marks.length : Int)))))] [(1, bx b100 #[(.int .i64 p0.W), (.int .i64 p0.H), (.int .i64 p0.Rail), (.int .i64 p0.Gap), (.slice Ap0_0 (p0.Kinds).length cp0_0), (.slice Ap0_1 (p0.Slots).length cp0_1), (.slice Ap0_2 (p0.Marks).length cp0_2)] 26), (2, bx b101 #[(.int .i64 p1.W), (.int .i64 p1.H), (.int .i64 p1.Rail), (.int .i64 p1.Gap), (.slice Ap1_0 (p1.Kinds).length cp1_0), (.slice Ap1_1 (p1.Slots).length cp1_1), (.slice Ap1_2 (p1.Marks).length cp1_2)] 26)] ?_ ?_
            · cases hg131 : ((((((p0.W != p1.W) || (p0.H != p1.H)) || (p0.Rail != p1.Rail)) || (p0.Gap != p1.Gap)) || ((p0.Kinds.length : Int) != (p1.Kinds.length : Int))) || ((p0.Slots.length : Int) != (p1.Slots.length : Int)))
              · refine Tr.val (wg rfl rfl rfl) rfl (fun _ _ h1 h2 => run_fieldAddr fo_26_6 (h1.ev rfl)) ?_
                refine Tr.val (wg rfl rfl rfl) rfl (fun _ _ h1 h2 => run_load1 ag_24 (h1.ev rfl) (rdb h2 (vs := [(.int .i64 p0.W), (.int .i64 p0.H), (.int .i64 p0.Rail), (.int .i64 p0.Gap), (.slice Ap0_0 (p0.Kinds).length cp0_0), (.slice Ap0_1 (p0.Slots).length cp0_1), (.slice Ap0_2 (p0.Marks).length cp0_2)]) (k := 1) rfl 6) rfl) ?_
                refine Tr.val (wg rfl rfl rfl) rfl (fun _ _ h1 h2 => run_len un_24 (h1.ev rfl)) ?_
                refine Tr.val (wg rfl rfl rfl) rfl (fun _ _ h1 h2 => run_fieldAddr fo_26_6 (h1.ev rfl)) ?_
                refine Tr.val (wg rfl rfl rfl) rfl (fun _ _ h1 h2 => run_load1 ag_24 (h1.ev rfl) (rdb h2 (vs := [(.int .i64 p1.W), (.int .i64 p1.H), (.int .i64 p1.Rail), (.int .i64 p1.Gap), (.slice Ap1_0 (p1.Kinds).length cp1_0), (.slice Ap1_1 (p1.Slots).length cp1_1), (.slice Ap1_2 (p1.Marks).length cp1_2)]) (k := 2) rfl 6) rfl) ?_
                refine Tr.val (wg rfl rfl rfl) rfl (fun _ _ h1 h2 => run_len un_24 (h1.ev rfl)) ?_
                refine Tr.val (wg rfl rfl rfl) rfl (fun _ _ h1 h2 => run_neq (h1.ev rfl) (h1.ev rfl)) ?_
                refine Tr.val (wn rfl) rfl (fun _ _ h1 h2 => run_pickF (h1.ev rfl) (h1.ev rfl)) ?_
                exact Tr.nil (Tr.fin0 (.cons rfl (.cons rfl (.cons rfl .nil))) (.cons rfl (.cons rfl .nil)))
              · refine Tr.pass rfl rfl rfl rfl rfl (by decide) ?_
                refine Tr.pass rfl rfl rfl rfl rfl (by decide) ?_
                refine Tr.pass rfl rfl rfl rfl rfl (by decide) ?_
                refine Tr.pass rfl rfl rfl rfl rfl (by decide) ?_
                refine Tr.pass rfl rfl rfl rfl rfl (by decide) ?_
                refine Tr.pass rfl rfl rfl rfl rfl (by decide) ?_
                refine Tr.pass rfl rfl rfl rfl rfl (by decide) ?_
                refine Tr.val (wn rfl) rfl (fun _ _ h1 h2 => run_pickT (h1.ev rfl) (h1.ev rfl)) ?_
                exact Tr.nil (Tr.fin0 (.cons rfl (.cons rfl (.cons rfl .nil))) (.cons rfl (.cons rfl .nil)))
            · show Tr _ _ (LF [(2, (.pointer (some ⟨b100, 0, none⟩))), (3, (.pointer (some ⟨b101, 0, none⟩))), (60, (.bool (((((((p0.W != p1.W) || (p0.H != p1.H)) || (p0.Rail != p1.Rail)) || (p0.Gap != p1.Gap)) || ((p0.Kinds.length : Int) != (p1.Kinds.length : Int))) || ((p0.Slots.length : Int) != (p1.Slots.length : Int))) || ((p0.Marks.length : Int) != (p1.Marks.length : Int)))))]) (LE [(1, bx b100 #[(.int .i64 p0.W), (.int .i64 p0.H), (.int .i64 p0.Rail), (.int .i64 p0.Gap), (.slice Ap0_0 (p0.Kinds).length cp0_0), (.slice Ap0_1 (p0.Slots).length cp0_1), (.slice Ap0_2 (p0.Marks).length cp0_2)] 26), (2, bx b101 #[(.int .i64 p1.W), (.int .i64 p1.H), (.int .i64 p1.Rail), (.int .i64 p1.Gap), (.slice Ap1_0 (p1.Kinds).length cp1_0), (.slice Ap1_1 (p1.Slots).length cp1_1), (.slice Ap1_2 (p1.Marks).length cp1_2)] 26)]) _
              refine Tr.nil (Tr.normThen ?_)
              refine Tr.cond rfl H (fun H => ?_) (fun H => ?_)
              · refine Tr.seq ?_
                refine Tr.region ?_
                refine Tr.val (wn rfl) rfl (fun _ _ h1 h2 => run_assign (h1.ev rfl)) ?_
                refine Tr.nil (Tr.normThen ?_)
                refine Tr.ret (Tr.retThen ?_)
                obtain rfl := Option.some.inj H
                exact Tr.out (m := [(.bool false)]) [] (res_tmp rfl res_nil) (fun W hW => ⟨rfl, hW.low leB⟩)
              · refine Tr.skip (Tr.normThen ?_)
                refine Tr.seq ?_
                refine Tr.seq ?_
                refine Tr.region ?_
                refine Tr.val (wn rfl) rfl (fun _ _ h1 h2 => run_assign (h1.ev rfl)) ?_
                refine Tr.nil (Tr.normThen ?_)
                refine Tr.block ?_
                refine Tr.loop (σ := Int) (fun m w s => F_etchhouseref9_Same_L1 N p0 p1 m s = some r) (fun s => [(2, (.pointer (some ⟨b100, 0, none⟩))), (3, (.pointer (some ⟨b101, 0, none⟩))), (5, (.int .i64 s))]) (fun s => [(1, bx b100 #[(.int .i64 p0.W), (.int .i64 p0.H), (.int .i64 p0.Rail), (.int .i64 p0.Gap), (.slice Ap0_0 (p0.Kinds).length cp0_0), (.slice Ap0_1 (p0.Slots).length cp0_1), (.slice Ap0_2 (p0.Marks).length cp0_2)] 26), (2, bx b101 #[(.int .i64 p1.W), (.int .i64 p1.H), (.int .i64 p1.Rail), (.int .i64 p1.Gap), (.slice Ap1_0 (p1.Kinds).length cp1_0), (.slice Ap1_1 (p1.Slots).length cp1_1), (.slice Ap1_2 (p1.Marks).length cp1_2)] 26)]) N 0 H (.cons rfl (.cons rfl (.cons rfl .nil))) (.cons rfl (.cons rfl .nil)) (fun _ _ h => noSome (h)) ?_
                intro w leF_etchhouseref9_Same_L1 mF_etchhouseref9_Same_L1 x109 hs
                have H := hs
                replace H : F_etchhouseref9_Same_L1 N p0 p1 (mF_etchhouseref9_Same_L1 + 1) x109 = some r := H
                replace hp0_0 := hp0_0.leR leF_etchhouseref9_Same_L1
                replace hp0_1 := hp0_1.leR leF_etchhouseref9_Same_L1
                replace hp0_2 := hp0_2.leR leF_etchhouseref9_Same_L1
                replace hp1_0 := hp1_0.leR leF_etchhouseref9_Same_L1
                replace hp1_1 := hp1_1.leR leF_etchhouseref9_Same_L1
                replace hp1_2 := hp1_2.leR leF_etchhouseref9_Same_L1
                replace leB := leB.trans leF_etchhouseref9_Same_L1
                rw [F_etchhouseref9_Same_L1.eq_2] at H
                show Tr _ _ (LF [(2, (.pointer (some ⟨b100, 0, none⟩))), (3, (.pointer (some ⟨b101, 0, none⟩))), (5, (.int .i64 x109))]) (LE [(1, bx b100 #[(.int .i64 p0.W), (.int .i64 p0.H), (.int .i64 p0.Rail), (.int .i64 p0.Gap), (.slice Ap0_0 (p0.Kinds).length cp0_0), (.slice Ap0_1 (p0.Slots).length cp0_1), (.slice Ap0_2 (p0.Marks).length cp0_2)] 26), (2, bx b101 #[(.int .i64 p1.W), (.int .i64 p1.H), (.int .i64 p1.Rail), (.int .i64 p1.Gap), (.slice Ap1_0 (p1.Kinds).length cp1_0), (.slice Ap1_1 (p1.Slots).length cp1_1), (.slice Ap1_2 (p1.Marks).length cp1_2)] 26)]) _
                refine Tr.seq ?_
                refine Tr.seq ?_
                refine Tr.region ?_
                refine Tr.val (wn rfl) rfl (fun _ _ h1 h2 => run_move (h1.ev rfl)) ?_
                refine Tr.val (wn rfl) rfl (fun _ _ h1 h2 => run_fieldAddr fo_26_4 (h1.ev rfl)) ?_
                refine Tr.val (wn rfl) rfl (fun _ _ h1 h2 => run_load1 ag_22 (h1.ev rfl) (rdb h2 (vs := [(.int .i64 p0.W), (.int .i64 p0.H), (.int .i64 p0.Rail), (.int .i64 p0.Gap), (.slice Ap0_0 (p0.Kinds).length cp0_0), (.slice Ap0_1 (p0.Slots).length cp0_1), (.slice Ap0_2 (p0.Marks).length cp0_2)]) (k := 1) rfl 4) rfl) ?_
                refine Tr.val (wn rfl) rfl (fun _ _ h1 h2 => run_len un_22 (h1.ev rfl)) ?_
                refine Tr.val (wn rfl) rfl (fun _ _ h1 h2 => run_lss (h1.ev rfl) (h1.ev rfl)) ?_
                refine Tr.nil (Tr.normThen ?_)
                refine Tr.cond rfl H (fun H => ?_) (fun H => ?_)
                · refine Tr.skip (Tr.normThen ?_)
                  refine Tr.seq ?_
                  refine Tr.block ?_
                  refine Tr.seq ?_
                  refine Tr.draw (by kernel_rfl) (by kernel_rfl) ?_
                  refine Tq.val (wn rfl) rfl (fun _ _ h1 h2 => run_fieldAddr fo_26_4 (h1.ev rfl)) ?_
                  refine Tq.val (wn rfl) rfl (fun _ _ h1 h2 => run_load1 ag_22 (h1.ev rfl) (rdb h2 (vs := [(.int .i64 p0.W), (.int .i64 p0.H), (.int .i64 p0.Rail), (.int .i64 p0.Gap), (.slice Ap0_0 (p0.Kinds).length cp0_0), (.slice Ap0_1 (p0.Slots).length cp0_1), (.slice Ap0_2 (p0.Marks).length cp0_2)]) (k := 1) rfl 4) rfl) ?_
                  refine Tq.val (wn rfl) rfl (fun _ _ h1 h2 => run_move (h1.ev rfl)) ?_
                  obtain ⟨x110, hx110, H⟩ := bnd H
                  obtain ⟨hx1100, hx1101, hx1102⟩ := idx_some hx110
                  refine Tq.val (wn rfl) rfl (fun _ _ h1 h2 => run_indexAddr el_22 (h1.ev rfl) hp0_0.form (h1.ev rfl) hx1100 hx1101) ?_
                  refine Tq.val (wn rfl) rfl (fun _ _ h1 h2 => run_loadN (cs := [(.string x110.Name), (.int .i64 x110.W), (.int .i64 x110.H)]) ag_82 sz_82 (h1.ev rfl) (CellsAt.take (rdF ef_TBoardKind hp0_0 hx1102 h2) 3) rfl) ?_
                  refine Tq.val (wn rfl) rfl (fun _ _ h1 h2 => run_fieldAddr fo_26_4 (h1.ev rfl)) ?_
                  refine Tq.val (wn rfl) rfl (fun _ _ h1 h2 => run_load1 ag_22 (h1.ev rfl) (rdb h2 (vs := [(.int .i64 p1.W), (.int .i64 p1.H), (.int .i64 p1.Rail), (.int .i64 p1.Gap), (.slice Ap1_0 (p1.Kinds).length cp1_0), (.slice Ap1_1 (p1.Slots).length cp1_1), (.slice Ap1_2 (p1.Marks).length cp1_2)]) (k := 2) rfl 4) rfl) ?_
                  refine Tq.val (wn rfl) rfl (fun _ _ h1 h2 => run_move (h1.ev rfl)) ?_
                  obtain ⟨x111, hx111, H⟩ := bnd H
                  obtain ⟨hx1110, hx1111, hx1112⟩ := idx_some hx111
                  refine Tq.val (wn rfl) rfl (fun _ _ h1 h2 => run_indexAddr el_22 (h1.ev rfl) hp1_0.form (h1.ev rfl) hx1110 hx1111) ?_
                  refine Tq.val (wn rfl) rfl (fun _ _ h1 h2 => run_loadN (cs := [(.string x111.Name), (.int .i64 x111.W), (.int .i64 x111.H)]) ag_82 sz_82 (h1.ev rfl) (CellsAt.take (rdF ef_TBoardKind hp1_0 hx1112 h2) 3) rfl) ?_
                  refine Tq.val (wn rfl) rfl (fun _ _ h1 h2 => run_neq_82 x110 x111 (h1.ev rfl) (h1.ev rfl)) ?_
                  refine Tq.nil (Tr.normThen ?_)
                  refine Tr.cond rfl H (fun H => ?_) (fun H => ?_)
                  · refine Tr.seq ?_
                    refine Tr.region ?_
                    refine Tr.val (wn rfl) rfl (fun _ _ h1 h2 => run_assign (h1.ev rfl)) ?_
                    refine Tr.nil (Tr.normThen ?_)
                    refine Tr.ret (Tr.retBlock (Tr.retThen (Tr.retThen (Tr.retBlock (Tr.retThen ?_)))))
                    obtain rfl := Option.some.inj H
                    exact Tr.out (m := [(.bool false)]) [] (res_tmp rfl res_nil) (fun W hW => ⟨rfl, hW.low leB⟩)
                  · refine Tr.skip (Tr.normBlock (Tr.normThen ?_))
                    refine Tr.region ?_
                    refine Tr.val (wn rfl) rfl (fun _ _ h1 h2 => run_move (h1.ev rfl)) ?_
                    refine Tr.val (wn rfl) rfl (fun _ _ h1 h2 => run_add (h1.ev rfl) (h1.ev rfl)) ?_
                    refine Tr.val (wn rfl) rfl (fun _ _ h1 h2 => run_assign (h1.ev rfl)) ?_
                    refine Tr.nil ?_
                    exact Tr.backThen leF_etchhouseref9_Same_L1 (w64 (x109 + 1)) H (.cons rfl (.cons rfl (.cons rfl .nil))) (.cons rfl (.cons rfl .nil))
                · refine Tr.exit (Tr.exitThen (Tr.exitThen (Tr.exitBlock (Tr.normThen ?_))))
                  refine Tr.seq ?_
                  refine Tr.seq ?_
                  refine Tr.region ?_
                  refine Tr.val (wn rfl) rfl (fun _ _ h1 h2 => run_assign (h1.ev rfl)) ?_
                  refine Tr.nil (Tr.normThen ?_)
                  refine Tr.block ?_
                  refine Tr.loop (σ := Int) (fun m w s => F_etchhouseref9_Same_L2 N p0 p1 m s = some r) (fun s => [(2, (.pointer (some ⟨b100, 0, none⟩))), (3, (.pointer (some ⟨b101, 0, none⟩))), (6, (.int .i64 s))]) (fun s => [(1, bx b100 #[(.int .i64 p0.W), (.int .i64 p0.H), (.int .i64 p0.Rail), (.int .i64 p0.Gap), (.slice Ap0_0 (p0.Kinds).length cp0_0), (.slice Ap0_1 (p0.Slots).length cp0_1), (.slice Ap0_2 (p0.Marks).length cp0_2)] 26), (2, bx b101 #[(.int .i64 p1.W), (.int .i64 p1.H), (.int .i64 p1.Rail), (.int .i64 p1.Gap), (.slice Ap1_0 (p1.Kinds).length cp1_0), (.slice Ap1_1 (p1.Slots).length cp1_1), (.slice Ap1_2 (p1.Marks).length cp1_2)] 26)]) N 0 H (.cons rfl (.cons rfl (.cons rfl .nil))) (.cons rfl (.cons rfl .nil)) (fun _ _ h => noSome (h)) ?_
                  intro w leF_etchhouseref9_Same_L2 mF_etchhouseref9_Same_L2 x119 hs
                  have H := hs
                  replace H : F_etchhouseref9_Same_L2 N p0 p1 (mF_etchhouseref9_Same_L2 + 1) x119 = some r := H
                  replace hp0_0 := hp0_0.leR leF_etchhouseref9_Same_L2
                  replace hp0_1 := hp0_1.leR leF_etchhouseref9_Same_L2
                  replace hp0_2 := hp0_2.leR leF_etchhouseref9_Same_L2
                  replace hp1_0 := hp1_0.leR leF_etchhouseref9_Same_L2
                  replace hp1_1 := hp1_1.leR leF_etchhouseref9_Same_L2
                  replace hp1_2 := hp1_2.leR leF_etchhouseref9_Same_L2
                  replace leB := leB.trans leF_etchhouseref9_Same_L2
                  replace leF_etchhouseref9_Same_L1 := leF_etchhouseref9_Same_L1.trans leF_etchhouseref9_Same_L2
                  rw [F_etchhouseref9_Same_L2.eq_2] at H
                  show Tr _ _ (LF [(2, (.pointer (some ⟨b100, 0, none⟩))), (3, (.pointer (some ⟨b101, 0, none⟩))), (6, (.int .i64 x119))]) (LE [(1, bx b100 #[(.int .i64 p0.W), (.int .i64 p0.H), (.int .i64 p0.Rail), (.int .i64 p0.Gap), (.slice Ap0_0 (p0.Kinds).length cp0_0), (.slice Ap0_1 (p0.Slots).length cp0_1), (.slice Ap0_2 (p0.Marks).length cp0_2)] 26), (2, bx b101 #[(.int .i64 p1.W), (.int .i64 p1.H), (.int .i64 p1.Rail), (.int .i64 p1.Gap), (.slice Ap1_0 (p1.Kinds).length cp1_0), (.slice Ap1_1 (p1.Slots).length cp1_1), (.slice Ap1_2 (p1.Marks).length cp1_2)] 26)]) _
                  refine Tr.seq ?_
                  refine Tr.seq ?_
                  refine Tr.region ?_
                  refine Tr.val (wn rfl) rfl (fun _ _ h1 h2 => run_move (h1.ev rfl)) ?_
                  refine Tr.val (wn rfl) rfl (fun _ _ h1 h2 => run_fieldAddr fo_26_5 (h1.ev rfl)) ?_
                  refine Tr.val (wn rfl) rfl (fun _ _ h1 h2 => run_load1 ag_23 (h1.ev rfl) (rdb h2 (vs := [(.int .i64 p0.W), (.int .i64 p0.H), (.int .i64 p0.Rail), (.int .i64 p0.Gap), (.slice Ap0_0 (p0.Kinds).length cp0_0), (.slice Ap0_1 (p0.Slots).length cp0_1), (.slice Ap0_2 (p0.Marks).length cp0_2)]) (k := 1) rfl 5) rfl) ?_
                  refine Tr.val (wn rfl) rfl (fun _ _ h1 h2 => run_len un_23 (h1.ev rfl)) ?_
                  refine Tr.val (wn rfl) rfl (fun _ _ h1 h2 => run_lss (h1.ev rfl) (h1.ev rfl)) ?_
                  refine Tr.nil (Tr.normThen ?_)
                  refine Tr.cond rfl H (fun H => ?_) (fun H => ?_)
                  · refine Tr.skip (Tr.normThen ?_)
                    refine Tr.seq ?_
                    refine Tr.block ?_
                    refine Tr.seq ?_
                    refine Tr.draw (by kernel_rfl) (by kernel_rfl) ?_
                    refine Tq.val (wn rfl) rfl (fun _ _ h1 h2 => run_fieldAddr fo_26_5 (h1.ev rfl)) ?_
                    refine Tq.val (wn rfl) rfl (fun _ _ h1 h2 => run_load1 ag_23 (h1.ev rfl) (rdb h2 (vs := [(.int .i64 p0.W), (.int .i64 p0.H), (.int .i64 p0.Rail), (.int .i64 p0.Gap), (.slice Ap0_0 (p0.Kinds).length cp0_0), (.slice Ap0_1 (p0.Slots).length cp0_1), (.slice Ap0_2 (p0.Marks).length cp0_2)]) (k := 1) rfl 5) rfl) ?_
                    refine Tq.val (wn rfl) rfl (fun _ _ h1 h2 => run_move (h1.ev rfl)) ?_
                    obtain ⟨x120, hx120, H⟩ := bnd H
                    obtain ⟨hx1200, hx1201, hx1202⟩ := idx_some hx120
                    refine Tq.val (wn rfl) rfl (fun _ _ h1 h2 => run_indexAddr el_23 (h1.ev rfl) hp0_1.form (h1.ev rfl) hx1200 hx1201) ?_
                    refine Tq.val (wn rfl) rfl (fun _ _ h1 h2 => run_loadN (cs := [(.string x120.Board), (.int .i64 x120.Quarters), (.int .i64 x120.At.X), (.int .i64 x120.At.Y)]) ag_34 sz_34 (h1.ev rfl) (CellsAt.take (rdF ef_TSlot hp0_1 hx1202 h2) 4) rfl) ?_
                    refine Tq.val (wn rfl) rfl (fun _ _ h1 h2 => run_fieldAddr fo_26_5 (h1.ev rfl)) ?_
                    refine Tq.val (wn rfl) rfl (fun _ _ h1 h2 => run_load1 ag_23 (h1.ev rfl) (rdb h2 (vs := [(.int .i64 p1.W), (.int .i64 p1.H), (.int .i64 p1.Rail), (.int .i64 p1.Gap), (.slice Ap1_0 (p1.Kinds).length cp1_0), (.slice Ap1_1 (p1.Slots).length cp1_1), (.slice Ap1_2 (p1.Marks).length cp1_2)]) (k := 2) rfl 5) rfl) ?_
                    refine Tq.val (wn rfl) rfl (fun _ _ h1 h2 => run_move (h1.ev rfl)) ?_
                    obtain ⟨x121, hx121, H⟩ := bnd H
                    obtain ⟨hx1210, hx1211, hx1212⟩ := idx_some hx121
                    refine Tq.val (wn rfl) rfl (fun _ _ h1 h2 => run_indexAddr el_23 (h1.ev rfl) hp1_1.form (h1.ev rfl) hx1210 hx1211) ?_
                    refine Tq.val (wn rfl) rfl (fun _ _ h1 h2 => run_loadN (cs := [(.string x121.Board), (.int .i64 x121.Quarters), (.int .i64 x121.At.X), (.int .i64 x121.At.Y)]) ag_34 sz_34 (h1.ev rfl) (CellsAt.take (rdF ef_TSlot hp1_1 hx1212 h2) 4) rfl) ?_
                    refine Tq.val (wn rfl) rfl (fun _ _ h1 h2 => run_neq_34 x120 x121 (h1.ev rfl) (h1.ev rfl)) ?_
                    refine Tq.nil (Tr.normThen ?_)
                    refine Tr.cond rfl H (fun H => ?_) (fun H => ?_)
                    · refine Tr.seq ?_
                      refine Tr.region ?_
                      refine Tr.val (wn rfl) rfl (fun _ _ h1 h2 => run_assign (h1.ev rfl)) ?_
                      refine Tr.nil (Tr.normThen ?_)
                      refine Tr.ret (Tr.retBlock (Tr.retThen (Tr.retThen (Tr.retBlock (Tr.retThen ?_)))))
                      obtain rfl := Option.some.inj H
                      exact Tr.out (m := [(.bool false)]) [] (res_tmp rfl res_nil) (fun W hW => ⟨rfl, hW.low leB⟩)
                    · refine Tr.skip (Tr.normBlock (Tr.normThen ?_))
                      refine Tr.region ?_
                      refine Tr.val (wn rfl) rfl (fun _ _ h1 h2 => run_move (h1.ev rfl)) ?_
                      refine Tr.val (wn rfl) rfl (fun _ _ h1 h2 => run_add (h1.ev rfl) (h1.ev rfl)) ?_
                      refine Tr.val (wn rfl) rfl (fun _ _ h1 h2 => run_assign (h1.ev rfl)) ?_
                      refine Tr.nil ?_
                      exact Tr.backThen leF_etchhouseref9_Same_L2 (w64 (x119 + 1)) H (.cons rfl (.cons rfl (.cons rfl .nil))) (.cons rfl (.cons rfl .nil))
                  · refine Tr.exit (Tr.exitThen (Tr.exitThen (Tr.exitBlock (Tr.normThen ?_))))
                    refine Tr.seq ?_
                    refine Tr.seq ?_
                    refine Tr.region ?_
                    refine Tr.val (wn rfl) rfl (fun _ _ h1 h2 => run_assign (h1.ev rfl)) ?_
                    refine Tr.nil (Tr.normThen ?_)
                    refine Tr.block ?_
                    refine Tr.loop (σ := Int) (fun m w s => F_etchhouseref9_Same_L3 p0 p1 m s = some r) (fun s => [(2, (.pointer (some ⟨b100, 0, none⟩))), (3, (.pointer (some ⟨b101, 0, none⟩))), (7, (.int .i64 s))]) (fun s => [(1, bx b100 #[(.int .i64 p0.W), (.int .i64 p0.H), (.int .i64 p0.Rail), (.int .i64 p0.Gap), (.slice Ap0_0 (p0.Kinds).length cp0_0), (.slice Ap0_1 (p0.Slots).length cp0_1), (.slice Ap0_2 (p0.Marks).length cp0_2)] 26), (2, bx b101 #[(.int .i64 p1.W), (.int .i64 p1.H), (.int .i64 p1.Rail), (.int .i64 p1.Gap), (.slice Ap1_0 (p1.Kinds).length cp1_0), (.slice Ap1_1 (p1.Slots).length cp1_1), (.slice Ap1_2 (p1.Marks).length cp1_2)] 26)]) N 0 H (.cons rfl (.cons rfl (.cons rfl .nil))) (.cons rfl (.cons rfl .nil)) (fun _ _ h => noSome (h)) ?_
                    intro w leF_etchhouseref9_Same_L3 mF_etchhouseref9_Same_L3 x129 hs
                    have H := hs
                    replace H : F_etchhouseref9_Same_L3 p0 p1 (mF_etchhouseref9_Same_L3 + 1) x129 = some r := H
                    replace hp0_0 := hp0_0.leR leF_etchhouseref9_Same_L3
                    replace hp0_1 := hp0_1.leR leF_etchhouseref9_Same_L3
                    replace hp0_2 := hp0_2.leR leF_etchhouseref9_Same_L3
                    replace hp1_0 := hp1_0.leR leF_etchhouseref9_Same_L3
                    replace hp1_1 := hp1_1.leR leF_etchhouseref9_Same_L3
                    replace hp1_2 := hp1_2.leR leF_etchhouseref9_Same_L3
                    replace leB := leB.trans leF_etchhouseref9_Same_L3
                    replace leF_etchhouseref9_Same_L1 := leF_etchhouseref9_Same_L1.trans leF_etchhouseref9_Same_L3
                    replace leF_etchhouseref9_Same_L2 := leF_etchhouseref9_Same_L2.trans leF_etchhouseref9_Same_L3
                    rw [F_etchhouseref9_Same_L3.eq_2] at H
                    show Tr _ _ (LF [(2, (.pointer (some ⟨b100, 0, none⟩))), (3, (.pointer (some ⟨b101, 0, none⟩))), (7, (.int .i64 x129))]) (LE [(1, bx b100 #[(.int .i64 p0.W), (.int .i64 p0.H), (.int .i64 p0.Rail), (.int .i64 p0.Gap), (.slice Ap0_0 (p0.Kinds).length cp0_0), (.slice Ap0_1 (p0.Slots).length cp0_1), (.slice Ap0_2 (p0.Marks).length cp0_2)] 26), (2, bx b101 #[(.int .i64 p1.W), (.int .i64 p1.H), (.int .i64 p1.Rail), (.int .i64 p1.Gap), (.slice Ap1_0 (p1.Kinds).length cp1_0), (.slice Ap1_1 (p1.Slots).length cp1_1), (.slice Ap1_2 (p1.Marks).length cp1_2)] 26)]) _
                    refine Tr.seq ?_
                    refine Tr.seq ?_
                    refine Tr.region ?_
                    refine Tr.val (wn rfl) rfl (fun _ _ h1 h2 => run_move (h1.ev rfl)) ?_
                    refine Tr.val (wn rfl) rfl (fun _ _ h1 h2 => run_fieldAddr fo_26_6 (h1.ev rfl)) ?_
                    refine Tr.val (wn rfl) rfl (fun _ _ h1 h2 => run_load1 ag_24 (h1.ev rfl) (rdb h2 (vs := [(.int .i64 p0.W), (.int .i64 p0.H), (.int .i64 p0.Rail), (.int .i64 p0.Gap), (.slice Ap0_0 (p0.Kinds).length cp0_0), (.slice Ap0_1 (p0.Slots).length cp0_1), (.slice Ap0_2 (p0.Marks).length cp0_2)]) (k := 1) rfl 6) rfl) ?_
                    refine Tr.val (wn rfl) rfl (fun _ _ h1 h2 => run_len un_24 (h1.ev rfl)) ?_
                    refine Tr.val (wn rfl) rfl (fun _ _ h1 h2 => run_lss (h1.ev rfl) (h1.ev rfl)) ?_
                    refine Tr.nil (Tr.normThen ?_)
                    refine Tr.cond rfl H (fun H => ?_) (fun H => ?_)
                    · refine Tr.skip (Tr.normThen ?_)
                      refine Tr.seq ?_
                      refine Tr.block ?_
                      refine Tr.seq ?_
                      refine Tr.draw (by kernel_rfl) (by kernel_rfl) ?_
                      refine Tq.val (wn rfl) rfl (fun _ _ h1 h2 => run_fieldAddr fo_26_6 (h1.ev rfl)) ?_
                      refine Tq.val (wn rfl) rfl (fun _ _ h1 h2 => run_load1 ag_24 (h1.ev rfl) (rdb h2 (vs := [(.int .i64 p0.W), (.int .i64 p0.H), (.int .i64 p0.Rail), (.int .i64 p0.Gap), (.slice Ap0_0 (p0.Kinds).length cp0_0), (.slice Ap0_1 (p0.Slots).length cp0_1), (.slice Ap0_2 (p0.Marks).length cp0_2)]) (k := 1) rfl 6) rfl) ?_
                      refine Tq.val (wn rfl) rfl (fun _ _ h1 h2 => run_move (h1.ev rfl)) ?_
                      obtain ⟨x130, hx130, H⟩ := bnd H
                      obtain ⟨hx1300, hx1301, hx1302⟩ := idx_some hx130
                      refine Tq.val (wn rfl) rfl (fun _ _ h1 h2 => run_indexAddr el_24 (h1.ev rfl) hp0_2.form (h1.ev rfl) hx1300 hx1301) ?_
                      refine Tq.val (wn rfl) rfl (fun _ _ h1 h2 => run_loadN (cs := [(.int .i64 x130.X), (.int .i64 x130.Y)]) ag_32 sz_32 (h1.ev rfl) (CellsAt.take (rdF ef_TPoint hp0_2 hx1302 h2) 2) rfl) ?_
                      refine Tq.val (wn rfl) rfl (fun _ _ h1 h2 => run_fieldAddr fo_26_6 (h1.ev rfl)) ?_
                      refine Tq.val (wn rfl) rfl (fun _ _ h1 h2 => run_load1 ag_24 (h1.ev rfl) (rdb h2 (vs := [(.int .i64 p1.W), (.int .i64 p1.H), (.int .i64 p1.Rail), (.int .i64 p1.Gap), (.slice Ap1_0 (p1.Kinds).length cp1_0), (.slice Ap1_1 (p1.Slots).length cp1_1), (.slice Ap1_2 (p1.Marks).length cp1_2)]) (k := 2) rfl 6) rfl) ?_
                      refine Tq.val (wn rfl) rfl (fun _ _ h1 h2 => run_move (h1.ev rfl)) ?_
                      obtain ⟨x131, hx131, H⟩ := bnd H
                      obtain ⟨hx1310, hx1311, hx1312⟩ := idx_some hx131
                      refine Tq.val (wn rfl) rfl (fun _ _ h1 h2 => run_indexAddr el_24 (h1.ev rfl) hp1_2.form (h1.ev rfl) hx1310 hx1311) ?_
                      refine Tq.val (wn rfl) rfl (fun _ _ h1 h2 => run_loadN (cs := [(.int .i64 x131.X), (.int .i64 x131.Y)]) ag_32 sz_32 (h1.ev rfl) (CellsAt.take (rdF ef_TPoint hp1_2 hx1312 h2) 2) rfl) ?_
                      refine Tq.val (wn rfl) rfl (fun _ _ h1 h2 => run_neq_32 x130 x131 (h1.ev rfl) (h1.ev rfl)) ?_
                      refine Tq.nil (Tr.normThen ?_)
                      refine Tr.cond rfl H (fun H => ?_) (fun H => ?_)
                      · refine Tr.seq ?_
                        refine Tr.region ?_
                        refine Tr.val (wn rfl) rfl (fun _ _ h1 h2 => run_assign (h1.ev rfl)) ?_
                        refine Tr.nil (Tr.normThen ?_)
                        refine Tr.ret (Tr.retBlock (Tr.retThen (Tr.retThen (Tr.retBlock (Tr.retThen ?_)))))
                        obtain rfl := Option.some.inj H
                        exact Tr.out (m := [(.bool false)]) [] (res_tmp rfl res_nil) (fun W hW => ⟨rfl, hW.low leB⟩)
                      · refine Tr.skip (Tr.normBlock (Tr.normThen ?_))
                        refine Tr.region ?_
                        refine Tr.val (wn rfl) rfl (fun _ _ h1 h2 => run_move (h1.ev rfl)) ?_
                        refine Tr.val (wn rfl) rfl (fun _ _ h1 h2 => run_add (h1.ev rfl) (h1.ev rfl)) ?_
                        refine Tr.val (wn rfl) rfl (fun _ _ h1 h2 => run_assign (h1.ev rfl)) ?_
                        refine Tr.nil ?_
                        exact Tr.backThen leF_etchhouseref9_Same_L3 (w64 (x129 + 1)) H (.cons rfl (.cons rfl (.cons rfl .nil))) (.cons rfl (.cons rfl .nil))
                    · refine Tr.exit (Tr.exitThen (Tr.exitThen (Tr.exitBlock (Tr.normThen ?_))))
                      refine Tr.seq ?_
                      refine Tr.region ?_
                      refine Tr.val (wn rfl) rfl (fun _ _ h1 h2 => run_assign (h1.ev rfl)) ?_
                      refine Tr.nil (Tr.normThen ?_)
                      refine Tr.ret ?_
                      obtain rfl := Option.some.inj H
                      exact Tr.out (m := [(.bool true)]) [] (res_tmp rfl res_nil) (fun W hW => ⟨rfl, hW.low leB⟩)

theorem F_slices_Equal_Slot_ok {w : Bs} (p0 : (List TSlot)) (Ap0_0 : Option Addr) (cp0_0 : Nat) (hp0_0 : Sl w.R w.W fl_TSlot Ap0_0 cp0_0 p0) (p1 : (List TSlot)) (Ap1_0 : Option Addr) (cp1_0 : Nat) (hp1_0 : Sl w.R w.W fl_TSlot Ap1_0 cp1_0 p1) (r : Bool) (H : F_slices_Equal_Slot p0 p1 = some r) (hE : HF w w.W E0) : Calls Try.prog 33 [(.slice Ap0_0 (p0).length cp0_0), (.slice Ap1_0 (p1).length cp1_0)].toArray w.W fun e W' => e = .returned (.bool r) ∧ HF w W' E0 := by
  unfold F_slices_Equal_Slot at H
  have leB := Bs.Le.refl w
  refine Tr.enter (n := 26) Try.func33 rfl rfl rfl hE ?_
  refine Tr.seq ?_
  refine Tr.region ?_
  refine Tr.val (wn rfl) rfl (fun _ _ h1 h2 => run_assign (h1.ev rfl)) ?_
  refine Tr.nil (Tr.normThen ?_)
  refine Tr.seq ?_
  refine Tr.seq ?_
  refine Tr.region ?_
  refine Tr.val (wn rfl) rfl (fun _ _ h1 h2 => run_move (h1.ev rfl)) ?_
  refine Tr.val (wn rfl) rfl (fun _ _ h1 h2 => run_len un_23 (h1.ev rfl)) ?_
  refine Tr.val (wn rfl) rfl (fun _ _ h1 h2 => run_move (h1.ev rfl)) ?_
  refine Tr.val (wn rfl) rfl (fun _ _ h1 h2 => run_len un_23 (h1.ev rfl)) ?_
  refine Tr.val (wn rfl) rfl (fun _ _ h1 h2 => run_neq (h1.ev rfl) (h1.ev rfl)) ?_
  refine Tr.nil (Tr.normThen ?_)
  refine Tr.cond rfl H (fun H => ?_) (fun H => ?_)
  · refine Tr.seq ?_
    refine Tr.region ?_
    refine Tr.val (wn rfl) rfl (fun _ _ h1 h2 => run_assign (h1.ev rfl)) ?_
    refine Tr.nil (Tr.normThen ?_)
    refine Tr.ret (Tr.retThen ?_)
    obtain rfl := Option.some.inj H
    exact Tr.out (m := [(.bool false)]) [] (res_tmp rfl res_nil) (fun W hW => ⟨rfl, hW.low leB⟩)
  · refine Tr.skip (Tr.normThen ?_)
    refine Tr.seq ?_
    refine Tr.seq ?_
    refine Tr.region ?_
    refine Tr.val (wn rfl) rfl (fun _ _ h1 h2 => run_move (h1.ev rfl)) ?_
    refine Tr.val (wn rfl) rfl (fun _ _ h1 h2 => run_len un_23 (h1.ev rfl)) ?_
    refine Tr.val (wn rfl) rfl (fun _ _ h1 h2 => run_move (h1.ev rfl)) ?_
    refine Tr.nil (Tr.normThen ?_)
    refine Tr.block ?_
    refine Tr.loop (σ := (List TSlot) × Nat) (fun m w s => m = s.1.length + 1 ∧ s.1 = List.drop s.2 p0 ∧ s.2 ≤ p0.length ∧ F_slices_Equal_Slot_L1 p1 s.1 s.2 = some r) (fun s => [(0, (.slice Ap0_0 (p0).length cp0_0)), (1, (.slice Ap1_0 (p1).length cp1_0)), (12, (.int .i64 (p0.length : Int))), (13, (.int .i64 (s.2 : Int)))]) (fun s => []) (p0.length + 1) (p0, 0) ⟨rfl, rfl, Nat.zero_le _, H⟩ (.cons rfl (.cons rfl (.cons rfl (.cons rfl .nil)))) .nil (fun _ _ h => absurd h.1 (by simp)) ?_
    intro w leF_slices_Equal_Slot_L1 m s hs
    obtain ⟨restF_slices_Equal_Slot_L1, iF_slices_Equal_Slot_L1⟩ := s
    obtain ⟨hmF_slices_Equal_Slot_L1, hdF_slices_Equal_Slot_L1, hiF_slices_Equal_Slot_L1, H⟩ := hs
    replace hdF_slices_Equal_Slot_L1 : restF_slices_Equal_Slot_L1 = List.drop iF_slices_Equal_Slot_L1 p0 := hdF_slices_Equal_Slot_L1
    replace H : F_slices_Equal_Slot_L1 p1 restF_slices_Equal_Slot_L1 iF_slices_Equal_Slot_L1 = some r := H
    replace hmF_slices_Equal_Slot_L1 : m + 1 = restF_slices_Equal_Slot_L1.length + 1 := hmF_slices_Equal_Slot_L1
    replace hp0_0 := hp0_0.leR leF_slices_Equal_Slot_L1
    replace hp1_0 := hp1_0.leR leF_slices_Equal_Slot_L1
    replace leB := leB.trans leF_slices_Equal_Slot_L1
    obtain rfl : m = restF_slices_Equal_Slot_L1.length := by omega
    clear hmF_slices_Equal_Slot_L1
    show Tr _ _ (LF [(0, (.slice Ap0_0 (p0).length cp0_0)), (1, (.slice Ap1_0 (p1).length cp1_0)), (12, (.int .i64 (p0.length : Int))), (13, (.int .i64 (iF_slices_Equal_Slot_L1 : Int)))]) (LE []) _
    cases restF_slices_Equal_Slot_L1 with
    | nil =>
      rw [F_slices_Equal_Slot_L1.eq_1] at H
      refine Tr.seq ?_
      refine Tr.region ?_
      refine Tr.val (wn rfl) rfl (fun _ _ h1 h2 => run_lss (h1.ev rfl) (h1.ev rfl)) ?_
      refine Tr.nil (Tr.normThen ?_)
      refine Tr.seq ?_
      refine Tr.condF rfl (range_nil hdF_slices_Equal_Slot_L1) ?_
      refine Tr.exit (Tr.exitThen (Tr.exitThen (Tr.exitBlock (Tr.normThen ?_))))
      refine Tr.seq ?_
      refine Tr.region ?_
      refine Tr.val (wn rfl) rfl (fun _ _ h1 h2 => run_assign (h1.ev rfl)) ?_
      refine Tr.nil (Tr.normThen ?_)
      refine Tr.ret ?_
      obtain rfl := Option.some.inj H
      exact Tr.out (m := [(.bool true)]) [] (res_tmp rfl res_nil) (fun W hW => ⟨rfl, hW.low leB⟩)
    | cons xF_slices_Equal_Slot_L1 restF_slices_Equal_Slot_L1 =>
      rw [F_slices_Equal_Slot_L1.eq_2] at H
      refine Tr.seq ?_
      refine Tr.region ?_
      refine Tr.val (wn rfl) rfl (fun _ _ h1 h2 => run_lss (h1.ev rfl) (h1.ev rfl)) ?_
      refine Tr.nil (Tr.normThen ?_)
      refine Tr.seq ?_
      refine Tr.condT rfl (range_on hdF_slices_Equal_Slot_L1) ?_
      refine Tr.skip (Tr.normThen ?_)
      refine Tr.seq ?_
      refine Tr.block ?_
      refine Tr.seq ?_
      refine Tr.region ?_
      refine Tr.val (wn rfl) rfl (fun _ _ h1 h2 => run_move (h1.ev rfl)) ?_
      refine Tr.val (wn rfl) rfl (fun _ _ h1 h2 => run_assign (h1.ev rfl)) ?_
      refine Tr.nil (Tr.normThen ?_)
      refine Tr.seq ?_
      refine Tr.draw (by kernel_rfl) (by kernel_rfl) ?_
      refine Tq.val (wn rfl) rfl (fun _ _ h1 h2 => run_move (h1.ev rfl)) ?_
      refine Tq.val (wn rfl) rfl (fun _ _ h1 h2 => run_move (h1.ev rfl)) ?_
      refine Tq.val (wn rfl) rfl (fun _ _ h1 h2 => run_indexAddr el_23 (h1.ev rfl) hp0_0.form (h1.ev rfl) (Int.natCast_nonneg _) (range_lt hdF_slices_Equal_Slot_L1)) ?_
      refine Tq.val (wn rfl) rfl (fun _ _ h1 h2 => run_loadN (cs := [(.string xF_slices_Equal_Slot_L1.Board), (.int .i64 xF_slices_Equal_Slot_L1.Quarters), (.int .i64 xF_slices_Equal_Slot_L1.At.X), (.int .i64 xF_slices_Equal_Slot_L1.At.Y)]) ag_34 sz_34 (h1.ev rfl) (CellsAt.take (rdF ef_TSlot hp0_0 (range_at hdF_slices_Equal_Slot_L1) h2) 4) rfl) ?_
      refine Tq.val (wn rfl) rfl (fun _ _ h1 h2 => run_move (h1.ev rfl)) ?_
      refine Tq.val (wn rfl) rfl (fun _ _ h1 h2 => run_move (h1.ev rfl)) ?_
      obtain ⟨x103, hx103, H⟩ := bnd H
      obtain ⟨hx1030, hx1031, hx1032⟩ := idx_some hx103
      refine Tq.val (wn rfl) rfl (fun _ _ h1 h2 => run_indexAddr el_23 (h1.ev rfl) hp1_0.form (h1.ev rfl) hx1030 hx1031) ?_
      refine Tq.val (wn rfl) rfl (fun _ _ h1 h2 => run_loadN (cs := [(.string x103.Board), (.int .i64 x103.Quarters), (.int .i64 x103.At.X), (.int .i64 x103.At.Y)]) ag_34 sz_34 (h1.ev rfl) (CellsAt.take (rdF ef_TSlot hp1_0 hx1032 h2) 4) rfl) ?_
      refine Tq.val (wn rfl) rfl (fun _ _ h1 h2 => run_neq_34 xF_slices_Equal_Slot_L1 x103 (h1.ev rfl) (h1.ev rfl)) ?_
      refine Tq.nil (Tr.normThen ?_)
      refine Tr.cond rfl H (fun H => ?_) (fun H => ?_)
      · refine Tr.seq ?_
        refine Tr.region ?_
        refine Tr.val (wn rfl) rfl (fun _ _ h1 h2 => run_assign (h1.ev rfl)) ?_
        refine Tr.nil (Tr.normThen ?_)
        refine Tr.ret (Tr.retBlock (Tr.retThen (Tr.retThen (Tr.retBlock (Tr.retThen ?_)))))
        obtain rfl := Option.some.inj H
        exact Tr.out (m := [(.bool false)]) [] (res_tmp rfl res_nil) (fun W hW => ⟨rfl, hW.low leB⟩)
      · refine Tr.skip (Tr.normBlock (Tr.normThen ?_))
        refine Tr.region ?_
        refine Tr.val (wn rfl) rfl (fun _ _ h1 h2 => run_add (h1.ev rfl) (h1.ev rfl)) ?_
        refine Tr.val (wn rfl) rfl (fun _ _ h1 h2 => run_move (h1.ev rfl)) ?_
        refine Tr.nil ?_
        exact Tr.backThen leF_slices_Equal_Slot_L1 (restF_slices_Equal_Slot_L1, (iF_slices_Equal_Slot_L1 + 1)) ⟨rfl, range_tl hdF_slices_Equal_Slot_L1, range_lt hdF_slices_Equal_Slot_L1, H⟩ (.cons rfl (.cons rfl (.cons rfl (.cons (congrArg (fun z => some (Value.int .i64 z)) (range_up hdF_slices_Equal_Slot_L1 hp0_0.form)) .nil)))) .nil

theorem F_panel_CheckPanel_ok (N : Nat) {w : Bs} (p0 : TPanel) (Ap0_0 : Option Addr) (cp0_0 : Nat) (hp0_0 : Sl w.R w.W fl_TBoardKind Ap0_0 cp0_0 p0.Kinds) (Ap0_1 : Option Addr) (cp0_1 : Nat) (hp0_1 : Sl w.R w.W fl_TSlot Ap0_1 cp0_1 p0.Slots) (Ap0_2 : Option Addr) (cp0_2 : Nat) (hp0_2 : Sl w.R w.W fl_TPoint Ap0_2 cp0_2 p0.Marks) (r : Int) (H : F_panel_CheckPanel N p0 = some r) (hE : HF w w.W E0) : Calls Try.prog 31 [(.agg #[(.int .i64 p0.W), (.int .i64 p0.H), (.int .i64 p0.Rail), (.int .i64 p0.Gap), (.slice Ap0_0 (p0.Kinds).length cp0_0), (.slice Ap0_1 (p0.Slots).length cp0_1), (.slice Ap0_2 (p0.Marks).length cp0_2)])].toArray w.W fun e W' => e = .returned (.int .i64 r) ∧ HF w W' E0 := by
  unfold F_panel_CheckPanel at H
  have leB := Bs.Le.refl w
  refine Tr.enter (n := 11) Try.func31 rfl rfl rfl hE ?_
  refine Tr.seq ?_
  refine Tr.region ?_
  refine Tr.box 1 (cs := [(.int .i64 p0.W), (.int .i64 p0.H), (.int .i64 p0.Rail), (.int .i64 p0.Gap), (.slice Ap0_0 (p0.Kinds).length cp0_0), (.slice Ap0_1 (p0.Slots).length cp0_1), (.slice Ap0_2 (p0.Marks).length cp0_2)]) (wn rfl) rfl rfl rfl fun b100 => ?_
  refine Tr.val (wn rfl) rfl (fun _ _ h1 h2 => run_assign (h1.ev rfl)) ?_
  refine Tr.nil (Tr.normThen ?_)
  refine Tr.seq ?_
  refine Tr.region ?_
  refine Tr.val (wn rfl) rfl (fun _ _ h1 h2 => run_loadN (cs := [(.int .i64 p0.W), (.int .i64 p0.H), (.int .i64 p0.Rail), (.int .i64 p0.Gap), (.slice Ap0_0 (p0.Kinds).length cp0_0), (.slice Ap0_1 (p0.Slots).length cp0_1), (.slice Ap0_2 (p0.Marks).length cp0_2)]) ag_26 sz_26 (h1.ev rfl) (CellsAt.take (rdb h2 (vs := [(.int .i64 p0.W), (.int .i64 p0.H), (.int .i64 p0.Rail), (.int .i64 p0.Gap), (.slice Ap0_0 (p0.Kinds).length cp0_0), (.slice Ap0_1 (p0.Slots).length cp0_1), (.slice Ap0_2 (p0.Marks).length cp0_2)]) (k := 1) rfl 0) 7) rfl) ?_
  obtain ⟨y101, hy101, H⟩ := bnd H
  refine Tr.callM [2] [emp] (U := (Option Addr × Nat)) (fun u => (.tuple #[(.slice u.1 (y101.1).length u.2), (.int .i64 y101.2)])) (fun u => SlF u.1 (y101.1).length u.2) (fun u => [ow u.1 u.2 42 fl_TRect y101.1]) rfl (pk_cons rfl pk_nil) (fun _ => rfl) (wn rfl) rfl Try.call47 (evl_cons rfl evl_nil) (fun W hW hp hE => F_panel_open_ok N p0 Ap0_0 cp0_0 (hp0_0.ext (hW.extS hp)) Ap0_1 cp0_1 (hp0_1.ext (hW.extS hp)) Ap0_2 cp0_2 (hp0_2.ext (hW.extS hp)) y101 hy101 hE) ?_
  intro u hu
  obtain ⟨Ay101_0, cy101_0⟩ := u
  have gy101_0 := hu
  have hgy101_0 : SlF Ay101_0 (y101.1).length cy101_0 := gy101_0 --@phi
  show Tr _ _ (uf _ 7 (.tuple #[(.slice Ay101_0 (y101.1).length cy101_0), (.int .i64 y101.2)])) (up _ 2 (ow Ay101_0 cy101_0 42 fl_TRect y101.1)) _
  refine Tr.val (wn rfl) rfl (fun _ _ h1 h2 => run_move (h1.ev rfl)) ?_
  refine Tr.val (wn rfl) rfl (fun _ _ h1 h2 => run_extract (h1.ev rfl) rfl) ?_
  refine Tr.val (wn rfl) rfl (fun _ _ h1 h2 => run_extract (h1.ev rfl) rfl) ?_
  refine Tr.val (wn rfl) rfl (fun _ _ h1 h2 => run_assign (h1.ev rfl)) ?_
  refine Tr.val (wn rfl) rfl (fun _ _ h1 h2 => run_assign (h1.ev rfl)) ?_
  refine Tr.nil (Tr.normThen ?_)
  refine Tr.seq ?_
  refine Tr.region ?_
  refine Tr.val (wn rfl) rfl (fun _ _ h1 h2 => run_move (h1.ev rfl)) ?_
  refine Tr.val (wn rfl) rfl (fun _ _ h1 h2 => run_assign (h1.ev rfl)) ?_
  refine Tr.nil (Tr.normThen ?_)
  refine Tr.ret ?_
  obtain rfl := Option.some.inj H
  exact Tr.out (m := [(.int .i64 y101.2)]) [] (res_tmp rfl res_nil) (fun W hW => ⟨rfl, hW.low leB⟩)

theorem F_etchhouselaw9_PanelAddedIsOneMore_ok (N : Nat) {w : Bs} (p0 : TPanel) (Ap0_0 : Option Addr) (cp0_0 : Nat) (hp0_0 : Sl w.R w.W fl_TBoardKind Ap0_0 cp0_0 p0.Kinds) (Ap0_1 : Option Addr) (cp0_1 : Nat) (hp0_1 : Sl w.R w.W fl_TSlot Ap0_1 cp0_1 p0.Slots) (Ap0_2 : Option Addr) (cp0_2 : Nat) (hp0_2 : Sl w.R w.W fl_TPoint Ap0_2 cp0_2 p0.Marks) (p1 : ByteArray) (r : Bool) (H : F_etchhouselaw9_PanelAddedIsOneMore N p0 p1 = some r) (hE : HF w w.W E0) : Calls Try.prog 10 [(.agg #[(.int .i64 p0.W), (.int .i64 p0.H), (.int .i64 p0.Rail), (.int .i64 p0.Gap), (.slice Ap0_0 (p0.Kinds).length cp0_0), (.slice Ap0_1 (p0.Slots).length cp0_1), (.slice Ap0_2 (p0.Marks).length cp0_2)]), (.string p1)].toArray w.W fun e W' => e = .returned (.bool r) ∧ HF w W' E0 := by
  unfold F_etchhouselaw9_PanelAddedIsOneMore at H
  have leB := Bs.Le.refl w
  refine Tr.enter (n := 90) Try.func10 rfl rfl rfl hE ?_
  refine Tr.seq ?_
  refine Tr.region ?_
  refine Tr.box 1 (cs := [(.int .i64 p0.W), (.int .i64 p0.H), (.int .i64 p0.Rail), (.int .i64 p0.Gap), (.slice Ap0_0 (p0.Kinds).length cp0_0), (.slice Ap0_1 (p0.Slots).length cp0_1), (.slice Ap0_2 (p0.Marks).length cp0_2)]) (wn rfl) rfl rfl rfl fun b100 => ?_
  refine Tr.val (wn rfl) rfl (fun _ _ h1 h2 => run_assign (h1.ev rfl)) ?_
  refine Tr.nil (Tr.normThen ?_)
  refine Tr.seq ?_
  refine Tr.region ?_
  refine Tr.val (wn rfl) rfl (fun _ _ h1 h2 => run_loadN (cs := [(.int .i64 p0.W), (.int .i64 p0.H), (.int .i64 p0.Rail), (.int .i64 p0.Gap), (.slice Ap0_0 (p0.Kinds).length cp0_0), (.slice Ap0_1 (p0.Slots).length cp0_1), (.slice Ap0_2 (p0.Marks).length cp0_2)]) ag_26 sz_26 (h1.ev rfl) (CellsAt.take (rdb h2 (vs := [(.int .i64 p0.W), (.int .i64 p0.H), (.int .i64 p0.Rail), (.int .i64 p0.Gap), (.slice Ap0_0 (p0.Kinds).length cp0_0), (.slice Ap0_1 (p0.Slots).length cp0_1), (.slice Ap0_2 (p0.Marks).length cp0_2)]) (k := 1) rfl 0) 7) rfl) ?_
  refine Tr.val (wn rfl) rfl (fun _ _ h1 h2 => run_move (h1.ev rfl)) ?_
  obtain ⟨y101, hy101, H⟩ := bnd H
  refine Tr.callG [2, 3] [emp, emp] (U := (Option Addr × Nat) × (Option Addr × Nat) × (Option Addr × Nat)) (fun u => (.tuple #[(.agg #[(.int .i64 y101.1.W), (.int .i64 y101.1.H), (.int .i64 y101.1.Rail), (.int .i64 y101.1.Gap), (.slice u.1.1 (y101.1.Kinds).length u.1.2), (.slice u.2.1.1 (y101.1.Slots).length u.2.1.2), (.slice u.2.2.1 (y101.1.Marks).length u.2.2.2)]), (.bool y101.2.1), (.int .i64 y101.2.2)])) (fun O W u => SlF u.1.1 (y101.1.Kinds).length u.1.2 ∧ Sl O W fl_TSlot u.2.1.1 u.2.1.2 y101.1.Slots ∧ SlF u.2.2.1 (y101.1.Marks).length u.2.2.2) (fun u => [ow u.1.1 u.1.2 82 fl_TBoardKind y101.1.Kinds, ow u.2.2.1 u.2.2.2 32 fl_TPoint y101.1.Marks]) rfl (pk_cons rfl (pk_cons rfl pk_nil)) (fun _ => rfl) (wn rfl) rfl Try.call32 (evl_cons rfl (evl_cons rfl evl_nil)) (fun W hW hp hE => F_panel_Added_ok N p0 Ap0_0 cp0_0 (hp0_0.ext (hW.extS hp)) Ap0_1 cp0_1 (hp0_1.ext (hW.extS hp)) Ap0_2 cp0_2 (hp0_2.ext (hW.extS hp)) p1 y101 hy101 hE) ?_
  intro w u le102 hu
  obtain ⟨⟨Ay101_0, cy101_0⟩, ⟨Ay101_1, cy101_1⟩, ⟨Ay101_2, cy101_2⟩⟩ := u
  obtain ⟨gy101_0, gy101_1, gy101_2⟩ := hu
  replace hp0_0 := hp0_0.leR le102
  replace hp0_1 := hp0_1.leR le102
  replace hp0_2 := hp0_2.leR le102
  replace leB := leB.trans le102
  have hgy101_0 : SlF Ay101_0 (y101.1.Kinds).length cy101_0 := gy101_0 --@phi
  have hgy101_1 : Sl w.O w.W fl_TSlot Ay101_1 cy101_1 y101.1.Slots := gy101_1 --@phi
  have hgy101_2 : SlF Ay101_2 (y101.1.Marks).length cy101_2 := gy101_2 --@phi
  show Tr _ _ (uf _ 12 (.tuple #[(.agg #[(.int .i64 y101.1.W), (.int .i64 y101.1.H), (.int .i64 y101.1.Rail), (.int .i64 y101.1.Gap), (.slice Ay101_0 (y101.1.Kinds).length cy101_0), (.slice Ay101_1 (y101.1.Slots).length cy101_1), (.slice Ay101_2 (y101.1.Marks).length cy101_2)]), (.bool y101.2.1), (.int .i64 y101.2.2)])) (up (up _ 3 (ow Ay101_2 cy101_2 32 fl_TPoint y101.1.Marks)) 2 (ow Ay101_0 cy101_0 82 fl_TBoardKind y101.1.Kinds)) _
  refine Tr.val (wn rfl) rfl (fun _ _ h1 h2 => run_move (h1.ev rfl)) ?_
  refine Tr.val (wn rfl) rfl (fun _ _ h1 h2 => run_extract (h1.ev rfl) rfl) ?_
  refine Tr.val (wn rfl) rfl (fun _ _ h1 h2 => run_extract (h1.ev rfl) rfl) ?_
  refine Tr.val (wn rfl) rfl (fun _ _ h1 h2 => run_extract (h1.ev rfl) rfl) ?_
  refine Tr.alloc 4 (wn rfl) rfl ze_26 fun b103 => ?_
  refine Tr.store 4 (cs := [(.int .i64 y101.1.W), (.int .i64 y101.1.H), (.int .i64 y101.1.Rail), (.int .i64 y101.1.Gap), (.slice Ay101_0 (y101.1.Kinds).length cy101_0), (.slice Ay101_1 (y101.1.Slots).length cy101_1), (.slice Ay101_2 (y101.1.Marks).length cy101_2)]) [(.int .i64 y101.1.W), (.int .i64 y101.1.H), (.int .i64 y101.1.Rail), (.int .i64 y101.1.Gap), (.slice Ay101_0 (y101.1.Kinds).length cy101_0), (.slice Ay101_1 (y101.1.Slots).length cy101_1), (.slice Ay101_2 (y101.1.Marks).length cy101_2)] (wn rfl) rfl rfl rfl rfl sz_26 rfl rfl rfl ?_
  refine Tr.val (wn rfl) rfl (fun _ _ h1 h2 => run_assign (h1.ev rfl)) ?_
  refine Tr.val (wn rfl) rfl (fun _ _ h1 h2 => run_assign (h1.ev rfl)) ?_
  refine Tr.nil (Tr.normThen ?_)
  refine Tr.seq ?_
  refine Tr.seq ?_
  refine Tr.region ?_
  refine Tr.val (wn rfl) rfl (fun _ _ h1 h2 => run_move (h1.ev rfl)) ?_
  refine Tr.val (wn rfl) rfl (fun _ _ h1 h2 => run_neq (h1.ev rfl) (h1.ev rfl)) ?_
  refine Tr.nil (Tr.normThen ?_)
  refine Tr.cond rfl H (fun H => ?_) (fun H => ?_)
  · refine Tr.seq ?_
    refine Tr.region ?_
    refine Tr.val (wn rfl) rfl (fun _ _ h1 h2 => run_fieldAddr fo_26_0 (h1.ev rfl)) ?_
    refine Tr.val (wn rfl) rfl (fun _ _ h1 h2 => run_load1 ag_3 (h1.ev rfl) (rdb h2 (vs := [(.int .i64 y101.1.W), (.int .i64 y101.1.H), (.int .i64 y101.1.Rail), (.int .i64 y101.1.Gap), (.slice Ay101_0 (y101.1.Kinds).length cy101_0), (.slice Ay101_1 (y101.1.Slots).length cy101_1), (.slice Ay101_2 (y101.1.Marks).length cy101_2)]) (k := 4) rfl 0) rfl) ?_
    refine Tr.val (wn rfl) rfl (fun _ _ h1 h2 => run_eql (h1.ev rfl) (h1.ev rfl)) ?_
    refine Tr.val (wn rfl) rfl (fun _ _ h1 h2 => run_move (h1.ev rfl)) ?_
    refine Tr.mid0 3 [(24, (.bool ((y101.1.W == 0) && (!y101.2.1))))] [(1, bx b100 #[(.int .i64 p0.W), (.int .i64 p0.H), (.int .i64 p0.Rail), (.int .i64 p0.Gap), (.slice Ap0_0 (p0.Kinds).length cp0_0), (.slice Ap0_1 (p0.Slots).length cp0_1), (.slice Ap0_2 (p0.Marks).length cp0_2)] 26), (2, ow Ay101_0 cy101_0 82 fl_TBoardKind y101.1.Kinds), (3, ow Ay101_2 cy101_2 32 fl_TPoint y101.1.Marks), (4, bx b103 #[(.int .i64 y101.1.W), (.int .i64 y101.1.H), (.int .i64 y101.1.Rail), (.int .i64 y101.1.Gap), (.slice Ay101_0 (y101.1.Kinds).length cy101_0), (.slice Ay101_1 (y101.1.Slots).length cy101_1), (.slice Ay101_2 (y101.1.Marks).length cy101_2)] 26)] ?_ ?_
    · cases hg106 : (y101.1.W == 0)
      · refine Tr.pass rfl rfl rfl rfl rfl (by decide) ?_
        refine Tr.pass rfl rfl rfl rfl rfl (by decide) ?_
        refine Tr.val (wn rfl) rfl (fun _ _ h1 h2 => run_pickF (h1.ev rfl) (h1.ev rfl)) ?_
        exact Tr.nil (Tr.fin0 (.cons rfl .nil) (.cons rfl (.cons rfl (.cons rfl (.cons rfl .nil)))))
      · refine Tr.val (wg rfl rfl rfl) rfl (fun _ _ h1 h2 => run_move (h1.ev rfl)) ?_
        refine Tr.val (wg rfl rfl rfl) rfl (fun _ _ h1 h2 => run_not (h1.ev rfl)) ?_
        refine Tr.val (wn rfl) rfl (fun _ _ h1 h2 => run_pickT (h1.ev rfl) (h1.ev rfl)) ?_
        exact Tr.nil (Tr.fin0 (.cons rfl .nil) (.cons rfl (.cons rfl (.cons rfl (.cons rfl .nil)))))
    · show Tr _ _ (LF [(24, (.bool ((y101.1.W == 0) && (!y101.2.1))))]) (LE [(1, bx b100 #[(.int .i64 p0.W), (.int .i64 p0.H), (.int .i64 p0.Rail), (.int .i64 p0.Gap), (.slice Ap0_0 (p0.Kinds).length cp0_0), (.slice Ap0_1 (p0.Slots).length cp0_1), (.slice Ap0_2 (p0.Marks).length cp0_2)] 26), (2, ow Ay101_0 cy101_0 82 fl_TBoardKind y101.1.Kinds), (3, ow Ay101_2 cy101_2 32 fl_TPoint y101.1.Marks), (4, bx b103 #[(.int .i64 y101.1.W), (.int .i64 y101.1.H), (.int .i64 y101.1.Rail), (.int .i64 y101.1.Gap), (.slice Ay101_0 (y101.1.Kinds).length cy101_0), (.slice Ay101_1 (y101.1.Slots).length cy101_1), (.slice Ay101_2 (y101.1.Marks).length cy101_2)] 26)]) _
      refine Tr.val (wn rfl) rfl (fun _ _ h1 h2 => run_move (h1.ev rfl)) ?_
      obtain ⟨g105, hg105, H⟩ := bnd H
      refine Tr.mid0 2 [(27, (.bool g105))] [(1, bx b100 #[(.int .i64 p0.W), (.int .i64 p0.H), (.int .i64 p0.Rail), (.int .i64 p0.Gap), (.slice Ap0_0 (p0.Kinds).length cp0_0), (.slice Ap0_1 (p0.Slots).length cp0_1), (.slice Ap0_2 (p0.Marks).length cp0_2)] 26), (2, ow Ay101_0 cy101_0 82 fl_TBoardKind y101.1.Kinds), (3, ow Ay101_2 cy101_2 32 fl_TPoint y101.1.Marks), (4, bx b103 #[(.int .i64 y101.1.W), (.int .i64 y101.1.H), (.int .i64 y101.1.Rail), (.int .i64 y101.1.Gap), (.slice Ay101_0 (y101.1.Kinds).length cy101_0), (.slice Ay101_1 (y101.1.Slots).length cy101_1), (.slice Ay101_2 (y101.1.Marks).length cy101_2)] 26)] ?_ ?_
      · cases hg106 : ((y101.1.W == 0) && (!y101.2.1))
        · rw [hg106] at hg105
          rw [if_neg (by decide)] at hg105
          have H := hg105
          obtain rfl := Option.some.inj H
          refine Tr.pass rfl rfl rfl rfl rfl (by decide) ?_
          refine Tr.val (wn rfl) rfl (fun _ _ h1 h2 => run_pickF (h1.ev rfl) (h1.ev rfl)) ?_
          exact Tr.nil (Tr.fin0 (.cons rfl .nil) (.cons rfl (.cons rfl (.cons rfl (.cons rfl .nil)))))
        · rw [hg106] at hg105
          rw [if_pos rfl] at hg105
          have H := hg105
          obtain ⟨y106, hy106, H⟩ := bnd H
          refine Tr.call0 (r := (.bool y106)) (wg rfl rfl rfl) rfl Try.call15 evl_nil (fun W hW => F_etchhouselaw9_awake_ok N y106 hy106 (HF.start _)) ?_
          refine Tr.val (wn rfl) rfl (fun _ _ h1 h2 => run_pickT (h1.ev rfl) (h1.ev rfl)) ?_
          obtain rfl := Option.some.inj H
          exact Tr.nil (Tr.fin0 (.cons rfl .nil) (.cons rfl (.cons rfl (.cons rfl (.cons rfl .nil)))))
      · show Tr _ _ (LF [(27, (.bool g105))]) (LE [(1, bx b100 #[(.int .i64 p0.W), (.int .i64 p0.H), (.int .i64 p0.Rail), (.int .i64 p0.Gap), (.slice Ap0_0 (p0.Kinds).length cp0_0), (.slice Ap0_1 (p0.Slots).length cp0_1), (.slice Ap0_2 (p0.Marks).length cp0_2)] 26), (2, ow Ay101_0 cy101_0 82 fl_TBoardKind y101.1.Kinds), (3, ow Ay101_2 cy101_2 32 fl_TPoint y101.1.Marks), (4, bx b103 #[(.int .i64 y101.1.W), (.int .i64 y101.1.H), (.int .i64 y101.1.Rail), (.int .i64 y101.1.Gap), (.slice Ay101_0 (y101.1.Kinds).length cy101_0), (.slice Ay101_1 (y101.1.Slots).length cy101_1), (.slice Ay101_2 (y101.1.Marks).length cy101_2)] 26)]) _
        refine Tr.val (wn rfl) rfl (fun _ _ h1 h2 => run_assign (h1.ev rfl)) ?_
        refine Tr.nil (Tr.normThen ?_)
        refine Tr.ret (Tr.retThen ?_)
        obtain rfl := Option.some.inj H
        exact Tr.out (m := [(.bool g105)]) [] (res_tmp rfl res_nil) (fun W hW => ⟨rfl, hW.low leB⟩)
  · refine Tr.skip (Tr.normThen ?_)
    refine Tr.seq ?_
    refine Tr.seq ?_
    refine Tr.region ?_
    refine Tr.val (wn rfl) rfl (fun _ _ h1 h2 => run_move (h1.ev rfl)) ?_
    refine Tr.val (wn rfl) rfl (fun _ _ h1 h2 => run_not (h1.ev rfl)) ?_
    refine Tr.nil (Tr.normThen ?_)
    refine Tr.cond rfl H (fun H => ?_) (fun H => ?_)
    · refine Tr.seq ?_
      refine Tr.region ?_
      refine Tr.val (wn rfl) rfl (fun _ _ h1 h2 => run_loadN (cs := [(.int .i64 y101.1.W), (.int .i64 y101.1.H), (.int .i64 y101.1.Rail), (.int .i64 y101.1.Gap), (.slice Ay101_0 (y101.1.Kinds).length cy101_0), (.slice Ay101_1 (y101.1.Slots).length cy101_1), (.slice Ay101_2 (y101.1.Marks).length cy101_2)]) ag_26 sz_26 (h1.ev rfl) (CellsAt.take (rdb h2 (vs := [(.int .i64 y101.1.W), (.int .i64 y101.1.H), (.int .i64 y101.1.Rail), (.int .i64 y101.1.Gap), (.slice Ay101_0 (y101.1.Kinds).length cy101_0), (.slice Ay101_1 (y101.1.Slots).length cy101_1), (.slice Ay101_2 (y101.1.Marks).length cy101_2)]) (k := 4) rfl 0) 7) rfl) ?_
      refine Tr.val (wn rfl) rfl (fun _ _ h1 h2 => run_loadN (cs := [(.int .i64 p0.W), (.int .i64 p0.H), (.int .i64 p0.Rail), (.int .i64 p0.Gap), (.slice Ap0_0 (p0.Kinds).length cp0_0), (.slice Ap0_1 (p0.Slots).length cp0_1), (.slice Ap0_2 (p0.Marks).length cp0_2)]) ag_26 sz_26 (h1.ev rfl) (CellsAt.take (rdb h2 (vs := [(.int .i64 p0.W), (.int .i64 p0.H), (.int .i64 p0.Rail), (.int .i64 p0.Gap), (.slice Ap0_0 (p0.Kinds).length cp0_0), (.slice Ap0_1 (p0.Slots).length cp0_1), (.slice Ap0_2 (p0.Marks).length cp0_2)]) (k := 1) rfl 0) 7) rfl) ?_
      obtain ⟨y107, hy107, H⟩ := bnd H
      refine Tr.call0 (r := (.bool y107)) (wn rfl) rfl Try.call30 (evl_cons rfl (evl_cons rfl evl_nil)) (fun W hW => F_etchhouseref9_Same_ok N y101.1 Ay101_0 cy101_0 (hW.slCall (k := 2) rfl) Ay101_1 cy101_1 (hgy101_1.rl.ext hW.extAll) Ay101_2 cy101_2 (hW.slCall (k := 3) rfl) p0 Ap0_0 cp0_0 (hp0_0.ext hW.extAll) Ap0_1 cp0_1 (hp0_1.ext hW.extAll) Ap0_2 cp0_2 (hp0_2.ext hW.extAll) y107 hy107 (HF.start _)) ?_
      refine Tr.val (wn rfl) rfl (fun _ _ h1 h2 => run_move (h1.ev rfl)) ?_
      obtain ⟨g109, hg109, H⟩ := bnd H
      refine Tr.mid0 2 [(35, (.bool g109))] [(1, bx b100 #[(.int .i64 p0.W), (.int .i64 p0.H), (.int .i64 p0.Rail), (.int .i64 p0.Gap), (.slice Ap0_0 (p0.Kinds).length cp0_0), (.slice Ap0_1 (p0.Slots).length cp0_1), (.slice Ap0_2 (p0.Marks).length cp0_2)] 26), (2, ow Ay101_0 cy101_0 82 fl_TBoardKind y101.1.Kinds), (3, ow Ay101_2 cy101_2 32 fl_TPoint y101.1.Marks), (4, bx b103 #[(.int .i64 y101.1.W), (.int .i64 y101.1.H), (.int .i64 y101.1.Rail), (.int .i64 y101.1.Gap), (.slice Ay101_0 (y101.1.Kinds).length cy101_0), (.slice Ay101_1 (y101.1.Slots).length cy101_1), (.slice Ay101_2 (y101.1.Marks).length cy101_2)] 26)] ?_ ?_
      · cases hg110 : y107
        · rw [hg110] at hg109
          rw [if_neg (by decide)] at hg109
          have H := hg109
          obtain rfl := Option.some.inj H
          refine Tr.pass rfl rfl rfl rfl rfl (by decide) ?_
          refine Tr.val (wn rfl) rfl (fun _ _ h1 h2 => run_pickF (h1.ev rfl) (h1.ev rfl)) ?_
          exact Tr.nil (Tr.fin0 (.cons rfl .nil) (.cons rfl (.cons rfl (.cons rfl (.cons rfl .nil)))))
        · rw [hg110] at hg109
          rw [if_pos rfl] at hg109
          have H := hg109
          obtain ⟨y110, hy110, H⟩ := bnd H
          refine Tr.call0 (r := (.bool y110)) (wg rfl rfl rfl) rfl Try.call15 evl_nil (fun W hW => F_etchhouselaw9_awake_ok N y110 hy110 (HF.start _)) ?_
          refine Tr.val (wn rfl) rfl (fun _ _ h1 h2 => run_pickT (h1.ev rfl) (h1.ev rfl)) ?_
          obtain rfl := Option.some.inj H
          exact Tr.nil (Tr.fin0 (.cons rfl .nil) (.cons rfl (.cons rfl (.cons rfl (.cons rfl .nil)))))
      · show Tr _ _ (LF [(35, (.bool g109))]) (LE [(1, bx b100 #[(.int .i64 p0.W), (.int .i64 p0.H), (.int .i64 p0.Rail), (.int .i64 p0.Gap), (.slice Ap0_0 (p0.Kinds).length cp0_0), (.slice Ap0_1 (p0.Slots).length cp0_1), (.slice Ap0_2 (p0.Marks).length cp0_2)] 26), (2, ow Ay101_0 cy101_0 82 fl_TBoardKind y101.1.Kinds), (3, ow Ay101_2 cy101_2 32 fl_TPoint y101.1.Marks), (4, bx b103 #[(.int .i64 y101.1.W), (.int .i64 y101.1.H), (.int .i64 y101.1.Rail), (.int .i64 y101.1.Gap), (.slice Ay101_0 (y101.1.Kinds).length cy101_0), (.slice Ay101_1 (y101.1.Slots).length cy101_1), (.slice Ay101_2 (y101.1.Marks).length cy101_2)] 26)]) _
        refine Tr.val (wn rfl) rfl (fun _ _ h1 h2 => run_assign (h1.ev rfl)) ?_
        refine Tr.nil (Tr.normThen ?_)
        refine Tr.ret (Tr.retThen ?_)
        obtain rfl := Option.some.inj H
        exact Tr.out (m := [(.bool g109)]) [] (res_tmp rfl res_nil) (fun W hW => ⟨rfl, hW.low leB⟩)
    · refine Tr.skip (Tr.normThen ?_)
      refine Tr.seq ?_
      refine Tr.region ?_
      refine Tr.val (wn rfl) rfl (fun _ _ h1 h2 => run_fieldAddr fo_26_5 (h1.ev rfl)) ?_
      refine Tr.val (wn rfl) rfl (fun _ _ h1 h2 => run_load1 ag_23 (h1.ev rfl) (rdb h2 (vs := [(.int .i64 p0.W), (.int .i64 p0.H), (.int .i64 p0.Rail), (.int .i64 p0.Gap), (.slice Ap0_0 (p0.Kinds).length cp0_0), (.slice Ap0_1 (p0.Slots).length cp0_1), (.slice Ap0_2 (p0.Marks).length cp0_2)]) (k := 1) rfl 5) rfl) ?_
      refine Tr.val (wn rfl) rfl (fun _ _ h1 h2 => run_len un_23 (h1.ev rfl)) ?_
      refine Tr.val (wn rfl) rfl (fun _ _ h1 h2 => run_assign (h1.ev rfl)) ?_
      refine Tr.nil (Tr.normThen ?_)
      refine Tr.seq ?_
      refine Tr.draw (by kernel_rfl) (by kernel_rfl) ?_
      refine Tq.val (wn rfl) rfl (fun _ _ h1 h2 => run_fieldAddr fo_26_5 (h1.ev rfl)) ?_
      refine Tq.val (wn rfl) rfl (fun _ _ h1 h2 => run_load1 ag_23 (h1.ev rfl) (rdb h2 (vs := [(.int .i64 y101.1.W), (.int .i64 y101.1.H), (.int .i64 y101.1.Rail), (.int .i64 y101.1.Gap), (.slice Ay101_0 (y101.1.Kinds).length cy101_0), (.slice Ay101_1 (y101.1.Slots).length cy101_1), (.slice Ay101_2 (y101.1.Marks).length cy101_2)]) (k := 4) rfl 5) rfl) ?_
      refine Tq.val (wn rfl) rfl (fun _ _ h1 h2 => run_len un_23 (h1.ev rfl)) ?_
      refine Tq.val (wn rfl) rfl (fun _ _ h1 h2 => run_move (h1.ev rfl)) ?_
      refine Tq.val (wn rfl) rfl (fun _ _ h1 h2 => run_add (h1.ev rfl) (h1.ev rfl)) ?_
      refine Tq.val (wn rfl) rfl (fun _ _ h1 h2 => run_eql (h1.ev rfl) (h1.ev rfl)) ?_
      refine Tq.val (wn rfl) rfl (fun _ _ h1 h2 => run_move (h1.ev rfl)) ?_
      obtain ⟨g113, hg113, H⟩ := bnd H
      refine Tq.mid 8 [(1, (.string p1)), (5, (.pointer (some ⟨b103, 0, none⟩))), (8, (.int .i64 (p0.Slots.length : Int))), (53, (.bool g113))] ?_ ?_
      · cases hg130 : ((y101.1.Slots.length : Int) == (w64 ((p0.Slots.length : Int) + 1)))
        · rw [hg130] at hg113
          rw [if_neg (by decide)] at hg113
          have H := hg113
          obtain rfl := Option.some.inj H
          refine Tq.pass rfl rfl rfl rfl rfl (by decide) ?_
          refine Tq.pass rfl rfl rfl rfl rfl (by decide) ?_
          refine Tq.pass rfl rfl rfl rfl rfl (by decide) ?_
          refine Tq.pass rfl rfl rfl rfl rfl (by decide) ?_
          refine Tq.pass rfl rfl rfl rfl rfl (by decide) ?_
          refine Tq.pass rfl rfl rfl rfl rfl (by decide) ?_
          refine Tq.pass rfl rfl rfl rfl rfl (by decide) ?_
          refine Tq.val (wn rfl) rfl (fun _ _ h1 h2 => run_pickF (h1.ev rfl) (h1.ev rfl)) ?_
          exact Tq.fin (.cons rfl (.cons rfl (.cons rfl (.cons rfl .nil))))
        · rw [hg130] at hg113
          rw [if_pos rfl] at hg113
          have H := hg113
          refine Tq.val (wg rfl rfl rfl) rfl (fun _ _ h1 h2 => run_fieldAddr fo_26_5 (h1.ev rfl)) ?_
          refine Tq.val (wg rfl rfl rfl) rfl (fun _ _ h1 h2 => run_load1 ag_23 (h1.ev rfl) (rdb h2 (vs := [(.int .i64 y101.1.W), (.int .i64 y101.1.H), (.int .i64 y101.1.Rail), (.int .i64 y101.1.Gap), (.slice Ay101_0 (y101.1.Kinds).length cy101_0), (.slice Ay101_1 (y101.1.Slots).length cy101_1), (.slice Ay101_2 (y101.1.Marks).length cy101_2)]) (k := 4) rfl 5) rfl) ?_
          refine Tq.val (wg rfl rfl rfl) rfl (fun _ _ h1 h2 => run_move (h1.ev rfl)) ?_
          obtain ⟨l114, hl114, H⟩ := bnd H
          refine Tq.val (wg rfl rfl rfl) rfl (fun _ _ h1 h2 => run_pre el_23 (h1.ev rfl) hgy101_1.form (h1.ev rfl) hl114) ?_
          refine Tq.val (wg rfl rfl rfl) rfl (fun _ _ h1 h2 => run_fieldAddr fo_26_5 (h1.ev rfl)) ?_
          refine Tq.val (wg rfl rfl rfl) rfl (fun _ _ h1 h2 => run_load1 ag_23 (h1.ev rfl) (rdb h2 (vs := [(.int .i64 p0.W), (.int .i64 p0.H), (.int .i64 p0.Rail), (.int .i64 p0.Gap), (.slice Ap0_0 (p0.Kinds).length cp0_0), (.slice Ap0_1 (p0.Slots).length cp0_1), (.slice Ap0_2 (p0.Marks).length cp0_2)]) (k := 1) rfl 5) rfl) ?_
          obtain ⟨y115, hy115, H⟩ := bnd H
          refine Tq.call0 (r := (.bool y115)) (wg rfl rfl rfl) rfl Try.call33 (evl_cons rfl (evl_cons rfl evl_nil)) (fun W hW => F_slices_Equal_Slot_ok l114 Ay101_1 cy101_1 (Sl.pre (hgy101_1.rl.ext hW.extAll) hl114) p0.Slots Ap0_1 cp0_1 (hp0_1.ext hW.extAll) y115 hy115 (HF.start _)) ?_
          refine Tq.val (wn rfl) rfl (fun _ _ h1 h2 => run_pickT (h1.ev rfl) (h1.ev rfl)) ?_
          obtain rfl := Option.some.inj H
          exact Tq.fin (.cons rfl (.cons rfl (.cons rfl (.cons rfl .nil))))
      · refine Tq.val (wn rfl) rfl (fun _ _ h1 h2 => run_move (h1.ev rfl)) ?_
        obtain ⟨g117, hg117, H⟩ := bnd H
        refine Tq.mid 9 [(5, (.pointer (some ⟨b103, 0, none⟩))), (8, (.int .i64 (p0.Slots.length : Int))), (63, (.bool g117))] ?_ ?_
        · cases hg130 : g113
          · rw [hg130] at hg117
            rw [if_neg (by decide)] at hg117
            have H := hg117
            obtain rfl := Option.some.inj H
            refine Tq.pass rfl rfl rfl rfl rfl (by decide) ?_
            refine Tq.pass rfl rfl rfl rfl rfl (by decide) ?_
            refine Tq.pass rfl rfl rfl rfl rfl (by decide) ?_
            refine Tq.pass rfl rfl rfl rfl rfl (by decide) ?_
            refine Tq.pass rfl rfl rfl rfl rfl (by decide) ?_
            refine Tq.pass rfl rfl rfl rfl rfl (by decide) ?_
            refine Tq.pass rfl rfl rfl rfl rfl (by decide) ?_
            refine Tq.pass rfl rfl rfl rfl rfl (by decide) ?_
            refine Tq.val (wn rfl) rfl (fun _ _ h1 h2 => run_pickF (h1.ev rfl) (h1.ev rfl)) ?_
            exact Tq.fin (.cons rfl (.cons rfl (.cons rfl .nil)))
          · rw [hg130] at hg117
            rw [if_pos rfl] at hg117
            have H := hg117
            refine Tq.val (wg rfl rfl rfl) rfl (fun _ _ h1 h2 => run_fieldAddr fo_26_5 (h1.ev rfl)) ?_
            refine Tq.val (wg rfl rfl rfl) rfl (fun _ _ h1 h2 => run_load1 ag_23 (h1.ev rfl) (rdb h2 (vs := [(.int .i64 y101.1.W), (.int .i64 y101.1.H), (.int .i64 y101.1.Rail), (.int .i64 y101.1.Gap), (.slice Ay101_0 (y101.1.Kinds).length cy101_0), (.slice Ay101_1 (y101.1.Slots).length cy101_1), (.slice Ay101_2 (y101.1.Marks).length cy101_2)]) (k := 4) rfl 5) rfl) ?_
            refine Tq.val (wg rfl rfl rfl) rfl (fun _ _ h1 h2 => run_move (h1.ev rfl)) ?_
            obtain ⟨x118, hx118, H⟩ := bnd H
            obtain ⟨hx1180, hx1181, hx1182⟩ := idx_some hx118
            refine Tq.val (wg rfl rfl rfl) rfl (fun _ _ h1 h2 => run_indexAddr el_23 (h1.ev rfl) hgy101_1.form (h1.ev rfl) hx1180 hx1181) ?_
            refine Tq.val (wg rfl rfl rfl) rfl (fun _ _ h1 h2 => run_fieldAddr fo_34_0 (h1.ev rfl)) ?_
            refine Tq.val (wg rfl rfl rfl) rfl (fun _ _ h1 h2 => run_load1 ag_9 (h1.ev rfl) (CellsAt.drop (rdF ef_TSlot (hgy101_1.rl) hx1182 h2) 0) rfl) ?_
            refine Tq.val (wg rfl rfl rfl) rfl (fun _ _ h1 h2 => run_move (h1.ev rfl)) ?_
            refine Tq.val (wg rfl rfl rfl) rfl (fun _ _ h1 h2 => run_eqlS (h1.ev rfl) (h1.ev rfl)) ?_
            refine Tq.val (wn rfl) rfl (fun _ _ h1 h2 => run_pickT (h1.ev rfl) (h1.ev rfl)) ?_
            obtain rfl := Option.some.inj H
            exact Tq.fin (.cons rfl (.cons rfl (.cons rfl .nil)))
        · refine Tq.val (wn rfl) rfl (fun _ _ h1 h2 => run_move (h1.ev rfl)) ?_
          obtain ⟨g120, hg120, H⟩ := bnd H
          refine Tq.mid 8 [(5, (.pointer (some ⟨b103, 0, none⟩))), (8, (.int .i64 (p0.Slots.length : Int))), (72, (.bool g120))] ?_ ?_
          · cases hg130 : g117
            · rw [hg130] at hg120
              rw [if_neg (by decide)] at hg120
              have H := hg120
              obtain rfl := Option.some.inj H
              refine Tq.pass rfl rfl rfl rfl rfl (by decide) ?_
              refine Tq.pass rfl rfl rfl rfl rfl (by decide) ?_
              refine Tq.pass rfl rfl rfl rfl rfl (by decide) ?_
              refine Tq.pass rfl rfl rfl rfl rfl (by decide) ?_
              refine Tq.pass rfl rfl rfl rfl rfl (by decide) ?_
              refine Tq.pass rfl rfl rfl rfl rfl (by decide) ?_
              refine Tq.pass rfl rfl rfl rfl rfl (by decide) ?_
              refine Tq.val (wn rfl) rfl (fun _ _ h1 h2 => run_pickF (h1.ev rfl) (h1.ev rfl)) ?_
              exact Tq.fin (.cons rfl (.cons rfl (.cons rfl .nil)))
            · rw [hg130] at hg120
              rw [if_pos rfl] at hg120
              have H := hg120
              refine Tq.val (wg rfl rfl rfl) rfl (fun _ _ h1 h2 => run_fieldAddr fo_26_5 (h1.ev rfl)) ?_
              refine Tq.val (wg rfl rfl rfl) rfl (fun _ _ h1 h2 => run_load1 ag_23 (h1.ev rfl) (rdb h2 (vs := [(.int .i64 y101.1.W), (.int .i64 y101.1.H), (.int .i64 y101.1.Rail), (.int .i64 y101.1.Gap), (.slice Ay101_0 (y101.1.Kinds).length cy101_0), (.slice Ay101_1 (y101.1.Slots).length cy101_1), (.slice Ay101_2 (y101.1.Marks).length cy101_2)]) (k := 4) rfl 5) rfl) ?_
              refine Tq.val (wg rfl rfl rfl) rfl (fun _ _ h1 h2 => run_move (h1.ev rfl)) ?_
              obtain ⟨x121, hx121, H⟩ := bnd H
              obtain ⟨hx1210, hx1211, hx1212⟩ := idx_some hx121
              refine Tq.val (wg rfl rfl rfl) rfl (fun _ _ h1 h2 => run_indexAddr el_23 (h1.ev rfl) hgy101_1.form (h1.ev rfl) hx1210 hx1211) ?_
              refine Tq.val (wg rfl rfl rfl) rfl (fun _ _ h1 h2 => run_fieldAddr fo_34_1 (h1.ev rfl)) ?_
              refine Tq.val (wg rfl rfl rfl) rfl (fun _ _ h1 h2 => run_load1 ag_3 (h1.ev rfl) (CellsAt.drop (rdF ef_TSlot (hgy101_1.rl) hx1212 h2) 1) rfl) ?_
              refine Tq.val (wg rfl rfl rfl) rfl (fun _ _ h1 h2 => run_geq (h1.ev rfl) (h1.ev rfl)) ?_
              refine Tq.val (wn rfl) rfl (fun _ _ h1 h2 => run_pickT (h1.ev rfl) (h1.ev rfl)) ?_
              obtain rfl := Option.some.inj H
              exact Tq.fin (.cons rfl (.cons rfl (.cons rfl .nil)))
          · refine Tq.val (wn rfl) rfl (fun _ _ h1 h2 => run_move (h1.ev rfl)) ?_
            obtain ⟨g123, hg123, H⟩ := bnd H
            refine Tq.mid 8 [(5, (.pointer (some ⟨b103, 0, none⟩))), (81, (.bool g123))] ?_ ?_
            · cases hg130 : g120
              · rw [hg130] at hg123
                rw [if_neg (by decide)] at hg123
                have H := hg123
                obtain rfl := Option.some.inj H
                refine Tq.pass rfl rfl rfl rfl rfl (by decide) ?_
                refine Tq.pass rfl rfl rfl rfl rfl (by decide) ?_
                refine Tq.pass rfl rfl rfl rfl rfl (by decide) ?_
                refine Tq.pass rfl rfl rfl rfl rfl (by decide) ?_
                refine Tq.pass rfl rfl rfl rfl rfl (by decide) ?_
                refine Tq.pass rfl rfl rfl rfl rfl (by decide) ?_
                refine Tq.pass rfl rfl rfl rfl rfl (by decide) ?_
                refine Tq.val (wn rfl) rfl (fun _ _ h1 h2 => run_pickF (h1.ev rfl) (h1.ev rfl)) ?_
                exact Tq.fin (.cons rfl (.cons rfl .nil))
              · rw [hg130] at hg123
                rw [if_pos rfl] at hg123
                have H := hg123
                refine Tq.val (wg rfl rfl rfl) rfl (fun _ _ h1 h2 => run_fieldAddr fo_26_5 (h1.ev rfl)) ?_
                refine Tq.val (wg rfl rfl rfl) rfl (fun _ _ h1 h2 => run_load1 ag_23 (h1.ev rfl) (rdb h2 (vs := [(.int .i64 y101.1.W), (.int .i64 y101.1.H), (.int .i64 y101.1.Rail), (.int .i64 y101.1.Gap), (.slice Ay101_0 (y101.1.Kinds).length cy101_0), (.slice Ay101_1 (y101.1.Slots).length cy101_1), (.slice Ay101_2 (y101.1.Marks).length cy101_2)]) (k := 4) rfl 5) rfl) ?_
                refine Tq.val (wg rfl rfl rfl) rfl (fun _ _ h1 h2 => run_move (h1.ev rfl)) ?_
                obtain ⟨x124, hx124, H⟩ := bnd H
                obtain ⟨hx1240, hx1241, hx1242⟩ := idx_some hx124
                refine Tq.val (wg rfl rfl rfl) rfl (fun _ _ h1 h2 => run_indexAddr el_23 (h1.ev rfl) hgy101_1.form (h1.ev rfl) hx1240 hx1241) ?_
                refine Tq.val (wg rfl rfl rfl) rfl (fun _ _ h1 h2 => run_fieldAddr fo_34_1 (h1.ev rfl)) ?_
                refine Tq.val (wg rfl rfl rfl) rfl (fun _ _ h1 h2 => run_load1 ag_3 (h1.ev rfl) (CellsAt.drop (rdF ef_TSlot (hgy101_1.rl) hx1242 h2) 1) rfl) ?_
                refine Tq.val (wg rfl rfl rfl) rfl (fun _ _ h1 h2 => run_leq (h1.ev rfl) (h1.ev rfl)) ?_
                refine Tq.val (wn rfl) rfl (fun _ _ h1 h2 => run_pickT (h1.ev rfl) (h1.ev rfl)) ?_
                obtain rfl := Option.some.inj H
                exact Tq.fin (.cons rfl (.cons rfl .nil))
            · refine Tq.val (wn rfl) rfl (fun _ _ h1 h2 => run_move (h1.ev rfl)) ?_
              obtain ⟨g126, hg126, H⟩ := bnd H
              refine Tq.mid 4 [(86, (.bool g126))] ?_ ?_
              · cases hg130 : g123
                · rw [hg130] at hg126
                  rw [if_neg (by decide)] at hg126
                  have H := hg126
                  obtain rfl := Option.some.inj H
                  refine Tq.pass rfl rfl rfl rfl rfl (by decide) ?_
                  refine Tq.pass rfl rfl rfl rfl rfl (by decide) ?_
                  refine Tq.pass rfl rfl rfl rfl rfl (by decide) ?_
                  refine Tq.val (wn rfl) rfl (fun _ _ h1 h2 => run_pickF (h1.ev rfl) (h1.ev rfl)) ?_
                  exact Tq.fin (.cons rfl .nil)
                · rw [hg130] at hg126
                  rw [if_pos rfl] at hg126
                  have H := hg126
                  refine Tq.val (wg rfl rfl rfl) rfl (fun _ _ h1 h2 => run_loadN (cs := [(.int .i64 y101.1.W), (.int .i64 y101.1.H), (.int .i64 y101.1.Rail), (.int .i64 y101.1.Gap), (.slice Ay101_0 (y101.1.Kinds).length cy101_0), (.slice Ay101_1 (y101.1.Slots).length cy101_1), (.slice Ay101_2 (y101.1.Marks).length cy101_2)]) ag_26 sz_26 (h1.ev rfl) (CellsAt.take (rdb h2 (vs := [(.int .i64 y101.1.W), (.int .i64 y101.1.H), (.int .i64 y101.1.Rail), (.int .i64 y101.1.Gap), (.slice Ay101_0 (y101.1.Kinds).length cy101_0), (.slice Ay101_1 (y101.1.Slots).length cy101_1), (.slice Ay101_2 (y101.1.Marks).length cy101_2)]) (k := 4) rfl 0) 7) rfl) ?_
                  obtain ⟨y127, hy127, H⟩ := bnd H
                  refine Tq.call0 (r := (.int .i64 y127)) (wg rfl rfl rfl) rfl Try.call31 (evl_cons rfl evl_nil) (fun W hW => F_panel_CheckPanel_ok N y101.1 Ay101_0 cy101_0 (hW.slCall (k := 2) rfl) Ay101_1 cy101_1 (hgy101_1.rl.ext hW.extAll) Ay101_2 cy101_2 (hW.slCall (k := 3) rfl) y127 hy127 (HF.start _)) ?_
                  refine Tq.val (wg rfl rfl rfl) rfl (fun _ _ h1 h2 => run_eql (h1.ev rfl) (h1.ev rfl)) ?_
                  refine Tq.val (wn rfl) rfl (fun _ _ h1 h2 => run_pickT (h1.ev rfl) (h1.ev rfl)) ?_
                  obtain rfl := Option.some.inj H
                  exact Tq.fin (.cons rfl .nil)
              · refine Tq.val (wn rfl) rfl (fun _ _ h1 h2 => run_move (h1.ev rfl)) ?_
                obtain ⟨g129, hg129, H⟩ := bnd H
                refine Tq.mid 2 [(89, (.bool g129))] ?_ ?_
                · cases hg130 : g126
                  · rw [hg130] at hg129
                    rw [if_neg (by decide)] at hg129
                    have H := hg129
                    obtain rfl := Option.some.inj H
                    refine Tq.pass rfl rfl rfl rfl rfl (by decide) ?_
                    refine Tq.val (wn rfl) rfl (fun _ _ h1 h2 => run_pickF (h1.ev rfl) (h1.ev rfl)) ?_
                    exact Tq.fin (.cons rfl .nil)
                  · rw [hg130] at hg129
                    rw [if_pos rfl] at hg129
                    have H := hg129
                    obtain ⟨y130, hy130, H⟩ := bnd H
                    refine Tq.call0 (r := (.bool y130)) (wg rfl rfl rfl) rfl Try.call15 evl_nil (fun W hW => F_etchhouselaw9_awake_ok N y130 hy130 (HF.start _)) ?_
                    refine Tq.val (wn rfl) rfl (fun _ _ h1 h2 => run_pickT (h1.ev rfl) (h1.ev rfl)) ?_
                    obtain rfl := Option.some.inj H
                    exact Tq.fin (.cons rfl .nil)
                · refine Tq.val (wn rfl) rfl (fun _ _ h1 h2 => run_assign (h1.ev rfl)) ?_
                  refine Tq.nil (Tr.normThen ?_)
                  refine Tr.ret ?_
                  obtain rfl := Option.some.inj H
                  exact Tr.out (m := [(.bool g129)]) [] (res_tmp rfl res_nil) (fun W hW => ⟨rfl, hW.low leB⟩)

end Go.Proofs.Ytpkicpnbpldkpaa
