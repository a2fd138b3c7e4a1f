/- The walks: each function computes its plain function. -/
import Derived.Test.YtpkicpnbpldkpaaXWc
namespace Go.Proofs.Ytpkicpnbpldkpaa
open Go.RowKit
set_option maxRecDepth 100000
set_option maxHeartbeats 1000000
theorem F_etchhouseref9_Added_ok (N : Nat) {w : Bs} (p0 : TPanel) (Ap0_0 : Option Addr) (cp0_0 : Nat) (hp0_0 : Sl w.O w.W fl_TBoardKind Ap0_0 cp0_0 p0.Kinds) (Ap0_1 : Option Addr) (cp0_1 : Nat) (hp0_1 : Sl w.O w.W fl_TSlot Ap0_1 cp0_1 p0.Slots) (Ap0_2 : Option Addr) (cp0_2 : Nat) (hp0_2 : Sl w.O w.W fl_TPoint Ap0_2 cp0_2 p0.Marks) (p1 : ByteArray) (r : (TPanel × Bool × Int)) (H : F_etchhouseref9_Added N p0 p1 = some r) (hE : HF w w.W (LEn [])) : Calls Try.prog 34 [(.agg #[(.int .i64 p0.W), (.int .i64 p0.H), (.int .i64 p0.Rail), (.int .i64 p0.Gap), (.slice Ap0_0 (p0.Kinds).length cp0_0), (.slice Ap0_1 (p0.Slots).length cp0_1), (.slice Ap0_2 (p0.Marks).length cp0_2)]), (.string p1)].toArray w.W fun e W' => ∃ (w' : Bs) (u : (Option Addr × Nat) × (Option Addr × Nat) × (Option Addr × Nat)), w.Le w' ∧ e = .returned (.tuple #[(.agg #[(.int .i64 r.1.W), (.int .i64 r.1.H), (.int .i64 r.1.Rail), (.int .i64 r.1.Gap), (.slice u.1.1 (r.1.Kinds).length u.1.2), (.slice u.2.1.1 (r.1.Slots).length u.2.1.2), (.slice u.2.2.1 (r.1.Marks).length u.2.2.2)]), (.bool r.2.1), (.int .i64 r.2.2)]) ∧ (Sl w'.O w'.W fl_TBoardKind u.1.1 u.1.2 r.1.Kinds ∧ Sl w'.O w'.W fl_TSlot u.2.1.1 u.2.1.2 r.1.Slots ∧ Sl w'.O w'.W fl_TPoint u.2.2.1 u.2.2.2 r.1.Marks) ∧ HF w' W' (LEn []) := by
  unfold F_etchhouseref9_Added at H
  have leB := Bs.Le.refl w
  refine Tr.enter (n := 135) Try.func34 rfl rfl rfl hE ?_
  refine Tr.seq ?_
  refine Tr.region ?_
  refine Tr.box 1 (cs := [(.int .i64 p0.W), (.int .i64 p0.H), (.int .i64 p0.Rail), (.int .i64 p0.Gap), (.slice Ap0_0 (p0.Kinds).length cp0_0), (.slice Ap0_1 (p0.Slots).length cp0_1), (.slice Ap0_2 (p0.Marks).length cp0_2)]) (wn rfl) rfl rfl rfl fun b100 => ?_
  refine Tr.alloc 2 (wn rfl) rfl ze_26 fun b101 => ?_
  refine Tr.val (wn rfl) rfl (fun _ _ h1 h2 => run_assign (h1.ev rfl)) ?_
  refine Tr.val (wn rfl) rfl (fun _ _ h1 h2 => run_assign (h1.ev rfl)) ?_
  refine Tr.nil (Tr.normThen ?_)
  refine Tr.seq ?_
  refine Tr.seq ?_
  refine Tr.region ?_
  refine Tr.val (wn rfl) rfl (fun _ _ h1 h2 => run_loadN (cs := [(.int .i64 p0.W), (.int .i64 p0.H), (.int .i64 p0.Rail), (.int .i64 p0.Gap), (.slice Ap0_0 (p0.Kinds).length cp0_0), (.slice Ap0_1 (p0.Slots).length cp0_1), (.slice Ap0_2 (p0.Marks).length cp0_2)]) ag_26 sz_26 (h1.ev rfl) (CellsAt.take (rdb h2 (vs := [(.int .i64 p0.W), (.int .i64 p0.H), (.int .i64 p0.Rail), (.int .i64 p0.Gap), (.slice Ap0_0 (p0.Kinds).length cp0_0), (.slice Ap0_1 (p0.Slots).length cp0_1), (.slice Ap0_2 (p0.Marks).length cp0_2)]) (k := 1) rfl 0) 7) rfl) ?_
  obtain ⟨y102, hy102, H⟩ := bnd H
  refine Tr.call0 (r := (.int .i64 y102)) (wn rfl) rfl Try.call39 (evl_cons rfl evl_nil) (fun W hW => F_etchhouseref9_CheckPanel_ok N p0 Ap0_0 cp0_0 (hp0_0.rl.ext hW.extAll) Ap0_1 cp0_1 (hp0_1.rl.ext hW.extAll) Ap0_2 cp0_2 (hp0_2.rl.ext hW.extAll) y102 hy102 (HF.start _)) ?_
  refine Tr.val (wn rfl) rfl (fun _ _ h1 h2 => run_assign (h1.ev rfl)) ?_
  refine Tr.nil (Tr.normThen ?_)
  refine Tr.seq ?_
  refine Tr.region ?_
  refine Tr.val (wn rfl) rfl (fun _ _ h1 h2 => run_move (h1.ev rfl)) ?_
  refine Tr.val (wn rfl) rfl (fun _ _ h1 h2 => run_neq (h1.ev rfl) (h1.ev rfl)) ?_
  refine Tr.nil (Tr.normThen ?_)
  refine Tr.cond rfl H (fun H => ?_) (fun H => ?_)
  · refine Tr.seq ?_
    refine Tr.region ?_
    refine Tr.build (vs := []) (cs := [(.int .i64 0), (.int .i64 0), (.int .i64 0), (.int .i64 0), (.slice none 0 0), (.slice none 0 0), (.slice none 0 0)]) (wn rfl) rfl evs_nil (by kernel_rfl) ?_
    refine Tr.val (wn rfl) rfl (fun _ _ h1 h2 => run_move (h1.ev rfl)) ?_
    refine Tr.store 2 (cs := [(.int .i64 0), (.int .i64 0), (.int .i64 0), (.int .i64 0), (.slice none 0 0), (.slice none 0 0), (.slice none 0 0)]) [(.int .i64 0), (.int .i64 0), (.int .i64 0), (.int .i64 0), (.slice none 0 0), (.slice none 0 0), (.slice none 0 0)] (wn rfl) rfl rfl rfl rfl sz_26 rfl rfl rfl ?_
    refine Tr.val (wn rfl) rfl (fun _ _ h1 h2 => run_assign (h1.ev rfl)) ?_
    refine Tr.val (wn rfl) rfl (fun _ _ h1 h2 => run_assign (h1.ev rfl)) ?_
    refine Tr.nil (Tr.normThen ?_)
    refine Tr.ret (Tr.retThen ?_)
    obtain rfl := Option.some.inj H
    exact Tr.out (m := [(.agg #[(.int .i64 0), (.int .i64 0), (.int .i64 0), (.int .i64 0), (.slice none 0 0), (.slice none 0 0), (.slice none 0 0)]), (.bool false), (.int .i64 y102)]) [2] (res_cell rfl rfl ag_26 sz_26 (res_tmp rfl (res_tmp rfl res_nil))) (fun W hW => ⟨w, ((none, 0), (none, 0), (none, 0)), leB, rfl, ⟨(Sl.nil _ _ _), (Sl.nil _ _ _), (Sl.nil _ _ _)⟩, hW.pick (ks := []) (by decide) pk_nil⟩)
  · refine Tr.skip (Tr.normThen ?_)
    refine Tr.seq ?_
    refine Tr.seq ?_
    refine Tr.region ?_
    refine Tr.val (wn rfl) rfl (fun _ _ h1 h2 => run_loadN (cs := [(.int .i64 p0.W), (.int .i64 p0.H), (.int .i64 p0.Rail), (.int .i64 p0.Gap), (.slice Ap0_0 (p0.Kinds).length cp0_0), (.slice Ap0_1 (p0.Slots).length cp0_1), (.slice Ap0_2 (p0.Marks).length cp0_2)]) ag_26 sz_26 (h1.ev rfl) (CellsAt.take (rdb h2 (vs := [(.int .i64 p0.W), (.int .i64 p0.H), (.int .i64 p0.Rail), (.int .i64 p0.Gap), (.slice Ap0_0 (p0.Kinds).length cp0_0), (.slice Ap0_1 (p0.Slots).length cp0_1), (.slice Ap0_2 (p0.Marks).length cp0_2)]) (k := 1) rfl 0) 7) rfl) ?_
    refine Tr.val (wn rfl) rfl (fun _ _ h1 h2 => run_move (h1.ev rfl)) ?_
    obtain ⟨y103, hy103, H⟩ := bnd H
    refine Tr.call0 (r := (.int .i64 y103)) (wn rfl) rfl Try.call55 (evl_cons rfl (evl_cons rfl evl_nil)) (fun W hW => F_etchhouseref9_kind_ok N p0 Ap0_0 cp0_0 (hp0_0.rl.ext hW.extAll) Ap0_1 cp0_1 (hp0_1.rl.ext hW.extAll) Ap0_2 cp0_2 (hp0_2.rl.ext hW.extAll) p1 y103 hy103 (HF.start _)) ?_
    refine Tr.val (wn rfl) rfl (fun _ _ h1 h2 => run_lss (h1.ev rfl) (h1.ev rfl)) ?_
    refine Tr.nil (Tr.normThen ?_)
    refine Tr.cond rfl H (fun H => ?_) (fun H => ?_)
    · refine Tr.seq ?_
      refine Tr.region ?_
      refine Tr.build (vs := []) (cs := [(.int .i64 0), (.int .i64 0), (.int .i64 0), (.int .i64 0), (.slice none 0 0), (.slice none 0 0), (.slice none 0 0)]) (wn rfl) rfl evs_nil (by kernel_rfl) ?_
      refine Tr.store 2 (cs := [(.int .i64 0), (.int .i64 0), (.int .i64 0), (.int .i64 0), (.slice none 0 0), (.slice none 0 0), (.slice none 0 0)]) [(.int .i64 0), (.int .i64 0), (.int .i64 0), (.int .i64 0), (.slice none 0 0), (.slice none 0 0), (.slice none 0 0)] (wn rfl) rfl rfl rfl rfl sz_26 rfl rfl rfl ?_
      refine Tr.val (wn rfl) rfl (fun _ _ h1 h2 => run_assign (h1.ev rfl)) ?_
      refine Tr.val (wn rfl) rfl (fun _ _ h1 h2 => run_assign (h1.ev rfl)) ?_
      refine Tr.nil (Tr.normThen ?_)
      refine Tr.ret (Tr.retThen ?_)
      obtain rfl := Option.some.inj H
      exact Tr.out (m := [(.agg #[(.int .i64 0), (.int .i64 0), (.int .i64 0), (.int .i64 0), (.slice none 0 0), (.slice none 0 0), (.slice none 0 0)]), (.bool false), (.int .i64 9)]) [2] (res_cell rfl rfl ag_26 sz_26 (res_tmp rfl (res_tmp rfl res_nil))) (fun W hW => ⟨w, ((none, 0), (none, 0), (none, 0)), leB, rfl, ⟨(Sl.nil _ _ _), (Sl.nil _ _ _), (Sl.nil _ _ _)⟩, hW.pick (ks := []) (by decide) pk_nil⟩)
    · refine Tr.skip (Tr.normThen ?_)
      refine Tr.seq ?_
      refine Tr.drawC 7 [] [] (by kernel_rfl) (by kernel_rfl) fun sz104 hlosz104 hEsz104 => ?_
      refine Dr.quiet 0 [(32, (.pointer (some ⟨b100, 2, none⟩)))] (by kernel_rfl) rfl rfl (by kernel_rfl) ?_ rfl rfl ?_
      · refine Tq.val (wn rfl) rfl (fun _ _ h1 h2 => run_fieldAddr fo_26_2 (h1.ev rfl)) ?_
        exact Tq.fin (.cons rfl .nil)
      refine Dr.quiet 1 [(33, (.int .i64 p0.Rail))] (by kernel_rfl) rfl rfl (by kernel_rfl) ?_ rfl rfl ?_
      · refine Tq.val (wn rfl) rfl (fun _ _ h1 h2 => run_load1 ag_3 (h1.ev rfl) (rdb h2 (vs := [(.int .i64 p0.W), (.int .i64 p0.H), (.int .i64 p0.Rail), (.int .i64 p0.Gap), (.slice Ap0_0 (p0.Kinds).length cp0_0), (.slice Ap0_1 (p0.Slots).length cp0_1), (.slice Ap0_2 (p0.Marks).length cp0_2)]) (k := 1) rfl 2) rfl) ?_
        exact Tq.fin (.cons rfl .nil)
      refine Dr.quiet 3 [(35, (.pointer (some ⟨b100, 2, none⟩)))] (by kernel_rfl) rfl rfl (by kernel_rfl) ?_ rfl rfl ?_
      · refine Tq.val (wn rfl) rfl (fun _ _ h1 h2 => run_fieldAddr fo_26_2 (h1.ev rfl)) ?_
        exact Tq.fin (.cons rfl .nil)
      refine Dr.quiet 4 [(36, (.int .i64 p0.Rail))] (by kernel_rfl) rfl rfl (by kernel_rfl) ?_ rfl rfl ?_
      · refine Tq.val (wn rfl) rfl (fun _ _ h1 h2 => run_load1 ag_3 (h1.ev rfl) (rdb h2 (vs := [(.int .i64 p0.W), (.int .i64 p0.H), (.int .i64 p0.Rail), (.int .i64 p0.Gap), (.slice Ap0_0 (p0.Kinds).length cp0_0), (.slice Ap0_1 (p0.Slots).length cp0_1), (.slice Ap0_2 (p0.Marks).length cp0_2)]) (k := 1) rfl 2) rfl) ?_
        exact Tq.fin (.cons rfl .nil)
      refine Dr.cut (U := Nat × Nat) [2, 6, 5] 0 (fun u => sz104 ≤ u.1 ∧ sz104 ≤ u.2) (fun u => [(0, (.agg #[(.int .i64 p0.W), (.int .i64 p0.H), (.int .i64 p0.Rail), (.int .i64 p0.Gap), (.slice Ap0_0 (p0.Kinds).length cp0_0), (.slice Ap0_1 (p0.Slots).length cp0_1), (.slice Ap0_2 (p0.Marks).length cp0_2)])), (1, (.string p1)), (2, (.pointer (some ⟨b100, 0, none⟩))), (4, (.pointer (some ⟨b101, 0, none⟩))), (5, (.bool false)), (6, (.int .i64 0)), (7, (.int .i64 y102)), (8, (.slice (some ⟨u.1, 0, none⟩) 1 1)), (21, (.agg #[(.int .i64 p0.W), (.int .i64 p0.H), (.int .i64 p0.Rail), (.int .i64 p0.Gap), (.slice Ap0_0 (p0.Kinds).length cp0_0), (.slice Ap0_1 (p0.Slots).length cp0_1), (.slice Ap0_2 (p0.Marks).length cp0_2)])), (22, (.int .i64 y102)), (23, (.int .i64 y102)), (24, (.bool (y102 != 0))), (27, (.agg #[(.int .i64 p0.W), (.int .i64 p0.H), (.int .i64 p0.Rail), (.int .i64 p0.Gap), (.slice Ap0_0 (p0.Kinds).length cp0_0), (.slice Ap0_1 (p0.Slots).length cp0_1), (.slice Ap0_2 (p0.Marks).length cp0_2)])), (28, (.string p1)), (29, (.int .i64 y103)), (30, (.bool (decide (y103 < 0)))), (32, (.pointer (some ⟨b100, 2, none⟩))), (33, (.int .i64 p0.Rail)), (34, (.slice (some ⟨u.1, 0, none⟩) 1 1)), (35, (.pointer (some ⟨b100, 2, none⟩))), (36, (.int .i64 p0.Rail)), (37, (.slice (some ⟨u.2, 0, none⟩) 1 1))]) (fun u => [(1, bx b100 #[(.int .i64 p0.W), (.int .i64 p0.H), (.int .i64 p0.Rail), (.int .i64 p0.Gap), (.slice Ap0_0 (p0.Kinds).length cp0_0), (.slice Ap0_1 (p0.Slots).length cp0_1), (.slice Ap0_2 (p0.Marks).length cp0_2)] 26), (2, bx b101 #[(.int .i64 0), (.int .i64 0), (.int .i64 0), (.int .i64 0), (.slice none 0 0), (.slice none 0 0), (.slice none 0 0)] 26), (3, bx u.1 #[(.int .i64 p0.Rail)] 3), (4, bx u.2 #[(.int .i64 p0.Rail)] 3)]) ?_ ?_
      · intro hC
        refine Dr.pair 2 5 (by kernel_rfl) ?_ ?_
        · refine St.buildSlice 2 3 (e := 3) (vs := [(0, (.int .i64 p0.Rail))]) (cs := [(.int .i64 p0.Rail)]) rfl (wn rfl) rfl (evs_cons rfl evs_nil) (by kernel_rfl) fun b105 hb105 => ?_
          refine Dr.quiet 6 [(8, (.slice (some ⟨b105, 0, none⟩) 1 1))] (by kernel_rfl) rfl rfl (by kernel_rfl) ?_ rfl rfl ?_
          · refine Tq.val (wn rfl) rfl (fun _ _ h1 h2 => run_assign (h1.ev rfl)) ?_
            exact Tq.fin (.cons rfl .nil)
          refine Dr.one 5 (by kernel_rfl) ?_
          refine St.buildSlice 5 4 (e := 3) (vs := [(0, (.int .i64 p0.Rail))]) (cs := [(.int .i64 p0.Rail)]) rfl (wn rfl) rfl (evs_cons rfl evs_nil) (by kernel_rfl) fun b106 hb106 => ?_
          exact (hC ⟨b105, b106⟩ ⟨hb105, hb106⟩).use (by kernel_rfl) (.cons rfl (.cons rfl (.cons rfl (.cons rfl (.cons rfl (.cons rfl (.cons rfl (.cons rfl (.cons rfl (.cons rfl (.cons rfl (.cons rfl (.cons rfl (.cons rfl (.cons rfl (.cons rfl (.cons rfl (.cons rfl (.cons rfl (.cons rfl (.cons rfl (.cons rfl .nil)))))))))))))))))))))) (.cons rfl (.cons rfl (.cons rfl (.cons rfl .nil))))
        · refine St.buildSlice 5 4 (e := 3) (vs := [(0, (.int .i64 p0.Rail))]) (cs := [(.int .i64 p0.Rail)]) rfl (wn rfl) rfl (evs_cons rfl evs_nil) (by kernel_rfl) fun b106 hb106 => ?_
          refine Dr.one 2 (by kernel_rfl) ?_
          refine St.buildSlice 2 3 (e := 3) (vs := [(0, (.int .i64 p0.Rail))]) (cs := [(.int .i64 p0.Rail)]) rfl (wn rfl) rfl (evs_cons rfl evs_nil) (by kernel_rfl) fun b105 hb105 => ?_
          refine Dr.quiet 6 [(8, (.slice (some ⟨b105, 0, none⟩) 1 1))] (by kernel_rfl) rfl rfl (by kernel_rfl) ?_ rfl rfl ?_
          · refine Tq.val (wn rfl) rfl (fun _ _ h1 h2 => run_assign (h1.ev rfl)) ?_
            exact Tq.fin (.cons rfl .nil)
          exact (hC ⟨b105, b106⟩ ⟨hb105, hb106⟩).use (by kernel_rfl) (.cons rfl (.cons rfl (.cons rfl (.cons rfl (.cons rfl (.cons rfl (.cons rfl (.cons rfl (.cons rfl (.cons rfl (.cons rfl (.cons rfl (.cons rfl (.cons rfl (.cons rfl (.cons rfl (.cons rfl (.cons rfl (.cons rfl (.cons rfl (.cons rfl (.cons rfl .nil)))))))))))))))))))))) (.cons rfl (.cons rfl (.cons rfl (.cons rfl .nil))))
      intro u hu
      obtain ⟨b105, b106⟩ := u
      obtain ⟨hb105, hb106⟩ := hu
      replace hb105 : sz104 ≤ b105 := hb105
      replace hb106 : sz104 ≤ b106 := hb106
      show Dr _ _ _ _ _ _ _ _ _ (LF [(0, (.agg #[(.int .i64 p0.W), (.int .i64 p0.H), (.int .i64 p0.Rail), (.int .i64 p0.Gap), (.slice Ap0_0 (p0.Kinds).length cp0_0), (.slice Ap0_1 (p0.Slots).length cp0_1), (.slice Ap0_2 (p0.Marks).length cp0_2)])), (1, (.string p1)), (2, (.pointer (some ⟨b100, 0, none⟩))), (4, (.pointer (some ⟨b101, 0, none⟩))), (5, (.bool false)), (6, (.int .i64 0)), (7, (.int .i64 y102)), (8, (.slice (some ⟨b105, 0, none⟩) 1 1)), (21, (.agg #[(.int .i64 p0.W), (.int .i64 p0.H), (.int .i64 p0.Rail), (.int .i64 p0.Gap), (.slice Ap0_0 (p0.Kinds).length cp0_0), (.slice Ap0_1 (p0.Slots).length cp0_1), (.slice Ap0_2 (p0.Marks).length cp0_2)])), (22, (.int .i64 y102)), (23, (.int .i64 y102)), (24, (.bool (y102 != 0))), (27, (.agg #[(.int .i64 p0.W), (.int .i64 p0.H), (.int .i64 p0.Rail), (.int .i64 p0.Gap), (.slice Ap0_0 (p0.Kinds).length cp0_0), (.slice Ap0_1 (p0.Slots).length cp0_1), (.slice Ap0_2 (p0.Marks).length cp0_2)])), (28, (.string p1)), (29, (.int .i64 y103)), (30, (.bool (decide (y103 < 0)))), (32, (.pointer (some ⟨b100, 2, none⟩))), (33, (.int .i64 p0.Rail)), (34, (.slice (some ⟨b105, 0, none⟩) 1 1)), (35, (.pointer (some ⟨b100, 2, none⟩))), (36, (.int .i64 p0.Rail)), (37, (.slice (some ⟨b106, 0, none⟩) 1 1))]) (LE [(1, bx b100 #[(.int .i64 p0.W), (.int .i64 p0.H), (.int .i64 p0.Rail), (.int .i64 p0.Gap), (.slice Ap0_0 (p0.Kinds).length cp0_0), (.slice Ap0_1 (p0.Slots).length cp0_1), (.slice Ap0_2 (p0.Marks).length cp0_2)] 26), (2, bx b101 #[(.int .i64 0), (.int .i64 0), (.int .i64 0), (.int .i64 0), (.slice none 0 0), (.slice none 0 0), (.slice none 0 0)] 26), (3, bx b105 #[(.int .i64 p0.Rail)] 3), (4, bx b106 #[(.int .i64 p0.Rail)] 3)])
      refine Dr.tail (by kernel_rfl) ?_
      refine Tr.own 4 fl_i64 [p0.Rail] (css := [[(.int .i64 p0.Rail)]]) rfl (.cons ⟨(), trivial, rfl⟩ .nil) rfl (by decide) (lit_max rfl) ?_
      refine Tr.val (wn rfl) rfl (fun _ _ h1 h2 => run_assign (h1.ev rfl)) ?_
      refine Tr.nil (Tr.normThen ?_)
      refine Tr.seq ?_
      refine Tr.region ?_
      refine Tr.val (wn rfl) rfl (fun _ _ h1 h2 => run_loadN (cs := [(.int .i64 p0.W), (.int .i64 p0.H), (.int .i64 p0.Rail), (.int .i64 p0.Gap), (.slice Ap0_0 (p0.Kinds).length cp0_0), (.slice Ap0_1 (p0.Slots).length cp0_1), (.slice Ap0_2 (p0.Marks).length cp0_2)]) ag_26 sz_26 (h1.ev rfl) (CellsAt.take (rdb h2 (vs := [(.int .i64 p0.W), (.int .i64 p0.H), (.int .i64 p0.Rail), (.int .i64 p0.Gap), (.slice Ap0_0 (p0.Kinds).length cp0_0), (.slice Ap0_1 (p0.Slots).length cp0_1), (.slice Ap0_2 (p0.Marks).length cp0_2)]) (k := 1) rfl 0) 7) rfl) ?_
      obtain ⟨y107, hy107, H⟩ := bnd H
      refine Tr.callM [5] [emp] (U := (Option Addr × Nat)) (fun u => (.slice u.1 (y107).length u.2)) (fun u => SlF u.1 (y107).length u.2) (fun u => [ow u.1 u.2 42 fl_TRect y107]) rfl (pk_cons rfl pk_nil) (fun _ => rfl) (wn rfl) rfl Try.call77 (evl_cons rfl evl_nil) (fun W hW hp hE => F_etchhouseref9_cells_ok N p0 Ap0_0 cp0_0 (hp0_0.rl.ext (hW.extS hp)) Ap0_1 cp0_1 (hp0_1.rl.ext (hW.extS hp)) Ap0_2 cp0_2 (hp0_2.rl.ext (hW.extS hp)) y107 hy107 hE) ?_
      intro u hu
      obtain ⟨Ay107_0, cy107_0⟩ := u
      have gy107_0 := hu
      have hgy107_0 : SlF Ay107_0 (y107).length cy107_0 := gy107_0 --@phi
      show Tr _ _ (uf _ 39 (.slice Ay107_0 (y107).length cy107_0)) (up _ 5 (ow Ay107_0 cy107_0 42 fl_TRect y107)) _
      refine Tr.val (wn rfl) rfl (fun _ _ h1 h2 => run_assign (h1.ev rfl)) ?_
      refine Tr.nil (Tr.normThen ?_)
      refine Tr.seq ?_
      refine Tr.seq ?_
      refine Tr.region ?_
      refine Tr.val (wn rfl) rfl (fun _ _ h1 h2 => run_assign (h1.ev rfl)) ?_
      refine Tr.nil (Tr.normThen ?_)
      refine Tr.block ?_
      refine Tr.own 3 fl_i64 [p0.Rail] (css := [[(.int .i64 p0.Rail)]]) rfl (.cons ⟨(), trivial, rfl⟩ .nil) rfl (by decide) (lit_max rfl) ?_
      refine Tr.ren 3 14 rfl rfl rfl ?_
      refine Tr.loop (σ := (List Int) × (List Int) × Int × (Option Addr) × Nat × (Option Addr) × Nat) (fun m w s => F_etchhouseref9_Added_L1 N p0 p1 y107 m s.1 s.2.1 s.2.2.1 = some r ∧ SlF s.2.2.2.1 (s.1).length s.2.2.2.2.1 ∧ SlF s.2.2.2.2.2.1 (s.2.1).length s.2.2.2.2.2.2) (fun s => [(1, (.string p1)), (2, (.pointer (some ⟨b100, 0, none⟩))), (4, (.pointer (some ⟨b101, 0, none⟩))), (8, (.slice s.2.2.2.1 (s.1).length s.2.2.2.2.1)), (9, (.slice s.2.2.2.2.2.1 (s.2.1).length s.2.2.2.2.2.2)), (10, (.slice Ay107_0 (y107).length cy107_0)), (11, (.int .i64 s.2.2.1))]) (fun s => [(1, bx b100 #[(.int .i64 p0.W), (.int .i64 p0.H), (.int .i64 p0.Rail), (.int .i64 p0.Gap), (.slice Ap0_0 (p0.Kinds).length cp0_0), (.slice Ap0_1 (p0.Slots).length cp0_1), (.slice Ap0_2 (p0.Marks).length cp0_2)] 26), (2, bx b101 #[(.int .i64 0), (.int .i64 0), (.int .i64 0), (.int .i64 0), (.slice none 0 0), (.slice none 0 0), (.slice none 0 0)] 26), (4, ow s.2.2.2.2.2.1 s.2.2.2.2.2.2 3 fl_i64 s.2.1), (5, ow Ay107_0 cy107_0 42 fl_TRect y107), (14, ow s.2.2.2.1 s.2.2.2.2.1 3 fl_i64 s.1)]) N ([p0.Rail], [p0.Rail], 0, (some ⟨b105, 0, none⟩), 1, (some ⟨b106, 0, none⟩), 1) ⟨H, (lit_form b105 rfl), (lit_form b106 rfl)⟩ (.cons rfl (.cons rfl (.cons rfl (.cons rfl (.cons rfl (.cons rfl (.cons rfl .nil))))))) (.cons rfl (.cons rfl (.cons rfl (.cons rfl (.cons rfl .nil))))) (fun _ _ h => noSome (h.1)) ?_
      intro w leF_etchhouseref9_Added_L1 mF_etchhouseref9_Added_L1 s hs
      obtain ⟨l131, l132, x133, Al131, cl131, Al132, cl132⟩ := s
      obtain ⟨H, hl131, hl132⟩ := hs
      replace H : F_etchhouseref9_Added_L1 N p0 p1 y107 (mF_etchhouseref9_Added_L1 + 1) l131 l132 x133 = some r := H
      replace hp0_0 := hp0_0.le leF_etchhouseref9_Added_L1
      replace hp0_1 := hp0_1.le leF_etchhouseref9_Added_L1
      replace hp0_2 := hp0_2.le leF_etchhouseref9_Added_L1
      replace leB := leB.trans leF_etchhouseref9_Added_L1
      replace hl131 : SlF Al131 (l131).length cl131 := hl131
      replace hl132 : SlF Al132 (l132).length cl132 := hl132
      rw [F_etchhouseref9_Added_L1.eq_2] at H
      show Tr _ _ (LF [(1, (.string p1)), (2, (.pointer (some ⟨b100, 0, none⟩))), (4, (.pointer (some ⟨b101, 0, none⟩))), (8, (.slice Al131 (l131).length cl131)), (9, (.slice Al132 (l132).length cl132)), (10, (.slice Ay107_0 (y107).length cy107_0)), (11, (.int .i64 x133))]) (LE [(1, bx b100 #[(.int .i64 p0.W), (.int .i64 p0.H), (.int .i64 p0.Rail), (.int .i64 p0.Gap), (.slice Ap0_0 (p0.Kinds).length cp0_0), (.slice Ap0_1 (p0.Slots).length cp0_1), (.slice Ap0_2 (p0.Marks).length cp0_2)] 26), (2, bx b101 #[(.int .i64 0), (.int .i64 0), (.int .i64 0), (.int .i64 0), (.slice none 0 0), (.slice none 0 0), (.slice none 0 0)] 26), (4, ow Al132 cl132 3 fl_i64 l132), (5, ow Ay107_0 cy107_0 42 fl_TRect y107), (14, ow Al131 cl131 3 fl_i64 l131)]) _
      refine Tr.seq ?_
      refine Tr.seq ?_
      refine Tr.region ?_
      refine Tr.val (wn rfl) rfl (fun _ _ h1 h2 => run_move (h1.ev rfl)) ?_
      refine Tr.val (wn rfl) rfl (fun _ _ h1 h2 => run_move (h1.ev rfl)) ?_
      refine Tr.val (wn rfl) rfl (fun _ _ h1 h2 => run_len un_38 (h1.ev rfl)) ?_
      refine Tr.val (wn rfl) rfl (fun _ _ h1 h2 => run_lss (h1.ev rfl) (h1.ev rfl)) ?_
      refine Tr.nil (Tr.normThen ?_)
      refine Tr.cond rfl H (fun H => ?_) (fun H => ?_)
      · refine Tr.skip (Tr.normThen ?_)
        refine Tr.seq ?_
        refine Tr.block ?_
        refine Tr.seq ?_
        obtain ⟨x135, hx135, H⟩ := bnd H
        obtain ⟨hx1350, hx1351, hx1352⟩ := idx_some hx135
        refine Tr.drawF 10 [(9, .makeFunc (.func 0) #[] #[.tmp 54])] [(9, ⟨55, 15, (.func (.func 0) #[] #[(.int .i64 (w64 (x135.X1 + p0.Gap)))]), fun b => .slice (some ⟨b, 0, none⟩) 1 1, fun b => bx b #[(.int .i64 (w64 (x135.X1 + p0.Gap)))] 3⟩)] [(1, (.string p1)), (2, (.pointer (some ⟨b100, 0, none⟩))), (4, (.pointer (some ⟨b101, 0, none⟩))), (8, (.slice Al131 (l131).length cl131)), (9, (.slice Al132 (l132).length cl132)), (10, (.slice Ay107_0 (y107).length cy107_0)), (11, (.int .i64 x133)), (40, (.int .i64 x133)), (41, (.slice Ay107_0 (y107).length cy107_0)), (42, (.int .i64 (y107.length : Int))), (43, (.bool (decide (x133 < (y107.length : Int))))), (46, (.slice Al131 (l131).length cl131)), (47, (.slice Ay107_0 (y107).length cy107_0)), (48, (.int .i64 x133)), (49, (.pointer (some ⟨adB Ay107_0, adO Ay107_0 + (x133).toNat * 4, none⟩))), (50, (.pointer (some ⟨adB Ay107_0, adO Ay107_0 + (x133).toNat * 4 + 2, none⟩))), (51, (.int .i64 x135.X1)), (52, (.pointer (some ⟨b100, 3, none⟩))), (53, (.int .i64 p0.Gap)), (54, (.int .i64 (w64 (x135.X1 + p0.Gap)))), (55, (.func (.func 0) #[] #[(.int .i64 (w64 (x135.X1 + p0.Gap)))]))] (by kernel_rfl) (by kernel_rfl) (by kernel_rfl) (by kernel_rfl) (by kernel_rfl) (by kernel_rfl) (by kernel_rfl) (fall_cons (fr_lit (vs := [(0, (.int .i64 (w64 (x135.X1 + p0.Gap))))]) rfl rfl rfl (by kernel_rfl)) fall_nil) (fall_cons rfl fall_nil) (fall_cons rfl fall_nil) ?_ ?_
        · refine Tq.val (wn rfl) rfl (fun _ _ h1 h2 => run_move (h1.ev rfl)) ?_
          refine Tq.val (wn rfl) rfl (fun _ _ h1 h2 => run_move (h1.ev rfl)) ?_
          refine Tq.val (wn rfl) rfl (fun _ _ h1 h2 => run_move (h1.ev rfl)) ?_
          refine Tq.val (wn rfl) rfl (fun _ _ h1 h2 => run_indexAddr el_38 (h1.ev rfl) hgy107_0 (h1.ev rfl) hx1350 hx1351) ?_
          refine Tq.val (wn rfl) rfl (fun _ _ h1 h2 => run_fieldAddr fo_42_2 (h1.ev rfl)) ?_
          refine Tq.val (wn rfl) rfl (fun _ _ h1 h2 => run_load1 ag_3 (h1.ev rfl) (CellsAt.drop (rdo ef_TRect (k := 5) h2 rfl hx1352) 2) rfl) ?_
          refine Tq.val (wn rfl) rfl (fun _ _ h1 h2 => run_fieldAddr fo_26_3 (h1.ev rfl)) ?_
          refine Tq.val (wn rfl) rfl (fun _ _ h1 h2 => run_load1 ag_3 (h1.ev rfl) (rdb h2 (vs := [(.int .i64 p0.W), (.int .i64 p0.H), (.int .i64 p0.Rail), (.int .i64 p0.Gap), (.slice Ap0_0 (p0.Kinds).length cp0_0), (.slice Ap0_1 (p0.Slots).length cp0_1), (.slice Ap0_2 (p0.Marks).length cp0_2)]) (k := 1) rfl 3) rfl) ?_
          refine Tq.val (wn rfl) rfl (fun _ _ h1 h2 => run_add (h1.ev rfl) (h1.ev rfl)) ?_
          refine Tq.mkFunc (vs := [(.int .i64 (w64 (x135.X1 + p0.Gap)))]) (wn rfl) rfl (evl_cons rfl evl_nil) ?_
          exact Tq.fin (.cons rfl (.cons rfl (.cons rfl (.cons rfl (.cons rfl (.cons rfl (.cons rfl (.cons rfl (.cons rfl (.cons rfl (.cons rfl (.cons rfl (.cons rfl (.cons rfl (.cons rfl (.cons rfl (.cons rfl (.cons rfl (.cons rfl (.cons rfl (.cons rfl .nil)))))))))))))))))))))
        · intro bs134
          refine Tr.sel (lf := [(1, (.string p1)), (2, (.pointer (some ⟨b100, 0, none⟩))), (4, (.pointer (some ⟨b101, 0, none⟩))), (9, (.slice Al132 (l132).length cl132)), (10, (.slice Ay107_0 (y107).length cy107_0)), (11, (.int .i64 x133)), (46, (.slice Al131 (l131).length cl131)), (55, (.slice (some ⟨(bs134 9), 0, none⟩) 1 1))]) (le := [(1, bx b100 #[(.int .i64 p0.W), (.int .i64 p0.H), (.int .i64 p0.Rail), (.int .i64 p0.Gap), (.slice Ap0_0 (p0.Kinds).length cp0_0), (.slice Ap0_1 (p0.Slots).length cp0_1), (.slice Ap0_2 (p0.Marks).length cp0_2)] 26), (2, bx b101 #[(.int .i64 0), (.int .i64 0), (.int .i64 0), (.int .i64 0), (.slice none 0 0), (.slice none 0 0), (.slice none 0 0)] 26), (4, ow Al132 cl132 3 fl_i64 l132), (5, ow Ay107_0 cy107_0 42 fl_TRect y107), (14, ow Al131 cl131 3 fl_i64 l131), (15, bx (bs134 9) #[(.int .i64 (w64 (x135.X1 + p0.Gap)))] 3)]) (.cons rfl (.cons rfl (.cons rfl (.cons rfl (.cons rfl (.cons rfl (.cons rfl (.cons rfl .nil)))))))) (.cons rfl (.cons rfl (.cons rfl (.cons rfl (.cons rfl (.cons rfl .nil)))))) ?_
          obtain ⟨l136, hl136, H⟩ := bnd H
          refine Tr.append 14 (t := fl_i64) (l := l131) (l2 := [(w64 (x135.X1 + p0.Gap))]) (wn rfl) rfl rfl rfl rfl (fun W hW => ⟨[[(.int .i64 (w64 (x135.X1 + p0.Gap)))]], (.cons ⟨(), trivial, rfl⟩ .nil), rdb hW (vs := [(.int .i64 (w64 (x135.X1 + p0.Gap)))]) (k := 15) rfl 0⟩) un_63 sz_3 zl_3 (by decide) by_3 rfl hl136 fun Al136 cl136 hAl136 => ?_
          refine Tr.val (wn rfl) rfl (fun _ _ h1 h2 => run_assign (h1.ev rfl)) ?_
          refine Tr.nil (Tr.normThen ?_)
          obtain ⟨x138, hx138, H⟩ := bnd H
          obtain ⟨hx1380, hx1381, hx1382⟩ := idx_some hx138
          refine Tr.drawF 10 [(9, .makeFunc (.func 0) #[] #[.tmp 65])] [(9, ⟨66, 16, (.func (.func 0) #[] #[(.int .i64 (w64 (x138.Y1 + p0.Gap)))]), fun b => .slice (some ⟨b, 0, none⟩) 1 1, fun b => bx b #[(.int .i64 (w64 (x138.Y1 + p0.Gap)))] 3⟩)] [(1, (.string p1)), (2, (.pointer (some ⟨b100, 0, none⟩))), (4, (.pointer (some ⟨b101, 0, none⟩))), (8, (.slice Al136 (l136).length cl136)), (9, (.slice Al132 (l132).length cl132)), (10, (.slice Ay107_0 (y107).length cy107_0)), (11, (.int .i64 x133)), (56, (.slice Al136 (l136).length cl136)), (57, (.slice Al132 (l132).length cl132)), (58, (.slice Ay107_0 (y107).length cy107_0)), (59, (.int .i64 x133)), (60, (.pointer (some ⟨adB Ay107_0, adO Ay107_0 + (x133).toNat * 4, none⟩))), (61, (.pointer (some ⟨adB Ay107_0, adO Ay107_0 + (x133).toNat * 4 + 3, none⟩))), (62, (.int .i64 x138.Y1)), (63, (.pointer (some ⟨b100, 3, none⟩))), (64, (.int .i64 p0.Gap)), (65, (.int .i64 (w64 (x138.Y1 + p0.Gap)))), (66, (.func (.func 0) #[] #[(.int .i64 (w64 (x138.Y1 + p0.Gap)))]))] (by kernel_rfl) (by kernel_rfl) (by kernel_rfl) (by kernel_rfl) (by kernel_rfl) (by kernel_rfl) (by kernel_rfl) (fall_cons (fr_lit (vs := [(0, (.int .i64 (w64 (x138.Y1 + p0.Gap))))]) rfl rfl rfl (by kernel_rfl)) fall_nil) (fall_cons rfl fall_nil) (fall_cons rfl fall_nil) ?_ ?_
          · refine Tq.val (wn rfl) rfl (fun _ _ h1 h2 => run_move (h1.ev rfl)) ?_
            refine Tq.val (wn rfl) rfl (fun _ _ h1 h2 => run_move (h1.ev rfl)) ?_
            refine Tq.val (wn rfl) rfl (fun _ _ h1 h2 => run_move (h1.ev rfl)) ?_
            refine Tq.val (wn rfl) rfl (fun _ _ h1 h2 => run_indexAddr el_38 (h1.ev rfl) hgy107_0 (h1.ev rfl) hx1380 hx1381) ?_
            refine Tq.val (wn rfl) rfl (fun _ _ h1 h2 => run_fieldAddr fo_42_3 (h1.ev rfl)) ?_
            refine Tq.val (wn rfl) rfl (fun _ _ h1 h2 => run_load1 ag_3 (h1.ev rfl) (CellsAt.drop (rdo ef_TRect (k := 5) h2 rfl hx1382) 3) rfl) ?_
            refine Tq.val (wn rfl) rfl (fun _ _ h1 h2 => run_fieldAddr fo_26_3 (h1.ev rfl)) ?_
            refine Tq.val (wn rfl) rfl (fun _ _ h1 h2 => run_load1 ag_3 (h1.ev rfl) (rdb h2 (vs := [(.int .i64 p0.W), (.int .i64 p0.H), (.int .i64 p0.Rail), (.int .i64 p0.Gap), (.slice Ap0_0 (p0.Kinds).length cp0_0), (.slice Ap0_1 (p0.Slots).length cp0_1), (.slice Ap0_2 (p0.Marks).length cp0_2)]) (k := 1) rfl 3) rfl) ?_
            refine Tq.val (wn rfl) rfl (fun _ _ h1 h2 => run_add (h1.ev rfl) (h1.ev rfl)) ?_
            refine Tq.mkFunc (vs := [(.int .i64 (w64 (x138.Y1 + p0.Gap)))]) (wn rfl) rfl (evl_cons rfl evl_nil) ?_
            exact Tq.fin (.cons rfl (.cons rfl (.cons rfl (.cons rfl (.cons rfl (.cons rfl (.cons rfl (.cons rfl (.cons rfl (.cons rfl (.cons rfl (.cons rfl (.cons rfl (.cons rfl (.cons rfl (.cons rfl (.cons rfl (.cons rfl .nil))))))))))))))))))
          · intro bs137
            refine Tr.sel (lf := [(1, (.string p1)), (2, (.pointer (some ⟨b100, 0, none⟩))), (4, (.pointer (some ⟨b101, 0, none⟩))), (8, (.slice Al136 (l136).length cl136)), (10, (.slice Ay107_0 (y107).length cy107_0)), (11, (.int .i64 x133)), (57, (.slice Al132 (l132).length cl132)), (66, (.slice (some ⟨(bs137 9), 0, none⟩) 1 1))]) (le := [(1, bx b100 #[(.int .i64 p0.W), (.int .i64 p0.H), (.int .i64 p0.Rail), (.int .i64 p0.Gap), (.slice Ap0_0 (p0.Kinds).length cp0_0), (.slice Ap0_1 (p0.Slots).length cp0_1), (.slice Ap0_2 (p0.Marks).length cp0_2)] 26), (2, bx b101 #[(.int .i64 0), (.int .i64 0), (.int .i64 0), (.int .i64 0), (.slice none 0 0), (.slice none 0 0), (.slice none 0 0)] 26), (4, ow Al132 cl132 3 fl_i64 l132), (5, ow Ay107_0 cy107_0 42 fl_TRect y107), (14, ow Al136 cl136 3 fl_i64 l136), (16, bx (bs137 9) #[(.int .i64 (w64 (x138.Y1 + p0.Gap)))] 3)]) (.cons rfl (.cons rfl (.cons rfl (.cons rfl (.cons rfl (.cons rfl (.cons rfl (.cons rfl .nil)))))))) (.cons rfl (.cons rfl (.cons rfl (.cons rfl (.cons rfl (.cons rfl .nil)))))) ?_
            obtain ⟨l139, hl139, H⟩ := bnd H
            refine Tr.append 4 (t := fl_i64) (l := l132) (l2 := [(w64 (x138.Y1 + p0.Gap))]) (wn rfl) rfl rfl rfl rfl (fun W hW => ⟨[[(.int .i64 (w64 (x138.Y1 + p0.Gap)))]], (.cons ⟨(), trivial, rfl⟩ .nil), rdb hW (vs := [(.int .i64 (w64 (x138.Y1 + p0.Gap)))]) (k := 16) rfl 0⟩) un_63 sz_3 zl_3 (by decide) by_3 rfl hl139 fun Al139 cl139 hAl139 => ?_
            refine Tr.val (wn rfl) rfl (fun _ _ h1 h2 => run_assign (h1.ev rfl)) ?_
            refine Tr.nil (Tr.normBlock (Tr.normThen ?_))
            refine Tr.region ?_
            refine Tr.val (wn rfl) rfl (fun _ _ h1 h2 => run_move (h1.ev rfl)) ?_
            refine Tr.val (wn rfl) rfl (fun _ _ h1 h2 => run_add (h1.ev rfl) (h1.ev rfl)) ?_
            refine Tr.val (wn rfl) rfl (fun _ _ h1 h2 => run_assign (h1.ev rfl)) ?_
            refine Tr.nil ?_
            exact Tr.backThen leF_etchhouseref9_Added_L1 (l136, l139, (w64 (x133 + 1)), Al136, cl136, Al139, cl139) ⟨H, hAl136, hAl139⟩ (.cons rfl (.cons rfl (.cons rfl (.cons rfl (.cons rfl (.cons rfl (.cons rfl .nil))))))) (.cons rfl (.cons rfl (.cons rfl (.cons rfl (.cons rfl .nil)))))
      · refine Tr.exit (Tr.exitThen (Tr.exitThen (Tr.exitBlock (Tr.normThen ?_))))
        refine Tr.seq ?_
        refine Tr.region ?_
        refine Tr.build (vs := []) (cs := [(.string ⟨#[]⟩), (.int .i64 0), (.int .i64 0), (.int .i64 0)]) (wn rfl) rfl evs_nil (by kernel_rfl) ?_
        refine Tr.alloc 17 (wn rfl) rfl ze_34 fun b140 => ?_
        refine Tr.store 17 (cs := [(.string ⟨#[]⟩), (.int .i64 0), (.int .i64 0), (.int .i64 0)]) [(.string ⟨#[]⟩), (.int .i64 0), (.int .i64 0), (.int .i64 0)] (wn rfl) rfl rfl rfl rfl sz_34 rfl rfl rfl ?_
        refine Tr.val (wn rfl) rfl (fun _ _ h1 h2 => run_assign (h1.ev rfl)) ?_
        refine Tr.nil (Tr.normThen ?_)
        refine Tr.seq ?_
        refine Tr.seq ?_
        refine Tr.region ?_
        refine Tr.val (wn rfl) rfl (fun _ _ h1 h2 => run_assign (h1.ev rfl)) ?_
        refine Tr.nil (Tr.normThen ?_)
        refine Tr.block ?_
        refine Tr.loop (σ := ByteArray × Int × Int × Int × Bool × Int) (fun m w s => F_etchhouseref9_Added_L10 N p0 p1 l131 l132 m s.1 s.2.1 s.2.2.1 s.2.2.2.1 s.2.2.2.2.1 s.2.2.2.2.2 = some r) (fun s => [(1, (.string p1)), (2, (.pointer (some ⟨b100, 0, none⟩))), (4, (.pointer (some ⟨b101, 0, none⟩))), (8, (.slice Al131 (l131).length cl131)), (9, (.slice Al132 (l132).length cl132)), (12, (.pointer (some ⟨b140, 0, none⟩))), (13, (.bool s.2.2.2.2.1)), (14, (.int .i64 s.2.2.2.2.2))]) (fun s => [(1, bx b100 #[(.int .i64 p0.W), (.int .i64 p0.H), (.int .i64 p0.Rail), (.int .i64 p0.Gap), (.slice Ap0_0 (p0.Kinds).length cp0_0), (.slice Ap0_1 (p0.Slots).length cp0_1), (.slice Ap0_2 (p0.Marks).length cp0_2)] 26), (2, bx b101 #[(.int .i64 0), (.int .i64 0), (.int .i64 0), (.int .i64 0), (.slice none 0 0), (.slice none 0 0), (.slice none 0 0)] 26), (4, ow Al132 cl132 3 fl_i64 l132), (14, ow Al131 cl131 3 fl_i64 l131), (17, bx b140 #[(.string s.1), (.int .i64 s.2.1), (.int .i64 s.2.2.1), (.int .i64 s.2.2.2.1)] 34)]) N (⟨#[]⟩, 0, 0, 0, false, 0) H (.cons rfl (.cons rfl (.cons rfl (.cons rfl (.cons rfl (.cons rfl (.cons rfl (.cons rfl .nil)))))))) (.cons rfl (.cons rfl (.cons rfl (.cons rfl (.cons rfl .nil))))) (fun _ _ h => noSome (h)) ?_
        intro w leF_etchhouseref9_Added_L10 mF_etchhouseref9_Added_L10 s hs
        obtain ⟨x532, x533, x534, x535, x536, x537⟩ := s
        have H := hs
        replace H : F_etchhouseref9_Added_L10 N p0 p1 l131 l132 (mF_etchhouseref9_Added_L10 + 1) x532 x533 x534 x535 x536 x537 = some r := H
        replace hp0_0 := hp0_0.le leF_etchhouseref9_Added_L10
        replace hp0_1 := hp0_1.le leF_etchhouseref9_Added_L10
        replace hp0_2 := hp0_2.le leF_etchhouseref9_Added_L10
        replace leB := leB.trans leF_etchhouseref9_Added_L10
        replace leF_etchhouseref9_Added_L1 := leF_etchhouseref9_Added_L1.trans leF_etchhouseref9_Added_L10
        rw [F_etchhouseref9_Added_L10.eq_2] at H
        show Tr _ _ (LF [(1, (.string p1)), (2, (.pointer (some ⟨b100, 0, none⟩))), (4, (.pointer (some ⟨b101, 0, none⟩))), (8, (.slice Al131 (l131).length cl131)), (9, (.slice Al132 (l132).length cl132)), (12, (.pointer (some ⟨b140, 0, none⟩))), (13, (.bool x536)), (14, (.int .i64 x537))]) (LE [(1, bx b100 #[(.int .i64 p0.W), (.int .i64 p0.H), (.int .i64 p0.Rail), (.int .i64 p0.Gap), (.slice Ap0_0 (p0.Kinds).length cp0_0), (.slice Ap0_1 (p0.Slots).length cp0_1), (.slice Ap0_2 (p0.Marks).length cp0_2)] 26), (2, bx b101 #[(.int .i64 0), (.int .i64 0), (.int .i64 0), (.int .i64 0), (.slice none 0 0), (.slice none 0 0), (.slice none 0 0)] 26), (4, ow Al132 cl132 3 fl_i64 l132), (14, ow Al131 cl131 3 fl_i64 l131), (17, bx b140 #[(.string x532), (.int .i64 x533), (.int .i64 x534), (.int .i64 x535)] 34)]) _
        refine Tr.seq ?_
        refine Tr.seq ?_
        refine Tr.region ?_
        refine Tr.val (wn rfl) rfl (fun _ _ h1 h2 => run_move (h1.ev rfl)) ?_
        refine Tr.val (wn rfl) rfl (fun _ _ h1 h2 => run_move (h1.ev rfl)) ?_
        refine Tr.val (wn rfl) rfl (fun _ _ h1 h2 => run_len un_63 (h1.ev rfl)) ?_
        refine Tr.val (wn rfl) rfl (fun _ _ h1 h2 => run_lss (h1.ev rfl) (h1.ev rfl)) ?_
        refine Tr.nil (Tr.normThen ?_)
        refine Tr.cond rfl H (fun H => ?_) (fun H => ?_)
        · refine Tr.skip (Tr.normThen ?_)
          refine Tr.seq ?_
          refine Tr.block ?_
          refine Tr.seq ?_
          refine Tr.region ?_
          refine Tr.val (wn rfl) rfl (fun _ _ h1 h2 => run_assign (h1.ev rfl)) ?_
          refine Tr.nil (Tr.normThen ?_)
          refine Tr.block ?_
          refine Tr.loop (σ := ByteArray × Int × Int × Int × Bool × Int) (fun m w s => F_etchhouseref9_Added_L13 N p0 p1 l131 l132 x537 (F_etchhouseref9_Added_L10 N p0 p1 l131 l132 mF_etchhouseref9_Added_L10) m s.1 s.2.1 s.2.2.1 s.2.2.2.1 s.2.2.2.2.1 s.2.2.2.2.2 = some r) (fun s => [(1, (.string p1)), (2, (.pointer (some ⟨b100, 0, none⟩))), (4, (.pointer (some ⟨b101, 0, none⟩))), (8, (.slice Al131 (l131).length cl131)), (9, (.slice Al132 (l132).length cl132)), (12, (.pointer (some ⟨b140, 0, none⟩))), (13, (.bool s.2.2.2.2.1)), (14, (.int .i64 x537)), (15, (.int .i64 s.2.2.2.2.2))]) (fun s => [(1, bx b100 #[(.int .i64 p0.W), (.int .i64 p0.H), (.int .i64 p0.Rail), (.int .i64 p0.Gap), (.slice Ap0_0 (p0.Kinds).length cp0_0), (.slice Ap0_1 (p0.Slots).length cp0_1), (.slice Ap0_2 (p0.Marks).length cp0_2)] 26), (2, bx b101 #[(.int .i64 0), (.int .i64 0), (.int .i64 0), (.int .i64 0), (.slice none 0 0), (.slice none 0 0), (.slice none 0 0)] 26), (4, ow Al132 cl132 3 fl_i64 l132), (14, ow Al131 cl131 3 fl_i64 l131), (17, bx b140 #[(.string s.1), (.int .i64 s.2.1), (.int .i64 s.2.2.1), (.int .i64 s.2.2.2.1)] 34)]) N (x532, x533, x534, x535, x536, 0) H (.cons rfl (.cons rfl (.cons rfl (.cons rfl (.cons rfl (.cons rfl (.cons rfl (.cons rfl (.cons rfl .nil))))))))) (.cons rfl (.cons rfl (.cons rfl (.cons rfl (.cons rfl .nil))))) (fun _ _ h => noSome (h)) ?_
          intro w leF_etchhouseref9_Added_L13 mF_etchhouseref9_Added_L13 s hs
          obtain ⟨x658, x659, x660, x661, x662, x663⟩ := s
          have H := hs
          replace H : F_etchhouseref9_Added_L13 N p0 p1 l131 l132 x537 (F_etchhouseref9_Added_L10 N p0 p1 l131 l132 mF_etchhouseref9_Added_L10) (mF_etchhouseref9_Added_L13 + 1) x658 x659 x660 x661 x662 x663 = some r := H
          replace hp0_0 := hp0_0.le leF_etchhouseref9_Added_L13
          replace hp0_1 := hp0_1.le leF_etchhouseref9_Added_L13
          replace hp0_2 := hp0_2.le leF_etchhouseref9_Added_L13
          replace leB := leB.trans leF_etchhouseref9_Added_L13
          replace leF_etchhouseref9_Added_L1 := leF_etchhouseref9_Added_L1.trans leF_etchhouseref9_Added_L13
          replace leF_etchhouseref9_Added_L10 := leF_etchhouseref9_Added_L10.trans leF_etchhouseref9_Added_L13
          rw [F_etchhouseref9_Added_L13.eq_2] at H
          show Tr _ _ (LF [(1, (.string p1)), (2, (.pointer (some ⟨b100, 0, none⟩))), (4, (.pointer (some ⟨b101, 0, none⟩))), (8, (.slice Al131 (l131).length cl131)), (9, (.slice Al132 (l132).length cl132)), (12, (.pointer (some ⟨b140, 0, none⟩))), (13, (.bool x662)), (14, (.int .i64 x537)), (15, (.int .i64 x663))]) (LE [(1, bx b100 #[(.int .i64 p0.W), (.int .i64 p0.H), (.int .i64 p0.Rail), (.int .i64 p0.Gap), (.slice Ap0_0 (p0.Kinds).length cp0_0), (.slice Ap0_1 (p0.Slots).length cp0_1), (.slice Ap0_2 (p0.Marks).length cp0_2)] 26), (2, bx b101 #[(.int .i64 0), (.int .i64 0), (.int .i64 0), (.int .i64 0), (.slice none 0 0), (.slice none 0 0), (.slice none 0 0)] 26), (4, ow Al132 cl132 3 fl_i64 l132), (14, ow Al131 cl131 3 fl_i64 l131), (17, bx b140 #[(.string x658), (.int .i64 x659), (.int .i64 x660), (.int .i64 x661)] 34)]) _
          refine Tr.seq ?_
          refine Tr.seq ?_
          refine Tr.region ?_
          refine Tr.val (wn rfl) rfl (fun _ _ h1 h2 => run_move (h1.ev rfl)) ?_
          refine Tr.val (wn rfl) rfl (fun _ _ h1 h2 => run_move (h1.ev rfl)) ?_
          refine Tr.val (wn rfl) rfl (fun _ _ h1 h2 => run_len un_63 (h1.ev rfl)) ?_
          refine Tr.val (wn rfl) rfl (fun _ _ h1 h2 => run_lss (h1.ev rfl) (h1.ev rfl)) ?_
          refine Tr.nil (Tr.normThen ?_)
          refine Tr.cond rfl H (fun H => ?_) (fun H => ?_)
          · refine Tr.skip (Tr.normThen ?_)
            refine Tr.seq ?_
            refine Tr.block ?_
            refine Tr.seq ?_
            refine Tr.region ?_
            refine Tr.val (wn rfl) rfl (fun _ _ h1 h2 => run_assign (h1.ev rfl)) ?_
            refine Tr.nil (Tr.normThen ?_)
            refine Tr.block ?_
            refine Tr.loop (σ := ByteArray × Int × Int × Int × Bool × Int) (fun m w s => F_etchhouseref9_Added_L14 N p0 p1 l131 l132 x537 x663 (F_etchhouseref9_Added_L13 N p0 p1 l131 l132 x537 (F_etchhouseref9_Added_L10 N p0 p1 l131 l132 mF_etchhouseref9_Added_L10) mF_etchhouseref9_Added_L13) m s.1 s.2.1 s.2.2.1 s.2.2.2.1 s.2.2.2.2.1 s.2.2.2.2.2 = some r) (fun s => [(1, (.string p1)), (2, (.pointer (some ⟨b100, 0, none⟩))), (4, (.pointer (some ⟨b101, 0, none⟩))), (8, (.slice Al131 (l131).length cl131)), (9, (.slice Al132 (l132).length cl132)), (12, (.pointer (some ⟨b140, 0, none⟩))), (13, (.bool s.2.2.2.2.1)), (14, (.int .i64 x537)), (15, (.int .i64 x663)), (16, (.int .i64 s.2.2.2.2.2))]) (fun s => [(1, bx b100 #[(.int .i64 p0.W), (.int .i64 p0.H), (.int .i64 p0.Rail), (.int .i64 p0.Gap), (.slice Ap0_0 (p0.Kinds).length cp0_0), (.slice Ap0_1 (p0.Slots).length cp0_1), (.slice Ap0_2 (p0.Marks).length cp0_2)] 26), (2, bx b101 #[(.int .i64 0), (.int .i64 0), (.int .i64 0), (.int .i64 0), (.slice none 0 0), (.slice none 0 0), (.slice none 0 0)] 26), (4, ow Al132 cl132 3 fl_i64 l132), (14, ow Al131 cl131 3 fl_i64 l131), (17, bx b140 #[(.string s.1), (.int .i64 s.2.1), (.int .i64 s.2.2.1), (.int .i64 s.2.2.2.1)] 34)]) N (x658, x659, x660, x661, x662, 0) H (.cons rfl (.cons rfl (.cons rfl (.cons rfl (.cons rfl (.cons rfl (.cons rfl (.cons rfl (.cons rfl (.cons rfl .nil)))))))))) (.cons rfl (.cons rfl (.cons rfl (.cons rfl (.cons rfl .nil))))) (fun _ _ h => noSome (h)) ?_
            intro w leF_etchhouseref9_Added_L14 mF_etchhouseref9_Added_L14 s hs
            obtain ⟨x700, x701, x702, x703, x704, x705⟩ := s
            have H := hs
            replace H : F_etchhouseref9_Added_L14 N p0 p1 l131 l132 x537 x663 (F_etchhouseref9_Added_L13 N p0 p1 l131 l132 x537 (F_etchhouseref9_Added_L10 N p0 p1 l131 l132 mF_etchhouseref9_Added_L10) mF_etchhouseref9_Added_L13) (mF_etchhouseref9_Added_L14 + 1) x700 x701 x702 x703 x704 x705 = some r := H
            replace hp0_0 := hp0_0.le leF_etchhouseref9_Added_L14
            replace hp0_1 := hp0_1.le leF_etchhouseref9_Added_L14
            replace hp0_2 := hp0_2.le leF_etchhouseref9_Added_L14
            replace leB := leB.trans leF_etchhouseref9_Added_L14
            replace leF_etchhouseref9_Added_L1 := leF_etchhouseref9_Added_L1.trans leF_etchhouseref9_Added_L14
            replace leF_etchhouseref9_Added_L10 := leF_etchhouseref9_Added_L10.trans leF_etchhouseref9_Added_L14
            replace leF_etchhouseref9_Added_L13 := leF_etchhouseref9_Added_L13.trans leF_etchhouseref9_Added_L14
            rw [F_etchhouseref9_Added_L14.eq_2] at H
            show Tr _ _ (LF [(1, (.string p1)), (2, (.pointer (some ⟨b100, 0, none⟩))), (4, (.pointer (some ⟨b101, 0, none⟩))), (8, (.slice Al131 (l131).length cl131)), (9, (.slice Al132 (l132).length cl132)), (12, (.pointer (some ⟨b140, 0, none⟩))), (13, (.bool x704)), (14, (.int .i64 x537)), (15, (.int .i64 x663)), (16, (.int .i64 x705))]) (LE [(1, bx b100 #[(.int .i64 p0.W), (.int .i64 p0.H), (.int .i64 p0.Rail), (.int .i64 p0.Gap), (.slice Ap0_0 (p0.Kinds).length cp0_0), (.slice Ap0_1 (p0.Slots).length cp0_1), (.slice Ap0_2 (p0.Marks).length cp0_2)] 26), (2, bx b101 #[(.int .i64 0), (.int .i64 0), (.int .i64 0), (.int .i64 0), (.slice none 0 0), (.slice none 0 0), (.slice none 0 0)] 26), (4, ow Al132 cl132 3 fl_i64 l132), (14, ow Al131 cl131 3 fl_i64 l131), (17, bx b140 #[(.string x700), (.int .i64 x701), (.int .i64 x702), (.int .i64 x703)] 34)]) _
            refine Tr.seq ?_
            refine Tr.seq ?_
            refine Tr.region ?_
            refine Tr.val (wn rfl) rfl (fun _ _ h1 h2 => run_move (h1.ev rfl)) ?_
            refine Tr.val (wn rfl) rfl (fun _ _ h1 h2 => run_lss (h1.ev rfl) (h1.ev rfl)) ?_
            refine Tr.nil (Tr.normThen ?_)
            refine Tr.cond rfl H (fun H => ?_) (fun H => ?_)
            · refine Tr.skip (Tr.normThen ?_)
              refine Tr.seq ?_
              refine Tr.block ?_
              refine Tr.seq ?_
              obtain ⟨x707, hx707, H⟩ := bnd H
              obtain ⟨hx7070, hx7071, hx7072⟩ := idx_some hx707
              obtain ⟨x708, hx708, H⟩ := bnd H
              obtain ⟨hx7080, hx7081, hx7082⟩ := idx_some hx708
              refine Tr.drawF 13 [(12, .makeFunc (.func 0) #[] #[])] [(12, ⟨17, 45, (.func (.func 0) #[] #[]), fun b => .pointer (some ⟨b, 0, none⟩), fun b => bx b #[(.string ⟨#[]⟩), (.int .i64 0), (.int .i64 0), (.int .i64 0)] 34⟩)] [(1, (.string p1)), (2, (.pointer (some ⟨b100, 0, none⟩))), (4, (.pointer (some ⟨b101, 0, none⟩))), (8, (.slice Al131 (l131).length cl131)), (9, (.slice Al132 (l132).length cl132)), (12, (.pointer (some ⟨b140, 0, none⟩))), (13, (.bool x704)), (14, (.int .i64 x537)), (15, (.int .i64 x663)), (16, (.int .i64 x705)), (17, (.func (.func 0) #[] #[])), (81, (.int .i64 x705)), (82, (.bool (decide (x705 < 2)))), (85, (.string p1)), (86, (.int .i64 x705)), (87, (.slice Al131 (l131).length cl131)), (88, (.int .i64 x537)), (89, (.pointer (some ⟨adB Al131, adO Al131 + (x537).toNat * 1, none⟩))), (90, (.int .i64 x707)), (91, (.slice Al132 (l132).length cl132)), (92, (.int .i64 x663)), (93, (.pointer (some ⟨adB Al132, adO Al132 + (x663).toNat * 1, none⟩))), (94, (.int .i64 x708)), (95, (.agg #[(.int .i64 x707), (.int .i64 x708)])), (96, (.agg #[(.string p1), (.int .i64 x705), (.int .i64 x707), (.int .i64 x708)]))] (by kernel_rfl) (by kernel_rfl) (by kernel_rfl) (by kernel_rfl) (by kernel_rfl) (by kernel_rfl) (by kernel_rfl) (fall_cons (fr_alloc rfl rfl ze_34) fall_nil) (fall_cons rfl fall_nil) (fall_cons rfl fall_nil) ?_ ?_
              · refine Tq.val (wn rfl) rfl (fun _ _ h1 h2 => run_move (h1.ev rfl)) ?_
                refine Tq.val (wn rfl) rfl (fun _ _ h1 h2 => run_move (h1.ev rfl)) ?_
                refine Tq.val (wn rfl) rfl (fun _ _ h1 h2 => run_move (h1.ev rfl)) ?_
                refine Tq.val (wn rfl) rfl (fun _ _ h1 h2 => run_move (h1.ev rfl)) ?_
                refine Tq.val (wn rfl) rfl (fun _ _ h1 h2 => run_indexAddr el_63 (h1.ev rfl) hl131 (h1.ev rfl) hx7070 hx7071) ?_
                refine Tq.val (wn rfl) rfl (fun _ _ h1 h2 => run_load1 ag_3 (h1.ev rfl) (rdo ef_i64 (k := 14) h2 rfl hx7072) rfl) ?_
                refine Tq.val (wn rfl) rfl (fun _ _ h1 h2 => run_move (h1.ev rfl)) ?_
                refine Tq.val (wn rfl) rfl (fun _ _ h1 h2 => run_move (h1.ev rfl)) ?_
                refine Tq.val (wn rfl) rfl (fun _ _ h1 h2 => run_indexAddr el_63 (h1.ev rfl) hl132 (h1.ev rfl) hx7080 hx7081) ?_
                refine Tq.val (wn rfl) rfl (fun _ _ h1 h2 => run_load1 ag_3 (h1.ev rfl) (rdo ef_i64 (k := 4) h2 rfl hx7082) rfl) ?_
                refine Tq.build (vs := [(0, (.int .i64 x707)), (1, (.int .i64 x708))]) (cs := [(.int .i64 x707), (.int .i64 x708)]) (wn rfl) rfl (evs_cons rfl (evs_cons rfl evs_nil)) (by kernel_rfl) ?_
                refine Tq.build (vs := [(0, (.string p1)), (1, (.int .i64 x705)), (2, (.agg #[(.int .i64 x707), (.int .i64 x708)]))]) (cs := [(.string p1), (.int .i64 x705), (.int .i64 x707), (.int .i64 x708)]) (wn rfl) rfl (evs_cons rfl (evs_cons rfl (evs_cons rfl evs_nil))) (by kernel_rfl) ?_
                refine Tq.mkFunc (vs := []) (wn rfl) rfl evl_nil ?_
                exact Tq.fin (.cons rfl (.cons rfl (.cons rfl (.cons rfl (.cons rfl (.cons rfl (.cons rfl (.cons rfl (.cons rfl (.cons rfl (.cons rfl (.cons rfl (.cons rfl (.cons rfl (.cons rfl (.cons rfl (.cons rfl (.cons rfl (.cons rfl (.cons rfl (.cons rfl (.cons rfl (.cons rfl (.cons rfl (.cons rfl .nil)))))))))))))))))))))))))
              · intro bs706
                refine Tr.sel (lf := [(1, (.string p1)), (2, (.pointer (some ⟨b100, 0, none⟩))), (4, (.pointer (some ⟨b101, 0, none⟩))), (8, (.slice Al131 (l131).length cl131)), (9, (.slice Al132 (l132).length cl132)), (12, (.pointer (some ⟨b140, 0, none⟩))), (13, (.bool x704)), (14, (.int .i64 x537)), (15, (.int .i64 x663)), (16, (.int .i64 x705)), (17, (.pointer (some ⟨(bs706 12), 0, none⟩))), (96, (.agg #[(.string p1), (.int .i64 x705), (.int .i64 x707), (.int .i64 x708)]))]) (le := [(1, bx b100 #[(.int .i64 p0.W), (.int .i64 p0.H), (.int .i64 p0.Rail), (.int .i64 p0.Gap), (.slice Ap0_0 (p0.Kinds).length cp0_0), (.slice Ap0_1 (p0.Slots).length cp0_1), (.slice Ap0_2 (p0.Marks).length cp0_2)] 26), (2, bx b101 #[(.int .i64 0), (.int .i64 0), (.int .i64 0), (.int .i64 0), (.slice none 0 0), (.slice none 0 0), (.slice none 0 0)] 26), (4, ow Al132 cl132 3 fl_i64 l132), (14, ow Al131 cl131 3 fl_i64 l131), (17, bx b140 #[(.string x700), (.int .i64 x701), (.int .i64 x702), (.int .i64 x703)] 34), (45, bx (bs706 12) #[(.string ⟨#[]⟩), (.int .i64 0), (.int .i64 0), (.int .i64 0)] 34)]) (.cons rfl (.cons rfl (.cons rfl (.cons rfl (.cons rfl (.cons rfl (.cons rfl (.cons rfl (.cons rfl (.cons rfl (.cons rfl (.cons rfl .nil)))))))))))) (.cons rfl (.cons rfl (.cons rfl (.cons rfl (.cons rfl (.cons rfl .nil)))))) ?_
                refine Tr.store 45 (cs := [(.string p1), (.int .i64 x705), (.int .i64 x707), (.int .i64 x708)]) [(.string p1), (.int .i64 x705), (.int .i64 x707), (.int .i64 x708)] (wn rfl) rfl rfl rfl rfl sz_34 rfl rfl rfl ?_
                refine Tr.nil (Tr.normThen ?_)
                refine Tr.seq ?_
                refine Tr.region ?_
                refine Tr.val (wn rfl) rfl (fun _ _ h1 h2 => run_move (h1.ev rfl)) ?_
                refine Tr.val (wn rfl) rfl (fun _ _ h1 h2 => run_not (h1.ev rfl)) ?_
                refine Tr.val (wn rfl) rfl (fun _ _ h1 h2 => run_move (h1.ev rfl)) ?_
                obtain ⟨g710, hg710, H⟩ := bnd H
                refine Tr.mid0 4 [(1, (.string p1)), (2, (.pointer (some ⟨b100, 0, none⟩))), (4, (.pointer (some ⟨b101, 0, none⟩))), (8, (.slice Al131 (l131).length cl131)), (9, (.slice Al132 (l132).length cl132)), (12, (.pointer (some ⟨b140, 0, none⟩))), (13, (.bool x704)), (14, (.int .i64 x537)), (15, (.int .i64 x663)), (16, (.int .i64 x705)), (17, (.pointer (some ⟨(bs706 12), 0, none⟩))), (103, (.bool g710))] [(1, bx b100 #[(.int .i64 p0.W), (.int .i64 p0.H), (.int .i64 p0.Rail), (.int .i64 p0.Gap), (.slice Ap0_0 (p0.Kinds).length cp0_0), (.slice Ap0_1 (p0.Slots).length cp0_1), (.slice Ap0_2 (p0.Marks).length cp0_2)] 26), (2, bx b101 #[(.int .i64 0), (.int .i64 0), (.int .i64 0), (.int .i64 0), (.slice none 0 0), (.slice none 0 0), (.slice none 0 0)] 26), (4, ow Al132 cl132 3 fl_i64 l132), (14, ow Al131 cl131 3 fl_i64 l131), (17, bx b140 #[(.string x700), (.int .i64 x701), (.int .i64 x702), (.int .i64 x703)] 34), (45, bx (bs706 12) #[(.string p1), (.int .i64 x705), (.int .i64 x707), (.int .i64 x708)] 34)] ?_ ?_
                · cases hg714 : (!x704)
                  · rw [hg714] at hg710
                    rw [if_neg (by decide)] at hg710
                    have H := hg710
                    refine Tr.val (wg rfl rfl rfl) rfl (fun _ _ h1 h2 => run_loadN (cs := [(.string p1), (.int .i64 x705), (.int .i64 x707), (.int .i64 x708)]) ag_34 sz_34 (h1.ev rfl) (CellsAt.take (rdb h2 (vs := [(.string p1), (.int .i64 x705), (.int .i64 x707), (.int .i64 x708)]) (k := 45) rfl 0) 4) rfl) ?_
                    refine Tr.val (wg rfl rfl rfl) rfl (fun _ _ h1 h2 => run_loadN (cs := [(.string x700), (.int .i64 x701), (.int .i64 x702), (.int .i64 x703)]) ag_34 sz_34 (h1.ev rfl) (CellsAt.take (rdb h2 (vs := [(.string x700), (.int .i64 x701), (.int .i64 x702), (.int .i64 x703)]) (k := 17) rfl 0) 4) rfl) ?_
                    obtain ⟨y711, hy711, H⟩ := bnd H
                    refine Tr.call0 (r := (.bool y711)) (wg rfl rfl rfl) rfl Try.call78 (evl_cons rfl (evl_cons rfl evl_nil)) (fun W hW => F_etchhouseref9_least_ok (TSlot.mk p1 x705 (TPoint.mk x707 x708)) (TSlot.mk x700 x701 (TPoint.mk x702 x703)) y711 hy711 (HF.start _)) ?_
                    refine Tr.val (wn rfl) rfl (fun _ _ h1 h2 => run_pickF (h1.ev rfl) (h1.ev rfl)) ?_
                    obtain rfl := Option.some.inj H
                    exact Tr.nil (Tr.fin0 (.cons rfl (.cons rfl (.cons rfl (.cons rfl (.cons rfl (.cons rfl (.cons rfl (.cons rfl (.cons rfl (.cons rfl (.cons rfl (.cons rfl .nil)))))))))))) (.cons rfl (.cons rfl (.cons rfl (.cons rfl (.cons rfl (.cons rfl .nil)))))))
                  · rw [hg714] at hg710
                    rw [if_pos rfl] at hg710
                    have H := hg710
                    obtain rfl := Option.some.inj H
                    refine Tr.pass rfl rfl rfl rfl rfl (by decide) ?_
                    refine Tr.pass rfl rfl rfl rfl rfl (by decide) ?_
                    refine Tr.pass rfl rfl rfl rfl rfl (by decide) ?_
                    refine Tr.val (wn rfl) rfl (fun _ _ h1 h2 => run_pickT (h1.ev rfl) (h1.ev rfl)) ?_
                    exact Tr.nil (Tr.fin0 (.cons rfl (.cons rfl (.cons rfl (.cons rfl (.cons rfl (.cons rfl (.cons rfl (.cons rfl (.cons rfl (.cons rfl (.cons rfl (.cons rfl .nil)))))))))))) (.cons rfl (.cons rfl (.cons rfl (.cons rfl (.cons rfl (.cons rfl .nil)))))))
                · show Tr _ _ (LF [(1, (.string p1)), (2, (.pointer (some ⟨b100, 0, none⟩))), (4, (.pointer (some ⟨b101, 0, none⟩))), (8, (.slice Al131 (l131).length cl131)), (9, (.slice Al132 (l132).length cl132)), (12, (.pointer (some ⟨b140, 0, none⟩))), (13, (.bool x704)), (14, (.int .i64 x537)), (15, (.int .i64 x663)), (16, (.int .i64 x705)), (17, (.pointer (some ⟨(bs706 12), 0, none⟩))), (103, (.bool g710))]) (LE [(1, bx b100 #[(.int .i64 p0.W), (.int .i64 p0.H), (.int .i64 p0.Rail), (.int .i64 p0.Gap), (.slice Ap0_0 (p0.Kinds).length cp0_0), (.slice Ap0_1 (p0.Slots).length cp0_1), (.slice Ap0_2 (p0.Marks).length cp0_2)] 26), (2, bx b101 #[(.int .i64 0), (.int .i64 0), (.int .i64 0), (.int .i64 0), (.slice none 0 0), (.slice none 0 0), (.slice none 0 0)] 26), (4, ow Al132 cl132 3 fl_i64 l132), (14, ow Al131 cl131 3 fl_i64 l131), (17, bx b140 #[(.string x700), (.int .i64 x701), (.int .i64 x702), (.int .i64 x703)] 34), (45, bx (bs706 12) #[(.string p1), (.int .i64 x705), (.int .i64 x707), (.int .i64 x708)] 34)]) _
                  refine Tr.val (wn rfl) rfl (fun _ _ h1 h2 => run_move (h1.ev rfl)) ?_
                  obtain ⟨g713, hg713, H⟩ := bnd H
                  refine Tr.mid0 4 [(1, (.string p1)), (2, (.pointer (some ⟨b100, 0, none⟩))), (4, (.pointer (some ⟨b101, 0, none⟩))), (8, (.slice Al131 (l131).length cl131)), (9, (.slice Al132 (l132).length cl132)), (12, (.pointer (some ⟨b140, 0, none⟩))), (13, (.bool x704)), (14, (.int .i64 x537)), (15, (.int .i64 x663)), (16, (.int .i64 x705)), (17, (.pointer (some ⟨(bs706 12), 0, none⟩))), (108, (.bool g713))] [(1, bx b100 #[(.int .i64 p0.W), (.int .i64 p0.H), (.int .i64 p0.Rail), (.int .i64 p0.Gap), (.slice Ap0_0 (p0.Kinds).length cp0_0), (.slice Ap0_1 (p0.Slots).length cp0_1), (.slice Ap0_2 (p0.Marks).length cp0_2)] 26), (2, bx b101 #[(.int .i64 0), (.int .i64 0), (.int .i64 0), (.int .i64 0), (.slice none 0 0), (.slice none 0 0), (.slice none 0 0)] 26), (4, ow Al132 cl132 3 fl_i64 l132), (14, ow Al131 cl131 3 fl_i64 l131), (17, bx b140 #[(.string x700), (.int .i64 x701), (.int .i64 x702), (.int .i64 x703)] 34), (45, bx (bs706 12) #[(.string p1), (.int .i64 x705), (.int .i64 x707), (.int .i64 x708)] 34)] ?_ ?_
                  · cases hg714 : g710
                    · rw [hg714] at hg713
                      rw [if_neg (by decide)] at hg713
                      have H := hg713
                      obtain rfl := Option.some.inj H
                      refine Tr.pass rfl rfl rfl rfl rfl (by decide) ?_
                      refine Tr.pass rfl rfl rfl rfl rfl (by decide) ?_
                      refine Tr.pass rfl rfl rfl rfl rfl (by decide) ?_
                      refine Tr.val (wn rfl) rfl (fun _ _ h1 h2 => run_pickF (h1.ev rfl) (h1.ev rfl)) ?_
                      exact Tr.nil (Tr.fin0 (.cons rfl (.cons rfl (.cons rfl (.cons rfl (.cons rfl (.cons rfl (.cons rfl (.cons rfl (.cons rfl (.cons rfl (.cons rfl (.cons rfl .nil)))))))))))) (.cons rfl (.cons rfl (.cons rfl (.cons rfl (.cons rfl (.cons rfl .nil)))))))
                    · rw [hg714] at hg713
                      rw [if_pos rfl] at hg713
                      have H := hg713
                      refine Tr.val (wg rfl rfl rfl) rfl (fun _ _ h1 h2 => run_loadN (cs := [(.int .i64 p0.W), (.int .i64 p0.H), (.int .i64 p0.Rail), (.int .i64 p0.Gap), (.slice Ap0_0 (p0.Kinds).length cp0_0), (.slice Ap0_1 (p0.Slots).length cp0_1), (.slice Ap0_2 (p0.Marks).length cp0_2)]) ag_26 sz_26 (h1.ev rfl) (CellsAt.take (rdb h2 (vs := [(.int .i64 p0.W), (.int .i64 p0.H), (.int .i64 p0.Rail), (.int .i64 p0.Gap), (.slice Ap0_0 (p0.Kinds).length cp0_0), (.slice Ap0_1 (p0.Slots).length cp0_1), (.slice Ap0_2 (p0.Marks).length cp0_2)]) (k := 1) rfl 0) 7) rfl) ?_
                      refine Tr.val (wg rfl rfl rfl) rfl (fun _ _ h1 h2 => run_loadN (cs := [(.string p1), (.int .i64 x705), (.int .i64 x707), (.int .i64 x708)]) ag_34 sz_34 (h1.ev rfl) (CellsAt.take (rdb h2 (vs := [(.string p1), (.int .i64 x705), (.int .i64 x707), (.int .i64 x708)]) (k := 45) rfl 0) 4) rfl) ?_
                      obtain ⟨y714, hy714, H⟩ := bnd H
                      refine Tr.call0 (r := (.bool y714)) (wg rfl rfl rfl) rfl Try.call79 (evl_cons rfl (evl_cons rfl evl_nil)) (fun W hW => F_etchhouseref9_fits_ok N p0 Ap0_0 cp0_0 (hp0_0.rl.ext hW.extAll) Ap0_1 cp0_1 (hp0_1.rl.ext hW.extAll) Ap0_2 cp0_2 (hp0_2.rl.ext hW.extAll) (TSlot.mk p1 x705 (TPoint.mk x707 x708)) y714 hy714 (HF.start _)) ?_
                      refine Tr.val (wn rfl) rfl (fun _ _ h1 h2 => run_pickT (h1.ev rfl) (h1.ev rfl)) ?_
                      obtain rfl := Option.some.inj H
                      exact Tr.nil (Tr.fin0 (.cons rfl (.cons rfl (.cons rfl (.cons rfl (.cons rfl (.cons rfl (.cons rfl (.cons rfl (.cons rfl (.cons rfl (.cons rfl (.cons rfl .nil)))))))))))) (.cons rfl (.cons rfl (.cons rfl (.cons rfl (.cons rfl (.cons rfl .nil)))))))
                  · show Tr _ _ (LF [(1, (.string p1)), (2, (.pointer (some ⟨b100, 0, none⟩))), (4, (.pointer (some ⟨b101, 0, none⟩))), (8, (.slice Al131 (l131).length cl131)), (9, (.slice Al132 (l132).length cl132)), (12, (.pointer (some ⟨b140, 0, none⟩))), (13, (.bool x704)), (14, (.int .i64 x537)), (15, (.int .i64 x663)), (16, (.int .i64 x705)), (17, (.pointer (some ⟨(bs706 12), 0, none⟩))), (108, (.bool g713))]) (LE [(1, bx b100 #[(.int .i64 p0.W), (.int .i64 p0.H), (.int .i64 p0.Rail), (.int .i64 p0.Gap), (.slice Ap0_0 (p0.Kinds).length cp0_0), (.slice Ap0_1 (p0.Slots).length cp0_1), (.slice Ap0_2 (p0.Marks).length cp0_2)] 26), (2, bx b101 #[(.int .i64 0), (.int .i64 0), (.int .i64 0), (.int .i64 0), (.slice none 0 0), (.slice none 0 0), (.slice none 0 0)] 26), (4, ow Al132 cl132 3 fl_i64 l132), (14, ow Al131 cl131 3 fl_i64 l131), (17, bx b140 #[(.string x700), (.int .i64 x701), (.int .i64 x702), (.int .i64 x703)] 34), (45, bx (bs706 12) #[(.string p1), (.int .i64 x705), (.int .i64 x707), (.int .i64 x708)] 34)]) _
                    refine Tr.nil (Tr.normThen ?_)
                    refine Tr.cond rfl H (fun H => ?_) (fun H => ?_)
                    · refine Tr.region ?_
                      refine Tr.val (wn rfl) rfl (fun _ _ h1 h2 => run_loadN (cs := [(.string p1), (.int .i64 x705), (.int .i64 x707), (.int .i64 x708)]) ag_34 sz_34 (h1.ev rfl) (CellsAt.take (rdb h2 (vs := [(.string p1), (.int .i64 x705), (.int .i64 x707), (.int .i64 x708)]) (k := 45) rfl 0) 4) rfl) ?_
                      refine Tr.store 17 (cs := [(.string p1), (.int .i64 x705), (.int .i64 x707), (.int .i64 x708)]) [(.string p1), (.int .i64 x705), (.int .i64 x707), (.int .i64 x708)] (wn rfl) rfl rfl rfl rfl sz_34 rfl rfl rfl ?_
                      refine Tr.val (wn rfl) rfl (fun _ _ h1 h2 => run_assign (h1.ev rfl)) ?_
                      refine Tr.nil (Tr.normBlock (Tr.normThen ?_))
                      refine Tr.region ?_
                      refine Tr.val (wn rfl) rfl (fun _ _ h1 h2 => run_move (h1.ev rfl)) ?_
                      refine Tr.val (wn rfl) rfl (fun _ _ h1 h2 => run_add (h1.ev rfl) (h1.ev rfl)) ?_
                      refine Tr.val (wn rfl) rfl (fun _ _ h1 h2 => run_assign (h1.ev rfl)) ?_
                      refine Tr.nil ?_
                      exact Tr.backThen leF_etchhouseref9_Added_L14 (p1, x705, x707, x708, true, (w64 (x705 + 1))) H (.cons rfl (.cons rfl (.cons rfl (.cons rfl (.cons rfl (.cons rfl (.cons rfl (.cons rfl (.cons rfl (.cons rfl .nil)))))))))) (.cons rfl (.cons rfl (.cons rfl (.cons rfl (.cons rfl .nil)))))
                    · refine Tr.skip (Tr.normBlock (Tr.normThen ?_))
                      refine Tr.region ?_
                      refine Tr.val (wn rfl) rfl (fun _ _ h1 h2 => run_move (h1.ev rfl)) ?_
                      refine Tr.val (wn rfl) rfl (fun _ _ h1 h2 => run_add (h1.ev rfl) (h1.ev rfl)) ?_
                      refine Tr.val (wn rfl) rfl (fun _ _ h1 h2 => run_assign (h1.ev rfl)) ?_
                      refine Tr.nil ?_
                      exact Tr.backThen leF_etchhouseref9_Added_L14 (x700, x701, x702, x703, x704, (w64 (x705 + 1))) H (.cons rfl (.cons rfl (.cons rfl (.cons rfl (.cons rfl (.cons rfl (.cons rfl (.cons rfl (.cons rfl (.cons rfl .nil)))))))))) (.cons rfl (.cons rfl (.cons rfl (.cons rfl (.cons rfl .nil)))))
            · refine Tr.exit (Tr.exitThen (Tr.exitThen (Tr.exitBlock (Tr.normBlock (Tr.normThen ?_)))))
              refine Tr.region ?_
              refine Tr.val (wn rfl) rfl (fun _ _ h1 h2 => run_move (h1.ev rfl)) ?_
              refine Tr.val (wn rfl) rfl (fun _ _ h1 h2 => run_add (h1.ev rfl) (h1.ev rfl)) ?_
              refine Tr.val (wn rfl) rfl (fun _ _ h1 h2 => run_assign (h1.ev rfl)) ?_
              refine Tr.nil ?_
              exact Tr.backThen leF_etchhouseref9_Added_L13 (x700, x701, x702, x703, x704, (w64 (x663 + 1))) H (.cons rfl (.cons rfl (.cons rfl (.cons rfl (.cons rfl (.cons rfl (.cons rfl (.cons rfl (.cons rfl .nil))))))))) (.cons rfl (.cons rfl (.cons rfl (.cons rfl (.cons rfl .nil)))))
          · refine Tr.exit (Tr.exitThen (Tr.exitThen (Tr.exitBlock (Tr.normBlock (Tr.normThen ?_)))))
            refine Tr.region ?_
            refine Tr.val (wn rfl) rfl (fun _ _ h1 h2 => run_move (h1.ev rfl)) ?_
            refine Tr.val (wn rfl) rfl (fun _ _ h1 h2 => run_add (h1.ev rfl) (h1.ev rfl)) ?_
            refine Tr.val (wn rfl) rfl (fun _ _ h1 h2 => run_assign (h1.ev rfl)) ?_
            refine Tr.nil ?_
            exact Tr.backThen leF_etchhouseref9_Added_L10 (x658, x659, x660, x661, x662, (w64 (x537 + 1))) H (.cons rfl (.cons rfl (.cons rfl (.cons rfl (.cons rfl (.cons rfl (.cons rfl (.cons rfl .nil)))))))) (.cons rfl (.cons rfl (.cons rfl (.cons rfl (.cons rfl .nil)))))
        · refine Tr.exit (Tr.exitThen (Tr.exitThen (Tr.exitBlock (Tr.normThen ?_))))
          refine Tr.seq ?_
          refine Tr.seq ?_
          refine Tr.region ?_
          refine Tr.val (wn rfl) rfl (fun _ _ h1 h2 => run_move (h1.ev rfl)) ?_
          refine Tr.val (wn rfl) rfl (fun _ _ h1 h2 => run_not (h1.ev rfl)) ?_
          refine Tr.nil (Tr.normThen ?_)
          refine Tr.cond rfl H (fun H => ?_) (fun H => ?_)
          · refine Tr.seq ?_
            refine Tr.region ?_
            refine Tr.val (wn rfl) rfl (fun _ _ h1 h2 => run_loadN (cs := [(.int .i64 p0.W), (.int .i64 p0.H), (.int .i64 p0.Rail), (.int .i64 p0.Gap), (.slice Ap0_0 (p0.Kinds).length cp0_0), (.slice Ap0_1 (p0.Slots).length cp0_1), (.slice Ap0_2 (p0.Marks).length cp0_2)]) ag_26 sz_26 (h1.ev rfl) (CellsAt.take (rdb h2 (vs := [(.int .i64 p0.W), (.int .i64 p0.H), (.int .i64 p0.Rail), (.int .i64 p0.Gap), (.slice Ap0_0 (p0.Kinds).length cp0_0), (.slice Ap0_1 (p0.Slots).length cp0_1), (.slice Ap0_2 (p0.Marks).length cp0_2)]) (k := 1) rfl 0) 7) rfl) ?_
            refine Tr.store 2 (cs := [(.int .i64 p0.W), (.int .i64 p0.H), (.int .i64 p0.Rail), (.int .i64 p0.Gap), (.slice Ap0_0 (p0.Kinds).length cp0_0), (.slice Ap0_1 (p0.Slots).length cp0_1), (.slice Ap0_2 (p0.Marks).length cp0_2)]) [(.int .i64 p0.W), (.int .i64 p0.H), (.int .i64 p0.Rail), (.int .i64 p0.Gap), (.slice Ap0_0 (p0.Kinds).length cp0_0), (.slice Ap0_1 (p0.Slots).length cp0_1), (.slice Ap0_2 (p0.Marks).length cp0_2)] (wn rfl) rfl rfl rfl rfl sz_26 rfl rfl rfl ?_
            refine Tr.val (wn rfl) rfl (fun _ _ h1 h2 => run_assign (h1.ev rfl)) ?_
            refine Tr.val (wn rfl) rfl (fun _ _ h1 h2 => run_assign (h1.ev rfl)) ?_
            refine Tr.nil (Tr.normThen ?_)
            refine Tr.ret (Tr.retThen ?_)
            obtain rfl := Option.some.inj H
            exact Tr.out (m := [(.agg #[(.int .i64 p0.W), (.int .i64 p0.H), (.int .i64 p0.Rail), (.int .i64 p0.Gap), (.slice Ap0_0 (p0.Kinds).length cp0_0), (.slice Ap0_1 (p0.Slots).length cp0_1), (.slice Ap0_2 (p0.Marks).length cp0_2)]), (.bool false), (.int .i64 0)]) [2] (res_cell rfl rfl ag_26 sz_26 (res_tmp rfl (res_tmp rfl res_nil))) (fun W hW => ⟨w, ((Ap0_0, cp0_0), (Ap0_1, cp0_1), (Ap0_2, cp0_2)), leB, rfl, ⟨hp0_0, hp0_1, hp0_2⟩, hW.pick (ks := []) (by decide) pk_nil⟩)
          · refine Tr.skip (Tr.normThen ?_)
            refine Tr.seq ?_
            refine Tr.seq ?_
            refine Tr.region ?_
            refine Tr.val (wn rfl) rfl (fun _ _ h1 h2 => run_fieldAddr fo_26_5 (h1.ev rfl)) ?_
            refine Tr.val (wn rfl) rfl (fun _ _ h1 h2 => run_load1 ag_23 (h1.ev rfl) (rdb h2 (vs := [(.int .i64 p0.W), (.int .i64 p0.H), (.int .i64 p0.Rail), (.int .i64 p0.Gap), (.slice Ap0_0 (p0.Kinds).length cp0_0), (.slice Ap0_1 (p0.Slots).length cp0_1), (.slice Ap0_2 (p0.Marks).length cp0_2)]) (k := 1) rfl 5) rfl) ?_
            refine Tr.val (wn rfl) rfl (fun _ _ h1 h2 => run_len un_23 (h1.ev rfl)) ?_
            refine Tr.val (wn rfl) rfl (fun _ _ h1 h2 => run_eql (h1.ev rfl) (h1.ev rfl)) ?_
            refine Tr.nil (Tr.normThen ?_)
            refine Tr.cond rfl H (fun H => ?_) (fun H => ?_)
            · refine Tr.seq ?_
              refine Tr.region ?_
              refine Tr.build (vs := []) (cs := [(.int .i64 0), (.int .i64 0), (.int .i64 0), (.int .i64 0), (.slice none 0 0), (.slice none 0 0), (.slice none 0 0)]) (wn rfl) rfl evs_nil (by kernel_rfl) ?_
              refine Tr.store 2 (cs := [(.int .i64 0), (.int .i64 0), (.int .i64 0), (.int .i64 0), (.slice none 0 0), (.slice none 0 0), (.slice none 0 0)]) [(.int .i64 0), (.int .i64 0), (.int .i64 0), (.int .i64 0), (.slice none 0 0), (.slice none 0 0), (.slice none 0 0)] (wn rfl) rfl rfl rfl rfl sz_26 rfl rfl rfl ?_
              refine Tr.val (wn rfl) rfl (fun _ _ h1 h2 => run_assign (h1.ev rfl)) ?_
              refine Tr.val (wn rfl) rfl (fun _ _ h1 h2 => run_assign (h1.ev rfl)) ?_
              refine Tr.nil (Tr.normThen ?_)
              refine Tr.ret (Tr.retThen ?_)
              obtain rfl := Option.some.inj H
              exact Tr.out (m := [(.agg #[(.int .i64 0), (.int .i64 0), (.int .i64 0), (.int .i64 0), (.slice none 0 0), (.slice none 0 0), (.slice none 0 0)]), (.bool false), (.int .i64 2)]) [2] (res_cell rfl rfl ag_26 sz_26 (res_tmp rfl (res_tmp rfl res_nil))) (fun W hW => ⟨w, ((none, 0), (none, 0), (none, 0)), leB, rfl, ⟨(Sl.nil _ _ _), (Sl.nil _ _ _), (Sl.nil _ _ _)⟩, hW.pick (ks := []) (by decide) pk_nil⟩)
            · refine Tr.skip (Tr.normThen ?_)
              refine Tr.seq ?_
              refine Tr.region ?_
              refine Tr.val (wn rfl) rfl (fun _ _ h1 h2 => run_assign (h1.ev rfl)) ?_
              refine Tr.nilOwn 46 34 fl_TSlot ?_
              show Tr _ _ (uf _ 18 (.slice none (([] : List TSlot)).length 0)) _ _
              refine Tr.nil (Tr.normThen ?_)
              refine Tr.seq ?_
              refine Tr.region ?_
              refine Tr.val (wn rfl) rfl (fun _ _ h1 h2 => run_move (h1.ev rfl)) ?_
              refine Tr.val (wn rfl) rfl (fun _ _ h1 h2 => run_fieldAddr fo_26_5 (h1.ev rfl)) ?_
              refine Tr.val (wn rfl) rfl (fun _ _ h1 h2 => run_load1 ag_23 (h1.ev rfl) (rdb h2 (vs := [(.int .i64 p0.W), (.int .i64 p0.H), (.int .i64 p0.Rail), (.int .i64 p0.Gap), (.slice Ap0_0 (p0.Kinds).length cp0_0), (.slice Ap0_1 (p0.Slots).length cp0_1), (.slice Ap0_2 (p0.Marks).length cp0_2)]) (k := 1) rfl 5) rfl) ?_
              obtain ⟨l715, hl715, H⟩ := bnd H
              refine Tr.appendS 46 (t := fl_TSlot) (l := ([] : List TSlot)) (l2 := p0.Slots) (wn rfl) rfl rfl rfl rfl (apT tr_TSlot (fun W hW => (Sl.inB (hp0_1.rl) hW))) un_23 sz_34 zl_34 (by decide) by_34 rfl hl715 fun Al715 cl715 hAl715 => ?_
              refine Tr.val (wn rfl) rfl (fun _ _ h1 h2 => run_assign (h1.ev rfl)) ?_
              refine Tr.nil (Tr.normThen ?_)
              refine Tr.seq ?_
              refine Tr.drawC 11 [(4, (ow Al715 cl715 34 fl_TSlot l715).S)] [10] (by kernel_rfl) (by kernel_rfl) fun sz716 hlosz716 hEsz716 => ?_
              refine Dr.quietZ 0 [(123, (.agg #[(.int .i64 p0.W), (.int .i64 p0.H), (.int .i64 p0.Rail), (.int .i64 p0.Gap), (.slice Ap0_0 (p0.Kinds).length cp0_0), (.slice Ap0_1 (p0.Slots).length cp0_1), (.slice Ap0_2 (p0.Marks).length cp0_2)]))] [4] false (by kernel_rfl) rfl rfl (by kernel_rfl) (fun W W' h2 hsW hk => HF.keepZ (le := [(1, bx b100 #[(.int .i64 p0.W), (.int .i64 p0.H), (.int .i64 p0.Rail), (.int .i64 p0.Gap), (.slice Ap0_0 (p0.Kinds).length cp0_0), (.slice Ap0_1 (p0.Slots).length cp0_1), (.slice Ap0_2 (p0.Marks).length cp0_2)] 26)]) (ks := [(46, (ow Al715 cl715 34 fl_TSlot l715).S)]) (s0 := sz716) false h2 hk (fun h => absurd h (by decide)) (.cons rfl .nil) (fun b hb => hb.elim (fun ⟨p, hp, hf, hb⟩ => by simp only [List.mem_cons, List.not_mem_nil, or_false] at hp; rcases hp with rfl; exact .inl ⟨_, List.mem_cons_self, hb⟩) (fun hb => absurd hb.1 (by decide))) (List.forall_mem_cons.2 ⟨fun b hb => hb, (fun _ h => nomatch h)⟩) rfl) ?_ rfl rfl ?_
              · refine Tq.val (wn rfl) rfl (fun _ _ h1 h2 => run_loadN (cs := [(.int .i64 p0.W), (.int .i64 p0.H), (.int .i64 p0.Rail), (.int .i64 p0.Gap), (.slice Ap0_0 (p0.Kinds).length cp0_0), (.slice Ap0_1 (p0.Slots).length cp0_1), (.slice Ap0_2 (p0.Marks).length cp0_2)]) ag_26 sz_26 (h1.ev rfl) (CellsAt.take (rdb h2 (vs := [(.int .i64 p0.W), (.int .i64 p0.H), (.int .i64 p0.Rail), (.int .i64 p0.Gap), (.slice Ap0_0 (p0.Kinds).length cp0_0), (.slice Ap0_1 (p0.Slots).length cp0_1), (.slice Ap0_2 (p0.Marks).length cp0_2)]) (k := 1) rfl 0) 7) rfl) ?_
                exact Tq.fin (.cons rfl .nil)
              refine Dr.quiet 1 [(124, (.slice Al715 (l715).length cl715))] (by kernel_rfl) rfl rfl (by kernel_rfl) ?_ rfl rfl ?_
              · refine Tq.val (wn rfl) rfl (fun _ _ h1 h2 => run_move (h1.ev rfl)) ?_
                exact Tq.fin (.cons rfl .nil)
              refine Dr.quietZ 2 [(125, (.agg #[(.string x532), (.int .i64 x533), (.int .i64 x534), (.int .i64 x535)]))] [4] false (by kernel_rfl) rfl rfl (by kernel_rfl) (fun W W' h2 hsW hk => HF.keepZ (le := [(17, bx b140 #[(.string x532), (.int .i64 x533), (.int .i64 x534), (.int .i64 x535)] 34)]) (ks := [(46, (ow Al715 cl715 34 fl_TSlot l715).S)]) (s0 := sz716) false h2 hk (fun h => absurd h (by decide)) (.cons rfl .nil) (fun b hb => hb.elim (fun ⟨p, hp, hf, hb⟩ => by simp only [List.mem_cons, List.not_mem_nil, or_false] at hp; rcases hp with rfl; exact .inl ⟨_, List.mem_cons_self, hb⟩) (fun hb => absurd hb.1 (by decide))) (List.forall_mem_cons.2 ⟨fun b hb => hb, (fun _ h => nomatch h)⟩) rfl) ?_ rfl rfl ?_
              · refine Tq.val (wn rfl) rfl (fun _ _ h1 h2 => run_loadN (cs := [(.string x532), (.int .i64 x533), (.int .i64 x534), (.int .i64 x535)]) ag_34 sz_34 (h1.ev rfl) (CellsAt.take (rdb h2 (vs := [(.string x532), (.int .i64 x533), (.int .i64 x534), (.int .i64 x535)]) (k := 17) rfl 0) 4) rfl) ?_
                exact Tq.fin (.cons rfl .nil)
              obtain ⟨l718, hl718, H⟩ := bnd H
              obtain ⟨y721, hy721, H⟩ := bnd H
              refine Dr.cutG (U := Nat × Option Addr × Nat × Option Addr × Nat × Option Addr × Nat × Option Addr × Nat × Nat) [3, 4, 5, 6, 7, 8, 9] 1 (fun w u => sz716 ≤ u.1 ∧ SlF u.2.1 l718.length u.2.2.1 ∧ Sl w.O w.W fl_TSlot u.2.1 u.2.2.1 l718 ∧ Sl w.O w.W fl_TBoardKind u.2.2.2.1 u.2.2.2.2.1 y721.1.Kinds ∧ Sl w.O w.W fl_TSlot u.2.2.2.2.2.1 u.2.2.2.2.2.2.1 y721.1.Slots ∧ Sl w.O w.W fl_TPoint u.2.2.2.2.2.2.2.1 u.2.2.2.2.2.2.2.2.1 y721.1.Marks ∧ (∀ b, insS [] b → sz716 ≤ b) ∧ sz716 ≤ u.2.2.2.2.2.2.2.2.2) (fun u => [(1, (.string p1)), (2, (.pointer (some ⟨b100, 0, none⟩))), (4, (.pointer (some ⟨b101, 0, none⟩))), (8, (.slice Al131 (l131).length cl131)), (9, (.slice Al132 (l132).length cl132)), (12, (.pointer (some ⟨b140, 0, none⟩))), (13, (.bool x536)), (14, (.int .i64 x537)), (19, (.pointer (some ⟨u.2.2.2.2.2.2.2.2.2, 0, none⟩))), (69, (.int .i64 x537)), (70, (.slice Al131 (l131).length cl131)), (71, (.int .i64 (l131.length : Int))), (72, (.bool (decide (x537 < (l131.length : Int))))), (110, (.bool x536)), (111, (.bool (!x536))), (113, (.pointer (some ⟨b100, 5, none⟩))), (114, (.slice Ap0_1 (p0.Slots).length cp0_1)), (115, (.int .i64 (p0.Slots.length : Int))), (116, (.bool ((p0.Slots.length : Int) == 500))), (119, (.pointer (some ⟨b100, 5, none⟩))), (120, (.slice Ap0_1 (p0.Slots).length cp0_1)), (122, (.tuple #[(.agg #[(.int .i64 y721.1.W), (.int .i64 y721.1.H), (.int .i64 y721.1.Rail), (.int .i64 y721.1.Gap), (.slice u.2.2.2.1 (y721.1.Kinds).length u.2.2.2.2.1), (.slice u.2.2.2.2.2.1 (y721.1.Slots).length u.2.2.2.2.2.2.1), (.slice u.2.2.2.2.2.2.2.1 (y721.1.Marks).length u.2.2.2.2.2.2.2.2.1)]), (.int .i64 y721.2)])), (123, (.agg #[(.int .i64 p0.W), (.int .i64 p0.H), (.int .i64 p0.Rail), (.int .i64 p0.Gap), (.slice Ap0_0 (p0.Kinds).length cp0_0), (.slice Ap0_1 (p0.Slots).length cp0_1), (.slice Ap0_2 (p0.Marks).length cp0_2)])), (125, (.agg #[(.string x532), (.int .i64 x533), (.int .i64 x534), (.int .i64 x535)])), (127, (.slice u.2.1 (l718).length u.2.2.1)), (128, (.tuple #[(.agg #[(.int .i64 y721.1.W), (.int .i64 y721.1.H), (.int .i64 y721.1.Rail), (.int .i64 y721.1.Gap), (.slice u.2.2.2.1 (y721.1.Kinds).length u.2.2.2.2.1), (.slice u.2.2.2.2.2.1 (y721.1.Slots).length u.2.2.2.2.2.2.1), (.slice u.2.2.2.2.2.2.2.1 (y721.1.Marks).length u.2.2.2.2.2.2.2.2.1)]), (.int .i64 y721.2)])), (129, (.agg #[(.int .i64 y721.1.W), (.int .i64 y721.1.H), (.int .i64 y721.1.Rail), (.int .i64 y721.1.Gap), (.slice u.2.2.2.1 (y721.1.Kinds).length u.2.2.2.2.1), (.slice u.2.2.2.2.2.1 (y721.1.Slots).length u.2.2.2.2.2.2.1), (.slice u.2.2.2.2.2.2.2.1 (y721.1.Marks).length u.2.2.2.2.2.2.2.2.1)])), (130, (.int .i64 y721.2))]) (fun u => [(1, bx b100 #[(.int .i64 p0.W), (.int .i64 p0.H), (.int .i64 p0.Rail), (.int .i64 p0.Gap), (.slice Ap0_0 (p0.Kinds).length cp0_0), (.slice Ap0_1 (p0.Slots).length cp0_1), (.slice Ap0_2 (p0.Marks).length cp0_2)] 26), (2, bx b101 #[(.int .i64 0), (.int .i64 0), (.int .i64 0), (.int .i64 0), (.slice none 0 0), (.slice none 0 0), (.slice none 0 0)] 26), (4, ow Al132 cl132 3 fl_i64 l132), (14, ow Al131 cl131 3 fl_i64 l131), (17, bx b140 #[(.string x532), (.int .i64 x533), (.int .i64 x534), (.int .i64 x535)] 34), (48, bx u.2.2.2.2.2.2.2.2.2 #[(.int .i64 0), (.int .i64 0), (.int .i64 0), (.int .i64 0), (.slice none 0 0), (.slice none 0 0), (.slice none 0 0)] 26)]) ?_ ?_
              · intro hC
                refine Dr.pair 3 9 (by kernel_rfl) ?_ ?_
                · refine St.buildSlice 3 47 (e := 34) (vs := [(0, (.agg #[(.string x532), (.int .i64 x533), (.int .i64 x534), (.int .i64 x535)]))]) (cs := [(.string x532), (.int .i64 x533), (.int .i64 x534), (.int .i64 x535)]) rfl (wn rfl) rfl (evs_cons rfl evs_nil) (by kernel_rfl) fun b717 hb717 => ?_
                  refine Dr.pair 4 9 (by kernel_rfl) ?_ ?_
                  · refine St.append 4 46 (t' := fl_TSlot) (ll := l715) (l2 := [(TSlot.mk x532 x533 (TPoint.mk x534 x535))]) (fun b hb => .inl ⟨_, List.mem_cons_self, rfl, hb⟩) rfl (wn rfl) rfl rfl rfl rfl (fun W hW => ⟨[[(.string x532), (.int .i64 x533), (.int .i64 x534), (.int .i64 x535)]], (.cons ⟨(), trivial, rfl⟩ .nil), rdb hW (vs := [(.string x532), (.int .i64 x533), (.int .i64 x534), (.int .i64 x535)]) (k := 47) rfl 0⟩) un_23 sz_34 zl_34 (by decide) by_34 rfl hl718 fun Al718 cl718 hAl718 => ?_
                    refine Dr.pair 5 9 (by kernel_rfl) ?_ ?_
                    · refine St.freeze 46 rfl fun w le720 hz719 => ?_
                      replace hp0_0 := hp0_0.le le720
                      replace hp0_1 := hp0_1.le le720
                      replace hp0_2 := hp0_2.le le720
                      replace leB := leB.trans le720
                      replace leF_etchhouseref9_Added_L1 := leF_etchhouseref9_Added_L1.trans le720
                      replace leF_etchhouseref9_Added_L10 := leF_etchhouseref9_Added_L10.trans le720
                      refine St.callG 5 [] [] (U := (Option Addr × Nat) × (Option Addr × Nat) × (Option Addr × Nat)) (fun u => (.tuple #[(.agg #[(.int .i64 y721.1.W), (.int .i64 y721.1.H), (.int .i64 y721.1.Rail), (.int .i64 y721.1.Gap), (.slice u.1.1 (y721.1.Kinds).length u.1.2), (.slice u.2.1.1 (y721.1.Slots).length u.2.1.2), (.slice u.2.2.1 (y721.1.Marks).length u.2.2.2)]), (.int .i64 y721.2)])) (fun O W u => Sl O W fl_TBoardKind u.1.1 u.1.2 y721.1.Kinds ∧ Sl O W fl_TSlot u.2.1.1 u.2.1.2 y721.1.Slots ∧ Sl O W fl_TPoint u.2.2.1 u.2.2.2 y721.1.Marks) (fun u => []) rfl pk_nil (fun _ => rfl) (insS_no rfl) rfl (wn rfl) rfl Try.call65 (evl_cons rfl (evl_cons rfl evl_nil)) (fun W hW hp hE => F_etchhouseref9_laid_ok N p0 Ap0_0 cp0_0 (hp0_0.extO (hW.extS hp)) Ap0_1 cp0_1 (hp0_1.rl.ext (hW.extS hp)) Ap0_2 cp0_2 (hp0_2.extO (hW.extS hp)) l718 Al718 cl718 (hz719.extO (hW.extS hp)) y721 hy721 hE) ?_
                      intro w u le722 hu hsy721
                      obtain ⟨⟨Ay721_0, cy721_0⟩, ⟨Ay721_1, cy721_1⟩, ⟨Ay721_2, cy721_2⟩⟩ := u
                      obtain ⟨gy721_0, gy721_1, gy721_2⟩ := hu
                      replace hp0_0 := hp0_0.le le722
                      replace hp0_1 := hp0_1.le le722
                      replace hp0_2 := hp0_2.le le722
                      replace hz719 := hz719.le le722
                      replace leB := leB.trans le722
                      replace leF_etchhouseref9_Added_L1 := leF_etchhouseref9_Added_L1.trans le722
                      replace leF_etchhouseref9_Added_L10 := leF_etchhouseref9_Added_L10.trans le722
                      have hgy721_0 : Sl w.O w.W fl_TBoardKind Ay721_0 cy721_0 y721.1.Kinds := gy721_0
                      have hgy721_1 : Sl w.O w.W fl_TSlot Ay721_1 cy721_1 y721.1.Slots := gy721_1
                      have hgy721_2 : Sl w.O w.W fl_TPoint Ay721_2 cy721_2 y721.1.Marks := gy721_2
                      show Dr _ _ _ _ _ _ _ _ _ (uf _ 128 (.tuple #[(.agg #[(.int .i64 y721.1.W), (.int .i64 y721.1.H), (.int .i64 y721.1.Rail), (.int .i64 y721.1.Gap), (.slice Ay721_0 (y721.1.Kinds).length cy721_0), (.slice Ay721_1 (y721.1.Slots).length cy721_1), (.slice Ay721_2 (y721.1.Marks).length cy721_2)]), (.int .i64 y721.2)])) (_)
                      refine Dr.quiet 6 [(122, (.tuple #[(.agg #[(.int .i64 y721.1.W), (.int .i64 y721.1.H), (.int .i64 y721.1.Rail), (.int .i64 y721.1.Gap), (.slice Ay721_0 (y721.1.Kinds).length cy721_0), (.slice Ay721_1 (y721.1.Slots).length cy721_1), (.slice Ay721_2 (y721.1.Marks).length cy721_2)]), (.int .i64 y721.2)]))] (by kernel_rfl) rfl rfl (by kernel_rfl) ?_ rfl rfl ?_
                      · refine Tq.val (wn rfl) rfl (fun _ _ h1 h2 => run_move (h1.ev rfl)) ?_
                        exact Tq.fin (.cons rfl .nil)
                      refine Dr.quiet 7 [(129, (.agg #[(.int .i64 y721.1.W), (.int .i64 y721.1.H), (.int .i64 y721.1.Rail), (.int .i64 y721.1.Gap), (.slice Ay721_0 (y721.1.Kinds).length cy721_0), (.slice Ay721_1 (y721.1.Slots).length cy721_1), (.slice Ay721_2 (y721.1.Marks).length cy721_2)]))] (by kernel_rfl) rfl rfl (by kernel_rfl) ?_ rfl rfl ?_
                      · refine Tq.val (wn rfl) rfl (fun _ _ h1 h2 => run_extract (h1.ev rfl) rfl) ?_
                        exact Tq.fin (.cons rfl .nil)
                      refine Dr.quietP 8 (by kernel_rfl) rfl (wn rfl) rfl (by kernel_rfl) (fun _ _ h1 => run_extract (h1.ev rfl) rfl) rfl ?_
                      refine Dr.one 9 (by kernel_rfl) ?_
                      refine St.alloc 9 48 rfl (wn rfl) rfl ze_26 fun b723 hb723 => ?_
                      exact (hC w ⟨b717, Al718, cl718, Ay721_0, cy721_0, Ay721_1, cy721_1, Ay721_2, cy721_2, b723⟩ (le720.trans le722) ⟨hb717, hAl718, hz719, hgy721_0, hgy721_1, hgy721_2, hsy721, hb723⟩).use (by kernel_rfl) (.cons rfl (.cons rfl (.cons rfl (.cons rfl (.cons rfl (.cons rfl (.cons rfl (.cons rfl (.cons rfl (.cons rfl (.cons rfl (.cons rfl (.cons rfl (.cons rfl (.cons rfl (.cons rfl (.cons rfl (.cons rfl (.cons rfl (.cons rfl (.cons rfl (.cons rfl (.cons rfl (.cons rfl (.cons rfl (.cons rfl (.cons rfl (.cons rfl .nil)))))))))))))))))))))))))))) (.cons rfl (.cons rfl (.cons rfl (.cons rfl (.cons rfl (.cons rfl .nil))))))
                    · refine St.alloc 9 48 rfl (wn rfl) rfl ze_26 fun b723 hb723 => ?_
                      refine Dr.one 5 (by kernel_rfl) ?_
                      refine St.freeze 46 rfl fun w le720 hz719 => ?_
                      replace hp0_0 := hp0_0.le le720
                      replace hp0_1 := hp0_1.le le720
                      replace hp0_2 := hp0_2.le le720
                      replace leB := leB.trans le720
                      replace leF_etchhouseref9_Added_L1 := leF_etchhouseref9_Added_L1.trans le720
                      replace leF_etchhouseref9_Added_L10 := leF_etchhouseref9_Added_L10.trans le720
                      refine St.callG 5 [] [] (U := (Option Addr × Nat) × (Option Addr × Nat) × (Option Addr × Nat)) (fun u => (.tuple #[(.agg #[(.int .i64 y721.1.W), (.int .i64 y721.1.H), (.int .i64 y721.1.Rail), (.int .i64 y721.1.Gap), (.slice u.1.1 (y721.1.Kinds).length u.1.2), (.slice u.2.1.1 (y721.1.Slots).length u.2.1.2), (.slice u.2.2.1 (y721.1.Marks).length u.2.2.2)]), (.int .i64 y721.2)])) (fun O W u => Sl O W fl_TBoardKind u.1.1 u.1.2 y721.1.Kinds ∧ Sl O W fl_TSlot u.2.1.1 u.2.1.2 y721.1.Slots ∧ Sl O W fl_TPoint u.2.2.1 u.2.2.2 y721.1.Marks) (fun u => []) rfl pk_nil (fun _ => rfl) (insS_no rfl) rfl (wn rfl) rfl Try.call65 (evl_cons rfl (evl_cons rfl evl_nil)) (fun W hW hp hE => F_etchhouseref9_laid_ok N p0 Ap0_0 cp0_0 (hp0_0.extO (hW.extS hp)) Ap0_1 cp0_1 (hp0_1.rl.ext (hW.extS hp)) Ap0_2 cp0_2 (hp0_2.extO (hW.extS hp)) l718 Al718 cl718 (hz719.extO (hW.extS hp)) y721 hy721 hE) ?_
                      intro w u le722 hu hsy721
                      obtain ⟨⟨Ay721_0, cy721_0⟩, ⟨Ay721_1, cy721_1⟩, ⟨Ay721_2, cy721_2⟩⟩ := u
                      obtain ⟨gy721_0, gy721_1, gy721_2⟩ := hu
                      replace hp0_0 := hp0_0.le le722
                      replace hp0_1 := hp0_1.le le722
                      replace hp0_2 := hp0_2.le le722
                      replace hz719 := hz719.le le722
                      replace leB := leB.trans le722
                      replace leF_etchhouseref9_Added_L1 := leF_etchhouseref9_Added_L1.trans le722
                      replace leF_etchhouseref9_Added_L10 := leF_etchhouseref9_Added_L10.trans le722
                      have hgy721_0 : Sl w.O w.W fl_TBoardKind Ay721_0 cy721_0 y721.1.Kinds := gy721_0
                      have hgy721_1 : Sl w.O w.W fl_TSlot Ay721_1 cy721_1 y721.1.Slots := gy721_1
                      have hgy721_2 : Sl w.O w.W fl_TPoint Ay721_2 cy721_2 y721.1.Marks := gy721_2
                      show Dr _ _ _ _ _ _ _ _ _ (uf _ 128 (.tuple #[(.agg #[(.int .i64 y721.1.W), (.int .i64 y721.1.H), (.int .i64 y721.1.Rail), (.int .i64 y721.1.Gap), (.slice Ay721_0 (y721.1.Kinds).length cy721_0), (.slice Ay721_1 (y721.1.Slots).length cy721_1), (.slice Ay721_2 (y721.1.Marks).length cy721_2)]), (.int .i64 y721.2)])) (_)
                      refine Dr.quiet 6 [(122, (.tuple #[(.agg #[(.int .i64 y721.1.W), (.int .i64 y721.1.H), (.int .i64 y721.1.Rail), (.int .i64 y721.1.Gap), (.slice Ay721_0 (y721.1.Kinds).length cy721_0), (.slice Ay721_1 (y721.1.Slots).length cy721_1), (.slice Ay721_2 (y721.1.Marks).length cy721_2)]), (.int .i64 y721.2)]))] (by kernel_rfl) rfl rfl (by kernel_rfl) ?_ rfl rfl ?_
                      · refine Tq.val (wn rfl) rfl (fun _ _ h1 h2 => run_move (h1.ev rfl)) ?_
                        exact Tq.fin (.cons rfl .nil)
                      refine Dr.quiet 7 [(129, (.agg #[(.int .i64 y721.1.W), (.int .i64 y721.1.H), (.int .i64 y721.1.Rail), (.int .i64 y721.1.Gap), (.slice Ay721_0 (y721.1.Kinds).length cy721_0), (.slice Ay721_1 (y721.1.Slots).length cy721_1), (.slice Ay721_2 (y721.1.Marks).length cy721_2)]))] (by kernel_rfl) rfl rfl (by kernel_rfl) ?_ rfl rfl ?_
                      · refine Tq.val (wn rfl) rfl (fun _ _ h1 h2 => run_extract (h1.ev rfl) rfl) ?_
                        exact Tq.fin (.cons rfl .nil)
                      refine Dr.quietP 8 (by kernel_rfl) rfl (wn rfl) rfl (by kernel_rfl) (fun _ _ h1 => run_extract (h1.ev rfl) rfl) rfl ?_
                      exact (hC w ⟨b717, Al718, cl718, Ay721_0, cy721_0, Ay721_1, cy721_1, Ay721_2, cy721_2, b723⟩ (le720.trans le722) ⟨hb717, hAl718, hz719, hgy721_0, hgy721_1, hgy721_2, hsy721, hb723⟩).use (by kernel_rfl) (.cons rfl (.cons rfl (.cons rfl (.cons rfl (.cons rfl (.cons rfl (.cons rfl (.cons rfl (.cons rfl (.cons rfl (.cons rfl (.cons rfl (.cons rfl (.cons rfl (.cons rfl (.cons rfl (.cons rfl (.cons rfl (.cons rfl (.cons rfl (.cons rfl (.cons rfl (.cons rfl (.cons rfl (.cons rfl (.cons rfl (.cons rfl (.cons rfl .nil)))))))))))))))))))))))))))) (.cons rfl (.cons rfl (.cons rfl (.cons rfl (.cons rfl (.cons rfl .nil))))))
                  · refine St.alloc 9 48 rfl (wn rfl) rfl ze_26 fun b723 hb723 => ?_
                    refine Dr.one 4 (by kernel_rfl) ?_
                    refine St.append 4 46 (t' := fl_TSlot) (ll := l715) (l2 := [(TSlot.mk x532 x533 (TPoint.mk x534 x535))]) (fun b hb => .inl ⟨_, List.mem_cons_self, rfl, hb⟩) rfl (wn rfl) rfl rfl rfl rfl (fun W hW => ⟨[[(.string x532), (.int .i64 x533), (.int .i64 x534), (.int .i64 x535)]], (.cons ⟨(), trivial, rfl⟩ .nil), rdb hW (vs := [(.string x532), (.int .i64 x533), (.int .i64 x534), (.int .i64 x535)]) (k := 47) rfl 0⟩) un_23 sz_34 zl_34 (by decide) by_34 rfl hl718 fun Al718 cl718 hAl718 => ?_
                    refine Dr.one 5 (by kernel_rfl) ?_
                    refine St.freeze 46 rfl fun w le720 hz719 => ?_
                    replace hp0_0 := hp0_0.le le720
                    replace hp0_1 := hp0_1.le le720
                    replace hp0_2 := hp0_2.le le720
                    replace leB := leB.trans le720
                    replace leF_etchhouseref9_Added_L1 := leF_etchhouseref9_Added_L1.trans le720
                    replace leF_etchhouseref9_Added_L10 := leF_etchhouseref9_Added_L10.trans le720
                    refine St.callG 5 [] [] (U := (Option Addr × Nat) × (Option Addr × Nat) × (Option Addr × Nat)) (fun u => (.tuple #[(.agg #[(.int .i64 y721.1.W), (.int .i64 y721.1.H), (.int .i64 y721.1.Rail), (.int .i64 y721.1.Gap), (.slice u.1.1 (y721.1.Kinds).length u.1.2), (.slice u.2.1.1 (y721.1.Slots).length u.2.1.2), (.slice u.2.2.1 (y721.1.Marks).length u.2.2.2)]), (.int .i64 y721.2)])) (fun O W u => Sl O W fl_TBoardKind u.1.1 u.1.2 y721.1.Kinds ∧ Sl O W fl_TSlot u.2.1.1 u.2.1.2 y721.1.Slots ∧ Sl O W fl_TPoint u.2.2.1 u.2.2.2 y721.1.Marks) (fun u => []) rfl pk_nil (fun _ => rfl) (insS_no rfl) rfl (wn rfl) rfl Try.call65 (evl_cons rfl (evl_cons rfl evl_nil)) (fun W hW hp hE => F_etchhouseref9_laid_ok N p0 Ap0_0 cp0_0 (hp0_0.extO (hW.extS hp)) Ap0_1 cp0_1 (hp0_1.rl.ext (hW.extS hp)) Ap0_2 cp0_2 (hp0_2.extO (hW.extS hp)) l718 Al718 cl718 (hz719.extO (hW.extS hp)) y721 hy721 hE) ?_
                    intro w u le722 hu hsy721
                    obtain ⟨⟨Ay721_0, cy721_0⟩, ⟨Ay721_1, cy721_1⟩, ⟨Ay721_2, cy721_2⟩⟩ := u
                    obtain ⟨gy721_0, gy721_1, gy721_2⟩ := hu
                    replace hp0_0 := hp0_0.le le722
                    replace hp0_1 := hp0_1.le le722
                    replace hp0_2 := hp0_2.le le722
                    replace hz719 := hz719.le le722
                    replace leB := leB.trans le722
                    replace leF_etchhouseref9_Added_L1 := leF_etchhouseref9_Added_L1.trans le722
                    replace leF_etchhouseref9_Added_L10 := leF_etchhouseref9_Added_L10.trans le722
                    have hgy721_0 : Sl w.O w.W fl_TBoardKind Ay721_0 cy721_0 y721.1.Kinds := gy721_0
                    have hgy721_1 : Sl w.O w.W fl_TSlot Ay721_1 cy721_1 y721.1.Slots := gy721_1
                    have hgy721_2 : Sl w.O w.W fl_TPoint Ay721_2 cy721_2 y721.1.Marks := gy721_2
                    show Dr _ _ _ _ _ _ _ _ _ (uf _ 128 (.tuple #[(.agg #[(.int .i64 y721.1.W), (.int .i64 y721.1.H), (.int .i64 y721.1.Rail), (.int .i64 y721.1.Gap), (.slice Ay721_0 (y721.1.Kinds).length cy721_0), (.slice Ay721_1 (y721.1.Slots).length cy721_1), (.slice Ay721_2 (y721.1.Marks).length cy721_2)]), (.int .i64 y721.2)])) (_)
                    refine Dr.quiet 6 [(122, (.tuple #[(.agg #[(.int .i64 y721.1.W), (.int .i64 y721.1.H), (.int .i64 y721.1.Rail), (.int .i64 y721.1.Gap), (.slice Ay721_0 (y721.1.Kinds).length cy721_0), (.slice Ay721_1 (y721.1.Slots).length cy721_1), (.slice Ay721_2 (y721.1.Marks).length cy721_2)]), (.int .i64 y721.2)]))] (by kernel_rfl) rfl rfl (by kernel_rfl) ?_ rfl rfl ?_
                    · refine Tq.val (wn rfl) rfl (fun _ _ h1 h2 => run_move (h1.ev rfl)) ?_
                      exact Tq.fin (.cons rfl .nil)
                    refine Dr.quiet 7 [(129, (.agg #[(.int .i64 y721.1.W), (.int .i64 y721.1.H), (.int .i64 y721.1.Rail), (.int .i64 y721.1.Gap), (.slice Ay721_0 (y721.1.Kinds).length cy721_0), (.slice Ay721_1 (y721.1.Slots).length cy721_1), (.slice Ay721_2 (y721.1.Marks).length cy721_2)]))] (by kernel_rfl) rfl rfl (by kernel_rfl) ?_ rfl rfl ?_
                    · refine Tq.val (wn rfl) rfl (fun _ _ h1 h2 => run_extract (h1.ev rfl) rfl) ?_
                      exact Tq.fin (.cons rfl .nil)
                    refine Dr.quietP 8 (by kernel_rfl) rfl (wn rfl) rfl (by kernel_rfl) (fun _ _ h1 => run_extract (h1.ev rfl) rfl) rfl ?_
                    exact (hC w ⟨b717, Al718, cl718, Ay721_0, cy721_0, Ay721_1, cy721_1, Ay721_2, cy721_2, b723⟩ (le720.trans le722) ⟨hb717, hAl718, hz719, hgy721_0, hgy721_1, hgy721_2, hsy721, hb723⟩).use (by kernel_rfl) (.cons rfl (.cons rfl (.cons rfl (.cons rfl (.cons rfl (.cons rfl (.cons rfl (.cons rfl (.cons rfl (.cons rfl (.cons rfl (.cons rfl (.cons rfl (.cons rfl (.cons rfl (.cons rfl (.cons rfl (.cons rfl (.cons rfl (.cons rfl (.cons rfl (.cons rfl (.cons rfl (.cons rfl (.cons rfl (.cons rfl (.cons rfl (.cons rfl .nil)))))))))))))))))))))))))))) (.cons rfl (.cons rfl (.cons rfl (.cons rfl (.cons rfl (.cons rfl .nil))))))
                · refine St.alloc 9 48 rfl (wn rfl) rfl ze_26 fun b723 hb723 => ?_
                  refine Dr.one 3 (by kernel_rfl) ?_
                  refine St.buildSlice 3 47 (e := 34) (vs := [(0, (.agg #[(.string x532), (.int .i64 x533), (.int .i64 x534), (.int .i64 x535)]))]) (cs := [(.string x532), (.int .i64 x533), (.int .i64 x534), (.int .i64 x535)]) rfl (wn rfl) rfl (evs_cons rfl evs_nil) (by kernel_rfl) fun b717 hb717 => ?_
                  refine Dr.one 4 (by kernel_rfl) ?_
                  refine St.append 4 46 (t' := fl_TSlot) (ll := l715) (l2 := [(TSlot.mk x532 x533 (TPoint.mk x534 x535))]) (fun b hb => .inl ⟨_, List.mem_cons_self, rfl, hb⟩) rfl (wn rfl) rfl rfl rfl rfl (fun W hW => ⟨[[(.string x532), (.int .i64 x533), (.int .i64 x534), (.int .i64 x535)]], (.cons ⟨(), trivial, rfl⟩ .nil), rdb hW (vs := [(.string x532), (.int .i64 x533), (.int .i64 x534), (.int .i64 x535)]) (k := 47) rfl 0⟩) un_23 sz_34 zl_34 (by decide) by_34 rfl hl718 fun Al718 cl718 hAl718 => ?_
                  refine Dr.one 5 (by kernel_rfl) ?_
                  refine St.freeze 46 rfl fun w le720 hz719 => ?_
                  replace hp0_0 := hp0_0.le le720
                  replace hp0_1 := hp0_1.le le720
                  replace hp0_2 := hp0_2.le le720
                  replace leB := leB.trans le720
                  replace leF_etchhouseref9_Added_L1 := leF_etchhouseref9_Added_L1.trans le720
                  replace leF_etchhouseref9_Added_L10 := leF_etchhouseref9_Added_L10.trans le720
                  refine St.callG 5 [] [] (U := (Option Addr × Nat) × (Option Addr × Nat) × (Option Addr × Nat)) (fun u => (.tuple #[(.agg #[(.int .i64 y721.1.W), (.int .i64 y721.1.H), (.int .i64 y721.1.Rail), (.int .i64 y721.1.Gap), (.slice u.1.1 (y721.1.Kinds).length u.1.2), (.slice u.2.1.1 (y721.1.Slots).length u.2.1.2), (.slice u.2.2.1 (y721.1.Marks).length u.2.2.2)]), (.int .i64 y721.2)])) (fun O W u => Sl O W fl_TBoardKind u.1.1 u.1.2 y721.1.Kinds ∧ Sl O W fl_TSlot u.2.1.1 u.2.1.2 y721.1.Slots ∧ Sl O W fl_TPoint u.2.2.1 u.2.2.2 y721.1.Marks) (fun u => []) rfl pk_nil (fun _ => rfl) (insS_no rfl) rfl (wn rfl) rfl Try.call65 (evl_cons rfl (evl_cons rfl evl_nil)) (fun W hW hp hE => F_etchhouseref9_laid_ok N p0 Ap0_0 cp0_0 (hp0_0.extO (hW.extS hp)) Ap0_1 cp0_1 (hp0_1.rl.ext (hW.extS hp)) Ap0_2 cp0_2 (hp0_2.extO (hW.extS hp)) l718 Al718 cl718 (hz719.extO (hW.extS hp)) y721 hy721 hE) ?_
                  intro w u le722 hu hsy721
                  obtain ⟨⟨Ay721_0, cy721_0⟩, ⟨Ay721_1, cy721_1⟩, ⟨Ay721_2, cy721_2⟩⟩ := u
                  obtain ⟨gy721_0, gy721_1, gy721_2⟩ := hu
                  replace hp0_0 := hp0_0.le le722
                  replace hp0_1 := hp0_1.le le722
                  replace hp0_2 := hp0_2.le le722
                  replace hz719 := hz719.le le722
                  replace leB := leB.trans le722
                  replace leF_etchhouseref9_Added_L1 := leF_etchhouseref9_Added_L1.trans le722
                  replace leF_etchhouseref9_Added_L10 := leF_etchhouseref9_Added_L10.trans le722
                  have hgy721_0 : Sl w.O w.W fl_TBoardKind Ay721_0 cy721_0 y721.1.Kinds := gy721_0
                  have hgy721_1 : Sl w.O w.W fl_TSlot Ay721_1 cy721_1 y721.1.Slots := gy721_1
                  have hgy721_2 : Sl w.O w.W fl_TPoint Ay721_2 cy721_2 y721.1.Marks := gy721_2
                  show Dr _ _ _ _ _ _ _ _ _ (uf _ 128 (.tuple #[(.agg #[(.int .i64 y721.1.W), (.int .i64 y721.1.H), (.int .i64 y721.1.Rail), (.int .i64 y721.1.Gap), (.slice Ay721_0 (y721.1.Kinds).length cy721_0), (.slice Ay721_1 (y721.1.Slots).length cy721_1), (.slice Ay721_2 (y721.1.Marks).length cy721_2)]), (.int .i64 y721.2)])) (_)
                  refine Dr.quiet 6 [(122, (.tuple #[(.agg #[(.int .i64 y721.1.W), (.int .i64 y721.1.H), (.int .i64 y721.1.Rail), (.int .i64 y721.1.Gap), (.slice Ay721_0 (y721.1.Kinds).length cy721_0), (.slice Ay721_1 (y721.1.Slots).length cy721_1), (.slice Ay721_2 (y721.1.Marks).length cy721_2)]), (.int .i64 y721.2)]))] (by kernel_rfl) rfl rfl (by kernel_rfl) ?_ rfl rfl ?_
                  · refine Tq.val (wn rfl) rfl (fun _ _ h1 h2 => run_move (h1.ev rfl)) ?_
                    exact Tq.fin (.cons rfl .nil)
                  refine Dr.quiet 7 [(129, (.agg #[(.int .i64 y721.1.W), (.int .i64 y721.1.H), (.int .i64 y721.1.Rail), (.int .i64 y721.1.Gap), (.slice Ay721_0 (y721.1.Kinds).length cy721_0), (.slice Ay721_1 (y721.1.Slots).length cy721_1), (.slice Ay721_2 (y721.1.Marks).length cy721_2)]))] (by kernel_rfl) rfl rfl (by kernel_rfl) ?_ rfl rfl ?_
                  · refine Tq.val (wn rfl) rfl (fun _ _ h1 h2 => run_extract (h1.ev rfl) rfl) ?_
                    exact Tq.fin (.cons rfl .nil)
                  refine Dr.quietP 8 (by kernel_rfl) rfl (wn rfl) rfl (by kernel_rfl) (fun _ _ h1 => run_extract (h1.ev rfl) rfl) rfl ?_
                  exact (hC w ⟨b717, Al718, cl718, Ay721_0, cy721_0, Ay721_1, cy721_1, Ay721_2, cy721_2, b723⟩ (le720.trans le722) ⟨hb717, hAl718, hz719, hgy721_0, hgy721_1, hgy721_2, hsy721, hb723⟩).use (by kernel_rfl) (.cons rfl (.cons rfl (.cons rfl (.cons rfl (.cons rfl (.cons rfl (.cons rfl (.cons rfl (.cons rfl (.cons rfl (.cons rfl (.cons rfl (.cons rfl (.cons rfl (.cons rfl (.cons rfl (.cons rfl (.cons rfl (.cons rfl (.cons rfl (.cons rfl (.cons rfl (.cons rfl (.cons rfl (.cons rfl (.cons rfl (.cons rfl (.cons rfl .nil)))))))))))))))))))))))))))) (.cons rfl (.cons rfl (.cons rfl (.cons rfl (.cons rfl (.cons rfl .nil))))))
              intro w u le724 hu
              obtain ⟨b717, Al718, cl718, Ay721_0, cy721_0, Ay721_1, cy721_1, Ay721_2, cy721_2, b723⟩ := u
              obtain ⟨hb717, hAl718, hz719, hgy721_0, hgy721_1, hgy721_2, hsy721, hb723⟩ := hu
              replace hb717 : sz716 ≤ b717 := hb717
              replace hAl718 : SlF Al718 l718.length cl718 := hAl718
              replace hz719 : Sl w.O w.W fl_TSlot Al718 cl718 l718 := hz719
              replace hgy721_0 : Sl w.O w.W fl_TBoardKind Ay721_0 cy721_0 y721.1.Kinds := hgy721_0
              replace hgy721_1 : Sl w.O w.W fl_TSlot Ay721_1 cy721_1 y721.1.Slots := hgy721_1
              replace hgy721_2 : Sl w.O w.W fl_TPoint Ay721_2 cy721_2 y721.1.Marks := hgy721_2
              replace hsy721 : (∀ b, insS [] b → sz716 ≤ b) := hsy721
              replace hb723 : sz716 ≤ b723 := hb723
              replace hp0_0 := hp0_0.le le724
              replace hp0_1 := hp0_1.le le724
              replace hp0_2 := hp0_2.le le724
              replace leB := leB.trans le724
              replace leF_etchhouseref9_Added_L1 := leF_etchhouseref9_Added_L1.trans le724
              replace leF_etchhouseref9_Added_L10 := leF_etchhouseref9_Added_L10.trans le724
              show Dr _ _ _ _ _ _ _ _ _ (LF [(1, (.string p1)), (2, (.pointer (some ⟨b100, 0, none⟩))), (4, (.pointer (some ⟨b101, 0, none⟩))), (8, (.slice Al131 (l131).length cl131)), (9, (.slice Al132 (l132).length cl132)), (12, (.pointer (some ⟨b140, 0, none⟩))), (13, (.bool x536)), (14, (.int .i64 x537)), (19, (.pointer (some ⟨b723, 0, none⟩))), (69, (.int .i64 x537)), (70, (.slice Al131 (l131).length cl131)), (71, (.int .i64 (l131.length : Int))), (72, (.bool (decide (x537 < (l131.length : Int))))), (110, (.bool x536)), (111, (.bool (!x536))), (113, (.pointer (some ⟨b100, 5, none⟩))), (114, (.slice Ap0_1 (p0.Slots).length cp0_1)), (115, (.int .i64 (p0.Slots.length : Int))), (116, (.bool ((p0.Slots.length : Int) == 500))), (119, (.pointer (some ⟨b100, 5, none⟩))), (120, (.slice Ap0_1 (p0.Slots).length cp0_1)), (122, (.tuple #[(.agg #[(.int .i64 y721.1.W), (.int .i64 y721.1.H), (.int .i64 y721.1.Rail), (.int .i64 y721.1.Gap), (.slice Ay721_0 (y721.1.Kinds).length cy721_0), (.slice Ay721_1 (y721.1.Slots).length cy721_1), (.slice Ay721_2 (y721.1.Marks).length cy721_2)]), (.int .i64 y721.2)])), (123, (.agg #[(.int .i64 p0.W), (.int .i64 p0.H), (.int .i64 p0.Rail), (.int .i64 p0.Gap), (.slice Ap0_0 (p0.Kinds).length cp0_0), (.slice Ap0_1 (p0.Slots).length cp0_1), (.slice Ap0_2 (p0.Marks).length cp0_2)])), (125, (.agg #[(.string x532), (.int .i64 x533), (.int .i64 x534), (.int .i64 x535)])), (127, (.slice Al718 (l718).length cl718)), (128, (.tuple #[(.agg #[(.int .i64 y721.1.W), (.int .i64 y721.1.H), (.int .i64 y721.1.Rail), (.int .i64 y721.1.Gap), (.slice Ay721_0 (y721.1.Kinds).length cy721_0), (.slice Ay721_1 (y721.1.Slots).length cy721_1), (.slice Ay721_2 (y721.1.Marks).length cy721_2)]), (.int .i64 y721.2)])), (129, (.agg #[(.int .i64 y721.1.W), (.int .i64 y721.1.H), (.int .i64 y721.1.Rail), (.int .i64 y721.1.Gap), (.slice Ay721_0 (y721.1.Kinds).length cy721_0), (.slice Ay721_1 (y721.1.Slots).length cy721_1), (.slice Ay721_2 (y721.1.Marks).length cy721_2)])), (130, (.int .i64 y721.2))]) (LE [(1, bx b100 #[(.int .i64 p0.W), (.int .i64 p0.H), (.int .i64 p0.Rail), (.int .i64 p0.Gap), (.slice Ap0_0 (p0.Kinds).length cp0_0), (.slice Ap0_1 (p0.Slots).length cp0_1), (.slice Ap0_2 (p0.Marks).length cp0_2)] 26), (2, bx b101 #[(.int .i64 0), (.int .i64 0), (.int .i64 0), (.int .i64 0), (.slice none 0 0), (.slice none 0 0), (.slice none 0 0)] 26), (4, ow Al132 cl132 3 fl_i64 l132), (14, ow Al131 cl131 3 fl_i64 l131), (17, bx b140 #[(.string x532), (.int .i64 x533), (.int .i64 x534), (.int .i64 x535)] 34), (48, bx b723 #[(.int .i64 0), (.int .i64 0), (.int .i64 0), (.int .i64 0), (.slice none 0 0), (.slice none 0 0), (.slice none 0 0)] 26)])
              refine Dr.one 10 (by kernel_rfl) ?_
              refine St.store 10 48 (cs := [(.int .i64 y721.1.W), (.int .i64 y721.1.H), (.int .i64 y721.1.Rail), (.int .i64 y721.1.Gap), (.slice Ay721_0 (y721.1.Kinds).length cy721_0), (.slice Ay721_1 (y721.1.Slots).length cy721_1), (.slice Ay721_2 (y721.1.Marks).length cy721_2)]) [(.int .i64 y721.1.W), (.int .i64 y721.1.H), (.int .i64 y721.1.Rail), (.int .i64 y721.1.Gap), (.slice Ay721_0 (y721.1.Kinds).length cy721_0), (.slice Ay721_1 (y721.1.Slots).length cy721_1), (.slice Ay721_2 (y721.1.Marks).length cy721_2)] rfl (wn rfl) (.inr ⟨by simp, hb723⟩) rfl rfl rfl rfl sz_26 rfl rfl rfl ?_
              refine Dr.tail (by kernel_rfl) ?_
              refine Tr.val (wn rfl) rfl (fun _ _ h1 h2 => run_assign (h1.ev rfl)) ?_
              refine Tr.nil (Tr.normThen ?_)
              refine Tr.seq ?_
              refine Tr.region ?_
              refine Tr.val (wn rfl) rfl (fun _ _ h1 h2 => run_loadN (cs := [(.int .i64 y721.1.W), (.int .i64 y721.1.H), (.int .i64 y721.1.Rail), (.int .i64 y721.1.Gap), (.slice Ay721_0 (y721.1.Kinds).length cy721_0), (.slice Ay721_1 (y721.1.Slots).length cy721_1), (.slice Ay721_2 (y721.1.Marks).length cy721_2)]) ag_26 sz_26 (h1.ev rfl) (CellsAt.take (rdb h2 (vs := [(.int .i64 y721.1.W), (.int .i64 y721.1.H), (.int .i64 y721.1.Rail), (.int .i64 y721.1.Gap), (.slice Ay721_0 (y721.1.Kinds).length cy721_0), (.slice Ay721_1 (y721.1.Slots).length cy721_1), (.slice Ay721_2 (y721.1.Marks).length cy721_2)]) (k := 48) rfl 0) 7) rfl) ?_
              refine Tr.val (wn rfl) rfl (fun _ _ h1 h2 => run_move (h1.ev rfl)) ?_
              refine Tr.val (wn rfl) rfl (fun _ _ h1 h2 => run_eql (h1.ev rfl) (h1.ev rfl)) ?_
              refine Tr.val (wn rfl) rfl (fun _ _ h1 h2 => run_move (h1.ev rfl)) ?_
              refine Tr.store 2 (cs := [(.int .i64 y721.1.W), (.int .i64 y721.1.H), (.int .i64 y721.1.Rail), (.int .i64 y721.1.Gap), (.slice Ay721_0 (y721.1.Kinds).length cy721_0), (.slice Ay721_1 (y721.1.Slots).length cy721_1), (.slice Ay721_2 (y721.1.Marks).length cy721_2)]) [(.int .i64 y721.1.W), (.int .i64 y721.1.H), (.int .i64 y721.1.Rail), (.int .i64 y721.1.Gap), (.slice Ay721_0 (y721.1.Kinds).length cy721_0), (.slice Ay721_1 (y721.1.Slots).length cy721_1), (.slice Ay721_2 (y721.1.Marks).length cy721_2)] (wn rfl) rfl rfl rfl rfl sz_26 rfl rfl rfl ?_
              refine Tr.val (wn rfl) rfl (fun _ _ h1 h2 => run_assign (h1.ev rfl)) ?_
              refine Tr.val (wn rfl) rfl (fun _ _ h1 h2 => run_assign (h1.ev rfl)) ?_
              refine Tr.nil (Tr.normThen ?_)
              refine Tr.ret ?_
              obtain rfl := Option.some.inj H
              exact Tr.out (m := [(.agg #[(.int .i64 y721.1.W), (.int .i64 y721.1.H), (.int .i64 y721.1.Rail), (.int .i64 y721.1.Gap), (.slice Ay721_0 (y721.1.Kinds).length cy721_0), (.slice Ay721_1 (y721.1.Slots).length cy721_1), (.slice Ay721_2 (y721.1.Marks).length cy721_2)]), (.bool (y721.2 == 0)), (.int .i64 y721.2)]) [2] (res_cell rfl rfl ag_26 sz_26 (res_tmp rfl (res_tmp rfl res_nil))) (fun W hW => ⟨w, ((Ay721_0, cy721_0), (Ay721_1, cy721_1), (Ay721_2, cy721_2)), leB, rfl, ⟨hgy721_0, hgy721_1, hgy721_2⟩, hW.pick (ks := []) (by decide) pk_nil⟩)

theorem F_panel_Needed_ok (N : Nat) {w : Bs} (p0 : TPanel) (Ap0_0 : Option Addr) (cp0_0 : Nat) (hp0_0 : Sl w.R w.W fl_TBoardKind Ap0_0 cp0_0 p0.Kinds) (Ap0_1 : Option Addr) (cp0_1 : Nat) (hp0_1 : Sl w.R w.W fl_TSlot Ap0_1 cp0_1 p0.Slots) (Ap0_2 : Option Addr) (cp0_2 : Nat) (hp0_2 : Sl w.R w.W fl_TPoint Ap0_2 cp0_2 p0.Marks) (p1 : ByteArray) (p2 : Int) (r : (Int × Int × Int)) (H : F_panel_Needed N p0 p1 p2 = some r) (hE : HF w w.W E0) : Calls Try.prog 14 [(.agg #[(.int .i64 p0.W), (.int .i64 p0.H), (.int .i64 p0.Rail), (.int .i64 p0.Gap), (.slice Ap0_0 (p0.Kinds).length cp0_0), (.slice Ap0_1 (p0.Slots).length cp0_1), (.slice Ap0_2 (p0.Marks).length cp0_2)]), (.string p1), (.int .i64 p2)].toArray w.W fun e W' => e = .returned (.tuple #[(.int .i64 r.1), (.int .i64 r.2.1), (.int .i64 r.2.2)]) ∧ HF w W' E0 := by
  unfold F_panel_Needed at H
  have leB := Bs.Le.refl w
  refine Tr.enter (n := 54) Try.func14 rfl rfl rfl hE ?_
  refine Tr.seq ?_
  refine Tr.region ?_
  refine Tr.box 1 (cs := [(.int .i64 p0.W), (.int .i64 p0.H), (.int .i64 p0.Rail), (.int .i64 p0.Gap), (.slice Ap0_0 (p0.Kinds).length cp0_0), (.slice Ap0_1 (p0.Slots).length cp0_1), (.slice Ap0_2 (p0.Marks).length cp0_2)]) (wn rfl) rfl rfl rfl fun b100 => ?_
  refine Tr.val (wn rfl) rfl (fun _ _ h1 h2 => run_assign (h1.ev rfl)) ?_
  refine Tr.val (wn rfl) rfl (fun _ _ h1 h2 => run_assign (h1.ev rfl)) ?_
  refine Tr.val (wn rfl) rfl (fun _ _ h1 h2 => run_assign (h1.ev rfl)) ?_
  refine Tr.nil (Tr.normThen ?_)
  refine Tr.seq ?_
  refine Tr.seq ?_
  refine Tr.region ?_
  refine Tr.val (wn rfl) rfl (fun _ _ h1 h2 => run_loadN (cs := [(.int .i64 p0.W), (.int .i64 p0.H), (.int .i64 p0.Rail), (.int .i64 p0.Gap), (.slice Ap0_0 (p0.Kinds).length cp0_0), (.slice Ap0_1 (p0.Slots).length cp0_1), (.slice Ap0_2 (p0.Marks).length cp0_2)]) ag_26 sz_26 (h1.ev rfl) (CellsAt.take (rdb h2 (vs := [(.int .i64 p0.W), (.int .i64 p0.H), (.int .i64 p0.Rail), (.int .i64 p0.Gap), (.slice Ap0_0 (p0.Kinds).length cp0_0), (.slice Ap0_1 (p0.Slots).length cp0_1), (.slice Ap0_2 (p0.Marks).length cp0_2)]) (k := 1) rfl 0) 7) rfl) ?_
  obtain ⟨y101, hy101, H⟩ := bnd H
  refine Tr.call0 (r := (.int .i64 y101)) (wn rfl) rfl Try.call31 (evl_cons rfl evl_nil) (fun W hW => F_panel_CheckPanel_ok N p0 Ap0_0 cp0_0 (hp0_0.ext hW.extAll) Ap0_1 cp0_1 (hp0_1.ext hW.extAll) Ap0_2 cp0_2 (hp0_2.ext hW.extAll) y101 hy101 (HF.start _)) ?_
  refine Tr.val (wn rfl) rfl (fun _ _ h1 h2 => run_assign (h1.ev rfl)) ?_
  refine Tr.nil (Tr.normThen ?_)
  refine Tr.seq ?_
  refine Tr.region ?_
  refine Tr.val (wn rfl) rfl (fun _ _ h1 h2 => run_move (h1.ev rfl)) ?_
  refine Tr.val (wn rfl) rfl (fun _ _ h1 h2 => run_neq (h1.ev rfl) (h1.ev rfl)) ?_
  refine Tr.nil (Tr.normThen ?_)
  refine Tr.cond rfl H (fun H => ?_) (fun H => ?_)
  · refine Tr.seq ?_
    refine Tr.region ?_
    refine Tr.val (wn rfl) rfl (fun _ _ h1 h2 => run_move (h1.ev rfl)) ?_
    refine Tr.val (wn rfl) rfl (fun _ _ h1 h2 => run_assign (h1.ev rfl)) ?_
    refine Tr.val (wn rfl) rfl (fun _ _ h1 h2 => run_assign (h1.ev rfl)) ?_
    refine Tr.val (wn rfl) rfl (fun _ _ h1 h2 => run_assign (h1.ev rfl)) ?_
    refine Tr.nil (Tr.normThen ?_)
    refine Tr.ret (Tr.retThen ?_)
    obtain rfl := Option.some.inj H
    exact Tr.out (m := [(.int .i64 0), (.int .i64 0), (.int .i64 y101)]) [] (res_tmp rfl (res_tmp rfl (res_tmp rfl res_nil))) (fun W hW => ⟨rfl, hW.low leB⟩)
  · refine Tr.skip (Tr.normThen ?_)
    refine Tr.seq ?_
    refine Tr.seq ?_
    refine Tr.region ?_
    refine Tr.val (wn rfl) rfl (fun _ _ h1 h2 => run_loadN (cs := [(.int .i64 p0.W), (.int .i64 p0.H), (.int .i64 p0.Rail), (.int .i64 p0.Gap), (.slice Ap0_0 (p0.Kinds).length cp0_0), (.slice Ap0_1 (p0.Slots).length cp0_1), (.slice Ap0_2 (p0.Marks).length cp0_2)]) ag_26 sz_26 (h1.ev rfl) (CellsAt.take (rdb h2 (vs := [(.int .i64 p0.W), (.int .i64 p0.H), (.int .i64 p0.Rail), (.int .i64 p0.Gap), (.slice Ap0_0 (p0.Kinds).length cp0_0), (.slice Ap0_1 (p0.Slots).length cp0_1), (.slice Ap0_2 (p0.Marks).length cp0_2)]) (k := 1) rfl 0) 7) rfl) ?_
    refine Tr.val (wn rfl) rfl (fun _ _ h1 h2 => run_move (h1.ev rfl)) ?_
    obtain ⟨y102, hy102, H⟩ := bnd H
    refine Tr.call0 (r := (.int .i64 y102)) (wn rfl) rfl Try.call45 (evl_cons rfl (evl_cons rfl evl_nil)) (fun W hW => F_panel_kindAt_ok p0 Ap0_0 cp0_0 (hp0_0.ext hW.extAll) Ap0_1 cp0_1 (hp0_1.ext hW.extAll) Ap0_2 cp0_2 (hp0_2.ext hW.extAll) p1 y102 hy102 (HF.start _)) ?_
    refine Tr.val (wn rfl) rfl (fun _ _ h1 h2 => run_lss (h1.ev rfl) (h1.ev rfl)) ?_
    refine Tr.nil (Tr.normThen ?_)
    refine Tr.cond rfl H (fun H => ?_) (fun H => ?_)
    · refine Tr.seq ?_
      refine Tr.region ?_
      refine Tr.val (wn rfl) rfl (fun _ _ h1 h2 => run_assign (h1.ev rfl)) ?_
      refine Tr.val (wn rfl) rfl (fun _ _ h1 h2 => run_assign (h1.ev rfl)) ?_
      refine Tr.val (wn rfl) rfl (fun _ _ h1 h2 => run_assign (h1.ev rfl)) ?_
      refine Tr.nil (Tr.normThen ?_)
      refine Tr.ret (Tr.retThen ?_)
      obtain rfl := Option.some.inj H
      exact Tr.out (m := [(.int .i64 0), (.int .i64 0), (.int .i64 9)]) [] (res_tmp rfl (res_tmp rfl (res_tmp rfl res_nil))) (fun W hW => ⟨rfl, hW.low leB⟩)
    · refine Tr.skip (Tr.normThen ?_)
      refine Tr.seq ?_
      refine Tr.seq ?_
      refine Tr.region ?_
      refine Tr.val (wn rfl) rfl (fun _ _ h1 h2 => run_move (h1.ev rfl)) ?_
      obtain ⟨y103, hy103, H⟩ := bnd H
      refine Tr.call0 (r := (.bool y103)) (wn rfl) rfl Try.call46 (evl_cons rfl (evl_cons rfl (evl_cons rfl evl_nil))) (fun W hW => F_panel_within_ok p2 0 1000000 y103 hy103 (HF.start _)) ?_
      refine Tr.val (wn rfl) rfl (fun _ _ h1 h2 => run_not (h1.ev rfl)) ?_
      refine Tr.nil (Tr.normThen ?_)
      refine Tr.cond rfl H (fun H => ?_) (fun H => ?_)
      · refine Tr.seq ?_
        refine Tr.region ?_
        refine Tr.val (wn rfl) rfl (fun _ _ h1 h2 => run_assign (h1.ev rfl)) ?_
        refine Tr.val (wn rfl) rfl (fun _ _ h1 h2 => run_assign (h1.ev rfl)) ?_
        refine Tr.val (wn rfl) rfl (fun _ _ h1 h2 => run_assign (h1.ev rfl)) ?_
        refine Tr.nil (Tr.normThen ?_)
        refine Tr.ret (Tr.retThen ?_)
        obtain rfl := Option.some.inj H
        exact Tr.out (m := [(.int .i64 0), (.int .i64 0), (.int .i64 1)]) [] (res_tmp rfl (res_tmp rfl (res_tmp rfl res_nil))) (fun W hW => ⟨rfl, hW.low leB⟩)
      · refine Tr.skip (Tr.normThen ?_)
        refine Tr.seq ?_
        refine Tr.region ?_
        refine Tr.val (wn rfl) rfl (fun _ _ h1 h2 => run_assign (h1.ev rfl)) ?_
        refine Tr.nil (Tr.normThen ?_)
        refine Tr.seq ?_
        refine Tr.seq ?_
        refine Tr.region ?_
        refine Tr.val (wn rfl) rfl (fun _ _ h1 h2 => run_fieldAddr fo_26_5 (h1.ev rfl)) ?_
        refine Tr.val (wn rfl) rfl (fun _ _ h1 h2 => run_load1 ag_23 (h1.ev rfl) (rdb h2 (vs := [(.int .i64 p0.W), (.int .i64 p0.H), (.int .i64 p0.Rail), (.int .i64 p0.Gap), (.slice Ap0_0 (p0.Kinds).length cp0_0), (.slice Ap0_1 (p0.Slots).length cp0_1), (.slice Ap0_2 (p0.Marks).length cp0_2)]) (k := 1) rfl 5) rfl) ?_
        refine Tr.val (wn rfl) rfl (fun _ _ h1 h2 => run_len un_23 (h1.ev rfl)) ?_
        refine Tr.val (wn rfl) rfl (fun _ _ h1 h2 => run_move (h1.ev rfl)) ?_
        refine Tr.nil (Tr.normThen ?_)
        refine Tr.block ?_
        refine Tr.loop (σ := (List TSlot) × Nat × Int) (fun m w s => m = s.1.length + 1 ∧ s.1 = List.drop s.2.1 p0.Slots ∧ s.2.1 ≤ p0.Slots.length ∧ F_panel_Needed_L1 p1 p2 s.1 s.2.1 s.2.2 = some r) (fun s => [(1, (.string p1)), (2, (.int .i64 p2)), (10, (.int .i64 s.2.2)), (27, (.slice Ap0_1 (p0.Slots).length cp0_1)), (28, (.int .i64 (p0.Slots.length : Int))), (29, (.int .i64 (s.2.1 : Int)))]) (fun s => []) (p0.Slots.length + 1) (p0.Slots, 0, 0) ⟨rfl, rfl, Nat.zero_le _, H⟩ (.cons rfl (.cons rfl (.cons rfl (.cons rfl (.cons rfl (.cons rfl .nil)))))) .nil (fun _ _ h => absurd h.1 (by simp)) ?_
        intro w leF_panel_Needed_L1 m s hs
        obtain ⟨restF_panel_Needed_L1, iF_panel_Needed_L1, x114⟩ := s
        obtain ⟨hmF_panel_Needed_L1, hdF_panel_Needed_L1, hiF_panel_Needed_L1, H⟩ := hs
        replace hdF_panel_Needed_L1 : restF_panel_Needed_L1 = List.drop iF_panel_Needed_L1 p0.Slots := hdF_panel_Needed_L1
        replace H : F_panel_Needed_L1 p1 p2 restF_panel_Needed_L1 iF_panel_Needed_L1 x114 = some r := H
        replace hmF_panel_Needed_L1 : m + 1 = restF_panel_Needed_L1.length + 1 := hmF_panel_Needed_L1
        replace hp0_1 := hp0_1.leR leF_panel_Needed_L1
        replace leB := leB.trans leF_panel_Needed_L1
        obtain rfl : m = restF_panel_Needed_L1.length := by omega
        clear hmF_panel_Needed_L1
        show Tr _ _ (LF [(1, (.string p1)), (2, (.int .i64 p2)), (10, (.int .i64 x114)), (27, (.slice Ap0_1 (p0.Slots).length cp0_1)), (28, (.int .i64 (p0.Slots.length : Int))), (29, (.int .i64 (iF_panel_Needed_L1 : Int)))]) (LE []) _
        cases restF_panel_Needed_L1 with
        | nil =>
          rw [F_panel_Needed_L1.eq_1] at H
          refine Tr.seq ?_
          refine Tr.region ?_
          refine Tr.val (wn rfl) rfl (fun _ _ h1 h2 => run_lss (h1.ev rfl) (h1.ev rfl)) ?_
          refine Tr.nil (Tr.normThen ?_)
          refine Tr.seq ?_
          refine Tr.condF rfl (range_nil hdF_panel_Needed_L1) ?_
          refine Tr.exit (Tr.exitThen (Tr.exitThen (Tr.exitBlock (Tr.normThen ?_))))
          refine Tr.seq ?_
          refine Tr.seq ?_
          refine Tr.region ?_
          refine Tr.val (wn rfl) rfl (fun _ _ h1 h2 => run_move (h1.ev rfl)) ?_
          refine Tr.val (wn rfl) rfl (fun _ _ h1 h2 => run_eql (h1.ev rfl) (h1.ev rfl)) ?_
          refine Tr.nil (Tr.normThen ?_)
          refine Tr.cond rfl H (fun H => ?_) (fun H => ?_)
          · refine Tr.seq ?_
            refine Tr.region ?_
            refine Tr.val (wn rfl) rfl (fun _ _ h1 h2 => run_assign (h1.ev rfl)) ?_
            refine Tr.val (wn rfl) rfl (fun _ _ h1 h2 => run_assign (h1.ev rfl)) ?_
            refine Tr.val (wn rfl) rfl (fun _ _ h1 h2 => run_assign (h1.ev rfl)) ?_
            refine Tr.nil (Tr.normThen ?_)
            refine Tr.ret (Tr.retThen ?_)
            obtain rfl := Option.some.inj H
            exact Tr.out (m := [(.int .i64 0), (.int .i64 0), (.int .i64 13)]) [] (res_tmp rfl (res_tmp rfl (res_tmp rfl res_nil))) (fun W hW => ⟨rfl, hW.low leB⟩)
          · refine Tr.skip (Tr.normThen ?_)
            refine Tr.seq ?_
            refine Tr.region ?_
            refine Tr.val (wn rfl) rfl (fun _ _ h1 h2 => run_move (h1.ev rfl)) ?_
            refine Tr.val (wn rfl) rfl (fun _ _ h1 h2 => run_move (h1.ev rfl)) ?_
            refine Tr.val (wn rfl) rfl (fun _ _ h1 h2 => run_add (h1.ev rfl) (h1.ev rfl)) ?_
            refine Tr.val (wn rfl) rfl (fun _ _ h1 h2 => run_sub (h1.ev rfl) (h1.ev rfl)) ?_
            refine Tr.val (wn rfl) rfl (fun _ _ h1 h2 => run_move (h1.ev rfl)) ?_
            obtain ⟨q115, hq115, H⟩ := bnd H
            refine Tr.val (wn rfl) rfl (fun _ _ h1 h2 => run_dv (h1.ev rfl) (h1.ev rfl) hq115) ?_
            refine Tr.val (wn rfl) rfl (fun _ _ h1 h2 => run_assign (h1.ev rfl)) ?_
            refine Tr.nil (Tr.normThen ?_)
            refine Tr.seq ?_
            refine Tr.region ?_
            refine Tr.val (wn rfl) rfl (fun _ _ h1 h2 => run_move (h1.ev rfl)) ?_
            refine Tr.val (wn rfl) rfl (fun _ _ h1 h2 => run_move (h1.ev rfl)) ?_
            refine Tr.val (wn rfl) rfl (fun _ _ h1 h2 => run_move (h1.ev rfl)) ?_
            refine Tr.val (wn rfl) rfl (fun _ _ h1 h2 => run_mul (h1.ev rfl) (h1.ev rfl)) ?_
            refine Tr.val (wn rfl) rfl (fun _ _ h1 h2 => run_move (h1.ev rfl)) ?_
            refine Tr.val (wn rfl) rfl (fun _ _ h1 h2 => run_sub (h1.ev rfl) (h1.ev rfl)) ?_
            refine Tr.val (wn rfl) rfl (fun _ _ h1 h2 => run_assign (h1.ev rfl)) ?_
            refine Tr.val (wn rfl) rfl (fun _ _ h1 h2 => run_assign (h1.ev rfl)) ?_
            refine Tr.val (wn rfl) rfl (fun _ _ h1 h2 => run_assign (h1.ev rfl)) ?_
            refine Tr.nil (Tr.normThen ?_)
            refine Tr.ret ?_
            obtain rfl := Option.some.inj H
            exact Tr.out (m := [(.int .i64 q115), (.int .i64 (w64 ((w64 (q115 * x114)) - p2))), (.int .i64 0)]) [] (res_tmp rfl (res_tmp rfl (res_tmp rfl res_nil))) (fun W hW => ⟨rfl, hW.low leB⟩)
        | cons xF_panel_Needed_L1 restF_panel_Needed_L1 =>
          rw [F_panel_Needed_L1.eq_2] at H
          refine Tr.seq ?_
          refine Tr.region ?_
          refine Tr.val (wn rfl) rfl (fun _ _ h1 h2 => run_lss (h1.ev rfl) (h1.ev rfl)) ?_
          refine Tr.nil (Tr.normThen ?_)
          refine Tr.seq ?_
          refine Tr.condT rfl (range_on hdF_panel_Needed_L1) ?_
          refine Tr.skip (Tr.normThen ?_)
          refine Tr.seq ?_
          refine Tr.block ?_
          refine Tr.seq ?_
          refine Tr.region ?_
          refine Tr.val (wn rfl) rfl (fun _ _ h1 h2 => run_indexAddr el_23 (h1.ev rfl) hp0_1.form (h1.ev rfl) (Int.natCast_nonneg _) (range_lt hdF_panel_Needed_L1)) ?_
          refine Tr.val (wn rfl) rfl (fun _ _ h1 h2 => run_loadN (cs := [(.string xF_panel_Needed_L1.Board), (.int .i64 xF_panel_Needed_L1.Quarters), (.int .i64 xF_panel_Needed_L1.At.X), (.int .i64 xF_panel_Needed_L1.At.Y)]) ag_34 sz_34 (h1.ev rfl) (CellsAt.take (rdF ef_TSlot hp0_1 (range_at hdF_panel_Needed_L1) h2) 4) rfl) ?_
          refine Tr.alloc 4 (wn rfl) rfl ze_34 fun b116 => ?_
          refine Tr.store 4 (cs := [(.string xF_panel_Needed_L1.Board), (.int .i64 xF_panel_Needed_L1.Quarters), (.int .i64 xF_panel_Needed_L1.At.X), (.int .i64 xF_panel_Needed_L1.At.Y)]) [(.string xF_panel_Needed_L1.Board), (.int .i64 xF_panel_Needed_L1.Quarters), (.int .i64 xF_panel_Needed_L1.At.X), (.int .i64 xF_panel_Needed_L1.At.Y)] (wn rfl) rfl rfl rfl rfl sz_34 rfl rfl rfl ?_
          refine Tr.nil (Tr.normThen ?_)
          refine Tr.seq ?_
          refine Tr.region ?_
          refine Tr.val (wn rfl) rfl (fun _ _ h1 h2 => run_fieldAddr fo_34_0 (h1.ev rfl)) ?_
          refine Tr.val (wn rfl) rfl (fun _ _ h1 h2 => run_load1 ag_9 (h1.ev rfl) (rdb h2 (vs := [(.string xF_panel_Needed_L1.Board), (.int .i64 xF_panel_Needed_L1.Quarters), (.int .i64 xF_panel_Needed_L1.At.X), (.int .i64 xF_panel_Needed_L1.At.Y)]) (k := 4) rfl 0) rfl) ?_
          refine Tr.val (wn rfl) rfl (fun _ _ h1 h2 => run_move (h1.ev rfl)) ?_
          refine Tr.val (wn rfl) rfl (fun _ _ h1 h2 => run_eqlS (h1.ev rfl) (h1.ev rfl)) ?_
          refine Tr.nil (Tr.normThen ?_)
          refine Tr.cond rfl H (fun H => ?_) (fun H => ?_)
          · refine Tr.region ?_
            refine Tr.val (wn rfl) rfl (fun _ _ h1 h2 => run_move (h1.ev rfl)) ?_
            refine Tr.val (wn rfl) rfl (fun _ _ h1 h2 => run_add (h1.ev rfl) (h1.ev rfl)) ?_
            refine Tr.val (wn rfl) rfl (fun _ _ h1 h2 => run_assign (h1.ev rfl)) ?_
            refine Tr.nil (Tr.normBlock (Tr.normThen ?_))
            refine Tr.region ?_
            refine Tr.val (wn rfl) rfl (fun _ _ h1 h2 => run_add (h1.ev rfl) (h1.ev rfl)) ?_
            refine Tr.val (wn rfl) rfl (fun _ _ h1 h2 => run_move (h1.ev rfl)) ?_
            refine Tr.nil ?_
            exact Tr.backThen leF_panel_Needed_L1 (restF_panel_Needed_L1, (iF_panel_Needed_L1 + 1), (w64 (x114 + 1))) ⟨rfl, range_tl hdF_panel_Needed_L1, range_lt hdF_panel_Needed_L1, H⟩ (.cons rfl (.cons rfl (.cons rfl (.cons rfl (.cons rfl (.cons (congrArg (fun z => some (Value.int .i64 z)) (range_up hdF_panel_Needed_L1 hp0_1.form)) .nil)))))) .nil
          · refine Tr.skip (Tr.normBlock (Tr.normThen ?_))
            refine Tr.region ?_
            refine Tr.val (wn rfl) rfl (fun _ _ h1 h2 => run_add (h1.ev rfl) (h1.ev rfl)) ?_
            refine Tr.val (wn rfl) rfl (fun _ _ h1 h2 => run_move (h1.ev rfl)) ?_
            refine Tr.nil ?_
            exact Tr.backThen leF_panel_Needed_L1 (restF_panel_Needed_L1, (iF_panel_Needed_L1 + 1), x114) ⟨rfl, range_tl hdF_panel_Needed_L1, range_lt hdF_panel_Needed_L1, H⟩ (.cons rfl (.cons rfl (.cons rfl (.cons rfl (.cons rfl (.cons (congrArg (fun z => some (Value.int .i64 z)) (range_up hdF_panel_Needed_L1 hp0_1.form)) .nil)))))) .nil

theorem F_etchhouseref9_Needed_ok (N : Nat) {w : Bs} (p0 : TPanel) (Ap0_0 : Option Addr) (cp0_0 : Nat) (hp0_0 : Sl w.R w.W fl_TBoardKind Ap0_0 cp0_0 p0.Kinds) (Ap0_1 : Option Addr) (cp0_1 : Nat) (hp0_1 : Sl w.R w.W fl_TSlot Ap0_1 cp0_1 p0.Slots) (Ap0_2 : Option Addr) (cp0_2 : Nat) (hp0_2 : Sl w.R w.W fl_TPoint Ap0_2 cp0_2 p0.Marks) (p1 : ByteArray) (p2 : Int) (r : (Int × Int × Int)) (H : F_etchhouseref9_Needed N p0 p1 p2 = some r) (hE : HF w w.W E0) : Calls Try.prog 35 [(.agg #[(.int .i64 p0.W), (.int .i64 p0.H), (.int .i64 p0.Rail), (.int .i64 p0.Gap), (.slice Ap0_0 (p0.Kinds).length cp0_0), (.slice Ap0_1 (p0.Slots).length cp0_1), (.slice Ap0_2 (p0.Marks).length cp0_2)]), (.string p1), (.int .i64 p2)].toArray w.W fun e W' => e = .returned (.tuple #[(.int .i64 r.1), (.int .i64 r.2.1), (.int .i64 r.2.2)]) ∧ HF w W' E0 := by
  unfold F_etchhouseref9_Needed at H
  have leB := Bs.Le.refl w
  refine Tr.enter (n := 56) Try.func35 rfl rfl rfl hE ?_
  refine Tr.seq ?_
  refine Tr.region ?_
  refine Tr.box 1 (cs := [(.int .i64 p0.W), (.int .i64 p0.H), (.int .i64 p0.Rail), (.int .i64 p0.Gap), (.slice Ap0_0 (p0.Kinds).length cp0_0), (.slice Ap0_1 (p0.Slots).length cp0_1), (.slice Ap0_2 (p0.Marks).length cp0_2)]) (wn rfl) rfl rfl rfl fun b100 => ?_
  refine Tr.val (wn rfl) rfl (fun _ _ h1 h2 => run_assign (h1.ev rfl)) ?_
  refine Tr.val (wn rfl) rfl (fun _ _ h1 h2 => run_assign (h1.ev rfl)) ?_
  refine Tr.val (wn rfl) rfl (fun _ _ h1 h2 => run_assign (h1.ev rfl)) ?_
  refine Tr.nil (Tr.normThen ?_)
  refine Tr.seq ?_
  refine Tr.seq ?_
  refine Tr.region ?_
  refine Tr.val (wn rfl) rfl (fun _ _ h1 h2 => run_loadN (cs := [(.int .i64 p0.W), (.int .i64 p0.H), (.int .i64 p0.Rail), (.int .i64 p0.Gap), (.slice Ap0_0 (p0.Kinds).length cp0_0), (.slice Ap0_1 (p0.Slots).length cp0_1), (.slice Ap0_2 (p0.Marks).length cp0_2)]) ag_26 sz_26 (h1.ev rfl) (CellsAt.take (rdb h2 (vs := [(.int .i64 p0.W), (.int .i64 p0.H), (.int .i64 p0.Rail), (.int .i64 p0.Gap), (.slice Ap0_0 (p0.Kinds).length cp0_0), (.slice Ap0_1 (p0.Slots).length cp0_1), (.slice Ap0_2 (p0.Marks).length cp0_2)]) (k := 1) rfl 0) 7) rfl) ?_
  obtain ⟨y101, hy101, H⟩ := bnd H
  refine Tr.call0 (r := (.int .i64 y101)) (wn rfl) rfl Try.call39 (evl_cons rfl evl_nil) (fun W hW => F_etchhouseref9_CheckPanel_ok N p0 Ap0_0 cp0_0 (hp0_0.ext hW.extAll) Ap0_1 cp0_1 (hp0_1.ext hW.extAll) Ap0_2 cp0_2 (hp0_2.ext hW.extAll) y101 hy101 (HF.start _)) ?_
  refine Tr.val (wn rfl) rfl (fun _ _ h1 h2 => run_assign (h1.ev rfl)) ?_
  refine Tr.nil (Tr.normThen ?_)
  refine Tr.seq ?_
  refine Tr.region ?_
  refine Tr.val (wn rfl) rfl (fun _ _ h1 h2 => run_move (h1.ev rfl)) ?_
  refine Tr.val (wn rfl) rfl (fun _ _ h1 h2 => run_neq (h1.ev rfl) (h1.ev rfl)) ?_
  refine Tr.nil (Tr.normThen ?_)
  refine Tr.cond rfl H (fun H => ?_) (fun H => ?_)
  · refine Tr.seq ?_
    refine Tr.region ?_
    refine Tr.val (wn rfl) rfl (fun _ _ h1 h2 => run_move (h1.ev rfl)) ?_
    refine Tr.val (wn rfl) rfl (fun _ _ h1 h2 => run_assign (h1.ev rfl)) ?_
    refine Tr.val (wn rfl) rfl (fun _ _ h1 h2 => run_assign (h1.ev rfl)) ?_
    refine Tr.val (wn rfl) rfl (fun _ _ h1 h2 => run_assign (h1.ev rfl)) ?_
    refine Tr.nil (Tr.normThen ?_)
    refine Tr.ret (Tr.retThen ?_)
    obtain rfl := Option.some.inj H
    exact Tr.out (m := [(.int .i64 0), (.int .i64 0), (.int .i64 y101)]) [] (res_tmp rfl (res_tmp rfl (res_tmp rfl res_nil))) (fun W hW => ⟨rfl, hW.low leB⟩)
  · refine Tr.skip (Tr.normThen ?_)
    refine Tr.seq ?_
    refine Tr.seq ?_
    refine Tr.region ?_
    refine Tr.val (wn rfl) rfl (fun _ _ h1 h2 => run_loadN (cs := [(.int .i64 p0.W), (.int .i64 p0.H), (.int .i64 p0.Rail), (.int .i64 p0.Gap), (.slice Ap0_0 (p0.Kinds).length cp0_0), (.slice Ap0_1 (p0.Slots).length cp0_1), (.slice Ap0_2 (p0.Marks).length cp0_2)]) ag_26 sz_26 (h1.ev rfl) (CellsAt.take (rdb h2 (vs := [(.int .i64 p0.W), (.int .i64 p0.H), (.int .i64 p0.Rail), (.int .i64 p0.Gap), (.slice Ap0_0 (p0.Kinds).length cp0_0), (.slice Ap0_1 (p0.Slots).length cp0_1), (.slice Ap0_2 (p0.Marks).length cp0_2)]) (k := 1) rfl 0) 7) rfl) ?_
    refine Tr.val (wn rfl) rfl (fun _ _ h1 h2 => run_move (h1.ev rfl)) ?_
    obtain ⟨y102, hy102, H⟩ := bnd H
    refine Tr.call0 (r := (.int .i64 y102)) (wn rfl) rfl Try.call55 (evl_cons rfl (evl_cons rfl evl_nil)) (fun W hW => F_etchhouseref9_kind_ok N p0 Ap0_0 cp0_0 (hp0_0.ext hW.extAll) Ap0_1 cp0_1 (hp0_1.ext hW.extAll) Ap0_2 cp0_2 (hp0_2.ext hW.extAll) p1 y102 hy102 (HF.start _)) ?_
    refine Tr.val (wn rfl) rfl (fun _ _ h1 h2 => run_lss (h1.ev rfl) (h1.ev rfl)) ?_
    refine Tr.nil (Tr.normThen ?_)
    refine Tr.cond rfl H (fun H => ?_) (fun H => ?_)
    · refine Tr.seq ?_
      refine Tr.region ?_
      refine Tr.val (wn rfl) rfl (fun _ _ h1 h2 => run_assign (h1.ev rfl)) ?_
      refine Tr.val (wn rfl) rfl (fun _ _ h1 h2 => run_assign (h1.ev rfl)) ?_
      refine Tr.val (wn rfl) rfl (fun _ _ h1 h2 => run_assign (h1.ev rfl)) ?_
      refine Tr.nil (Tr.normThen ?_)
      refine Tr.ret (Tr.retThen ?_)
      obtain rfl := Option.some.inj H
      exact Tr.out (m := [(.int .i64 0), (.int .i64 0), (.int .i64 9)]) [] (res_tmp rfl (res_tmp rfl (res_tmp rfl res_nil))) (fun W hW => ⟨rfl, hW.low leB⟩)
    · refine Tr.skip (Tr.normThen ?_)
      refine Tr.seq ?_
      refine Tr.seq ?_
      refine Tr.region ?_
      refine Tr.val (wn rfl) rfl (fun _ _ h1 h2 => run_move (h1.ev rfl)) ?_
      obtain ⟨y103, hy103, H⟩ := bnd H
      refine Tr.call0 (r := (.bool y103)) (wn rfl) rfl Try.call49 (evl_cons rfl (evl_cons rfl (evl_cons rfl evl_nil))) (fun W hW => F_etchhouseref9_within_ok p2 0 1000000 y103 hy103 (HF.start _)) ?_
      refine Tr.val (wn rfl) rfl (fun _ _ h1 h2 => run_not (h1.ev rfl)) ?_
      refine Tr.nil (Tr.normThen ?_)
      refine Tr.cond rfl H (fun H => ?_) (fun H => ?_)
      · refine Tr.seq ?_
        refine Tr.region ?_
        refine Tr.val (wn rfl) rfl (fun _ _ h1 h2 => run_assign (h1.ev rfl)) ?_
        refine Tr.val (wn rfl) rfl (fun _ _ h1 h2 => run_assign (h1.ev rfl)) ?_
        refine Tr.val (wn rfl) rfl (fun _ _ h1 h2 => run_assign (h1.ev rfl)) ?_
        refine Tr.nil (Tr.normThen ?_)
        refine Tr.ret (Tr.retThen ?_)
        obtain rfl := Option.some.inj H
        exact Tr.out (m := [(.int .i64 0), (.int .i64 0), (.int .i64 1)]) [] (res_tmp rfl (res_tmp rfl (res_tmp rfl res_nil))) (fun W hW => ⟨rfl, hW.low leB⟩)
      · refine Tr.skip (Tr.normThen ?_)
        refine Tr.seq ?_
        refine Tr.region ?_
        refine Tr.val (wn rfl) rfl (fun _ _ h1 h2 => run_assign (h1.ev rfl)) ?_
        refine Tr.nil (Tr.normThen ?_)
        refine Tr.seq ?_
        refine Tr.seq ?_
        refine Tr.region ?_
        refine Tr.val (wn rfl) rfl (fun _ _ h1 h2 => run_assign (h1.ev rfl)) ?_
        refine Tr.nil (Tr.normThen ?_)
        refine Tr.block ?_
        refine Tr.loop (σ := Int × Int) (fun m w s => F_etchhouseref9_Needed_L1 p0 p1 p2 m s.1 s.2 = some r) (fun s => [(1, (.string p1)), (2, (.int .i64 p2)), (3, (.pointer (some ⟨b100, 0, none⟩))), (10, (.int .i64 s.1)), (11, (.int .i64 s.2))]) (fun s => [(1, bx b100 #[(.int .i64 p0.W), (.int .i64 p0.H), (.int .i64 p0.Rail), (.int .i64 p0.Gap), (.slice Ap0_0 (p0.Kinds).length cp0_0), (.slice Ap0_1 (p0.Slots).length cp0_1), (.slice Ap0_2 (p0.Marks).length cp0_2)] 26)]) N (0, 0) H (.cons rfl (.cons rfl (.cons rfl (.cons rfl (.cons rfl .nil))))) (.cons rfl .nil) (fun _ _ h => noSome (h)) ?_
        intro w leF_etchhouseref9_Needed_L1 mF_etchhouseref9_Needed_L1 s hs
        obtain ⟨x112, x113⟩ := s
        have H := hs
        replace H : F_etchhouseref9_Needed_L1 p0 p1 p2 (mF_etchhouseref9_Needed_L1 + 1) x112 x113 = some r := H
        replace hp0_0 := hp0_0.leR leF_etchhouseref9_Needed_L1
        replace hp0_1 := hp0_1.leR leF_etchhouseref9_Needed_L1
        replace hp0_2 := hp0_2.leR leF_etchhouseref9_Needed_L1
        replace leB := leB.trans leF_etchhouseref9_Needed_L1
        rw [F_etchhouseref9_Needed_L1.eq_2] at H
        show Tr _ _ (LF [(1, (.string p1)), (2, (.int .i64 p2)), (3, (.pointer (some ⟨b100, 0, none⟩))), (10, (.int .i64 x112)), (11, (.int .i64 x113))]) (LE [(1, bx b100 #[(.int .i64 p0.W), (.int .i64 p0.H), (.int .i64 p0.Rail), (.int .i64 p0.Gap), (.slice Ap0_0 (p0.Kinds).length cp0_0), (.slice Ap0_1 (p0.Slots).length cp0_1), (.slice Ap0_2 (p0.Marks).length cp0_2)] 26)]) _
        refine Tr.seq ?_
        refine Tr.seq ?_
        refine Tr.region ?_
        refine Tr.val (wn rfl) rfl (fun _ _ h1 h2 => run_move (h1.ev rfl)) ?_
        refine Tr.val (wn rfl) rfl (fun _ _ h1 h2 => run_fieldAddr fo_26_5 (h1.ev rfl)) ?_
        refine Tr.val (wn rfl) rfl (fun _ _ h1 h2 => run_load1 ag_23 (h1.ev rfl) (rdb h2 (vs := [(.int .i64 p0.W), (.int .i64 p0.H), (.int .i64 p0.Rail), (.int .i64 p0.Gap), (.slice Ap0_0 (p0.Kinds).length cp0_0), (.slice Ap0_1 (p0.Slots).length cp0_1), (.slice Ap0_2 (p0.Marks).length cp0_2)]) (k := 1) rfl 5) rfl) ?_
        refine Tr.val (wn rfl) rfl (fun _ _ h1 h2 => run_len un_23 (h1.ev rfl)) ?_
        refine Tr.val (wn rfl) rfl (fun _ _ h1 h2 => run_lss (h1.ev rfl) (h1.ev rfl)) ?_
        refine Tr.nil (Tr.normThen ?_)
        refine Tr.cond rfl H (fun H => ?_) (fun H => ?_)
        · refine Tr.skip (Tr.normThen ?_)
          refine Tr.seq ?_
          refine Tr.block ?_
          refine Tr.seq ?_
          refine Tr.region ?_
          refine Tr.val (wn rfl) rfl (fun _ _ h1 h2 => run_fieldAddr fo_26_5 (h1.ev rfl)) ?_
          refine Tr.val (wn rfl) rfl (fun _ _ h1 h2 => run_load1 ag_23 (h1.ev rfl) (rdb h2 (vs := [(.int .i64 p0.W), (.int .i64 p0.H), (.int .i64 p0.Rail), (.int .i64 p0.Gap), (.slice Ap0_0 (p0.Kinds).length cp0_0), (.slice Ap0_1 (p0.Slots).length cp0_1), (.slice Ap0_2 (p0.Marks).length cp0_2)]) (k := 1) rfl 5) rfl) ?_
          refine Tr.val (wn rfl) rfl (fun _ _ h1 h2 => run_move (h1.ev rfl)) ?_
          obtain ⟨x114, hx114, H⟩ := bnd H
          obtain ⟨hx1140, hx1141, hx1142⟩ := idx_some hx114
          refine Tr.val (wn rfl) rfl (fun _ _ h1 h2 => run_indexAddr el_23 (h1.ev rfl) hp0_1.form (h1.ev rfl) hx1140 hx1141) ?_
          refine Tr.val (wn rfl) rfl (fun _ _ h1 h2 => run_fieldAddr fo_34_0 (h1.ev rfl)) ?_
          refine Tr.val (wn rfl) rfl (fun _ _ h1 h2 => run_load1 ag_9 (h1.ev rfl) (CellsAt.drop (rdF ef_TSlot hp0_1 hx1142 h2) 0) rfl) ?_
          refine Tr.val (wn rfl) rfl (fun _ _ h1 h2 => run_move (h1.ev rfl)) ?_
          refine Tr.val (wn rfl) rfl (fun _ _ h1 h2 => run_eqlS (h1.ev rfl) (h1.ev rfl)) ?_
          refine Tr.nil (Tr.normThen ?_)
          refine Tr.cond rfl H (fun H => ?_) (fun H => ?_)
          · refine Tr.region ?_
            refine Tr.val (wn rfl) rfl (fun _ _ h1 h2 => run_move (h1.ev rfl)) ?_
            refine Tr.val (wn rfl) rfl (fun _ _ h1 h2 => run_add (h1.ev rfl) (h1.ev rfl)) ?_
            refine Tr.val (wn rfl) rfl (fun _ _ h1 h2 => run_assign (h1.ev rfl)) ?_
            refine Tr.nil (Tr.normBlock (Tr.normThen ?_))
            refine Tr.region ?_
            refine Tr.val (wn rfl) rfl (fun _ _ h1 h2 => run_move (h1.ev rfl)) ?_
            refine Tr.val (wn rfl) rfl (fun _ _ h1 h2 => run_add (h1.ev rfl) (h1.ev rfl)) ?_
            refine Tr.val (wn rfl) rfl (fun _ _ h1 h2 => run_assign (h1.ev rfl)) ?_
            refine Tr.nil ?_
            exact Tr.backThen leF_etchhouseref9_Needed_L1 ((w64 (x112 + 1)), (w64 (x113 + 1))) H (.cons rfl (.cons rfl (.cons rfl (.cons rfl (.cons rfl .nil))))) (.cons rfl .nil)
          · refine Tr.skip (Tr.normBlock (Tr.normThen ?_))
            refine Tr.region ?_
            refine Tr.val (wn rfl) rfl (fun _ _ h1 h2 => run_move (h1.ev rfl)) ?_
            refine Tr.val (wn rfl) rfl (fun _ _ h1 h2 => run_add (h1.ev rfl) (h1.ev rfl)) ?_
            refine Tr.val (wn rfl) rfl (fun _ _ h1 h2 => run_assign (h1.ev rfl)) ?_
            refine Tr.nil ?_
            exact Tr.backThen leF_etchhouseref9_Needed_L1 (x112, (w64 (x113 + 1))) H (.cons rfl (.cons rfl (.cons rfl (.cons rfl (.cons rfl .nil))))) (.cons rfl .nil)
        · refine Tr.exit (Tr.exitThen (Tr.exitThen (Tr.exitBlock (Tr.normThen ?_))))
          refine Tr.seq ?_
          refine Tr.seq ?_
          refine Tr.region ?_
          refine Tr.val (wn rfl) rfl (fun _ _ h1 h2 => run_move (h1.ev rfl)) ?_
          refine Tr.val (wn rfl) rfl (fun _ _ h1 h2 => run_eql (h1.ev rfl) (h1.ev rfl)) ?_
          refine Tr.nil (Tr.normThen ?_)
          refine Tr.cond rfl H (fun H => ?_) (fun H => ?_)
          · refine Tr.seq ?_
            refine Tr.region ?_
            refine Tr.val (wn rfl) rfl (fun _ _ h1 h2 => run_assign (h1.ev rfl)) ?_
            refine Tr.val (wn rfl) rfl (fun _ _ h1 h2 => run_assign (h1.ev rfl)) ?_
            refine Tr.val (wn rfl) rfl (fun _ _ h1 h2 => run_assign (h1.ev rfl)) ?_
            refine Tr.nil (Tr.normThen ?_)
            refine Tr.ret (Tr.retThen ?_)
            obtain rfl := Option.some.inj H
            exact Tr.out (m := [(.int .i64 0), (.int .i64 0), (.int .i64 13)]) [] (res_tmp rfl (res_tmp rfl (res_tmp rfl res_nil))) (fun W hW => ⟨rfl, hW.low leB⟩)
          · refine Tr.skip (Tr.normThen ?_)
            refine Tr.seq ?_
            refine Tr.region ?_
            refine Tr.val (wn rfl) rfl (fun _ _ h1 h2 => run_move (h1.ev rfl)) ?_
            refine Tr.val (wn rfl) rfl (fun _ _ h1 h2 => run_move (h1.ev rfl)) ?_
            refine Tr.val (wn rfl) rfl (fun _ _ h1 h2 => run_add (h1.ev rfl) (h1.ev rfl)) ?_
            refine Tr.val (wn rfl) rfl (fun _ _ h1 h2 => run_sub (h1.ev rfl) (h1.ev rfl)) ?_
            refine Tr.val (wn rfl) rfl (fun _ _ h1 h2 => run_move (h1.ev rfl)) ?_
            obtain ⟨q115, hq115, H⟩ := bnd H
            refine Tr.val (wn rfl) rfl (fun _ _ h1 h2 => run_dv (h1.ev rfl) (h1.ev rfl) hq115) ?_
            refine Tr.val (wn rfl) rfl (fun _ _ h1 h2 => run_assign (h1.ev rfl)) ?_
            refine Tr.nil (Tr.normThen ?_)
            refine Tr.seq ?_
            refine Tr.region ?_
            refine Tr.val (wn rfl) rfl (fun _ _ h1 h2 => run_move (h1.ev rfl)) ?_
            refine Tr.val (wn rfl) rfl (fun _ _ h1 h2 => run_move (h1.ev rfl)) ?_
            refine Tr.val (wn rfl) rfl (fun _ _ h1 h2 => run_move (h1.ev rfl)) ?_
            refine Tr.val (wn rfl) rfl (fun _ _ h1 h2 => run_mul (h1.ev rfl) (h1.ev rfl)) ?_
            refine Tr.val (wn rfl) rfl (fun _ _ h1 h2 => run_move (h1.ev rfl)) ?_
            refine Tr.val (wn rfl) rfl (fun _ _ h1 h2 => run_sub (h1.ev rfl) (h1.ev rfl)) ?_
            refine Tr.val (wn rfl) rfl (fun _ _ h1 h2 => run_assign (h1.ev rfl)) ?_
            refine Tr.val (wn rfl) rfl (fun _ _ h1 h2 => run_assign (h1.ev rfl)) ?_
            refine Tr.val (wn rfl) rfl (fun _ _ h1 h2 => run_assign (h1.ev rfl)) ?_
            refine Tr.nil (Tr.normThen ?_)
            refine Tr.ret ?_
            obtain rfl := Option.some.inj H
            exact Tr.out (m := [(.int .i64 q115), (.int .i64 (w64 ((w64 (q115 * x112)) - p2))), (.int .i64 0)]) [] (res_tmp rfl (res_tmp rfl (res_tmp rfl res_nil))) (fun W hW => ⟨rfl, hW.low leB⟩)

theorem F_etchhouselaw9_PanelAddedMatchSpec_ok (N : Nat) {w : Bs} (p0 : TPanel) (Ap0_0 : Option Addr) (cp0_0 : Nat) (hp0_0 : Sl w.O w.W fl_TBoardKind Ap0_0 cp0_0 p0.Kinds) (Ap0_1 : Option Addr) (cp0_1 : Nat) (hp0_1 : Sl w.O w.W fl_TSlot Ap0_1 cp0_1 p0.Slots) (Ap0_2 : Option Addr) (cp0_2 : Nat) (hp0_2 : Sl w.O w.W fl_TPoint Ap0_2 cp0_2 p0.Marks) (p1 : ByteArray) (p2 : Int) (r : Bool) (H : F_etchhouselaw9_PanelAddedMatchSpec N p0 p1 p2 = some r) (hE : HF w w.W E0) : Calls Try.prog 11 [(.agg #[(.int .i64 p0.W), (.int .i64 p0.H), (.int .i64 p0.Rail), (.int .i64 p0.Gap), (.slice Ap0_0 (p0.Kinds).length cp0_0), (.slice Ap0_1 (p0.Slots).length cp0_1), (.slice Ap0_2 (p0.Marks).length cp0_2)]), (.string p1), (.int .i64 p2)].toArray w.W fun e W' => e = .returned (.bool r) ∧ HF w W' E0 := by
  unfold F_etchhouselaw9_PanelAddedMatchSpec at H
  have leB := Bs.Le.refl w
  refine Tr.enter (n := 80) Try.func11 rfl rfl rfl hE ?_
  refine Tr.seq ?_
  refine Tr.region ?_
  refine Tr.box 1 (cs := [(.int .i64 p0.W), (.int .i64 p0.H), (.int .i64 p0.Rail), (.int .i64 p0.Gap), (.slice Ap0_0 (p0.Kinds).length cp0_0), (.slice Ap0_1 (p0.Slots).length cp0_1), (.slice Ap0_2 (p0.Marks).length cp0_2)]) (wn rfl) rfl rfl rfl fun b100 => ?_
  refine Tr.val (wn rfl) rfl (fun _ _ h1 h2 => run_assign (h1.ev rfl)) ?_
  refine Tr.nil (Tr.normThen ?_)
  refine Tr.seq ?_
  refine Tr.region ?_
  refine Tr.val (wn rfl) rfl (fun _ _ h1 h2 => run_loadN (cs := [(.int .i64 p0.W), (.int .i64 p0.H), (.int .i64 p0.Rail), (.int .i64 p0.Gap), (.slice Ap0_0 (p0.Kinds).length cp0_0), (.slice Ap0_1 (p0.Slots).length cp0_1), (.slice Ap0_2 (p0.Marks).length cp0_2)]) ag_26 sz_26 (h1.ev rfl) (CellsAt.take (rdb h2 (vs := [(.int .i64 p0.W), (.int .i64 p0.H), (.int .i64 p0.Rail), (.int .i64 p0.Gap), (.slice Ap0_0 (p0.Kinds).length cp0_0), (.slice Ap0_1 (p0.Slots).length cp0_1), (.slice Ap0_2 (p0.Marks).length cp0_2)]) (k := 1) rfl 0) 7) rfl) ?_
  refine Tr.val (wn rfl) rfl (fun _ _ h1 h2 => run_move (h1.ev rfl)) ?_
  obtain ⟨y101, hy101, H⟩ := bnd H
  refine Tr.callG [2, 3] [emp, emp] (U := (Option Addr × Nat) × (Option Addr × Nat) × (Option Addr × Nat)) (fun u => (.tuple #[(.agg #[(.int .i64 y101.1.W), (.int .i64 y101.1.H), (.int .i64 y101.1.Rail), (.int .i64 y101.1.Gap), (.slice u.1.1 (y101.1.Kinds).length u.1.2), (.slice u.2.1.1 (y101.1.Slots).length u.2.1.2), (.slice u.2.2.1 (y101.1.Marks).length u.2.2.2)]), (.bool y101.2.1), (.int .i64 y101.2.2)])) (fun O W u => SlF u.1.1 (y101.1.Kinds).length u.1.2 ∧ Sl O W fl_TSlot u.2.1.1 u.2.1.2 y101.1.Slots ∧ SlF u.2.2.1 (y101.1.Marks).length u.2.2.2) (fun u => [ow u.1.1 u.1.2 82 fl_TBoardKind y101.1.Kinds, ow u.2.2.1 u.2.2.2 32 fl_TPoint y101.1.Marks]) rfl (pk_cons rfl (pk_cons rfl pk_nil)) (fun _ => rfl) (wn rfl) rfl Try.call32 (evl_cons rfl (evl_cons rfl evl_nil)) (fun W hW hp hE => F_panel_Added_ok N p0 Ap0_0 cp0_0 (hp0_0.rl.ext (hW.extS hp)) Ap0_1 cp0_1 (hp0_1.rl.ext (hW.extS hp)) Ap0_2 cp0_2 (hp0_2.rl.ext (hW.extS hp)) p1 y101 hy101 hE) ?_
  intro w u le102 hu
  obtain ⟨⟨Ay101_0, cy101_0⟩, ⟨Ay101_1, cy101_1⟩, ⟨Ay101_2, cy101_2⟩⟩ := u
  obtain ⟨gy101_0, gy101_1, gy101_2⟩ := hu
  replace hp0_0 := hp0_0.le le102
  replace hp0_1 := hp0_1.le le102
  replace hp0_2 := hp0_2.le le102
  replace leB := leB.trans le102
  have hgy101_0 : SlF Ay101_0 (y101.1.Kinds).length cy101_0 := gy101_0 --@phi
  have hgy101_1 : Sl w.O w.W fl_TSlot Ay101_1 cy101_1 y101.1.Slots := gy101_1 --@phi
  have hgy101_2 : SlF Ay101_2 (y101.1.Marks).length cy101_2 := gy101_2 --@phi
  show Tr _ _ (uf _ 22 (.tuple #[(.agg #[(.int .i64 y101.1.W), (.int .i64 y101.1.H), (.int .i64 y101.1.Rail), (.int .i64 y101.1.Gap), (.slice Ay101_0 (y101.1.Kinds).length cy101_0), (.slice Ay101_1 (y101.1.Slots).length cy101_1), (.slice Ay101_2 (y101.1.Marks).length cy101_2)]), (.bool y101.2.1), (.int .i64 y101.2.2)])) (up (up _ 3 (ow Ay101_2 cy101_2 32 fl_TPoint y101.1.Marks)) 2 (ow Ay101_0 cy101_0 82 fl_TBoardKind y101.1.Kinds)) _
  refine Tr.val (wn rfl) rfl (fun _ _ h1 h2 => run_move (h1.ev rfl)) ?_
  refine Tr.val (wn rfl) rfl (fun _ _ h1 h2 => run_extract (h1.ev rfl) rfl) ?_
  refine Tr.val (wn rfl) rfl (fun _ _ h1 h2 => run_extract (h1.ev rfl) rfl) ?_
  refine Tr.val (wn rfl) rfl (fun _ _ h1 h2 => run_extract (h1.ev rfl) rfl) ?_
  refine Tr.alloc 4 (wn rfl) rfl ze_26 fun b103 => ?_
  refine Tr.store 4 (cs := [(.int .i64 y101.1.W), (.int .i64 y101.1.H), (.int .i64 y101.1.Rail), (.int .i64 y101.1.Gap), (.slice Ay101_0 (y101.1.Kinds).length cy101_0), (.slice Ay101_1 (y101.1.Slots).length cy101_1), (.slice Ay101_2 (y101.1.Marks).length cy101_2)]) [(.int .i64 y101.1.W), (.int .i64 y101.1.H), (.int .i64 y101.1.Rail), (.int .i64 y101.1.Gap), (.slice Ay101_0 (y101.1.Kinds).length cy101_0), (.slice Ay101_1 (y101.1.Slots).length cy101_1), (.slice Ay101_2 (y101.1.Marks).length cy101_2)] (wn rfl) rfl rfl rfl rfl sz_26 rfl rfl rfl ?_
  refine Tr.val (wn rfl) rfl (fun _ _ h1 h2 => run_assign (h1.ev rfl)) ?_
  refine Tr.val (wn rfl) rfl (fun _ _ h1 h2 => run_assign (h1.ev rfl)) ?_
  refine Tr.nil (Tr.normThen ?_)
  refine Tr.seq ?_
  refine Tr.region ?_
  refine Tr.val (wn rfl) rfl (fun _ _ h1 h2 => run_loadN (cs := [(.int .i64 p0.W), (.int .i64 p0.H), (.int .i64 p0.Rail), (.int .i64 p0.Gap), (.slice Ap0_0 (p0.Kinds).length cp0_0), (.slice Ap0_1 (p0.Slots).length cp0_1), (.slice Ap0_2 (p0.Marks).length cp0_2)]) ag_26 sz_26 (h1.ev rfl) (CellsAt.take (rdb h2 (vs := [(.int .i64 p0.W), (.int .i64 p0.H), (.int .i64 p0.Rail), (.int .i64 p0.Gap), (.slice Ap0_0 (p0.Kinds).length cp0_0), (.slice Ap0_1 (p0.Slots).length cp0_1), (.slice Ap0_2 (p0.Marks).length cp0_2)]) (k := 1) rfl 0) 7) rfl) ?_
  refine Tr.val (wn rfl) rfl (fun _ _ h1 h2 => run_move (h1.ev rfl)) ?_
  obtain ⟨y104, hy104, H⟩ := bnd H
  refine Tr.callG [] [] (U := (Option Addr × Nat) × (Option Addr × Nat) × (Option Addr × Nat)) (fun u => (.tuple #[(.agg #[(.int .i64 y104.1.W), (.int .i64 y104.1.H), (.int .i64 y104.1.Rail), (.int .i64 y104.1.Gap), (.slice u.1.1 (y104.1.Kinds).length u.1.2), (.slice u.2.1.1 (y104.1.Slots).length u.2.1.2), (.slice u.2.2.1 (y104.1.Marks).length u.2.2.2)]), (.bool y104.2.1), (.int .i64 y104.2.2)])) (fun O W u => Sl O W fl_TBoardKind u.1.1 u.1.2 y104.1.Kinds ∧ Sl O W fl_TSlot u.2.1.1 u.2.1.2 y104.1.Slots ∧ Sl O W fl_TPoint u.2.2.1 u.2.2.2 y104.1.Marks) (fun u => []) rfl pk_nil (fun _ => rfl) (wn rfl) rfl Try.call34 (evl_cons rfl (evl_cons rfl evl_nil)) (fun W hW hp hE => F_etchhouseref9_Added_ok N p0 Ap0_0 cp0_0 (hp0_0.extO (hW.extS hp)) Ap0_1 cp0_1 (hp0_1.extO (hW.extS hp)) Ap0_2 cp0_2 (hp0_2.extO (hW.extS hp)) p1 y104 hy104 hE) ?_
  intro w u le105 hu
  obtain ⟨⟨Ay104_0, cy104_0⟩, ⟨Ay104_1, cy104_1⟩, ⟨Ay104_2, cy104_2⟩⟩ := u
  obtain ⟨gy104_0, gy104_1, gy104_2⟩ := hu
  replace hp0_0 := hp0_0.le le105
  replace hp0_1 := hp0_1.le le105
  replace hp0_2 := hp0_2.le le105
  replace hgy101_1 := hgy101_1.le le105
  replace leB := leB.trans le105
  have hgy104_0 : Sl w.O w.W fl_TBoardKind Ay104_0 cy104_0 y104.1.Kinds := gy104_0 --@phi
  have hgy104_1 : Sl w.O w.W fl_TSlot Ay104_1 cy104_1 y104.1.Slots := gy104_1 --@phi
  have hgy104_2 : Sl w.O w.W fl_TPoint Ay104_2 cy104_2 y104.1.Marks := gy104_2 --@phi
  show Tr _ _ (uf _ 29 (.tuple #[(.agg #[(.int .i64 y104.1.W), (.int .i64 y104.1.H), (.int .i64 y104.1.Rail), (.int .i64 y104.1.Gap), (.slice Ay104_0 (y104.1.Kinds).length cy104_0), (.slice Ay104_1 (y104.1.Slots).length cy104_1), (.slice Ay104_2 (y104.1.Marks).length cy104_2)]), (.bool y104.2.1), (.int .i64 y104.2.2)])) (_) _
  refine Tr.val (wn rfl) rfl (fun _ _ h1 h2 => run_move (h1.ev rfl)) ?_
  refine Tr.val (wn rfl) rfl (fun _ _ h1 h2 => run_extract (h1.ev rfl) rfl) ?_
  refine Tr.val (wn rfl) rfl (fun _ _ h1 h2 => run_extract (h1.ev rfl) rfl) ?_
  refine Tr.val (wn rfl) rfl (fun _ _ h1 h2 => run_extract (h1.ev rfl) rfl) ?_
  refine Tr.alloc 5 (wn rfl) rfl ze_26 fun b106 => ?_
  refine Tr.store 5 (cs := [(.int .i64 y104.1.W), (.int .i64 y104.1.H), (.int .i64 y104.1.Rail), (.int .i64 y104.1.Gap), (.slice Ay104_0 (y104.1.Kinds).length cy104_0), (.slice Ay104_1 (y104.1.Slots).length cy104_1), (.slice Ay104_2 (y104.1.Marks).length cy104_2)]) [(.int .i64 y104.1.W), (.int .i64 y104.1.H), (.int .i64 y104.1.Rail), (.int .i64 y104.1.Gap), (.slice Ay104_0 (y104.1.Kinds).length cy104_0), (.slice Ay104_1 (y104.1.Slots).length cy104_1), (.slice Ay104_2 (y104.1.Marks).length cy104_2)] (wn rfl) rfl rfl rfl rfl sz_26 rfl rfl rfl ?_
  refine Tr.val (wn rfl) rfl (fun _ _ h1 h2 => run_assign (h1.ev rfl)) ?_
  refine Tr.val (wn rfl) rfl (fun _ _ h1 h2 => run_assign (h1.ev rfl)) ?_
  refine Tr.nil (Tr.normThen ?_)
  refine Tr.seq ?_
  refine Tr.region ?_
  refine Tr.val (wn rfl) rfl (fun _ _ h1 h2 => run_loadN (cs := [(.int .i64 p0.W), (.int .i64 p0.H), (.int .i64 p0.Rail), (.int .i64 p0.Gap), (.slice Ap0_0 (p0.Kinds).length cp0_0), (.slice Ap0_1 (p0.Slots).length cp0_1), (.slice Ap0_2 (p0.Marks).length cp0_2)]) ag_26 sz_26 (h1.ev rfl) (CellsAt.take (rdb h2 (vs := [(.int .i64 p0.W), (.int .i64 p0.H), (.int .i64 p0.Rail), (.int .i64 p0.Gap), (.slice Ap0_0 (p0.Kinds).length cp0_0), (.slice Ap0_1 (p0.Slots).length cp0_1), (.slice Ap0_2 (p0.Marks).length cp0_2)]) (k := 1) rfl 0) 7) rfl) ?_
  refine Tr.val (wn rfl) rfl (fun _ _ h1 h2 => run_move (h1.ev rfl)) ?_
  refine Tr.val (wn rfl) rfl (fun _ _ h1 h2 => run_move (h1.ev rfl)) ?_
  obtain ⟨y107, hy107, H⟩ := bnd H
  refine Tr.call0 (r := (.tuple #[(.int .i64 y107.1), (.int .i64 y107.2.1), (.int .i64 y107.2.2)])) (wn rfl) rfl Try.call14 (evl_cons rfl (evl_cons rfl (evl_cons rfl evl_nil))) (fun W hW => F_panel_Needed_ok N p0 Ap0_0 cp0_0 (hp0_0.rl.ext hW.extAll) Ap0_1 cp0_1 (hp0_1.rl.ext hW.extAll) Ap0_2 cp0_2 (hp0_2.rl.ext hW.extAll) p1 p2 y107 hy107 (HF.start _)) ?_
  refine Tr.val (wn rfl) rfl (fun _ _ h1 h2 => run_move (h1.ev rfl)) ?_
  refine Tr.val (wn rfl) rfl (fun _ _ h1 h2 => run_extract (h1.ev rfl) rfl) ?_
  refine Tr.val (wn rfl) rfl (fun _ _ h1 h2 => run_extract (h1.ev rfl) rfl) ?_
  refine Tr.val (wn rfl) rfl (fun _ _ h1 h2 => run_extract (h1.ev rfl) rfl) ?_
  refine Tr.val (wn rfl) rfl (fun _ _ h1 h2 => run_assign (h1.ev rfl)) ?_
  refine Tr.val (wn rfl) rfl (fun _ _ h1 h2 => run_assign (h1.ev rfl)) ?_
  refine Tr.val (wn rfl) rfl (fun _ _ h1 h2 => run_assign (h1.ev rfl)) ?_
  refine Tr.nil (Tr.normThen ?_)
  refine Tr.seq ?_
  refine Tr.region ?_
  refine Tr.val (wn rfl) rfl (fun _ _ h1 h2 => run_loadN (cs := [(.int .i64 p0.W), (.int .i64 p0.H), (.int .i64 p0.Rail), (.int .i64 p0.Gap), (.slice Ap0_0 (p0.Kinds).length cp0_0), (.slice Ap0_1 (p0.Slots).length cp0_1), (.slice Ap0_2 (p0.Marks).length cp0_2)]) ag_26 sz_26 (h1.ev rfl) (CellsAt.take (rdb h2 (vs := [(.int .i64 p0.W), (.int .i64 p0.H), (.int .i64 p0.Rail), (.int .i64 p0.Gap), (.slice Ap0_0 (p0.Kinds).length cp0_0), (.slice Ap0_1 (p0.Slots).length cp0_1), (.slice Ap0_2 (p0.Marks).length cp0_2)]) (k := 1) rfl 0) 7) rfl) ?_
  refine Tr.val (wn rfl) rfl (fun _ _ h1 h2 => run_move (h1.ev rfl)) ?_
  refine Tr.val (wn rfl) rfl (fun _ _ h1 h2 => run_move (h1.ev rfl)) ?_
  obtain ⟨y108, hy108, H⟩ := bnd H
  refine Tr.call0 (r := (.tuple #[(.int .i64 y108.1), (.int .i64 y108.2.1), (.int .i64 y108.2.2)])) (wn rfl) rfl Try.call35 (evl_cons rfl (evl_cons rfl (evl_cons rfl evl_nil))) (fun W hW => F_etchhouseref9_Needed_ok N p0 Ap0_0 cp0_0 (hp0_0.rl.ext hW.extAll) Ap0_1 cp0_1 (hp0_1.rl.ext hW.extAll) Ap0_2 cp0_2 (hp0_2.rl.ext hW.extAll) p1 p2 y108 hy108 (HF.start _)) ?_
  refine Tr.val (wn rfl) rfl (fun _ _ h1 h2 => run_move (h1.ev rfl)) ?_
  refine Tr.val (wn rfl) rfl (fun _ _ h1 h2 => run_extract (h1.ev rfl) rfl) ?_
  refine Tr.val (wn rfl) rfl (fun _ _ h1 h2 => run_extract (h1.ev rfl) rfl) ?_
  refine Tr.val (wn rfl) rfl (fun _ _ h1 h2 => run_extract (h1.ev rfl) rfl) ?_
  refine Tr.val (wn rfl) rfl (fun _ _ h1 h2 => run_assign (h1.ev rfl)) ?_
  refine Tr.val (wn rfl) rfl (fun _ _ h1 h2 => run_assign (h1.ev rfl)) ?_
  refine Tr.val (wn rfl) rfl (fun _ _ h1 h2 => run_assign (h1.ev rfl)) ?_
  refine Tr.nil (Tr.normThen ?_)
  refine Tr.seq ?_
  refine Tr.region ?_
  refine Tr.val (wn rfl) rfl (fun _ _ h1 h2 => run_loadN (cs := [(.int .i64 y101.1.W), (.int .i64 y101.1.H), (.int .i64 y101.1.Rail), (.int .i64 y101.1.Gap), (.slice Ay101_0 (y101.1.Kinds).length cy101_0), (.slice Ay101_1 (y101.1.Slots).length cy101_1), (.slice Ay101_2 (y101.1.Marks).length cy101_2)]) ag_26 sz_26 (h1.ev rfl) (CellsAt.take (rdb h2 (vs := [(.int .i64 y101.1.W), (.int .i64 y101.1.H), (.int .i64 y101.1.Rail), (.int .i64 y101.1.Gap), (.slice Ay101_0 (y101.1.Kinds).length cy101_0), (.slice Ay101_1 (y101.1.Slots).length cy101_1), (.slice Ay101_2 (y101.1.Marks).length cy101_2)]) (k := 4) rfl 0) 7) rfl) ?_
  refine Tr.val (wn rfl) rfl (fun _ _ h1 h2 => run_loadN (cs := [(.int .i64 y104.1.W), (.int .i64 y104.1.H), (.int .i64 y104.1.Rail), (.int .i64 y104.1.Gap), (.slice Ay104_0 (y104.1.Kinds).length cy104_0), (.slice Ay104_1 (y104.1.Slots).length cy104_1), (.slice Ay104_2 (y104.1.Marks).length cy104_2)]) ag_26 sz_26 (h1.ev rfl) (CellsAt.take (rdb h2 (vs := [(.int .i64 y104.1.W), (.int .i64 y104.1.H), (.int .i64 y104.1.Rail), (.int .i64 y104.1.Gap), (.slice Ay104_0 (y104.1.Kinds).length cy104_0), (.slice Ay104_1 (y104.1.Slots).length cy104_1), (.slice Ay104_2 (y104.1.Marks).length cy104_2)]) (k := 5) rfl 0) 7) rfl) ?_
  obtain ⟨y109, hy109, H⟩ := bnd H
  refine Tr.call0 (r := (.bool y109)) (wn rfl) rfl Try.call30 (evl_cons rfl (evl_cons rfl evl_nil)) (fun W hW => F_etchhouseref9_Same_ok N y101.1 Ay101_0 cy101_0 (hW.slCall (k := 2) rfl) Ay101_1 cy101_1 (hgy101_1.rl.ext hW.extAll) Ay101_2 cy101_2 (hW.slCall (k := 3) rfl) y104.1 Ay104_0 cy104_0 (hgy104_0.rl.ext hW.extAll) Ay104_1 cy104_1 (hgy104_1.rl.ext hW.extAll) Ay104_2 cy104_2 (hgy104_2.rl.ext hW.extAll) y109 hy109 (HF.start _)) ?_
  refine Tr.val (wn rfl) rfl (fun _ _ h1 h2 => run_move (h1.ev rfl)) ?_
  refine Tr.mid0 4 [(9, (.int .i64 y101.2.2)), (12, (.int .i64 y104.2.2)), (13, (.int .i64 y107.1)), (14, (.int .i64 y107.2.1)), (15, (.int .i64 y107.2.2)), (16, (.int .i64 y108.1)), (17, (.int .i64 y108.2.1)), (18, (.int .i64 y108.2.2)), (56, (.bool (y109 && (y101.2.1 == y104.2.1))))] [(1, bx b100 #[(.int .i64 p0.W), (.int .i64 p0.H), (.int .i64 p0.Rail), (.int .i64 p0.Gap), (.slice Ap0_0 (p0.Kinds).length cp0_0), (.slice Ap0_1 (p0.Slots).length cp0_1), (.slice Ap0_2 (p0.Marks).length cp0_2)] 26), (2, ow Ay101_0 cy101_0 82 fl_TBoardKind y101.1.Kinds), (3, ow Ay101_2 cy101_2 32 fl_TPoint y101.1.Marks), (4, bx b103 #[(.int .i64 y101.1.W), (.int .i64 y101.1.H), (.int .i64 y101.1.Rail), (.int .i64 y101.1.Gap), (.slice Ay101_0 (y101.1.Kinds).length cy101_0), (.slice Ay101_1 (y101.1.Slots).length cy101_1), (.slice Ay101_2 (y101.1.Marks).length cy101_2)] 26), (5, bx b106 #[(.int .i64 y104.1.W), (.int .i64 y104.1.H), (.int .i64 y104.1.Rail), (.int .i64 y104.1.Gap), (.slice Ay104_0 (y104.1.Kinds).length cy104_0), (.slice Ay104_1 (y104.1.Slots).length cy104_1), (.slice Ay104_2 (y104.1.Marks).length cy104_2)] 26)] ?_ ?_
  · cases hg112 : y109
    · refine Tr.pass rfl rfl rfl rfl rfl (by decide) ?_
      refine Tr.pass rfl rfl rfl rfl rfl (by decide) ?_
      refine Tr.pass rfl rfl rfl rfl rfl (by decide) ?_
      refine Tr.val (wn rfl) rfl (fun _ _ h1 h2 => run_pickF (h1.ev rfl) (h1.ev rfl)) ?_
      exact Tr.nil (Tr.fin0 (.cons rfl (.cons rfl (.cons rfl (.cons rfl (.cons rfl (.cons rfl (.cons rfl (.cons rfl (.cons rfl .nil))))))))) (.cons rfl (.cons rfl (.cons rfl (.cons rfl (.cons rfl .nil))))))
    · refine Tr.val (wg rfl rfl rfl) rfl (fun _ _ h1 h2 => run_move (h1.ev rfl)) ?_
      refine Tr.val (wg rfl rfl rfl) rfl (fun _ _ h1 h2 => run_move (h1.ev rfl)) ?_
      refine Tr.val (wg rfl rfl rfl) rfl (fun _ _ h1 h2 => run_eqlB un_4 (h1.ev rfl) (h1.ev rfl)) ?_
      refine Tr.val (wn rfl) rfl (fun _ _ h1 h2 => run_pickT (h1.ev rfl) (h1.ev rfl)) ?_
      exact Tr.nil (Tr.fin0 (.cons rfl (.cons rfl (.cons rfl (.cons rfl (.cons rfl (.cons rfl (.cons rfl (.cons rfl (.cons rfl .nil))))))))) (.cons rfl (.cons rfl (.cons rfl (.cons rfl (.cons rfl .nil))))))
  · show Tr _ _ (LF [(9, (.int .i64 y101.2.2)), (12, (.int .i64 y104.2.2)), (13, (.int .i64 y107.1)), (14, (.int .i64 y107.2.1)), (15, (.int .i64 y107.2.2)), (16, (.int .i64 y108.1)), (17, (.int .i64 y108.2.1)), (18, (.int .i64 y108.2.2)), (56, (.bool (y109 && (y101.2.1 == y104.2.1))))]) (LE [(1, bx b100 #[(.int .i64 p0.W), (.int .i64 p0.H), (.int .i64 p0.Rail), (.int .i64 p0.Gap), (.slice Ap0_0 (p0.Kinds).length cp0_0), (.slice Ap0_1 (p0.Slots).length cp0_1), (.slice Ap0_2 (p0.Marks).length cp0_2)] 26), (2, ow Ay101_0 cy101_0 82 fl_TBoardKind y101.1.Kinds), (3, ow Ay101_2 cy101_2 32 fl_TPoint y101.1.Marks), (4, bx b103 #[(.int .i64 y101.1.W), (.int .i64 y101.1.H), (.int .i64 y101.1.Rail), (.int .i64 y101.1.Gap), (.slice Ay101_0 (y101.1.Kinds).length cy101_0), (.slice Ay101_1 (y101.1.Slots).length cy101_1), (.slice Ay101_2 (y101.1.Marks).length cy101_2)] 26), (5, bx b106 #[(.int .i64 y104.1.W), (.int .i64 y104.1.H), (.int .i64 y104.1.Rail), (.int .i64 y104.1.Gap), (.slice Ay104_0 (y104.1.Kinds).length cy104_0), (.slice Ay104_1 (y104.1.Slots).length cy104_1), (.slice Ay104_2 (y104.1.Marks).length cy104_2)] 26)]) _
    refine Tr.val (wn rfl) rfl (fun _ _ h1 h2 => run_move (h1.ev rfl)) ?_
    refine Tr.mid0 4 [(13, (.int .i64 y107.1)), (14, (.int .i64 y107.2.1)), (15, (.int .i64 y107.2.2)), (16, (.int .i64 y108.1)), (17, (.int .i64 y108.2.1)), (18, (.int .i64 y108.2.2)), (61, (.bool ((y109 && (y101.2.1 == y104.2.1)) && (y101.2.2 == y104.2.2))))] [(1, bx b100 #[(.int .i64 p0.W), (.int .i64 p0.H), (.int .i64 p0.Rail), (.int .i64 p0.Gap), (.slice Ap0_0 (p0.Kinds).length cp0_0), (.slice Ap0_1 (p0.Slots).length cp0_1), (.slice Ap0_2 (p0.Marks).length cp0_2)] 26), (2, ow Ay101_0 cy101_0 82 fl_TBoardKind y101.1.Kinds), (3, ow Ay101_2 cy101_2 32 fl_TPoint y101.1.Marks), (4, bx b103 #[(.int .i64 y101.1.W), (.int .i64 y101.1.H), (.int .i64 y101.1.Rail), (.int .i64 y101.1.Gap), (.slice Ay101_0 (y101.1.Kinds).length cy101_0), (.slice Ay101_1 (y101.1.Slots).length cy101_1), (.slice Ay101_2 (y101.1.Marks).length cy101_2)] 26), (5, bx b106 #[(.int .i64 y104.1.W), (.int .i64 y104.1.H), (.int .i64 y104.1.Rail), (.int .i64 y104.1.Gap), (.slice Ay104_0 (y104.1.Kinds).length cy104_0), (.slice Ay104_1 (y104.1.Slots).length cy104_1), (.slice Ay104_2 (y104.1.Marks).length cy104_2)] 26)] ?_ ?_
    · cases hg112 : (y109 && (y101.2.1 == y104.2.1))
      · refine Tr.pass rfl rfl rfl rfl rfl (by decide) ?_
        refine Tr.pass rfl rfl rfl rfl rfl (by decide) ?_
        refine Tr.pass rfl rfl rfl rfl rfl (by decide) ?_
        refine Tr.val (wn rfl) rfl (fun _ _ h1 h2 => run_pickF (h1.ev rfl) (h1.ev rfl)) ?_
        exact Tr.nil (Tr.fin0 (.cons rfl (.cons rfl (.cons rfl (.cons rfl (.cons rfl (.cons rfl (.cons rfl .nil))))))) (.cons rfl (.cons rfl (.cons rfl (.cons rfl (.cons rfl .nil))))))
      · refine Tr.val (wg rfl rfl rfl) rfl (fun _ _ h1 h2 => run_move (h1.ev rfl)) ?_
        refine Tr.val (wg rfl rfl rfl) rfl (fun _ _ h1 h2 => run_move (h1.ev rfl)) ?_
        refine Tr.val (wg rfl rfl rfl) rfl (fun _ _ h1 h2 => run_eql (h1.ev rfl) (h1.ev rfl)) ?_
        refine Tr.val (wn rfl) rfl (fun _ _ h1 h2 => run_pickT (h1.ev rfl) (h1.ev rfl)) ?_
        exact Tr.nil (Tr.fin0 (.cons rfl (.cons rfl (.cons rfl (.cons rfl (.cons rfl (.cons rfl (.cons rfl .nil))))))) (.cons rfl (.cons rfl (.cons rfl (.cons rfl (.cons rfl .nil))))))
    · show Tr _ _ (LF [(13, (.int .i64 y107.1)), (14, (.int .i64 y107.2.1)), (15, (.int .i64 y107.2.2)), (16, (.int .i64 y108.1)), (17, (.int .i64 y108.2.1)), (18, (.int .i64 y108.2.2)), (61, (.bool ((y109 && (y101.2.1 == y104.2.1)) && (y101.2.2 == y104.2.2))))]) (LE [(1, bx b100 #[(.int .i64 p0.W), (.int .i64 p0.H), (.int .i64 p0.Rail), (.int .i64 p0.Gap), (.slice Ap0_0 (p0.Kinds).length cp0_0), (.slice Ap0_1 (p0.Slots).length cp0_1), (.slice Ap0_2 (p0.Marks).length cp0_2)] 26), (2, ow Ay101_0 cy101_0 82 fl_TBoardKind y101.1.Kinds), (3, ow Ay101_2 cy101_2 32 fl_TPoint y101.1.Marks), (4, bx b103 #[(.int .i64 y101.1.W), (.int .i64 y101.1.H), (.int .i64 y101.1.Rail), (.int .i64 y101.1.Gap), (.slice Ay101_0 (y101.1.Kinds).length cy101_0), (.slice Ay101_1 (y101.1.Slots).length cy101_1), (.slice Ay101_2 (y101.1.Marks).length cy101_2)] 26), (5, bx b106 #[(.int .i64 y104.1.W), (.int .i64 y104.1.H), (.int .i64 y104.1.Rail), (.int .i64 y104.1.Gap), (.slice Ay104_0 (y104.1.Kinds).length cy104_0), (.slice Ay104_1 (y104.1.Slots).length cy104_1), (.slice Ay104_2 (y104.1.Marks).length cy104_2)] 26)]) _
      refine Tr.val (wn rfl) rfl (fun _ _ h1 h2 => run_move (h1.ev rfl)) ?_
      refine Tr.mid0 4 [(14, (.int .i64 y107.2.1)), (15, (.int .i64 y107.2.2)), (17, (.int .i64 y108.2.1)), (18, (.int .i64 y108.2.2)), (66, (.bool (((y109 && (y101.2.1 == y104.2.1)) && (y101.2.2 == y104.2.2)) && (y107.1 == y108.1))))] [(1, bx b100 #[(.int .i64 p0.W), (.int .i64 p0.H), (.int .i64 p0.Rail), (.int .i64 p0.Gap), (.slice Ap0_0 (p0.Kinds).length cp0_0), (.slice Ap0_1 (p0.Slots).length cp0_1), (.slice Ap0_2 (p0.Marks).length cp0_2)] 26), (2, ow Ay101_0 cy101_0 82 fl_TBoardKind y101.1.Kinds), (3, ow Ay101_2 cy101_2 32 fl_TPoint y101.1.Marks), (4, bx b103 #[(.int .i64 y101.1.W), (.int .i64 y101.1.H), (.int .i64 y101.1.Rail), (.int .i64 y101.1.Gap), (.slice Ay101_0 (y101.1.Kinds).length cy101_0), (.slice Ay101_1 (y101.1.Slots).length cy101_1), (.slice Ay101_2 (y101.1.Marks).length cy101_2)] 26), (5, bx b106 #[(.int .i64 y104.1.W), (.int .i64 y104.1.H), (.int .i64 y104.1.Rail), (.int .i64 y104.1.Gap), (.slice Ay104_0 (y104.1.Kinds).length cy104_0), (.slice Ay104_1 (y104.1.Slots).length cy104_1), (.slice Ay104_2 (y104.1.Marks).length cy104_2)] 26)] ?_ ?_
      · cases hg112 : ((y109 && (y101.2.1 == y104.2.1)) && (y101.2.2 == y104.2.2))
        · refine Tr.pass rfl rfl rfl rfl rfl (by decide) ?_
          refine Tr.pass rfl rfl rfl rfl rfl (by decide) ?_
          refine Tr.pass rfl rfl rfl rfl rfl (by decide) ?_
          refine Tr.val (wn rfl) rfl (fun _ _ h1 h2 => run_pickF (h1.ev rfl) (h1.ev rfl)) ?_
          exact Tr.nil (Tr.fin0 (.cons rfl (.cons rfl (.cons rfl (.cons rfl (.cons rfl .nil))))) (.cons rfl (.cons rfl (.cons rfl (.cons rfl (.cons rfl .nil))))))
        · refine Tr.val (wg rfl rfl rfl) rfl (fun _ _ h1 h2 => run_move (h1.ev rfl)) ?_
          refine Tr.val (wg rfl rfl rfl) rfl (fun _ _ h1 h2 => run_move (h1.ev rfl)) ?_
          refine Tr.val (wg rfl rfl rfl) rfl (fun _ _ h1 h2 => run_eql (h1.ev rfl) (h1.ev rfl)) ?_
          refine Tr.val (wn rfl) rfl (fun _ _ h1 h2 => run_pickT (h1.ev rfl) (h1.ev rfl)) ?_
          exact Tr.nil (Tr.fin0 (.cons rfl (.cons rfl (.cons rfl (.cons rfl (.cons rfl .nil))))) (.cons rfl (.cons rfl (.cons rfl (.cons rfl (.cons rfl .nil))))))
      · show Tr _ _ (LF [(14, (.int .i64 y107.2.1)), (15, (.int .i64 y107.2.2)), (17, (.int .i64 y108.2.1)), (18, (.int .i64 y108.2.2)), (66, (.bool (((y109 && (y101.2.1 == y104.2.1)) && (y101.2.2 == y104.2.2)) && (y107.1 == y108.1))))]) (LE [(1, bx b100 #[(.int .i64 p0.W), (.int .i64 p0.H), (.int .i64 p0.Rail), (.int .i64 p0.Gap), (.slice Ap0_0 (p0.Kinds).length cp0_0), (.slice Ap0_1 (p0.Slots).length cp0_1), (.slice Ap0_2 (p0.Marks).length cp0_2)] 26), (2, ow Ay101_0 cy101_0 82 fl_TBoardKind y101.1.Kinds), (3, ow Ay101_2 cy101_2 32 fl_TPoint y101.1.Marks), (4, bx b103 #[(.int .i64 y101.1.W), (.int .i64 y101.1.H), (.int .i64 y101.1.Rail), (.int .i64 y101.1.Gap), (.slice Ay101_0 (y101.1.Kinds).length cy101_0), (.slice Ay101_1 (y101.1.Slots).length cy101_1), (.slice Ay101_2 (y101.1.Marks).length cy101_2)] 26), (5, bx b106 #[(.int .i64 y104.1.W), (.int .i64 y104.1.H), (.int .i64 y104.1.Rail), (.int .i64 y104.1.Gap), (.slice Ay104_0 (y104.1.Kinds).length cy104_0), (.slice Ay104_1 (y104.1.Slots).length cy104_1), (.slice Ay104_2 (y104.1.Marks).length cy104_2)] 26)]) _
        refine Tr.val (wn rfl) rfl (fun _ _ h1 h2 => run_move (h1.ev rfl)) ?_
        refine Tr.mid0 4 [(15, (.int .i64 y107.2.2)), (18, (.int .i64 y108.2.2)), (71, (.bool ((((y109 && (y101.2.1 == y104.2.1)) && (y101.2.2 == y104.2.2)) && (y107.1 == y108.1)) && (y107.2.1 == y108.2.1))))] [(1, bx b100 #[(.int .i64 p0.W), (.int .i64 p0.H), (.int .i64 p0.Rail), (.int .i64 p0.Gap), (.slice Ap0_0 (p0.Kinds).length cp0_0), (.slice Ap0_1 (p0.Slots).length cp0_1), (.slice Ap0_2 (p0.Marks).length cp0_2)] 26), (2, ow Ay101_0 cy101_0 82 fl_TBoardKind y101.1.Kinds), (3, ow Ay101_2 cy101_2 32 fl_TPoint y101.1.Marks), (4, bx b103 #[(.int .i64 y101.1.W), (.int .i64 y101.1.H), (.int .i64 y101.1.Rail), (.int .i64 y101.1.Gap), (.slice Ay101_0 (y101.1.Kinds).length cy101_0), (.slice Ay101_1 (y101.1.Slots).length cy101_1), (.slice Ay101_2 (y101.1.Marks).length cy101_2)] 26), (5, bx b106 #[(.int .i64 y104.1.W), (.int .i64 y104.1.H), (.int .i64 y104.1.Rail), (.int .i64 y104.1.Gap), (.slice Ay104_0 (y104.1.Kinds).length cy104_0), (.slice Ay104_1 (y104.1.Slots).length cy104_1), (.slice Ay104_2 (y104.1.Marks).length cy104_2)] 26)] ?_ ?_
        · cases hg112 : (((y109 && (y101.2.1 == y104.2.1)) && (y101.2.2 == y104.2.2)) && (y107.1 == y108.1))
          · refine Tr.pass rfl rfl rfl rfl rfl (by decide) ?_
            refine Tr.pass rfl rfl rfl rfl rfl (by decide) ?_
            refine Tr.pass rfl rfl rfl rfl rfl (by decide) ?_
            refine Tr.val (wn rfl) rfl (fun _ _ h1 h2 => run_pickF (h1.ev rfl) (h1.ev rfl)) ?_
            exact Tr.nil (Tr.fin0 (.cons rfl (.cons rfl (.cons rfl .nil))) (.cons rfl (.cons rfl (.cons rfl (.cons rfl (.cons rfl .nil))))))
          · refine Tr.val (wg rfl rfl rfl) rfl (fun _ _ h1 h2 => run_move (h1.ev rfl)) ?_
            refine Tr.val (wg rfl rfl rfl) rfl (fun _ _ h1 h2 => run_move (h1.ev rfl)) ?_
            refine Tr.val (wg rfl rfl rfl) rfl (fun _ _ h1 h2 => run_eql (h1.ev rfl) (h1.ev rfl)) ?_
            refine Tr.val (wn rfl) rfl (fun _ _ h1 h2 => run_pickT (h1.ev rfl) (h1.ev rfl)) ?_
            exact Tr.nil (Tr.fin0 (.cons rfl (.cons rfl (.cons rfl .nil))) (.cons rfl (.cons rfl (.cons rfl (.cons rfl (.cons rfl .nil))))))
        · show Tr _ _ (LF [(15, (.int .i64 y107.2.2)), (18, (.int .i64 y108.2.2)), (71, (.bool ((((y109 && (y101.2.1 == y104.2.1)) && (y101.2.2 == y104.2.2)) && (y107.1 == y108.1)) && (y107.2.1 == y108.2.1))))]) (LE [(1, bx b100 #[(.int .i64 p0.W), (.int .i64 p0.H), (.int .i64 p0.Rail), (.int .i64 p0.Gap), (.slice Ap0_0 (p0.Kinds).length cp0_0), (.slice Ap0_1 (p0.Slots).length cp0_1), (.slice Ap0_2 (p0.Marks).length cp0_2)] 26), (2, ow Ay101_0 cy101_0 82 fl_TBoardKind y101.1.Kinds), (3, ow Ay101_2 cy101_2 32 fl_TPoint y101.1.Marks), (4, bx b103 #[(.int .i64 y101.1.W), (.int .i64 y101.1.H), (.int .i64 y101.1.Rail), (.int .i64 y101.1.Gap), (.slice Ay101_0 (y101.1.Kinds).length cy101_0), (.slice Ay101_1 (y101.1.Slots).length cy101_1), (.slice Ay101_2 (y101.1.Marks).length cy101_2)] 26), (5, bx b106 #[(.int .i64 y104.1.W), (.int .i64 y104.1.H), (.int .i64 y104.1.Rail), (.int .i64 y104.1.Gap), (.slice Ay104_0 (y104.1.Kinds).length cy104_0), (.slice Ay104_1 (y104.1.Slots).length cy104_1), (.slice Ay104_2 (y104.1.Marks).length cy104_2)] 26)]) _
          refine Tr.val (wn rfl) rfl (fun _ _ h1 h2 => run_move (h1.ev rfl)) ?_
          refine Tr.mid0 4 [(76, (.bool (((((y109 && (y101.2.1 == y104.2.1)) && (y101.2.2 == y104.2.2)) && (y107.1 == y108.1)) && (y107.2.1 == y108.2.1)) && (y107.2.2 == y108.2.2))))] [(1, bx b100 #[(.int .i64 p0.W), (.int .i64 p0.H), (.int .i64 p0.Rail), (.int .i64 p0.Gap), (.slice Ap0_0 (p0.Kinds).length cp0_0), (.slice Ap0_1 (p0.Slots).length cp0_1), (.slice Ap0_2 (p0.Marks).length cp0_2)] 26), (2, ow Ay101_0 cy101_0 82 fl_TBoardKind y101.1.Kinds), (3, ow Ay101_2 cy101_2 32 fl_TPoint y101.1.Marks), (4, bx b103 #[(.int .i64 y101.1.W), (.int .i64 y101.1.H), (.int .i64 y101.1.Rail), (.int .i64 y101.1.Gap), (.slice Ay101_0 (y101.1.Kinds).length cy101_0), (.slice Ay101_1 (y101.1.Slots).length cy101_1), (.slice Ay101_2 (y101.1.Marks).length cy101_2)] 26), (5, bx b106 #[(.int .i64 y104.1.W), (.int .i64 y104.1.H), (.int .i64 y104.1.Rail), (.int .i64 y104.1.Gap), (.slice Ay104_0 (y104.1.Kinds).length cy104_0), (.slice Ay104_1 (y104.1.Slots).length cy104_1), (.slice Ay104_2 (y104.1.Marks).length cy104_2)] 26)] ?_ ?_
          · cases hg112 : ((((y109 && (y101.2.1 == y104.2.1)) && (y101.2.2 == y104.2.2)) && (y107.1 == y108.1)) && (y107.2.1 == y108.2.1))
            · refine Tr.pass rfl rfl rfl rfl rfl (by decide) ?_
              refine Tr.pass rfl rfl rfl rfl rfl (by decide) ?_
              refine Tr.pass rfl rfl rfl rfl rfl (by decide) ?_
              refine Tr.val (wn rfl) rfl (fun _ _ h1 h2 => run_pickF (h1.ev rfl) (h1.ev rfl)) ?_
              exact Tr.nil (Tr.fin0 (.cons rfl .nil) (.cons rfl (.cons rfl (.cons rfl (.cons rfl (.cons rfl .nil))))))
            · refine Tr.val (wg rfl rfl rfl) rfl (fun _ _ h1 h2 => run_move (h1.ev rfl)) ?_
              refine Tr.val (wg rfl rfl rfl) rfl (fun _ _ h1 h2 => run_move (h1.ev rfl)) ?_
              refine Tr.val (wg rfl rfl rfl) rfl (fun _ _ h1 h2 => run_eql (h1.ev rfl) (h1.ev rfl)) ?_
              refine Tr.val (wn rfl) rfl (fun _ _ h1 h2 => run_pickT (h1.ev rfl) (h1.ev rfl)) ?_
              exact Tr.nil (Tr.fin0 (.cons rfl .nil) (.cons rfl (.cons rfl (.cons rfl (.cons rfl (.cons rfl .nil))))))
          · show Tr _ _ (LF [(76, (.bool (((((y109 && (y101.2.1 == y104.2.1)) && (y101.2.2 == y104.2.2)) && (y107.1 == y108.1)) && (y107.2.1 == y108.2.1)) && (y107.2.2 == y108.2.2))))]) (LE [(1, bx b100 #[(.int .i64 p0.W), (.int .i64 p0.H), (.int .i64 p0.Rail), (.int .i64 p0.Gap), (.slice Ap0_0 (p0.Kinds).length cp0_0), (.slice Ap0_1 (p0.Slots).length cp0_1), (.slice Ap0_2 (p0.Marks).length cp0_2)] 26), (2, ow Ay101_0 cy101_0 82 fl_TBoardKind y101.1.Kinds), (3, ow Ay101_2 cy101_2 32 fl_TPoint y101.1.Marks), (4, bx b103 #[(.int .i64 y101.1.W), (.int .i64 y101.1.H), (.int .i64 y101.1.Rail), (.int .i64 y101.1.Gap), (.slice Ay101_0 (y101.1.Kinds).length cy101_0), (.slice Ay101_1 (y101.1.Slots).length cy101_1), (.slice Ay101_2 (y101.1.Marks).length cy101_2)] 26), (5, bx b106 #[(.int .i64 y104.1.W), (.int .i64 y104.1.H), (.int .i64 y104.1.Rail), (.int .i64 y104.1.Gap), (.slice Ay104_0 (y104.1.Kinds).length cy104_0), (.slice Ay104_1 (y104.1.Slots).length cy104_1), (.slice Ay104_2 (y104.1.Marks).length cy104_2)] 26)]) _
            refine Tr.val (wn rfl) rfl (fun _ _ h1 h2 => run_move (h1.ev rfl)) ?_
            obtain ⟨g111, hg111, H⟩ := bnd H
            refine Tr.mid0 2 [(79, (.bool g111))] [(1, bx b100 #[(.int .i64 p0.W), (.int .i64 p0.H), (.int .i64 p0.Rail), (.int .i64 p0.Gap), (.slice Ap0_0 (p0.Kinds).length cp0_0), (.slice Ap0_1 (p0.Slots).length cp0_1), (.slice Ap0_2 (p0.Marks).length cp0_2)] 26), (2, ow Ay101_0 cy101_0 82 fl_TBoardKind y101.1.Kinds), (3, ow Ay101_2 cy101_2 32 fl_TPoint y101.1.Marks), (4, bx b103 #[(.int .i64 y101.1.W), (.int .i64 y101.1.H), (.int .i64 y101.1.Rail), (.int .i64 y101.1.Gap), (.slice Ay101_0 (y101.1.Kinds).length cy101_0), (.slice Ay101_1 (y101.1.Slots).length cy101_1), (.slice Ay101_2 (y101.1.Marks).length cy101_2)] 26), (5, bx b106 #[(.int .i64 y104.1.W), (.int .i64 y104.1.H), (.int .i64 y104.1.Rail), (.int .i64 y104.1.Gap), (.slice Ay104_0 (y104.1.Kinds).length cy104_0), (.slice Ay104_1 (y104.1.Slots).length cy104_1), (.slice Ay104_2 (y104.1.Marks).length cy104_2)] 26)] ?_ ?_
            · cases hg112 : (((((y109 && (y101.2.1 == y104.2.1)) && (y101.2.2 == y104.2.2)) && (y107.1 == y108.1)) && (y107.2.1 == y108.2.1)) && (y107.2.2 == y108.2.2))
              · rw [hg112] at hg111
                rw [if_neg (by decide)] at hg111
                have H := hg111
                obtain rfl := Option.some.inj H
                refine Tr.pass rfl rfl rfl rfl rfl (by decide) ?_
                refine Tr.val (wn rfl) rfl (fun _ _ h1 h2 => run_pickF (h1.ev rfl) (h1.ev rfl)) ?_
                exact Tr.nil (Tr.fin0 (.cons rfl .nil) (.cons rfl (.cons rfl (.cons rfl (.cons rfl (.cons rfl .nil))))))
              · rw [hg112] at hg111
                rw [if_pos rfl] at hg111
                have H := hg111
                obtain ⟨y112, hy112, H⟩ := bnd H
                refine Tr.call0 (r := (.bool y112)) (wg rfl rfl rfl) rfl Try.call15 evl_nil (fun W hW => F_etchhouselaw9_awake_ok N y112 hy112 (HF.start _)) ?_
                refine Tr.val (wn rfl) rfl (fun _ _ h1 h2 => run_pickT (h1.ev rfl) (h1.ev rfl)) ?_
                obtain rfl := Option.some.inj H
                exact Tr.nil (Tr.fin0 (.cons rfl .nil) (.cons rfl (.cons rfl (.cons rfl (.cons rfl (.cons rfl .nil))))))
            · show Tr _ _ (LF [(79, (.bool g111))]) (LE [(1, bx b100 #[(.int .i64 p0.W), (.int .i64 p0.H), (.int .i64 p0.Rail), (.int .i64 p0.Gap), (.slice Ap0_0 (p0.Kinds).length cp0_0), (.slice Ap0_1 (p0.Slots).length cp0_1), (.slice Ap0_2 (p0.Marks).length cp0_2)] 26), (2, ow Ay101_0 cy101_0 82 fl_TBoardKind y101.1.Kinds), (3, ow Ay101_2 cy101_2 32 fl_TPoint y101.1.Marks), (4, bx b103 #[(.int .i64 y101.1.W), (.int .i64 y101.1.H), (.int .i64 y101.1.Rail), (.int .i64 y101.1.Gap), (.slice Ay101_0 (y101.1.Kinds).length cy101_0), (.slice Ay101_1 (y101.1.Slots).length cy101_1), (.slice Ay101_2 (y101.1.Marks).length cy101_2)] 26), (5, bx b106 #[(.int .i64 y104.1.W), (.int .i64 y104.1.H), (.int .i64 y104.1.Rail), (.int .i64 y104.1.Gap), (.slice Ay104_0 (y104.1.Kinds).length cy104_0), (.slice Ay104_1 (y104.1.Slots).length cy104_1), (.slice Ay104_2 (y104.1.Marks).length cy104_2)] 26)]) _
              refine Tr.val (wn rfl) rfl (fun _ _ h1 h2 => run_assign (h1.ev rfl)) ?_
              refine Tr.nil (Tr.normThen ?_)
              refine Tr.ret ?_
              obtain rfl := Option.some.inj H
              exact Tr.out (m := [(.bool g111)]) [] (res_tmp rfl res_nil) (fun W hW => ⟨rfl, hW.low leB⟩)

end Go.Proofs.Ytpkicpnbpldkpaa
