/- The walks: each function computes its plain function. -/
import Derived.Test.YtpkicpnbpldkpaaXWb
namespace Go.Proofs.Ytpkicpnbpldkpaa
open Go.RowKit
set_option maxRecDepth 100000
set_option maxHeartbeats 1000000
theorem F_etchhouseref9_Tabs_ok (N : Nat) {w : World} (p0 : TPanel) (Ap0_0 : Option Addr) (cp0_0 : Nat) (hp0_0 : Sl (lo w.heap.size) w fl_TBoardKind Ap0_0 cp0_0 p0.Kinds) (Ap0_1 : Option Addr) (cp0_1 : Nat) (hp0_1 : Sl (lo w.heap.size) w fl_TSlot Ap0_1 cp0_1 p0.Slots) (Ap0_2 : Option Addr) (cp0_2 : Nat) (hp0_2 : Sl (lo w.heap.size) w fl_TPoint Ap0_2 cp0_2 p0.Marks) (p1 : Int) (p2 : Int) (r : ((List TPoint) × Int)) (H : F_etchhouseref9_Tabs N p0 p1 p2 = some r) : Calls Try.prog 18 [(.agg #[(.int .i64 p0.W), (.int .i64 p0.H), (.int .i64 p0.Rail), (.int .i64 p0.Gap), (.slice Ap0_0 (p0.Kinds).length cp0_0), (.slice Ap0_1 (p0.Slots).length cp0_1), (.slice Ap0_2 (p0.Marks).length cp0_2)]), (.int .i64 p1), (.int .i64 p2)].toArray w fun e W' => ∃ u : Option Addr × Nat, e = .returned (.tuple #[(.slice u.1 (r.1).length u.2), (.int .i64 r.2)]) ∧ SlF u.1 (r.1).length u.2 ∧ Below w.heap.size w W' ∧ (∀ B, (ow u.1 u.2 32 fl_TPoint r.1).loc B) ∧ (ow u.1 u.2 32 fl_TPoint r.1).φ W' ∧ ∀ b, (ow u.1 u.2 32 fl_TPoint r.1).S b → w.heap.size ≤ b ∧ b < W'.heap.size := by
  unfold F_etchhouseref9_Tabs at H
  refine Tr.enter (n := 134) Try.func18 rfl rfl rfl ?_
  refine Tr.seq ?_
  refine Tr.region ?_
  refine Tr.box 1 (cs := [(.int .i64 p0.W), (.int .i64 p0.H), (.int .i64 p0.Rail), (.int .i64 p0.Gap), (.slice Ap0_0 (p0.Kinds).length cp0_0), (.slice Ap0_1 (p0.Slots).length cp0_1), (.slice Ap0_2 (p0.Marks).length cp0_2)]) (wn rfl) rfl rfl rfl fun b1 => ?_
  refine Tr.val (wn rfl) rfl (fun _ _ h1 h2 => run_assign (h1.ev rfl)) ?_
  refine Tr.nilOwn 2 32 fl_TPoint ?_
  refine Tr.val (wn rfl) rfl (fun _ _ h1 h2 => run_assign (h1.ev rfl)) ?_
  refine Tr.nil (Tr.normThen ?_)
  refine Tr.seq ?_
  refine Tr.seq ?_
  refine Tr.region ?_
  refine Tr.val (wn rfl) rfl (fun _ _ h1 h2 => run_loadN (cs := [(.int .i64 p0.W), (.int .i64 p0.H), (.int .i64 p0.Rail), (.int .i64 p0.Gap), (.slice Ap0_0 (p0.Kinds).length cp0_0), (.slice Ap0_1 (p0.Slots).length cp0_1), (.slice Ap0_2 (p0.Marks).length cp0_2)]) ag_26 sz_26 (h1.ev rfl) (CellsAt.take (rdb h2 (vs := [(.int .i64 p0.W), (.int .i64 p0.H), (.int .i64 p0.Rail), (.int .i64 p0.Gap), (.slice Ap0_0 (p0.Kinds).length cp0_0), (.slice Ap0_1 (p0.Slots).length cp0_1), (.slice Ap0_2 (p0.Marks).length cp0_2)]) (k := 1) rfl 0) 7) rfl) ?_
  obtain ⟨y1, hy1, H⟩ := bnd H
  refine Tr.call0 (r := (.int .i64 y1)) (wn rfl) rfl Try.call39 (evl_cons rfl evl_nil) (fun W hW => F_etchhouseref9_CheckPanel_ok N p0 Ap0_0 cp0_0 (Sl.up hp0_0 hW) Ap0_1 cp0_1 (Sl.up hp0_1 hW) Ap0_2 cp0_2 (Sl.up hp0_2 hW) y1 hy1) ?_
  refine Tr.val (wn rfl) rfl (fun _ _ h1 h2 => run_assign (h1.ev rfl)) ?_
  refine Tr.nil (Tr.normThen ?_)
  refine Tr.seq ?_
  refine Tr.region ?_
  refine Tr.val (wn rfl) rfl (fun _ _ h1 h2 => run_move (h1.ev rfl)) ?_
  refine Tr.val (wn rfl) rfl (fun _ _ h1 h2 => run_neq (h1.ev rfl) (h1.ev rfl)) ?_
  refine Tr.nil (Tr.normThen ?_)
  refine Tr.cond rfl H (fun H => ?_) (fun H => ?_)
  · refine Tr.seq ?_
    refine Tr.region ?_
    refine Tr.val (wn rfl) rfl (fun _ _ h1 h2 => run_move (h1.ev rfl)) ?_
    refine Tr.val (wn rfl) rfl (fun _ _ h1 h2 => run_assign (h1.ev rfl)) ?_
    refine Tr.nilOwn 3 32 fl_TPoint ?_
    refine Tr.val (wn rfl) rfl (fun _ _ h1 h2 => run_assign (h1.ev rfl)) ?_
    refine Tr.nil (Tr.normThen ?_)
    refine Tr.ret (Tr.retThen ?_)
    obtain rfl := Option.some.inj H
    exact Tr.out (m := [(.slice none (([] : List TPoint)).length 0), (.int .i64 y1)]) [] (res_tmp rfl (res_tmp rfl res_nil)) (fun W hW => ⟨(none, 0), rfl, slf_nil, hW.below, fun B => ow_loc B _ _ _ _ _, hW.ow (k := 3) rfl, fun b hb => hW.bd 3 b hb⟩)
  · refine Tr.skip (Tr.normThen ?_)
    refine Tr.seq ?_
    refine Tr.seq ?_
    refine Tr.region ?_
    refine Tr.val (wn rfl) rfl (fun _ _ h1 h2 => run_move (h1.ev rfl)) ?_
    refine Tr.val (wn rfl) rfl (fun _ _ h1 h2 => run_fieldAddr fo_26_5 (h1.ev rfl)) ?_
    refine Tr.val (wn rfl) rfl (fun _ _ h1 h2 => run_load1 ag_23 (h1.ev rfl) (rdb h2 (vs := [(.int .i64 p0.W), (.int .i64 p0.H), (.int .i64 p0.Rail), (.int .i64 p0.Gap), (.slice Ap0_0 (p0.Kinds).length cp0_0), (.slice Ap0_1 (p0.Slots).length cp0_1), (.slice Ap0_2 (p0.Marks).length cp0_2)]) (k := 1) rfl 5) rfl) ?_
    refine Tr.val (wn rfl) rfl (fun _ _ h1 h2 => run_len un_23 (h1.ev rfl)) ?_
    refine Tr.val (wn rfl) rfl (fun _ _ h1 h2 => run_sub (h1.ev rfl) (h1.ev rfl)) ?_
    obtain ⟨y2, hy2, H⟩ := bnd H
    refine Tr.call0 (r := (.bool y2)) (wn rfl) rfl Try.call49 (evl_cons rfl (evl_cons rfl (evl_cons rfl evl_nil))) (fun W hW => F_etchhouseref9_within_ok p1 0 (w64 ((p0.Slots.length : Int) - 1)) y2 hy2) ?_
    refine Tr.val (wn rfl) rfl (fun _ _ h1 h2 => run_not (h1.ev rfl)) ?_
    refine Tr.nil (Tr.normThen ?_)
    refine Tr.cond rfl H (fun H => ?_) (fun H => ?_)
    · refine Tr.seq ?_
      refine Tr.region ?_
      refine Tr.val (wn rfl) rfl (fun _ _ h1 h2 => run_assign (h1.ev rfl)) ?_
      refine Tr.nilOwn 4 32 fl_TPoint ?_
      refine Tr.val (wn rfl) rfl (fun _ _ h1 h2 => run_assign (h1.ev rfl)) ?_
      refine Tr.nil (Tr.normThen ?_)
      refine Tr.ret (Tr.retThen ?_)
      obtain rfl := Option.some.inj H
      exact Tr.out (m := [(.slice none (([] : List TPoint)).length 0), (.int .i64 9)]) [] (res_tmp rfl (res_tmp rfl res_nil)) (fun W hW => ⟨(none, 0), rfl, slf_nil, hW.below, fun B => ow_loc B _ _ _ _ _, hW.ow (k := 4) rfl, fun b hb => hW.bd 4 b hb⟩)
    · refine Tr.skip (Tr.normThen ?_)
      refine Tr.seq ?_
      refine Tr.seq ?_
      refine Tr.region ?_
      refine Tr.val (wn rfl) rfl (fun _ _ h1 h2 => run_move (h1.ev rfl)) ?_
      obtain ⟨y3, hy3, H⟩ := bnd H
      refine Tr.call0 (r := (.bool y3)) (wn rfl) rfl Try.call49 (evl_cons rfl (evl_cons rfl (evl_cons rfl evl_nil))) (fun W hW => F_etchhouseref9_within_ok p2 1 1000000 y3 hy3) ?_
      refine Tr.val (wn rfl) rfl (fun _ _ h1 h2 => run_not (h1.ev rfl)) ?_
      refine Tr.nil (Tr.normThen ?_)
      refine Tr.cond rfl H (fun H => ?_) (fun H => ?_)
      · refine Tr.seq ?_
        refine Tr.region ?_
        refine Tr.val (wn rfl) rfl (fun _ _ h1 h2 => run_assign (h1.ev rfl)) ?_
        refine Tr.nilOwn 5 32 fl_TPoint ?_
        refine Tr.val (wn rfl) rfl (fun _ _ h1 h2 => run_assign (h1.ev rfl)) ?_
        refine Tr.nil (Tr.normThen ?_)
        refine Tr.ret (Tr.retThen ?_)
        obtain rfl := Option.some.inj H
        exact Tr.out (m := [(.slice none (([] : List TPoint)).length 0), (.int .i64 1)]) [] (res_tmp rfl (res_tmp rfl res_nil)) (fun W hW => ⟨(none, 0), rfl, slf_nil, hW.below, fun B => ow_loc B _ _ _ _ _, hW.ow (k := 5) rfl, fun b hb => hW.bd 5 b hb⟩)
      · refine Tr.skip (Tr.normThen ?_)
        refine Tr.seq ?_
        obtain ⟨x5, hx5, H⟩ := bnd H
        obtain ⟨hx50, hx51, hx52⟩ := idx_some hx5
        obtain ⟨y6, hy6, H⟩ := bnd H
        refine Tr.drawF 8 [(7, .makeFunc (.func 0) #[] #[])] [(7, ⟨9, 6, (.func (.func 0) #[] #[]), fun b => .pointer (some ⟨b, 0, none⟩), fun b => bx b #[(.int .i64 0), (.int .i64 0), (.int .i64 0), (.int .i64 0)] 42⟩)] [(0, (.agg #[(.int .i64 p0.W), (.int .i64 p0.H), (.int .i64 p0.Rail), (.int .i64 p0.Gap), (.slice Ap0_0 (p0.Kinds).length cp0_0), (.slice Ap0_1 (p0.Slots).length cp0_1), (.slice Ap0_2 (p0.Marks).length cp0_2)])), (1, (.int .i64 p1)), (2, (.int .i64 p2)), (3, (.pointer (some ⟨b1, 0, none⟩))), (6, (.slice none (([] : List TPoint)).length 0)), (7, (.int .i64 0)), (8, (.int .i64 y1)), (9, (.func (.func 0) #[] #[])), (18, (.agg #[(.int .i64 p0.W), (.int .i64 p0.H), (.int .i64 p0.Rail), (.int .i64 p0.Gap), (.slice Ap0_0 (p0.Kinds).length cp0_0), (.slice Ap0_1 (p0.Slots).length cp0_1), (.slice Ap0_2 (p0.Marks).length cp0_2)])), (19, (.int .i64 y1)), (20, (.int .i64 y1)), (21, (.bool (y1 != 0))), (23, (.int .i64 p1)), (24, (.pointer (some ⟨b1, 5, none⟩))), (25, (.slice Ap0_1 (p0.Slots).length cp0_1)), (26, (.int .i64 (p0.Slots.length : Int))), (27, (.int .i64 (w64 ((p0.Slots.length : Int) - 1)))), (28, (.bool y2)), (29, (.bool (!y2))), (30, (.int .i64 p2)), (31, (.bool y3)), (32, (.bool (!y3))), (33, (.agg #[(.int .i64 p0.W), (.int .i64 p0.H), (.int .i64 p0.Rail), (.int .i64 p0.Gap), (.slice Ap0_0 (p0.Kinds).length cp0_0), (.slice Ap0_1 (p0.Slots).length cp0_1), (.slice Ap0_2 (p0.Marks).length cp0_2)])), (34, (.pointer (some ⟨b1, 5, none⟩))), (35, (.slice Ap0_1 (p0.Slots).length cp0_1)), (36, (.int .i64 p1)), (37, (.pointer (some ⟨adB Ap0_1, adO Ap0_1 + (p1).toNat * 4, none⟩))), (38, (.agg #[(.string x5.Board), (.int .i64 x5.Quarters), (.int .i64 x5.At.X), (.int .i64 x5.At.Y)])), (39, (.agg #[(.int .i64 y6.X0), (.int .i64 y6.Y0), (.int .i64 y6.X1), (.int .i64 y6.Y1)]))] (by kernel_rfl) (by kernel_rfl) (by kernel_rfl) (by kernel_rfl) (by kernel_rfl) (by kernel_rfl) (by kernel_rfl) (fall_cons (fr_alloc rfl rfl ze_42) fall_nil) (fall_cons rfl fall_nil) (fall_cons rfl fall_nil) ?_ ?_
        · refine Tq.val (wn rfl) rfl (fun _ _ h1 h2 => run_loadN (cs := [(.int .i64 p0.W), (.int .i64 p0.H), (.int .i64 p0.Rail), (.int .i64 p0.Gap), (.slice Ap0_0 (p0.Kinds).length cp0_0), (.slice Ap0_1 (p0.Slots).length cp0_1), (.slice Ap0_2 (p0.Marks).length cp0_2)]) ag_26 sz_26 (h1.ev rfl) (CellsAt.take (rdb h2 (vs := [(.int .i64 p0.W), (.int .i64 p0.H), (.int .i64 p0.Rail), (.int .i64 p0.Gap), (.slice Ap0_0 (p0.Kinds).length cp0_0), (.slice Ap0_1 (p0.Slots).length cp0_1), (.slice Ap0_2 (p0.Marks).length cp0_2)]) (k := 1) rfl 0) 7) rfl) ?_
          refine Tq.val (wn rfl) rfl (fun _ _ h1 h2 => run_fieldAddr fo_26_5 (h1.ev rfl)) ?_
          refine Tq.val (wn rfl) rfl (fun _ _ h1 h2 => run_load1 ag_23 (h1.ev rfl) (rdb h2 (vs := [(.int .i64 p0.W), (.int .i64 p0.H), (.int .i64 p0.Rail), (.int .i64 p0.Gap), (.slice Ap0_0 (p0.Kinds).length cp0_0), (.slice Ap0_1 (p0.Slots).length cp0_1), (.slice Ap0_2 (p0.Marks).length cp0_2)]) (k := 1) rfl 5) rfl) ?_
          refine Tq.val (wn rfl) rfl (fun _ _ h1 h2 => run_move (h1.ev rfl)) ?_
          refine Tq.val (wn rfl) rfl (fun _ _ h1 h2 => run_indexAddr el_23 (h1.ev rfl) hp0_1.form (h1.ev rfl) hx50 hx51) ?_
          refine Tq.val (wn rfl) rfl (fun _ _ h1 h2 => run_loadN (cs := [(.string x5.Board), (.int .i64 x5.Quarters), (.int .i64 x5.At.X), (.int .i64 x5.At.Y)]) ag_34 sz_34 (h1.ev rfl) (CellsAt.take (Rd.arg hp0_1 hx52 _ h2) 4) rfl) ?_
          refine Tq.call0 (r := (.agg #[(.int .i64 y6.X0), (.int .i64 y6.Y0), (.int .i64 y6.X1), (.int .i64 y6.Y1)])) (wn rfl) rfl Try.call50 (evl_cons rfl (evl_cons rfl evl_nil)) (fun W hW => F_etchhouseref9_cellOf_ok N p0 Ap0_0 cp0_0 (Sl.up hp0_0 hW) Ap0_1 cp0_1 (Sl.up hp0_1 hW) Ap0_2 cp0_2 (Sl.up hp0_2 hW) x5 y6 hy6) ?_
          refine Tq.mkFunc (vs := []) (wn rfl) rfl evl_nil ?_
          exact Tq.fin (.cons rfl (.cons rfl (.cons rfl (.cons rfl (.cons rfl (.cons rfl (.cons rfl (.cons rfl (.cons rfl (.cons rfl (.cons rfl (.cons rfl (.cons rfl (.cons rfl (.cons rfl (.cons rfl (.cons rfl (.cons rfl (.cons rfl (.cons rfl (.cons rfl (.cons rfl (.cons rfl (.cons rfl (.cons rfl (.cons rfl (.cons rfl (.cons rfl (.cons rfl .nil)))))))))))))))))))))))))))))
        · intro bs4
          refine Tr.sel (lf := [(2, (.int .i64 p2)), (9, (.pointer (some ⟨(bs4 7), 0, none⟩))), (39, (.agg #[(.int .i64 y6.X0), (.int .i64 y6.Y0), (.int .i64 y6.X1), (.int .i64 y6.Y1)]))]) (le := [(1, bx b1 #[(.int .i64 p0.W), (.int .i64 p0.H), (.int .i64 p0.Rail), (.int .i64 p0.Gap), (.slice Ap0_0 (p0.Kinds).length cp0_0), (.slice Ap0_1 (p0.Slots).length cp0_1), (.slice Ap0_2 (p0.Marks).length cp0_2)] 26), (2, ow none 0 32 fl_TPoint ([] : List TPoint)), (6, bx (bs4 7) #[(.int .i64 0), (.int .i64 0), (.int .i64 0), (.int .i64 0)] 42)]) (.cons rfl (.cons rfl (.cons rfl .nil))) (.cons rfl (.cons rfl (.cons rfl .nil))) ?_
          refine Tr.store 6 (cs := [(.int .i64 y6.X0), (.int .i64 y6.Y0), (.int .i64 y6.X1), (.int .i64 y6.Y1)]) [(.int .i64 y6.X0), (.int .i64 y6.Y0), (.int .i64 y6.X1), (.int .i64 y6.Y1)] (wn rfl) rfl rfl rfl rfl sz_42 rfl rfl rfl ?_
          refine Tr.nil (Tr.normThen ?_)
          refine Tr.seq ?_
          refine Tr.draw (by kernel_rfl) (by kernel_rfl) ?_
          refine Tq.val (wn rfl) rfl (fun _ _ h1 h2 => run_fieldAddr fo_42_2 (h1.ev rfl)) ?_
          refine Tq.val (wn rfl) rfl (fun _ _ h1 h2 => run_load1 ag_3 (h1.ev rfl) (rdb h2 (vs := [(.int .i64 y6.X0), (.int .i64 y6.Y0), (.int .i64 y6.X1), (.int .i64 y6.Y1)]) (k := 6) rfl 2) rfl) ?_
          refine Tq.val (wn rfl) rfl (fun _ _ h1 h2 => run_fieldAddr fo_42_0 (h1.ev rfl)) ?_
          refine Tq.val (wn rfl) rfl (fun _ _ h1 h2 => run_load1 ag_3 (h1.ev rfl) (rdb h2 (vs := [(.int .i64 y6.X0), (.int .i64 y6.Y0), (.int .i64 y6.X1), (.int .i64 y6.Y1)]) (k := 6) rfl 0) rfl) ?_
          refine Tq.val (wn rfl) rfl (fun _ _ h1 h2 => run_sub (h1.ev rfl) (h1.ev rfl)) ?_
          refine Tq.val (wn rfl) rfl (fun _ _ h1 h2 => run_fieldAddr fo_42_3 (h1.ev rfl)) ?_
          refine Tq.val (wn rfl) rfl (fun _ _ h1 h2 => run_load1 ag_3 (h1.ev rfl) (rdb h2 (vs := [(.int .i64 y6.X0), (.int .i64 y6.Y0), (.int .i64 y6.X1), (.int .i64 y6.Y1)]) (k := 6) rfl 3) rfl) ?_
          refine Tq.val (wn rfl) rfl (fun _ _ h1 h2 => run_fieldAddr fo_42_1 (h1.ev rfl)) ?_
          refine Tq.val (wn rfl) rfl (fun _ _ h1 h2 => run_load1 ag_3 (h1.ev rfl) (rdb h2 (vs := [(.int .i64 y6.X0), (.int .i64 y6.Y0), (.int .i64 y6.X1), (.int .i64 y6.Y1)]) (k := 6) rfl 1) rfl) ?_
          refine Tq.val (wn rfl) rfl (fun _ _ h1 h2 => run_sub (h1.ev rfl) (h1.ev rfl)) ?_
          refine Tq.val (wn rfl) rfl (fun _ _ h1 h2 => run_assign (h1.ev rfl)) ?_
          refine Tq.val (wn rfl) rfl (fun _ _ h1 h2 => run_assign (h1.ev rfl)) ?_
          refine Tq.nil (Tr.normThen ?_)
          refine Tr.seq ?_
          refine Tr.seq ?_
          refine Tr.region ?_
          refine Tr.val (wn rfl) rfl (fun _ _ h1 h2 => run_move (h1.ev rfl)) ?_
          refine Tr.val (wn rfl) rfl (fun _ _ h1 h2 => run_move (h1.ev rfl)) ?_
          obtain ⟨y7, hy7, H⟩ := bnd H
          refine Tr.call0 (r := (.int .i64 y7)) (wn rfl) rfl Try.call51 (evl_cons rfl (evl_cons rfl evl_nil)) (fun W hW => F_etchhouseref9_parts_ok (w64 (y6.X1 - y6.X0)) p2 y7 hy7) ?_
          refine Tr.val (wn rfl) rfl (fun _ _ h1 h2 => run_sub (h1.ev rfl) (h1.ev rfl)) ?_
          refine Tr.val (wn rfl) rfl (fun _ _ h1 h2 => run_mul (h1.ev rfl) (h1.ev rfl)) ?_
          refine Tr.val (wn rfl) rfl (fun _ _ h1 h2 => run_move (h1.ev rfl)) ?_
          refine Tr.val (wn rfl) rfl (fun _ _ h1 h2 => run_move (h1.ev rfl)) ?_
          obtain ⟨y8, hy8, H⟩ := bnd H
          refine Tr.call0 (r := (.int .i64 y8)) (wn rfl) rfl Try.call51 (evl_cons rfl (evl_cons rfl evl_nil)) (fun W hW => F_etchhouseref9_parts_ok (w64 (y6.Y1 - y6.Y0)) p2 y8 hy8) ?_
          refine Tr.val (wn rfl) rfl (fun _ _ h1 h2 => run_sub (h1.ev rfl) (h1.ev rfl)) ?_
          refine Tr.val (wn rfl) rfl (fun _ _ h1 h2 => run_mul (h1.ev rfl) (h1.ev rfl)) ?_
          refine Tr.val (wn rfl) rfl (fun _ _ h1 h2 => run_add (h1.ev rfl) (h1.ev rfl)) ?_
          refine Tr.val (wn rfl) rfl (fun _ _ h1 h2 => run_gtr (h1.ev rfl) (h1.ev rfl)) ?_
          refine Tr.nil (Tr.normThen ?_)
          refine Tr.cond rfl H (fun H => ?_) (fun H => ?_)
          · refine Tr.seq ?_
            refine Tr.region ?_
            refine Tr.val (wn rfl) rfl (fun _ _ h1 h2 => run_assign (h1.ev rfl)) ?_
            refine Tr.nilOwn 7 32 fl_TPoint ?_
            refine Tr.val (wn rfl) rfl (fun _ _ h1 h2 => run_assign (h1.ev rfl)) ?_
            refine Tr.nil (Tr.normThen ?_)
            refine Tr.ret (Tr.retThen ?_)
            obtain rfl := Option.some.inj H
            exact Tr.out (m := [(.slice none (([] : List TPoint)).length 0), (.int .i64 2)]) [] (res_tmp rfl (res_tmp rfl res_nil)) (fun W hW => ⟨(none, 0), rfl, slf_nil, hW.below, fun B => ow_loc B _ _ _ _ _, hW.ow (k := 7) rfl, fun b hb => hW.bd 7 b hb⟩)
          · refine Tr.skip (Tr.normThen ?_)
            refine Tr.seq ?_
            refine Tr.region ?_
            refine Tr.val (wn rfl) rfl (fun _ _ h1 h2 => run_assign (h1.ev rfl)) ?_
            refine Tr.nilOwn 8 32 fl_TPoint ?_
            refine Tr.nil (Tr.normThen ?_)
            refine Tr.seq ?_
            refine Tr.seq ?_
            refine Tr.region ?_
            refine Tr.val (wn rfl) rfl (fun _ _ h1 h2 => run_assign (h1.ev rfl)) ?_
            refine Tr.nil (Tr.normThen ?_)
            refine Tr.block ?_
            refine Tr.loop (σ := (List TPoint) × Int × (Option Addr) × Nat) (fun m s => F_etchhouseref9_Tabs_L5 N p2 y6 m s.1 s.2.1 = some r ∧ SlF s.2.2.1 (s.1).length s.2.2.2) (fun s => [(2, (.int .i64 p2)), (9, (.pointer (some ⟨(bs4 7), 0, none⟩))), (10, (.int .i64 (w64 (y6.X1 - y6.X0)))), (11, (.int .i64 (w64 (y6.Y1 - y6.Y0)))), (12, (.slice s.2.2.1 (s.1).length s.2.2.2)), (13, (.int .i64 s.2.1))]) (fun s => [(6, bx (bs4 7) #[(.int .i64 y6.X0), (.int .i64 y6.Y0), (.int .i64 y6.X1), (.int .i64 y6.Y1)] 42), (8, ow s.2.2.1 s.2.2.2 32 fl_TPoint s.1)]) N (([] : List TPoint), 0, none, 0) ⟨H, slf_nil⟩ (.cons rfl (.cons rfl (.cons rfl (.cons rfl (.cons rfl (.cons rfl .nil)))))) (.cons rfl (.cons rfl .nil)) (fun _ h => noSome (h.1)) ?_
            intro mF_etchhouseref9_Tabs_L5 s hs
            obtain ⟨l65, x66, Al65, cl65⟩ := s
            obtain ⟨H, hAl65⟩ := hs
            replace H : F_etchhouseref9_Tabs_L5 N p2 y6 (mF_etchhouseref9_Tabs_L5 + 1) l65 x66 = some r := H
            replace hAl65 : SlF Al65 (l65).length cl65 := hAl65
            rw [F_etchhouseref9_Tabs_L5.eq_2] at H
            show Tr _ _ (LF [(2, (.int .i64 p2)), (9, (.pointer (some ⟨(bs4 7), 0, none⟩))), (10, (.int .i64 (w64 (y6.X1 - y6.X0)))), (11, (.int .i64 (w64 (y6.Y1 - y6.Y0)))), (12, (.slice Al65 (l65).length cl65)), (13, (.int .i64 x66))]) (LE [(6, bx (bs4 7) #[(.int .i64 y6.X0), (.int .i64 y6.Y0), (.int .i64 y6.X1), (.int .i64 y6.Y1)] 42), (8, ow Al65 cl65 32 fl_TPoint l65)]) _
            refine Tr.seq ?_
            refine Tr.seq ?_
            refine Tr.region ?_
            refine Tr.val (wn rfl) rfl (fun _ _ h1 h2 => run_move (h1.ev rfl)) ?_
            refine Tr.val (wn rfl) rfl (fun _ _ h1 h2 => run_lss (h1.ev rfl) (h1.ev rfl)) ?_
            refine Tr.nil (Tr.normThen ?_)
            refine Tr.cond rfl H (fun H => ?_) (fun H => ?_)
            · refine Tr.skip (Tr.normThen ?_)
              refine Tr.seq ?_
              refine Tr.block ?_
              refine Tr.seq ?_
              refine Tr.region ?_
              refine Tr.val (wn rfl) rfl (fun _ _ h1 h2 => run_move (h1.ev rfl)) ?_
              refine Tr.val (wn rfl) rfl (fun _ _ h1 h2 => run_assign (h1.ev rfl)) ?_
              refine Tr.nil (Tr.normThen ?_)
              refine Tr.cutJ (σ := Int) (fun s => F_etchhouseref9_Tabs_J7 N p2 y6 l65 x66 (F_etchhouseref9_Tabs_L5 N p2 y6 mF_etchhouseref9_Tabs_L5) s = some r) (fun s => [(2, (.int .i64 p2)), (9, (.pointer (some ⟨(bs4 7), 0, none⟩))), (10, (.int .i64 (w64 (y6.X1 - y6.X0)))), (11, (.int .i64 (w64 (y6.Y1 - y6.Y0)))), (12, (.slice Al65 (l65).length cl65)), (13, (.int .i64 x66)), (14, (.int .i64 s))]) (fun s => [(6, bx (bs4 7) #[(.int .i64 y6.X0), (.int .i64 y6.Y0), (.int .i64 y6.X1), (.int .i64 y6.Y1)] 42), (8, ow Al65 cl65 32 fl_TPoint l65)]) ?_ ?_
              · refine Tr.seq ?_
                refine Tr.region ?_
                refine Tr.val (wn rfl) rfl (fun _ _ h1 h2 => run_move (h1.ev rfl)) ?_
                refine Tr.val (wn rfl) rfl (fun _ _ h1 h2 => run_rem (h1.ev rfl) (h1.ev rfl) (by decide)) ?_
                refine Tr.val (wn rfl) rfl (fun _ _ h1 h2 => run_eql (h1.ev rfl) (h1.ev rfl)) ?_
                refine Tr.nil (Tr.normThen ?_)
                refine Tr.cond rfl H (fun H => ?_) (fun H => ?_)
                · refine Tr.region ?_
                  refine Tr.val (wn rfl) rfl (fun _ _ h1 h2 => run_move (h1.ev rfl)) ?_
                  refine Tr.val (wn rfl) rfl (fun _ _ h1 h2 => run_assign (h1.ev rfl)) ?_
                  refine Tr.nil ?_
                  exact Tr.backThen (w64 (y6.Y1 - y6.Y0)) H (.cons rfl (.cons rfl (.cons rfl (.cons rfl (.cons rfl (.cons rfl (.cons rfl .nil))))))) (.cons rfl (.cons rfl .nil))
                · refine Tr.skip ?_
                  exact Tr.backThen (w64 (y6.X1 - y6.X0)) H (.cons rfl (.cons rfl (.cons rfl (.cons rfl (.cons rfl (.cons rfl (.cons rfl .nil))))))) (.cons rfl (.cons rfl .nil))
              · intro x67 hs
                have H := hs
                replace H : F_etchhouseref9_Tabs_J7 N p2 y6 l65 x66 (F_etchhouseref9_Tabs_L5 N p2 y6 mF_etchhouseref9_Tabs_L5) x67 = some r := H
                unfold F_etchhouseref9_Tabs_J7 at H
                show Tr _ _ (LF [(2, (.int .i64 p2)), (9, (.pointer (some ⟨(bs4 7), 0, none⟩))), (10, (.int .i64 (w64 (y6.X1 - y6.X0)))), (11, (.int .i64 (w64 (y6.Y1 - y6.Y0)))), (12, (.slice Al65 (l65).length cl65)), (13, (.int .i64 x66)), (14, (.int .i64 x67))]) (LE [(6, bx (bs4 7) #[(.int .i64 y6.X0), (.int .i64 y6.Y0), (.int .i64 y6.X1), (.int .i64 y6.Y1)] 42), (8, ow Al65 cl65 32 fl_TPoint l65)]) _
                refine Tr.seq ?_
                refine Tr.region ?_
                refine Tr.val (wn rfl) rfl (fun _ _ h1 h2 => run_move (h1.ev rfl)) ?_
                refine Tr.val (wn rfl) rfl (fun _ _ h1 h2 => run_move (h1.ev rfl)) ?_
                obtain ⟨y68, hy68, H⟩ := bnd H
                refine Tr.call0 (r := (.int .i64 y68)) (wn rfl) rfl Try.call51 (evl_cons rfl (evl_cons rfl evl_nil)) (fun W hW => F_etchhouseref9_parts_ok x67 p2 y68 hy68) ?_
                refine Tr.val (wn rfl) rfl (fun _ _ h1 h2 => run_assign (h1.ev rfl)) ?_
                refine Tr.nil (Tr.normThen ?_)
                refine Tr.seq ?_
                refine Tr.region ?_
                refine Tr.val (wn rfl) rfl (fun _ _ h1 h2 => run_assign (h1.ev rfl)) ?_
                refine Tr.nil (Tr.normThen ?_)
                refine Tr.block ?_
                refine Tr.loop (σ := (List TPoint) × Int × (Option Addr) × Nat) (fun m s => F_etchhouseref9_Tabs_L6 y6 x66 (F_etchhouseref9_Tabs_L5 N p2 y6 mF_etchhouseref9_Tabs_L5) x67 y68 m s.1 s.2.1 = some r ∧ SlF s.2.2.1 (s.1).length s.2.2.2) (fun s => [(2, (.int .i64 p2)), (9, (.pointer (some ⟨(bs4 7), 0, none⟩))), (10, (.int .i64 (w64 (y6.X1 - y6.X0)))), (11, (.int .i64 (w64 (y6.Y1 - y6.Y0)))), (12, (.slice s.2.2.1 (s.1).length s.2.2.2)), (13, (.int .i64 x66)), (14, (.int .i64 x67)), (15, (.int .i64 y68)), (16, (.int .i64 s.2.1))]) (fun s => [(6, bx (bs4 7) #[(.int .i64 y6.X0), (.int .i64 y6.Y0), (.int .i64 y6.X1), (.int .i64 y6.Y1)] 42), (8, ow s.2.2.1 s.2.2.2 32 fl_TPoint s.1)]) N (l65, 1, Al65, cl65) ⟨H, hAl65⟩ (.cons rfl (.cons rfl (.cons rfl (.cons rfl (.cons rfl (.cons rfl (.cons rfl (.cons rfl (.cons rfl .nil))))))))) (.cons rfl (.cons rfl .nil)) (fun _ h => noSome (h.1)) ?_
                intro mF_etchhouseref9_Tabs_L6 s hs
                obtain ⟨l85, x86, Al85, cl85⟩ := s
                obtain ⟨H, hAl85⟩ := hs
                replace H : F_etchhouseref9_Tabs_L6 y6 x66 (F_etchhouseref9_Tabs_L5 N p2 y6 mF_etchhouseref9_Tabs_L5) x67 y68 (mF_etchhouseref9_Tabs_L6 + 1) l85 x86 = some r := H
                replace hAl85 : SlF Al85 (l85).length cl85 := hAl85
                rw [F_etchhouseref9_Tabs_L6.eq_2] at H
                show Tr _ _ (LF [(2, (.int .i64 p2)), (9, (.pointer (some ⟨(bs4 7), 0, none⟩))), (10, (.int .i64 (w64 (y6.X1 - y6.X0)))), (11, (.int .i64 (w64 (y6.Y1 - y6.Y0)))), (12, (.slice Al85 (l85).length cl85)), (13, (.int .i64 x66)), (14, (.int .i64 x67)), (15, (.int .i64 y68)), (16, (.int .i64 x86))]) (LE [(6, bx (bs4 7) #[(.int .i64 y6.X0), (.int .i64 y6.Y0), (.int .i64 y6.X1), (.int .i64 y6.Y1)] 42), (8, ow Al85 cl85 32 fl_TPoint l85)]) _
                refine Tr.seq ?_
                refine Tr.seq ?_
                refine Tr.region ?_
                refine Tr.val (wn rfl) rfl (fun _ _ h1 h2 => run_move (h1.ev rfl)) ?_
                refine Tr.val (wn rfl) rfl (fun _ _ h1 h2 => run_move (h1.ev rfl)) ?_
                refine Tr.val (wn rfl) rfl (fun _ _ h1 h2 => run_lss (h1.ev rfl) (h1.ev rfl)) ?_
                refine Tr.nil (Tr.normThen ?_)
                refine Tr.cond rfl H (fun H => ?_) (fun H => ?_)
                · refine Tr.skip (Tr.normThen ?_)
                  refine Tr.seq ?_
                  refine Tr.block ?_
                  refine Tr.seq ?_
                  refine Tr.region ?_
                  refine Tr.val (wn rfl) rfl (fun _ _ h1 h2 => run_move (h1.ev rfl)) ?_
                  refine Tr.val (wn rfl) rfl (fun _ _ h1 h2 => run_move (h1.ev rfl)) ?_
                  refine Tr.val (wn rfl) rfl (fun _ _ h1 h2 => run_mul (h1.ev rfl) (h1.ev rfl)) ?_
                  refine Tr.val (wn rfl) rfl (fun _ _ h1 h2 => run_move (h1.ev rfl)) ?_
                  obtain ⟨q87, hq87, H⟩ := bnd H
                  refine Tr.val (wn rfl) rfl (fun _ _ h1 h2 => run_dv (h1.ev rfl) (h1.ev rfl) hq87) ?_
                  refine Tr.val (wn rfl) rfl (fun _ _ h1 h2 => run_assign (h1.ev rfl)) ?_
                  refine Tr.nil (Tr.normThen ?_)
                  refine Tr.seq ?_
                  refine Tr.region ?_
                  refine Tr.val (wn rfl) rfl (fun _ _ h1 h2 => run_move (h1.ev rfl)) ?_
                  refine Tr.nil (Tr.normThen ?_)
                  refine Tr.block ?_
                  refine Tr.seq ?_
                  refine Tr.region ?_
                  refine Tr.val (wn rfl) rfl (fun _ _ h1 h2 => run_eql (h1.ev rfl) (h1.ev rfl)) ?_
                  refine Tr.val (wn rfl) rfl (fun _ _ h1 h2 => run_assign (h1.ev rfl)) ?_
                  refine Tr.nil (Tr.normThen ?_)
                  refine Tr.cond rfl H (fun H => ?_) (fun H => ?_)
                  · refine Tr.region ?_
                    refine Tr.val (wn rfl) rfl (fun _ _ h1 h2 => run_move (h1.ev rfl)) ?_
                    refine Tr.val (wn rfl) rfl (fun _ _ h1 h2 => run_fieldAddr fo_42_0 (h1.ev rfl)) ?_
                    refine Tr.val (wn rfl) rfl (fun _ _ h1 h2 => run_load1 ag_3 (h1.ev rfl) (rdb h2 (vs := [(.int .i64 y6.X0), (.int .i64 y6.Y0), (.int .i64 y6.X1), (.int .i64 y6.Y1)]) (k := 6) rfl 0) rfl) ?_
                    refine Tr.val (wn rfl) rfl (fun _ _ h1 h2 => run_move (h1.ev rfl)) ?_
                    refine Tr.val (wn rfl) rfl (fun _ _ h1 h2 => run_add (h1.ev rfl) (h1.ev rfl)) ?_
                    refine Tr.val (wn rfl) rfl (fun _ _ h1 h2 => run_fieldAddr fo_42_1 (h1.ev rfl)) ?_
                    refine Tr.val (wn rfl) rfl (fun _ _ h1 h2 => run_load1 ag_3 (h1.ev rfl) (rdb h2 (vs := [(.int .i64 y6.X0), (.int .i64 y6.Y0), (.int .i64 y6.X1), (.int .i64 y6.Y1)]) (k := 6) rfl 1) rfl) ?_
                    refine Tr.build (vs := [(0, (.int .i64 (w64 (y6.X0 + q87)))), (1, (.int .i64 y6.Y0))]) (cs := [(.int .i64 (w64 (y6.X0 + q87))), (.int .i64 y6.Y0)]) (wn rfl) rfl (evs_cons rfl (evs_cons rfl evs_nil)) (by kernel_rfl) ?_
                    refine Tr.buildSlice 41 (e := 32) (vs := [(0, (.agg #[(.int .i64 (w64 (y6.X0 + q87))), (.int .i64 y6.Y0)]))]) (cs := [(.int .i64 (w64 (y6.X0 + q87))), (.int .i64 y6.Y0)]) (wn rfl) rfl (evs_cons rfl evs_nil) (by kernel_rfl) fun b41 => ?_
                    obtain ⟨l88, hl88, H⟩ := bnd H
                    refine Tr.append 8 (t := fl_TPoint) (l := l85) (l2 := [(TPoint.mk (w64 (y6.X0 + q87)) y6.Y0)]) (wn rfl) rfl rfl rfl rfl (fun W hW => show CellsAt W _ _ _ from rdb hW (vs := [(.int .i64 (w64 (y6.X0 + q87))), (.int .i64 y6.Y0)]) (k := 41) rfl 0) un_24 sz_32 zl_32 (by decide) by_32 rfl hl88 fun Al88 cl88 hAl88 => ?_
                    refine Tr.val (wn rfl) rfl (fun _ _ h1 h2 => run_assign (h1.ev rfl)) ?_
                    refine Tr.nil (Tr.normBlock (Tr.normBlock (Tr.normThen ?_)))
                    refine Tr.region ?_
                    refine Tr.val (wn rfl) rfl (fun _ _ h1 h2 => run_move (h1.ev rfl)) ?_
                    refine Tr.val (wn rfl) rfl (fun _ _ h1 h2 => run_add (h1.ev rfl) (h1.ev rfl)) ?_
                    refine Tr.val (wn rfl) rfl (fun _ _ h1 h2 => run_assign (h1.ev rfl)) ?_
                    refine Tr.nil ?_
                    exact Tr.backThen (l88, (w64 (x86 + 1)), Al88, cl88) ⟨H, hAl88⟩ (.cons rfl (.cons rfl (.cons rfl (.cons rfl (.cons rfl (.cons rfl (.cons rfl (.cons rfl (.cons rfl .nil))))))))) (.cons rfl (.cons rfl .nil))
                  · refine Tr.seq ?_
                    refine Tr.region ?_
                    refine Tr.val (wn rfl) rfl (fun _ _ h1 h2 => run_eql (h1.ev rfl) (h1.ev rfl)) ?_
                    refine Tr.val (wn rfl) rfl (fun _ _ h1 h2 => run_assign (h1.ev rfl)) ?_
                    refine Tr.nil (Tr.normThen ?_)
                    refine Tr.cond rfl H (fun H => ?_) (fun H => ?_)
                    · refine Tr.region ?_
                      refine Tr.val (wn rfl) rfl (fun _ _ h1 h2 => run_move (h1.ev rfl)) ?_
                      refine Tr.val (wn rfl) rfl (fun _ _ h1 h2 => run_fieldAddr fo_42_2 (h1.ev rfl)) ?_
                      refine Tr.val (wn rfl) rfl (fun _ _ h1 h2 => run_load1 ag_3 (h1.ev rfl) (rdb h2 (vs := [(.int .i64 y6.X0), (.int .i64 y6.Y0), (.int .i64 y6.X1), (.int .i64 y6.Y1)]) (k := 6) rfl 2) rfl) ?_
                      refine Tr.val (wn rfl) rfl (fun _ _ h1 h2 => run_fieldAddr fo_42_1 (h1.ev rfl)) ?_
                      refine Tr.val (wn rfl) rfl (fun _ _ h1 h2 => run_load1 ag_3 (h1.ev rfl) (rdb h2 (vs := [(.int .i64 y6.X0), (.int .i64 y6.Y0), (.int .i64 y6.X1), (.int .i64 y6.Y1)]) (k := 6) rfl 1) rfl) ?_
                      refine Tr.val (wn rfl) rfl (fun _ _ h1 h2 => run_move (h1.ev rfl)) ?_
                      refine Tr.val (wn rfl) rfl (fun _ _ h1 h2 => run_add (h1.ev rfl) (h1.ev rfl)) ?_
                      refine Tr.build (vs := [(0, (.int .i64 y6.X1)), (1, (.int .i64 (w64 (y6.Y0 + q87))))]) (cs := [(.int .i64 y6.X1), (.int .i64 (w64 (y6.Y0 + q87)))]) (wn rfl) rfl (evs_cons rfl (evs_cons rfl evs_nil)) (by kernel_rfl) ?_
                      refine Tr.buildSlice 42 (e := 32) (vs := [(0, (.agg #[(.int .i64 y6.X1), (.int .i64 (w64 (y6.Y0 + q87)))]))]) (cs := [(.int .i64 y6.X1), (.int .i64 (w64 (y6.Y0 + q87)))]) (wn rfl) rfl (evs_cons rfl evs_nil) (by kernel_rfl) fun b42 => ?_
                      obtain ⟨l89, hl89, H⟩ := bnd H
                      refine Tr.append 8 (t := fl_TPoint) (l := l85) (l2 := [(TPoint.mk y6.X1 (w64 (y6.Y0 + q87)))]) (wn rfl) rfl rfl rfl rfl (fun W hW => show CellsAt W _ _ _ from rdb hW (vs := [(.int .i64 y6.X1), (.int .i64 (w64 (y6.Y0 + q87)))]) (k := 42) rfl 0) un_24 sz_32 zl_32 (by decide) by_32 rfl hl89 fun Al89 cl89 hAl89 => ?_
                      refine Tr.val (wn rfl) rfl (fun _ _ h1 h2 => run_assign (h1.ev rfl)) ?_
                      refine Tr.nil (Tr.normBlock (Tr.normBlock (Tr.normThen ?_)))
                      refine Tr.region ?_
                      refine Tr.val (wn rfl) rfl (fun _ _ h1 h2 => run_move (h1.ev rfl)) ?_
                      refine Tr.val (wn rfl) rfl (fun _ _ h1 h2 => run_add (h1.ev rfl) (h1.ev rfl)) ?_
                      refine Tr.val (wn rfl) rfl (fun _ _ h1 h2 => run_assign (h1.ev rfl)) ?_
                      refine Tr.nil ?_
                      exact Tr.backThen (l89, (w64 (x86 + 1)), Al89, cl89) ⟨H, hAl89⟩ (.cons rfl (.cons rfl (.cons rfl (.cons rfl (.cons rfl (.cons rfl (.cons rfl (.cons rfl (.cons rfl .nil))))))))) (.cons rfl (.cons rfl .nil))
                    · refine Tr.seq ?_
                      refine Tr.region ?_
                      refine Tr.val (wn rfl) rfl (fun _ _ h1 h2 => run_eql (h1.ev rfl) (h1.ev rfl)) ?_
                      refine Tr.val (wn rfl) rfl (fun _ _ h1 h2 => run_assign (h1.ev rfl)) ?_
                      refine Tr.nil (Tr.normThen ?_)
                      refine Tr.cond rfl H (fun H => ?_) (fun H => ?_)
                      · refine Tr.region ?_
                        refine Tr.val (wn rfl) rfl (fun _ _ h1 h2 => run_move (h1.ev rfl)) ?_
                        refine Tr.val (wn rfl) rfl (fun _ _ h1 h2 => run_fieldAddr fo_42_2 (h1.ev rfl)) ?_
                        refine Tr.val (wn rfl) rfl (fun _ _ h1 h2 => run_load1 ag_3 (h1.ev rfl) (rdb h2 (vs := [(.int .i64 y6.X0), (.int .i64 y6.Y0), (.int .i64 y6.X1), (.int .i64 y6.Y1)]) (k := 6) rfl 2) rfl) ?_
                        refine Tr.val (wn rfl) rfl (fun _ _ h1 h2 => run_move (h1.ev rfl)) ?_
                        refine Tr.val (wn rfl) rfl (fun _ _ h1 h2 => run_sub (h1.ev rfl) (h1.ev rfl)) ?_
                        refine Tr.val (wn rfl) rfl (fun _ _ h1 h2 => run_fieldAddr fo_42_3 (h1.ev rfl)) ?_
                        refine Tr.val (wn rfl) rfl (fun _ _ h1 h2 => run_load1 ag_3 (h1.ev rfl) (rdb h2 (vs := [(.int .i64 y6.X0), (.int .i64 y6.Y0), (.int .i64 y6.X1), (.int .i64 y6.Y1)]) (k := 6) rfl 3) rfl) ?_
                        refine Tr.build (vs := [(0, (.int .i64 (w64 (y6.X1 - q87)))), (1, (.int .i64 y6.Y1))]) (cs := [(.int .i64 (w64 (y6.X1 - q87))), (.int .i64 y6.Y1)]) (wn rfl) rfl (evs_cons rfl (evs_cons rfl evs_nil)) (by kernel_rfl) ?_
                        refine Tr.buildSlice 43 (e := 32) (vs := [(0, (.agg #[(.int .i64 (w64 (y6.X1 - q87))), (.int .i64 y6.Y1)]))]) (cs := [(.int .i64 (w64 (y6.X1 - q87))), (.int .i64 y6.Y1)]) (wn rfl) rfl (evs_cons rfl evs_nil) (by kernel_rfl) fun b43 => ?_
                        obtain ⟨l90, hl90, H⟩ := bnd H
                        refine Tr.append 8 (t := fl_TPoint) (l := l85) (l2 := [(TPoint.mk (w64 (y6.X1 - q87)) y6.Y1)]) (wn rfl) rfl rfl rfl rfl (fun W hW => show CellsAt W _ _ _ from rdb hW (vs := [(.int .i64 (w64 (y6.X1 - q87))), (.int .i64 y6.Y1)]) (k := 43) rfl 0) un_24 sz_32 zl_32 (by decide) by_32 rfl hl90 fun Al90 cl90 hAl90 => ?_
                        refine Tr.val (wn rfl) rfl (fun _ _ h1 h2 => run_assign (h1.ev rfl)) ?_
                        refine Tr.nil (Tr.normBlock (Tr.normBlock (Tr.normThen ?_)))
                        refine Tr.region ?_
                        refine Tr.val (wn rfl) rfl (fun _ _ h1 h2 => run_move (h1.ev rfl)) ?_
                        refine Tr.val (wn rfl) rfl (fun _ _ h1 h2 => run_add (h1.ev rfl) (h1.ev rfl)) ?_
                        refine Tr.val (wn rfl) rfl (fun _ _ h1 h2 => run_assign (h1.ev rfl)) ?_
                        refine Tr.nil ?_
                        exact Tr.backThen (l90, (w64 (x86 + 1)), Al90, cl90) ⟨H, hAl90⟩ (.cons rfl (.cons rfl (.cons rfl (.cons rfl (.cons rfl (.cons rfl (.cons rfl (.cons rfl (.cons rfl .nil))))))))) (.cons rfl (.cons rfl .nil))
                      · refine Tr.seq ?_
                        refine Tr.region ?_
                        refine Tr.val (wn rfl) rfl (fun _ _ h1 h2 => run_eql (h1.ev rfl) (h1.ev rfl)) ?_
                        refine Tr.val (wn rfl) rfl (fun _ _ h1 h2 => run_assign (h1.ev rfl)) ?_
                        refine Tr.nil (Tr.normThen ?_)
                        refine Tr.cond rfl H (fun H => ?_) (fun H => ?_)
                        · refine Tr.region ?_
                          refine Tr.val (wn rfl) rfl (fun _ _ h1 h2 => run_move (h1.ev rfl)) ?_
                          refine Tr.val (wn rfl) rfl (fun _ _ h1 h2 => run_fieldAddr fo_42_0 (h1.ev rfl)) ?_
                          refine Tr.val (wn rfl) rfl (fun _ _ h1 h2 => run_load1 ag_3 (h1.ev rfl) (rdb h2 (vs := [(.int .i64 y6.X0), (.int .i64 y6.Y0), (.int .i64 y6.X1), (.int .i64 y6.Y1)]) (k := 6) rfl 0) rfl) ?_
                          refine Tr.val (wn rfl) rfl (fun _ _ h1 h2 => run_fieldAddr fo_42_3 (h1.ev rfl)) ?_
                          refine Tr.val (wn rfl) rfl (fun _ _ h1 h2 => run_load1 ag_3 (h1.ev rfl) (rdb h2 (vs := [(.int .i64 y6.X0), (.int .i64 y6.Y0), (.int .i64 y6.X1), (.int .i64 y6.Y1)]) (k := 6) rfl 3) rfl) ?_
                          refine Tr.val (wn rfl) rfl (fun _ _ h1 h2 => run_move (h1.ev rfl)) ?_
                          refine Tr.val (wn rfl) rfl (fun _ _ h1 h2 => run_sub (h1.ev rfl) (h1.ev rfl)) ?_
                          refine Tr.build (vs := [(0, (.int .i64 y6.X0)), (1, (.int .i64 (w64 (y6.Y1 - q87))))]) (cs := [(.int .i64 y6.X0), (.int .i64 (w64 (y6.Y1 - q87)))]) (wn rfl) rfl (evs_cons rfl (evs_cons rfl evs_nil)) (by kernel_rfl) ?_
                          refine Tr.buildSlice 44 (e := 32) (vs := [(0, (.agg #[(.int .i64 y6.X0), (.int .i64 (w64 (y6.Y1 - q87)))]))]) (cs := [(.int .i64 y6.X0), (.int .i64 (w64 (y6.Y1 - q87)))]) (wn rfl) rfl (evs_cons rfl evs_nil) (by kernel_rfl) fun b44 => ?_
                          obtain ⟨l91, hl91, H⟩ := bnd H
                          refine Tr.append 8 (t := fl_TPoint) (l := l85) (l2 := [(TPoint.mk y6.X0 (w64 (y6.Y1 - q87)))]) (wn rfl) rfl rfl rfl rfl (fun W hW => show CellsAt W _ _ _ from rdb hW (vs := [(.int .i64 y6.X0), (.int .i64 (w64 (y6.Y1 - q87)))]) (k := 44) rfl 0) un_24 sz_32 zl_32 (by decide) by_32 rfl hl91 fun Al91 cl91 hAl91 => ?_
                          refine Tr.val (wn rfl) rfl (fun _ _ h1 h2 => run_assign (h1.ev rfl)) ?_
                          refine Tr.nil (Tr.normBlock (Tr.normBlock (Tr.normThen ?_)))
                          refine Tr.region ?_
                          refine Tr.val (wn rfl) rfl (fun _ _ h1 h2 => run_move (h1.ev rfl)) ?_
                          refine Tr.val (wn rfl) rfl (fun _ _ h1 h2 => run_add (h1.ev rfl) (h1.ev rfl)) ?_
                          refine Tr.val (wn rfl) rfl (fun _ _ h1 h2 => run_assign (h1.ev rfl)) ?_
                          refine Tr.nil ?_
                          exact Tr.backThen (l91, (w64 (x86 + 1)), Al91, cl91) ⟨H, hAl91⟩ (.cons rfl (.cons rfl (.cons rfl (.cons rfl (.cons rfl (.cons rfl (.cons rfl (.cons rfl (.cons rfl .nil))))))))) (.cons rfl (.cons rfl .nil))
                        · refine Tr.skip (Tr.normBlock (Tr.normBlock (Tr.normThen ?_)))
                          refine Tr.region ?_
                          refine Tr.val (wn rfl) rfl (fun _ _ h1 h2 => run_move (h1.ev rfl)) ?_
                          refine Tr.val (wn rfl) rfl (fun _ _ h1 h2 => run_add (h1.ev rfl) (h1.ev rfl)) ?_
                          refine Tr.val (wn rfl) rfl (fun _ _ h1 h2 => run_assign (h1.ev rfl)) ?_
                          refine Tr.nil ?_
                          exact Tr.backThen (l85, (w64 (x86 + 1)), Al85, cl85) ⟨H, hAl85⟩ (.cons rfl (.cons rfl (.cons rfl (.cons rfl (.cons rfl (.cons rfl (.cons rfl (.cons rfl (.cons rfl .nil))))))))) (.cons rfl (.cons rfl .nil))
                · refine Tr.exit (Tr.exitThen (Tr.exitThen (Tr.exitBlock (Tr.normBlock (Tr.normThen ?_)))))
                  refine Tr.region ?_
                  refine Tr.val (wn rfl) rfl (fun _ _ h1 h2 => run_move (h1.ev rfl)) ?_
                  refine Tr.val (wn rfl) rfl (fun _ _ h1 h2 => run_add (h1.ev rfl) (h1.ev rfl)) ?_
                  refine Tr.val (wn rfl) rfl (fun _ _ h1 h2 => run_assign (h1.ev rfl)) ?_
                  refine Tr.nil ?_
                  exact Tr.backThen (l85, (w64 (x66 + 1)), Al85, cl85) ⟨H, hAl85⟩ (.cons rfl (.cons rfl (.cons rfl (.cons rfl (.cons rfl (.cons rfl .nil)))))) (.cons rfl (.cons rfl .nil))
            · refine Tr.exit (Tr.exitThen (Tr.exitThen (Tr.exitBlock (Tr.normThen ?_))))
              refine Tr.seq ?_
              refine Tr.region ?_
              refine Tr.val (wn rfl) rfl (fun _ _ h1 h2 => run_move (h1.ev rfl)) ?_
              refine Tr.val (wn rfl) rfl (fun _ _ h1 h2 => run_assign (h1.ev rfl)) ?_
              refine Tr.val (wn rfl) rfl (fun _ _ h1 h2 => run_assign (h1.ev rfl)) ?_
              refine Tr.nil (Tr.normThen ?_)
              refine Tr.ret ?_
              obtain rfl := Option.some.inj H
              exact Tr.out (m := [(.slice Al65 (l65).length cl65), (.int .i64 0)]) [] (res_tmp rfl (res_tmp rfl res_nil)) (fun W hW => ⟨(Al65, cl65), rfl, hAl65, hW.below, fun B => ow_loc B _ _ _ _ _, hW.ow (k := 8) rfl, fun b hb => hW.bd 8 b hb⟩)

theorem F_slices_Equal_Point_ok {w : World} (p0 : (List TPoint)) (Ap0_0 : Option Addr) (cp0_0 : Nat) (hp0_0 : Sl (lo w.heap.size) w fl_TPoint Ap0_0 cp0_0 p0) (p1 : (List TPoint)) (Ap1_0 : Option Addr) (cp1_0 : Nat) (hp1_0 : Sl (lo w.heap.size) w fl_TPoint Ap1_0 cp1_0 p1) (r : Bool) (H : F_slices_Equal_Point p0 p1 = some r) : Calls Try.prog 19 [(.slice Ap0_0 (p0).length cp0_0), (.slice Ap1_0 (p1).length cp1_0)].toArray w fun e W' => e = .returned (.bool r) ∧ Below w.heap.size w W' := by
  unfold F_slices_Equal_Point at H
  refine Tr.enter (n := 26) Try.func19 rfl rfl rfl ?_
  refine Tr.seq ?_
  refine Tr.region ?_
  refine Tr.val (wn rfl) rfl (fun _ _ h1 h2 => run_assign (h1.ev rfl)) ?_
  refine Tr.nil (Tr.normThen ?_)
  refine Tr.seq ?_
  refine Tr.seq ?_
  refine Tr.region ?_
  refine Tr.val (wn rfl) rfl (fun _ _ h1 h2 => run_move (h1.ev rfl)) ?_
  refine Tr.val (wn rfl) rfl (fun _ _ h1 h2 => run_len un_24 (h1.ev rfl)) ?_
  refine Tr.val (wn rfl) rfl (fun _ _ h1 h2 => run_move (h1.ev rfl)) ?_
  refine Tr.val (wn rfl) rfl (fun _ _ h1 h2 => run_len un_24 (h1.ev rfl)) ?_
  refine Tr.val (wn rfl) rfl (fun _ _ h1 h2 => run_neq (h1.ev rfl) (h1.ev rfl)) ?_
  refine Tr.nil (Tr.normThen ?_)
  refine Tr.cond rfl H (fun H => ?_) (fun H => ?_)
  · refine Tr.seq ?_
    refine Tr.region ?_
    refine Tr.val (wn rfl) rfl (fun _ _ h1 h2 => run_assign (h1.ev rfl)) ?_
    refine Tr.nil (Tr.normThen ?_)
    refine Tr.ret (Tr.retThen ?_)
    obtain rfl := Option.some.inj H
    exact Tr.out (m := [(.bool false)]) [] (res_tmp rfl res_nil) (fun W hW => ⟨rfl, hW.below⟩)
  · refine Tr.skip (Tr.normThen ?_)
    refine Tr.seq ?_
    refine Tr.seq ?_
    refine Tr.region ?_
    refine Tr.val (wn rfl) rfl (fun _ _ h1 h2 => run_move (h1.ev rfl)) ?_
    refine Tr.val (wn rfl) rfl (fun _ _ h1 h2 => run_len un_24 (h1.ev rfl)) ?_
    refine Tr.val (wn rfl) rfl (fun _ _ h1 h2 => run_move (h1.ev rfl)) ?_
    refine Tr.nil (Tr.normThen ?_)
    refine Tr.block ?_
    refine Tr.loop (σ := (List TPoint) × Nat) (fun m s => m = s.1.length + 1 ∧ s.1 = List.drop s.2 p0 ∧ s.2 ≤ p0.length ∧ F_slices_Equal_Point_L1 p1 s.1 s.2 = some r) (fun s => [(0, (.slice Ap0_0 (p0).length cp0_0)), (1, (.slice Ap1_0 (p1).length cp1_0)), (12, (.int .i64 (p0.length : Int))), (13, (.int .i64 (s.2 : Int)))]) (fun s => []) (p0.length + 1) (p0, 0) ⟨rfl, rfl, Nat.zero_le _, H⟩ (.cons rfl (.cons rfl (.cons rfl (.cons rfl .nil)))) .nil (fun _ h => absurd h.1 (by simp)) ?_
    intro m s hs
    obtain ⟨restF_slices_Equal_Point_L1, iF_slices_Equal_Point_L1⟩ := s
    obtain ⟨hmF_slices_Equal_Point_L1, hdF_slices_Equal_Point_L1, hiF_slices_Equal_Point_L1, H⟩ := hs
    replace hdF_slices_Equal_Point_L1 : restF_slices_Equal_Point_L1 = List.drop iF_slices_Equal_Point_L1 p0 := hdF_slices_Equal_Point_L1
    replace H : F_slices_Equal_Point_L1 p1 restF_slices_Equal_Point_L1 iF_slices_Equal_Point_L1 = some r := H
    replace hmF_slices_Equal_Point_L1 : m + 1 = restF_slices_Equal_Point_L1.length + 1 := hmF_slices_Equal_Point_L1
    obtain rfl : m = restF_slices_Equal_Point_L1.length := by omega
    clear hmF_slices_Equal_Point_L1
    show Tr _ _ (LF [(0, (.slice Ap0_0 (p0).length cp0_0)), (1, (.slice Ap1_0 (p1).length cp1_0)), (12, (.int .i64 (p0.length : Int))), (13, (.int .i64 (iF_slices_Equal_Point_L1 : Int)))]) (LE []) _
    cases restF_slices_Equal_Point_L1 with
    | nil =>
      rw [F_slices_Equal_Point_L1.eq_1] at H
      refine Tr.seq ?_
      refine Tr.region ?_
      refine Tr.val (wn rfl) rfl (fun _ _ h1 h2 => run_lss (h1.ev rfl) (h1.ev rfl)) ?_
      refine Tr.nil (Tr.normThen ?_)
      refine Tr.seq ?_
      refine Tr.condF rfl (range_nil hdF_slices_Equal_Point_L1) ?_
      refine Tr.exit (Tr.exitThen (Tr.exitThen (Tr.exitBlock (Tr.normThen ?_))))
      refine Tr.seq ?_
      refine Tr.region ?_
      refine Tr.val (wn rfl) rfl (fun _ _ h1 h2 => run_assign (h1.ev rfl)) ?_
      refine Tr.nil (Tr.normThen ?_)
      refine Tr.ret ?_
      obtain rfl := Option.some.inj H
      exact Tr.out (m := [(.bool true)]) [] (res_tmp rfl res_nil) (fun W hW => ⟨rfl, hW.below⟩)
    | cons xF_slices_Equal_Point_L1 restF_slices_Equal_Point_L1 =>
      rw [F_slices_Equal_Point_L1.eq_2] at H
      refine Tr.seq ?_
      refine Tr.region ?_
      refine Tr.val (wn rfl) rfl (fun _ _ h1 h2 => run_lss (h1.ev rfl) (h1.ev rfl)) ?_
      refine Tr.nil (Tr.normThen ?_)
      refine Tr.seq ?_
      refine Tr.condT rfl (range_on hdF_slices_Equal_Point_L1) ?_
      refine Tr.skip (Tr.normThen ?_)
      refine Tr.seq ?_
      refine Tr.block ?_
      refine Tr.seq ?_
      refine Tr.region ?_
      refine Tr.val (wn rfl) rfl (fun _ _ h1 h2 => run_move (h1.ev rfl)) ?_
      refine Tr.val (wn rfl) rfl (fun _ _ h1 h2 => run_assign (h1.ev rfl)) ?_
      refine Tr.nil (Tr.normThen ?_)
      refine Tr.seq ?_
      refine Tr.draw (by kernel_rfl) (by kernel_rfl) ?_
      refine Tq.val (wn rfl) rfl (fun _ _ h1 h2 => run_move (h1.ev rfl)) ?_
      refine Tq.val (wn rfl) rfl (fun _ _ h1 h2 => run_move (h1.ev rfl)) ?_
      refine Tq.val (wn rfl) rfl (fun _ _ h1 h2 => run_indexAddr el_24 (h1.ev rfl) hp0_0.form (h1.ev rfl) (Int.natCast_nonneg _) (range_lt hdF_slices_Equal_Point_L1)) ?_
      refine Tq.val (wn rfl) rfl (fun _ _ h1 h2 => run_loadN (cs := [(.int .i64 xF_slices_Equal_Point_L1.X), (.int .i64 xF_slices_Equal_Point_L1.Y)]) ag_32 sz_32 (h1.ev rfl) (CellsAt.take (Rd.arg hp0_0 (range_at hdF_slices_Equal_Point_L1) _ h2) 2) rfl) ?_
      refine Tq.val (wn rfl) rfl (fun _ _ h1 h2 => run_move (h1.ev rfl)) ?_
      refine Tq.val (wn rfl) rfl (fun _ _ h1 h2 => run_move (h1.ev rfl)) ?_
      obtain ⟨x4, hx4, H⟩ := bnd H
      obtain ⟨hx40, hx41, hx42⟩ := idx_some hx4
      refine Tq.val (wn rfl) rfl (fun _ _ h1 h2 => run_indexAddr el_24 (h1.ev rfl) hp1_0.form (h1.ev rfl) hx40 hx41) ?_
      refine Tq.val (wn rfl) rfl (fun _ _ h1 h2 => run_loadN (cs := [(.int .i64 x4.X), (.int .i64 x4.Y)]) ag_32 sz_32 (h1.ev rfl) (CellsAt.take (Rd.arg hp1_0 hx42 _ h2) 2) rfl) ?_
      refine Tq.val (wn rfl) rfl (fun _ _ h1 h2 => run_neq_32 xF_slices_Equal_Point_L1 x4 (h1.ev rfl) (h1.ev rfl)) ?_
      refine Tq.nil (Tr.normThen ?_)
      refine Tr.cond rfl H (fun H => ?_) (fun H => ?_)
      · refine Tr.seq ?_
        refine Tr.region ?_
        refine Tr.val (wn rfl) rfl (fun _ _ h1 h2 => run_assign (h1.ev rfl)) ?_
        refine Tr.nil (Tr.normThen ?_)
        refine Tr.ret (Tr.retBlock (Tr.retThen (Tr.retThen (Tr.retBlock (Tr.retThen ?_)))))
        obtain rfl := Option.some.inj H
        exact Tr.out (m := [(.bool false)]) [] (res_tmp rfl res_nil) (fun W hW => ⟨rfl, hW.below⟩)
      · refine Tr.skip (Tr.normBlock (Tr.normThen ?_))
        refine Tr.region ?_
        refine Tr.val (wn rfl) rfl (fun _ _ h1 h2 => run_add (h1.ev rfl) (h1.ev rfl)) ?_
        refine Tr.val (wn rfl) rfl (fun _ _ h1 h2 => run_move (h1.ev rfl)) ?_
        refine Tr.nil ?_
        exact Tr.backThen (restF_slices_Equal_Point_L1, (iF_slices_Equal_Point_L1 + 1)) ⟨rfl, range_tl hdF_slices_Equal_Point_L1, range_lt hdF_slices_Equal_Point_L1, H⟩ (.cons rfl (.cons rfl (.cons rfl (.cons (congrArg (fun z => some (Value.int .i64 z)) (range_up hdF_slices_Equal_Point_L1 hp0_0.form)) .nil)))) .nil

theorem F_shape_AreaOf_ok {w : World} (p0 : (List TRect)) (Ap0_0 : Option Addr) (cp0_0 : Nat) (hp0_0 : Sl (lo w.heap.size) w fl_TRect Ap0_0 cp0_0 p0) (r : Int) (H : F_shape_AreaOf p0 = some r) : Calls Try.prog 88 [(.slice Ap0_0 (p0).length cp0_0)].toArray w fun e W' => e = .returned (.int .i64 r) ∧ Below w.heap.size w W' := by
  unfold F_shape_AreaOf at H
  refine Tr.enter (n := 27) Try.func88 rfl rfl rfl ?_
  refine Tr.seq ?_
  refine Tr.region ?_
  refine Tr.val (wn rfl) rfl (fun _ _ h1 h2 => run_assign (h1.ev rfl)) ?_
  refine Tr.nil (Tr.normThen ?_)
  refine Tr.seq ?_
  refine Tr.region ?_
  refine Tr.val (wn rfl) rfl (fun _ _ h1 h2 => run_assign (h1.ev rfl)) ?_
  refine Tr.nil (Tr.normThen ?_)
  refine Tr.seq ?_
  refine Tr.seq ?_
  refine Tr.region ?_
  refine Tr.val (wn rfl) rfl (fun _ _ h1 h2 => run_move (h1.ev rfl)) ?_
  refine Tr.val (wn rfl) rfl (fun _ _ h1 h2 => run_len un_38 (h1.ev rfl)) ?_
  refine Tr.val (wn rfl) rfl (fun _ _ h1 h2 => run_move (h1.ev rfl)) ?_
  refine Tr.nil (Tr.normThen ?_)
  refine Tr.block ?_
  refine Tr.loop (σ := (List TRect) × Nat × Int) (fun m s => m = s.1.length + 1 ∧ s.1 = List.drop s.2.1 p0 ∧ s.2.1 ≤ p0.length ∧ F_shape_AreaOf_L1 s.1 s.2.1 s.2.2 = some r) (fun s => [(3, (.int .i64 s.2.2)), (6, (.slice Ap0_0 (p0).length cp0_0)), (7, (.int .i64 (p0.length : Int))), (8, (.int .i64 (s.2.1 : Int)))]) (fun s => []) (p0.length + 1) (p0, 0, 0) ⟨rfl, rfl, Nat.zero_le _, H⟩ (.cons rfl (.cons rfl (.cons rfl (.cons rfl .nil)))) .nil (fun _ h => absurd h.1 (by simp)) ?_
  intro m s hs
  obtain ⟨restF_shape_AreaOf_L1, iF_shape_AreaOf_L1, x9⟩ := s
  obtain ⟨hmF_shape_AreaOf_L1, hdF_shape_AreaOf_L1, hiF_shape_AreaOf_L1, H⟩ := hs
  replace hdF_shape_AreaOf_L1 : restF_shape_AreaOf_L1 = List.drop iF_shape_AreaOf_L1 p0 := hdF_shape_AreaOf_L1
  replace H : F_shape_AreaOf_L1 restF_shape_AreaOf_L1 iF_shape_AreaOf_L1 x9 = some r := H
  replace hmF_shape_AreaOf_L1 : m + 1 = restF_shape_AreaOf_L1.length + 1 := hmF_shape_AreaOf_L1
  obtain rfl : m = restF_shape_AreaOf_L1.length := by omega
  clear hmF_shape_AreaOf_L1
  show Tr _ _ (LF [(3, (.int .i64 x9)), (6, (.slice Ap0_0 (p0).length cp0_0)), (7, (.int .i64 (p0.length : Int))), (8, (.int .i64 (iF_shape_AreaOf_L1 : Int)))]) (LE []) _
  cases restF_shape_AreaOf_L1 with
  | nil =>
    rw [F_shape_AreaOf_L1.eq_1] at H
    refine Tr.seq ?_
    refine Tr.region ?_
    refine Tr.val (wn rfl) rfl (fun _ _ h1 h2 => run_lss (h1.ev rfl) (h1.ev rfl)) ?_
    refine Tr.nil (Tr.normThen ?_)
    refine Tr.seq ?_
    refine Tr.condF rfl (range_nil hdF_shape_AreaOf_L1) ?_
    refine Tr.exit (Tr.exitThen (Tr.exitThen (Tr.exitBlock (Tr.normThen ?_))))
    refine Tr.seq ?_
    refine Tr.region ?_
    refine Tr.val (wn rfl) rfl (fun _ _ h1 h2 => run_move (h1.ev rfl)) ?_
    refine Tr.val (wn rfl) rfl (fun _ _ h1 h2 => run_assign (h1.ev rfl)) ?_
    refine Tr.nil (Tr.normThen ?_)
    refine Tr.ret ?_
    obtain rfl := Option.some.inj H
    exact Tr.out (m := [(.int .i64 x9)]) [] (res_tmp rfl res_nil) (fun W hW => ⟨rfl, hW.below⟩)
  | cons xF_shape_AreaOf_L1 restF_shape_AreaOf_L1 =>
    rw [F_shape_AreaOf_L1.eq_2] at H
    refine Tr.seq ?_
    refine Tr.region ?_
    refine Tr.val (wn rfl) rfl (fun _ _ h1 h2 => run_lss (h1.ev rfl) (h1.ev rfl)) ?_
    refine Tr.nil (Tr.normThen ?_)
    refine Tr.seq ?_
    refine Tr.condT rfl (range_on hdF_shape_AreaOf_L1) ?_
    refine Tr.skip (Tr.normThen ?_)
    refine Tr.seq ?_
    refine Tr.block ?_
    refine Tr.seq ?_
    refine Tr.region ?_
    refine Tr.val (wn rfl) rfl (fun _ _ h1 h2 => run_indexAddr el_38 (h1.ev rfl) hp0_0.form (h1.ev rfl) (Int.natCast_nonneg _) (range_lt hdF_shape_AreaOf_L1)) ?_
    refine Tr.val (wn rfl) rfl (fun _ _ h1 h2 => run_loadN (cs := [(.int .i64 xF_shape_AreaOf_L1.X0), (.int .i64 xF_shape_AreaOf_L1.Y0), (.int .i64 xF_shape_AreaOf_L1.X1), (.int .i64 xF_shape_AreaOf_L1.Y1)]) ag_42 sz_42 (h1.ev rfl) (CellsAt.take (Rd.arg hp0_0 (range_at hdF_shape_AreaOf_L1) _ h2) 4) rfl) ?_
    refine Tr.alloc 3 (wn rfl) rfl ze_42 fun b3 => ?_
    refine Tr.store 3 (cs := [(.int .i64 xF_shape_AreaOf_L1.X0), (.int .i64 xF_shape_AreaOf_L1.Y0), (.int .i64 xF_shape_AreaOf_L1.X1), (.int .i64 xF_shape_AreaOf_L1.Y1)]) [(.int .i64 xF_shape_AreaOf_L1.X0), (.int .i64 xF_shape_AreaOf_L1.Y0), (.int .i64 xF_shape_AreaOf_L1.X1), (.int .i64 xF_shape_AreaOf_L1.Y1)] (wn rfl) rfl rfl rfl rfl sz_42 rfl rfl rfl ?_
    refine Tr.nil (Tr.normThen ?_)
    refine Tr.region ?_
    refine Tr.val (wn rfl) rfl (fun _ _ h1 h2 => run_move (h1.ev rfl)) ?_
    refine Tr.val (wn rfl) rfl (fun _ _ h1 h2 => run_fieldAddr fo_42_2 (h1.ev rfl)) ?_
    refine Tr.val (wn rfl) rfl (fun _ _ h1 h2 => run_load1 ag_3 (h1.ev rfl) (rdb h2 (vs := [(.int .i64 xF_shape_AreaOf_L1.X0), (.int .i64 xF_shape_AreaOf_L1.Y0), (.int .i64 xF_shape_AreaOf_L1.X1), (.int .i64 xF_shape_AreaOf_L1.Y1)]) (k := 3) rfl 2) rfl) ?_
    refine Tr.val (wn rfl) rfl (fun _ _ h1 h2 => run_fieldAddr fo_42_0 (h1.ev rfl)) ?_
    refine Tr.val (wn rfl) rfl (fun _ _ h1 h2 => run_load1 ag_3 (h1.ev rfl) (rdb h2 (vs := [(.int .i64 xF_shape_AreaOf_L1.X0), (.int .i64 xF_shape_AreaOf_L1.Y0), (.int .i64 xF_shape_AreaOf_L1.X1), (.int .i64 xF_shape_AreaOf_L1.Y1)]) (k := 3) rfl 0) rfl) ?_
    refine Tr.val (wn rfl) rfl (fun _ _ h1 h2 => run_sub (h1.ev rfl) (h1.ev rfl)) ?_
    refine Tr.val (wn rfl) rfl (fun _ _ h1 h2 => run_fieldAddr fo_42_3 (h1.ev rfl)) ?_
    refine Tr.val (wn rfl) rfl (fun _ _ h1 h2 => run_load1 ag_3 (h1.ev rfl) (rdb h2 (vs := [(.int .i64 xF_shape_AreaOf_L1.X0), (.int .i64 xF_shape_AreaOf_L1.Y0), (.int .i64 xF_shape_AreaOf_L1.X1), (.int .i64 xF_shape_AreaOf_L1.Y1)]) (k := 3) rfl 3) rfl) ?_
    refine Tr.val (wn rfl) rfl (fun _ _ h1 h2 => run_fieldAddr fo_42_1 (h1.ev rfl)) ?_
    refine Tr.val (wn rfl) rfl (fun _ _ h1 h2 => run_load1 ag_3 (h1.ev rfl) (rdb h2 (vs := [(.int .i64 xF_shape_AreaOf_L1.X0), (.int .i64 xF_shape_AreaOf_L1.Y0), (.int .i64 xF_shape_AreaOf_L1.X1), (.int .i64 xF_shape_AreaOf_L1.Y1)]) (k := 3) rfl 1) rfl) ?_
    refine Tr.val (wn rfl) rfl (fun _ _ h1 h2 => run_sub (h1.ev rfl) (h1.ev rfl)) ?_
    refine Tr.val (wn rfl) rfl (fun _ _ h1 h2 => run_mul (h1.ev rfl) (h1.ev rfl)) ?_
    refine Tr.val (wn rfl) rfl (fun _ _ h1 h2 => run_add (h1.ev rfl) (h1.ev rfl)) ?_
    refine Tr.val (wn rfl) rfl (fun _ _ h1 h2 => run_assign (h1.ev rfl)) ?_
    refine Tr.nil (Tr.normBlock (Tr.normThen ?_))
    refine Tr.region ?_
    refine Tr.val (wn rfl) rfl (fun _ _ h1 h2 => run_add (h1.ev rfl) (h1.ev rfl)) ?_
    refine Tr.val (wn rfl) rfl (fun _ _ h1 h2 => run_move (h1.ev rfl)) ?_
    refine Tr.nil ?_
    exact Tr.backThen (restF_shape_AreaOf_L1, (iF_shape_AreaOf_L1 + 1), (w64 (x9 + (w64 ((w64 (xF_shape_AreaOf_L1.X1 - xF_shape_AreaOf_L1.X0)) * (w64 (xF_shape_AreaOf_L1.Y1 - xF_shape_AreaOf_L1.Y0))))))) ⟨rfl, range_tl hdF_shape_AreaOf_L1, range_lt hdF_shape_AreaOf_L1, H⟩ (.cons rfl (.cons rfl (.cons rfl (.cons (congrArg (fun z => some (Value.int .i64 z)) (range_up hdF_shape_AreaOf_L1 hp0_0.form)) .nil)))) .nil

theorem F_panel_Lowest_ok (N : Nat) {w : World} (p0 : Int) (p1 : Int) (r : TShare) (H : F_panel_Lowest N p0 p1 = some r) : Calls Try.prog 87 [(.int .i64 p0), (.int .i64 p1)].toArray w fun e W' => e = .returned (.agg #[(.int .i64 r.Num), (.int .i64 r.Den)]) ∧ Below w.heap.size w W' := by
  unfold F_panel_Lowest at H
  refine Tr.enter (n := 22) Try.func87 rfl rfl rfl ?_
  refine Tr.seq ?_
  refine Tr.region ?_
  refine Tr.alloc 1 (wn rfl) rfl ze_70 fun b1 => ?_
  refine Tr.nil (Tr.normThen ?_)
  refine Tr.seq ?_
  refine Tr.region ?_
  refine Tr.val (wn rfl) rfl (fun _ _ h1 h2 => run_move (h1.ev rfl)) ?_
  refine Tr.val (wn rfl) rfl (fun _ _ h1 h2 => run_move (h1.ev rfl)) ?_
  refine Tr.val (wn rfl) rfl (fun _ _ h1 h2 => run_assign (h1.ev rfl)) ?_
  refine Tr.val (wn rfl) rfl (fun _ _ h1 h2 => run_assign (h1.ev rfl)) ?_
  refine Tr.nil (Tr.normThen ?_)
  refine Tr.seq ?_
  refine Tr.block ?_
  refine Tr.loop (σ := Int × Int) (fun m s => F_panel_Lowest_L1 p0 p1 m s.1 s.2 = some r) (fun s => [(0, (.int .i64 p0)), (1, (.int .i64 p1)), (4, (.pointer (some ⟨b1, 0, none⟩))), (5, (.int .i64 s.1)), (6, (.int .i64 s.2))]) (fun s => [(1, bx b1 #[(.int .i64 0), (.int .i64 0)] 70)]) N (p0, p1) H (.cons rfl (.cons rfl (.cons rfl (.cons rfl (.cons rfl .nil))))) (.cons rfl .nil) (fun _ h => noSome (h)) ?_
  intro mF_panel_Lowest_L1 s hs
  obtain ⟨x9, x10⟩ := s
  have H := hs
  replace H : F_panel_Lowest_L1 p0 p1 (mF_panel_Lowest_L1 + 1) x9 x10 = some r := H
  rw [F_panel_Lowest_L1.eq_2] at H
  show Tr _ _ (LF [(0, (.int .i64 p0)), (1, (.int .i64 p1)), (4, (.pointer (some ⟨b1, 0, none⟩))), (5, (.int .i64 x9)), (6, (.int .i64 x10))]) (LE [(1, bx b1 #[(.int .i64 0), (.int .i64 0)] 70)]) _
  refine Tr.seq ?_
  refine Tr.seq ?_
  refine Tr.region ?_
  refine Tr.val (wn rfl) rfl (fun _ _ h1 h2 => run_move (h1.ev rfl)) ?_
  refine Tr.val (wn rfl) rfl (fun _ _ h1 h2 => run_neq (h1.ev rfl) (h1.ev rfl)) ?_
  refine Tr.nil (Tr.normThen ?_)
  refine Tr.cond rfl H (fun H => ?_) (fun H => ?_)
  · refine Tr.skip (Tr.normThen ?_)
    refine Tr.block ?_
    refine Tr.draw (by kernel_rfl) (by kernel_rfl) ?_
    refine Tq.val (wn rfl) rfl (fun _ _ h1 h2 => run_move (h1.ev rfl)) ?_
    refine Tq.val (wn rfl) rfl (fun _ _ h1 h2 => run_move (h1.ev rfl)) ?_
    refine Tq.val (wn rfl) rfl (fun _ _ h1 h2 => run_move (h1.ev rfl)) ?_
    obtain ⟨q11, hq11, H⟩ := bnd H
    refine Tq.val (wn rfl) rfl (fun _ _ h1 h2 => run_md (h1.ev rfl) (h1.ev rfl) hq11) ?_
    refine Tq.val (wn rfl) rfl (fun _ _ h1 h2 => run_assign (h1.ev rfl)) ?_
    refine Tq.val (wn rfl) rfl (fun _ _ h1 h2 => run_assign (h1.ev rfl)) ?_
    refine Tq.nil (Tr.normBlock ?_)
    exact Tr.backThen (x10, q11) H (.cons rfl (.cons rfl (.cons rfl (.cons rfl (.cons rfl .nil))))) (.cons rfl .nil)
  · refine Tr.exit (Tr.exitThen (Tr.exitThen (Tr.exitBlock (Tr.normThen ?_))))
    refine Tr.seq ?_
    refine Tr.drawTail 6 (by kernel_rfl) (by kernel_rfl) ?_
    refine Tq.val (wn rfl) rfl (fun _ _ h1 h2 => run_move (h1.ev rfl)) ?_
    refine Tq.val (wn rfl) rfl (fun _ _ h1 h2 => run_move (h1.ev rfl)) ?_
    obtain ⟨q12, hq12, H⟩ := bnd H
    refine Tq.val (wn rfl) rfl (fun _ _ h1 h2 => run_dv (h1.ev rfl) (h1.ev rfl) hq12) ?_
    refine Tq.val (wn rfl) rfl (fun _ _ h1 h2 => run_move (h1.ev rfl)) ?_
    refine Tq.val (wn rfl) rfl (fun _ _ h1 h2 => run_move (h1.ev rfl)) ?_
    obtain ⟨q13, hq13, H⟩ := bnd H
    refine Tq.val (wn rfl) rfl (fun _ _ h1 h2 => run_dv (h1.ev rfl) (h1.ev rfl) hq13) ?_
    refine Tq.nil ?_
    refine Tr.build (vs := [(0, (.int .i64 q12)), (1, (.int .i64 q13))]) (cs := [(.int .i64 q12), (.int .i64 q13)]) (wn rfl) rfl (evs_cons rfl (evs_cons rfl evs_nil)) (by kernel_rfl) ?_
    refine Tr.store 1 (cs := [(.int .i64 q12), (.int .i64 q13)]) [(.int .i64 q12), (.int .i64 q13)] (wn rfl) rfl rfl rfl rfl sz_70 rfl rfl rfl ?_
    refine Tr.nil (Tr.normThen ?_)
    refine Tr.ret ?_
    obtain rfl := Option.some.inj H
    exact Tr.out (m := [(.agg #[(.int .i64 q12), (.int .i64 q13)])]) [1] (res_cell rfl rfl ag_70 sz_70 res_nil) (fun W hW => ⟨rfl, hW.below⟩)

theorem F_panel_Use_ok (N : Nat) {w : World} (p0 : TPanel) (Ap0_0 : Option Addr) (cp0_0 : Nat) (hp0_0 : Sl (lo w.heap.size) w fl_TBoardKind Ap0_0 cp0_0 p0.Kinds) (Ap0_1 : Option Addr) (cp0_1 : Nat) (hp0_1 : Sl (lo w.heap.size) w fl_TSlot Ap0_1 cp0_1 p0.Slots) (Ap0_2 : Option Addr) (cp0_2 : Nat) (hp0_2 : Sl (lo w.heap.size) w fl_TPoint Ap0_2 cp0_2 p0.Marks) (r : (TShare × Int)) (H : F_panel_Use N p0 = some r) : Calls Try.prog 41 [(.agg #[(.int .i64 p0.W), (.int .i64 p0.H), (.int .i64 p0.Rail), (.int .i64 p0.Gap), (.slice Ap0_0 (p0.Kinds).length cp0_0), (.slice Ap0_1 (p0.Slots).length cp0_1), (.slice Ap0_2 (p0.Marks).length cp0_2)])].toArray w fun e W' => e = .returned (.tuple #[(.agg #[(.int .i64 r.1.Num), (.int .i64 r.1.Den)]), (.int .i64 r.2)]) ∧ Below w.heap.size w W' := by
  unfold F_panel_Use at H
  refine Tr.enter (n := 23) Try.func41 rfl rfl rfl ?_
  refine Tr.seq ?_
  refine Tr.region ?_
  refine Tr.box 1 (cs := [(.int .i64 p0.W), (.int .i64 p0.H), (.int .i64 p0.Rail), (.int .i64 p0.Gap), (.slice Ap0_0 (p0.Kinds).length cp0_0), (.slice Ap0_1 (p0.Slots).length cp0_1), (.slice Ap0_2 (p0.Marks).length cp0_2)]) (wn rfl) rfl rfl rfl fun b1 => ?_
  refine Tr.alloc 2 (wn rfl) rfl ze_70 fun b2 => ?_
  refine Tr.val (wn rfl) rfl (fun _ _ h1 h2 => run_assign (h1.ev rfl)) ?_
  refine Tr.nil (Tr.normThen ?_)
  refine Tr.seq ?_
  refine Tr.region ?_
  refine Tr.val (wn rfl) rfl (fun _ _ h1 h2 => run_loadN (cs := [(.int .i64 p0.W), (.int .i64 p0.H), (.int .i64 p0.Rail), (.int .i64 p0.Gap), (.slice Ap0_0 (p0.Kinds).length cp0_0), (.slice Ap0_1 (p0.Slots).length cp0_1), (.slice Ap0_2 (p0.Marks).length cp0_2)]) ag_26 sz_26 (h1.ev rfl) (CellsAt.take (rdb h2 (vs := [(.int .i64 p0.W), (.int .i64 p0.H), (.int .i64 p0.Rail), (.int .i64 p0.Gap), (.slice Ap0_0 (p0.Kinds).length cp0_0), (.slice Ap0_1 (p0.Slots).length cp0_1), (.slice Ap0_2 (p0.Marks).length cp0_2)]) (k := 1) rfl 0) 7) rfl) ?_
  obtain ⟨y1, hy1, H⟩ := bnd H
  refine Tr.call 3 (U := Option Addr × Nat) (fun u => (.tuple #[(.slice u.1 (y1.1).length u.2), (.int .i64 y1.2)])) (fun u => SlF u.1 (y1.1).length u.2) (fun u => ow u.1 u.2 42 fl_TRect y1.1) (wn rfl) rfl Try.call47 (evl_cons rfl evl_nil) (fun W hW => F_panel_open_ok N p0 Ap0_0 cp0_0 (Sl.up hp0_0 hW) Ap0_1 cp0_1 (Sl.up hp0_1 hW) Ap0_2 cp0_2 (Sl.up hp0_2 hW) y1 hy1) ?_
  intro u hu
  obtain ⟨Ay1, cy1⟩ := u
  have hAy1 : SlF Ay1 (y1.1).length cy1 := hu
  show Tr _ _ (uf _ 8 (.tuple #[(.slice Ay1 (y1.1).length cy1), (.int .i64 y1.2)])) (up _ 3 (ow Ay1 cy1 42 fl_TRect y1.1)) _
  refine Tr.val (wn rfl) rfl (fun _ _ h1 h2 => run_move (h1.ev rfl)) ?_
  refine Tr.val (wn rfl) rfl (fun _ _ h1 h2 => run_extract (h1.ev rfl) rfl) ?_
  refine Tr.val (wn rfl) rfl (fun _ _ h1 h2 => run_extract (h1.ev rfl) rfl) ?_
  refine Tr.val (wn rfl) rfl (fun _ _ h1 h2 => run_assign (h1.ev rfl)) ?_
  refine Tr.val (wn rfl) rfl (fun _ _ h1 h2 => run_assign (h1.ev rfl)) ?_
  refine Tr.nil (Tr.normThen ?_)
  refine Tr.seq ?_
  refine Tr.seq ?_
  refine Tr.region ?_
  refine Tr.val (wn rfl) rfl (fun _ _ h1 h2 => run_move (h1.ev rfl)) ?_
  refine Tr.val (wn rfl) rfl (fun _ _ h1 h2 => run_neq (h1.ev rfl) (h1.ev rfl)) ?_
  refine Tr.nil (Tr.normThen ?_)
  refine Tr.cond rfl H (fun H => ?_) (fun H => ?_)
  · refine Tr.seq ?_
    refine Tr.region ?_
    refine Tr.build (vs := []) (cs := [(.int .i64 0), (.int .i64 0)]) (wn rfl) rfl evs_nil (by kernel_rfl) ?_
    refine Tr.val (wn rfl) rfl (fun _ _ h1 h2 => run_move (h1.ev rfl)) ?_
    refine Tr.store 2 (cs := [(.int .i64 0), (.int .i64 0)]) [(.int .i64 0), (.int .i64 0)] (wn rfl) rfl rfl rfl rfl sz_70 rfl rfl rfl ?_
    refine Tr.val (wn rfl) rfl (fun _ _ h1 h2 => run_assign (h1.ev rfl)) ?_
    refine Tr.nil (Tr.normThen ?_)
    refine Tr.ret (Tr.retThen ?_)
    obtain rfl := Option.some.inj H
    exact Tr.out (m := [(.agg #[(.int .i64 0), (.int .i64 0)]), (.int .i64 y1.2)]) [2] (res_cell rfl rfl ag_70 sz_70 (res_tmp rfl res_nil)) (fun W hW => ⟨rfl, hW.below⟩)
  · refine Tr.skip (Tr.normThen ?_)
    refine Tr.seq ?_
    refine Tr.drawTail 7 (by kernel_rfl) (by kernel_rfl) ?_
    refine Tq.val (wn rfl) rfl (fun _ _ h1 h2 => run_move (h1.ev rfl)) ?_
    obtain ⟨y2, hy2, H⟩ := bnd H
    refine Tq.call0 (r := (.int .i64 y2)) (wn rfl) rfl Try.call88 (evl_cons rfl evl_nil) (fun W hW => F_shape_AreaOf_ok y1.1 Ay1 cy1 (hW.sl (k := 3) rfl) y2 hy2) ?_
    refine Tq.val (wn rfl) rfl (fun _ _ h1 h2 => run_fieldAddr fo_26_0 (h1.ev rfl)) ?_
    refine Tq.val (wn rfl) rfl (fun _ _ h1 h2 => run_load1 ag_3 (h1.ev rfl) (rdb h2 (vs := [(.int .i64 p0.W), (.int .i64 p0.H), (.int .i64 p0.Rail), (.int .i64 p0.Gap), (.slice Ap0_0 (p0.Kinds).length cp0_0), (.slice Ap0_1 (p0.Slots).length cp0_1), (.slice Ap0_2 (p0.Marks).length cp0_2)]) (k := 1) rfl 0) rfl) ?_
    refine Tq.val (wn rfl) rfl (fun _ _ h1 h2 => run_fieldAddr fo_26_1 (h1.ev rfl)) ?_
    refine Tq.val (wn rfl) rfl (fun _ _ h1 h2 => run_load1 ag_3 (h1.ev rfl) (rdb h2 (vs := [(.int .i64 p0.W), (.int .i64 p0.H), (.int .i64 p0.Rail), (.int .i64 p0.Gap), (.slice Ap0_0 (p0.Kinds).length cp0_0), (.slice Ap0_1 (p0.Slots).length cp0_1), (.slice Ap0_2 (p0.Marks).length cp0_2)]) (k := 1) rfl 1) rfl) ?_
    refine Tq.val (wn rfl) rfl (fun _ _ h1 h2 => run_mul (h1.ev rfl) (h1.ev rfl)) ?_
    refine Tq.nil ?_
    obtain ⟨y3, hy3, H⟩ := bnd H
    refine Tr.call0 (r := (.agg #[(.int .i64 y3.Num), (.int .i64 y3.Den)])) (wn rfl) rfl Try.call87 (evl_cons rfl (evl_cons rfl evl_nil)) (fun W hW => F_panel_Lowest_ok N y2 (w64 (p0.W * p0.H)) y3 hy3) ?_
    refine Tr.store 2 (cs := [(.int .i64 y3.Num), (.int .i64 y3.Den)]) [(.int .i64 y3.Num), (.int .i64 y3.Den)] (wn rfl) rfl rfl rfl rfl sz_70 rfl rfl rfl ?_
    refine Tr.val (wn rfl) rfl (fun _ _ h1 h2 => run_assign (h1.ev rfl)) ?_
    refine Tr.nil (Tr.normThen ?_)
    refine Tr.ret ?_
    obtain rfl := Option.some.inj H
    exact Tr.out (m := [(.agg #[(.int .i64 y3.Num), (.int .i64 y3.Den)]), (.int .i64 0)]) [2] (res_cell rfl rfl ag_70 sz_70 (res_tmp rfl res_nil)) (fun W hW => ⟨rfl, hW.below⟩)

theorem F_etchhouselaw9_awake_ok (N : Nat) {w : World}  (r : Bool) (H : F_etchhouselaw9_awake N = some r) : Calls Try.prog 15 [].toArray w fun e W' => e = .returned (.bool r) ∧ Below w.heap.size w W' := by
  unfold F_etchhouselaw9_awake at H
  refine Tr.enter (n := 15) Try.func15 rfl rfl rfl ?_
  refine Tr.seq ?_
  refine Tr.region ?_
  refine Tr.val (wn rfl) rfl (fun _ _ h1 h2 => run_assign (h1.ev rfl)) ?_
  refine Tr.nil (Tr.normThen ?_)
  refine Tr.seq ?_
  refine Tr.region ?_
  refine Tr.build (vs := [(0, (.int .i64 1)), (1, (.int .i64 1))]) (cs := [(.int .i64 1), (.int .i64 1), (.int .i64 0), (.int .i64 0), (.slice none 0 0), (.slice none 0 0), (.slice none 0 0)]) (wn rfl) rfl (evs_cons rfl (evs_cons rfl evs_nil)) (by kernel_rfl) ?_
  obtain ⟨y1, hy1, H⟩ := bnd H
  refine Tr.call0 (r := (.tuple #[(.agg #[(.int .i64 y1.1.Num), (.int .i64 y1.1.Den)]), (.int .i64 y1.2)])) (wn rfl) rfl Try.call41 (evl_cons rfl evl_nil) (fun W hW => F_panel_Use_ok N (TPanel.mk 1 1 0 0 [] [] []) none 0 (Sl.nil _ _ _) none 0 (Sl.nil _ _ _) none 0 (Sl.nil _ _ _) y1 hy1) ?_
  refine Tr.val (wn rfl) rfl (fun _ _ h1 h2 => run_move (h1.ev rfl)) ?_
  refine Tr.val (wn rfl) rfl (fun _ _ h1 h2 => run_extract (h1.ev rfl) rfl) ?_
  refine Tr.val (wn rfl) rfl (fun _ _ h1 h2 => run_extract (h1.ev rfl) rfl) ?_
  refine Tr.alloc 1 (wn rfl) rfl ze_70 fun b1 => ?_
  refine Tr.store 1 (cs := [(.int .i64 y1.1.Num), (.int .i64 y1.1.Den)]) [(.int .i64 y1.1.Num), (.int .i64 y1.1.Den)] (wn rfl) rfl rfl rfl rfl sz_70 rfl rfl rfl ?_
  refine Tr.val (wn rfl) rfl (fun _ _ h1 h2 => run_assign (h1.ev rfl)) ?_
  refine Tr.nil (Tr.normThen ?_)
  refine Tr.seq ?_
  refine Tr.region ?_
  refine Tr.val (wn rfl) rfl (fun _ _ h1 h2 => run_move (h1.ev rfl)) ?_
  refine Tr.val (wn rfl) rfl (fun _ _ h1 h2 => run_eql (h1.ev rfl) (h1.ev rfl)) ?_
  refine Tr.val (wn rfl) rfl (fun _ _ h1 h2 => run_move (h1.ev rfl)) ?_
  refine Tr.mid (σ := Unit) 4 (fun _ => True) (fun _ => [(14, (.bool ((y1.2 == 0) && (eqTShare y1.1 (TShare.mk 0 1)))))]) (fun _ => [(1, bx b1 #[(.int .i64 y1.1.Num), (.int .i64 y1.1.Den)] 70)]) ?_ ?_
  · cases hg1 : (y1.2 == 0)
    · refine Tr.pass rfl rfl rfl rfl rfl (by decide) ?_
      refine Tr.pass rfl rfl rfl rfl rfl (by decide) ?_
      refine Tr.pass rfl rfl rfl rfl rfl (by decide) ?_
      refine Tr.val (wn rfl) rfl (fun _ _ h1 h2 => run_pickF (h1.ev rfl) (h1.ev rfl)) ?_
      exact Tr.nil (Tr.backThen () trivial (.cons rfl .nil) (.cons rfl .nil))
    · refine Tr.val (wg rfl rfl rfl) rfl (fun _ _ h1 h2 => run_loadN (cs := [(.int .i64 y1.1.Num), (.int .i64 y1.1.Den)]) ag_70 sz_70 (h1.ev rfl) (CellsAt.take (rdb h2 (vs := [(.int .i64 y1.1.Num), (.int .i64 y1.1.Den)]) (k := 1) rfl 0) 2) rfl) ?_
      refine Tr.build (vs := [(1, (.int .i64 1))]) (cs := [(.int .i64 0), (.int .i64 1)]) (wg rfl rfl rfl) rfl (evs_cons rfl evs_nil) (by kernel_rfl) ?_
      refine Tr.val (wg rfl rfl rfl) rfl (fun _ _ h1 h2 => run_eql_70 y1.1 (TShare.mk 0 1) (h1.ev rfl) (h1.ev rfl)) ?_
      refine Tr.val (wn rfl) rfl (fun _ _ h1 h2 => run_pickT (h1.ev rfl) (h1.ev rfl)) ?_
      exact Tr.nil (Tr.backThen () trivial (.cons rfl .nil) (.cons rfl .nil))
  · intro _ _
    show Tr _ _ (LF [(14, (.bool ((y1.2 == 0) && (eqTShare y1.1 (TShare.mk 0 1)))))]) (LE [(1, bx b1 #[(.int .i64 y1.1.Num), (.int .i64 y1.1.Den)] 70)]) _
    refine Tr.val (wn rfl) rfl (fun _ _ h1 h2 => run_assign (h1.ev rfl)) ?_
    refine Tr.nil (Tr.normThen ?_)
    refine Tr.ret ?_
    obtain rfl := Option.some.inj H
    exact Tr.out (m := [(.bool ((y1.2 == 0) && (eqTShare y1.1 (TShare.mk 0 1))))]) [] (res_tmp rfl res_nil) (fun W hW => ⟨rfl, hW.below⟩)

theorem F_etchhouselaw9_TabsMatchSpec_ok (N : Nat) {w : World} (p0 : TPanel) (Ap0_0 : Option Addr) (cp0_0 : Nat) (hp0_0 : Sl (lo w.heap.size) w fl_TBoardKind Ap0_0 cp0_0 p0.Kinds) (Ap0_1 : Option Addr) (cp0_1 : Nat) (hp0_1 : Sl (lo w.heap.size) w fl_TSlot Ap0_1 cp0_1 p0.Slots) (Ap0_2 : Option Addr) (cp0_2 : Nat) (hp0_2 : Sl (lo w.heap.size) w fl_TPoint Ap0_2 cp0_2 p0.Marks) (p1 : Int) (p2 : Int) (r : Bool) (H : F_etchhouselaw9_TabsMatchSpec N p0 p1 p2 = some r) : Calls Try.prog 5 [(.agg #[(.int .i64 p0.W), (.int .i64 p0.H), (.int .i64 p0.Rail), (.int .i64 p0.Gap), (.slice Ap0_0 (p0.Kinds).length cp0_0), (.slice Ap0_1 (p0.Slots).length cp0_1), (.slice Ap0_2 (p0.Marks).length cp0_2)]), (.int .i64 p1), (.int .i64 p2)].toArray w fun e W' => e = .returned (.bool r) ∧ Below w.heap.size w W' := by
  unfold F_etchhouselaw9_TabsMatchSpec at H
  refine Tr.enter (n := 36) Try.func5 rfl rfl rfl ?_
  refine Tr.seq ?_
  refine Tr.region ?_
  refine Tr.box 1 (cs := [(.int .i64 p0.W), (.int .i64 p0.H), (.int .i64 p0.Rail), (.int .i64 p0.Gap), (.slice Ap0_0 (p0.Kinds).length cp0_0), (.slice Ap0_1 (p0.Slots).length cp0_1), (.slice Ap0_2 (p0.Marks).length cp0_2)]) (wn rfl) rfl rfl rfl fun b1 => ?_
  refine Tr.val (wn rfl) rfl (fun _ _ h1 h2 => run_assign (h1.ev rfl)) ?_
  refine Tr.nil (Tr.normThen ?_)
  refine Tr.seq ?_
  refine Tr.region ?_
  refine Tr.val (wn rfl) rfl (fun _ _ h1 h2 => run_loadN (cs := [(.int .i64 p0.W), (.int .i64 p0.H), (.int .i64 p0.Rail), (.int .i64 p0.Gap), (.slice Ap0_0 (p0.Kinds).length cp0_0), (.slice Ap0_1 (p0.Slots).length cp0_1), (.slice Ap0_2 (p0.Marks).length cp0_2)]) ag_26 sz_26 (h1.ev rfl) (CellsAt.take (rdb h2 (vs := [(.int .i64 p0.W), (.int .i64 p0.H), (.int .i64 p0.Rail), (.int .i64 p0.Gap), (.slice Ap0_0 (p0.Kinds).length cp0_0), (.slice Ap0_1 (p0.Slots).length cp0_1), (.slice Ap0_2 (p0.Marks).length cp0_2)]) (k := 1) rfl 0) 7) rfl) ?_
  refine Tr.val (wn rfl) rfl (fun _ _ h1 h2 => run_move (h1.ev rfl)) ?_
  refine Tr.val (wn rfl) rfl (fun _ _ h1 h2 => run_move (h1.ev rfl)) ?_
  obtain ⟨y1, hy1, H⟩ := bnd H
  refine Tr.call 2 (U := Option Addr × Nat) (fun u => (.tuple #[(.slice u.1 (y1.1).length u.2), (.int .i64 y1.2)])) (fun u => SlF u.1 (y1.1).length u.2) (fun u => ow u.1 u.2 32 fl_TPoint y1.1) (wn rfl) rfl Try.call16 (evl_cons rfl (evl_cons rfl (evl_cons rfl evl_nil))) (fun W hW => F_panel_Tabs_ok N p0 Ap0_0 cp0_0 (Sl.up hp0_0 hW) Ap0_1 cp0_1 (Sl.up hp0_1 hW) Ap0_2 cp0_2 (Sl.up hp0_2 hW) p1 p2 y1 hy1) ?_
  intro u hu
  obtain ⟨Ay1, cy1⟩ := u
  have hAy1 : SlF Ay1 (y1.1).length cy1 := hu
  show Tr _ _ (uf _ 15 (.tuple #[(.slice Ay1 (y1.1).length cy1), (.int .i64 y1.2)])) (up _ 2 (ow Ay1 cy1 32 fl_TPoint y1.1)) _
  refine Tr.val (wn rfl) rfl (fun _ _ h1 h2 => run_move (h1.ev rfl)) ?_
  refine Tr.val (wn rfl) rfl (fun _ _ h1 h2 => run_extract (h1.ev rfl) rfl) ?_
  refine Tr.val (wn rfl) rfl (fun _ _ h1 h2 => run_extract (h1.ev rfl) rfl) ?_
  refine Tr.val (wn rfl) rfl (fun _ _ h1 h2 => run_assign (h1.ev rfl)) ?_
  refine Tr.val (wn rfl) rfl (fun _ _ h1 h2 => run_assign (h1.ev rfl)) ?_
  refine Tr.nil (Tr.normThen ?_)
  refine Tr.seq ?_
  refine Tr.region ?_
  refine Tr.val (wn rfl) rfl (fun _ _ h1 h2 => run_loadN (cs := [(.int .i64 p0.W), (.int .i64 p0.H), (.int .i64 p0.Rail), (.int .i64 p0.Gap), (.slice Ap0_0 (p0.Kinds).length cp0_0), (.slice Ap0_1 (p0.Slots).length cp0_1), (.slice Ap0_2 (p0.Marks).length cp0_2)]) ag_26 sz_26 (h1.ev rfl) (CellsAt.take (rdb h2 (vs := [(.int .i64 p0.W), (.int .i64 p0.H), (.int .i64 p0.Rail), (.int .i64 p0.Gap), (.slice Ap0_0 (p0.Kinds).length cp0_0), (.slice Ap0_1 (p0.Slots).length cp0_1), (.slice Ap0_2 (p0.Marks).length cp0_2)]) (k := 1) rfl 0) 7) rfl) ?_
  refine Tr.val (wn rfl) rfl (fun _ _ h1 h2 => run_move (h1.ev rfl)) ?_
  refine Tr.val (wn rfl) rfl (fun _ _ h1 h2 => run_move (h1.ev rfl)) ?_
  obtain ⟨y2, hy2, H⟩ := bnd H
  refine Tr.call 3 (U := Option Addr × Nat) (fun u => (.tuple #[(.slice u.1 (y2.1).length u.2), (.int .i64 y2.2)])) (fun u => SlF u.1 (y2.1).length u.2) (fun u => ow u.1 u.2 32 fl_TPoint y2.1) (wn rfl) rfl Try.call18 (evl_cons rfl (evl_cons rfl (evl_cons rfl evl_nil))) (fun W hW => F_etchhouseref9_Tabs_ok N p0 Ap0_0 cp0_0 (Sl.up hp0_0 hW) Ap0_1 cp0_1 (Sl.up hp0_1 hW) Ap0_2 cp0_2 (Sl.up hp0_2 hW) p1 p2 y2 hy2) ?_
  intro u hu
  obtain ⟨Ay2, cy2⟩ := u
  have hAy2 : SlF Ay2 (y2.1).length cy2 := hu
  show Tr _ _ (uf _ 22 (.tuple #[(.slice Ay2 (y2.1).length cy2), (.int .i64 y2.2)])) (up _ 3 (ow Ay2 cy2 32 fl_TPoint y2.1)) _
  refine Tr.val (wn rfl) rfl (fun _ _ h1 h2 => run_move (h1.ev rfl)) ?_
  refine Tr.val (wn rfl) rfl (fun _ _ h1 h2 => run_extract (h1.ev rfl) rfl) ?_
  refine Tr.val (wn rfl) rfl (fun _ _ h1 h2 => run_extract (h1.ev rfl) rfl) ?_
  refine Tr.val (wn rfl) rfl (fun _ _ h1 h2 => run_assign (h1.ev rfl)) ?_
  refine Tr.val (wn rfl) rfl (fun _ _ h1 h2 => run_assign (h1.ev rfl)) ?_
  refine Tr.nil (Tr.normThen ?_)
  refine Tr.seq ?_
  refine Tr.region ?_
  refine Tr.val (wn rfl) rfl (fun _ _ h1 h2 => run_move (h1.ev rfl)) ?_
  refine Tr.val (wn rfl) rfl (fun _ _ h1 h2 => run_move (h1.ev rfl)) ?_
  obtain ⟨y3, hy3, H⟩ := bnd H
  refine Tr.call0 (r := (.bool y3)) (wn rfl) rfl Try.call19 (evl_cons rfl (evl_cons rfl evl_nil)) (fun W hW => F_slices_Equal_Point_ok y1.1 Ay1 cy1 (hW.sl (k := 2) rfl) y2.1 Ay2 cy2 (hW.sl (k := 3) rfl) y3 hy3) ?_
  refine Tr.val (wn rfl) rfl (fun _ _ h1 h2 => run_move (h1.ev rfl)) ?_
  refine Tr.mid (σ := Unit) 4 (fun _ => True) (fun _ => [(32, (.bool (y3 && (y1.2 == y2.2))))]) (fun _ => [(1, bx b1 #[(.int .i64 p0.W), (.int .i64 p0.H), (.int .i64 p0.Rail), (.int .i64 p0.Gap), (.slice Ap0_0 (p0.Kinds).length cp0_0), (.slice Ap0_1 (p0.Slots).length cp0_1), (.slice Ap0_2 (p0.Marks).length cp0_2)] 26), (2, ow Ay1 cy1 32 fl_TPoint y1.1), (3, ow Ay2 cy2 32 fl_TPoint y2.1)]) ?_ ?_
  · cases hg6 : y3
    · refine Tr.pass rfl rfl rfl rfl rfl (by decide) ?_
      refine Tr.pass rfl rfl rfl rfl rfl (by decide) ?_
      refine Tr.pass rfl rfl rfl rfl rfl (by decide) ?_
      refine Tr.val (wn rfl) rfl (fun _ _ h1 h2 => run_pickF (h1.ev rfl) (h1.ev rfl)) ?_
      exact Tr.nil (Tr.backThen () trivial (.cons rfl .nil) (.cons rfl (.cons rfl (.cons rfl .nil))))
    · refine Tr.val (wg rfl rfl rfl) rfl (fun _ _ h1 h2 => run_move (h1.ev rfl)) ?_
      refine Tr.val (wg rfl rfl rfl) rfl (fun _ _ h1 h2 => run_move (h1.ev rfl)) ?_
      refine Tr.val (wg rfl rfl rfl) rfl (fun _ _ h1 h2 => run_eql (h1.ev rfl) (h1.ev rfl)) ?_
      refine Tr.val (wn rfl) rfl (fun _ _ h1 h2 => run_pickT (h1.ev rfl) (h1.ev rfl)) ?_
      exact Tr.nil (Tr.backThen () trivial (.cons rfl .nil) (.cons rfl (.cons rfl (.cons rfl .nil))))
  · intro _ _
    show Tr _ _ (LF [(32, (.bool (y3 && (y1.2 == y2.2))))]) (LE [(1, bx b1 #[(.int .i64 p0.W), (.int .i64 p0.H), (.int .i64 p0.Rail), (.int .i64 p0.Gap), (.slice Ap0_0 (p0.Kinds).length cp0_0), (.slice Ap0_1 (p0.Slots).length cp0_1), (.slice Ap0_2 (p0.Marks).length cp0_2)] 26), (2, ow Ay1 cy1 32 fl_TPoint y1.1), (3, ow Ay2 cy2 32 fl_TPoint y2.1)]) _
    refine Tr.val (wn rfl) rfl (fun _ _ h1 h2 => run_move (h1.ev rfl)) ?_
    obtain ⟨g5, hg5, H⟩ := bnd H
    refine Tr.mid (σ := Unit) 2 (fun _ => True) (fun _ => [(35, (.bool g5))]) (fun _ => [(1, bx b1 #[(.int .i64 p0.W), (.int .i64 p0.H), (.int .i64 p0.Rail), (.int .i64 p0.Gap), (.slice Ap0_0 (p0.Kinds).length cp0_0), (.slice Ap0_1 (p0.Slots).length cp0_1), (.slice Ap0_2 (p0.Marks).length cp0_2)] 26), (2, ow Ay1 cy1 32 fl_TPoint y1.1), (3, ow Ay2 cy2 32 fl_TPoint y2.1)]) ?_ ?_
    · cases hg6 : (y3 && (y1.2 == y2.2))
      · rw [hg6] at hg5
        rw [if_neg (by decide)] at hg5
        have H := hg5
        obtain rfl := Option.some.inj H
        refine Tr.pass rfl rfl rfl rfl rfl (by decide) ?_
        refine Tr.val (wn rfl) rfl (fun _ _ h1 h2 => run_pickF (h1.ev rfl) (h1.ev rfl)) ?_
        exact Tr.nil (Tr.backThen () trivial (.cons rfl .nil) (.cons rfl (.cons rfl (.cons rfl .nil))))
      · rw [hg6] at hg5
        rw [if_pos rfl] at hg5
        have H := hg5
        obtain ⟨y6, hy6, H⟩ := bnd H
        refine Tr.call0 (r := (.bool y6)) (wg rfl rfl rfl) rfl Try.call15 evl_nil (fun W hW => F_etchhouselaw9_awake_ok N y6 hy6) ?_
        refine Tr.val (wn rfl) rfl (fun _ _ h1 h2 => run_pickT (h1.ev rfl) (h1.ev rfl)) ?_
        obtain rfl := Option.some.inj H
        exact Tr.nil (Tr.backThen () trivial (.cons rfl .nil) (.cons rfl (.cons rfl (.cons rfl .nil))))
    · intro _ _
      show Tr _ _ (LF [(35, (.bool g5))]) (LE [(1, bx b1 #[(.int .i64 p0.W), (.int .i64 p0.H), (.int .i64 p0.Rail), (.int .i64 p0.Gap), (.slice Ap0_0 (p0.Kinds).length cp0_0), (.slice Ap0_1 (p0.Slots).length cp0_1), (.slice Ap0_2 (p0.Marks).length cp0_2)] 26), (2, ow Ay1 cy1 32 fl_TPoint y1.1), (3, ow Ay2 cy2 32 fl_TPoint y2.1)]) _
      refine Tr.val (wn rfl) rfl (fun _ _ h1 h2 => run_assign (h1.ev rfl)) ?_
      refine Tr.nil (Tr.normThen ?_)
      refine Tr.ret ?_
      obtain rfl := Option.some.inj H
      exact Tr.out (m := [(.bool g5)]) [] (res_tmp rfl res_nil) (fun W hW => ⟨rfl, hW.below⟩)

end Go.Proofs.Ytpkicpnbpldkpaa
