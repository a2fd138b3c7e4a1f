/- The walks: each function computes its plain function. -/
import Derived.Test.YtpkicpnbpldkpaaXWb
namespace Go.Proofs.Ytpkicpnbpldkpaa
open Go.RowKit
set_option maxRecDepth 100000
set_option maxHeartbeats 1000000
theorem F_etchhouseref9_ToPanel_ok (N : Nat) {w : World} (p0 : TPanel) (Ap0_0 : Option Addr) (cp0_0 : Nat) (hp0_0 : Sl (lo w.heap.size) w fl_TBoardKind Ap0_0 cp0_0 p0.Kinds) (Ap0_1 : Option Addr) (cp0_1 : Nat) (hp0_1 : Sl (lo w.heap.size) w fl_TSlot Ap0_1 cp0_1 p0.Slots) (Ap0_2 : Option Addr) (cp0_2 : Nat) (hp0_2 : Sl (lo w.heap.size) w fl_TPoint Ap0_2 cp0_2 p0.Marks) (p1 : Int) (p2 : TPoint) (r : (TPoint × Int)) (H : F_etchhouseref9_ToPanel N p0 p1 p2 = some r) : Calls Try.prog 23 [(.agg #[(.int .i64 p0.W), (.int .i64 p0.H), (.int .i64 p0.Rail), (.int .i64 p0.Gap), (.slice Ap0_0 (p0.Kinds).length cp0_0), (.slice Ap0_1 (p0.Slots).length cp0_1), (.slice Ap0_2 (p0.Marks).length cp0_2)]), (.int .i64 p1), (.agg #[(.int .i64 p2.X), (.int .i64 p2.Y)])].toArray w fun e W' => e = .returned (.tuple #[(.agg #[(.int .i64 r.1.X), (.int .i64 r.1.Y)]), (.int .i64 r.2)]) ∧ Below w.heap.size w W' := by
  unfold F_etchhouseref9_ToPanel at H
  refine Tr.enter (n := 51) Try.func23 rfl rfl rfl ?_
  refine Tr.seq ?_
  refine Tr.region ?_
  refine Tr.box 1 (cs := [(.int .i64 p0.W), (.int .i64 p0.H), (.int .i64 p0.Rail), (.int .i64 p0.Gap), (.slice Ap0_0 (p0.Kinds).length cp0_0), (.slice Ap0_1 (p0.Slots).length cp0_1), (.slice Ap0_2 (p0.Marks).length cp0_2)]) (wn rfl) rfl rfl rfl fun b1 => ?_
  refine Tr.box 2 (cs := [(.int .i64 p2.X), (.int .i64 p2.Y)]) (wn rfl) rfl rfl rfl fun b2 => ?_
  refine Tr.alloc 3 (wn rfl) rfl ze_32 fun b3 => ?_
  refine Tr.val (wn rfl) rfl (fun _ _ h1 h2 => run_assign (h1.ev rfl)) ?_
  refine Tr.nil (Tr.normThen ?_)
  refine Tr.seq ?_
  refine Tr.region ?_
  refine Tr.val (wn rfl) rfl (fun _ _ h1 h2 => run_loadN (cs := [(.int .i64 p0.W), (.int .i64 p0.H), (.int .i64 p0.Rail), (.int .i64 p0.Gap), (.slice Ap0_0 (p0.Kinds).length cp0_0), (.slice Ap0_1 (p0.Slots).length cp0_1), (.slice Ap0_2 (p0.Marks).length cp0_2)]) ag_26 sz_26 (h1.ev rfl) (CellsAt.take (rdb h2 (vs := [(.int .i64 p0.W), (.int .i64 p0.H), (.int .i64 p0.Rail), (.int .i64 p0.Gap), (.slice Ap0_0 (p0.Kinds).length cp0_0), (.slice Ap0_1 (p0.Slots).length cp0_1), (.slice Ap0_2 (p0.Marks).length cp0_2)]) (k := 1) rfl 0) 7) rfl) ?_
  refine Tr.val (wn rfl) rfl (fun _ _ h1 h2 => run_move (h1.ev rfl)) ?_
  obtain ⟨y1, hy1, H⟩ := bnd H
  refine Tr.call0 (r := (.tuple #[(.agg #[(.bool y1.1.Flip), (.int .i64 y1.1.Quarters), (.int .i64 y1.1.At.X), (.int .i64 y1.1.At.Y)]), (.int .i64 y1.2)])) (wn rfl) rfl Try.call21 (evl_cons rfl (evl_cons rfl evl_nil)) (fun W hW => F_etchhouseref9_SlotTurn_ok N p0 Ap0_0 cp0_0 (Sl.up hp0_0 hW) Ap0_1 cp0_1 (Sl.up hp0_1 hW) Ap0_2 cp0_2 (Sl.up hp0_2 hW) p1 y1 hy1) ?_
  refine Tr.val (wn rfl) rfl (fun _ _ h1 h2 => run_move (h1.ev rfl)) ?_
  refine Tr.val (wn rfl) rfl (fun _ _ h1 h2 => run_extract (h1.ev rfl) rfl) ?_
  refine Tr.val (wn rfl) rfl (fun _ _ h1 h2 => run_extract (h1.ev rfl) rfl) ?_
  refine Tr.alloc 4 (wn rfl) rfl ze_46 fun b4 => ?_
  refine Tr.store 4 (cs := [(.bool y1.1.Flip), (.int .i64 y1.1.Quarters), (.int .i64 y1.1.At.X), (.int .i64 y1.1.At.Y)]) [(.bool y1.1.Flip), (.int .i64 y1.1.Quarters), (.int .i64 y1.1.At.X), (.int .i64 y1.1.At.Y)] (wn rfl) rfl rfl rfl rfl sz_46 rfl rfl rfl ?_
  refine Tr.val (wn rfl) rfl (fun _ _ h1 h2 => run_assign (h1.ev rfl)) ?_
  refine Tr.nil (Tr.normThen ?_)
  refine Tr.seq ?_
  refine Tr.seq ?_
  refine Tr.region ?_
  refine Tr.val (wn rfl) rfl (fun _ _ h1 h2 => run_move (h1.ev rfl)) ?_
  refine Tr.val (wn rfl) rfl (fun _ _ h1 h2 => run_neq (h1.ev rfl) (h1.ev rfl)) ?_
  refine Tr.nil (Tr.normThen ?_)
  refine Tr.cond rfl H (fun H => ?_) (fun H => ?_)
  · refine Tr.seq ?_
    refine Tr.region ?_
    refine Tr.build (vs := []) (cs := [(.int .i64 0), (.int .i64 0)]) (wn rfl) rfl evs_nil (by kernel_rfl) ?_
    refine Tr.val (wn rfl) rfl (fun _ _ h1 h2 => run_move (h1.ev rfl)) ?_
    refine Tr.store 3 (cs := [(.int .i64 0), (.int .i64 0)]) [(.int .i64 0), (.int .i64 0)] (wn rfl) rfl rfl rfl rfl sz_32 rfl rfl rfl ?_
    refine Tr.val (wn rfl) rfl (fun _ _ h1 h2 => run_assign (h1.ev rfl)) ?_
    refine Tr.nil (Tr.normThen ?_)
    refine Tr.ret (Tr.retThen ?_)
    obtain rfl := Option.some.inj H
    exact Tr.out (m := [(.agg #[(.int .i64 0), (.int .i64 0)]), (.int .i64 y1.2)]) [3] (res_cell rfl rfl ag_32 sz_32 (res_tmp rfl res_nil)) (fun W hW => ⟨rfl, hW.below⟩)
  · refine Tr.skip (Tr.normThen ?_)
    refine Tr.seq ?_
    obtain ⟨x3, hx3, H⟩ := bnd H
    obtain ⟨hx30, hx31, hx32⟩ := idx_some hx3
    obtain ⟨y4, hy4, H⟩ := bnd H
    obtain ⟨x5, hx5, H⟩ := bnd H
    obtain ⟨hx50, hx51, hx52⟩ := idx_some hx5
    refine Tr.drawF 13 [(12, .makeFunc (.func 0) #[] #[])] [(12, ⟨10, 5, (.func (.func 0) #[] #[]), fun b => .pointer (some ⟨b, 0, none⟩), fun b => bx b #[(.string ⟨#[]⟩), (.int .i64 0), (.int .i64 0)] 82⟩)] [(0, (.agg #[(.int .i64 p0.W), (.int .i64 p0.H), (.int .i64 p0.Rail), (.int .i64 p0.Gap), (.slice Ap0_0 (p0.Kinds).length cp0_0), (.slice Ap0_1 (p0.Slots).length cp0_1), (.slice Ap0_2 (p0.Marks).length cp0_2)])), (1, (.int .i64 p1)), (2, (.agg #[(.int .i64 p2.X), (.int .i64 p2.Y)])), (3, (.pointer (some ⟨b1, 0, none⟩))), (5, (.pointer (some ⟨b2, 0, none⟩))), (6, (.pointer (some ⟨b3, 0, none⟩))), (7, (.int .i64 0)), (8, (.pointer (some ⟨b4, 0, none⟩))), (9, (.int .i64 y1.2)), (10, (.func (.func 0) #[] #[])), (11, (.tuple #[(.agg #[(.bool y1.1.Flip), (.int .i64 y1.1.Quarters), (.int .i64 y1.1.At.X), (.int .i64 y1.1.At.Y)]), (.int .i64 y1.2)])), (12, (.agg #[(.int .i64 p0.W), (.int .i64 p0.H), (.int .i64 p0.Rail), (.int .i64 p0.Gap), (.slice Ap0_0 (p0.Kinds).length cp0_0), (.slice Ap0_1 (p0.Slots).length cp0_1), (.slice Ap0_2 (p0.Marks).length cp0_2)])), (13, (.int .i64 p1)), (14, (.tuple #[(.agg #[(.bool y1.1.Flip), (.int .i64 y1.1.Quarters), (.int .i64 y1.1.At.X), (.int .i64 y1.1.At.Y)]), (.int .i64 y1.2)])), (15, (.agg #[(.bool y1.1.Flip), (.int .i64 y1.1.Quarters), (.int .i64 y1.1.At.X), (.int .i64 y1.1.At.Y)])), (16, (.int .i64 y1.2)), (17, (.int .i64 y1.2)), (18, (.bool (y1.2 != 0))), (21, (.pointer (some ⟨b1, 4, none⟩))), (22, (.slice Ap0_0 (p0.Kinds).length cp0_0)), (23, (.agg #[(.int .i64 p0.W), (.int .i64 p0.H), (.int .i64 p0.Rail), (.int .i64 p0.Gap), (.slice Ap0_0 (p0.Kinds).length cp0_0), (.slice Ap0_1 (p0.Slots).length cp0_1), (.slice Ap0_2 (p0.Marks).length cp0_2)])), (24, (.pointer (some ⟨b1, 5, none⟩))), (25, (.slice Ap0_1 (p0.Slots).length cp0_1)), (26, (.int .i64 p1)), (27, (.pointer (some ⟨adB Ap0_1, adO Ap0_1 + (p1).toNat * 4, none⟩))), (28, (.pointer (some ⟨adB Ap0_1, adO Ap0_1 + (p1).toNat * 4 + 0, none⟩))), (29, (.string x3.Board)), (30, (.int .i64 y4)), (31, (.pointer (some ⟨adB Ap0_0, adO Ap0_0 + (y4).toNat * 3, none⟩))), (32, (.agg #[(.string x5.Name), (.int .i64 x5.W), (.int .i64 x5.H)]))] (by kernel_rfl) (by kernel_rfl) (by kernel_rfl) (by kernel_rfl) (by kernel_rfl) (by kernel_rfl) (by kernel_rfl) (fall_cons (fr_alloc rfl rfl ze_82) fall_nil) (fall_cons rfl fall_nil) (fall_cons rfl fall_nil) ?_ ?_
    · refine Tq.val (wn rfl) rfl (fun _ _ h1 h2 => run_fieldAddr fo_26_4 (h1.ev rfl)) ?_
      refine Tq.val (wn rfl) rfl (fun _ _ h1 h2 => run_load1 ag_22 (h1.ev rfl) (rdb h2 (vs := [(.int .i64 p0.W), (.int .i64 p0.H), (.int .i64 p0.Rail), (.int .i64 p0.Gap), (.slice Ap0_0 (p0.Kinds).length cp0_0), (.slice Ap0_1 (p0.Slots).length cp0_1), (.slice Ap0_2 (p0.Marks).length cp0_2)]) (k := 1) rfl 4) rfl) ?_
      refine Tq.val (wn rfl) rfl (fun _ _ h1 h2 => run_loadN (cs := [(.int .i64 p0.W), (.int .i64 p0.H), (.int .i64 p0.Rail), (.int .i64 p0.Gap), (.slice Ap0_0 (p0.Kinds).length cp0_0), (.slice Ap0_1 (p0.Slots).length cp0_1), (.slice Ap0_2 (p0.Marks).length cp0_2)]) ag_26 sz_26 (h1.ev rfl) (CellsAt.take (rdb h2 (vs := [(.int .i64 p0.W), (.int .i64 p0.H), (.int .i64 p0.Rail), (.int .i64 p0.Gap), (.slice Ap0_0 (p0.Kinds).length cp0_0), (.slice Ap0_1 (p0.Slots).length cp0_1), (.slice Ap0_2 (p0.Marks).length cp0_2)]) (k := 1) rfl 0) 7) rfl) ?_
      refine Tq.val (wn rfl) rfl (fun _ _ h1 h2 => run_fieldAddr fo_26_5 (h1.ev rfl)) ?_
      refine Tq.val (wn rfl) rfl (fun _ _ h1 h2 => run_load1 ag_23 (h1.ev rfl) (rdb h2 (vs := [(.int .i64 p0.W), (.int .i64 p0.H), (.int .i64 p0.Rail), (.int .i64 p0.Gap), (.slice Ap0_0 (p0.Kinds).length cp0_0), (.slice Ap0_1 (p0.Slots).length cp0_1), (.slice Ap0_2 (p0.Marks).length cp0_2)]) (k := 1) rfl 5) rfl) ?_
      refine Tq.val (wn rfl) rfl (fun _ _ h1 h2 => run_move (h1.ev rfl)) ?_
      refine Tq.val (wn rfl) rfl (fun _ _ h1 h2 => run_indexAddr el_23 (h1.ev rfl) hp0_1.form (h1.ev rfl) hx30 hx31) ?_
      refine Tq.val (wn rfl) rfl (fun _ _ h1 h2 => run_fieldAddr fo_34_0 (h1.ev rfl)) ?_
      refine Tq.val (wn rfl) rfl (fun _ _ h1 h2 => run_load1 ag_9 (h1.ev rfl) (CellsAt.drop (Rd.arg hp0_1 hx32 _ h2) 0) rfl) ?_
      refine Tq.call0 (r := (.int .i64 y4)) (wn rfl) rfl Try.call55 (evl_cons rfl (evl_cons rfl evl_nil)) (fun W hW => F_etchhouseref9_kind_ok N p0 Ap0_0 cp0_0 (Sl.up hp0_0 hW) Ap0_1 cp0_1 (Sl.up hp0_1 hW) Ap0_2 cp0_2 (Sl.up hp0_2 hW) x3.Board y4 hy4) ?_
      refine Tq.val (wn rfl) rfl (fun _ _ h1 h2 => run_indexAddr el_22 (h1.ev rfl) hp0_0.form (h1.ev rfl) hx50 hx51) ?_
      refine Tq.val (wn rfl) rfl (fun _ _ h1 h2 => run_loadN (cs := [(.string x5.Name), (.int .i64 x5.W), (.int .i64 x5.H)]) ag_82 sz_82 (h1.ev rfl) (CellsAt.take (Rd.arg hp0_0 hx52 _ h2) 3) rfl) ?_
      refine Tq.mkFunc (vs := []) (wn rfl) rfl evl_nil ?_
      exact Tq.fin (.cons rfl (.cons rfl (.cons rfl (.cons rfl (.cons rfl (.cons rfl (.cons rfl (.cons rfl (.cons rfl (.cons rfl (.cons rfl (.cons rfl (.cons rfl (.cons rfl (.cons rfl (.cons rfl (.cons rfl (.cons rfl (.cons rfl (.cons rfl (.cons rfl (.cons rfl (.cons rfl (.cons rfl (.cons rfl (.cons rfl (.cons rfl (.cons rfl (.cons rfl (.cons rfl .nil))))))))))))))))))))))))))))))
    · intro bs2
      refine Tr.sel (lf := [(5, (.pointer (some ⟨b2, 0, none⟩))), (6, (.pointer (some ⟨b3, 0, none⟩))), (8, (.pointer (some ⟨b4, 0, none⟩))), (10, (.pointer (some ⟨(bs2 12), 0, none⟩))), (32, (.agg #[(.string x5.Name), (.int .i64 x5.W), (.int .i64 x5.H)]))]) (le := [(1, bx b1 #[(.int .i64 p0.W), (.int .i64 p0.H), (.int .i64 p0.Rail), (.int .i64 p0.Gap), (.slice Ap0_0 (p0.Kinds).length cp0_0), (.slice Ap0_1 (p0.Slots).length cp0_1), (.slice Ap0_2 (p0.Marks).length cp0_2)] 26), (2, bx b2 #[(.int .i64 p2.X), (.int .i64 p2.Y)] 32), (3, bx b3 #[(.int .i64 0), (.int .i64 0)] 32), (4, bx b4 #[(.bool y1.1.Flip), (.int .i64 y1.1.Quarters), (.int .i64 y1.1.At.X), (.int .i64 y1.1.At.Y)] 46), (5, bx (bs2 12) #[(.string ⟨#[]⟩), (.int .i64 0), (.int .i64 0)] 82)]) (.cons rfl (.cons rfl (.cons rfl (.cons rfl (.cons rfl .nil))))) (.cons rfl (.cons rfl (.cons rfl (.cons rfl (.cons rfl .nil))))) ?_
      refine Tr.store 5 (cs := [(.string x5.Name), (.int .i64 x5.W), (.int .i64 x5.H)]) [(.string x5.Name), (.int .i64 x5.W), (.int .i64 x5.H)] (wn rfl) rfl rfl rfl rfl sz_82 rfl rfl rfl ?_
      refine Tr.nil (Tr.normThen ?_)
      refine Tr.seq ?_
      refine Tr.seq ?_
      refine Tr.region ?_
      refine Tr.val (wn rfl) rfl (fun _ _ h1 h2 => run_fieldAddr fo_32_0 (h1.ev rfl)) ?_
      refine Tr.val (wn rfl) rfl (fun _ _ h1 h2 => run_load1 ag_3 (h1.ev rfl) (rdb h2 (vs := [(.int .i64 p2.X), (.int .i64 p2.Y)]) (k := 2) rfl 0) rfl) ?_
      refine Tr.val (wn rfl) rfl (fun _ _ h1 h2 => run_fieldAddr fo_82_1 (h1.ev rfl)) ?_
      refine Tr.val (wn rfl) rfl (fun _ _ h1 h2 => run_load1 ag_3 (h1.ev rfl) (rdb h2 (vs := [(.string x5.Name), (.int .i64 x5.W), (.int .i64 x5.H)]) (k := 5) rfl 1) rfl) ?_
      obtain ⟨y6, hy6, H⟩ := bnd H
      refine Tr.call0 (r := (.bool y6)) (wn rfl) rfl Try.call49 (evl_cons rfl (evl_cons rfl (evl_cons rfl evl_nil))) (fun W hW => F_etchhouseref9_within_ok p2.X 0 x5.W y6 hy6) ?_
      refine Tr.val (wn rfl) rfl (fun _ _ h1 h2 => run_not (h1.ev rfl)) ?_
      refine Tr.val (wn rfl) rfl (fun _ _ h1 h2 => run_move (h1.ev rfl)) ?_
      obtain ⟨g8, hg8, H⟩ := bnd H
      refine Tr.mid (σ := Unit) 7 (fun _ => True) (fun _ => [(5, (.pointer (some ⟨b2, 0, none⟩))), (6, (.pointer (some ⟨b3, 0, none⟩))), (8, (.pointer (some ⟨b4, 0, none⟩))), (46, (.bool g8))]) (fun _ => [(1, bx b1 #[(.int .i64 p0.W), (.int .i64 p0.H), (.int .i64 p0.Rail), (.int .i64 p0.Gap), (.slice Ap0_0 (p0.Kinds).length cp0_0), (.slice Ap0_1 (p0.Slots).length cp0_1), (.slice Ap0_2 (p0.Marks).length cp0_2)] 26), (2, bx b2 #[(.int .i64 p2.X), (.int .i64 p2.Y)] 32), (3, bx b3 #[(.int .i64 0), (.int .i64 0)] 32), (4, bx b4 #[(.bool y1.1.Flip), (.int .i64 y1.1.Quarters), (.int .i64 y1.1.At.X), (.int .i64 y1.1.At.Y)] 46), (5, bx (bs2 12) #[(.string x5.Name), (.int .i64 x5.W), (.int .i64 x5.H)] 82)]) ?_ ?_
      · cases hg10 : (!y6)
        · rw [hg10] at hg8
          rw [if_neg (by decide)] at hg8
          have H := hg8
          refine Tr.val (wg rfl rfl rfl) rfl (fun _ _ h1 h2 => run_fieldAddr fo_32_1 (h1.ev rfl)) ?_
          refine Tr.val (wg rfl rfl rfl) rfl (fun _ _ h1 h2 => run_load1 ag_3 (h1.ev rfl) (rdb h2 (vs := [(.int .i64 p2.X), (.int .i64 p2.Y)]) (k := 2) rfl 1) rfl) ?_
          refine Tr.val (wg rfl rfl rfl) rfl (fun _ _ h1 h2 => run_fieldAddr fo_82_2 (h1.ev rfl)) ?_
          refine Tr.val (wg rfl rfl rfl) rfl (fun _ _ h1 h2 => run_load1 ag_3 (h1.ev rfl) (rdb h2 (vs := [(.string x5.Name), (.int .i64 x5.W), (.int .i64 x5.H)]) (k := 5) rfl 2) rfl) ?_
          obtain ⟨y9, hy9, H⟩ := bnd H
          refine Tr.call0 (r := (.bool y9)) (wg rfl rfl rfl) rfl Try.call49 (evl_cons rfl (evl_cons rfl (evl_cons rfl evl_nil))) (fun W hW => F_etchhouseref9_within_ok p2.Y 0 x5.H y9 hy9) ?_
          refine Tr.val (wg rfl rfl rfl) rfl (fun _ _ h1 h2 => run_not (h1.ev rfl)) ?_
          refine Tr.val (wn rfl) rfl (fun _ _ h1 h2 => run_pickF (h1.ev rfl) (h1.ev rfl)) ?_
          obtain rfl := Option.some.inj H
          exact Tr.nil (Tr.backThen () trivial (.cons rfl (.cons rfl (.cons rfl (.cons rfl .nil)))) (.cons rfl (.cons rfl (.cons rfl (.cons rfl (.cons rfl .nil))))))
        · rw [hg10] at hg8
          rw [if_pos rfl] at hg8
          have H := hg8
          obtain rfl := Option.some.inj H
          refine Tr.pass rfl rfl rfl rfl rfl (by decide) ?_
          refine Tr.pass rfl rfl rfl rfl rfl (by decide) ?_
          refine Tr.pass rfl rfl rfl rfl rfl (by decide) ?_
          refine Tr.pass rfl rfl rfl rfl rfl (by decide) ?_
          refine Tr.pass rfl rfl rfl rfl rfl (by decide) ?_
          refine Tr.pass rfl rfl rfl rfl rfl (by decide) ?_
          refine Tr.val (wn rfl) rfl (fun _ _ h1 h2 => run_pickT (h1.ev rfl) (h1.ev rfl)) ?_
          exact Tr.nil (Tr.backThen () trivial (.cons rfl (.cons rfl (.cons rfl (.cons rfl .nil)))) (.cons rfl (.cons rfl (.cons rfl (.cons rfl (.cons rfl .nil))))))
      · intro _ _
        show Tr _ _ (LF [(5, (.pointer (some ⟨b2, 0, none⟩))), (6, (.pointer (some ⟨b3, 0, none⟩))), (8, (.pointer (some ⟨b4, 0, none⟩))), (46, (.bool g8))]) (LE [(1, bx b1 #[(.int .i64 p0.W), (.int .i64 p0.H), (.int .i64 p0.Rail), (.int .i64 p0.Gap), (.slice Ap0_0 (p0.Kinds).length cp0_0), (.slice Ap0_1 (p0.Slots).length cp0_1), (.slice Ap0_2 (p0.Marks).length cp0_2)] 26), (2, bx b2 #[(.int .i64 p2.X), (.int .i64 p2.Y)] 32), (3, bx b3 #[(.int .i64 0), (.int .i64 0)] 32), (4, bx b4 #[(.bool y1.1.Flip), (.int .i64 y1.1.Quarters), (.int .i64 y1.1.At.X), (.int .i64 y1.1.At.Y)] 46), (5, bx (bs2 12) #[(.string x5.Name), (.int .i64 x5.W), (.int .i64 x5.H)] 82)]) _
        refine Tr.nil (Tr.normThen ?_)
        refine Tr.cond rfl H (fun H => ?_) (fun H => ?_)
        · refine Tr.seq ?_
          refine Tr.region ?_
          refine Tr.build (vs := []) (cs := [(.int .i64 0), (.int .i64 0)]) (wn rfl) rfl evs_nil (by kernel_rfl) ?_
          refine Tr.store 3 (cs := [(.int .i64 0), (.int .i64 0)]) [(.int .i64 0), (.int .i64 0)] (wn rfl) rfl rfl rfl rfl sz_32 rfl rfl rfl ?_
          refine Tr.val (wn rfl) rfl (fun _ _ h1 h2 => run_assign (h1.ev rfl)) ?_
          refine Tr.nil (Tr.normThen ?_)
          refine Tr.ret (Tr.retThen ?_)
          obtain rfl := Option.some.inj H
          exact Tr.out (m := [(.agg #[(.int .i64 0), (.int .i64 0)]), (.int .i64 1)]) [3] (res_cell rfl rfl ag_32 sz_32 (res_tmp rfl res_nil)) (fun W hW => ⟨rfl, hW.below⟩)
        · refine Tr.skip (Tr.normThen ?_)
          refine Tr.seq ?_
          refine Tr.region ?_
          refine Tr.val (wn rfl) rfl (fun _ _ h1 h2 => run_loadN (cs := [(.int .i64 p2.X), (.int .i64 p2.Y)]) ag_32 sz_32 (h1.ev rfl) (CellsAt.take (rdb h2 (vs := [(.int .i64 p2.X), (.int .i64 p2.Y)]) (k := 2) rfl 0) 2) rfl) ?_
          refine Tr.val (wn rfl) rfl (fun _ _ h1 h2 => run_loadN (cs := [(.bool y1.1.Flip), (.int .i64 y1.1.Quarters), (.int .i64 y1.1.At.X), (.int .i64 y1.1.At.Y)]) ag_46 sz_46 (h1.ev rfl) (CellsAt.take (rdb h2 (vs := [(.bool y1.1.Flip), (.int .i64 y1.1.Quarters), (.int .i64 y1.1.At.X), (.int .i64 y1.1.At.Y)]) (k := 4) rfl 0) 4) rfl) ?_
          obtain ⟨y10, hy10, H⟩ := bnd H
          refine Tr.call0 (r := (.agg #[(.int .i64 y10.X), (.int .i64 y10.Y)])) (wn rfl) rfl Try.call56 (evl_cons rfl (evl_cons rfl evl_nil)) (fun W hW => F_etchhouseref1_TurnPoint_ok N p2 y1.1 y10 hy10) ?_
          refine Tr.store 3 (cs := [(.int .i64 y10.X), (.int .i64 y10.Y)]) [(.int .i64 y10.X), (.int .i64 y10.Y)] (wn rfl) rfl rfl rfl rfl sz_32 rfl rfl rfl ?_
          refine Tr.val (wn rfl) rfl (fun _ _ h1 h2 => run_assign (h1.ev rfl)) ?_
          refine Tr.nil (Tr.normThen ?_)
          refine Tr.ret ?_
          obtain rfl := Option.some.inj H
          exact Tr.out (m := [(.agg #[(.int .i64 y10.X), (.int .i64 y10.Y)]), (.int .i64 0)]) [3] (res_cell rfl rfl ag_32 sz_32 (res_tmp rfl res_nil)) (fun W hW => ⟨rfl, hW.below⟩)

theorem F_shape_within_ok {w : World} (p0 : Int) (p1 : Int) (p2 : Int) (r : Bool) (H : F_shape_within p0 p1 p2 = some r) : Calls Try.prog 117 [(.int .i64 p0), (.int .i64 p1), (.int .i64 p2)].toArray w fun e W' => e = .returned (.bool r) ∧ Below w.heap.size w W' := by
  unfold F_shape_within at H
  refine Tr.enter (n := 15) Try.func117 rfl rfl rfl ?_
  refine Tr.seq ?_
  refine Tr.region ?_
  refine Tr.val (wn rfl) rfl (fun _ _ h1 h2 => run_assign (h1.ev rfl)) ?_
  refine Tr.nil (Tr.normThen ?_)
  refine Tr.seq ?_
  refine Tr.region ?_
  refine Tr.val (wn rfl) rfl (fun _ _ h1 h2 => run_move (h1.ev rfl)) ?_
  refine Tr.val (wn rfl) rfl (fun _ _ h1 h2 => run_move (h1.ev rfl)) ?_
  refine Tr.val (wn rfl) rfl (fun _ _ h1 h2 => run_geq (h1.ev rfl) (h1.ev rfl)) ?_
  refine Tr.val (wn rfl) rfl (fun _ _ h1 h2 => run_move (h1.ev rfl)) ?_
  refine Tr.mid (σ := Unit) 4 (fun _ => True) (fun _ => [(14, (.bool ((decide (p1 ≤ p0)) && (decide (p0 ≤ p2)))))]) (fun _ => []) ?_ ?_
  · cases hg0 : (decide (p1 ≤ p0))
    · refine Tr.pass rfl rfl rfl rfl rfl (by decide) ?_
      refine Tr.pass rfl rfl rfl rfl rfl (by decide) ?_
      refine Tr.pass rfl rfl rfl rfl rfl (by decide) ?_
      refine Tr.val (wn rfl) rfl (fun _ _ h1 h2 => run_pickF (h1.ev rfl) (h1.ev rfl)) ?_
      exact Tr.nil (Tr.backThen () trivial (.cons rfl .nil) .nil)
    · refine Tr.val (wg rfl rfl rfl) rfl (fun _ _ h1 h2 => run_move (h1.ev rfl)) ?_
      refine Tr.val (wg rfl rfl rfl) rfl (fun _ _ h1 h2 => run_move (h1.ev rfl)) ?_
      refine Tr.val (wg rfl rfl rfl) rfl (fun _ _ h1 h2 => run_leq (h1.ev rfl) (h1.ev rfl)) ?_
      refine Tr.val (wn rfl) rfl (fun _ _ h1 h2 => run_pickT (h1.ev rfl) (h1.ev rfl)) ?_
      exact Tr.nil (Tr.backThen () trivial (.cons rfl .nil) .nil)
  · intro _ _
    show Tr _ _ (LF [(14, (.bool ((decide (p1 ≤ p0)) && (decide (p0 ≤ p2)))))]) (LE []) _
    refine Tr.val (wn rfl) rfl (fun _ _ h1 h2 => run_assign (h1.ev rfl)) ?_
    refine Tr.nil (Tr.normThen ?_)
    refine Tr.ret ?_
    obtain rfl := Option.some.inj H
    exact Tr.out (m := [(.bool ((decide (p1 ≤ p0)) && (decide (p0 ≤ p2))))]) [] (res_tmp rfl res_nil) (fun W hW => ⟨rfl, hW.below⟩)

theorem F_shape_IsAt_ok {w : World} (p0 : Int) (r : Bool) (H : F_shape_IsAt p0 = some r) : Calls Try.prog 138 [(.int .i64 p0)].toArray w fun e W' => e = .returned (.bool r) ∧ Below w.heap.size w W' := by
  unfold F_shape_IsAt at H
  refine Tr.enter (n := 5) Try.func138 rfl rfl rfl ?_
  refine Tr.seq ?_
  refine Tr.region ?_
  refine Tr.val (wn rfl) rfl (fun _ _ h1 h2 => run_assign (h1.ev rfl)) ?_
  refine Tr.nil (Tr.normThen ?_)
  refine Tr.seq ?_
  refine Tr.region ?_
  refine Tr.val (wn rfl) rfl (fun _ _ h1 h2 => run_move (h1.ev rfl)) ?_
  obtain ⟨y1, hy1, H⟩ := bnd H
  refine Tr.call0 (r := (.bool y1)) (wn rfl) rfl Try.call117 (evl_cons rfl (evl_cons rfl (evl_cons rfl evl_nil))) (fun W hW => F_shape_within_ok p0 (-1000000) 1000000 y1 hy1) ?_
  refine Tr.val (wn rfl) rfl (fun _ _ h1 h2 => run_assign (h1.ev rfl)) ?_
  refine Tr.nil (Tr.normThen ?_)
  refine Tr.ret ?_
  obtain rfl := Option.some.inj H
  exact Tr.out (m := [(.bool y1)]) [] (res_tmp rfl res_nil) (fun W hW => ⟨rfl, hW.below⟩)

theorem F_shape_IsPoint_ok {w : World} (p0 : TPoint) (r : Bool) (H : F_shape_IsPoint p0 = some r) : Calls Try.prog 118 [(.agg #[(.int .i64 p0.X), (.int .i64 p0.Y)])].toArray w fun e W' => e = .returned (.bool r) ∧ Below w.heap.size w W' := by
  unfold F_shape_IsPoint at H
  refine Tr.enter (n := 11) Try.func118 rfl rfl rfl ?_
  refine Tr.seq ?_
  refine Tr.region ?_
  refine Tr.box 1 (cs := [(.int .i64 p0.X), (.int .i64 p0.Y)]) (wn rfl) rfl rfl rfl fun b1 => ?_
  refine Tr.val (wn rfl) rfl (fun _ _ h1 h2 => run_assign (h1.ev rfl)) ?_
  refine Tr.nil (Tr.normThen ?_)
  refine Tr.seq ?_
  refine Tr.region ?_
  refine Tr.val (wn rfl) rfl (fun _ _ h1 h2 => run_fieldAddr fo_32_0 (h1.ev rfl)) ?_
  refine Tr.val (wn rfl) rfl (fun _ _ h1 h2 => run_load1 ag_3 (h1.ev rfl) (rdb h2 (vs := [(.int .i64 p0.X), (.int .i64 p0.Y)]) (k := 1) rfl 0) rfl) ?_
  obtain ⟨y1, hy1, H⟩ := bnd H
  refine Tr.call0 (r := (.bool y1)) (wn rfl) rfl Try.call138 (evl_cons rfl evl_nil) (fun W hW => F_shape_IsAt_ok p0.X y1 hy1) ?_
  refine Tr.val (wn rfl) rfl (fun _ _ h1 h2 => run_move (h1.ev rfl)) ?_
  obtain ⟨g3, hg3, H⟩ := bnd H
  refine Tr.mid (σ := Unit) 4 (fun _ => True) (fun _ => [(10, (.bool g3))]) (fun _ => [(1, bx b1 #[(.int .i64 p0.X), (.int .i64 p0.Y)] 32)]) ?_ ?_
  · cases hg4 : y1
    · rw [hg4] at hg3
      rw [if_neg (by decide)] at hg3
      have H := hg3
      obtain rfl := Option.some.inj H
      refine Tr.pass rfl rfl rfl rfl rfl (by decide) ?_
      refine Tr.pass rfl rfl rfl rfl rfl (by decide) ?_
      refine Tr.pass rfl rfl rfl rfl rfl (by decide) ?_
      refine Tr.val (wn rfl) rfl (fun _ _ h1 h2 => run_pickF (h1.ev rfl) (h1.ev rfl)) ?_
      exact Tr.nil (Tr.backThen () trivial (.cons rfl .nil) (.cons rfl .nil))
    · rw [hg4] at hg3
      rw [if_pos rfl] at hg3
      have H := hg3
      refine Tr.val (wg rfl rfl rfl) rfl (fun _ _ h1 h2 => run_fieldAddr fo_32_1 (h1.ev rfl)) ?_
      refine Tr.val (wg rfl rfl rfl) rfl (fun _ _ h1 h2 => run_load1 ag_3 (h1.ev rfl) (rdb h2 (vs := [(.int .i64 p0.X), (.int .i64 p0.Y)]) (k := 1) rfl 1) rfl) ?_
      obtain ⟨y4, hy4, H⟩ := bnd H
      refine Tr.call0 (r := (.bool y4)) (wg rfl rfl rfl) rfl Try.call138 (evl_cons rfl evl_nil) (fun W hW => F_shape_IsAt_ok p0.Y y4 hy4) ?_
      refine Tr.val (wn rfl) rfl (fun _ _ h1 h2 => run_pickT (h1.ev rfl) (h1.ev rfl)) ?_
      obtain rfl := Option.some.inj H
      exact Tr.nil (Tr.backThen () trivial (.cons rfl .nil) (.cons rfl .nil))
  · intro _ _
    show Tr _ _ (LF [(10, (.bool g3))]) (LE [(1, bx b1 #[(.int .i64 p0.X), (.int .i64 p0.Y)] 32)]) _
    refine Tr.val (wn rfl) rfl (fun _ _ h1 h2 => run_assign (h1.ev rfl)) ?_
    refine Tr.nil (Tr.normThen ?_)
    refine Tr.ret ?_
    obtain rfl := Option.some.inj H
    exact Tr.out (m := [(.bool g3)]) [] (res_tmp rfl res_nil) (fun W hW => ⟨rfl, hW.below⟩)

theorem F_shape_CheckTurn_ok {w : World} (p0 : TTurn) (r : Int) (H : F_shape_CheckTurn p0 = some r) : Calls Try.prog 99 [(.agg #[(.bool p0.Flip), (.int .i64 p0.Quarters), (.int .i64 p0.At.X), (.int .i64 p0.At.Y)])].toArray w fun e W' => e = .returned (.int .i64 r) ∧ Below w.heap.size w W' := by
  unfold F_shape_CheckTurn at H
  refine Tr.enter (n := 13) Try.func99 rfl rfl rfl ?_
  refine Tr.seq ?_
  refine Tr.region ?_
  refine Tr.box 1 (cs := [(.bool p0.Flip), (.int .i64 p0.Quarters), (.int .i64 p0.At.X), (.int .i64 p0.At.Y)]) (wn rfl) rfl rfl rfl fun b1 => ?_
  refine Tr.val (wn rfl) rfl (fun _ _ h1 h2 => run_assign (h1.ev rfl)) ?_
  refine Tr.nil (Tr.normThen ?_)
  refine Tr.seq ?_
  refine Tr.seq ?_
  refine Tr.region ?_
  refine Tr.val (wn rfl) rfl (fun _ _ h1 h2 => run_fieldAddr fo_46_1 (h1.ev rfl)) ?_
  refine Tr.val (wn rfl) rfl (fun _ _ h1 h2 => run_load1 ag_3 (h1.ev rfl) (rdb h2 (vs := [(.bool p0.Flip), (.int .i64 p0.Quarters), (.int .i64 p0.At.X), (.int .i64 p0.At.Y)]) (k := 1) rfl 1) rfl) ?_
  obtain ⟨y1, hy1, H⟩ := bnd H
  refine Tr.call0 (r := (.bool y1)) (wn rfl) rfl Try.call117 (evl_cons rfl (evl_cons rfl (evl_cons rfl evl_nil))) (fun W hW => F_shape_within_ok p0.Quarters 0 3 y1 hy1) ?_
  refine Tr.val (wn rfl) rfl (fun _ _ h1 h2 => run_not (h1.ev rfl)) ?_
  refine Tr.val (wn rfl) rfl (fun _ _ h1 h2 => run_move (h1.ev rfl)) ?_
  obtain ⟨g3, hg3, H⟩ := bnd H
  refine Tr.mid (σ := Unit) 5 (fun _ => True) (fun _ => [(12, (.bool g3))]) (fun _ => [(1, bx b1 #[(.bool p0.Flip), (.int .i64 p0.Quarters), (.int .i64 p0.At.X), (.int .i64 p0.At.Y)] 46)]) ?_ ?_
  · cases hg4 : (!y1)
    · rw [hg4] at hg3
      rw [if_neg (by decide)] at hg3
      have H := hg3
      refine Tr.val (wg rfl rfl rfl) rfl (fun _ _ h1 h2 => run_fieldAddr fo_46_2 (h1.ev rfl)) ?_
      refine Tr.val (wg rfl rfl rfl) rfl (fun _ _ h1 h2 => run_loadN (cs := [(.int .i64 p0.At.X), (.int .i64 p0.At.Y)]) ag_32 sz_32 (h1.ev rfl) (CellsAt.take (rdb h2 (vs := [(.bool p0.Flip), (.int .i64 p0.Quarters), (.int .i64 p0.At.X), (.int .i64 p0.At.Y)]) (k := 1) rfl 2) 2) rfl) ?_
      obtain ⟨y4, hy4, H⟩ := bnd H
      refine Tr.call0 (r := (.bool y4)) (wg rfl rfl rfl) rfl Try.call118 (evl_cons rfl evl_nil) (fun W hW => F_shape_IsPoint_ok p0.At y4 hy4) ?_
      refine Tr.val (wg rfl rfl rfl) rfl (fun _ _ h1 h2 => run_not (h1.ev rfl)) ?_
      refine Tr.val (wn rfl) rfl (fun _ _ h1 h2 => run_pickF (h1.ev rfl) (h1.ev rfl)) ?_
      obtain rfl := Option.some.inj H
      exact Tr.nil (Tr.backThen () trivial (.cons rfl .nil) (.cons rfl .nil))
    · rw [hg4] at hg3
      rw [if_pos rfl] at hg3
      have H := hg3
      obtain rfl := Option.some.inj H
      refine Tr.pass rfl rfl rfl rfl rfl (by decide) ?_
      refine Tr.pass rfl rfl rfl rfl rfl (by decide) ?_
      refine Tr.pass rfl rfl rfl rfl rfl (by decide) ?_
      refine Tr.pass rfl rfl rfl rfl rfl (by decide) ?_
      refine Tr.val (wn rfl) rfl (fun _ _ h1 h2 => run_pickT (h1.ev rfl) (h1.ev rfl)) ?_
      exact Tr.nil (Tr.backThen () trivial (.cons rfl .nil) (.cons rfl .nil))
  · intro _ _
    show Tr _ _ (LF [(12, (.bool g3))]) (LE [(1, bx b1 #[(.bool p0.Flip), (.int .i64 p0.Quarters), (.int .i64 p0.At.X), (.int .i64 p0.At.Y)] 46)]) _
    refine Tr.nil (Tr.normThen ?_)
    refine Tr.cond rfl H (fun H => ?_) (fun H => ?_)
    · refine Tr.seq ?_
      refine Tr.region ?_
      refine Tr.val (wn rfl) rfl (fun _ _ h1 h2 => run_assign (h1.ev rfl)) ?_
      refine Tr.nil (Tr.normThen ?_)
      refine Tr.ret (Tr.retThen ?_)
      obtain rfl := Option.some.inj H
      exact Tr.out (m := [(.int .i64 1)]) [] (res_tmp rfl res_nil) (fun W hW => ⟨rfl, hW.below⟩)
    · refine Tr.skip (Tr.normThen ?_)
      refine Tr.seq ?_
      refine Tr.region ?_
      refine Tr.val (wn rfl) rfl (fun _ _ h1 h2 => run_assign (h1.ev rfl)) ?_
      refine Tr.nil (Tr.normThen ?_)
      refine Tr.ret ?_
      obtain rfl := Option.some.inj H
      exact Tr.out (m := [(.int .i64 0)]) [] (res_tmp rfl res_nil) (fun W hW => ⟨rfl, hW.below⟩)

theorem F_shape_Back_ok (N : Nat) {w : World} (p0 : TTurn) (r : (TTurn × Int)) (H : F_shape_Back N p0 = some r) : Calls Try.prog 58 [(.agg #[(.bool p0.Flip), (.int .i64 p0.Quarters), (.int .i64 p0.At.X), (.int .i64 p0.At.Y)])].toArray w fun e W' => e = .returned (.tuple #[(.agg #[(.bool r.1.Flip), (.int .i64 r.1.Quarters), (.int .i64 r.1.At.X), (.int .i64 r.1.At.Y)]), (.int .i64 r.2)]) ∧ Below w.heap.size w W' := by
  unfold F_shape_Back at H
  refine Tr.enter (n := 39) Try.func58 rfl rfl rfl ?_
  refine Tr.seq ?_
  refine Tr.region ?_
  refine Tr.box 1 (cs := [(.bool p0.Flip), (.int .i64 p0.Quarters), (.int .i64 p0.At.X), (.int .i64 p0.At.Y)]) (wn rfl) rfl rfl rfl fun b1 => ?_
  refine Tr.alloc 2 (wn rfl) rfl ze_46 fun b2 => ?_
  refine Tr.val (wn rfl) rfl (fun _ _ h1 h2 => run_assign (h1.ev rfl)) ?_
  refine Tr.nil (Tr.normThen ?_)
  refine Tr.seq ?_
  refine Tr.seq ?_
  refine Tr.region ?_
  refine Tr.val (wn rfl) rfl (fun _ _ h1 h2 => run_loadN (cs := [(.bool p0.Flip), (.int .i64 p0.Quarters), (.int .i64 p0.At.X), (.int .i64 p0.At.Y)]) ag_46 sz_46 (h1.ev rfl) (CellsAt.take (rdb h2 (vs := [(.bool p0.Flip), (.int .i64 p0.Quarters), (.int .i64 p0.At.X), (.int .i64 p0.At.Y)]) (k := 1) rfl 0) 4) rfl) ?_
  obtain ⟨y1, hy1, H⟩ := bnd H
  refine Tr.call0 (r := (.int .i64 y1)) (wn rfl) rfl Try.call99 (evl_cons rfl evl_nil) (fun W hW => F_shape_CheckTurn_ok p0 y1 hy1) ?_
  refine Tr.val (wn rfl) rfl (fun _ _ h1 h2 => run_assign (h1.ev rfl)) ?_
  refine Tr.nil (Tr.normThen ?_)
  refine Tr.seq ?_
  refine Tr.region ?_
  refine Tr.val (wn rfl) rfl (fun _ _ h1 h2 => run_move (h1.ev rfl)) ?_
  refine Tr.val (wn rfl) rfl (fun _ _ h1 h2 => run_neq (h1.ev rfl) (h1.ev rfl)) ?_
  refine Tr.nil (Tr.normThen ?_)
  refine Tr.cond rfl H (fun H => ?_) (fun H => ?_)
  · refine Tr.seq ?_
    refine Tr.region ?_
    refine Tr.build (vs := []) (cs := [(.bool false), (.int .i64 0), (.int .i64 0), (.int .i64 0)]) (wn rfl) rfl evs_nil (by kernel_rfl) ?_
    refine Tr.val (wn rfl) rfl (fun _ _ h1 h2 => run_move (h1.ev rfl)) ?_
    refine Tr.store 2 (cs := [(.bool false), (.int .i64 0), (.int .i64 0), (.int .i64 0)]) [(.bool false), (.int .i64 0), (.int .i64 0), (.int .i64 0)] (wn rfl) rfl rfl rfl rfl sz_46 rfl rfl rfl ?_
    refine Tr.val (wn rfl) rfl (fun _ _ h1 h2 => run_assign (h1.ev rfl)) ?_
    refine Tr.nil (Tr.normThen ?_)
    refine Tr.ret (Tr.retThen ?_)
    obtain rfl := Option.some.inj H
    exact Tr.out (m := [(.agg #[(.bool false), (.int .i64 0), (.int .i64 0), (.int .i64 0)]), (.int .i64 y1)]) [2] (res_cell rfl rfl ag_46 sz_46 (res_tmp rfl res_nil)) (fun W hW => ⟨rfl, hW.below⟩)
  · refine Tr.skip (Tr.normThen ?_)
    refine Tr.seq ?_
    refine Tr.region ?_
    refine Tr.val (wn rfl) rfl (fun _ _ h1 h2 => run_fieldAddr fo_46_0 (h1.ev rfl)) ?_
    refine Tr.val (wn rfl) rfl (fun _ _ h1 h2 => run_load1 ag_4 (h1.ev rfl) (rdb h2 (vs := [(.bool p0.Flip), (.int .i64 p0.Quarters), (.int .i64 p0.At.X), (.int .i64 p0.At.Y)]) (k := 1) rfl 0) rfl) ?_
    refine Tr.val (wn rfl) rfl (fun _ _ h1 h2 => run_fieldAddr fo_46_1 (h1.ev rfl)) ?_
    refine Tr.val (wn rfl) rfl (fun _ _ h1 h2 => run_load1 ag_3 (h1.ev rfl) (rdb h2 (vs := [(.bool p0.Flip), (.int .i64 p0.Quarters), (.int .i64 p0.At.X), (.int .i64 p0.At.Y)]) (k := 1) rfl 1) rfl) ?_
    refine Tr.build (vs := [(0, (.bool p0.Flip)), (1, (.int .i64 p0.Quarters))]) (cs := [(.bool p0.Flip), (.int .i64 p0.Quarters), (.int .i64 0), (.int .i64 0)]) (wn rfl) rfl (evs_cons rfl (evs_cons rfl evs_nil)) (by kernel_rfl) ?_
    refine Tr.alloc 3 (wn rfl) rfl ze_46 fun b3 => ?_
    refine Tr.store 3 (cs := [(.bool p0.Flip), (.int .i64 p0.Quarters), (.int .i64 0), (.int .i64 0)]) [(.bool p0.Flip), (.int .i64 p0.Quarters), (.int .i64 0), (.int .i64 0)] (wn rfl) rfl rfl rfl rfl sz_46 rfl rfl rfl ?_
    refine Tr.nil (Tr.normThen ?_)
    refine Tr.cutJ (σ := Int) (fun s => F_shape_Back_J1 N p0 s = some r) (fun s => [(1, (.pointer (some ⟨b1, 0, none⟩))), (2, (.pointer (some ⟨b2, 0, none⟩))), (5, (.pointer (some ⟨b3, 0, none⟩)))]) (fun s => [(1, bx b1 #[(.bool p0.Flip), (.int .i64 p0.Quarters), (.int .i64 p0.At.X), (.int .i64 p0.At.Y)] 46), (2, bx b2 #[(.bool false), (.int .i64 0), (.int .i64 0), (.int .i64 0)] 46), (3, bx b3 #[(.bool p0.Flip), (.int .i64 s), (.int .i64 0), (.int .i64 0)] 46)]) ?_ ?_
    · refine Tr.seq ?_
      refine Tr.region ?_
      refine Tr.val (wn rfl) rfl (fun _ _ h1 h2 => run_fieldAddr fo_46_0 (h1.ev rfl)) ?_
      refine Tr.val (wn rfl) rfl (fun _ _ h1 h2 => run_load1 ag_4 (h1.ev rfl) (rdb h2 (vs := [(.bool p0.Flip), (.int .i64 p0.Quarters), (.int .i64 p0.At.X), (.int .i64 p0.At.Y)]) (k := 1) rfl 0) rfl) ?_
      refine Tr.val (wn rfl) rfl (fun _ _ h1 h2 => run_not (h1.ev rfl)) ?_
      refine Tr.nil (Tr.normThen ?_)
      refine Tr.cond rfl H (fun H => ?_) (fun H => ?_)
      · refine Tr.region ?_
        refine Tr.val (wn rfl) rfl (fun _ _ h1 h2 => run_fieldAddr fo_46_1 (h1.ev rfl)) ?_
        refine Tr.val (wn rfl) rfl (fun _ _ h1 h2 => run_load1 ag_3 (h1.ev rfl) (rdb h2 (vs := [(.bool p0.Flip), (.int .i64 p0.Quarters), (.int .i64 p0.At.X), (.int .i64 p0.At.Y)]) (k := 1) rfl 1) rfl) ?_
        refine Tr.val (wn rfl) rfl (fun _ _ h1 h2 => run_sub (h1.ev rfl) (h1.ev rfl)) ?_
        refine Tr.val (wn rfl) rfl (fun _ _ h1 h2 => run_rem (h1.ev rfl) (h1.ev rfl) (by decide)) ?_
        refine Tr.val (wn rfl) rfl (fun _ _ h1 h2 => run_fieldAddr fo_46_1 (h1.ev rfl)) ?_
        refine Tr.store 3 (cs := [(.int .i64 (Int.tmod (w64 (4 - p0.Quarters)) 4))]) [(.bool p0.Flip), (.int .i64 (Int.tmod (w64 (4 - p0.Quarters)) 4)), (.int .i64 0), (.int .i64 0)] (wn rfl) rfl rfl rfl rfl sz_3 rfl rfl rfl ?_
        refine Tr.nil ?_
        exact Tr.backThen (Int.tmod (w64 (4 - p0.Quarters)) 4) H (.cons rfl (.cons rfl (.cons rfl .nil))) (.cons rfl (.cons rfl (.cons rfl .nil)))
      · refine Tr.skip ?_
        exact Tr.backThen p0.Quarters H (.cons rfl (.cons rfl (.cons rfl .nil))) (.cons rfl (.cons rfl (.cons rfl .nil)))
    · intro x2 hs
      have H := hs
      replace H : F_shape_Back_J1 N p0 x2 = some r := H
      unfold F_shape_Back_J1 at H
      show Tr _ _ (LF [(1, (.pointer (some ⟨b1, 0, none⟩))), (2, (.pointer (some ⟨b2, 0, none⟩))), (5, (.pointer (some ⟨b3, 0, none⟩)))]) (LE [(1, bx b1 #[(.bool p0.Flip), (.int .i64 p0.Quarters), (.int .i64 p0.At.X), (.int .i64 p0.At.Y)] 46), (2, bx b2 #[(.bool false), (.int .i64 0), (.int .i64 0), (.int .i64 0)] 46), (3, bx b3 #[(.bool p0.Flip), (.int .i64 x2), (.int .i64 0), (.int .i64 0)] 46)]) _
      refine Tr.seq ?_
      refine Tr.region ?_
      refine Tr.val (wn rfl) rfl (fun _ _ h1 h2 => run_fieldAddr fo_46_2 (h1.ev rfl)) ?_
      refine Tr.val (wn rfl) rfl (fun _ _ h1 h2 => run_loadN (cs := [(.int .i64 p0.At.X), (.int .i64 p0.At.Y)]) ag_32 sz_32 (h1.ev rfl) (CellsAt.take (rdb h2 (vs := [(.bool p0.Flip), (.int .i64 p0.Quarters), (.int .i64 p0.At.X), (.int .i64 p0.At.Y)]) (k := 1) rfl 2) 2) rfl) ?_
      refine Tr.val (wn rfl) rfl (fun _ _ h1 h2 => run_loadN (cs := [(.bool p0.Flip), (.int .i64 x2), (.int .i64 0), (.int .i64 0)]) ag_46 sz_46 (h1.ev rfl) (CellsAt.take (rdb h2 (vs := [(.bool p0.Flip), (.int .i64 x2), (.int .i64 0), (.int .i64 0)]) (k := 3) rfl 0) 4) rfl) ?_
      obtain ⟨y3, hy3, H⟩ := bnd H
      refine Tr.call0 (r := (.agg #[(.int .i64 y3.X), (.int .i64 y3.Y)])) (wn rfl) rfl Try.call54 (evl_cons rfl (evl_cons rfl evl_nil)) (fun W hW => F_shape_TurnPoint_ok N p0.At (TTurn.mk p0.Flip x2 (TPoint.mk 0 0)) y3 hy3) ?_
      refine Tr.alloc 4 (wn rfl) rfl ze_32 fun b4 => ?_
      refine Tr.store 4 (cs := [(.int .i64 y3.X), (.int .i64 y3.Y)]) [(.int .i64 y3.X), (.int .i64 y3.Y)] (wn rfl) rfl rfl rfl rfl sz_32 rfl rfl rfl ?_
      refine Tr.nil (Tr.normThen ?_)
      refine Tr.seq ?_
      refine Tr.region ?_
      refine Tr.val (wn rfl) rfl (fun _ _ h1 h2 => run_fieldAddr fo_32_0 (h1.ev rfl)) ?_
      refine Tr.val (wn rfl) rfl (fun _ _ h1 h2 => run_load1 ag_3 (h1.ev rfl) (rdb h2 (vs := [(.int .i64 y3.X), (.int .i64 y3.Y)]) (k := 4) rfl 0) rfl) ?_
      refine Tr.val (wn rfl) rfl (fun _ _ h1 h2 => run_neg (h1.ev rfl)) ?_
      refine Tr.val (wn rfl) rfl (fun _ _ h1 h2 => run_fieldAddr fo_32_1 (h1.ev rfl)) ?_
      refine Tr.val (wn rfl) rfl (fun _ _ h1 h2 => run_load1 ag_3 (h1.ev rfl) (rdb h2 (vs := [(.int .i64 y3.X), (.int .i64 y3.Y)]) (k := 4) rfl 1) rfl) ?_
      refine Tr.val (wn rfl) rfl (fun _ _ h1 h2 => run_neg (h1.ev rfl)) ?_
      refine Tr.build (vs := [(0, (.int .i64 (w64 (0 - y3.X)))), (1, (.int .i64 (w64 (0 - y3.Y))))]) (cs := [(.int .i64 (w64 (0 - y3.X))), (.int .i64 (w64 (0 - y3.Y)))]) (wn rfl) rfl (evs_cons rfl (evs_cons rfl evs_nil)) (by kernel_rfl) ?_
      refine Tr.val (wn rfl) rfl (fun _ _ h1 h2 => run_fieldAddr fo_46_2 (h1.ev rfl)) ?_
      refine Tr.store 3 (cs := [(.int .i64 (w64 (0 - y3.X))), (.int .i64 (w64 (0 - y3.Y)))]) [(.bool p0.Flip), (.int .i64 x2), (.int .i64 (w64 (0 - y3.X))), (.int .i64 (w64 (0 - y3.Y)))] (wn rfl) rfl rfl rfl rfl sz_32 rfl rfl rfl ?_
      refine Tr.nil (Tr.normThen ?_)
      refine Tr.seq ?_
      refine Tr.region ?_
      refine Tr.val (wn rfl) rfl (fun _ _ h1 h2 => run_loadN (cs := [(.bool p0.Flip), (.int .i64 x2), (.int .i64 (w64 (0 - y3.X))), (.int .i64 (w64 (0 - y3.Y)))]) ag_46 sz_46 (h1.ev rfl) (CellsAt.take (rdb h2 (vs := [(.bool p0.Flip), (.int .i64 x2), (.int .i64 (w64 (0 - y3.X))), (.int .i64 (w64 (0 - y3.Y)))]) (k := 3) rfl 0) 4) rfl) ?_
      refine Tr.store 2 (cs := [(.bool p0.Flip), (.int .i64 x2), (.int .i64 (w64 (0 - y3.X))), (.int .i64 (w64 (0 - y3.Y)))]) [(.bool p0.Flip), (.int .i64 x2), (.int .i64 (w64 (0 - y3.X))), (.int .i64 (w64 (0 - y3.Y)))] (wn rfl) rfl rfl rfl rfl sz_46 rfl rfl rfl ?_
      refine Tr.val (wn rfl) rfl (fun _ _ h1 h2 => run_assign (h1.ev rfl)) ?_
      refine Tr.nil (Tr.normThen ?_)
      refine Tr.ret ?_
      obtain rfl := Option.some.inj H
      exact Tr.out (m := [(.agg #[(.bool p0.Flip), (.int .i64 x2), (.int .i64 (w64 (0 - y3.X))), (.int .i64 (w64 (0 - y3.Y)))]), (.int .i64 0)]) [2] (res_cell rfl rfl ag_46 sz_46 (res_tmp rfl res_nil)) (fun W hW => ⟨rfl, hW.below⟩)

theorem F_panel_ToBoard_ok (N : Nat) {w : World} (p0 : TPanel) (Ap0_0 : Option Addr) (cp0_0 : Nat) (hp0_0 : Sl (lo w.heap.size) w fl_TBoardKind Ap0_0 cp0_0 p0.Kinds) (Ap0_1 : Option Addr) (cp0_1 : Nat) (hp0_1 : Sl (lo w.heap.size) w fl_TSlot Ap0_1 cp0_1 p0.Slots) (Ap0_2 : Option Addr) (cp0_2 : Nat) (hp0_2 : Sl (lo w.heap.size) w fl_TPoint Ap0_2 cp0_2 p0.Marks) (p1 : TPoint) (r : (Int × TPoint × Bool × Int)) (H : F_panel_ToBoard N p0 p1 = some r) : Calls Try.prog 24 [(.agg #[(.int .i64 p0.W), (.int .i64 p0.H), (.int .i64 p0.Rail), (.int .i64 p0.Gap), (.slice Ap0_0 (p0.Kinds).length cp0_0), (.slice Ap0_1 (p0.Slots).length cp0_1), (.slice Ap0_2 (p0.Marks).length cp0_2)]), (.agg #[(.int .i64 p1.X), (.int .i64 p1.Y)])].toArray w fun e W' => e = .returned (.tuple #[(.int .i64 r.1), (.agg #[(.int .i64 r.2.1.X), (.int .i64 r.2.1.Y)]), (.bool r.2.2.1), (.int .i64 r.2.2.2)]) ∧ Below w.heap.size w W' := by
  unfold F_panel_ToBoard at H
  refine Tr.enter (n := 68) Try.func24 rfl rfl rfl ?_
  refine Tr.seq ?_
  refine Tr.region ?_
  refine Tr.box 1 (cs := [(.int .i64 p0.W), (.int .i64 p0.H), (.int .i64 p0.Rail), (.int .i64 p0.Gap), (.slice Ap0_0 (p0.Kinds).length cp0_0), (.slice Ap0_1 (p0.Slots).length cp0_1), (.slice Ap0_2 (p0.Marks).length cp0_2)]) (wn rfl) rfl rfl rfl fun b1 => ?_
  refine Tr.box 2 (cs := [(.int .i64 p1.X), (.int .i64 p1.Y)]) (wn rfl) rfl rfl rfl fun b2 => ?_
  refine Tr.val (wn rfl) rfl (fun _ _ h1 h2 => run_assign (h1.ev rfl)) ?_
  refine Tr.alloc 3 (wn rfl) rfl ze_32 fun b3 => ?_
  refine Tr.val (wn rfl) rfl (fun _ _ h1 h2 => run_assign (h1.ev rfl)) ?_
  refine Tr.val (wn rfl) rfl (fun _ _ h1 h2 => run_assign (h1.ev rfl)) ?_
  refine Tr.nil (Tr.normThen ?_)
  refine Tr.seq ?_
  refine Tr.region ?_
  refine Tr.val (wn rfl) rfl (fun _ _ h1 h2 => run_loadN (cs := [(.int .i64 p0.W), (.int .i64 p0.H), (.int .i64 p0.Rail), (.int .i64 p0.Gap), (.slice Ap0_0 (p0.Kinds).length cp0_0), (.slice Ap0_1 (p0.Slots).length cp0_1), (.slice Ap0_2 (p0.Marks).length cp0_2)]) ag_26 sz_26 (h1.ev rfl) (CellsAt.take (rdb h2 (vs := [(.int .i64 p0.W), (.int .i64 p0.H), (.int .i64 p0.Rail), (.int .i64 p0.Gap), (.slice Ap0_0 (p0.Kinds).length cp0_0), (.slice Ap0_1 (p0.Slots).length cp0_1), (.slice Ap0_2 (p0.Marks).length cp0_2)]) (k := 1) rfl 0) 7) rfl) ?_
  obtain ⟨y1, hy1, H⟩ := bnd H
  refine Tr.call 4 (U := Option Addr × Nat) (fun u => (.tuple #[(.slice u.1 (y1.1).length u.2), (.int .i64 y1.2)])) (fun u => SlF u.1 (y1.1).length u.2) (fun u => ow u.1 u.2 42 fl_TRect y1.1) (wn rfl) rfl Try.call47 (evl_cons rfl evl_nil) (fun W hW => F_panel_open_ok N p0 Ap0_0 cp0_0 (Sl.up hp0_0 hW) Ap0_1 cp0_1 (Sl.up hp0_1 hW) Ap0_2 cp0_2 (Sl.up hp0_2 hW) y1 hy1) ?_
  intro u hu
  obtain ⟨Ay1, cy1⟩ := u
  have hAy1 : SlF Ay1 (y1.1).length cy1 := hu
  show Tr _ _ (uf _ 16 (.tuple #[(.slice Ay1 (y1.1).length cy1), (.int .i64 y1.2)])) (up _ 4 (ow Ay1 cy1 42 fl_TRect y1.1)) _
  refine Tr.val (wn rfl) rfl (fun _ _ h1 h2 => run_move (h1.ev rfl)) ?_
  refine Tr.val (wn rfl) rfl (fun _ _ h1 h2 => run_extract (h1.ev rfl) rfl) ?_
  refine Tr.val (wn rfl) rfl (fun _ _ h1 h2 => run_extract (h1.ev rfl) rfl) ?_
  refine Tr.val (wn rfl) rfl (fun _ _ h1 h2 => run_assign (h1.ev rfl)) ?_
  refine Tr.val (wn rfl) rfl (fun _ _ h1 h2 => run_assign (h1.ev rfl)) ?_
  refine Tr.nil (Tr.normThen ?_)
  refine Tr.seq ?_
  refine Tr.seq ?_
  refine Tr.region ?_
  refine Tr.val (wn rfl) rfl (fun _ _ h1 h2 => run_move (h1.ev rfl)) ?_
  refine Tr.val (wn rfl) rfl (fun _ _ h1 h2 => run_neq (h1.ev rfl) (h1.ev rfl)) ?_
  refine Tr.nil (Tr.normThen ?_)
  refine Tr.cond rfl H (fun H => ?_) (fun H => ?_)
  · refine Tr.seq ?_
    refine Tr.region ?_
    refine Tr.build (vs := []) (cs := [(.int .i64 0), (.int .i64 0)]) (wn rfl) rfl evs_nil (by kernel_rfl) ?_
    refine Tr.val (wn rfl) rfl (fun _ _ h1 h2 => run_move (h1.ev rfl)) ?_
    refine Tr.val (wn rfl) rfl (fun _ _ h1 h2 => run_assign (h1.ev rfl)) ?_
    refine Tr.store 3 (cs := [(.int .i64 0), (.int .i64 0)]) [(.int .i64 0), (.int .i64 0)] (wn rfl) rfl rfl rfl rfl sz_32 rfl rfl rfl ?_
    refine Tr.val (wn rfl) rfl (fun _ _ h1 h2 => run_assign (h1.ev rfl)) ?_
    refine Tr.val (wn rfl) rfl (fun _ _ h1 h2 => run_assign (h1.ev rfl)) ?_
    refine Tr.nil (Tr.normThen ?_)
    refine Tr.ret (Tr.retThen ?_)
    obtain rfl := Option.some.inj H
    exact Tr.out (m := [(.int .i64 0), (.agg #[(.int .i64 0), (.int .i64 0)]), (.bool false), (.int .i64 y1.2)]) [3] (res_tmp rfl (res_cell rfl rfl ag_32 sz_32 (res_tmp rfl (res_tmp rfl res_nil)))) (fun W hW => ⟨rfl, hW.below⟩)
  · refine Tr.skip (Tr.normThen ?_)
    refine Tr.seq ?_
    refine Tr.seq ?_
    refine Tr.region ?_
    refine Tr.val (wn rfl) rfl (fun _ _ h1 h2 => run_loadN (cs := [(.int .i64 p0.W), (.int .i64 p0.H), (.int .i64 p0.Rail), (.int .i64 p0.Gap), (.slice Ap0_0 (p0.Kinds).length cp0_0), (.slice Ap0_1 (p0.Slots).length cp0_1), (.slice Ap0_2 (p0.Marks).length cp0_2)]) ag_26 sz_26 (h1.ev rfl) (CellsAt.take (rdb h2 (vs := [(.int .i64 p0.W), (.int .i64 p0.H), (.int .i64 p0.Rail), (.int .i64 p0.Gap), (.slice Ap0_0 (p0.Kinds).length cp0_0), (.slice Ap0_1 (p0.Slots).length cp0_1), (.slice Ap0_2 (p0.Marks).length cp0_2)]) (k := 1) rfl 0) 7) rfl) ?_
    refine Tr.val (wn rfl) rfl (fun _ _ h1 h2 => run_loadN (cs := [(.int .i64 p1.X), (.int .i64 p1.Y)]) ag_32 sz_32 (h1.ev rfl) (CellsAt.take (rdb h2 (vs := [(.int .i64 p1.X), (.int .i64 p1.Y)]) (k := 2) rfl 0) 2) rfl) ?_
    obtain ⟨y2, hy2, H⟩ := bnd H
    refine Tr.call0 (r := (.bool y2)) (wn rfl) rfl Try.call57 (evl_cons rfl (evl_cons rfl evl_nil)) (fun W hW => F_panel_isOnPanel_ok p0 Ap0_0 cp0_0 (Sl.up hp0_0 hW) Ap0_1 cp0_1 (Sl.up hp0_1 hW) Ap0_2 cp0_2 (Sl.up hp0_2 hW) p1 y2 hy2) ?_
    refine Tr.val (wn rfl) rfl (fun _ _ h1 h2 => run_not (h1.ev rfl)) ?_
    refine Tr.nil (Tr.normThen ?_)
    refine Tr.cond rfl H (fun H => ?_) (fun H => ?_)
    · refine Tr.seq ?_
      refine Tr.region ?_
      refine Tr.build (vs := []) (cs := [(.int .i64 0), (.int .i64 0)]) (wn rfl) rfl evs_nil (by kernel_rfl) ?_
      refine Tr.val (wn rfl) rfl (fun _ _ h1 h2 => run_assign (h1.ev rfl)) ?_
      refine Tr.store 3 (cs := [(.int .i64 0), (.int .i64 0)]) [(.int .i64 0), (.int .i64 0)] (wn rfl) rfl rfl rfl rfl sz_32 rfl rfl rfl ?_
      refine Tr.val (wn rfl) rfl (fun _ _ h1 h2 => run_assign (h1.ev rfl)) ?_
      refine Tr.val (wn rfl) rfl (fun _ _ h1 h2 => run_assign (h1.ev rfl)) ?_
      refine Tr.nil (Tr.normThen ?_)
      refine Tr.ret (Tr.retThen ?_)
      obtain rfl := Option.some.inj H
      exact Tr.out (m := [(.int .i64 0), (.agg #[(.int .i64 0), (.int .i64 0)]), (.bool false), (.int .i64 1)]) [3] (res_tmp rfl (res_cell rfl rfl ag_32 sz_32 (res_tmp rfl (res_tmp rfl res_nil)))) (fun W hW => ⟨rfl, hW.below⟩)
    · refine Tr.skip (Tr.normThen ?_)
      refine Tr.seq ?_
      refine Tr.seq ?_
      refine Tr.region ?_
      refine Tr.val (wn rfl) rfl (fun _ _ h1 h2 => run_move (h1.ev rfl)) ?_
      refine Tr.val (wn rfl) rfl (fun _ _ h1 h2 => run_len un_38 (h1.ev rfl)) ?_
      refine Tr.val (wn rfl) rfl (fun _ _ h1 h2 => run_move (h1.ev rfl)) ?_
      refine Tr.nil (Tr.normThen ?_)
      refine Tr.block ?_
      refine Tr.loop (σ := (List TRect) × Nat) (fun m s => m = s.1.length + 1 ∧ s.1 = List.drop s.2 y1.1 ∧ s.2 ≤ y1.1.length ∧ F_panel_ToBoard_L1 N p0 p1 s.1 s.2 = some r) (fun s => [(2, (.pointer (some ⟨b1, 0, none⟩))), (3, (.pointer (some ⟨b2, 0, none⟩))), (5, (.pointer (some ⟨b3, 0, none⟩))), (28, (.slice Ay1 (y1.1).length cy1)), (29, (.int .i64 (y1.1.length : Int))), (30, (.int .i64 (s.2 : Int)))]) (fun s => [(1, bx b1 #[(.int .i64 p0.W), (.int .i64 p0.H), (.int .i64 p0.Rail), (.int .i64 p0.Gap), (.slice Ap0_0 (p0.Kinds).length cp0_0), (.slice Ap0_1 (p0.Slots).length cp0_1), (.slice Ap0_2 (p0.Marks).length cp0_2)] 26), (2, bx b2 #[(.int .i64 p1.X), (.int .i64 p1.Y)] 32), (3, bx b3 #[(.int .i64 0), (.int .i64 0)] 32), (4, ow Ay1 cy1 42 fl_TRect y1.1)]) (y1.1.length + 1) (y1.1, 0) ⟨rfl, rfl, Nat.zero_le _, H⟩ (.cons rfl (.cons rfl (.cons rfl (.cons rfl (.cons rfl (.cons rfl .nil)))))) (.cons rfl (.cons rfl (.cons rfl (.cons rfl .nil)))) (fun _ h => absurd h.1 (by simp)) ?_
      intro m s hs
      obtain ⟨restF_panel_ToBoard_L1, iF_panel_ToBoard_L1⟩ := s
      obtain ⟨hmF_panel_ToBoard_L1, hdF_panel_ToBoard_L1, hiF_panel_ToBoard_L1, H⟩ := hs
      replace hdF_panel_ToBoard_L1 : restF_panel_ToBoard_L1 = List.drop iF_panel_ToBoard_L1 y1.1 := hdF_panel_ToBoard_L1
      replace H : F_panel_ToBoard_L1 N p0 p1 restF_panel_ToBoard_L1 iF_panel_ToBoard_L1 = some r := H
      replace hmF_panel_ToBoard_L1 : m + 1 = restF_panel_ToBoard_L1.length + 1 := hmF_panel_ToBoard_L1
      obtain rfl : m = restF_panel_ToBoard_L1.length := by omega
      clear hmF_panel_ToBoard_L1
      show Tr _ _ (LF [(2, (.pointer (some ⟨b1, 0, none⟩))), (3, (.pointer (some ⟨b2, 0, none⟩))), (5, (.pointer (some ⟨b3, 0, none⟩))), (28, (.slice Ay1 (y1.1).length cy1)), (29, (.int .i64 (y1.1.length : Int))), (30, (.int .i64 (iF_panel_ToBoard_L1 : Int)))]) (LE [(1, bx b1 #[(.int .i64 p0.W), (.int .i64 p0.H), (.int .i64 p0.Rail), (.int .i64 p0.Gap), (.slice Ap0_0 (p0.Kinds).length cp0_0), (.slice Ap0_1 (p0.Slots).length cp0_1), (.slice Ap0_2 (p0.Marks).length cp0_2)] 26), (2, bx b2 #[(.int .i64 p1.X), (.int .i64 p1.Y)] 32), (3, bx b3 #[(.int .i64 0), (.int .i64 0)] 32), (4, ow Ay1 cy1 42 fl_TRect y1.1)]) _
      cases restF_panel_ToBoard_L1 with
      | nil =>
        rw [F_panel_ToBoard_L1.eq_1] at H
        refine Tr.seq ?_
        refine Tr.region ?_
        refine Tr.val (wn rfl) rfl (fun _ _ h1 h2 => run_lss (h1.ev rfl) (h1.ev rfl)) ?_
        refine Tr.nil (Tr.normThen ?_)
        refine Tr.seq ?_
        refine Tr.condF rfl (range_nil hdF_panel_ToBoard_L1) ?_
        refine Tr.exit (Tr.exitThen (Tr.exitThen (Tr.exitBlock (Tr.normThen ?_))))
        refine Tr.seq ?_
        refine Tr.region ?_
        refine Tr.build (vs := []) (cs := [(.int .i64 0), (.int .i64 0)]) (wn rfl) rfl evs_nil (by kernel_rfl) ?_
        refine Tr.val (wn rfl) rfl (fun _ _ h1 h2 => run_assign (h1.ev rfl)) ?_
        refine Tr.store 3 (cs := [(.int .i64 0), (.int .i64 0)]) [(.int .i64 0), (.int .i64 0)] (wn rfl) rfl rfl rfl rfl sz_32 rfl rfl rfl ?_
        refine Tr.val (wn rfl) rfl (fun _ _ h1 h2 => run_assign (h1.ev rfl)) ?_
        refine Tr.val (wn rfl) rfl (fun _ _ h1 h2 => run_assign (h1.ev rfl)) ?_
        refine Tr.nil (Tr.normThen ?_)
        refine Tr.ret ?_
        obtain rfl := Option.some.inj H
        exact Tr.out (m := [(.int .i64 0), (.agg #[(.int .i64 0), (.int .i64 0)]), (.bool false), (.int .i64 0)]) [3] (res_tmp rfl (res_cell rfl rfl ag_32 sz_32 (res_tmp rfl (res_tmp rfl res_nil)))) (fun W hW => ⟨rfl, hW.below⟩)
      | cons xF_panel_ToBoard_L1 restF_panel_ToBoard_L1 =>
        rw [F_panel_ToBoard_L1.eq_2] at H
        refine Tr.seq ?_
        refine Tr.region ?_
        refine Tr.val (wn rfl) rfl (fun _ _ h1 h2 => run_lss (h1.ev rfl) (h1.ev rfl)) ?_
        refine Tr.nil (Tr.normThen ?_)
        refine Tr.seq ?_
        refine Tr.condT rfl (range_on hdF_panel_ToBoard_L1) ?_
        refine Tr.skip (Tr.normThen ?_)
        refine Tr.seq ?_
        refine Tr.block ?_
        refine Tr.seq ?_
        refine Tr.region ?_
        refine Tr.val (wn rfl) rfl (fun _ _ h1 h2 => run_move (h1.ev rfl)) ?_
        refine Tr.val (wn rfl) rfl (fun _ _ h1 h2 => run_indexAddr el_38 (h1.ev rfl) hAy1 (h1.ev rfl) (Int.natCast_nonneg _) (range_lt hdF_panel_ToBoard_L1)) ?_
        refine Tr.val (wn rfl) rfl (fun _ _ h1 h2 => run_loadN (cs := [(.int .i64 xF_panel_ToBoard_L1.X0), (.int .i64 xF_panel_ToBoard_L1.Y0), (.int .i64 xF_panel_ToBoard_L1.X1), (.int .i64 xF_panel_ToBoard_L1.Y1)]) ag_42 sz_42 (h1.ev rfl) (CellsAt.take (rdo h2 (k := 4) rfl (range_at hdF_panel_ToBoard_L1)) 4) rfl) ?_
        refine Tr.alloc 7 (wn rfl) rfl ze_42 fun b7 => ?_
        refine Tr.val (wn rfl) rfl (fun _ _ h1 h2 => run_assign (h1.ev rfl)) ?_
        refine Tr.store 7 (cs := [(.int .i64 xF_panel_ToBoard_L1.X0), (.int .i64 xF_panel_ToBoard_L1.Y0), (.int .i64 xF_panel_ToBoard_L1.X1), (.int .i64 xF_panel_ToBoard_L1.Y1)]) [(.int .i64 xF_panel_ToBoard_L1.X0), (.int .i64 xF_panel_ToBoard_L1.Y0), (.int .i64 xF_panel_ToBoard_L1.X1), (.int .i64 xF_panel_ToBoard_L1.Y1)] (wn rfl) rfl rfl rfl rfl sz_42 rfl rfl rfl ?_
        refine Tr.nil (Tr.normThen ?_)
        refine Tr.seq ?_
        refine Tr.region ?_
        refine Tr.val (wn rfl) rfl (fun _ _ h1 h2 => run_fieldAddr fo_32_0 (h1.ev rfl)) ?_
        refine Tr.val (wn rfl) rfl (fun _ _ h1 h2 => run_load1 ag_3 (h1.ev rfl) (rdb h2 (vs := [(.int .i64 p1.X), (.int .i64 p1.Y)]) (k := 2) rfl 0) rfl) ?_
        refine Tr.val (wn rfl) rfl (fun _ _ h1 h2 => run_fieldAddr fo_42_0 (h1.ev rfl)) ?_
        refine Tr.val (wn rfl) rfl (fun _ _ h1 h2 => run_load1 ag_3 (h1.ev rfl) (rdb h2 (vs := [(.int .i64 xF_panel_ToBoard_L1.X0), (.int .i64 xF_panel_ToBoard_L1.Y0), (.int .i64 xF_panel_ToBoard_L1.X1), (.int .i64 xF_panel_ToBoard_L1.Y1)]) (k := 7) rfl 0) rfl) ?_
        refine Tr.val (wn rfl) rfl (fun _ _ h1 h2 => run_fieldAddr fo_42_2 (h1.ev rfl)) ?_
        refine Tr.val (wn rfl) rfl (fun _ _ h1 h2 => run_load1 ag_3 (h1.ev rfl) (rdb h2 (vs := [(.int .i64 xF_panel_ToBoard_L1.X0), (.int .i64 xF_panel_ToBoard_L1.Y0), (.int .i64 xF_panel_ToBoard_L1.X1), (.int .i64 xF_panel_ToBoard_L1.Y1)]) (k := 7) rfl 2) rfl) ?_
        obtain ⟨y14, hy14, H⟩ := bnd H
        refine Tr.call0 (r := (.bool y14)) (wn rfl) rfl Try.call46 (evl_cons rfl (evl_cons rfl (evl_cons rfl evl_nil))) (fun W hW => F_panel_within_ok p1.X xF_panel_ToBoard_L1.X0 xF_panel_ToBoard_L1.X1 y14 hy14) ?_
        refine Tr.val (wn rfl) rfl (fun _ _ h1 h2 => run_move (h1.ev rfl)) ?_
        obtain ⟨g16, hg16, H⟩ := bnd H
        refine Tr.mid (σ := Unit) 8 (fun _ => True) (fun _ => [(2, (.pointer (some ⟨b1, 0, none⟩))), (3, (.pointer (some ⟨b2, 0, none⟩))), (5, (.pointer (some ⟨b3, 0, none⟩))), (10, (.int .i64 (iF_panel_ToBoard_L1 : Int))), (28, (.slice Ay1 (y1.1).length cy1)), (29, (.int .i64 (y1.1.length : Int))), (30, (.int .i64 (iF_panel_ToBoard_L1 : Int))), (50, (.bool g16))]) (fun _ => [(1, bx b1 #[(.int .i64 p0.W), (.int .i64 p0.H), (.int .i64 p0.Rail), (.int .i64 p0.Gap), (.slice Ap0_0 (p0.Kinds).length cp0_0), (.slice Ap0_1 (p0.Slots).length cp0_1), (.slice Ap0_2 (p0.Marks).length cp0_2)] 26), (2, bx b2 #[(.int .i64 p1.X), (.int .i64 p1.Y)] 32), (3, bx b3 #[(.int .i64 0), (.int .i64 0)] 32), (4, ow Ay1 cy1 42 fl_TRect y1.1), (7, bx b7 #[(.int .i64 xF_panel_ToBoard_L1.X0), (.int .i64 xF_panel_ToBoard_L1.Y0), (.int .i64 xF_panel_ToBoard_L1.X1), (.int .i64 xF_panel_ToBoard_L1.Y1)] 42)]) ?_ ?_
        · cases hg22 : y14
          · rw [hg22] at hg16
            rw [if_neg (by decide)] at hg16
            have H := hg16
            obtain rfl := Option.some.inj H
            refine Tr.pass rfl rfl rfl rfl rfl (by decide) ?_
            refine Tr.pass rfl rfl rfl rfl rfl (by decide) ?_
            refine Tr.pass rfl rfl rfl rfl rfl (by decide) ?_
            refine Tr.pass rfl rfl rfl rfl rfl (by decide) ?_
            refine Tr.pass rfl rfl rfl rfl rfl (by decide) ?_
            refine Tr.pass rfl rfl rfl rfl rfl (by decide) ?_
            refine Tr.pass rfl rfl rfl rfl rfl (by decide) ?_
            refine Tr.val (wn rfl) rfl (fun _ _ h1 h2 => run_pickF (h1.ev rfl) (h1.ev rfl)) ?_
            exact Tr.nil (Tr.backThen () trivial (.cons rfl (.cons rfl (.cons rfl (.cons rfl (.cons rfl (.cons rfl (.cons rfl (.cons rfl .nil)))))))) (.cons rfl (.cons rfl (.cons rfl (.cons rfl (.cons rfl .nil))))))
          · rw [hg22] at hg16
            rw [if_pos rfl] at hg16
            have H := hg16
            refine Tr.val (wg rfl rfl rfl) rfl (fun _ _ h1 h2 => run_fieldAddr fo_32_1 (h1.ev rfl)) ?_
            refine Tr.val (wg rfl rfl rfl) rfl (fun _ _ h1 h2 => run_load1 ag_3 (h1.ev rfl) (rdb h2 (vs := [(.int .i64 p1.X), (.int .i64 p1.Y)]) (k := 2) rfl 1) rfl) ?_
            refine Tr.val (wg rfl rfl rfl) rfl (fun _ _ h1 h2 => run_fieldAddr fo_42_1 (h1.ev rfl)) ?_
            refine Tr.val (wg rfl rfl rfl) rfl (fun _ _ h1 h2 => run_load1 ag_3 (h1.ev rfl) (rdb h2 (vs := [(.int .i64 xF_panel_ToBoard_L1.X0), (.int .i64 xF_panel_ToBoard_L1.Y0), (.int .i64 xF_panel_ToBoard_L1.X1), (.int .i64 xF_panel_ToBoard_L1.Y1)]) (k := 7) rfl 1) rfl) ?_
            refine Tr.val (wg rfl rfl rfl) rfl (fun _ _ h1 h2 => run_fieldAddr fo_42_3 (h1.ev rfl)) ?_
            refine Tr.val (wg rfl rfl rfl) rfl (fun _ _ h1 h2 => run_load1 ag_3 (h1.ev rfl) (rdb h2 (vs := [(.int .i64 xF_panel_ToBoard_L1.X0), (.int .i64 xF_panel_ToBoard_L1.Y0), (.int .i64 xF_panel_ToBoard_L1.X1), (.int .i64 xF_panel_ToBoard_L1.Y1)]) (k := 7) rfl 3) rfl) ?_
            obtain ⟨y17, hy17, H⟩ := bnd H
            refine Tr.call0 (r := (.bool y17)) (wg rfl rfl rfl) rfl Try.call46 (evl_cons rfl (evl_cons rfl (evl_cons rfl evl_nil))) (fun W hW => F_panel_within_ok p1.Y xF_panel_ToBoard_L1.Y0 xF_panel_ToBoard_L1.Y1 y17 hy17) ?_
            refine Tr.val (wn rfl) rfl (fun _ _ h1 h2 => run_pickT (h1.ev rfl) (h1.ev rfl)) ?_
            obtain rfl := Option.some.inj H
            exact Tr.nil (Tr.backThen () trivial (.cons rfl (.cons rfl (.cons rfl (.cons rfl (.cons rfl (.cons rfl (.cons rfl (.cons rfl .nil)))))))) (.cons rfl (.cons rfl (.cons rfl (.cons rfl (.cons rfl .nil))))))
        · intro _ _
          show Tr _ _ (LF [(2, (.pointer (some ⟨b1, 0, none⟩))), (3, (.pointer (some ⟨b2, 0, none⟩))), (5, (.pointer (some ⟨b3, 0, none⟩))), (10, (.int .i64 (iF_panel_ToBoard_L1 : Int))), (28, (.slice Ay1 (y1.1).length cy1)), (29, (.int .i64 (y1.1.length : Int))), (30, (.int .i64 (iF_panel_ToBoard_L1 : Int))), (50, (.bool g16))]) (LE [(1, bx b1 #[(.int .i64 p0.W), (.int .i64 p0.H), (.int .i64 p0.Rail), (.int .i64 p0.Gap), (.slice Ap0_0 (p0.Kinds).length cp0_0), (.slice Ap0_1 (p0.Slots).length cp0_1), (.slice Ap0_2 (p0.Marks).length cp0_2)] 26), (2, bx b2 #[(.int .i64 p1.X), (.int .i64 p1.Y)] 32), (3, bx b3 #[(.int .i64 0), (.int .i64 0)] 32), (4, ow Ay1 cy1 42 fl_TRect y1.1), (7, bx b7 #[(.int .i64 xF_panel_ToBoard_L1.X0), (.int .i64 xF_panel_ToBoard_L1.Y0), (.int .i64 xF_panel_ToBoard_L1.X1), (.int .i64 xF_panel_ToBoard_L1.Y1)] 42)]) _
          refine Tr.nil (Tr.normThen ?_)
          refine Tr.cond rfl H (fun H => ?_) (fun H => ?_)
          · refine Tr.seq ?_
            refine Tr.drawC 13 [] [12] (by kernel_rfl) (by kernel_rfl) fun sz18 hlosz18 hEsz18 => ?_
            refine Dr.quiet 0 [(2, (.pointer (some ⟨b1, 0, none⟩))), (3, (.pointer (some ⟨b2, 0, none⟩))), (5, (.pointer (some ⟨b3, 0, none⟩))), (10, (.int .i64 (iF_panel_ToBoard_L1 : Int))), (28, (.slice Ay1 (y1.1).length cy1)), (29, (.int .i64 (y1.1.length : Int))), (30, (.int .i64 (iF_panel_ToBoard_L1 : Int))), (50, (.bool g16)), (52, (.agg #[(.int .i64 p0.W), (.int .i64 p0.H), (.int .i64 p0.Rail), (.int .i64 p0.Gap), (.slice Ap0_0 (p0.Kinds).length cp0_0), (.slice Ap0_1 (p0.Slots).length cp0_1), (.slice Ap0_2 (p0.Marks).length cp0_2)]))] (by kernel_rfl) rfl rfl (by kernel_rfl) ?_ rfl rfl ?_
            · refine Tq.val (wn rfl) rfl (fun _ _ h1 h2 => run_loadN (cs := [(.int .i64 p0.W), (.int .i64 p0.H), (.int .i64 p0.Rail), (.int .i64 p0.Gap), (.slice Ap0_0 (p0.Kinds).length cp0_0), (.slice Ap0_1 (p0.Slots).length cp0_1), (.slice Ap0_2 (p0.Marks).length cp0_2)]) ag_26 sz_26 (h1.ev rfl) (CellsAt.take (rdb h2 (vs := [(.int .i64 p0.W), (.int .i64 p0.H), (.int .i64 p0.Rail), (.int .i64 p0.Gap), (.slice Ap0_0 (p0.Kinds).length cp0_0), (.slice Ap0_1 (p0.Slots).length cp0_1), (.slice Ap0_2 (p0.Marks).length cp0_2)]) (k := 1) rfl 0) 7) rfl) ?_
              exact Tq.fin (.cons rfl (.cons rfl (.cons rfl (.cons rfl (.cons rfl (.cons rfl (.cons rfl (.cons rfl (.cons rfl .nil)))))))))
            refine Dr.quiet 1 [(2, (.pointer (some ⟨b1, 0, none⟩))), (3, (.pointer (some ⟨b2, 0, none⟩))), (5, (.pointer (some ⟨b3, 0, none⟩))), (10, (.int .i64 (iF_panel_ToBoard_L1 : Int))), (28, (.slice Ay1 (y1.1).length cy1)), (29, (.int .i64 (y1.1.length : Int))), (30, (.int .i64 (iF_panel_ToBoard_L1 : Int))), (50, (.bool g16)), (52, (.agg #[(.int .i64 p0.W), (.int .i64 p0.H), (.int .i64 p0.Rail), (.int .i64 p0.Gap), (.slice Ap0_0 (p0.Kinds).length cp0_0), (.slice Ap0_1 (p0.Slots).length cp0_1), (.slice Ap0_2 (p0.Marks).length cp0_2)])), (53, (.pointer (some ⟨b1, 5, none⟩)))] (by kernel_rfl) rfl rfl (by kernel_rfl) ?_ rfl rfl ?_
            · refine Tq.val (wn rfl) rfl (fun _ _ h1 h2 => run_fieldAddr fo_26_5 (h1.ev rfl)) ?_
              exact Tq.fin (.cons rfl (.cons rfl (.cons rfl (.cons rfl (.cons rfl (.cons rfl (.cons rfl (.cons rfl (.cons rfl (.cons rfl .nil))))))))))
            refine Dr.quiet 2 [(2, (.pointer (some ⟨b1, 0, none⟩))), (3, (.pointer (some ⟨b2, 0, none⟩))), (5, (.pointer (some ⟨b3, 0, none⟩))), (10, (.int .i64 (iF_panel_ToBoard_L1 : Int))), (28, (.slice Ay1 (y1.1).length cy1)), (29, (.int .i64 (y1.1.length : Int))), (30, (.int .i64 (iF_panel_ToBoard_L1 : Int))), (50, (.bool g16)), (52, (.agg #[(.int .i64 p0.W), (.int .i64 p0.H), (.int .i64 p0.Rail), (.int .i64 p0.Gap), (.slice Ap0_0 (p0.Kinds).length cp0_0), (.slice Ap0_1 (p0.Slots).length cp0_1), (.slice Ap0_2 (p0.Marks).length cp0_2)])), (53, (.pointer (some ⟨b1, 5, none⟩))), (54, (.slice Ap0_1 (p0.Slots).length cp0_1))] (by kernel_rfl) rfl rfl (by kernel_rfl) ?_ rfl rfl ?_
            · refine Tq.val (wn rfl) rfl (fun _ _ h1 h2 => run_load1 ag_23 (h1.ev rfl) (rdb h2 (vs := [(.int .i64 p0.W), (.int .i64 p0.H), (.int .i64 p0.Rail), (.int .i64 p0.Gap), (.slice Ap0_0 (p0.Kinds).length cp0_0), (.slice Ap0_1 (p0.Slots).length cp0_1), (.slice Ap0_2 (p0.Marks).length cp0_2)]) (k := 1) rfl 5) rfl) ?_
              exact Tq.fin (.cons rfl (.cons rfl (.cons rfl (.cons rfl (.cons rfl (.cons rfl (.cons rfl (.cons rfl (.cons rfl (.cons rfl (.cons rfl .nil)))))))))))
            refine Dr.quiet 3 [(2, (.pointer (some ⟨b1, 0, none⟩))), (3, (.pointer (some ⟨b2, 0, none⟩))), (5, (.pointer (some ⟨b3, 0, none⟩))), (10, (.int .i64 (iF_panel_ToBoard_L1 : Int))), (28, (.slice Ay1 (y1.1).length cy1)), (29, (.int .i64 (y1.1.length : Int))), (30, (.int .i64 (iF_panel_ToBoard_L1 : Int))), (50, (.bool g16)), (52, (.agg #[(.int .i64 p0.W), (.int .i64 p0.H), (.int .i64 p0.Rail), (.int .i64 p0.Gap), (.slice Ap0_0 (p0.Kinds).length cp0_0), (.slice Ap0_1 (p0.Slots).length cp0_1), (.slice Ap0_2 (p0.Marks).length cp0_2)])), (53, (.pointer (some ⟨b1, 5, none⟩))), (54, (.slice Ap0_1 (p0.Slots).length cp0_1)), (55, (.int .i64 (iF_panel_ToBoard_L1 : Int)))] (by kernel_rfl) rfl rfl (by kernel_rfl) ?_ rfl rfl ?_
            · refine Tq.val (wn rfl) rfl (fun _ _ h1 h2 => run_move (h1.ev rfl)) ?_
              exact Tq.fin (.cons rfl (.cons rfl (.cons rfl (.cons rfl (.cons rfl (.cons rfl (.cons rfl (.cons rfl (.cons rfl (.cons rfl (.cons rfl (.cons rfl .nil))))))))))))
            obtain ⟨x19, hx19, H⟩ := bnd H
            obtain ⟨hx190, hx191, hx192⟩ := idx_some hx19
            refine Dr.quiet 4 [(2, (.pointer (some ⟨b1, 0, none⟩))), (3, (.pointer (some ⟨b2, 0, none⟩))), (5, (.pointer (some ⟨b3, 0, none⟩))), (10, (.int .i64 (iF_panel_ToBoard_L1 : Int))), (28, (.slice Ay1 (y1.1).length cy1)), (29, (.int .i64 (y1.1.length : Int))), (30, (.int .i64 (iF_panel_ToBoard_L1 : Int))), (50, (.bool g16)), (52, (.agg #[(.int .i64 p0.W), (.int .i64 p0.H), (.int .i64 p0.Rail), (.int .i64 p0.Gap), (.slice Ap0_0 (p0.Kinds).length cp0_0), (.slice Ap0_1 (p0.Slots).length cp0_1), (.slice Ap0_2 (p0.Marks).length cp0_2)])), (53, (.pointer (some ⟨b1, 5, none⟩))), (54, (.slice Ap0_1 (p0.Slots).length cp0_1)), (55, (.int .i64 (iF_panel_ToBoard_L1 : Int))), (56, (.pointer (some ⟨adB Ap0_1, adO Ap0_1 + ((iF_panel_ToBoard_L1 : Int)).toNat * 4, none⟩)))] (by kernel_rfl) rfl rfl (by kernel_rfl) ?_ rfl rfl ?_
            · refine Tq.val (wn rfl) rfl (fun _ _ h1 h2 => run_indexAddr el_23 (h1.ev rfl) hp0_1.form (h1.ev rfl) hx190 hx191) ?_
              exact Tq.fin (.cons rfl (.cons rfl (.cons rfl (.cons rfl (.cons rfl (.cons rfl (.cons rfl (.cons rfl (.cons rfl (.cons rfl (.cons rfl (.cons rfl (.cons rfl .nil)))))))))))))
            refine Dr.quiet 5 [(2, (.pointer (some ⟨b1, 0, none⟩))), (3, (.pointer (some ⟨b2, 0, none⟩))), (5, (.pointer (some ⟨b3, 0, none⟩))), (10, (.int .i64 (iF_panel_ToBoard_L1 : Int))), (28, (.slice Ay1 (y1.1).length cy1)), (29, (.int .i64 (y1.1.length : Int))), (30, (.int .i64 (iF_panel_ToBoard_L1 : Int))), (50, (.bool g16)), (52, (.agg #[(.int .i64 p0.W), (.int .i64 p0.H), (.int .i64 p0.Rail), (.int .i64 p0.Gap), (.slice Ap0_0 (p0.Kinds).length cp0_0), (.slice Ap0_1 (p0.Slots).length cp0_1), (.slice Ap0_2 (p0.Marks).length cp0_2)])), (53, (.pointer (some ⟨b1, 5, none⟩))), (54, (.slice Ap0_1 (p0.Slots).length cp0_1)), (55, (.int .i64 (iF_panel_ToBoard_L1 : Int))), (56, (.pointer (some ⟨adB Ap0_1, adO Ap0_1 + ((iF_panel_ToBoard_L1 : Int)).toNat * 4, none⟩))), (57, (.agg #[(.string x19.Board), (.int .i64 x19.Quarters), (.int .i64 x19.At.X), (.int .i64 x19.At.Y)]))] (by kernel_rfl) rfl rfl (by kernel_rfl) ?_ rfl rfl ?_
            · refine Tq.val (wn rfl) rfl (fun _ _ h1 h2 => run_loadN (cs := [(.string x19.Board), (.int .i64 x19.Quarters), (.int .i64 x19.At.X), (.int .i64 x19.At.Y)]) ag_34 sz_34 (h1.ev rfl) (CellsAt.take (Rd.arg hp0_1 hx192 _ h2) 4) rfl) ?_
              exact Tq.fin (.cons rfl (.cons rfl (.cons rfl (.cons rfl (.cons rfl (.cons rfl (.cons rfl (.cons rfl (.cons rfl (.cons rfl (.cons rfl (.cons rfl (.cons rfl (.cons rfl .nil))))))))))))))
            obtain ⟨y20, hy20, H⟩ := bnd H
            refine Dr.quiet 6 [(2, (.pointer (some ⟨b1, 0, none⟩))), (3, (.pointer (some ⟨b2, 0, none⟩))), (5, (.pointer (some ⟨b3, 0, none⟩))), (10, (.int .i64 (iF_panel_ToBoard_L1 : Int))), (28, (.slice Ay1 (y1.1).length cy1)), (29, (.int .i64 (y1.1.length : Int))), (30, (.int .i64 (iF_panel_ToBoard_L1 : Int))), (50, (.bool g16)), (52, (.agg #[(.int .i64 p0.W), (.int .i64 p0.H), (.int .i64 p0.Rail), (.int .i64 p0.Gap), (.slice Ap0_0 (p0.Kinds).length cp0_0), (.slice Ap0_1 (p0.Slots).length cp0_1), (.slice Ap0_2 (p0.Marks).length cp0_2)])), (53, (.pointer (some ⟨b1, 5, none⟩))), (54, (.slice Ap0_1 (p0.Slots).length cp0_1)), (55, (.int .i64 (iF_panel_ToBoard_L1 : Int))), (56, (.pointer (some ⟨adB Ap0_1, adO Ap0_1 + ((iF_panel_ToBoard_L1 : Int)).toNat * 4, none⟩))), (57, (.agg #[(.string x19.Board), (.int .i64 x19.Quarters), (.int .i64 x19.At.X), (.int .i64 x19.At.Y)])), (58, (.agg #[(.bool y20.Flip), (.int .i64 y20.Quarters), (.int .i64 y20.At.X), (.int .i64 y20.At.Y)]))] (by kernel_rfl) rfl rfl (by kernel_rfl) ?_ rfl rfl ?_
            · refine Tq.call0 (r := (.agg #[(.bool y20.Flip), (.int .i64 y20.Quarters), (.int .i64 y20.At.X), (.int .i64 y20.At.Y)])) (wn rfl) rfl Try.call52 (evl_cons rfl (evl_cons rfl evl_nil)) (fun W hW => F_panel_turnOf_ok p0 Ap0_0 cp0_0 (Sl.up hp0_0 hW) Ap0_1 cp0_1 (Sl.up hp0_1 hW) Ap0_2 cp0_2 (Sl.up hp0_2 hW) x19 y20 hy20) ?_
              exact Tq.fin (.cons rfl (.cons rfl (.cons rfl (.cons rfl (.cons rfl (.cons rfl (.cons rfl (.cons rfl (.cons rfl (.cons rfl (.cons rfl (.cons rfl (.cons rfl (.cons rfl (.cons rfl .nil)))))))))))))))
            obtain ⟨y21, hy21, H⟩ := bnd H
            refine Dr.quiet 7 [(2, (.pointer (some ⟨b1, 0, none⟩))), (3, (.pointer (some ⟨b2, 0, none⟩))), (5, (.pointer (some ⟨b3, 0, none⟩))), (10, (.int .i64 (iF_panel_ToBoard_L1 : Int))), (28, (.slice Ay1 (y1.1).length cy1)), (29, (.int .i64 (y1.1.length : Int))), (30, (.int .i64 (iF_panel_ToBoard_L1 : Int))), (50, (.bool g16)), (52, (.agg #[(.int .i64 p0.W), (.int .i64 p0.H), (.int .i64 p0.Rail), (.int .i64 p0.Gap), (.slice Ap0_0 (p0.Kinds).length cp0_0), (.slice Ap0_1 (p0.Slots).length cp0_1), (.slice Ap0_2 (p0.Marks).length cp0_2)])), (53, (.pointer (some ⟨b1, 5, none⟩))), (54, (.slice Ap0_1 (p0.Slots).length cp0_1)), (55, (.int .i64 (iF_panel_ToBoard_L1 : Int))), (56, (.pointer (some ⟨adB Ap0_1, adO Ap0_1 + ((iF_panel_ToBoard_L1 : Int)).toNat * 4, none⟩))), (57, (.agg #[(.string x19.Board), (.int .i64 x19.Quarters), (.int .i64 x19.At.X), (.int .i64 x19.At.Y)])), (58, (.agg #[(.bool y20.Flip), (.int .i64 y20.Quarters), (.int .i64 y20.At.X), (.int .i64 y20.At.Y)])), (59, (.tuple #[(.agg #[(.bool y21.1.Flip), (.int .i64 y21.1.Quarters), (.int .i64 y21.1.At.X), (.int .i64 y21.1.At.Y)]), (.int .i64 y21.2)]))] (by kernel_rfl) rfl rfl (by kernel_rfl) ?_ rfl rfl ?_
            · refine Tq.call0 (r := (.tuple #[(.agg #[(.bool y21.1.Flip), (.int .i64 y21.1.Quarters), (.int .i64 y21.1.At.X), (.int .i64 y21.1.At.Y)]), (.int .i64 y21.2)])) (wn rfl) rfl Try.call58 (evl_cons rfl evl_nil) (fun W hW => F_shape_Back_ok N y20 y21 hy21) ?_
              exact Tq.fin (.cons rfl (.cons rfl (.cons rfl (.cons rfl (.cons rfl (.cons rfl (.cons rfl (.cons rfl (.cons rfl (.cons rfl (.cons rfl (.cons rfl (.cons rfl (.cons rfl (.cons rfl (.cons rfl .nil))))))))))))))))
            refine Dr.quiet 8 [(2, (.pointer (some ⟨b1, 0, none⟩))), (3, (.pointer (some ⟨b2, 0, none⟩))), (5, (.pointer (some ⟨b3, 0, none⟩))), (10, (.int .i64 (iF_panel_ToBoard_L1 : Int))), (28, (.slice Ay1 (y1.1).length cy1)), (29, (.int .i64 (y1.1.length : Int))), (30, (.int .i64 (iF_panel_ToBoard_L1 : Int))), (50, (.bool g16)), (51, (.tuple #[(.agg #[(.bool y21.1.Flip), (.int .i64 y21.1.Quarters), (.int .i64 y21.1.At.X), (.int .i64 y21.1.At.Y)]), (.int .i64 y21.2)])), (52, (.agg #[(.int .i64 p0.W), (.int .i64 p0.H), (.int .i64 p0.Rail), (.int .i64 p0.Gap), (.slice Ap0_0 (p0.Kinds).length cp0_0), (.slice Ap0_1 (p0.Slots).length cp0_1), (.slice Ap0_2 (p0.Marks).length cp0_2)])), (53, (.pointer (some ⟨b1, 5, none⟩))), (54, (.slice Ap0_1 (p0.Slots).length cp0_1)), (55, (.int .i64 (iF_panel_ToBoard_L1 : Int))), (56, (.pointer (some ⟨adB Ap0_1, adO Ap0_1 + ((iF_panel_ToBoard_L1 : Int)).toNat * 4, none⟩))), (57, (.agg #[(.string x19.Board), (.int .i64 x19.Quarters), (.int .i64 x19.At.X), (.int .i64 x19.At.Y)])), (58, (.agg #[(.bool y20.Flip), (.int .i64 y20.Quarters), (.int .i64 y20.At.X), (.int .i64 y20.At.Y)])), (59, (.tuple #[(.agg #[(.bool y21.1.Flip), (.int .i64 y21.1.Quarters), (.int .i64 y21.1.At.X), (.int .i64 y21.1.At.Y)]), (.int .i64 y21.2)]))] (by kernel_rfl) rfl rfl (by kernel_rfl) ?_ rfl rfl ?_
            · refine Tq.val (wn rfl) rfl (fun _ _ h1 h2 => run_move (h1.ev rfl)) ?_
              exact Tq.fin (.cons rfl (.cons rfl (.cons rfl (.cons rfl (.cons rfl (.cons rfl (.cons rfl (.cons rfl (.cons rfl (.cons rfl (.cons rfl (.cons rfl (.cons rfl (.cons rfl (.cons rfl (.cons rfl (.cons rfl .nil)))))))))))))))))
            refine Dr.quiet 9 [(2, (.pointer (some ⟨b1, 0, none⟩))), (3, (.pointer (some ⟨b2, 0, none⟩))), (5, (.pointer (some ⟨b3, 0, none⟩))), (10, (.int .i64 (iF_panel_ToBoard_L1 : Int))), (28, (.slice Ay1 (y1.1).length cy1)), (29, (.int .i64 (y1.1.length : Int))), (30, (.int .i64 (iF_panel_ToBoard_L1 : Int))), (50, (.bool g16)), (51, (.tuple #[(.agg #[(.bool y21.1.Flip), (.int .i64 y21.1.Quarters), (.int .i64 y21.1.At.X), (.int .i64 y21.1.At.Y)]), (.int .i64 y21.2)])), (52, (.agg #[(.int .i64 p0.W), (.int .i64 p0.H), (.int .i64 p0.Rail), (.int .i64 p0.Gap), (.slice Ap0_0 (p0.Kinds).length cp0_0), (.slice Ap0_1 (p0.Slots).length cp0_1), (.slice Ap0_2 (p0.Marks).length cp0_2)])), (53, (.pointer (some ⟨b1, 5, none⟩))), (54, (.slice Ap0_1 (p0.Slots).length cp0_1)), (55, (.int .i64 (iF_panel_ToBoard_L1 : Int))), (56, (.pointer (some ⟨adB Ap0_1, adO Ap0_1 + ((iF_panel_ToBoard_L1 : Int)).toNat * 4, none⟩))), (57, (.agg #[(.string x19.Board), (.int .i64 x19.Quarters), (.int .i64 x19.At.X), (.int .i64 x19.At.Y)])), (58, (.agg #[(.bool y20.Flip), (.int .i64 y20.Quarters), (.int .i64 y20.At.X), (.int .i64 y20.At.Y)])), (59, (.tuple #[(.agg #[(.bool y21.1.Flip), (.int .i64 y21.1.Quarters), (.int .i64 y21.1.At.X), (.int .i64 y21.1.At.Y)]), (.int .i64 y21.2)])), (60, (.agg #[(.bool y21.1.Flip), (.int .i64 y21.1.Quarters), (.int .i64 y21.1.At.X), (.int .i64 y21.1.At.Y)]))] (by kernel_rfl) rfl rfl (by kernel_rfl) ?_ rfl rfl ?_
            · refine Tq.val (wn rfl) rfl (fun _ _ h1 h2 => run_extract (h1.ev rfl) rfl) ?_
              exact Tq.fin (.cons rfl (.cons rfl (.cons rfl (.cons rfl (.cons rfl (.cons rfl (.cons rfl (.cons rfl (.cons rfl (.cons rfl (.cons rfl (.cons rfl (.cons rfl (.cons rfl (.cons rfl (.cons rfl (.cons rfl (.cons rfl .nil))))))))))))))))))
            refine Dr.quietZ 10 [(2, (.pointer (some ⟨b1, 0, none⟩))), (3, (.pointer (some ⟨b2, 0, none⟩))), (5, (.pointer (some ⟨b3, 0, none⟩))), (10, (.int .i64 (iF_panel_ToBoard_L1 : Int))), (28, (.slice Ay1 (y1.1).length cy1)), (29, (.int .i64 (y1.1.length : Int))), (30, (.int .i64 (iF_panel_ToBoard_L1 : Int))), (50, (.bool g16)), (51, (.tuple #[(.agg #[(.bool y21.1.Flip), (.int .i64 y21.1.Quarters), (.int .i64 y21.1.At.X), (.int .i64 y21.1.At.Y)]), (.int .i64 y21.2)])), (52, (.agg #[(.int .i64 p0.W), (.int .i64 p0.H), (.int .i64 p0.Rail), (.int .i64 p0.Gap), (.slice Ap0_0 (p0.Kinds).length cp0_0), (.slice Ap0_1 (p0.Slots).length cp0_1), (.slice Ap0_2 (p0.Marks).length cp0_2)])), (53, (.pointer (some ⟨b1, 5, none⟩))), (54, (.slice Ap0_1 (p0.Slots).length cp0_1)), (55, (.int .i64 (iF_panel_ToBoard_L1 : Int))), (56, (.pointer (some ⟨adB Ap0_1, adO Ap0_1 + ((iF_panel_ToBoard_L1 : Int)).toNat * 4, none⟩))), (57, (.agg #[(.string x19.Board), (.int .i64 x19.Quarters), (.int .i64 x19.At.X), (.int .i64 x19.At.Y)])), (58, (.agg #[(.bool y20.Flip), (.int .i64 y20.Quarters), (.int .i64 y20.At.X), (.int .i64 y20.At.Y)])), (59, (.tuple #[(.agg #[(.bool y21.1.Flip), (.int .i64 y21.1.Quarters), (.int .i64 y21.1.At.X), (.int .i64 y21.1.At.Y)]), (.int .i64 y21.2)])), (60, (.agg #[(.bool y21.1.Flip), (.int .i64 y21.1.Quarters), (.int .i64 y21.1.At.X), (.int .i64 y21.1.At.Y)])), (61, (.int .i64 y21.2))] [] true (by kernel_rfl) rfl rfl (by kernel_rfl) (fun W W' h2 hsW hk => HF.keepZ (le := []) (ks := []) (s0 := sz18) h2 hk hlosz18 .nil (fun b hb => hb.elim (fun hb => by simp at hb) (fun hb => .inr ⟨hb.2, (fun _ h => nomatch h)⟩)) (fun p hp => nomatch hp) rfl) ?_ rfl rfl ?_
            · refine Tq.val (wn rfl) rfl (fun _ _ h1 h2 => run_extract (h1.ev rfl) rfl) ?_
              exact Tq.fin (.cons rfl (.cons rfl (.cons rfl (.cons rfl (.cons rfl (.cons rfl (.cons rfl (.cons rfl (.cons rfl (.cons rfl (.cons rfl (.cons rfl (.cons rfl (.cons rfl (.cons rfl (.cons rfl (.cons rfl (.cons rfl (.cons rfl .nil)))))))))))))))))))
            refine Dr.one 11 (by kernel_rfl) ?_
            refine St.alloc 11 8 rfl (wn rfl) rfl ze_46 fun b8 hb8 => ?_
            refine Dr.one 12 (by kernel_rfl) ?_
            refine St.store 12 8 (cs := [(.bool y21.1.Flip), (.int .i64 y21.1.Quarters), (.int .i64 y21.1.At.X), (.int .i64 y21.1.At.Y)]) [(.bool y21.1.Flip), (.int .i64 y21.1.Quarters), (.int .i64 y21.1.At.X), (.int .i64 y21.1.At.Y)] rfl (wn rfl) (.inr ⟨by simp, hb8⟩) rfl rfl rfl rfl sz_46 rfl rfl rfl ?_
            refine Dr.tail (by kernel_rfl) ?_
            refine Tr.val (wn rfl) rfl (fun _ _ h1 h2 => run_assign (h1.ev rfl)) ?_
            refine Tr.nil (Tr.normThen ?_)
            refine Tr.seq ?_
            refine Tr.region ?_
            refine Tr.val (wn rfl) rfl (fun _ _ h1 h2 => run_move (h1.ev rfl)) ?_
            refine Tr.val (wn rfl) rfl (fun _ _ h1 h2 => run_loadN (cs := [(.int .i64 p1.X), (.int .i64 p1.Y)]) ag_32 sz_32 (h1.ev rfl) (CellsAt.take (rdb h2 (vs := [(.int .i64 p1.X), (.int .i64 p1.Y)]) (k := 2) rfl 0) 2) rfl) ?_
            refine Tr.val (wn rfl) rfl (fun _ _ h1 h2 => run_loadN (cs := [(.bool y21.1.Flip), (.int .i64 y21.1.Quarters), (.int .i64 y21.1.At.X), (.int .i64 y21.1.At.Y)]) ag_46 sz_46 (h1.ev rfl) (CellsAt.take (rdb h2 (vs := [(.bool y21.1.Flip), (.int .i64 y21.1.Quarters), (.int .i64 y21.1.At.X), (.int .i64 y21.1.At.Y)]) (k := 8) rfl 0) 4) rfl) ?_
            obtain ⟨y22, hy22, H⟩ := bnd H
            refine Tr.call0 (r := (.agg #[(.int .i64 y22.X), (.int .i64 y22.Y)])) (wn rfl) rfl Try.call54 (evl_cons rfl (evl_cons rfl evl_nil)) (fun W hW => F_shape_TurnPoint_ok N p1 y21.1 y22 hy22) ?_
            refine Tr.val (wn rfl) rfl (fun _ _ h1 h2 => run_assign (h1.ev rfl)) ?_
            refine Tr.store 3 (cs := [(.int .i64 y22.X), (.int .i64 y22.Y)]) [(.int .i64 y22.X), (.int .i64 y22.Y)] (wn rfl) rfl rfl rfl rfl sz_32 rfl rfl rfl ?_
            refine Tr.val (wn rfl) rfl (fun _ _ h1 h2 => run_assign (h1.ev rfl)) ?_
            refine Tr.val (wn rfl) rfl (fun _ _ h1 h2 => run_assign (h1.ev rfl)) ?_
            refine Tr.nil (Tr.normThen ?_)
            refine Tr.ret (Tr.retBlock (Tr.retThen (Tr.retThen (Tr.retBlock (Tr.retThen ?_)))))
            obtain rfl := Option.some.inj H
            exact Tr.out (m := [(.int .i64 (iF_panel_ToBoard_L1 : Int)), (.agg #[(.int .i64 y22.X), (.int .i64 y22.Y)]), (.bool true), (.int .i64 0)]) [3] (res_tmp rfl (res_cell rfl rfl ag_32 sz_32 (res_tmp rfl (res_tmp rfl res_nil)))) (fun W hW => ⟨rfl, hW.below⟩)
          · refine Tr.skip (Tr.normBlock (Tr.normThen ?_))
            refine Tr.region ?_
            refine Tr.val (wn rfl) rfl (fun _ _ h1 h2 => run_add (h1.ev rfl) (h1.ev rfl)) ?_
            refine Tr.val (wn rfl) rfl (fun _ _ h1 h2 => run_move (h1.ev rfl)) ?_
            refine Tr.nil ?_
            exact Tr.backThen (restF_panel_ToBoard_L1, (iF_panel_ToBoard_L1 + 1)) ⟨rfl, range_tl hdF_panel_ToBoard_L1, range_lt hdF_panel_ToBoard_L1, H⟩ (.cons rfl (.cons rfl (.cons rfl (.cons rfl (.cons rfl (.cons (congrArg (fun z => some (Value.int .i64 z)) (range_up hdF_panel_ToBoard_L1 hAy1)) .nil)))))) (.cons rfl (.cons rfl (.cons rfl (.cons rfl .nil))))

theorem F_etchhouseref9_ToBoard_ok (N : Nat) {w : World} (p0 : TPanel) (Ap0_0 : Option Addr) (cp0_0 : Nat) (hp0_0 : Sl (lo w.heap.size) w fl_TBoardKind Ap0_0 cp0_0 p0.Kinds) (Ap0_1 : Option Addr) (cp0_1 : Nat) (hp0_1 : Sl (lo w.heap.size) w fl_TSlot Ap0_1 cp0_1 p0.Slots) (Ap0_2 : Option Addr) (cp0_2 : Nat) (hp0_2 : Sl (lo w.heap.size) w fl_TPoint Ap0_2 cp0_2 p0.Marks) (p1 : TPoint) (r : (Int × TPoint × Bool × Int)) (H : F_etchhouseref9_ToBoard N p0 p1 = some r) : Calls Try.prog 25 [(.agg #[(.int .i64 p0.W), (.int .i64 p0.H), (.int .i64 p0.Rail), (.int .i64 p0.Gap), (.slice Ap0_0 (p0.Kinds).length cp0_0), (.slice Ap0_1 (p0.Slots).length cp0_1), (.slice Ap0_2 (p0.Marks).length cp0_2)]), (.agg #[(.int .i64 p1.X), (.int .i64 p1.Y)])].toArray w fun e W' => e = .returned (.tuple #[(.int .i64 r.1), (.agg #[(.int .i64 r.2.1.X), (.int .i64 r.2.1.Y)]), (.bool r.2.2.1), (.int .i64 r.2.2.2)]) ∧ Below w.heap.size w W' := by
  unfold F_etchhouseref9_ToBoard at H
  refine Tr.enter (n := 93) Try.func25 rfl rfl rfl ?_
  refine Tr.seq ?_
  refine Tr.region ?_
  refine Tr.box 1 (cs := [(.int .i64 p0.W), (.int .i64 p0.H), (.int .i64 p0.Rail), (.int .i64 p0.Gap), (.slice Ap0_0 (p0.Kinds).length cp0_0), (.slice Ap0_1 (p0.Slots).length cp0_1), (.slice Ap0_2 (p0.Marks).length cp0_2)]) (wn rfl) rfl rfl rfl fun b1 => ?_
  refine Tr.box 2 (cs := [(.int .i64 p1.X), (.int .i64 p1.Y)]) (wn rfl) rfl rfl rfl fun b2 => ?_
  refine Tr.val (wn rfl) rfl (fun _ _ h1 h2 => run_assign (h1.ev rfl)) ?_
  refine Tr.alloc 3 (wn rfl) rfl ze_32 fun b3 => ?_
  refine Tr.val (wn rfl) rfl (fun _ _ h1 h2 => run_assign (h1.ev rfl)) ?_
  refine Tr.val (wn rfl) rfl (fun _ _ h1 h2 => run_assign (h1.ev rfl)) ?_
  refine Tr.nil (Tr.normThen ?_)
  refine Tr.seq ?_
  refine Tr.seq ?_
  refine Tr.region ?_
  refine Tr.val (wn rfl) rfl (fun _ _ h1 h2 => run_loadN (cs := [(.int .i64 p0.W), (.int .i64 p0.H), (.int .i64 p0.Rail), (.int .i64 p0.Gap), (.slice Ap0_0 (p0.Kinds).length cp0_0), (.slice Ap0_1 (p0.Slots).length cp0_1), (.slice Ap0_2 (p0.Marks).length cp0_2)]) ag_26 sz_26 (h1.ev rfl) (CellsAt.take (rdb h2 (vs := [(.int .i64 p0.W), (.int .i64 p0.H), (.int .i64 p0.Rail), (.int .i64 p0.Gap), (.slice Ap0_0 (p0.Kinds).length cp0_0), (.slice Ap0_1 (p0.Slots).length cp0_1), (.slice Ap0_2 (p0.Marks).length cp0_2)]) (k := 1) rfl 0) 7) rfl) ?_
  obtain ⟨y1, hy1, H⟩ := bnd H
  refine Tr.call0 (r := (.int .i64 y1)) (wn rfl) rfl Try.call39 (evl_cons rfl evl_nil) (fun W hW => F_etchhouseref9_CheckPanel_ok N p0 Ap0_0 cp0_0 (Sl.up hp0_0 hW) Ap0_1 cp0_1 (Sl.up hp0_1 hW) Ap0_2 cp0_2 (Sl.up hp0_2 hW) y1 hy1) ?_
  refine Tr.val (wn rfl) rfl (fun _ _ h1 h2 => run_assign (h1.ev rfl)) ?_
  refine Tr.nil (Tr.normThen ?_)
  refine Tr.seq ?_
  refine Tr.region ?_
  refine Tr.val (wn rfl) rfl (fun _ _ h1 h2 => run_move (h1.ev rfl)) ?_
  refine Tr.val (wn rfl) rfl (fun _ _ h1 h2 => run_neq (h1.ev rfl) (h1.ev rfl)) ?_
  refine Tr.nil (Tr.normThen ?_)
  refine Tr.cond rfl H (fun H => ?_) (fun H => ?_)
  · refine Tr.seq ?_
    refine Tr.region ?_
    refine Tr.build (vs := []) (cs := [(.int .i64 0), (.int .i64 0)]) (wn rfl) rfl evs_nil (by kernel_rfl) ?_
    refine Tr.val (wn rfl) rfl (fun _ _ h1 h2 => run_move (h1.ev rfl)) ?_
    refine Tr.val (wn rfl) rfl (fun _ _ h1 h2 => run_assign (h1.ev rfl)) ?_
    refine Tr.store 3 (cs := [(.int .i64 0), (.int .i64 0)]) [(.int .i64 0), (.int .i64 0)] (wn rfl) rfl rfl rfl rfl sz_32 rfl rfl rfl ?_
    refine Tr.val (wn rfl) rfl (fun _ _ h1 h2 => run_assign (h1.ev rfl)) ?_
    refine Tr.val (wn rfl) rfl (fun _ _ h1 h2 => run_assign (h1.ev rfl)) ?_
    refine Tr.nil (Tr.normThen ?_)
    refine Tr.ret (Tr.retThen ?_)
    obtain rfl := Option.some.inj H
    exact Tr.out (m := [(.int .i64 0), (.agg #[(.int .i64 0), (.int .i64 0)]), (.bool false), (.int .i64 y1)]) [3] (res_tmp rfl (res_cell rfl rfl ag_32 sz_32 (res_tmp rfl (res_tmp rfl res_nil)))) (fun W hW => ⟨rfl, hW.below⟩)
  · refine Tr.skip (Tr.normThen ?_)
    refine Tr.seq ?_
    refine Tr.seq ?_
    refine Tr.region ?_
    refine Tr.val (wn rfl) rfl (fun _ _ h1 h2 => run_fieldAddr fo_32_0 (h1.ev rfl)) ?_
    refine Tr.val (wn rfl) rfl (fun _ _ h1 h2 => run_load1 ag_3 (h1.ev rfl) (rdb h2 (vs := [(.int .i64 p1.X), (.int .i64 p1.Y)]) (k := 2) rfl 0) rfl) ?_
    refine Tr.val (wn rfl) rfl (fun _ _ h1 h2 => run_fieldAddr fo_26_0 (h1.ev rfl)) ?_
    refine Tr.val (wn rfl) rfl (fun _ _ h1 h2 => run_load1 ag_3 (h1.ev rfl) (rdb h2 (vs := [(.int .i64 p0.W), (.int .i64 p0.H), (.int .i64 p0.Rail), (.int .i64 p0.Gap), (.slice Ap0_0 (p0.Kinds).length cp0_0), (.slice Ap0_1 (p0.Slots).length cp0_1), (.slice Ap0_2 (p0.Marks).length cp0_2)]) (k := 1) rfl 0) rfl) ?_
    obtain ⟨y2, hy2, H⟩ := bnd H
    refine Tr.call0 (r := (.bool y2)) (wn rfl) rfl Try.call49 (evl_cons rfl (evl_cons rfl (evl_cons rfl evl_nil))) (fun W hW => F_etchhouseref9_within_ok p1.X 0 p0.W y2 hy2) ?_
    refine Tr.val (wn rfl) rfl (fun _ _ h1 h2 => run_not (h1.ev rfl)) ?_
    refine Tr.val (wn rfl) rfl (fun _ _ h1 h2 => run_move (h1.ev rfl)) ?_
    obtain ⟨g4, hg4, H⟩ := bnd H
    refine Tr.mid (σ := Unit) 7 (fun _ => True) (fun _ => [(2, (.pointer (some ⟨b1, 0, none⟩))), (3, (.pointer (some ⟨b2, 0, none⟩))), (5, (.pointer (some ⟨b3, 0, none⟩))), (32, (.bool g4))]) (fun _ => [(1, bx b1 #[(.int .i64 p0.W), (.int .i64 p0.H), (.int .i64 p0.Rail), (.int .i64 p0.Gap), (.slice Ap0_0 (p0.Kinds).length cp0_0), (.slice Ap0_1 (p0.Slots).length cp0_1), (.slice Ap0_2 (p0.Marks).length cp0_2)] 26), (2, bx b2 #[(.int .i64 p1.X), (.int .i64 p1.Y)] 32), (3, bx b3 #[(.int .i64 0), (.int .i64 0)] 32)]) ?_ ?_
    · cases hg42 : (!y2)
      · rw [hg42] at hg4
        rw [if_neg (by decide)] at hg4
        have H := hg4
        refine Tr.val (wg rfl rfl rfl) rfl (fun _ _ h1 h2 => run_fieldAddr fo_32_1 (h1.ev rfl)) ?_
        refine Tr.val (wg rfl rfl rfl) rfl (fun _ _ h1 h2 => run_load1 ag_3 (h1.ev rfl) (rdb h2 (vs := [(.int .i64 p1.X), (.int .i64 p1.Y)]) (k := 2) rfl 1) rfl) ?_
        refine Tr.val (wg rfl rfl rfl) rfl (fun _ _ h1 h2 => run_fieldAddr fo_26_1 (h1.ev rfl)) ?_
        refine Tr.val (wg rfl rfl rfl) rfl (fun _ _ h1 h2 => run_load1 ag_3 (h1.ev rfl) (rdb h2 (vs := [(.int .i64 p0.W), (.int .i64 p0.H), (.int .i64 p0.Rail), (.int .i64 p0.Gap), (.slice Ap0_0 (p0.Kinds).length cp0_0), (.slice Ap0_1 (p0.Slots).length cp0_1), (.slice Ap0_2 (p0.Marks).length cp0_2)]) (k := 1) rfl 1) rfl) ?_
        obtain ⟨y5, hy5, H⟩ := bnd H
        refine Tr.call0 (r := (.bool y5)) (wg rfl rfl rfl) rfl Try.call49 (evl_cons rfl (evl_cons rfl (evl_cons rfl evl_nil))) (fun W hW => F_etchhouseref9_within_ok p1.Y 0 p0.H y5 hy5) ?_
        refine Tr.val (wg rfl rfl rfl) rfl (fun _ _ h1 h2 => run_not (h1.ev rfl)) ?_
        refine Tr.val (wn rfl) rfl (fun _ _ h1 h2 => run_pickF (h1.ev rfl) (h1.ev rfl)) ?_
        obtain rfl := Option.some.inj H
        exact Tr.nil (Tr.backThen () trivial (.cons rfl (.cons rfl (.cons rfl (.cons rfl .nil)))) (.cons rfl (.cons rfl (.cons rfl .nil))))
      · rw [hg42] at hg4
        rw [if_pos rfl] at hg4
        have H := hg4
        obtain rfl := Option.some.inj H
        refine Tr.pass rfl rfl rfl rfl rfl (by decide) ?_
        refine Tr.pass rfl rfl rfl rfl rfl (by decide) ?_
        refine Tr.pass rfl rfl rfl rfl rfl (by decide) ?_
        refine Tr.pass rfl rfl rfl rfl rfl (by decide) ?_
        refine Tr.pass rfl rfl rfl rfl rfl (by decide) ?_
        refine Tr.pass rfl rfl rfl rfl rfl (by decide) ?_
        refine Tr.val (wn rfl) rfl (fun _ _ h1 h2 => run_pickT (h1.ev rfl) (h1.ev rfl)) ?_
        exact Tr.nil (Tr.backThen () trivial (.cons rfl (.cons rfl (.cons rfl (.cons rfl .nil)))) (.cons rfl (.cons rfl (.cons rfl .nil))))
    · intro _ _
      show Tr _ _ (LF [(2, (.pointer (some ⟨b1, 0, none⟩))), (3, (.pointer (some ⟨b2, 0, none⟩))), (5, (.pointer (some ⟨b3, 0, none⟩))), (32, (.bool g4))]) (LE [(1, bx b1 #[(.int .i64 p0.W), (.int .i64 p0.H), (.int .i64 p0.Rail), (.int .i64 p0.Gap), (.slice Ap0_0 (p0.Kinds).length cp0_0), (.slice Ap0_1 (p0.Slots).length cp0_1), (.slice Ap0_2 (p0.Marks).length cp0_2)] 26), (2, bx b2 #[(.int .i64 p1.X), (.int .i64 p1.Y)] 32), (3, bx b3 #[(.int .i64 0), (.int .i64 0)] 32)]) _
      refine Tr.nil (Tr.normThen ?_)
      refine Tr.cond rfl H (fun H => ?_) (fun H => ?_)
      · refine Tr.seq ?_
        refine Tr.region ?_
        refine Tr.build (vs := []) (cs := [(.int .i64 0), (.int .i64 0)]) (wn rfl) rfl evs_nil (by kernel_rfl) ?_
        refine Tr.val (wn rfl) rfl (fun _ _ h1 h2 => run_assign (h1.ev rfl)) ?_
        refine Tr.store 3 (cs := [(.int .i64 0), (.int .i64 0)]) [(.int .i64 0), (.int .i64 0)] (wn rfl) rfl rfl rfl rfl sz_32 rfl rfl rfl ?_
        refine Tr.val (wn rfl) rfl (fun _ _ h1 h2 => run_assign (h1.ev rfl)) ?_
        refine Tr.val (wn rfl) rfl (fun _ _ h1 h2 => run_assign (h1.ev rfl)) ?_
        refine Tr.nil (Tr.normThen ?_)
        refine Tr.ret (Tr.retThen ?_)
        obtain rfl := Option.some.inj H
        exact Tr.out (m := [(.int .i64 0), (.agg #[(.int .i64 0), (.int .i64 0)]), (.bool false), (.int .i64 1)]) [3] (res_tmp rfl (res_cell rfl rfl ag_32 sz_32 (res_tmp rfl (res_tmp rfl res_nil)))) (fun W hW => ⟨rfl, hW.below⟩)
      · refine Tr.skip (Tr.normThen ?_)
        refine Tr.seq ?_
        refine Tr.seq ?_
        refine Tr.region ?_
        refine Tr.val (wn rfl) rfl (fun _ _ h1 h2 => run_assign (h1.ev rfl)) ?_
        refine Tr.nil (Tr.normThen ?_)
        refine Tr.block ?_
        refine Tr.loop (σ := Int) (fun m s => F_etchhouseref9_ToBoard_L1 N p0 p1 m s = some r) (fun s => [(2, (.pointer (some ⟨b1, 0, none⟩))), (3, (.pointer (some ⟨b2, 0, none⟩))), (5, (.pointer (some ⟨b3, 0, none⟩))), (9, (.int .i64 s))]) (fun s => [(1, bx b1 #[(.int .i64 p0.W), (.int .i64 p0.H), (.int .i64 p0.Rail), (.int .i64 p0.Gap), (.slice Ap0_0 (p0.Kinds).length cp0_0), (.slice Ap0_1 (p0.Slots).length cp0_1), (.slice Ap0_2 (p0.Marks).length cp0_2)] 26), (2, bx b2 #[(.int .i64 p1.X), (.int .i64 p1.Y)] 32), (3, bx b3 #[(.int .i64 0), (.int .i64 0)] 32)]) N 0 H (.cons rfl (.cons rfl (.cons rfl (.cons rfl .nil)))) (.cons rfl (.cons rfl (.cons rfl .nil))) (fun _ h => noSome (h)) ?_
        intro mF_etchhouseref9_ToBoard_L1 x31 hs
        have H := hs
        replace H : F_etchhouseref9_ToBoard_L1 N p0 p1 (mF_etchhouseref9_ToBoard_L1 + 1) x31 = some r := H
        rw [F_etchhouseref9_ToBoard_L1.eq_2] at H
        show Tr _ _ (LF [(2, (.pointer (some ⟨b1, 0, none⟩))), (3, (.pointer (some ⟨b2, 0, none⟩))), (5, (.pointer (some ⟨b3, 0, none⟩))), (9, (.int .i64 x31))]) (LE [(1, bx b1 #[(.int .i64 p0.W), (.int .i64 p0.H), (.int .i64 p0.Rail), (.int .i64 p0.Gap), (.slice Ap0_0 (p0.Kinds).length cp0_0), (.slice Ap0_1 (p0.Slots).length cp0_1), (.slice Ap0_2 (p0.Marks).length cp0_2)] 26), (2, bx b2 #[(.int .i64 p1.X), (.int .i64 p1.Y)] 32), (3, bx b3 #[(.int .i64 0), (.int .i64 0)] 32)]) _
        refine Tr.seq ?_
        refine Tr.seq ?_
        refine Tr.region ?_
        refine Tr.val (wn rfl) rfl (fun _ _ h1 h2 => run_move (h1.ev rfl)) ?_
        refine Tr.val (wn rfl) rfl (fun _ _ h1 h2 => run_fieldAddr fo_26_5 (h1.ev rfl)) ?_
        refine Tr.val (wn rfl) rfl (fun _ _ h1 h2 => run_load1 ag_23 (h1.ev rfl) (rdb h2 (vs := [(.int .i64 p0.W), (.int .i64 p0.H), (.int .i64 p0.Rail), (.int .i64 p0.Gap), (.slice Ap0_0 (p0.Kinds).length cp0_0), (.slice Ap0_1 (p0.Slots).length cp0_1), (.slice Ap0_2 (p0.Marks).length cp0_2)]) (k := 1) rfl 5) rfl) ?_
        refine Tr.val (wn rfl) rfl (fun _ _ h1 h2 => run_len un_23 (h1.ev rfl)) ?_
        refine Tr.val (wn rfl) rfl (fun _ _ h1 h2 => run_lss (h1.ev rfl) (h1.ev rfl)) ?_
        refine Tr.nil (Tr.normThen ?_)
        refine Tr.cond rfl H (fun H => ?_) (fun H => ?_)
        · refine Tr.skip (Tr.normThen ?_)
          refine Tr.seq ?_
          refine Tr.block ?_
          refine Tr.seq ?_
          obtain ⟨x33, hx33, H⟩ := bnd H
          obtain ⟨hx330, hx331, hx332⟩ := idx_some hx33
          obtain ⟨y34, hy34, H⟩ := bnd H
          refine Tr.drawF 8 [(7, .makeFunc (.func 0) #[] #[])] [(7, ⟨10, 10, (.func (.func 0) #[] #[]), fun b => .pointer (some ⟨b, 0, none⟩), fun b => bx b #[(.int .i64 0), (.int .i64 0), (.int .i64 0), (.int .i64 0)] 42⟩)] [(2, (.pointer (some ⟨b1, 0, none⟩))), (3, (.pointer (some ⟨b2, 0, none⟩))), (5, (.pointer (some ⟨b3, 0, none⟩))), (9, (.int .i64 x31)), (10, (.func (.func 0) #[] #[])), (34, (.int .i64 x31)), (35, (.pointer (some ⟨b1, 5, none⟩))), (36, (.slice Ap0_1 (p0.Slots).length cp0_1)), (37, (.int .i64 (p0.Slots.length : Int))), (38, (.bool (decide (x31 < (p0.Slots.length : Int))))), (41, (.agg #[(.int .i64 p0.W), (.int .i64 p0.H), (.int .i64 p0.Rail), (.int .i64 p0.Gap), (.slice Ap0_0 (p0.Kinds).length cp0_0), (.slice Ap0_1 (p0.Slots).length cp0_1), (.slice Ap0_2 (p0.Marks).length cp0_2)])), (42, (.pointer (some ⟨b1, 5, none⟩))), (43, (.slice Ap0_1 (p0.Slots).length cp0_1)), (44, (.int .i64 x31)), (45, (.pointer (some ⟨adB Ap0_1, adO Ap0_1 + (x31).toNat * 4, none⟩))), (46, (.agg #[(.string x33.Board), (.int .i64 x33.Quarters), (.int .i64 x33.At.X), (.int .i64 x33.At.Y)])), (47, (.agg #[(.int .i64 y34.X0), (.int .i64 y34.Y0), (.int .i64 y34.X1), (.int .i64 y34.Y1)]))] (by kernel_rfl) (by kernel_rfl) (by kernel_rfl) (by kernel_rfl) (by kernel_rfl) (by kernel_rfl) (by kernel_rfl) (fall_cons (fr_alloc rfl rfl ze_42) fall_nil) (fall_cons rfl fall_nil) (fall_cons rfl fall_nil) ?_ ?_
          · refine Tq.val (wn rfl) rfl (fun _ _ h1 h2 => run_loadN (cs := [(.int .i64 p0.W), (.int .i64 p0.H), (.int .i64 p0.Rail), (.int .i64 p0.Gap), (.slice Ap0_0 (p0.Kinds).length cp0_0), (.slice Ap0_1 (p0.Slots).length cp0_1), (.slice Ap0_2 (p0.Marks).length cp0_2)]) ag_26 sz_26 (h1.ev rfl) (CellsAt.take (rdb h2 (vs := [(.int .i64 p0.W), (.int .i64 p0.H), (.int .i64 p0.Rail), (.int .i64 p0.Gap), (.slice Ap0_0 (p0.Kinds).length cp0_0), (.slice Ap0_1 (p0.Slots).length cp0_1), (.slice Ap0_2 (p0.Marks).length cp0_2)]) (k := 1) rfl 0) 7) rfl) ?_
            refine Tq.val (wn rfl) rfl (fun _ _ h1 h2 => run_fieldAddr fo_26_5 (h1.ev rfl)) ?_
            refine Tq.val (wn rfl) rfl (fun _ _ h1 h2 => run_load1 ag_23 (h1.ev rfl) (rdb h2 (vs := [(.int .i64 p0.W), (.int .i64 p0.H), (.int .i64 p0.Rail), (.int .i64 p0.Gap), (.slice Ap0_0 (p0.Kinds).length cp0_0), (.slice Ap0_1 (p0.Slots).length cp0_1), (.slice Ap0_2 (p0.Marks).length cp0_2)]) (k := 1) rfl 5) rfl) ?_
            refine Tq.val (wn rfl) rfl (fun _ _ h1 h2 => run_move (h1.ev rfl)) ?_
            refine Tq.val (wn rfl) rfl (fun _ _ h1 h2 => run_indexAddr el_23 (h1.ev rfl) hp0_1.form (h1.ev rfl) hx330 hx331) ?_
            refine Tq.val (wn rfl) rfl (fun _ _ h1 h2 => run_loadN (cs := [(.string x33.Board), (.int .i64 x33.Quarters), (.int .i64 x33.At.X), (.int .i64 x33.At.Y)]) ag_34 sz_34 (h1.ev rfl) (CellsAt.take (Rd.arg hp0_1 hx332 _ h2) 4) rfl) ?_
            refine Tq.call0 (r := (.agg #[(.int .i64 y34.X0), (.int .i64 y34.Y0), (.int .i64 y34.X1), (.int .i64 y34.Y1)])) (wn rfl) rfl Try.call50 (evl_cons rfl (evl_cons rfl evl_nil)) (fun W hW => F_etchhouseref9_cellOf_ok N p0 Ap0_0 cp0_0 (Sl.up hp0_0 hW) Ap0_1 cp0_1 (Sl.up hp0_1 hW) Ap0_2 cp0_2 (Sl.up hp0_2 hW) x33 y34 hy34) ?_
            refine Tq.mkFunc (vs := []) (wn rfl) rfl evl_nil ?_
            exact Tq.fin (.cons rfl (.cons rfl (.cons rfl (.cons rfl (.cons rfl (.cons rfl (.cons rfl (.cons rfl (.cons rfl (.cons rfl (.cons rfl (.cons rfl (.cons rfl (.cons rfl (.cons rfl (.cons rfl (.cons rfl .nil)))))))))))))))))
          · intro bs32
            refine Tr.sel (lf := [(2, (.pointer (some ⟨b1, 0, none⟩))), (3, (.pointer (some ⟨b2, 0, none⟩))), (5, (.pointer (some ⟨b3, 0, none⟩))), (9, (.int .i64 x31)), (10, (.pointer (some ⟨(bs32 7), 0, none⟩))), (47, (.agg #[(.int .i64 y34.X0), (.int .i64 y34.Y0), (.int .i64 y34.X1), (.int .i64 y34.Y1)]))]) (le := [(1, bx b1 #[(.int .i64 p0.W), (.int .i64 p0.H), (.int .i64 p0.Rail), (.int .i64 p0.Gap), (.slice Ap0_0 (p0.Kinds).length cp0_0), (.slice Ap0_1 (p0.Slots).length cp0_1), (.slice Ap0_2 (p0.Marks).length cp0_2)] 26), (2, bx b2 #[(.int .i64 p1.X), (.int .i64 p1.Y)] 32), (3, bx b3 #[(.int .i64 0), (.int .i64 0)] 32), (10, bx (bs32 7) #[(.int .i64 0), (.int .i64 0), (.int .i64 0), (.int .i64 0)] 42)]) (.cons rfl (.cons rfl (.cons rfl (.cons rfl (.cons rfl (.cons rfl .nil)))))) (.cons rfl (.cons rfl (.cons rfl (.cons rfl .nil)))) ?_
            refine Tr.store 10 (cs := [(.int .i64 y34.X0), (.int .i64 y34.Y0), (.int .i64 y34.X1), (.int .i64 y34.Y1)]) [(.int .i64 y34.X0), (.int .i64 y34.Y0), (.int .i64 y34.X1), (.int .i64 y34.Y1)] (wn rfl) rfl rfl rfl rfl sz_42 rfl rfl rfl ?_
            refine Tr.nil (Tr.normThen ?_)
            refine Tr.seq ?_
            refine Tr.region ?_
            refine Tr.val (wn rfl) rfl (fun _ _ h1 h2 => run_fieldAddr fo_32_0 (h1.ev rfl)) ?_
            refine Tr.val (wn rfl) rfl (fun _ _ h1 h2 => run_load1 ag_3 (h1.ev rfl) (rdb h2 (vs := [(.int .i64 p1.X), (.int .i64 p1.Y)]) (k := 2) rfl 0) rfl) ?_
            refine Tr.val (wn rfl) rfl (fun _ _ h1 h2 => run_fieldAddr fo_42_0 (h1.ev rfl)) ?_
            refine Tr.val (wn rfl) rfl (fun _ _ h1 h2 => run_load1 ag_3 (h1.ev rfl) (rdb h2 (vs := [(.int .i64 y34.X0), (.int .i64 y34.Y0), (.int .i64 y34.X1), (.int .i64 y34.Y1)]) (k := 10) rfl 0) rfl) ?_
            refine Tr.val (wn rfl) rfl (fun _ _ h1 h2 => run_fieldAddr fo_42_2 (h1.ev rfl)) ?_
            refine Tr.val (wn rfl) rfl (fun _ _ h1 h2 => run_load1 ag_3 (h1.ev rfl) (rdb h2 (vs := [(.int .i64 y34.X0), (.int .i64 y34.Y0), (.int .i64 y34.X1), (.int .i64 y34.Y1)]) (k := 10) rfl 2) rfl) ?_
            obtain ⟨y35, hy35, H⟩ := bnd H
            refine Tr.call0 (r := (.bool y35)) (wn rfl) rfl Try.call49 (evl_cons rfl (evl_cons rfl (evl_cons rfl evl_nil))) (fun W hW => F_etchhouseref9_within_ok p1.X y34.X0 y34.X1 y35 hy35) ?_
            refine Tr.val (wn rfl) rfl (fun _ _ h1 h2 => run_move (h1.ev rfl)) ?_
            obtain ⟨g37, hg37, H⟩ := bnd H
            refine Tr.mid (σ := Unit) 8 (fun _ => True) (fun _ => [(2, (.pointer (some ⟨b1, 0, none⟩))), (3, (.pointer (some ⟨b2, 0, none⟩))), (5, (.pointer (some ⟨b3, 0, none⟩))), (9, (.int .i64 x31)), (63, (.bool g37))]) (fun _ => [(1, bx b1 #[(.int .i64 p0.W), (.int .i64 p0.H), (.int .i64 p0.Rail), (.int .i64 p0.Gap), (.slice Ap0_0 (p0.Kinds).length cp0_0), (.slice Ap0_1 (p0.Slots).length cp0_1), (.slice Ap0_2 (p0.Marks).length cp0_2)] 26), (2, bx b2 #[(.int .i64 p1.X), (.int .i64 p1.Y)] 32), (3, bx b3 #[(.int .i64 0), (.int .i64 0)] 32), (10, bx (bs32 7) #[(.int .i64 y34.X0), (.int .i64 y34.Y0), (.int .i64 y34.X1), (.int .i64 y34.Y1)] 42)]) ?_ ?_
            · cases hg42 : y35
              · rw [hg42] at hg37
                rw [if_neg (by decide)] at hg37
                have H := hg37
                obtain rfl := Option.some.inj H
                refine Tr.pass rfl rfl rfl rfl rfl (by decide) ?_
                refine Tr.pass rfl rfl rfl rfl rfl (by decide) ?_
                refine Tr.pass rfl rfl rfl rfl rfl (by decide) ?_
                refine Tr.pass rfl rfl rfl rfl rfl (by decide) ?_
                refine Tr.pass rfl rfl rfl rfl rfl (by decide) ?_
                refine Tr.pass rfl rfl rfl rfl rfl (by decide) ?_
                refine Tr.pass rfl rfl rfl rfl rfl (by decide) ?_
                refine Tr.val (wn rfl) rfl (fun _ _ h1 h2 => run_pickF (h1.ev rfl) (h1.ev rfl)) ?_
                exact Tr.nil (Tr.backThen () trivial (.cons rfl (.cons rfl (.cons rfl (.cons rfl (.cons rfl .nil))))) (.cons rfl (.cons rfl (.cons rfl (.cons rfl .nil)))))
              · rw [hg42] at hg37
                rw [if_pos rfl] at hg37
                have H := hg37
                refine Tr.val (wg rfl rfl rfl) rfl (fun _ _ h1 h2 => run_fieldAddr fo_32_1 (h1.ev rfl)) ?_
                refine Tr.val (wg rfl rfl rfl) rfl (fun _ _ h1 h2 => run_load1 ag_3 (h1.ev rfl) (rdb h2 (vs := [(.int .i64 p1.X), (.int .i64 p1.Y)]) (k := 2) rfl 1) rfl) ?_
                refine Tr.val (wg rfl rfl rfl) rfl (fun _ _ h1 h2 => run_fieldAddr fo_42_1 (h1.ev rfl)) ?_
                refine Tr.val (wg rfl rfl rfl) rfl (fun _ _ h1 h2 => run_load1 ag_3 (h1.ev rfl) (rdb h2 (vs := [(.int .i64 y34.X0), (.int .i64 y34.Y0), (.int .i64 y34.X1), (.int .i64 y34.Y1)]) (k := 10) rfl 1) rfl) ?_
                refine Tr.val (wg rfl rfl rfl) rfl (fun _ _ h1 h2 => run_fieldAddr fo_42_3 (h1.ev rfl)) ?_
                refine Tr.val (wg rfl rfl rfl) rfl (fun _ _ h1 h2 => run_load1 ag_3 (h1.ev rfl) (rdb h2 (vs := [(.int .i64 y34.X0), (.int .i64 y34.Y0), (.int .i64 y34.X1), (.int .i64 y34.Y1)]) (k := 10) rfl 3) rfl) ?_
                obtain ⟨y38, hy38, H⟩ := bnd H
                refine Tr.call0 (r := (.bool y38)) (wg rfl rfl rfl) rfl Try.call49 (evl_cons rfl (evl_cons rfl (evl_cons rfl evl_nil))) (fun W hW => F_etchhouseref9_within_ok p1.Y y34.Y0 y34.Y1 y38 hy38) ?_
                refine Tr.val (wn rfl) rfl (fun _ _ h1 h2 => run_pickT (h1.ev rfl) (h1.ev rfl)) ?_
                obtain rfl := Option.some.inj H
                exact Tr.nil (Tr.backThen () trivial (.cons rfl (.cons rfl (.cons rfl (.cons rfl (.cons rfl .nil))))) (.cons rfl (.cons rfl (.cons rfl (.cons rfl .nil)))))
            · intro _ _
              show Tr _ _ (LF [(2, (.pointer (some ⟨b1, 0, none⟩))), (3, (.pointer (some ⟨b2, 0, none⟩))), (5, (.pointer (some ⟨b3, 0, none⟩))), (9, (.int .i64 x31)), (63, (.bool g37))]) (LE [(1, bx b1 #[(.int .i64 p0.W), (.int .i64 p0.H), (.int .i64 p0.Rail), (.int .i64 p0.Gap), (.slice Ap0_0 (p0.Kinds).length cp0_0), (.slice Ap0_1 (p0.Slots).length cp0_1), (.slice Ap0_2 (p0.Marks).length cp0_2)] 26), (2, bx b2 #[(.int .i64 p1.X), (.int .i64 p1.Y)] 32), (3, bx b3 #[(.int .i64 0), (.int .i64 0)] 32), (10, bx (bs32 7) #[(.int .i64 y34.X0), (.int .i64 y34.Y0), (.int .i64 y34.X1), (.int .i64 y34.Y1)] 42)]) _
              refine Tr.nil (Tr.normThen ?_)
              refine Tr.cond rfl H (fun H => ?_) (fun H => ?_)
              · refine Tr.seq ?_
                obtain ⟨x40, hx40, H⟩ := bnd H
                obtain ⟨hx400, hx401, hx402⟩ := idx_some hx40
                obtain ⟨y41, hy41, H⟩ := bnd H
                refine Tr.drawF 8 [(7, .makeFunc (.func 0) #[] #[])] [(7, ⟨11, 11, (.func (.func 0) #[] #[]), fun b => .pointer (some ⟨b, 0, none⟩), fun b => bx b #[(.bool false), (.int .i64 0), (.int .i64 0), (.int .i64 0)] 46⟩)] [(2, (.pointer (some ⟨b1, 0, none⟩))), (3, (.pointer (some ⟨b2, 0, none⟩))), (5, (.pointer (some ⟨b3, 0, none⟩))), (9, (.int .i64 x31)), (11, (.func (.func 0) #[] #[])), (63, (.bool g37)), (64, (.agg #[(.int .i64 p0.W), (.int .i64 p0.H), (.int .i64 p0.Rail), (.int .i64 p0.Gap), (.slice Ap0_0 (p0.Kinds).length cp0_0), (.slice Ap0_1 (p0.Slots).length cp0_1), (.slice Ap0_2 (p0.Marks).length cp0_2)])), (65, (.pointer (some ⟨b1, 5, none⟩))), (66, (.slice Ap0_1 (p0.Slots).length cp0_1)), (67, (.int .i64 x31)), (68, (.pointer (some ⟨adB Ap0_1, adO Ap0_1 + (x31).toNat * 4, none⟩))), (69, (.agg #[(.string x40.Board), (.int .i64 x40.Quarters), (.int .i64 x40.At.X), (.int .i64 x40.At.Y)])), (70, (.agg #[(.bool y41.Flip), (.int .i64 y41.Quarters), (.int .i64 y41.At.X), (.int .i64 y41.At.Y)]))] (by kernel_rfl) (by kernel_rfl) (by kernel_rfl) (by kernel_rfl) (by kernel_rfl) (by kernel_rfl) (by kernel_rfl) (fall_cons (fr_alloc rfl rfl ze_46) fall_nil) (fall_cons rfl fall_nil) (fall_cons rfl fall_nil) ?_ ?_
                · refine Tq.val (wn rfl) rfl (fun _ _ h1 h2 => run_loadN (cs := [(.int .i64 p0.W), (.int .i64 p0.H), (.int .i64 p0.Rail), (.int .i64 p0.Gap), (.slice Ap0_0 (p0.Kinds).length cp0_0), (.slice Ap0_1 (p0.Slots).length cp0_1), (.slice Ap0_2 (p0.Marks).length cp0_2)]) ag_26 sz_26 (h1.ev rfl) (CellsAt.take (rdb h2 (vs := [(.int .i64 p0.W), (.int .i64 p0.H), (.int .i64 p0.Rail), (.int .i64 p0.Gap), (.slice Ap0_0 (p0.Kinds).length cp0_0), (.slice Ap0_1 (p0.Slots).length cp0_1), (.slice Ap0_2 (p0.Marks).length cp0_2)]) (k := 1) rfl 0) 7) rfl) ?_
                  refine Tq.val (wn rfl) rfl (fun _ _ h1 h2 => run_fieldAddr fo_26_5 (h1.ev rfl)) ?_
                  refine Tq.val (wn rfl) rfl (fun _ _ h1 h2 => run_load1 ag_23 (h1.ev rfl) (rdb h2 (vs := [(.int .i64 p0.W), (.int .i64 p0.H), (.int .i64 p0.Rail), (.int .i64 p0.Gap), (.slice Ap0_0 (p0.Kinds).length cp0_0), (.slice Ap0_1 (p0.Slots).length cp0_1), (.slice Ap0_2 (p0.Marks).length cp0_2)]) (k := 1) rfl 5) rfl) ?_
                  refine Tq.val (wn rfl) rfl (fun _ _ h1 h2 => run_move (h1.ev rfl)) ?_
                  refine Tq.val (wn rfl) rfl (fun _ _ h1 h2 => run_indexAddr el_23 (h1.ev rfl) hp0_1.form (h1.ev rfl) hx400 hx401) ?_
                  refine Tq.val (wn rfl) rfl (fun _ _ h1 h2 => run_loadN (cs := [(.string x40.Board), (.int .i64 x40.Quarters), (.int .i64 x40.At.X), (.int .i64 x40.At.Y)]) ag_34 sz_34 (h1.ev rfl) (CellsAt.take (Rd.arg hp0_1 hx402 _ h2) 4) rfl) ?_
                  refine Tq.call0 (r := (.agg #[(.bool y41.Flip), (.int .i64 y41.Quarters), (.int .i64 y41.At.X), (.int .i64 y41.At.Y)])) (wn rfl) rfl Try.call53 (evl_cons rfl (evl_cons rfl evl_nil)) (fun W hW => F_etchhouseref9_turnOf_ok N p0 Ap0_0 cp0_0 (Sl.up hp0_0 hW) Ap0_1 cp0_1 (Sl.up hp0_1 hW) Ap0_2 cp0_2 (Sl.up hp0_2 hW) x40 y41 hy41) ?_
                  refine Tq.mkFunc (vs := []) (wn rfl) rfl evl_nil ?_
                  exact Tq.fin (.cons rfl (.cons rfl (.cons rfl (.cons rfl (.cons rfl (.cons rfl (.cons rfl (.cons rfl (.cons rfl (.cons rfl (.cons rfl (.cons rfl (.cons rfl .nil)))))))))))))
                · intro bs39
                  refine Tr.sel (lf := [(3, (.pointer (some ⟨b2, 0, none⟩))), (5, (.pointer (some ⟨b3, 0, none⟩))), (9, (.int .i64 x31)), (11, (.pointer (some ⟨(bs39 7), 0, none⟩))), (70, (.agg #[(.bool y41.Flip), (.int .i64 y41.Quarters), (.int .i64 y41.At.X), (.int .i64 y41.At.Y)]))]) (le := [(1, bx b1 #[(.int .i64 p0.W), (.int .i64 p0.H), (.int .i64 p0.Rail), (.int .i64 p0.Gap), (.slice Ap0_0 (p0.Kinds).length cp0_0), (.slice Ap0_1 (p0.Slots).length cp0_1), (.slice Ap0_2 (p0.Marks).length cp0_2)] 26), (2, bx b2 #[(.int .i64 p1.X), (.int .i64 p1.Y)] 32), (3, bx b3 #[(.int .i64 0), (.int .i64 0)] 32), (10, bx (bs32 7) #[(.int .i64 y34.X0), (.int .i64 y34.Y0), (.int .i64 y34.X1), (.int .i64 y34.Y1)] 42), (11, bx (bs39 7) #[(.bool false), (.int .i64 0), (.int .i64 0), (.int .i64 0)] 46)]) (.cons rfl (.cons rfl (.cons rfl (.cons rfl (.cons rfl .nil))))) (.cons rfl (.cons rfl (.cons rfl (.cons rfl (.cons rfl .nil))))) ?_
                  refine Tr.store 11 (cs := [(.bool y41.Flip), (.int .i64 y41.Quarters), (.int .i64 y41.At.X), (.int .i64 y41.At.Y)]) [(.bool y41.Flip), (.int .i64 y41.Quarters), (.int .i64 y41.At.X), (.int .i64 y41.At.Y)] (wn rfl) rfl rfl rfl rfl sz_46 rfl rfl rfl ?_
                  refine Tr.nil (Tr.normThen ?_)
                  refine Tr.seq ?_
                  refine Tr.region ?_
                  refine Tr.val (wn rfl) rfl (fun _ _ h1 h2 => run_fieldAddr fo_46_1 (h1.ev rfl)) ?_
                  refine Tr.val (wn rfl) rfl (fun _ _ h1 h2 => run_load1 ag_3 (h1.ev rfl) (rdb h2 (vs := [(.bool y41.Flip), (.int .i64 y41.Quarters), (.int .i64 y41.At.X), (.int .i64 y41.At.Y)]) (k := 11) rfl 1) rfl) ?_
                  refine Tr.val (wn rfl) rfl (fun _ _ h1 h2 => run_sub (h1.ev rfl) (h1.ev rfl)) ?_
                  refine Tr.val (wn rfl) rfl (fun _ _ h1 h2 => run_rem (h1.ev rfl) (h1.ev rfl) (by decide)) ?_
                  refine Tr.build (vs := [(1, (.int .i64 (Int.tmod (w64 (4 - y41.Quarters)) 4)))]) (cs := [(.bool false), (.int .i64 (Int.tmod (w64 (4 - y41.Quarters)) 4)), (.int .i64 0), (.int .i64 0)]) (wn rfl) rfl (evs_cons rfl evs_nil) (by kernel_rfl) ?_
                  refine Tr.alloc 12 (wn rfl) rfl ze_46 fun b12 => ?_
                  refine Tr.store 12 (cs := [(.bool false), (.int .i64 (Int.tmod (w64 (4 - y41.Quarters)) 4)), (.int .i64 0), (.int .i64 0)]) [(.bool false), (.int .i64 (Int.tmod (w64 (4 - y41.Quarters)) 4)), (.int .i64 0), (.int .i64 0)] (wn rfl) rfl rfl rfl rfl sz_46 rfl rfl rfl ?_
                  refine Tr.nil (Tr.normThen ?_)
                  refine Tr.seq ?_
                  refine Tr.region ?_
                  refine Tr.val (wn rfl) rfl (fun _ _ h1 h2 => run_move (h1.ev rfl)) ?_
                  refine Tr.val (wn rfl) rfl (fun _ _ h1 h2 => run_fieldAddr fo_32_0 (h1.ev rfl)) ?_
                  refine Tr.val (wn rfl) rfl (fun _ _ h1 h2 => run_load1 ag_3 (h1.ev rfl) (rdb h2 (vs := [(.int .i64 p1.X), (.int .i64 p1.Y)]) (k := 2) rfl 0) rfl) ?_
                  refine Tr.val (wn rfl) rfl (fun _ _ h1 h2 => run_fieldAddr fo_46_2 (h1.ev rfl)) ?_
                  refine Tr.val (wn rfl) rfl (fun _ _ h1 h2 => run_fieldAddr fo_32_0 (h1.ev rfl)) ?_
                  refine Tr.val (wn rfl) rfl (fun _ _ h1 h2 => run_load1 ag_3 (h1.ev rfl) (rdb h2 (vs := [(.bool y41.Flip), (.int .i64 y41.Quarters), (.int .i64 y41.At.X), (.int .i64 y41.At.Y)]) (k := 11) rfl 2) rfl) ?_
                  refine Tr.val (wn rfl) rfl (fun _ _ h1 h2 => run_sub (h1.ev rfl) (h1.ev rfl)) ?_
                  refine Tr.val (wn rfl) rfl (fun _ _ h1 h2 => run_fieldAddr fo_32_1 (h1.ev rfl)) ?_
                  refine Tr.val (wn rfl) rfl (fun _ _ h1 h2 => run_load1 ag_3 (h1.ev rfl) (rdb h2 (vs := [(.int .i64 p1.X), (.int .i64 p1.Y)]) (k := 2) rfl 1) rfl) ?_
                  refine Tr.val (wn rfl) rfl (fun _ _ h1 h2 => run_fieldAddr fo_46_2 (h1.ev rfl)) ?_
                  refine Tr.val (wn rfl) rfl (fun _ _ h1 h2 => run_fieldAddr fo_32_1 (h1.ev rfl)) ?_
                  refine Tr.val (wn rfl) rfl (fun _ _ h1 h2 => run_load1 ag_3 (h1.ev rfl) (rdb h2 (vs := [(.bool y41.Flip), (.int .i64 y41.Quarters), (.int .i64 y41.At.X), (.int .i64 y41.At.Y)]) (k := 11) rfl 3) rfl) ?_
                  refine Tr.val (wn rfl) rfl (fun _ _ h1 h2 => run_sub (h1.ev rfl) (h1.ev rfl)) ?_
                  refine Tr.build (vs := [(0, (.int .i64 (w64 (p1.X - y41.At.X)))), (1, (.int .i64 (w64 (p1.Y - y41.At.Y))))]) (cs := [(.int .i64 (w64 (p1.X - y41.At.X))), (.int .i64 (w64 (p1.Y - y41.At.Y)))]) (wn rfl) rfl (evs_cons rfl (evs_cons rfl evs_nil)) (by kernel_rfl) ?_
                  refine Tr.val (wn rfl) rfl (fun _ _ h1 h2 => run_loadN (cs := [(.bool false), (.int .i64 (Int.tmod (w64 (4 - y41.Quarters)) 4)), (.int .i64 0), (.int .i64 0)]) ag_46 sz_46 (h1.ev rfl) (CellsAt.take (rdb h2 (vs := [(.bool false), (.int .i64 (Int.tmod (w64 (4 - y41.Quarters)) 4)), (.int .i64 0), (.int .i64 0)]) (k := 12) rfl 0) 4) rfl) ?_
                  obtain ⟨y42, hy42, H⟩ := bnd H
                  refine Tr.call0 (r := (.agg #[(.int .i64 y42.X), (.int .i64 y42.Y)])) (wn rfl) rfl Try.call56 (evl_cons rfl (evl_cons rfl evl_nil)) (fun W hW => F_etchhouseref1_TurnPoint_ok N (TPoint.mk (w64 (p1.X - y41.At.X)) (w64 (p1.Y - y41.At.Y))) (TTurn.mk false (Int.tmod (w64 (4 - y41.Quarters)) 4) (TPoint.mk 0 0)) y42 hy42) ?_
                  refine Tr.val (wn rfl) rfl (fun _ _ h1 h2 => run_assign (h1.ev rfl)) ?_
                  refine Tr.store 3 (cs := [(.int .i64 y42.X), (.int .i64 y42.Y)]) [(.int .i64 y42.X), (.int .i64 y42.Y)] (wn rfl) rfl rfl rfl rfl sz_32 rfl rfl rfl ?_
                  refine Tr.val (wn rfl) rfl (fun _ _ h1 h2 => run_assign (h1.ev rfl)) ?_
                  refine Tr.val (wn rfl) rfl (fun _ _ h1 h2 => run_assign (h1.ev rfl)) ?_
                  refine Tr.nil (Tr.normThen ?_)
                  refine Tr.ret (Tr.retBlock (Tr.retThen (Tr.retThen (Tr.retBlock (Tr.retThen ?_)))))
                  obtain rfl := Option.some.inj H
                  exact Tr.out (m := [(.int .i64 x31), (.agg #[(.int .i64 y42.X), (.int .i64 y42.Y)]), (.bool true), (.int .i64 0)]) [3] (res_tmp rfl (res_cell rfl rfl ag_32 sz_32 (res_tmp rfl (res_tmp rfl res_nil)))) (fun W hW => ⟨rfl, hW.below⟩)
              · refine Tr.skip (Tr.normBlock (Tr.normThen ?_))
                refine Tr.region ?_
                refine Tr.val (wn rfl) rfl (fun _ _ h1 h2 => run_move (h1.ev rfl)) ?_
                refine Tr.val (wn rfl) rfl (fun _ _ h1 h2 => run_add (h1.ev rfl) (h1.ev rfl)) ?_
                refine Tr.val (wn rfl) rfl (fun _ _ h1 h2 => run_assign (h1.ev rfl)) ?_
                refine Tr.nil ?_
                exact Tr.backThen (w64 (x31 + 1)) H (.cons rfl (.cons rfl (.cons rfl (.cons rfl .nil)))) (.cons rfl (.cons rfl (.cons rfl .nil)))
        · refine Tr.exit (Tr.exitThen (Tr.exitThen (Tr.exitBlock (Tr.normThen ?_))))
          refine Tr.seq ?_
          refine Tr.region ?_
          refine Tr.build (vs := []) (cs := [(.int .i64 0), (.int .i64 0)]) (wn rfl) rfl evs_nil (by kernel_rfl) ?_
          refine Tr.val (wn rfl) rfl (fun _ _ h1 h2 => run_assign (h1.ev rfl)) ?_
          refine Tr.store 3 (cs := [(.int .i64 0), (.int .i64 0)]) [(.int .i64 0), (.int .i64 0)] (wn rfl) rfl rfl rfl rfl sz_32 rfl rfl rfl ?_
          refine Tr.val (wn rfl) rfl (fun _ _ h1 h2 => run_assign (h1.ev rfl)) ?_
          refine Tr.val (wn rfl) rfl (fun _ _ h1 h2 => run_assign (h1.ev rfl)) ?_
          refine Tr.nil (Tr.normThen ?_)
          refine Tr.ret ?_
          obtain rfl := Option.some.inj H
          exact Tr.out (m := [(.int .i64 0), (.agg #[(.int .i64 0), (.int .i64 0)]), (.bool false), (.int .i64 0)]) [3] (res_tmp rfl (res_cell rfl rfl ag_32 sz_32 (res_tmp rfl (res_tmp rfl res_nil)))) (fun W hW => ⟨rfl, hW.below⟩)

theorem F_shape_AreaOf_ok {w : World} (p0 : (List TRect)) (Ap0_0 : Option Addr) (cp0_0 : Nat) (hp0_0 : Sl (lo w.heap.size) w fl_TRect Ap0_0 cp0_0 p0) (r : Int) (H : F_shape_AreaOf p0 = some r) : Calls Try.prog 88 [(.slice Ap0_0 (p0).length cp0_0)].toArray w fun e W' => e = .returned (.int .i64 r) ∧ Below w.heap.size w W' := by
  unfold F_shape_AreaOf at H
  refine Tr.enter (n := 27) Try.func88 rfl rfl rfl ?_
  refine Tr.seq ?_
  refine Tr.region ?_
  refine Tr.val (wn rfl) rfl (fun _ _ h1 h2 => run_assign (h1.ev rfl)) ?_
  refine Tr.nil (Tr.normThen ?_)
  refine Tr.seq ?_
  refine Tr.region ?_
  refine Tr.val (wn rfl) rfl (fun _ _ h1 h2 => run_assign (h1.ev rfl)) ?_
  refine Tr.nil (Tr.normThen ?_)
  refine Tr.seq ?_
  refine Tr.seq ?_
  refine Tr.region ?_
  refine Tr.val (wn rfl) rfl (fun _ _ h1 h2 => run_move (h1.ev rfl)) ?_
  refine Tr.val (wn rfl) rfl (fun _ _ h1 h2 => run_len un_38 (h1.ev rfl)) ?_
  refine Tr.val (wn rfl) rfl (fun _ _ h1 h2 => run_move (h1.ev rfl)) ?_
  refine Tr.nil (Tr.normThen ?_)
  refine Tr.block ?_
  refine Tr.loop (σ := (List TRect) × Nat × Int) (fun m s => m = s.1.length + 1 ∧ s.1 = List.drop s.2.1 p0 ∧ s.2.1 ≤ p0.length ∧ F_shape_AreaOf_L1 s.1 s.2.1 s.2.2 = some r) (fun s => [(3, (.int .i64 s.2.2)), (6, (.slice Ap0_0 (p0).length cp0_0)), (7, (.int .i64 (p0.length : Int))), (8, (.int .i64 (s.2.1 : Int)))]) (fun s => []) (p0.length + 1) (p0, 0, 0) ⟨rfl, rfl, Nat.zero_le _, H⟩ (.cons rfl (.cons rfl (.cons rfl (.cons rfl .nil)))) .nil (fun _ h => absurd h.1 (by simp)) ?_
  intro m s hs
  obtain ⟨restF_shape_AreaOf_L1, iF_shape_AreaOf_L1, x9⟩ := s
  obtain ⟨hmF_shape_AreaOf_L1, hdF_shape_AreaOf_L1, hiF_shape_AreaOf_L1, H⟩ := hs
  replace hdF_shape_AreaOf_L1 : restF_shape_AreaOf_L1 = List.drop iF_shape_AreaOf_L1 p0 := hdF_shape_AreaOf_L1
  replace H : F_shape_AreaOf_L1 restF_shape_AreaOf_L1 iF_shape_AreaOf_L1 x9 = some r := H
  replace hmF_shape_AreaOf_L1 : m + 1 = restF_shape_AreaOf_L1.length + 1 := hmF_shape_AreaOf_L1
  obtain rfl : m = restF_shape_AreaOf_L1.length := by omega
  clear hmF_shape_AreaOf_L1
  show Tr _ _ (LF [(3, (.int .i64 x9)), (6, (.slice Ap0_0 (p0).length cp0_0)), (7, (.int .i64 (p0.length : Int))), (8, (.int .i64 (iF_shape_AreaOf_L1 : Int)))]) (LE []) _
  cases restF_shape_AreaOf_L1 with
  | nil =>
    rw [F_shape_AreaOf_L1.eq_1] at H
    refine Tr.seq ?_
    refine Tr.region ?_
    refine Tr.val (wn rfl) rfl (fun _ _ h1 h2 => run_lss (h1.ev rfl) (h1.ev rfl)) ?_
    refine Tr.nil (Tr.normThen ?_)
    refine Tr.seq ?_
    refine Tr.condF rfl (range_nil hdF_shape_AreaOf_L1) ?_
    refine Tr.exit (Tr.exitThen (Tr.exitThen (Tr.exitBlock (Tr.normThen ?_))))
    refine Tr.seq ?_
    refine Tr.region ?_
    refine Tr.val (wn rfl) rfl (fun _ _ h1 h2 => run_move (h1.ev rfl)) ?_
    refine Tr.val (wn rfl) rfl (fun _ _ h1 h2 => run_assign (h1.ev rfl)) ?_
    refine Tr.nil (Tr.normThen ?_)
    refine Tr.ret ?_
    obtain rfl := Option.some.inj H
    exact Tr.out (m := [(.int .i64 x9)]) [] (res_tmp rfl res_nil) (fun W hW => ⟨rfl, hW.below⟩)
  | cons xF_shape_AreaOf_L1 restF_shape_AreaOf_L1 =>
    rw [F_shape_AreaOf_L1.eq_2] at H
    refine Tr.seq ?_
    refine Tr.region ?_
    refine Tr.val (wn rfl) rfl (fun _ _ h1 h2 => run_lss (h1.ev rfl) (h1.ev rfl)) ?_
    refine Tr.nil (Tr.normThen ?_)
    refine Tr.seq ?_
    refine Tr.condT rfl (range_on hdF_shape_AreaOf_L1) ?_
    refine Tr.skip (Tr.normThen ?_)
    refine Tr.seq ?_
    refine Tr.block ?_
    refine Tr.seq ?_
    refine Tr.region ?_
    refine Tr.val (wn rfl) rfl (fun _ _ h1 h2 => run_indexAddr el_38 (h1.ev rfl) hp0_0.form (h1.ev rfl) (Int.natCast_nonneg _) (range_lt hdF_shape_AreaOf_L1)) ?_
    refine Tr.val (wn rfl) rfl (fun _ _ h1 h2 => run_loadN (cs := [(.int .i64 xF_shape_AreaOf_L1.X0), (.int .i64 xF_shape_AreaOf_L1.Y0), (.int .i64 xF_shape_AreaOf_L1.X1), (.int .i64 xF_shape_AreaOf_L1.Y1)]) ag_42 sz_42 (h1.ev rfl) (CellsAt.take (Rd.arg hp0_0 (range_at hdF_shape_AreaOf_L1) _ h2) 4) rfl) ?_
    refine Tr.alloc 3 (wn rfl) rfl ze_42 fun b3 => ?_
    refine Tr.store 3 (cs := [(.int .i64 xF_shape_AreaOf_L1.X0), (.int .i64 xF_shape_AreaOf_L1.Y0), (.int .i64 xF_shape_AreaOf_L1.X1), (.int .i64 xF_shape_AreaOf_L1.Y1)]) [(.int .i64 xF_shape_AreaOf_L1.X0), (.int .i64 xF_shape_AreaOf_L1.Y0), (.int .i64 xF_shape_AreaOf_L1.X1), (.int .i64 xF_shape_AreaOf_L1.Y1)] (wn rfl) rfl rfl rfl rfl sz_42 rfl rfl rfl ?_
    refine Tr.nil (Tr.normThen ?_)
    refine Tr.region ?_
    refine Tr.val (wn rfl) rfl (fun _ _ h1 h2 => run_move (h1.ev rfl)) ?_
    refine Tr.val (wn rfl) rfl (fun _ _ h1 h2 => run_fieldAddr fo_42_2 (h1.ev rfl)) ?_
    refine Tr.val (wn rfl) rfl (fun _ _ h1 h2 => run_load1 ag_3 (h1.ev rfl) (rdb h2 (vs := [(.int .i64 xF_shape_AreaOf_L1.X0), (.int .i64 xF_shape_AreaOf_L1.Y0), (.int .i64 xF_shape_AreaOf_L1.X1), (.int .i64 xF_shape_AreaOf_L1.Y1)]) (k := 3) rfl 2) rfl) ?_
    refine Tr.val (wn rfl) rfl (fun _ _ h1 h2 => run_fieldAddr fo_42_0 (h1.ev rfl)) ?_
    refine Tr.val (wn rfl) rfl (fun _ _ h1 h2 => run_load1 ag_3 (h1.ev rfl) (rdb h2 (vs := [(.int .i64 xF_shape_AreaOf_L1.X0), (.int .i64 xF_shape_AreaOf_L1.Y0), (.int .i64 xF_shape_AreaOf_L1.X1), (.int .i64 xF_shape_AreaOf_L1.Y1)]) (k := 3) rfl 0) rfl) ?_
    refine Tr.val (wn rfl) rfl (fun _ _ h1 h2 => run_sub (h1.ev rfl) (h1.ev rfl)) ?_
    refine Tr.val (wn rfl) rfl (fun _ _ h1 h2 => run_fieldAddr fo_42_3 (h1.ev rfl)) ?_
    refine Tr.val (wn rfl) rfl (fun _ _ h1 h2 => run_load1 ag_3 (h1.ev rfl) (rdb h2 (vs := [(.int .i64 xF_shape_AreaOf_L1.X0), (.int .i64 xF_shape_AreaOf_L1.Y0), (.int .i64 xF_shape_AreaOf_L1.X1), (.int .i64 xF_shape_AreaOf_L1.Y1)]) (k := 3) rfl 3) rfl) ?_
    refine Tr.val (wn rfl) rfl (fun _ _ h1 h2 => run_fieldAddr fo_42_1 (h1.ev rfl)) ?_
    refine Tr.val (wn rfl) rfl (fun _ _ h1 h2 => run_load1 ag_3 (h1.ev rfl) (rdb h2 (vs := [(.int .i64 xF_shape_AreaOf_L1.X0), (.int .i64 xF_shape_AreaOf_L1.Y0), (.int .i64 xF_shape_AreaOf_L1.X1), (.int .i64 xF_shape_AreaOf_L1.Y1)]) (k := 3) rfl 1) rfl) ?_
    refine Tr.val (wn rfl) rfl (fun _ _ h1 h2 => run_sub (h1.ev rfl) (h1.ev rfl)) ?_
    refine Tr.val (wn rfl) rfl (fun _ _ h1 h2 => run_mul (h1.ev rfl) (h1.ev rfl)) ?_
    refine Tr.val (wn rfl) rfl (fun _ _ h1 h2 => run_add (h1.ev rfl) (h1.ev rfl)) ?_
    refine Tr.val (wn rfl) rfl (fun _ _ h1 h2 => run_assign (h1.ev rfl)) ?_
    refine Tr.nil (Tr.normBlock (Tr.normThen ?_))
    refine Tr.region ?_
    refine Tr.val (wn rfl) rfl (fun _ _ h1 h2 => run_add (h1.ev rfl) (h1.ev rfl)) ?_
    refine Tr.val (wn rfl) rfl (fun _ _ h1 h2 => run_move (h1.ev rfl)) ?_
    refine Tr.nil ?_
    exact Tr.backThen (restF_shape_AreaOf_L1, (iF_shape_AreaOf_L1 + 1), (w64 (x9 + (w64 ((w64 (xF_shape_AreaOf_L1.X1 - xF_shape_AreaOf_L1.X0)) * (w64 (xF_shape_AreaOf_L1.Y1 - xF_shape_AreaOf_L1.Y0))))))) ⟨rfl, range_tl hdF_shape_AreaOf_L1, range_lt hdF_shape_AreaOf_L1, H⟩ (.cons rfl (.cons rfl (.cons rfl (.cons (congrArg (fun z => some (Value.int .i64 z)) (range_up hdF_shape_AreaOf_L1 hp0_0.form)) .nil)))) .nil

theorem F_panel_Lowest_ok (N : Nat) {w : World} (p0 : Int) (p1 : Int) (r : TShare) (H : F_panel_Lowest N p0 p1 = some r) : Calls Try.prog 87 [(.int .i64 p0), (.int .i64 p1)].toArray w fun e W' => e = .returned (.agg #[(.int .i64 r.Num), (.int .i64 r.Den)]) ∧ Below w.heap.size w W' := by
  unfold F_panel_Lowest at H
  refine Tr.enter (n := 22) Try.func87 rfl rfl rfl ?_
  refine Tr.seq ?_
  refine Tr.region ?_
  refine Tr.alloc 1 (wn rfl) rfl ze_70 fun b1 => ?_
  refine Tr.nil (Tr.normThen ?_)
  refine Tr.seq ?_
  refine Tr.region ?_
  refine Tr.val (wn rfl) rfl (fun _ _ h1 h2 => run_move (h1.ev rfl)) ?_
  refine Tr.val (wn rfl) rfl (fun _ _ h1 h2 => run_move (h1.ev rfl)) ?_
  refine Tr.val (wn rfl) rfl (fun _ _ h1 h2 => run_assign (h1.ev rfl)) ?_
  refine Tr.val (wn rfl) rfl (fun _ _ h1 h2 => run_assign (h1.ev rfl)) ?_
  refine Tr.nil (Tr.normThen ?_)
  refine Tr.seq ?_
  refine Tr.block ?_
  refine Tr.loop (σ := Int × Int) (fun m s => F_panel_Lowest_L1 p0 p1 m s.1 s.2 = some r) (fun s => [(0, (.int .i64 p0)), (1, (.int .i64 p1)), (4, (.pointer (some ⟨b1, 0, none⟩))), (5, (.int .i64 s.1)), (6, (.int .i64 s.2))]) (fun s => [(1, bx b1 #[(.int .i64 0), (.int .i64 0)] 70)]) N (p0, p1) H (.cons rfl (.cons rfl (.cons rfl (.cons rfl (.cons rfl .nil))))) (.cons rfl .nil) (fun _ h => noSome (h)) ?_
  intro mF_panel_Lowest_L1 s hs
  obtain ⟨x9, x10⟩ := s
  have H := hs
  replace H : F_panel_Lowest_L1 p0 p1 (mF_panel_Lowest_L1 + 1) x9 x10 = some r := H
  rw [F_panel_Lowest_L1.eq_2] at H
  show Tr _ _ (LF [(0, (.int .i64 p0)), (1, (.int .i64 p1)), (4, (.pointer (some ⟨b1, 0, none⟩))), (5, (.int .i64 x9)), (6, (.int .i64 x10))]) (LE [(1, bx b1 #[(.int .i64 0), (.int .i64 0)] 70)]) _
  refine Tr.seq ?_
  refine Tr.seq ?_
  refine Tr.region ?_
  refine Tr.val (wn rfl) rfl (fun _ _ h1 h2 => run_move (h1.ev rfl)) ?_
  refine Tr.val (wn rfl) rfl (fun _ _ h1 h2 => run_neq (h1.ev rfl) (h1.ev rfl)) ?_
  refine Tr.nil (Tr.normThen ?_)
  refine Tr.cond rfl H (fun H => ?_) (fun H => ?_)
  · refine Tr.skip (Tr.normThen ?_)
    refine Tr.block ?_
    refine Tr.draw (by kernel_rfl) (by kernel_rfl) ?_
    refine Tq.val (wn rfl) rfl (fun _ _ h1 h2 => run_move (h1.ev rfl)) ?_
    refine Tq.val (wn rfl) rfl (fun _ _ h1 h2 => run_move (h1.ev rfl)) ?_
    refine Tq.val (wn rfl) rfl (fun _ _ h1 h2 => run_move (h1.ev rfl)) ?_
    obtain ⟨q11, hq11, H⟩ := bnd H
    refine Tq.val (wn rfl) rfl (fun _ _ h1 h2 => run_md (h1.ev rfl) (h1.ev rfl) hq11) ?_
    refine Tq.val (wn rfl) rfl (fun _ _ h1 h2 => run_assign (h1.ev rfl)) ?_
    refine Tq.val (wn rfl) rfl (fun _ _ h1 h2 => run_assign (h1.ev rfl)) ?_
    refine Tq.nil (Tr.normBlock ?_)
    exact Tr.backThen (x10, q11) H (.cons rfl (.cons rfl (.cons rfl (.cons rfl (.cons rfl .nil))))) (.cons rfl .nil)
  · refine Tr.exit (Tr.exitThen (Tr.exitThen (Tr.exitBlock (Tr.normThen ?_))))
    refine Tr.seq ?_
    refine Tr.drawTail 6 (by kernel_rfl) (by kernel_rfl) ?_
    refine Tq.val (wn rfl) rfl (fun _ _ h1 h2 => run_move (h1.ev rfl)) ?_
    refine Tq.val (wn rfl) rfl (fun _ _ h1 h2 => run_move (h1.ev rfl)) ?_
    obtain ⟨q12, hq12, H⟩ := bnd H
    refine Tq.val (wn rfl) rfl (fun _ _ h1 h2 => run_dv (h1.ev rfl) (h1.ev rfl) hq12) ?_
    refine Tq.val (wn rfl) rfl (fun _ _ h1 h2 => run_move (h1.ev rfl)) ?_
    refine Tq.val (wn rfl) rfl (fun _ _ h1 h2 => run_move (h1.ev rfl)) ?_
    obtain ⟨q13, hq13, H⟩ := bnd H
    refine Tq.val (wn rfl) rfl (fun _ _ h1 h2 => run_dv (h1.ev rfl) (h1.ev rfl) hq13) ?_
    refine Tq.nil ?_
    refine Tr.build (vs := [(0, (.int .i64 q12)), (1, (.int .i64 q13))]) (cs := [(.int .i64 q12), (.int .i64 q13)]) (wn rfl) rfl (evs_cons rfl (evs_cons rfl evs_nil)) (by kernel_rfl) ?_
    refine Tr.store 1 (cs := [(.int .i64 q12), (.int .i64 q13)]) [(.int .i64 q12), (.int .i64 q13)] (wn rfl) rfl rfl rfl rfl sz_70 rfl rfl rfl ?_
    refine Tr.nil (Tr.normThen ?_)
    refine Tr.ret ?_
    obtain rfl := Option.some.inj H
    exact Tr.out (m := [(.agg #[(.int .i64 q12), (.int .i64 q13)])]) [1] (res_cell rfl rfl ag_70 sz_70 res_nil) (fun W hW => ⟨rfl, hW.below⟩)

theorem F_panel_Use_ok (N : Nat) {w : World} (p0 : TPanel) (Ap0_0 : Option Addr) (cp0_0 : Nat) (hp0_0 : Sl (lo w.heap.size) w fl_TBoardKind Ap0_0 cp0_0 p0.Kinds) (Ap0_1 : Option Addr) (cp0_1 : Nat) (hp0_1 : Sl (lo w.heap.size) w fl_TSlot Ap0_1 cp0_1 p0.Slots) (Ap0_2 : Option Addr) (cp0_2 : Nat) (hp0_2 : Sl (lo w.heap.size) w fl_TPoint Ap0_2 cp0_2 p0.Marks) (r : (TShare × Int)) (H : F_panel_Use N p0 = some r) : Calls Try.prog 41 [(.agg #[(.int .i64 p0.W), (.int .i64 p0.H), (.int .i64 p0.Rail), (.int .i64 p0.Gap), (.slice Ap0_0 (p0.Kinds).length cp0_0), (.slice Ap0_1 (p0.Slots).length cp0_1), (.slice Ap0_2 (p0.Marks).length cp0_2)])].toArray w fun e W' => e = .returned (.tuple #[(.agg #[(.int .i64 r.1.Num), (.int .i64 r.1.Den)]), (.int .i64 r.2)]) ∧ Below w.heap.size w W' := by
  unfold F_panel_Use at H
  refine Tr.enter (n := 23) Try.func41 rfl rfl rfl ?_
  refine Tr.seq ?_
  refine Tr.region ?_
  refine Tr.box 1 (cs := [(.int .i64 p0.W), (.int .i64 p0.H), (.int .i64 p0.Rail), (.int .i64 p0.Gap), (.slice Ap0_0 (p0.Kinds).length cp0_0), (.slice Ap0_1 (p0.Slots).length cp0_1), (.slice Ap0_2 (p0.Marks).length cp0_2)]) (wn rfl) rfl rfl rfl fun b1 => ?_
  refine Tr.alloc 2 (wn rfl) rfl ze_70 fun b2 => ?_
  refine Tr.val (wn rfl) rfl (fun _ _ h1 h2 => run_assign (h1.ev rfl)) ?_
  refine Tr.nil (Tr.normThen ?_)
  refine Tr.seq ?_
  refine Tr.region ?_
  refine Tr.val (wn rfl) rfl (fun _ _ h1 h2 => run_loadN (cs := [(.int .i64 p0.W), (.int .i64 p0.H), (.int .i64 p0.Rail), (.int .i64 p0.Gap), (.slice Ap0_0 (p0.Kinds).length cp0_0), (.slice Ap0_1 (p0.Slots).length cp0_1), (.slice Ap0_2 (p0.Marks).length cp0_2)]) ag_26 sz_26 (h1.ev rfl) (CellsAt.take (rdb h2 (vs := [(.int .i64 p0.W), (.int .i64 p0.H), (.int .i64 p0.Rail), (.int .i64 p0.Gap), (.slice Ap0_0 (p0.Kinds).length cp0_0), (.slice Ap0_1 (p0.Slots).length cp0_1), (.slice Ap0_2 (p0.Marks).length cp0_2)]) (k := 1) rfl 0) 7) rfl) ?_
  obtain ⟨y1, hy1, H⟩ := bnd H
  refine Tr.call 3 (U := Option Addr × Nat) (fun u => (.tuple #[(.slice u.1 (y1.1).length u.2), (.int .i64 y1.2)])) (fun u => SlF u.1 (y1.1).length u.2) (fun u => ow u.1 u.2 42 fl_TRect y1.1) (wn rfl) rfl Try.call47 (evl_cons rfl evl_nil) (fun W hW => F_panel_open_ok N p0 Ap0_0 cp0_0 (Sl.up hp0_0 hW) Ap0_1 cp0_1 (Sl.up hp0_1 hW) Ap0_2 cp0_2 (Sl.up hp0_2 hW) y1 hy1) ?_
  intro u hu
  obtain ⟨Ay1, cy1⟩ := u
  have hAy1 : SlF Ay1 (y1.1).length cy1 := hu
  show Tr _ _ (uf _ 8 (.tuple #[(.slice Ay1 (y1.1).length cy1), (.int .i64 y1.2)])) (up _ 3 (ow Ay1 cy1 42 fl_TRect y1.1)) _
  refine Tr.val (wn rfl) rfl (fun _ _ h1 h2 => run_move (h1.ev rfl)) ?_
  refine Tr.val (wn rfl) rfl (fun _ _ h1 h2 => run_extract (h1.ev rfl) rfl) ?_
  refine Tr.val (wn rfl) rfl (fun _ _ h1 h2 => run_extract (h1.ev rfl) rfl) ?_
  refine Tr.val (wn rfl) rfl (fun _ _ h1 h2 => run_assign (h1.ev rfl)) ?_
  refine Tr.val (wn rfl) rfl (fun _ _ h1 h2 => run_assign (h1.ev rfl)) ?_
  refine Tr.nil (Tr.normThen ?_)
  refine Tr.seq ?_
  refine Tr.seq ?_
  refine Tr.region ?_
  refine Tr.val (wn rfl) rfl (fun _ _ h1 h2 => run_move (h1.ev rfl)) ?_
  refine Tr.val (wn rfl) rfl (fun _ _ h1 h2 => run_neq (h1.ev rfl) (h1.ev rfl)) ?_
  refine Tr.nil (Tr.normThen ?_)
  refine Tr.cond rfl H (fun H => ?_) (fun H => ?_)
  · refine Tr.seq ?_
    refine Tr.region ?_
    refine Tr.build (vs := []) (cs := [(.int .i64 0), (.int .i64 0)]) (wn rfl) rfl evs_nil (by kernel_rfl) ?_
    refine Tr.val (wn rfl) rfl (fun _ _ h1 h2 => run_move (h1.ev rfl)) ?_
    refine Tr.store 2 (cs := [(.int .i64 0), (.int .i64 0)]) [(.int .i64 0), (.int .i64 0)] (wn rfl) rfl rfl rfl rfl sz_70 rfl rfl rfl ?_
    refine Tr.val (wn rfl) rfl (fun _ _ h1 h2 => run_assign (h1.ev rfl)) ?_
    refine Tr.nil (Tr.normThen ?_)
    refine Tr.ret (Tr.retThen ?_)
    obtain rfl := Option.some.inj H
    exact Tr.out (m := [(.agg #[(.int .i64 0), (.int .i64 0)]), (.int .i64 y1.2)]) [2] (res_cell rfl rfl ag_70 sz_70 (res_tmp rfl res_nil)) (fun W hW => ⟨rfl, hW.below⟩)
  · refine Tr.skip (Tr.normThen ?_)
    refine Tr.seq ?_
    refine Tr.drawTail 7 (by kernel_rfl) (by kernel_rfl) ?_
    refine Tq.val (wn rfl) rfl (fun _ _ h1 h2 => run_move (h1.ev rfl)) ?_
    obtain ⟨y2, hy2, H⟩ := bnd H
    refine Tq.call0 (r := (.int .i64 y2)) (wn rfl) rfl Try.call88 (evl_cons rfl evl_nil) (fun W hW => F_shape_AreaOf_ok y1.1 Ay1 cy1 (hW.sl (k := 3) rfl) y2 hy2) ?_
    refine Tq.val (wn rfl) rfl (fun _ _ h1 h2 => run_fieldAddr fo_26_0 (h1.ev rfl)) ?_
    refine Tq.val (wn rfl) rfl (fun _ _ h1 h2 => run_load1 ag_3 (h1.ev rfl) (rdb h2 (vs := [(.int .i64 p0.W), (.int .i64 p0.H), (.int .i64 p0.Rail), (.int .i64 p0.Gap), (.slice Ap0_0 (p0.Kinds).length cp0_0), (.slice Ap0_1 (p0.Slots).length cp0_1), (.slice Ap0_2 (p0.Marks).length cp0_2)]) (k := 1) rfl 0) rfl) ?_
    refine Tq.val (wn rfl) rfl (fun _ _ h1 h2 => run_fieldAddr fo_26_1 (h1.ev rfl)) ?_
    refine Tq.val (wn rfl) rfl (fun _ _ h1 h2 => run_load1 ag_3 (h1.ev rfl) (rdb h2 (vs := [(.int .i64 p0.W), (.int .i64 p0.H), (.int .i64 p0.Rail), (.int .i64 p0.Gap), (.slice Ap0_0 (p0.Kinds).length cp0_0), (.slice Ap0_1 (p0.Slots).length cp0_1), (.slice Ap0_2 (p0.Marks).length cp0_2)]) (k := 1) rfl 1) rfl) ?_
    refine Tq.val (wn rfl) rfl (fun _ _ h1 h2 => run_mul (h1.ev rfl) (h1.ev rfl)) ?_
    refine Tq.nil ?_
    obtain ⟨y3, hy3, H⟩ := bnd H
    refine Tr.call0 (r := (.agg #[(.int .i64 y3.Num), (.int .i64 y3.Den)])) (wn rfl) rfl Try.call87 (evl_cons rfl (evl_cons rfl evl_nil)) (fun W hW => F_panel_Lowest_ok N y2 (w64 (p0.W * p0.H)) y3 hy3) ?_
    refine Tr.store 2 (cs := [(.int .i64 y3.Num), (.int .i64 y3.Den)]) [(.int .i64 y3.Num), (.int .i64 y3.Den)] (wn rfl) rfl rfl rfl rfl sz_70 rfl rfl rfl ?_
    refine Tr.val (wn rfl) rfl (fun _ _ h1 h2 => run_assign (h1.ev rfl)) ?_
    refine Tr.nil (Tr.normThen ?_)
    refine Tr.ret ?_
    obtain rfl := Option.some.inj H
    exact Tr.out (m := [(.agg #[(.int .i64 y3.Num), (.int .i64 y3.Den)]), (.int .i64 0)]) [2] (res_cell rfl rfl ag_70 sz_70 (res_tmp rfl res_nil)) (fun W hW => ⟨rfl, hW.below⟩)

theorem F_etchhouselaw9_awake_ok (N : Nat) {w : World}  (r : Bool) (H : F_etchhouselaw9_awake N = some r) : Calls Try.prog 15 [].toArray w fun e W' => e = .returned (.bool r) ∧ Below w.heap.size w W' := by
  unfold F_etchhouselaw9_awake at H
  refine Tr.enter (n := 15) Try.func15 rfl rfl rfl ?_
  refine Tr.seq ?_
  refine Tr.region ?_
  refine Tr.val (wn rfl) rfl (fun _ _ h1 h2 => run_assign (h1.ev rfl)) ?_
  refine Tr.nil (Tr.normThen ?_)
  refine Tr.seq ?_
  refine Tr.region ?_
  refine Tr.build (vs := [(0, (.int .i64 1)), (1, (.int .i64 1))]) (cs := [(.int .i64 1), (.int .i64 1), (.int .i64 0), (.int .i64 0), (.slice none 0 0), (.slice none 0 0), (.slice none 0 0)]) (wn rfl) rfl (evs_cons rfl (evs_cons rfl evs_nil)) (by kernel_rfl) ?_
  obtain ⟨y1, hy1, H⟩ := bnd H
  refine Tr.call0 (r := (.tuple #[(.agg #[(.int .i64 y1.1.Num), (.int .i64 y1.1.Den)]), (.int .i64 y1.2)])) (wn rfl) rfl Try.call41 (evl_cons rfl evl_nil) (fun W hW => F_panel_Use_ok N (TPanel.mk 1 1 0 0 [] [] []) none 0 (Sl.nil _ _ _) none 0 (Sl.nil _ _ _) none 0 (Sl.nil _ _ _) y1 hy1) ?_
  refine Tr.val (wn rfl) rfl (fun _ _ h1 h2 => run_move (h1.ev rfl)) ?_
  refine Tr.val (wn rfl) rfl (fun _ _ h1 h2 => run_extract (h1.ev rfl) rfl) ?_
  refine Tr.val (wn rfl) rfl (fun _ _ h1 h2 => run_extract (h1.ev rfl) rfl) ?_
  refine Tr.alloc 1 (wn rfl) rfl ze_70 fun b1 => ?_
  refine Tr.store 1 (cs := [(.int .i64 y1.1.Num), (.int .i64 y1.1.Den)]) [(.int .i64 y1.1.Num), (.int .i64 y1.1.Den)] (wn rfl) rfl rfl rfl rfl sz_70 rfl rfl rfl ?_
  refine Tr.val (wn rfl) rfl (fun _ _ h1 h2 => run_assign (h1.ev rfl)) ?_
  refine Tr.nil (Tr.normThen ?_)
  refine Tr.seq ?_
  refine Tr.region ?_
  refine Tr.val (wn rfl) rfl (fun _ _ h1 h2 => run_move (h1.ev rfl)) ?_
  refine Tr.val (wn rfl) rfl (fun _ _ h1 h2 => run_eql (h1.ev rfl) (h1.ev rfl)) ?_
  refine Tr.val (wn rfl) rfl (fun _ _ h1 h2 => run_move (h1.ev rfl)) ?_
  refine Tr.mid (σ := Unit) 4 (fun _ => True) (fun _ => [(14, (.bool ((y1.2 == 0) && (eqTShare y1.1 (TShare.mk 0 1)))))]) (fun _ => [(1, bx b1 #[(.int .i64 y1.1.Num), (.int .i64 y1.1.Den)] 70)]) ?_ ?_
  · cases hg1 : (y1.2 == 0)
    · refine Tr.pass rfl rfl rfl rfl rfl (by decide) ?_
      refine Tr.pass rfl rfl rfl rfl rfl (by decide) ?_
      refine Tr.pass rfl rfl rfl rfl rfl (by decide) ?_
      refine Tr.val (wn rfl) rfl (fun _ _ h1 h2 => run_pickF (h1.ev rfl) (h1.ev rfl)) ?_
      exact Tr.nil (Tr.backThen () trivial (.cons rfl .nil) (.cons rfl .nil))
    · refine Tr.val (wg rfl rfl rfl) rfl (fun _ _ h1 h2 => run_loadN (cs := [(.int .i64 y1.1.Num), (.int .i64 y1.1.Den)]) ag_70 sz_70 (h1.ev rfl) (CellsAt.take (rdb h2 (vs := [(.int .i64 y1.1.Num), (.int .i64 y1.1.Den)]) (k := 1) rfl 0) 2) rfl) ?_
      refine Tr.build (vs := [(1, (.int .i64 1))]) (cs := [(.int .i64 0), (.int .i64 1)]) (wg rfl rfl rfl) rfl (evs_cons rfl evs_nil) (by kernel_rfl) ?_
      refine Tr.val (wg rfl rfl rfl) rfl (fun _ _ h1 h2 => run_eql_70 y1.1 (TShare.mk 0 1) (h1.ev rfl) (h1.ev rfl)) ?_
      refine Tr.val (wn rfl) rfl (fun _ _ h1 h2 => run_pickT (h1.ev rfl) (h1.ev rfl)) ?_
      exact Tr.nil (Tr.backThen () trivial (.cons rfl .nil) (.cons rfl .nil))
  · intro _ _
    show Tr _ _ (LF [(14, (.bool ((y1.2 == 0) && (eqTShare y1.1 (TShare.mk 0 1)))))]) (LE [(1, bx b1 #[(.int .i64 y1.1.Num), (.int .i64 y1.1.Den)] 70)]) _
    refine Tr.val (wn rfl) rfl (fun _ _ h1 h2 => run_assign (h1.ev rfl)) ?_
    refine Tr.nil (Tr.normThen ?_)
    refine Tr.ret ?_
    obtain rfl := Option.some.inj H
    exact Tr.out (m := [(.bool ((y1.2 == 0) && (eqTShare y1.1 (TShare.mk 0 1))))]) [] (res_tmp rfl res_nil) (fun W hW => ⟨rfl, hW.below⟩)

theorem F_etchhouselaw9_PanelPointsMatchSpec_ok (N : Nat) {w : World} (p0 : TPanel) (Ap0_0 : Option Addr) (cp0_0 : Nat) (hp0_0 : Sl (lo w.heap.size) w fl_TBoardKind Ap0_0 cp0_0 p0.Kinds) (Ap0_1 : Option Addr) (cp0_1 : Nat) (hp0_1 : Sl (lo w.heap.size) w fl_TSlot Ap0_1 cp0_1 p0.Slots) (Ap0_2 : Option Addr) (cp0_2 : Nat) (hp0_2 : Sl (lo w.heap.size) w fl_TPoint Ap0_2 cp0_2 p0.Marks) (p1 : Int) (p2 : TPoint) (r : Bool) (H : F_etchhouselaw9_PanelPointsMatchSpec N p0 p1 p2 = some r) : Calls Try.prog 6 [(.agg #[(.int .i64 p0.W), (.int .i64 p0.H), (.int .i64 p0.Rail), (.int .i64 p0.Gap), (.slice Ap0_0 (p0.Kinds).length cp0_0), (.slice Ap0_1 (p0.Slots).length cp0_1), (.slice Ap0_2 (p0.Marks).length cp0_2)]), (.int .i64 p1), (.agg #[(.int .i64 p2.X), (.int .i64 p2.Y)])].toArray w fun e W' => e = .returned (.bool r) ∧ Below w.heap.size w W' := by
  unfold F_etchhouselaw9_PanelPointsMatchSpec at H
  refine Tr.enter (n := 100) Try.func6 rfl rfl rfl ?_
  refine Tr.seq ?_
  refine Tr.region ?_
  refine Tr.box 1 (cs := [(.int .i64 p0.W), (.int .i64 p0.H), (.int .i64 p0.Rail), (.int .i64 p0.Gap), (.slice Ap0_0 (p0.Kinds).length cp0_0), (.slice Ap0_1 (p0.Slots).length cp0_1), (.slice Ap0_2 (p0.Marks).length cp0_2)]) (wn rfl) rfl rfl rfl fun b1 => ?_
  refine Tr.box 2 (cs := [(.int .i64 p2.X), (.int .i64 p2.Y)]) (wn rfl) rfl rfl rfl fun b2 => ?_
  refine Tr.val (wn rfl) rfl (fun _ _ h1 h2 => run_assign (h1.ev rfl)) ?_
  refine Tr.nil (Tr.normThen ?_)
  refine Tr.seq ?_
  refine Tr.region ?_
  refine Tr.val (wn rfl) rfl (fun _ _ h1 h2 => run_loadN (cs := [(.int .i64 p0.W), (.int .i64 p0.H), (.int .i64 p0.Rail), (.int .i64 p0.Gap), (.slice Ap0_0 (p0.Kinds).length cp0_0), (.slice Ap0_1 (p0.Slots).length cp0_1), (.slice Ap0_2 (p0.Marks).length cp0_2)]) ag_26 sz_26 (h1.ev rfl) (CellsAt.take (rdb h2 (vs := [(.int .i64 p0.W), (.int .i64 p0.H), (.int .i64 p0.Rail), (.int .i64 p0.Gap), (.slice Ap0_0 (p0.Kinds).length cp0_0), (.slice Ap0_1 (p0.Slots).length cp0_1), (.slice Ap0_2 (p0.Marks).length cp0_2)]) (k := 1) rfl 0) 7) rfl) ?_
  refine Tr.val (wn rfl) rfl (fun _ _ h1 h2 => run_move (h1.ev rfl)) ?_
  obtain ⟨y1, hy1, H⟩ := bnd H
  refine Tr.call0 (r := (.tuple #[(.agg #[(.bool y1.1.Flip), (.int .i64 y1.1.Quarters), (.int .i64 y1.1.At.X), (.int .i64 y1.1.At.Y)]), (.int .i64 y1.2)])) (wn rfl) rfl Try.call20 (evl_cons rfl (evl_cons rfl evl_nil)) (fun W hW => F_panel_SlotTurn_ok N p0 Ap0_0 cp0_0 (Sl.up hp0_0 hW) Ap0_1 cp0_1 (Sl.up hp0_1 hW) Ap0_2 cp0_2 (Sl.up hp0_2 hW) p1 y1 hy1) ?_
  refine Tr.val (wn rfl) rfl (fun _ _ h1 h2 => run_move (h1.ev rfl)) ?_
  refine Tr.val (wn rfl) rfl (fun _ _ h1 h2 => run_extract (h1.ev rfl) rfl) ?_
  refine Tr.val (wn rfl) rfl (fun _ _ h1 h2 => run_extract (h1.ev rfl) rfl) ?_
  refine Tr.alloc 3 (wn rfl) rfl ze_46 fun b3 => ?_
  refine Tr.store 3 (cs := [(.bool y1.1.Flip), (.int .i64 y1.1.Quarters), (.int .i64 y1.1.At.X), (.int .i64 y1.1.At.Y)]) [(.bool y1.1.Flip), (.int .i64 y1.1.Quarters), (.int .i64 y1.1.At.X), (.int .i64 y1.1.At.Y)] (wn rfl) rfl rfl rfl rfl sz_46 rfl rfl rfl ?_
  refine Tr.val (wn rfl) rfl (fun _ _ h1 h2 => run_assign (h1.ev rfl)) ?_
  refine Tr.nil (Tr.normThen ?_)
  refine Tr.seq ?_
  refine Tr.region ?_
  refine Tr.val (wn rfl) rfl (fun _ _ h1 h2 => run_loadN (cs := [(.int .i64 p0.W), (.int .i64 p0.H), (.int .i64 p0.Rail), (.int .i64 p0.Gap), (.slice Ap0_0 (p0.Kinds).length cp0_0), (.slice Ap0_1 (p0.Slots).length cp0_1), (.slice Ap0_2 (p0.Marks).length cp0_2)]) ag_26 sz_26 (h1.ev rfl) (CellsAt.take (rdb h2 (vs := [(.int .i64 p0.W), (.int .i64 p0.H), (.int .i64 p0.Rail), (.int .i64 p0.Gap), (.slice Ap0_0 (p0.Kinds).length cp0_0), (.slice Ap0_1 (p0.Slots).length cp0_1), (.slice Ap0_2 (p0.Marks).length cp0_2)]) (k := 1) rfl 0) 7) rfl) ?_
  refine Tr.val (wn rfl) rfl (fun _ _ h1 h2 => run_move (h1.ev rfl)) ?_
  obtain ⟨y2, hy2, H⟩ := bnd H
  refine Tr.call0 (r := (.tuple #[(.agg #[(.bool y2.1.Flip), (.int .i64 y2.1.Quarters), (.int .i64 y2.1.At.X), (.int .i64 y2.1.At.Y)]), (.int .i64 y2.2)])) (wn rfl) rfl Try.call21 (evl_cons rfl (evl_cons rfl evl_nil)) (fun W hW => F_etchhouseref9_SlotTurn_ok N p0 Ap0_0 cp0_0 (Sl.up hp0_0 hW) Ap0_1 cp0_1 (Sl.up hp0_1 hW) Ap0_2 cp0_2 (Sl.up hp0_2 hW) p1 y2 hy2) ?_
  refine Tr.val (wn rfl) rfl (fun _ _ h1 h2 => run_move (h1.ev rfl)) ?_
  refine Tr.val (wn rfl) rfl (fun _ _ h1 h2 => run_extract (h1.ev rfl) rfl) ?_
  refine Tr.val (wn rfl) rfl (fun _ _ h1 h2 => run_extract (h1.ev rfl) rfl) ?_
  refine Tr.alloc 4 (wn rfl) rfl ze_46 fun b4 => ?_
  refine Tr.store 4 (cs := [(.bool y2.1.Flip), (.int .i64 y2.1.Quarters), (.int .i64 y2.1.At.X), (.int .i64 y2.1.At.Y)]) [(.bool y2.1.Flip), (.int .i64 y2.1.Quarters), (.int .i64 y2.1.At.X), (.int .i64 y2.1.At.Y)] (wn rfl) rfl rfl rfl rfl sz_46 rfl rfl rfl ?_
  refine Tr.val (wn rfl) rfl (fun _ _ h1 h2 => run_assign (h1.ev rfl)) ?_
  refine Tr.nil (Tr.normThen ?_)
  refine Tr.seq ?_
  refine Tr.region ?_
  refine Tr.val (wn rfl) rfl (fun _ _ h1 h2 => run_loadN (cs := [(.int .i64 p0.W), (.int .i64 p0.H), (.int .i64 p0.Rail), (.int .i64 p0.Gap), (.slice Ap0_0 (p0.Kinds).length cp0_0), (.slice Ap0_1 (p0.Slots).length cp0_1), (.slice Ap0_2 (p0.Marks).length cp0_2)]) ag_26 sz_26 (h1.ev rfl) (CellsAt.take (rdb h2 (vs := [(.int .i64 p0.W), (.int .i64 p0.H), (.int .i64 p0.Rail), (.int .i64 p0.Gap), (.slice Ap0_0 (p0.Kinds).length cp0_0), (.slice Ap0_1 (p0.Slots).length cp0_1), (.slice Ap0_2 (p0.Marks).length cp0_2)]) (k := 1) rfl 0) 7) rfl) ?_
  refine Tr.val (wn rfl) rfl (fun _ _ h1 h2 => run_move (h1.ev rfl)) ?_
  refine Tr.val (wn rfl) rfl (fun _ _ h1 h2 => run_loadN (cs := [(.int .i64 p2.X), (.int .i64 p2.Y)]) ag_32 sz_32 (h1.ev rfl) (CellsAt.take (rdb h2 (vs := [(.int .i64 p2.X), (.int .i64 p2.Y)]) (k := 2) rfl 0) 2) rfl) ?_
  obtain ⟨y3, hy3, H⟩ := bnd H
  refine Tr.call0 (r := (.tuple #[(.agg #[(.int .i64 y3.1.X), (.int .i64 y3.1.Y)]), (.int .i64 y3.2)])) (wn rfl) rfl Try.call22 (evl_cons rfl (evl_cons rfl (evl_cons rfl evl_nil))) (fun W hW => F_panel_ToPanel_ok N p0 Ap0_0 cp0_0 (Sl.up hp0_0 hW) Ap0_1 cp0_1 (Sl.up hp0_1 hW) Ap0_2 cp0_2 (Sl.up hp0_2 hW) p1 p2 y3 hy3) ?_
  refine Tr.val (wn rfl) rfl (fun _ _ h1 h2 => run_move (h1.ev rfl)) ?_
  refine Tr.val (wn rfl) rfl (fun _ _ h1 h2 => run_extract (h1.ev rfl) rfl) ?_
  refine Tr.val (wn rfl) rfl (fun _ _ h1 h2 => run_extract (h1.ev rfl) rfl) ?_
  refine Tr.alloc 5 (wn rfl) rfl ze_32 fun b5 => ?_
  refine Tr.store 5 (cs := [(.int .i64 y3.1.X), (.int .i64 y3.1.Y)]) [(.int .i64 y3.1.X), (.int .i64 y3.1.Y)] (wn rfl) rfl rfl rfl rfl sz_32 rfl rfl rfl ?_
  refine Tr.val (wn rfl) rfl (fun _ _ h1 h2 => run_assign (h1.ev rfl)) ?_
  refine Tr.nil (Tr.normThen ?_)
  refine Tr.seq ?_
  refine Tr.region ?_
  refine Tr.val (wn rfl) rfl (fun _ _ h1 h2 => run_loadN (cs := [(.int .i64 p0.W), (.int .i64 p0.H), (.int .i64 p0.Rail), (.int .i64 p0.Gap), (.slice Ap0_0 (p0.Kinds).length cp0_0), (.slice Ap0_1 (p0.Slots).length cp0_1), (.slice Ap0_2 (p0.Marks).length cp0_2)]) ag_26 sz_26 (h1.ev rfl) (CellsAt.take (rdb h2 (vs := [(.int .i64 p0.W), (.int .i64 p0.H), (.int .i64 p0.Rail), (.int .i64 p0.Gap), (.slice Ap0_0 (p0.Kinds).length cp0_0), (.slice Ap0_1 (p0.Slots).length cp0_1), (.slice Ap0_2 (p0.Marks).length cp0_2)]) (k := 1) rfl 0) 7) rfl) ?_
  refine Tr.val (wn rfl) rfl (fun _ _ h1 h2 => run_move (h1.ev rfl)) ?_
  refine Tr.val (wn rfl) rfl (fun _ _ h1 h2 => run_loadN (cs := [(.int .i64 p2.X), (.int .i64 p2.Y)]) ag_32 sz_32 (h1.ev rfl) (CellsAt.take (rdb h2 (vs := [(.int .i64 p2.X), (.int .i64 p2.Y)]) (k := 2) rfl 0) 2) rfl) ?_
  obtain ⟨y4, hy4, H⟩ := bnd H
  refine Tr.call0 (r := (.tuple #[(.agg #[(.int .i64 y4.1.X), (.int .i64 y4.1.Y)]), (.int .i64 y4.2)])) (wn rfl) rfl Try.call23 (evl_cons rfl (evl_cons rfl (evl_cons rfl evl_nil))) (fun W hW => F_etchhouseref9_ToPanel_ok N p0 Ap0_0 cp0_0 (Sl.up hp0_0 hW) Ap0_1 cp0_1 (Sl.up hp0_1 hW) Ap0_2 cp0_2 (Sl.up hp0_2 hW) p1 p2 y4 hy4) ?_
  refine Tr.val (wn rfl) rfl (fun _ _ h1 h2 => run_move (h1.ev rfl)) ?_
  refine Tr.val (wn rfl) rfl (fun _ _ h1 h2 => run_extract (h1.ev rfl) rfl) ?_
  refine Tr.val (wn rfl) rfl (fun _ _ h1 h2 => run_extract (h1.ev rfl) rfl) ?_
  refine Tr.alloc 6 (wn rfl) rfl ze_32 fun b6 => ?_
  refine Tr.store 6 (cs := [(.int .i64 y4.1.X), (.int .i64 y4.1.Y)]) [(.int .i64 y4.1.X), (.int .i64 y4.1.Y)] (wn rfl) rfl rfl rfl rfl sz_32 rfl rfl rfl ?_
  refine Tr.val (wn rfl) rfl (fun _ _ h1 h2 => run_assign (h1.ev rfl)) ?_
  refine Tr.nil (Tr.normThen ?_)
  refine Tr.seq ?_
  refine Tr.seq ?_
  refine Tr.region ?_
  refine Tr.val (wn rfl) rfl (fun _ _ h1 h2 => run_loadN (cs := [(.bool y1.1.Flip), (.int .i64 y1.1.Quarters), (.int .i64 y1.1.At.X), (.int .i64 y1.1.At.Y)]) ag_46 sz_46 (h1.ev rfl) (CellsAt.take (rdb h2 (vs := [(.bool y1.1.Flip), (.int .i64 y1.1.Quarters), (.int .i64 y1.1.At.X), (.int .i64 y1.1.At.Y)]) (k := 3) rfl 0) 4) rfl) ?_
  refine Tr.val (wn rfl) rfl (fun _ _ h1 h2 => run_loadN (cs := [(.bool y2.1.Flip), (.int .i64 y2.1.Quarters), (.int .i64 y2.1.At.X), (.int .i64 y2.1.At.Y)]) ag_46 sz_46 (h1.ev rfl) (CellsAt.take (rdb h2 (vs := [(.bool y2.1.Flip), (.int .i64 y2.1.Quarters), (.int .i64 y2.1.At.X), (.int .i64 y2.1.At.Y)]) (k := 4) rfl 0) 4) rfl) ?_
  refine Tr.val (wn rfl) rfl (fun _ _ h1 h2 => run_neq_46 y1.1 y2.1 (h1.ev rfl) (h1.ev rfl)) ?_
  refine Tr.val (wn rfl) rfl (fun _ _ h1 h2 => run_move (h1.ev rfl)) ?_
  refine Tr.mid (σ := Unit) 4 (fun _ => True) (fun _ => [(3, (.pointer (some ⟨b1, 0, none⟩))), (5, (.pointer (some ⟨b2, 0, none⟩))), (11, (.pointer (some ⟨b5, 0, none⟩))), (12, (.int .i64 y3.2)), (13, (.pointer (some ⟨b6, 0, none⟩))), (14, (.int .i64 y4.2)), (52, (.bool ((!(eqTTurn y1.1 y2.1)) || (y1.2 != y2.2))))]) (fun _ => [(1, bx b1 #[(.int .i64 p0.W), (.int .i64 p0.H), (.int .i64 p0.Rail), (.int .i64 p0.Gap), (.slice Ap0_0 (p0.Kinds).length cp0_0), (.slice Ap0_1 (p0.Slots).length cp0_1), (.slice Ap0_2 (p0.Marks).length cp0_2)] 26), (2, bx b2 #[(.int .i64 p2.X), (.int .i64 p2.Y)] 32), (3, bx b3 #[(.bool y1.1.Flip), (.int .i64 y1.1.Quarters), (.int .i64 y1.1.At.X), (.int .i64 y1.1.At.Y)] 46), (4, bx b4 #[(.bool y2.1.Flip), (.int .i64 y2.1.Quarters), (.int .i64 y2.1.At.X), (.int .i64 y2.1.At.Y)] 46), (5, bx b5 #[(.int .i64 y3.1.X), (.int .i64 y3.1.Y)] 32), (6, bx b6 #[(.int .i64 y4.1.X), (.int .i64 y4.1.Y)] 32)]) ?_ ?_
  · cases hg9 : (!(eqTTurn y1.1 y2.1))
    · refine Tr.val (wg rfl rfl rfl) rfl (fun _ _ h1 h2 => run_move (h1.ev rfl)) ?_
      refine Tr.val (wg rfl rfl rfl) rfl (fun _ _ h1 h2 => run_move (h1.ev rfl)) ?_
      refine Tr.val (wg rfl rfl rfl) rfl (fun _ _ h1 h2 => run_neq (h1.ev rfl) (h1.ev rfl)) ?_
      refine Tr.val (wn rfl) rfl (fun _ _ h1 h2 => run_pickF (h1.ev rfl) (h1.ev rfl)) ?_
      exact Tr.nil (Tr.backThen () trivial (.cons rfl (.cons rfl (.cons rfl (.cons rfl (.cons rfl (.cons rfl (.cons rfl .nil))))))) (.cons rfl (.cons rfl (.cons rfl (.cons rfl (.cons rfl (.cons rfl .nil)))))))
    · refine Tr.pass rfl rfl rfl rfl rfl (by decide) ?_
      refine Tr.pass rfl rfl rfl rfl rfl (by decide) ?_
      refine Tr.pass rfl rfl rfl rfl rfl (by decide) ?_
      refine Tr.val (wn rfl) rfl (fun _ _ h1 h2 => run_pickT (h1.ev rfl) (h1.ev rfl)) ?_
      exact Tr.nil (Tr.backThen () trivial (.cons rfl (.cons rfl (.cons rfl (.cons rfl (.cons rfl (.cons rfl (.cons rfl .nil))))))) (.cons rfl (.cons rfl (.cons rfl (.cons rfl (.cons rfl (.cons rfl .nil)))))))
  · intro _ _
    show Tr _ _ (LF [(3, (.pointer (some ⟨b1, 0, none⟩))), (5, (.pointer (some ⟨b2, 0, none⟩))), (11, (.pointer (some ⟨b5, 0, none⟩))), (12, (.int .i64 y3.2)), (13, (.pointer (some ⟨b6, 0, none⟩))), (14, (.int .i64 y4.2)), (52, (.bool ((!(eqTTurn y1.1 y2.1)) || (y1.2 != y2.2))))]) (LE [(1, bx b1 #[(.int .i64 p0.W), (.int .i64 p0.H), (.int .i64 p0.Rail), (.int .i64 p0.Gap), (.slice Ap0_0 (p0.Kinds).length cp0_0), (.slice Ap0_1 (p0.Slots).length cp0_1), (.slice Ap0_2 (p0.Marks).length cp0_2)] 26), (2, bx b2 #[(.int .i64 p2.X), (.int .i64 p2.Y)] 32), (3, bx b3 #[(.bool y1.1.Flip), (.int .i64 y1.1.Quarters), (.int .i64 y1.1.At.X), (.int .i64 y1.1.At.Y)] 46), (4, bx b4 #[(.bool y2.1.Flip), (.int .i64 y2.1.Quarters), (.int .i64 y2.1.At.X), (.int .i64 y2.1.At.Y)] 46), (5, bx b5 #[(.int .i64 y3.1.X), (.int .i64 y3.1.Y)] 32), (6, bx b6 #[(.int .i64 y4.1.X), (.int .i64 y4.1.Y)] 32)]) _
    refine Tr.val (wn rfl) rfl (fun _ _ h1 h2 => run_move (h1.ev rfl)) ?_
    refine Tr.mid (σ := Unit) 4 (fun _ => True) (fun _ => [(3, (.pointer (some ⟨b1, 0, none⟩))), (5, (.pointer (some ⟨b2, 0, none⟩))), (11, (.pointer (some ⟨b5, 0, none⟩))), (12, (.int .i64 y3.2)), (13, (.pointer (some ⟨b6, 0, none⟩))), (14, (.int .i64 y4.2)), (57, (.bool (((!(eqTTurn y1.1 y2.1)) || (y1.2 != y2.2)) || (!(eqTPoint y3.1 y4.1)))))]) (fun _ => [(1, bx b1 #[(.int .i64 p0.W), (.int .i64 p0.H), (.int .i64 p0.Rail), (.int .i64 p0.Gap), (.slice Ap0_0 (p0.Kinds).length cp0_0), (.slice Ap0_1 (p0.Slots).length cp0_1), (.slice Ap0_2 (p0.Marks).length cp0_2)] 26), (2, bx b2 #[(.int .i64 p2.X), (.int .i64 p2.Y)] 32), (3, bx b3 #[(.bool y1.1.Flip), (.int .i64 y1.1.Quarters), (.int .i64 y1.1.At.X), (.int .i64 y1.1.At.Y)] 46), (4, bx b4 #[(.bool y2.1.Flip), (.int .i64 y2.1.Quarters), (.int .i64 y2.1.At.X), (.int .i64 y2.1.At.Y)] 46), (5, bx b5 #[(.int .i64 y3.1.X), (.int .i64 y3.1.Y)] 32), (6, bx b6 #[(.int .i64 y4.1.X), (.int .i64 y4.1.Y)] 32)]) ?_ ?_
    · cases hg9 : ((!(eqTTurn y1.1 y2.1)) || (y1.2 != y2.2))
      · refine Tr.val (wg rfl rfl rfl) rfl (fun _ _ h1 h2 => run_loadN (cs := [(.int .i64 y3.1.X), (.int .i64 y3.1.Y)]) ag_32 sz_32 (h1.ev rfl) (CellsAt.take (rdb h2 (vs := [(.int .i64 y3.1.X), (.int .i64 y3.1.Y)]) (k := 5) rfl 0) 2) rfl) ?_
        refine Tr.val (wg rfl rfl rfl) rfl (fun _ _ h1 h2 => run_loadN (cs := [(.int .i64 y4.1.X), (.int .i64 y4.1.Y)]) ag_32 sz_32 (h1.ev rfl) (CellsAt.take (rdb h2 (vs := [(.int .i64 y4.1.X), (.int .i64 y4.1.Y)]) (k := 6) rfl 0) 2) rfl) ?_
        refine Tr.val (wg rfl rfl rfl) rfl (fun _ _ h1 h2 => run_neq_32 y3.1 y4.1 (h1.ev rfl) (h1.ev rfl)) ?_
        refine Tr.val (wn rfl) rfl (fun _ _ h1 h2 => run_pickF (h1.ev rfl) (h1.ev rfl)) ?_
        exact Tr.nil (Tr.backThen () trivial (.cons rfl (.cons rfl (.cons rfl (.cons rfl (.cons rfl (.cons rfl (.cons rfl .nil))))))) (.cons rfl (.cons rfl (.cons rfl (.cons rfl (.cons rfl (.cons rfl .nil)))))))
      · refine Tr.pass rfl rfl rfl rfl rfl (by decide) ?_
        refine Tr.pass rfl rfl rfl rfl rfl (by decide) ?_
        refine Tr.pass rfl rfl rfl rfl rfl (by decide) ?_
        refine Tr.val (wn rfl) rfl (fun _ _ h1 h2 => run_pickT (h1.ev rfl) (h1.ev rfl)) ?_
        exact Tr.nil (Tr.backThen () trivial (.cons rfl (.cons rfl (.cons rfl (.cons rfl (.cons rfl (.cons rfl (.cons rfl .nil))))))) (.cons rfl (.cons rfl (.cons rfl (.cons rfl (.cons rfl (.cons rfl .nil)))))))
    · intro _ _
      show Tr _ _ (LF [(3, (.pointer (some ⟨b1, 0, none⟩))), (5, (.pointer (some ⟨b2, 0, none⟩))), (11, (.pointer (some ⟨b5, 0, none⟩))), (12, (.int .i64 y3.2)), (13, (.pointer (some ⟨b6, 0, none⟩))), (14, (.int .i64 y4.2)), (57, (.bool (((!(eqTTurn y1.1 y2.1)) || (y1.2 != y2.2)) || (!(eqTPoint y3.1 y4.1)))))]) (LE [(1, bx b1 #[(.int .i64 p0.W), (.int .i64 p0.H), (.int .i64 p0.Rail), (.int .i64 p0.Gap), (.slice Ap0_0 (p0.Kinds).length cp0_0), (.slice Ap0_1 (p0.Slots).length cp0_1), (.slice Ap0_2 (p0.Marks).length cp0_2)] 26), (2, bx b2 #[(.int .i64 p2.X), (.int .i64 p2.Y)] 32), (3, bx b3 #[(.bool y1.1.Flip), (.int .i64 y1.1.Quarters), (.int .i64 y1.1.At.X), (.int .i64 y1.1.At.Y)] 46), (4, bx b4 #[(.bool y2.1.Flip), (.int .i64 y2.1.Quarters), (.int .i64 y2.1.At.X), (.int .i64 y2.1.At.Y)] 46), (5, bx b5 #[(.int .i64 y3.1.X), (.int .i64 y3.1.Y)] 32), (6, bx b6 #[(.int .i64 y4.1.X), (.int .i64 y4.1.Y)] 32)]) _
      refine Tr.val (wn rfl) rfl (fun _ _ h1 h2 => run_move (h1.ev rfl)) ?_
      refine Tr.mid (σ := Unit) 4 (fun _ => True) (fun _ => [(3, (.pointer (some ⟨b1, 0, none⟩))), (5, (.pointer (some ⟨b2, 0, none⟩))), (11, (.pointer (some ⟨b5, 0, none⟩))), (13, (.pointer (some ⟨b6, 0, none⟩))), (62, (.bool ((((!(eqTTurn y1.1 y2.1)) || (y1.2 != y2.2)) || (!(eqTPoint y3.1 y4.1))) || (y3.2 != y4.2))))]) (fun _ => [(1, bx b1 #[(.int .i64 p0.W), (.int .i64 p0.H), (.int .i64 p0.Rail), (.int .i64 p0.Gap), (.slice Ap0_0 (p0.Kinds).length cp0_0), (.slice Ap0_1 (p0.Slots).length cp0_1), (.slice Ap0_2 (p0.Marks).length cp0_2)] 26), (2, bx b2 #[(.int .i64 p2.X), (.int .i64 p2.Y)] 32), (3, bx b3 #[(.bool y1.1.Flip), (.int .i64 y1.1.Quarters), (.int .i64 y1.1.At.X), (.int .i64 y1.1.At.Y)] 46), (4, bx b4 #[(.bool y2.1.Flip), (.int .i64 y2.1.Quarters), (.int .i64 y2.1.At.X), (.int .i64 y2.1.At.Y)] 46), (5, bx b5 #[(.int .i64 y3.1.X), (.int .i64 y3.1.Y)] 32), (6, bx b6 #[(.int .i64 y4.1.X), (.int .i64 y4.1.Y)] 32)]) ?_ ?_
      · cases hg9 : (((!(eqTTurn y1.1 y2.1)) || (y1.2 != y2.2)) || (!(eqTPoint y3.1 y4.1)))
        · refine Tr.val (wg rfl rfl rfl) rfl (fun _ _ h1 h2 => run_move (h1.ev rfl)) ?_
          refine Tr.val (wg rfl rfl rfl) rfl (fun _ _ h1 h2 => run_move (h1.ev rfl)) ?_
          refine Tr.val (wg rfl rfl rfl) rfl (fun _ _ h1 h2 => run_neq (h1.ev rfl) (h1.ev rfl)) ?_
          refine Tr.val (wn rfl) rfl (fun _ _ h1 h2 => run_pickF (h1.ev rfl) (h1.ev rfl)) ?_
          exact Tr.nil (Tr.backThen () trivial (.cons rfl (.cons rfl (.cons rfl (.cons rfl (.cons rfl .nil))))) (.cons rfl (.cons rfl (.cons rfl (.cons rfl (.cons rfl (.cons rfl .nil)))))))
        · refine Tr.pass rfl rfl rfl rfl rfl (by decide) ?_
          refine Tr.pass rfl rfl rfl rfl rfl (by decide) ?_
          refine Tr.pass rfl rfl rfl rfl rfl (by decide) ?_
          refine Tr.val (wn rfl) rfl (fun _ _ h1 h2 => run_pickT (h1.ev rfl) (h1.ev rfl)) ?_
          exact Tr.nil (Tr.backThen () trivial (.cons rfl (.cons rfl (.cons rfl (.cons rfl (.cons rfl .nil))))) (.cons rfl (.cons rfl (.cons rfl (.cons rfl (.cons rfl (.cons rfl .nil)))))))
      · intro _ _
        show Tr _ _ (LF [(3, (.pointer (some ⟨b1, 0, none⟩))), (5, (.pointer (some ⟨b2, 0, none⟩))), (11, (.pointer (some ⟨b5, 0, none⟩))), (13, (.pointer (some ⟨b6, 0, none⟩))), (62, (.bool ((((!(eqTTurn y1.1 y2.1)) || (y1.2 != y2.2)) || (!(eqTPoint y3.1 y4.1))) || (y3.2 != y4.2))))]) (LE [(1, bx b1 #[(.int .i64 p0.W), (.int .i64 p0.H), (.int .i64 p0.Rail), (.int .i64 p0.Gap), (.slice Ap0_0 (p0.Kinds).length cp0_0), (.slice Ap0_1 (p0.Slots).length cp0_1), (.slice Ap0_2 (p0.Marks).length cp0_2)] 26), (2, bx b2 #[(.int .i64 p2.X), (.int .i64 p2.Y)] 32), (3, bx b3 #[(.bool y1.1.Flip), (.int .i64 y1.1.Quarters), (.int .i64 y1.1.At.X), (.int .i64 y1.1.At.Y)] 46), (4, bx b4 #[(.bool y2.1.Flip), (.int .i64 y2.1.Quarters), (.int .i64 y2.1.At.X), (.int .i64 y2.1.At.Y)] 46), (5, bx b5 #[(.int .i64 y3.1.X), (.int .i64 y3.1.Y)] 32), (6, bx b6 #[(.int .i64 y4.1.X), (.int .i64 y4.1.Y)] 32)]) _
        refine Tr.nil (Tr.normThen ?_)
        refine Tr.cond rfl H (fun H => ?_) (fun H => ?_)
        · refine Tr.seq ?_
          refine Tr.region ?_
          refine Tr.val (wn rfl) rfl (fun _ _ h1 h2 => run_assign (h1.ev rfl)) ?_
          refine Tr.nil (Tr.normThen ?_)
          refine Tr.ret (Tr.retThen ?_)
          obtain rfl := Option.some.inj H
          exact Tr.out (m := [(.bool false)]) [] (res_tmp rfl res_nil) (fun W hW => ⟨rfl, hW.below⟩)
        · refine Tr.skip (Tr.normThen ?_)
          refine Tr.seq ?_
          refine Tr.region ?_
          refine Tr.val (wn rfl) rfl (fun _ _ h1 h2 => run_loadN (cs := [(.int .i64 p0.W), (.int .i64 p0.H), (.int .i64 p0.Rail), (.int .i64 p0.Gap), (.slice Ap0_0 (p0.Kinds).length cp0_0), (.slice Ap0_1 (p0.Slots).length cp0_1), (.slice Ap0_2 (p0.Marks).length cp0_2)]) ag_26 sz_26 (h1.ev rfl) (CellsAt.take (rdb h2 (vs := [(.int .i64 p0.W), (.int .i64 p0.H), (.int .i64 p0.Rail), (.int .i64 p0.Gap), (.slice Ap0_0 (p0.Kinds).length cp0_0), (.slice Ap0_1 (p0.Slots).length cp0_1), (.slice Ap0_2 (p0.Marks).length cp0_2)]) (k := 1) rfl 0) 7) rfl) ?_
          refine Tr.val (wn rfl) rfl (fun _ _ h1 h2 => run_loadN (cs := [(.int .i64 p2.X), (.int .i64 p2.Y)]) ag_32 sz_32 (h1.ev rfl) (CellsAt.take (rdb h2 (vs := [(.int .i64 p2.X), (.int .i64 p2.Y)]) (k := 2) rfl 0) 2) rfl) ?_
          obtain ⟨y5, hy5, H⟩ := bnd H
          refine Tr.call0 (r := (.tuple #[(.int .i64 y5.1), (.agg #[(.int .i64 y5.2.1.X), (.int .i64 y5.2.1.Y)]), (.bool y5.2.2.1), (.int .i64 y5.2.2.2)])) (wn rfl) rfl Try.call24 (evl_cons rfl (evl_cons rfl evl_nil)) (fun W hW => F_panel_ToBoard_ok N p0 Ap0_0 cp0_0 (Sl.up hp0_0 hW) Ap0_1 cp0_1 (Sl.up hp0_1 hW) Ap0_2 cp0_2 (Sl.up hp0_2 hW) p2 y5 hy5) ?_
          refine Tr.val (wn rfl) rfl (fun _ _ h1 h2 => run_move (h1.ev rfl)) ?_
          refine Tr.val (wn rfl) rfl (fun _ _ h1 h2 => run_extract (h1.ev rfl) rfl) ?_
          refine Tr.val (wn rfl) rfl (fun _ _ h1 h2 => run_extract (h1.ev rfl) rfl) ?_
          refine Tr.val (wn rfl) rfl (fun _ _ h1 h2 => run_extract (h1.ev rfl) rfl) ?_
          refine Tr.val (wn rfl) rfl (fun _ _ h1 h2 => run_extract (h1.ev rfl) rfl) ?_
          refine Tr.val (wn rfl) rfl (fun _ _ h1 h2 => run_assign (h1.ev rfl)) ?_
          refine Tr.store 5 (cs := [(.int .i64 y5.2.1.X), (.int .i64 y5.2.1.Y)]) [(.int .i64 y5.2.1.X), (.int .i64 y5.2.1.Y)] (wn rfl) rfl rfl rfl rfl sz_32 rfl rfl rfl ?_
          refine Tr.val (wn rfl) rfl (fun _ _ h1 h2 => run_assign (h1.ev rfl)) ?_
          refine Tr.val (wn rfl) rfl (fun _ _ h1 h2 => run_assign (h1.ev rfl)) ?_
          refine Tr.nil (Tr.normThen ?_)
          refine Tr.seq ?_
          refine Tr.region ?_
          refine Tr.val (wn rfl) rfl (fun _ _ h1 h2 => run_loadN (cs := [(.int .i64 p0.W), (.int .i64 p0.H), (.int .i64 p0.Rail), (.int .i64 p0.Gap), (.slice Ap0_0 (p0.Kinds).length cp0_0), (.slice Ap0_1 (p0.Slots).length cp0_1), (.slice Ap0_2 (p0.Marks).length cp0_2)]) ag_26 sz_26 (h1.ev rfl) (CellsAt.take (rdb h2 (vs := [(.int .i64 p0.W), (.int .i64 p0.H), (.int .i64 p0.Rail), (.int .i64 p0.Gap), (.slice Ap0_0 (p0.Kinds).length cp0_0), (.slice Ap0_1 (p0.Slots).length cp0_1), (.slice Ap0_2 (p0.Marks).length cp0_2)]) (k := 1) rfl 0) 7) rfl) ?_
          refine Tr.val (wn rfl) rfl (fun _ _ h1 h2 => run_loadN (cs := [(.int .i64 p2.X), (.int .i64 p2.Y)]) ag_32 sz_32 (h1.ev rfl) (CellsAt.take (rdb h2 (vs := [(.int .i64 p2.X), (.int .i64 p2.Y)]) (k := 2) rfl 0) 2) rfl) ?_
          obtain ⟨y6, hy6, H⟩ := bnd H
          refine Tr.call0 (r := (.tuple #[(.int .i64 y6.1), (.agg #[(.int .i64 y6.2.1.X), (.int .i64 y6.2.1.Y)]), (.bool y6.2.2.1), (.int .i64 y6.2.2.2)])) (wn rfl) rfl Try.call25 (evl_cons rfl (evl_cons rfl evl_nil)) (fun W hW => F_etchhouseref9_ToBoard_ok N p0 Ap0_0 cp0_0 (Sl.up hp0_0 hW) Ap0_1 cp0_1 (Sl.up hp0_1 hW) Ap0_2 cp0_2 (Sl.up hp0_2 hW) p2 y6 hy6) ?_
          refine Tr.val (wn rfl) rfl (fun _ _ h1 h2 => run_move (h1.ev rfl)) ?_
          refine Tr.val (wn rfl) rfl (fun _ _ h1 h2 => run_extract (h1.ev rfl) rfl) ?_
          refine Tr.val (wn rfl) rfl (fun _ _ h1 h2 => run_extract (h1.ev rfl) rfl) ?_
          refine Tr.val (wn rfl) rfl (fun _ _ h1 h2 => run_extract (h1.ev rfl) rfl) ?_
          refine Tr.val (wn rfl) rfl (fun _ _ h1 h2 => run_extract (h1.ev rfl) rfl) ?_
          refine Tr.val (wn rfl) rfl (fun _ _ h1 h2 => run_assign (h1.ev rfl)) ?_
          refine Tr.store 6 (cs := [(.int .i64 y6.2.1.X), (.int .i64 y6.2.1.Y)]) [(.int .i64 y6.2.1.X), (.int .i64 y6.2.1.Y)] (wn rfl) rfl rfl rfl rfl sz_32 rfl rfl rfl ?_
          refine Tr.val (wn rfl) rfl (fun _ _ h1 h2 => run_assign (h1.ev rfl)) ?_
          refine Tr.val (wn rfl) rfl (fun _ _ h1 h2 => run_assign (h1.ev rfl)) ?_
          refine Tr.nil (Tr.normThen ?_)
          refine Tr.seq ?_
          refine Tr.region ?_
          refine Tr.val (wn rfl) rfl (fun _ _ h1 h2 => run_move (h1.ev rfl)) ?_
          refine Tr.val (wn rfl) rfl (fun _ _ h1 h2 => run_move (h1.ev rfl)) ?_
          refine Tr.val (wn rfl) rfl (fun _ _ h1 h2 => run_eql (h1.ev rfl) (h1.ev rfl)) ?_
          refine Tr.val (wn rfl) rfl (fun _ _ h1 h2 => run_move (h1.ev rfl)) ?_
          refine Tr.mid (σ := Unit) 4 (fun _ => True) (fun _ => [(8, (.int .i64 y5.2.2.2)), (10, (.int .i64 y6.2.2.2)), (16, (.bool y5.2.2.1)), (18, (.bool y6.2.2.1)), (86, (.bool ((y5.1 == y6.1) && (eqTPoint y5.2.1 y6.2.1))))]) (fun _ => [(1, bx b1 #[(.int .i64 p0.W), (.int .i64 p0.H), (.int .i64 p0.Rail), (.int .i64 p0.Gap), (.slice Ap0_0 (p0.Kinds).length cp0_0), (.slice Ap0_1 (p0.Slots).length cp0_1), (.slice Ap0_2 (p0.Marks).length cp0_2)] 26), (2, bx b2 #[(.int .i64 p2.X), (.int .i64 p2.Y)] 32), (3, bx b3 #[(.bool y1.1.Flip), (.int .i64 y1.1.Quarters), (.int .i64 y1.1.At.X), (.int .i64 y1.1.At.Y)] 46), (4, bx b4 #[(.bool y2.1.Flip), (.int .i64 y2.1.Quarters), (.int .i64 y2.1.At.X), (.int .i64 y2.1.At.Y)] 46), (5, bx b5 #[(.int .i64 y5.2.1.X), (.int .i64 y5.2.1.Y)] 32), (6, bx b6 #[(.int .i64 y6.2.1.X), (.int .i64 y6.2.1.Y)] 32)]) ?_ ?_
          · cases hg9 : (y5.1 == y6.1)
            · refine Tr.pass rfl rfl rfl rfl rfl (by decide) ?_
              refine Tr.pass rfl rfl rfl rfl rfl (by decide) ?_
              refine Tr.pass rfl rfl rfl rfl rfl (by decide) ?_
              refine Tr.val (wn rfl) rfl (fun _ _ h1 h2 => run_pickF (h1.ev rfl) (h1.ev rfl)) ?_
              exact Tr.nil (Tr.backThen () trivial (.cons rfl (.cons rfl (.cons rfl (.cons rfl (.cons rfl .nil))))) (.cons rfl (.cons rfl (.cons rfl (.cons rfl (.cons rfl (.cons rfl .nil)))))))
            · refine Tr.val (wg rfl rfl rfl) rfl (fun _ _ h1 h2 => run_loadN (cs := [(.int .i64 y5.2.1.X), (.int .i64 y5.2.1.Y)]) ag_32 sz_32 (h1.ev rfl) (CellsAt.take (rdb h2 (vs := [(.int .i64 y5.2.1.X), (.int .i64 y5.2.1.Y)]) (k := 5) rfl 0) 2) rfl) ?_
              refine Tr.val (wg rfl rfl rfl) rfl (fun _ _ h1 h2 => run_loadN (cs := [(.int .i64 y6.2.1.X), (.int .i64 y6.2.1.Y)]) ag_32 sz_32 (h1.ev rfl) (CellsAt.take (rdb h2 (vs := [(.int .i64 y6.2.1.X), (.int .i64 y6.2.1.Y)]) (k := 6) rfl 0) 2) rfl) ?_
              refine Tr.val (wg rfl rfl rfl) rfl (fun _ _ h1 h2 => run_eql_32 y5.2.1 y6.2.1 (h1.ev rfl) (h1.ev rfl)) ?_
              refine Tr.val (wn rfl) rfl (fun _ _ h1 h2 => run_pickT (h1.ev rfl) (h1.ev rfl)) ?_
              exact Tr.nil (Tr.backThen () trivial (.cons rfl (.cons rfl (.cons rfl (.cons rfl (.cons rfl .nil))))) (.cons rfl (.cons rfl (.cons rfl (.cons rfl (.cons rfl (.cons rfl .nil)))))))
          · intro _ _
            show Tr _ _ (LF [(8, (.int .i64 y5.2.2.2)), (10, (.int .i64 y6.2.2.2)), (16, (.bool y5.2.2.1)), (18, (.bool y6.2.2.1)), (86, (.bool ((y5.1 == y6.1) && (eqTPoint y5.2.1 y6.2.1))))]) (LE [(1, bx b1 #[(.int .i64 p0.W), (.int .i64 p0.H), (.int .i64 p0.Rail), (.int .i64 p0.Gap), (.slice Ap0_0 (p0.Kinds).length cp0_0), (.slice Ap0_1 (p0.Slots).length cp0_1), (.slice Ap0_2 (p0.Marks).length cp0_2)] 26), (2, bx b2 #[(.int .i64 p2.X), (.int .i64 p2.Y)] 32), (3, bx b3 #[(.bool y1.1.Flip), (.int .i64 y1.1.Quarters), (.int .i64 y1.1.At.X), (.int .i64 y1.1.At.Y)] 46), (4, bx b4 #[(.bool y2.1.Flip), (.int .i64 y2.1.Quarters), (.int .i64 y2.1.At.X), (.int .i64 y2.1.At.Y)] 46), (5, bx b5 #[(.int .i64 y5.2.1.X), (.int .i64 y5.2.1.Y)] 32), (6, bx b6 #[(.int .i64 y6.2.1.X), (.int .i64 y6.2.1.Y)] 32)]) _
            refine Tr.val (wn rfl) rfl (fun _ _ h1 h2 => run_move (h1.ev rfl)) ?_
            refine Tr.mid (σ := Unit) 4 (fun _ => True) (fun _ => [(8, (.int .i64 y5.2.2.2)), (10, (.int .i64 y6.2.2.2)), (91, (.bool (((y5.1 == y6.1) && (eqTPoint y5.2.1 y6.2.1)) && (y5.2.2.1 == y6.2.2.1))))]) (fun _ => [(1, bx b1 #[(.int .i64 p0.W), (.int .i64 p0.H), (.int .i64 p0.Rail), (.int .i64 p0.Gap), (.slice Ap0_0 (p0.Kinds).length cp0_0), (.slice Ap0_1 (p0.Slots).length cp0_1), (.slice Ap0_2 (p0.Marks).length cp0_2)] 26), (2, bx b2 #[(.int .i64 p2.X), (.int .i64 p2.Y)] 32), (3, bx b3 #[(.bool y1.1.Flip), (.int .i64 y1.1.Quarters), (.int .i64 y1.1.At.X), (.int .i64 y1.1.At.Y)] 46), (4, bx b4 #[(.bool y2.1.Flip), (.int .i64 y2.1.Quarters), (.int .i64 y2.1.At.X), (.int .i64 y2.1.At.Y)] 46), (5, bx b5 #[(.int .i64 y5.2.1.X), (.int .i64 y5.2.1.Y)] 32), (6, bx b6 #[(.int .i64 y6.2.1.X), (.int .i64 y6.2.1.Y)] 32)]) ?_ ?_
            · cases hg9 : ((y5.1 == y6.1) && (eqTPoint y5.2.1 y6.2.1))
              · refine Tr.pass rfl rfl rfl rfl rfl (by decide) ?_
                refine Tr.pass rfl rfl rfl rfl rfl (by decide) ?_
                refine Tr.pass rfl rfl rfl rfl rfl (by decide) ?_
                refine Tr.val (wn rfl) rfl (fun _ _ h1 h2 => run_pickF (h1.ev rfl) (h1.ev rfl)) ?_
                exact Tr.nil (Tr.backThen () trivial (.cons rfl (.cons rfl (.cons rfl .nil))) (.cons rfl (.cons rfl (.cons rfl (.cons rfl (.cons rfl (.cons rfl .nil)))))))
              · refine Tr.val (wg rfl rfl rfl) rfl (fun _ _ h1 h2 => run_move (h1.ev rfl)) ?_
                refine Tr.val (wg rfl rfl rfl) rfl (fun _ _ h1 h2 => run_move (h1.ev rfl)) ?_
                refine Tr.val (wg rfl rfl rfl) rfl (fun _ _ h1 h2 => run_eqlB un_4 (h1.ev rfl) (h1.ev rfl)) ?_
                refine Tr.val (wn rfl) rfl (fun _ _ h1 h2 => run_pickT (h1.ev rfl) (h1.ev rfl)) ?_
                exact Tr.nil (Tr.backThen () trivial (.cons rfl (.cons rfl (.cons rfl .nil))) (.cons rfl (.cons rfl (.cons rfl (.cons rfl (.cons rfl (.cons rfl .nil)))))))
            · intro _ _
              show Tr _ _ (LF [(8, (.int .i64 y5.2.2.2)), (10, (.int .i64 y6.2.2.2)), (91, (.bool (((y5.1 == y6.1) && (eqTPoint y5.2.1 y6.2.1)) && (y5.2.2.1 == y6.2.2.1))))]) (LE [(1, bx b1 #[(.int .i64 p0.W), (.int .i64 p0.H), (.int .i64 p0.Rail), (.int .i64 p0.Gap), (.slice Ap0_0 (p0.Kinds).length cp0_0), (.slice Ap0_1 (p0.Slots).length cp0_1), (.slice Ap0_2 (p0.Marks).length cp0_2)] 26), (2, bx b2 #[(.int .i64 p2.X), (.int .i64 p2.Y)] 32), (3, bx b3 #[(.bool y1.1.Flip), (.int .i64 y1.1.Quarters), (.int .i64 y1.1.At.X), (.int .i64 y1.1.At.Y)] 46), (4, bx b4 #[(.bool y2.1.Flip), (.int .i64 y2.1.Quarters), (.int .i64 y2.1.At.X), (.int .i64 y2.1.At.Y)] 46), (5, bx b5 #[(.int .i64 y5.2.1.X), (.int .i64 y5.2.1.Y)] 32), (6, bx b6 #[(.int .i64 y6.2.1.X), (.int .i64 y6.2.1.Y)] 32)]) _
              refine Tr.val (wn rfl) rfl (fun _ _ h1 h2 => run_move (h1.ev rfl)) ?_
              refine Tr.mid (σ := Unit) 4 (fun _ => True) (fun _ => [(96, (.bool ((((y5.1 == y6.1) && (eqTPoint y5.2.1 y6.2.1)) && (y5.2.2.1 == y6.2.2.1)) && (y5.2.2.2 == y6.2.2.2))))]) (fun _ => [(1, bx b1 #[(.int .i64 p0.W), (.int .i64 p0.H), (.int .i64 p0.Rail), (.int .i64 p0.Gap), (.slice Ap0_0 (p0.Kinds).length cp0_0), (.slice Ap0_1 (p0.Slots).length cp0_1), (.slice Ap0_2 (p0.Marks).length cp0_2)] 26), (2, bx b2 #[(.int .i64 p2.X), (.int .i64 p2.Y)] 32), (3, bx b3 #[(.bool y1.1.Flip), (.int .i64 y1.1.Quarters), (.int .i64 y1.1.At.X), (.int .i64 y1.1.At.Y)] 46), (4, bx b4 #[(.bool y2.1.Flip), (.int .i64 y2.1.Quarters), (.int .i64 y2.1.At.X), (.int .i64 y2.1.At.Y)] 46), (5, bx b5 #[(.int .i64 y5.2.1.X), (.int .i64 y5.2.1.Y)] 32), (6, bx b6 #[(.int .i64 y6.2.1.X), (.int .i64 y6.2.1.Y)] 32)]) ?_ ?_
              · cases hg9 : (((y5.1 == y6.1) && (eqTPoint y5.2.1 y6.2.1)) && (y5.2.2.1 == y6.2.2.1))
                · refine Tr.pass rfl rfl rfl rfl rfl (by decide) ?_
                  refine Tr.pass rfl rfl rfl rfl rfl (by decide) ?_
                  refine Tr.pass rfl rfl rfl rfl rfl (by decide) ?_
                  refine Tr.val (wn rfl) rfl (fun _ _ h1 h2 => run_pickF (h1.ev rfl) (h1.ev rfl)) ?_
                  exact Tr.nil (Tr.backThen () trivial (.cons rfl .nil) (.cons rfl (.cons rfl (.cons rfl (.cons rfl (.cons rfl (.cons rfl .nil)))))))
                · refine Tr.val (wg rfl rfl rfl) rfl (fun _ _ h1 h2 => run_move (h1.ev rfl)) ?_
                  refine Tr.val (wg rfl rfl rfl) rfl (fun _ _ h1 h2 => run_move (h1.ev rfl)) ?_
                  refine Tr.val (wg rfl rfl rfl) rfl (fun _ _ h1 h2 => run_eql (h1.ev rfl) (h1.ev rfl)) ?_
                  refine Tr.val (wn rfl) rfl (fun _ _ h1 h2 => run_pickT (h1.ev rfl) (h1.ev rfl)) ?_
                  exact Tr.nil (Tr.backThen () trivial (.cons rfl .nil) (.cons rfl (.cons rfl (.cons rfl (.cons rfl (.cons rfl (.cons rfl .nil)))))))
              · intro _ _
                show Tr _ _ (LF [(96, (.bool ((((y5.1 == y6.1) && (eqTPoint y5.2.1 y6.2.1)) && (y5.2.2.1 == y6.2.2.1)) && (y5.2.2.2 == y6.2.2.2))))]) (LE [(1, bx b1 #[(.int .i64 p0.W), (.int .i64 p0.H), (.int .i64 p0.Rail), (.int .i64 p0.Gap), (.slice Ap0_0 (p0.Kinds).length cp0_0), (.slice Ap0_1 (p0.Slots).length cp0_1), (.slice Ap0_2 (p0.Marks).length cp0_2)] 26), (2, bx b2 #[(.int .i64 p2.X), (.int .i64 p2.Y)] 32), (3, bx b3 #[(.bool y1.1.Flip), (.int .i64 y1.1.Quarters), (.int .i64 y1.1.At.X), (.int .i64 y1.1.At.Y)] 46), (4, bx b4 #[(.bool y2.1.Flip), (.int .i64 y2.1.Quarters), (.int .i64 y2.1.At.X), (.int .i64 y2.1.At.Y)] 46), (5, bx b5 #[(.int .i64 y5.2.1.X), (.int .i64 y5.2.1.Y)] 32), (6, bx b6 #[(.int .i64 y6.2.1.X), (.int .i64 y6.2.1.Y)] 32)]) _
                refine Tr.val (wn rfl) rfl (fun _ _ h1 h2 => run_move (h1.ev rfl)) ?_
                obtain ⟨g8, hg8, H⟩ := bnd H
                refine Tr.mid (σ := Unit) 2 (fun _ => True) (fun _ => [(99, (.bool g8))]) (fun _ => [(1, bx b1 #[(.int .i64 p0.W), (.int .i64 p0.H), (.int .i64 p0.Rail), (.int .i64 p0.Gap), (.slice Ap0_0 (p0.Kinds).length cp0_0), (.slice Ap0_1 (p0.Slots).length cp0_1), (.slice Ap0_2 (p0.Marks).length cp0_2)] 26), (2, bx b2 #[(.int .i64 p2.X), (.int .i64 p2.Y)] 32), (3, bx b3 #[(.bool y1.1.Flip), (.int .i64 y1.1.Quarters), (.int .i64 y1.1.At.X), (.int .i64 y1.1.At.Y)] 46), (4, bx b4 #[(.bool y2.1.Flip), (.int .i64 y2.1.Quarters), (.int .i64 y2.1.At.X), (.int .i64 y2.1.At.Y)] 46), (5, bx b5 #[(.int .i64 y5.2.1.X), (.int .i64 y5.2.1.Y)] 32), (6, bx b6 #[(.int .i64 y6.2.1.X), (.int .i64 y6.2.1.Y)] 32)]) ?_ ?_
                · cases hg9 : ((((y5.1 == y6.1) && (eqTPoint y5.2.1 y6.2.1)) && (y5.2.2.1 == y6.2.2.1)) && (y5.2.2.2 == y6.2.2.2))
                  · rw [hg9] at hg8
                    rw [if_neg (by decide)] at hg8
                    have H := hg8
                    obtain rfl := Option.some.inj H
                    refine Tr.pass rfl rfl rfl rfl rfl (by decide) ?_
                    refine Tr.val (wn rfl) rfl (fun _ _ h1 h2 => run_pickF (h1.ev rfl) (h1.ev rfl)) ?_
                    exact Tr.nil (Tr.backThen () trivial (.cons rfl .nil) (.cons rfl (.cons rfl (.cons rfl (.cons rfl (.cons rfl (.cons rfl .nil)))))))
                  · rw [hg9] at hg8
                    rw [if_pos rfl] at hg8
                    have H := hg8
                    obtain ⟨y9, hy9, H⟩ := bnd H
                    refine Tr.call0 (r := (.bool y9)) (wg rfl rfl rfl) rfl Try.call15 evl_nil (fun W hW => F_etchhouselaw9_awake_ok N y9 hy9) ?_
                    refine Tr.val (wn rfl) rfl (fun _ _ h1 h2 => run_pickT (h1.ev rfl) (h1.ev rfl)) ?_
                    obtain rfl := Option.some.inj H
                    exact Tr.nil (Tr.backThen () trivial (.cons rfl .nil) (.cons rfl (.cons rfl (.cons rfl (.cons rfl (.cons rfl (.cons rfl .nil)))))))
                · intro _ _
                  show Tr _ _ (LF [(99, (.bool g8))]) (LE [(1, bx b1 #[(.int .i64 p0.W), (.int .i64 p0.H), (.int .i64 p0.Rail), (.int .i64 p0.Gap), (.slice Ap0_0 (p0.Kinds).length cp0_0), (.slice Ap0_1 (p0.Slots).length cp0_1), (.slice Ap0_2 (p0.Marks).length cp0_2)] 26), (2, bx b2 #[(.int .i64 p2.X), (.int .i64 p2.Y)] 32), (3, bx b3 #[(.bool y1.1.Flip), (.int .i64 y1.1.Quarters), (.int .i64 y1.1.At.X), (.int .i64 y1.1.At.Y)] 46), (4, bx b4 #[(.bool y2.1.Flip), (.int .i64 y2.1.Quarters), (.int .i64 y2.1.At.X), (.int .i64 y2.1.At.Y)] 46), (5, bx b5 #[(.int .i64 y5.2.1.X), (.int .i64 y5.2.1.Y)] 32), (6, bx b6 #[(.int .i64 y6.2.1.X), (.int .i64 y6.2.1.Y)] 32)]) _
                  refine Tr.val (wn rfl) rfl (fun _ _ h1 h2 => run_assign (h1.ev rfl)) ?_
                  refine Tr.nil (Tr.normThen ?_)
                  refine Tr.ret ?_
                  obtain rfl := Option.some.inj H
                  exact Tr.out (m := [(.bool g8)]) [] (res_tmp rfl res_nil) (fun W hW => ⟨rfl, hW.below⟩)

theorem F_panel_many_ok {w : World} (p0 : Int) (p1 : Int) (p2 : Int) (r : Int) (H : F_panel_many p0 p1 p2 = some r) : Calls Try.prog 60 [(.int .i64 p0), (.int .i64 p1), (.int .i64 p2)].toArray w fun e W' => e = .returned (.int .i64 r) ∧ Below w.heap.size w W' := by
  unfold F_panel_many at H
  refine Tr.enter (n := 17) Try.func60 rfl rfl rfl ?_
  refine Tr.seq ?_
  refine Tr.region ?_
  refine Tr.val (wn rfl) rfl (fun _ _ h1 h2 => run_assign (h1.ev rfl)) ?_
  refine Tr.nil (Tr.normThen ?_)
  refine Tr.seq ?_
  refine Tr.seq ?_
  refine Tr.region ?_
  refine Tr.val (wn rfl) rfl (fun _ _ h1 h2 => run_move (h1.ev rfl)) ?_
  refine Tr.val (wn rfl) rfl (fun _ _ h1 h2 => run_move (h1.ev rfl)) ?_
  refine Tr.val (wn rfl) rfl (fun _ _ h1 h2 => run_lss (h1.ev rfl) (h1.ev rfl)) ?_
  refine Tr.nil (Tr.normThen ?_)
  refine Tr.cond rfl H (fun H => ?_) (fun H => ?_)
  · refine Tr.seq ?_
    refine Tr.region ?_
    refine Tr.val (wn rfl) rfl (fun _ _ h1 h2 => run_assign (h1.ev rfl)) ?_
    refine Tr.nil (Tr.normThen ?_)
    refine Tr.ret (Tr.retThen ?_)
    obtain rfl := Option.some.inj H
    exact Tr.out (m := [(.int .i64 0)]) [] (res_tmp rfl res_nil) (fun W hW => ⟨rfl, hW.below⟩)
  · refine Tr.skip (Tr.normThen ?_)
    refine Tr.seq ?_
    refine Tr.region ?_
    refine Tr.val (wn rfl) rfl (fun _ _ h1 h2 => run_move (h1.ev rfl)) ?_
    refine Tr.val (wn rfl) rfl (fun _ _ h1 h2 => run_move (h1.ev rfl)) ?_
    refine Tr.val (wn rfl) rfl (fun _ _ h1 h2 => run_add (h1.ev rfl) (h1.ev rfl)) ?_
    refine Tr.val (wn rfl) rfl (fun _ _ h1 h2 => run_move (h1.ev rfl)) ?_
    refine Tr.val (wn rfl) rfl (fun _ _ h1 h2 => run_move (h1.ev rfl)) ?_
    refine Tr.val (wn rfl) rfl (fun _ _ h1 h2 => run_add (h1.ev rfl) (h1.ev rfl)) ?_
    obtain ⟨q1, hq1, H⟩ := bnd H
    refine Tr.val (wn rfl) rfl (fun _ _ h1 h2 => run_dv (h1.ev rfl) (h1.ev rfl) hq1) ?_
    refine Tr.val (wn rfl) rfl (fun _ _ h1 h2 => run_assign (h1.ev rfl)) ?_
    refine Tr.nil (Tr.normThen ?_)
    refine Tr.ret ?_
    obtain rfl := Option.some.inj H
    exact Tr.out (m := [(.int .i64 q1)]) [] (res_tmp rfl res_nil) (fun W hW => ⟨rfl, hW.below⟩)

theorem F_panel_row_ok (N : Nat) {w : World} (p0 : TPanel) (Ap0_0 : Option Addr) (cp0_0 : Nat) (hp0_0 : Sl (lo w.heap.size) w fl_TBoardKind Ap0_0 cp0_0 p0.Kinds) (Ap0_1 : Option Addr) (cp0_1 : Nat) (hp0_1 : Sl (lo w.heap.size) w fl_TSlot Ap0_1 cp0_1 p0.Slots) (Ap0_2 : Option Addr) (cp0_2 : Nat) (hp0_2 : Sl (lo w.heap.size) w fl_TPoint Ap0_2 cp0_2 p0.Marks) (p1 : ByteArray) (p2 : Int) (p3 : Int) (p4 : Int) (r : (List TSlot)) (H : F_panel_row N p0 p1 p2 p3 p4 = some r) : Calls Try.prog 100 [(.agg #[(.int .i64 p0.W), (.int .i64 p0.H), (.int .i64 p0.Rail), (.int .i64 p0.Gap), (.slice Ap0_0 (p0.Kinds).length cp0_0), (.slice Ap0_1 (p0.Slots).length cp0_1), (.slice Ap0_2 (p0.Marks).length cp0_2)]), (.string p1), (.int .i64 p2), (.int .i64 p3), (.int .i64 p4)].toArray w fun e W' => ∃ u : Option Addr × Nat, e = .returned (.slice u.1 (r).length u.2) ∧ SlF u.1 (r).length u.2 ∧ Below w.heap.size w W' ∧ (∀ B, (ow u.1 u.2 34 fl_TSlot r).loc B) ∧ (ow u.1 u.2 34 fl_TSlot r).φ W' ∧ ∀ b, (ow u.1 u.2 34 fl_TSlot r).S b → w.heap.size ≤ b ∧ b < W'.heap.size := by
  unfold F_panel_row at H
  refine Tr.enter (n := 50) Try.func100 rfl rfl rfl ?_
  refine Tr.seq ?_
  refine Tr.region ?_
  refine Tr.box 1 (cs := [(.int .i64 p0.W), (.int .i64 p0.H), (.int .i64 p0.Rail), (.int .i64 p0.Gap), (.slice Ap0_0 (p0.Kinds).length cp0_0), (.slice Ap0_1 (p0.Slots).length cp0_1), (.slice Ap0_2 (p0.Marks).length cp0_2)]) (wn rfl) rfl rfl rfl fun b1 => ?_
  refine Tr.val (wn rfl) rfl (fun _ _ h1 h2 => run_assign (h1.ev rfl)) ?_
  refine Tr.nilOwn 2 34 fl_TSlot ?_
  refine Tr.nil (Tr.normThen ?_)
  refine Tr.seq ?_
  refine Tr.draw (by kernel_rfl) (by kernel_rfl) ?_
  refine Tq.val (wn rfl) rfl (fun _ _ h1 h2 => run_fieldAddr fo_26_4 (h1.ev rfl)) ?_
  refine Tq.val (wn rfl) rfl (fun _ _ h1 h2 => run_load1 ag_22 (h1.ev rfl) (rdb h2 (vs := [(.int .i64 p0.W), (.int .i64 p0.H), (.int .i64 p0.Rail), (.int .i64 p0.Gap), (.slice Ap0_0 (p0.Kinds).length cp0_0), (.slice Ap0_1 (p0.Slots).length cp0_1), (.slice Ap0_2 (p0.Marks).length cp0_2)]) (k := 1) rfl 4) rfl) ?_
  refine Tq.val (wn rfl) rfl (fun _ _ h1 h2 => run_loadN (cs := [(.int .i64 p0.W), (.int .i64 p0.H), (.int .i64 p0.Rail), (.int .i64 p0.Gap), (.slice Ap0_0 (p0.Kinds).length cp0_0), (.slice Ap0_1 (p0.Slots).length cp0_1), (.slice Ap0_2 (p0.Marks).length cp0_2)]) ag_26 sz_26 (h1.ev rfl) (CellsAt.take (rdb h2 (vs := [(.int .i64 p0.W), (.int .i64 p0.H), (.int .i64 p0.Rail), (.int .i64 p0.Gap), (.slice Ap0_0 (p0.Kinds).length cp0_0), (.slice Ap0_1 (p0.Slots).length cp0_1), (.slice Ap0_2 (p0.Marks).length cp0_2)]) (k := 1) rfl 0) 7) rfl) ?_
  refine Tq.val (wn rfl) rfl (fun _ _ h1 h2 => run_move (h1.ev rfl)) ?_
  obtain ⟨y1, hy1, H⟩ := bnd H
  refine Tq.call0 (r := (.int .i64 y1)) (wn rfl) rfl Try.call45 (evl_cons rfl (evl_cons rfl evl_nil)) (fun W hW => F_panel_kindAt_ok p0 Ap0_0 cp0_0 (Sl.up hp0_0 hW) Ap0_1 cp0_1 (Sl.up hp0_1 hW) Ap0_2 cp0_2 (Sl.up hp0_2 hW) p1 y1 hy1) ?_
  obtain ⟨x2, hx2, H⟩ := bnd H
  obtain ⟨hx20, hx21, hx22⟩ := idx_some hx2
  refine Tq.val (wn rfl) rfl (fun _ _ h1 h2 => run_indexAddr el_22 (h1.ev rfl) hp0_0.form (h1.ev rfl) hx20 hx21) ?_
  refine Tq.val (wn rfl) rfl (fun _ _ h1 h2 => run_loadN (cs := [(.string x2.Name), (.int .i64 x2.W), (.int .i64 x2.H)]) ag_82 sz_82 (h1.ev rfl) (CellsAt.take (Rd.arg hp0_0 hx22 _ h2) 3) rfl) ?_
  refine Tq.val (wn rfl) rfl (fun _ _ h1 h2 => run_move (h1.ev rfl)) ?_
  obtain ⟨y3, hy3, H⟩ := bnd H
  refine Tq.call0 (r := (.tuple #[(.int .i64 y3.1), (.int .i64 y3.2)])) (wn rfl) rfl Try.call59 (evl_cons rfl (evl_cons rfl evl_nil)) (fun W hW => F_panel_sizeOf_ok x2 p2 y3 hy3) ?_
  refine Tq.val (wn rfl) rfl (fun _ _ h1 h2 => run_move (h1.ev rfl)) ?_
  refine Tq.val (wn rfl) rfl (fun _ _ h1 h2 => run_extract (h1.ev rfl) rfl) ?_
  refine Tq.val (wn rfl) rfl (fun _ _ h1 h2 => run_extract (h1.ev rfl) rfl) ?_
  refine Tq.val (wn rfl) rfl (fun _ _ h1 h2 => run_assign (h1.ev rfl)) ?_
  refine Tq.val (wn rfl) rfl (fun _ _ h1 h2 => run_assign (h1.ev rfl)) ?_
  refine Tq.nil (Tr.normThen ?_)
  refine Tr.seq ?_
  refine Tr.region ?_
  refine Tr.val (wn rfl) rfl (fun _ _ h1 h2 => run_assign (h1.ev rfl)) ?_
  refine Tr.nilOwn 3 34 fl_TSlot ?_
  refine Tr.nil (Tr.normThen ?_)
  refine Tr.seq ?_
  refine Tr.seq ?_
  refine Tr.region ?_
  refine Tr.val (wn rfl) rfl (fun _ _ h1 h2 => run_move (h1.ev rfl)) ?_
  refine Tr.val (wn rfl) rfl (fun _ _ h1 h2 => run_move (h1.ev rfl)) ?_
  refine Tr.nil (Tr.normThen ?_)
  refine Tr.block ?_
  refine Tr.loop (σ := (List TSlot) × Int × (Option Addr) × Nat) (fun m s => F_panel_row_L1 p0 p1 p2 p3 p4 y3 m s.1 s.2.1 = some r ∧ SlF s.2.2.1 (s.1).length s.2.2.2) (fun s => [(1, (.string p1)), (2, (.int .i64 p2)), (4, (.int .i64 p4)), (5, (.pointer (some ⟨b1, 0, none⟩))), (11, (.int .i64 y3.1)), (13, (.slice s.2.2.1 (s.1).length s.2.2.2)), (27, (.int .i64 p3)), (28, (.int .i64 s.2.1))]) (fun s => [(1, bx b1 #[(.int .i64 p0.W), (.int .i64 p0.H), (.int .i64 p0.Rail), (.int .i64 p0.Gap), (.slice Ap0_0 (p0.Kinds).length cp0_0), (.slice Ap0_1 (p0.Slots).length cp0_1), (.slice Ap0_2 (p0.Marks).length cp0_2)] 26), (3, ow s.2.2.1 s.2.2.2 34 fl_TSlot s.1)]) N (([] : List TSlot), 0, none, 0) ⟨H, slf_nil⟩ (.cons rfl (.cons rfl (.cons rfl (.cons rfl (.cons rfl (.cons rfl (.cons rfl (.cons rfl .nil)))))))) (.cons rfl (.cons rfl .nil)) (fun _ h => noSome (h.1)) ?_
  intro mF_panel_row_L1 s hs
  obtain ⟨l12, x13, Al12, cl12⟩ := s
  obtain ⟨H, hAl12⟩ := hs
  replace H : F_panel_row_L1 p0 p1 p2 p3 p4 y3 (mF_panel_row_L1 + 1) l12 x13 = some r := H
  replace hAl12 : SlF Al12 (l12).length cl12 := hAl12
  rw [F_panel_row_L1.eq_2] at H
  show Tr _ _ (LF [(1, (.string p1)), (2, (.int .i64 p2)), (4, (.int .i64 p4)), (5, (.pointer (some ⟨b1, 0, none⟩))), (11, (.int .i64 y3.1)), (13, (.slice Al12 (l12).length cl12)), (27, (.int .i64 p3)), (28, (.int .i64 x13))]) (LE [(1, bx b1 #[(.int .i64 p0.W), (.int .i64 p0.H), (.int .i64 p0.Rail), (.int .i64 p0.Gap), (.slice Ap0_0 (p0.Kinds).length cp0_0), (.slice Ap0_1 (p0.Slots).length cp0_1), (.slice Ap0_2 (p0.Marks).length cp0_2)] 26), (3, ow Al12 cl12 34 fl_TSlot l12)]) _
  refine Tr.seq ?_
  refine Tr.region ?_
  refine Tr.val (wn rfl) rfl (fun _ _ h1 h2 => run_lss (h1.ev rfl) (h1.ev rfl)) ?_
  refine Tr.nil (Tr.normThen ?_)
  refine Tr.seq ?_
  refine Tr.cond rfl H (fun H => ?_) (fun H => ?_)
  · refine Tr.skip (Tr.normThen ?_)
    refine Tr.seq ?_
    refine Tr.block ?_
    refine Tr.seq ?_
    refine Tr.region ?_
    refine Tr.val (wn rfl) rfl (fun _ _ h1 h2 => run_move (h1.ev rfl)) ?_
    refine Tr.val (wn rfl) rfl (fun _ _ h1 h2 => run_assign (h1.ev rfl)) ?_
    refine Tr.nil (Tr.normThen ?_)
    refine Tr.region ?_
    refine Tr.val (wn rfl) rfl (fun _ _ h1 h2 => run_move (h1.ev rfl)) ?_
    refine Tr.val (wn rfl) rfl (fun _ _ h1 h2 => run_move (h1.ev rfl)) ?_
    refine Tr.val (wn rfl) rfl (fun _ _ h1 h2 => run_move (h1.ev rfl)) ?_
    refine Tr.val (wn rfl) rfl (fun _ _ h1 h2 => run_fieldAddr fo_26_2 (h1.ev rfl)) ?_
    refine Tr.val (wn rfl) rfl (fun _ _ h1 h2 => run_load1 ag_3 (h1.ev rfl) (rdb h2 (vs := [(.int .i64 p0.W), (.int .i64 p0.H), (.int .i64 p0.Rail), (.int .i64 p0.Gap), (.slice Ap0_0 (p0.Kinds).length cp0_0), (.slice Ap0_1 (p0.Slots).length cp0_1), (.slice Ap0_2 (p0.Marks).length cp0_2)]) (k := 1) rfl 2) rfl) ?_
    refine Tr.val (wn rfl) rfl (fun _ _ h1 h2 => run_move (h1.ev rfl)) ?_
    refine Tr.val (wn rfl) rfl (fun _ _ h1 h2 => run_move (h1.ev rfl)) ?_
    refine Tr.val (wn rfl) rfl (fun _ _ h1 h2 => run_fieldAddr fo_26_3 (h1.ev rfl)) ?_
    refine Tr.val (wn rfl) rfl (fun _ _ h1 h2 => run_load1 ag_3 (h1.ev rfl) (rdb h2 (vs := [(.int .i64 p0.W), (.int .i64 p0.H), (.int .i64 p0.Rail), (.int .i64 p0.Gap), (.slice Ap0_0 (p0.Kinds).length cp0_0), (.slice Ap0_1 (p0.Slots).length cp0_1), (.slice Ap0_2 (p0.Marks).length cp0_2)]) (k := 1) rfl 3) rfl) ?_
    refine Tr.val (wn rfl) rfl (fun _ _ h1 h2 => run_add (h1.ev rfl) (h1.ev rfl)) ?_
    refine Tr.val (wn rfl) rfl (fun _ _ h1 h2 => run_mul (h1.ev rfl) (h1.ev rfl)) ?_
    refine Tr.val (wn rfl) rfl (fun _ _ h1 h2 => run_add (h1.ev rfl) (h1.ev rfl)) ?_
    refine Tr.val (wn rfl) rfl (fun _ _ h1 h2 => run_move (h1.ev rfl)) ?_
    refine Tr.build (vs := [(0, (.int .i64 (w64 (p0.Rail + (w64 (x13 * (w64 (y3.1 + p0.Gap)))))))), (1, (.int .i64 p4))]) (cs := [(.int .i64 (w64 (p0.Rail + (w64 (x13 * (w64 (y3.1 + p0.Gap))))))), (.int .i64 p4)]) (wn rfl) rfl (evs_cons rfl (evs_cons rfl evs_nil)) (by kernel_rfl) ?_
    refine Tr.build (vs := [(0, (.string p1)), (1, (.int .i64 p2)), (2, (.agg #[(.int .i64 (w64 (p0.Rail + (w64 (x13 * (w64 (y3.1 + p0.Gap))))))), (.int .i64 p4)]))]) (cs := [(.string p1), (.int .i64 p2), (.int .i64 (w64 (p0.Rail + (w64 (x13 * (w64 (y3.1 + p0.Gap))))))), (.int .i64 p4)]) (wn rfl) rfl (evs_cons rfl (evs_cons rfl (evs_cons rfl evs_nil))) (by kernel_rfl) ?_
    refine Tr.buildSlice 6 (e := 34) (vs := [(0, (.agg #[(.string p1), (.int .i64 p2), (.int .i64 (w64 (p0.Rail + (w64 (x13 * (w64 (y3.1 + p0.Gap))))))), (.int .i64 p4)]))]) (cs := [(.string p1), (.int .i64 p2), (.int .i64 (w64 (p0.Rail + (w64 (x13 * (w64 (y3.1 + p0.Gap))))))), (.int .i64 p4)]) (wn rfl) rfl (evs_cons rfl evs_nil) (by kernel_rfl) fun b6 => ?_
    obtain ⟨l14, hl14, H⟩ := bnd H
    refine Tr.append 3 (t := fl_TSlot) (l := l12) (l2 := [(TSlot.mk p1 p2 (TPoint.mk (w64 (p0.Rail + (w64 (x13 * (w64 (y3.1 + p0.Gap)))))) p4))]) (wn rfl) rfl rfl rfl rfl (fun W hW => show CellsAt W _ _ _ from rdb hW (vs := [(.string p1), (.int .i64 p2), (.int .i64 (w64 (p0.Rail + (w64 (x13 * (w64 (y3.1 + p0.Gap))))))), (.int .i64 p4)]) (k := 6) rfl 0) un_23 sz_34 zl_34 (by decide) by_34 rfl hl14 fun Al14 cl14 hAl14 => ?_
    refine Tr.val (wn rfl) rfl (fun _ _ h1 h2 => run_assign (h1.ev rfl)) ?_
    refine Tr.nil (Tr.normBlock (Tr.normThen ?_))
    refine Tr.region ?_
    refine Tr.val (wn rfl) rfl (fun _ _ h1 h2 => run_add (h1.ev rfl) (h1.ev rfl)) ?_
    refine Tr.val (wn rfl) rfl (fun _ _ h1 h2 => run_move (h1.ev rfl)) ?_
    refine Tr.nil ?_
    exact Tr.backThen (l14, (w64 (x13 + 1)), Al14, cl14) ⟨H, hAl14⟩ (.cons rfl (.cons rfl (.cons rfl (.cons rfl (.cons rfl (.cons rfl (.cons rfl (.cons rfl .nil)))))))) (.cons rfl (.cons rfl .nil))
  · refine Tr.exit (Tr.exitThen (Tr.exitThen (Tr.exitBlock (Tr.normThen ?_))))
    refine Tr.seq ?_
    refine Tr.region ?_
    refine Tr.val (wn rfl) rfl (fun _ _ h1 h2 => run_move (h1.ev rfl)) ?_
    refine Tr.val (wn rfl) rfl (fun _ _ h1 h2 => run_assign (h1.ev rfl)) ?_
    refine Tr.nil (Tr.normThen ?_)
    refine Tr.ret ?_
    obtain rfl := Option.some.inj H
    exact Tr.out (m := [(.slice Al12 (l12).length cl12)]) [] (res_tmp rfl res_nil) (fun W hW => ⟨(Al12, cl12), rfl, hAl12, hW.below, fun B => ow_loc B _ _ _ _ _, hW.ow (k := 3) rfl, fun b hb => hW.bd 3 b hb⟩)

theorem F_slices_Clone_BoardKind_ok {w : World} (p0 : (List TBoardKind)) (Ap0_0 : Option Addr) (cp0_0 : Nat) (hp0_0 : Sl (lo w.heap.size) w fl_TBoardKind Ap0_0 cp0_0 p0) (r : (List TBoardKind)) (H : F_slices_Clone_BoardKind p0 = some r) : Calls Try.prog 106 [(.slice Ap0_0 (p0).length cp0_0)].toArray w fun e W' => ∃ u : Option Addr × Nat, e = .returned (.slice u.1 (r).length u.2) ∧ SlF u.1 (r).length u.2 ∧ Below w.heap.size w W' ∧ (∀ B, (ow u.1 u.2 82 fl_TBoardKind r).loc B) ∧ (ow u.1 u.2 82 fl_TBoardKind r).φ W' ∧ ∀ b, (ow u.1 u.2 82 fl_TBoardKind r).S b → w.heap.size ≤ b ∧ b < W'.heap.size := by
  unfold F_slices_Clone_BoardKind at H
  refine Tr.enter (n := 8) Try.func106 rfl rfl rfl ?_
  refine Tr.seq ?_
  refine Tr.region ?_
  refine Tr.val (wn rfl) rfl (fun _ _ h1 h2 => run_assign (h1.ev rfl)) ?_
  refine Tr.nilOwn 1 82 fl_TBoardKind ?_
  refine Tr.nil (Tr.normThen ?_)
  refine Tr.seq ?_
  refine Tr.seq ?_
  refine Tr.region ?_
  refine Tr.val (wn rfl) rfl (fun _ _ h1 h2 => run_move (h1.ev rfl)) ?_
  refine Tr.val (wn rfl) rfl (fun _ _ h1 h2 => run_eqlNil un_22 (h1.ev rfl) (h1.ev rfl)) ?_
  refine Tr.nil (Tr.normThen ?_)
  cases Ap0_0 with
  | none =>
    have hl0 := slf_none hp0_0.form
    replace H : (some ([] : List TBoardKind)) = some r := by simpa [apd, hl0] using H
    refine Tr.condT rfl rfl ?_
    refine Tr.seq ?_
    refine Tr.region ?_
    refine Tr.val (wn rfl) rfl (fun _ _ h1 h2 => run_assign (h1.ev rfl)) ?_
    refine Tr.nilOwn 2 82 fl_TBoardKind ?_
    refine Tr.nil (Tr.normThen ?_)
    refine Tr.ret (Tr.retThen ?_)
    obtain rfl := Option.some.inj H
    exact Tr.out (m := [(.slice none (([] : List TBoardKind)).length 0)]) [] (res_tmp rfl res_nil) (fun W hW => ⟨(none, 0), rfl, slf_nil, hW.below, fun B => ow_loc B _ _ _ _ _, hW.ow (k := 2) rfl, fun b hb => hW.bd 2 b hb⟩)
  | some a2 =>
    refine Tr.condF rfl rfl ?_
    refine Tr.skip (Tr.normThen ?_)
    refine Tr.seq ?_
    refine Tr.region ?_
    refine Tr.buildSlice 3 (e := 82) (vs := []) (cs := []) (wn rfl) rfl evs_nil (by kernel_rfl) fun b3 => ?_
    refine Tr.val (wn rfl) rfl (fun _ _ h1 h2 => run_move (h1.ev rfl)) ?_
    refine Tr.own 3 fl_TBoardKind ([] : List TBoardKind) rfl rfl (by decide) (lit_max rfl) ?_
    obtain ⟨l1, hl1, H⟩ := bnd H
    refine Tr.appendS 3 (t := fl_TBoardKind) (l := ([] : List TBoardKind)) (l2 := p0) (wn rfl) rfl rfl rfl rfl (fun W hW => (Sl.up hp0_0 hW)) un_22 sz_82 zl_82 (by decide) by_82 rfl hl1 fun Al1 cl1 hAl1 => ?_
    refine Tr.val (wn rfl) rfl (fun _ _ h1 h2 => run_assign (h1.ev rfl)) ?_
    refine Tr.nil (Tr.normThen ?_)
    refine Tr.ret ?_
    obtain rfl := Option.some.inj H
    exact Tr.out (m := [(.slice Al1 (l1).length cl1)]) [] (res_tmp rfl res_nil) (fun W hW => ⟨(Al1, cl1), rfl, hAl1, hW.below, fun B => ow_loc B _ _ _ _ _, hW.ow (k := 3) rfl, fun b hb => hW.bd 3 b hb⟩)

theorem F_slices_Clone_Point_ok {w : World} (p0 : (List TPoint)) (Ap0_0 : Option Addr) (cp0_0 : Nat) (hp0_0 : Sl (lo w.heap.size) w fl_TPoint Ap0_0 cp0_0 p0) (r : (List TPoint)) (H : F_slices_Clone_Point p0 = some r) : Calls Try.prog 107 [(.slice Ap0_0 (p0).length cp0_0)].toArray w fun e W' => ∃ u : Option Addr × Nat, e = .returned (.slice u.1 (r).length u.2) ∧ SlF u.1 (r).length u.2 ∧ Below w.heap.size w W' ∧ (∀ B, (ow u.1 u.2 32 fl_TPoint r).loc B) ∧ (ow u.1 u.2 32 fl_TPoint r).φ W' ∧ ∀ b, (ow u.1 u.2 32 fl_TPoint r).S b → w.heap.size ≤ b ∧ b < W'.heap.size := by
  unfold F_slices_Clone_Point at H
  refine Tr.enter (n := 8) Try.func107 rfl rfl rfl ?_
  refine Tr.seq ?_
  refine Tr.region ?_
  refine Tr.val (wn rfl) rfl (fun _ _ h1 h2 => run_assign (h1.ev rfl)) ?_
  refine Tr.nilOwn 1 32 fl_TPoint ?_
  refine Tr.nil (Tr.normThen ?_)
  refine Tr.seq ?_
  refine Tr.seq ?_
  refine Tr.region ?_
  refine Tr.val (wn rfl) rfl (fun _ _ h1 h2 => run_move (h1.ev rfl)) ?_
  refine Tr.val (wn rfl) rfl (fun _ _ h1 h2 => run_eqlNil un_24 (h1.ev rfl) (h1.ev rfl)) ?_
  refine Tr.nil (Tr.normThen ?_)
  cases Ap0_0 with
  | none =>
    have hl0 := slf_none hp0_0.form
    replace H : (some ([] : List TPoint)) = some r := by simpa [apd, hl0] using H
    refine Tr.condT rfl rfl ?_
    refine Tr.seq ?_
    refine Tr.region ?_
    refine Tr.val (wn rfl) rfl (fun _ _ h1 h2 => run_assign (h1.ev rfl)) ?_
    refine Tr.nilOwn 2 32 fl_TPoint ?_
    refine Tr.nil (Tr.normThen ?_)
    refine Tr.ret (Tr.retThen ?_)
    obtain rfl := Option.some.inj H
    exact Tr.out (m := [(.slice none (([] : List TPoint)).length 0)]) [] (res_tmp rfl res_nil) (fun W hW => ⟨(none, 0), rfl, slf_nil, hW.below, fun B => ow_loc B _ _ _ _ _, hW.ow (k := 2) rfl, fun b hb => hW.bd 2 b hb⟩)
  | some a2 =>
    refine Tr.condF rfl rfl ?_
    refine Tr.skip (Tr.normThen ?_)
    refine Tr.seq ?_
    refine Tr.region ?_
    refine Tr.buildSlice 3 (e := 32) (vs := []) (cs := []) (wn rfl) rfl evs_nil (by kernel_rfl) fun b3 => ?_
    refine Tr.val (wn rfl) rfl (fun _ _ h1 h2 => run_move (h1.ev rfl)) ?_
    refine Tr.own 3 fl_TPoint ([] : List TPoint) rfl rfl (by decide) (lit_max rfl) ?_
    obtain ⟨l1, hl1, H⟩ := bnd H
    refine Tr.appendS 3 (t := fl_TPoint) (l := ([] : List TPoint)) (l2 := p0) (wn rfl) rfl rfl rfl rfl (fun W hW => (Sl.up hp0_0 hW)) un_24 sz_32 zl_32 (by decide) by_32 rfl hl1 fun Al1 cl1 hAl1 => ?_
    refine Tr.val (wn rfl) rfl (fun _ _ h1 h2 => run_assign (h1.ev rfl)) ?_
    refine Tr.nil (Tr.normThen ?_)
    refine Tr.ret ?_
    obtain rfl := Option.some.inj H
    exact Tr.out (m := [(.slice Al1 (l1).length cl1)]) [] (res_tmp rfl res_nil) (fun W hW => ⟨(Al1, cl1), rfl, hAl1, hW.below, fun B => ow_loc B _ _ _ _ _, hW.ow (k := 3) rfl, fun b hb => hW.bd 3 b hb⟩)

theorem F_panel_own_ok {w : World} (S0 : Nat → Prop) (hS : ∀ b, S0 b → b < w.heap.size) (p0 : TPanel) (Ap0_0 : Option Addr) (cp0_0 : Nat) (hp0_0s : Sl S0 w fl_TBoardKind Ap0_0 cp0_0 p0.Kinds) (Ap0_1 : Option Addr) (cp0_1 : Nat) (hp0_1s : Sl S0 w fl_TSlot Ap0_1 cp0_1 p0.Slots) (Ap0_2 : Option Addr) (cp0_2 : Nat) (hp0_2s : Sl S0 w fl_TPoint Ap0_2 cp0_2 p0.Marks) (p1 : (List TSlot)) (Ap1_0 : Option Addr) (cp1_0 : Nat) (hp1_0s : Sl S0 w fl_TSlot Ap1_0 cp1_0 p1) (r : TPanel) (H : F_panel_own p0 p1 = some r) : Calls Try.prog 75 [(.agg #[(.int .i64 p0.W), (.int .i64 p0.H), (.int .i64 p0.Rail), (.int .i64 p0.Gap), (.slice Ap0_0 (p0.Kinds).length cp0_0), (.slice Ap0_1 (p0.Slots).length cp0_1), (.slice Ap0_2 (p0.Marks).length cp0_2)]), (.slice Ap1_0 (p1).length cp1_0)].toArray w fun e W' => ∃ u : Option Addr × Nat × Option Addr × Nat × Option Addr × Nat, e = .returned (.agg #[(.int .i64 r.W), (.int .i64 r.H), (.int .i64 r.Rail), (.int .i64 r.Gap), (.slice u.1 (r.Kinds).length u.2.1), (.slice u.2.2.1 (r.Slots).length u.2.2.2.1), (.slice u.2.2.2.2.1 (r.Marks).length u.2.2.2.2.2)]) ∧ (Sl (fun b => S0 b ∨ (w.heap.size ≤ b ∧ b < W'.heap.size)) W' fl_TBoardKind u.1 u.2.1 r.Kinds ∧ Sl (fun b => S0 b ∨ (w.heap.size ≤ b ∧ b < W'.heap.size)) W' fl_TSlot u.2.2.1 u.2.2.2.1 r.Slots ∧ Sl (fun b => S0 b ∨ (w.heap.size ≤ b ∧ b < W'.heap.size)) W' fl_TPoint u.2.2.2.2.1 u.2.2.2.2.2 r.Marks) ∧ Below w.heap.size w W' := by
  unfold F_panel_own at H
  have hp0_0 : Sl (lo w.heap.size) w fl_TBoardKind Ap0_0 cp0_0 p0.Kinds := Sl.mono hp0_0s hS
  have hp0_0z : Zs S0 w [] fl_TBoardKind Ap0_0 cp0_0 p0.Kinds := Zs.arg hS hp0_0s
  have hp0_1 : Sl (lo w.heap.size) w fl_TSlot Ap0_1 cp0_1 p0.Slots := Sl.mono hp0_1s hS
  have hp0_1z : Zs S0 w [] fl_TSlot Ap0_1 cp0_1 p0.Slots := Zs.arg hS hp0_1s
  have hp0_2 : Sl (lo w.heap.size) w fl_TPoint Ap0_2 cp0_2 p0.Marks := Sl.mono hp0_2s hS
  have hp0_2z : Zs S0 w [] fl_TPoint Ap0_2 cp0_2 p0.Marks := Zs.arg hS hp0_2s
  have hp1_0 : Sl (lo w.heap.size) w fl_TSlot Ap1_0 cp1_0 p1 := Sl.mono hp1_0s hS
  have hp1_0z : Zs S0 w [] fl_TSlot Ap1_0 cp1_0 p1 := Zs.arg hS hp1_0s
  refine Tr.enter (n := 16) Try.func75 rfl rfl rfl ?_
  refine Tr.seq ?_
  refine Tr.region ?_
  refine Tr.box 1 (cs := [(.int .i64 p0.W), (.int .i64 p0.H), (.int .i64 p0.Rail), (.int .i64 p0.Gap), (.slice Ap0_0 (p0.Kinds).length cp0_0), (.slice Ap0_1 (p0.Slots).length cp0_1), (.slice Ap0_2 (p0.Marks).length cp0_2)]) (wn rfl) rfl rfl rfl fun b1 => ?_
  refine Tr.alloc 2 (wn rfl) rfl ze_26 fun b2 => ?_
  refine Tr.nil (Tr.normThen ?_)
  refine Tr.seq ?_
  refine Tr.drawC 9 [(8, b1)] [] (by kernel_rfl) (by kernel_rfl) fun sz1 hlosz1 hEsz1 => ?_
  refine Dr.quiet 0 [(0, (.agg #[(.int .i64 p0.W), (.int .i64 p0.H), (.int .i64 p0.Rail), (.int .i64 p0.Gap), (.slice Ap0_0 (p0.Kinds).length cp0_0), (.slice Ap0_1 (p0.Slots).length cp0_1), (.slice Ap0_2 (p0.Marks).length cp0_2)])), (1, (.slice Ap1_0 (p1).length cp1_0)), (2, (.pointer (some ⟨b1, 0, none⟩))), (4, (.pointer (some ⟨b2, 0, none⟩))), (5, (.pointer (some ⟨b1, 4, none⟩)))] (by kernel_rfl) rfl rfl (by kernel_rfl) ?_ rfl rfl ?_
  · refine Tq.val (wn rfl) rfl (fun _ _ h1 h2 => run_fieldAddr fo_26_4 (h1.ev rfl)) ?_
    exact Tq.fin (.cons rfl (.cons rfl (.cons rfl (.cons rfl (.cons rfl .nil)))))
  refine Dr.quiet 1 [(0, (.agg #[(.int .i64 p0.W), (.int .i64 p0.H), (.int .i64 p0.Rail), (.int .i64 p0.Gap), (.slice Ap0_0 (p0.Kinds).length cp0_0), (.slice Ap0_1 (p0.Slots).length cp0_1), (.slice Ap0_2 (p0.Marks).length cp0_2)])), (1, (.slice Ap1_0 (p1).length cp1_0)), (2, (.pointer (some ⟨b1, 0, none⟩))), (4, (.pointer (some ⟨b2, 0, none⟩))), (5, (.pointer (some ⟨b1, 4, none⟩))), (6, (.slice Ap0_0 (p0.Kinds).length cp0_0))] (by kernel_rfl) rfl rfl (by kernel_rfl) ?_ rfl rfl ?_
  · refine Tq.val (wn rfl) rfl (fun _ _ h1 h2 => run_load1 ag_22 (h1.ev rfl) (rdb h2 (vs := [(.int .i64 p0.W), (.int .i64 p0.H), (.int .i64 p0.Rail), (.int .i64 p0.Gap), (.slice Ap0_0 (p0.Kinds).length cp0_0), (.slice Ap0_1 (p0.Slots).length cp0_1), (.slice Ap0_2 (p0.Marks).length cp0_2)]) (k := 1) rfl 4) rfl) ?_
    exact Tq.fin (.cons rfl (.cons rfl (.cons rfl (.cons rfl (.cons rfl (.cons rfl .nil))))))
  refine Dr.quietZ 3 [(0, (.agg #[(.int .i64 p0.W), (.int .i64 p0.H), (.int .i64 p0.Rail), (.int .i64 p0.Gap), (.slice Ap0_0 (p0.Kinds).length cp0_0), (.slice Ap0_1 (p0.Slots).length cp0_1), (.slice Ap0_2 (p0.Marks).length cp0_2)])), (1, (.slice Ap1_0 (p1).length cp1_0)), (2, (.pointer (some ⟨b1, 0, none⟩))), (4, (.pointer (some ⟨b2, 0, none⟩))), (5, (.pointer (some ⟨b1, 4, none⟩))), (6, (.slice Ap0_0 (p0.Kinds).length cp0_0)), (8, (.slice Ap1_0 (p1).length cp1_0))] [8] false (by kernel_rfl) rfl rfl (by kernel_rfl) (fun W W' h2 hsW hk => HF.keepZ (le := []) (ks := [(1, b1)]) (s0 := sz1) h2 hk hlosz1 .nil (fun b hb => hb.elim (fun hb => .inl (by simp at hb ⊢; simpa [eq_comm] using hb)) (fun hb => absurd hb.1 (by decide))) (fun p hp => by simp at hp; first | (subst hp; exact ⟨_, _, rfl⟩) | (rcases hp with rfl | rfl <;> exact ⟨_, _, rfl⟩)) rfl) ?_ rfl rfl ?_
  · refine Tq.val (wn rfl) rfl (fun _ _ h1 h2 => run_move (h1.ev rfl)) ?_
    exact Tq.fin (.cons rfl (.cons rfl (.cons rfl (.cons rfl (.cons rfl (.cons rfl (.cons rfl .nil)))))))
  refine Dr.quiet 4 [(0, (.agg #[(.int .i64 p0.W), (.int .i64 p0.H), (.int .i64 p0.Rail), (.int .i64 p0.Gap), (.slice Ap0_0 (p0.Kinds).length cp0_0), (.slice Ap0_1 (p0.Slots).length cp0_1), (.slice Ap0_2 (p0.Marks).length cp0_2)])), (1, (.slice Ap1_0 (p1).length cp1_0)), (2, (.pointer (some ⟨b1, 0, none⟩))), (4, (.pointer (some ⟨b2, 0, none⟩))), (5, (.pointer (some ⟨b1, 4, none⟩))), (6, (.slice Ap0_0 (p0.Kinds).length cp0_0)), (8, (.slice Ap1_0 (p1).length cp1_0)), (9, (.pointer (some ⟨b1, 6, none⟩)))] (by kernel_rfl) rfl rfl (by kernel_rfl) ?_ rfl rfl ?_
  · refine Tq.val (wn rfl) rfl (fun _ _ h1 h2 => run_fieldAddr fo_26_6 (h1.ev rfl)) ?_
    exact Tq.fin (.cons rfl (.cons rfl (.cons rfl (.cons rfl (.cons rfl (.cons rfl (.cons rfl (.cons rfl .nil))))))))
  refine Dr.quiet 5 [(0, (.agg #[(.int .i64 p0.W), (.int .i64 p0.H), (.int .i64 p0.Rail), (.int .i64 p0.Gap), (.slice Ap0_0 (p0.Kinds).length cp0_0), (.slice Ap0_1 (p0.Slots).length cp0_1), (.slice Ap0_2 (p0.Marks).length cp0_2)])), (1, (.slice Ap1_0 (p1).length cp1_0)), (2, (.pointer (some ⟨b1, 0, none⟩))), (4, (.pointer (some ⟨b2, 0, none⟩))), (5, (.pointer (some ⟨b1, 4, none⟩))), (6, (.slice Ap0_0 (p0.Kinds).length cp0_0)), (8, (.slice Ap1_0 (p1).length cp1_0)), (9, (.pointer (some ⟨b1, 6, none⟩))), (10, (.slice Ap0_2 (p0.Marks).length cp0_2))] (by kernel_rfl) rfl rfl (by kernel_rfl) ?_ rfl rfl ?_
  · refine Tq.val (wn rfl) rfl (fun _ _ h1 h2 => run_load1 ag_24 (h1.ev rfl) (rdb h2 (vs := [(.int .i64 p0.W), (.int .i64 p0.H), (.int .i64 p0.Rail), (.int .i64 p0.Gap), (.slice Ap0_0 (p0.Kinds).length cp0_0), (.slice Ap0_1 (p0.Slots).length cp0_1), (.slice Ap0_2 (p0.Marks).length cp0_2)]) (k := 1) rfl 6) rfl) ?_
    exact Tq.fin (.cons rfl (.cons rfl (.cons rfl (.cons rfl (.cons rfl (.cons rfl (.cons rfl (.cons rfl (.cons rfl .nil)))))))))
  obtain ⟨y2, hy2, H⟩ := bnd H
  refine Dr.one 2 (by kernel_rfl) ?_
  refine St.call 2 3 (U := Option Addr × Nat) (fun u => (.slice u.1 (y2).length u.2)) (fun u => SlF u.1 (y2).length u.2) (fun u => ow u.1 u.2 82 fl_TBoardKind y2) rfl (wn rfl) rfl Try.call106 (evl_cons rfl evl_nil) (fun W hW => F_slices_Clone_BoardKind_ok p0.Kinds Ap0_0 cp0_0 (Sl.up hp0_0 hW) y2 hy2) ?_
  intro u hu
  obtain ⟨Ay2, cy2⟩ := u
  have hAy2 : SlF Ay2 (y2).length cy2 := hu
  show Dr _ _ _ _ _ _ _ _ _ (uf _ 7 (.slice Ay2 (y2).length cy2)) (up _ 3 (ow Ay2 cy2 82 fl_TBoardKind y2))
  refine Dr.quiet 7 [(0, (.agg #[(.int .i64 p0.W), (.int .i64 p0.H), (.int .i64 p0.Rail), (.int .i64 p0.Gap), (.slice Ap0_0 (p0.Kinds).length cp0_0), (.slice Ap0_1 (p0.Slots).length cp0_1), (.slice Ap0_2 (p0.Marks).length cp0_2)])), (1, (.slice Ap1_0 (p1).length cp1_0)), (2, (.pointer (some ⟨b1, 0, none⟩))), (4, (.pointer (some ⟨b2, 0, none⟩))), (5, (.pointer (some ⟨b1, 4, none⟩))), (6, (.slice Ap0_0 (p0.Kinds).length cp0_0)), (7, (.slice Ay2 (y2).length cy2)), (8, (.slice Ap1_0 (p1).length cp1_0)), (9, (.pointer (some ⟨b1, 6, none⟩))), (10, (.slice Ap0_2 (p0.Marks).length cp0_2)), (12, (.pointer (some ⟨b1, 4, none⟩)))] (by kernel_rfl) rfl rfl (by kernel_rfl) ?_ rfl rfl ?_
  · refine Tq.val (wn rfl) rfl (fun _ _ h1 h2 => run_fieldAddr fo_26_4 (h1.ev rfl)) ?_
    exact Tq.fin (.cons rfl (.cons rfl (.cons rfl (.cons rfl (.cons rfl (.cons rfl (.cons rfl (.cons rfl (.cons rfl (.cons rfl (.cons rfl .nil)))))))))))
  obtain ⟨y3, hy3, H⟩ := bnd H
  refine Dr.one 6 (by kernel_rfl) ?_
  refine St.call 6 4 (U := Option Addr × Nat) (fun u => (.slice u.1 (y3).length u.2)) (fun u => SlF u.1 (y3).length u.2) (fun u => ow u.1 u.2 32 fl_TPoint y3) rfl (wn rfl) rfl Try.call107 (evl_cons rfl evl_nil) (fun W hW => F_slices_Clone_Point_ok p0.Marks Ap0_2 cp0_2 (Sl.up hp0_2 hW) y3 hy3) ?_
  intro u hu
  obtain ⟨Ay3, cy3⟩ := u
  have hAy3 : SlF Ay3 (y3).length cy3 := hu
  show Dr _ _ _ _ _ _ _ _ _ (uf _ 11 (.slice Ay3 (y3).length cy3)) (up _ 4 (ow Ay3 cy3 32 fl_TPoint y3))
  refine Dr.one 8 (by kernel_rfl) ?_
  refine St.store 8 1 (cs := [(.slice Ay2 (y2).length cy2)]) [(.int .i64 p0.W), (.int .i64 p0.H), (.int .i64 p0.Rail), (.int .i64 p0.Gap), (.slice Ay2 (y2).length cy2), (.slice Ap0_1 (p0.Slots).length cp0_1), (.slice Ap0_2 (p0.Marks).length cp0_2)] rfl (wn rfl) (.inl (by simp)) rfl rfl rfl rfl sz_22 rfl rfl rfl ?_
  refine Dr.tail (by kernel_rfl) ?_
  refine Tr.val (wn rfl) rfl (fun _ _ h1 h2 => run_fieldAddr fo_26_5 (h1.ev rfl)) ?_
  refine Tr.store 1 (cs := [(.slice Ap1_0 (p1).length cp1_0)]) [(.int .i64 p0.W), (.int .i64 p0.H), (.int .i64 p0.Rail), (.int .i64 p0.Gap), (.slice Ay2 (y2).length cy2), (.slice Ap1_0 (p1).length cp1_0), (.slice Ap0_2 (p0.Marks).length cp0_2)] (wn rfl) rfl rfl rfl rfl sz_23 rfl rfl rfl ?_
  refine Tr.val (wn rfl) rfl (fun _ _ h1 h2 => run_fieldAddr fo_26_6 (h1.ev rfl)) ?_
  refine Tr.store 1 (cs := [(.slice Ay3 (y3).length cy3)]) [(.int .i64 p0.W), (.int .i64 p0.H), (.int .i64 p0.Rail), (.int .i64 p0.Gap), (.slice Ay2 (y2).length cy2), (.slice Ap1_0 (p1).length cp1_0), (.slice Ay3 (y3).length cy3)] (wn rfl) rfl rfl rfl rfl sz_24 rfl rfl rfl ?_
  refine Tr.nil (Tr.normThen ?_)
  refine Tr.seq ?_
  refine Tr.region ?_
  refine Tr.val (wn rfl) rfl (fun _ _ h1 h2 => run_loadN (cs := [(.int .i64 p0.W), (.int .i64 p0.H), (.int .i64 p0.Rail), (.int .i64 p0.Gap), (.slice Ay2 (y2).length cy2), (.slice Ap1_0 (p1).length cp1_0), (.slice Ay3 (y3).length cy3)]) ag_26 sz_26 (h1.ev rfl) (CellsAt.take (rdb h2 (vs := [(.int .i64 p0.W), (.int .i64 p0.H), (.int .i64 p0.Rail), (.int .i64 p0.Gap), (.slice Ay2 (y2).length cy2), (.slice Ap1_0 (p1).length cp1_0), (.slice Ay3 (y3).length cy3)]) (k := 1) rfl 0) 7) rfl) ?_
  refine Tr.store 2 (cs := [(.int .i64 p0.W), (.int .i64 p0.H), (.int .i64 p0.Rail), (.int .i64 p0.Gap), (.slice Ay2 (y2).length cy2), (.slice Ap1_0 (p1).length cp1_0), (.slice Ay3 (y3).length cy3)]) [(.int .i64 p0.W), (.int .i64 p0.H), (.int .i64 p0.Rail), (.int .i64 p0.Gap), (.slice Ay2 (y2).length cy2), (.slice Ap1_0 (p1).length cp1_0), (.slice Ay3 (y3).length cy3)] (wn rfl) rfl rfl rfl rfl sz_26 rfl rfl rfl ?_
  refine Tr.nil (Tr.normThen ?_)
  refine Tr.ret ?_
  obtain rfl := Option.some.inj H
  exact Tr.out (m := [(.agg #[(.int .i64 p0.W), (.int .i64 p0.H), (.int .i64 p0.Rail), (.int .i64 p0.Gap), (.slice Ay2 (y2).length cy2), (.slice Ap1_0 (p1).length cp1_0), (.slice Ay3 (y3).length cy3)])]) [2] (res_cell rfl rfl ag_26 sz_26 res_nil) (fun W hW => ⟨(Ay2, cy2, Ap1_0, cp1_0, Ay3, cy3), rfl, ⟨hW.slOut (k := 3) rfl, Zs.out hS hp1_0z hW trivial, hW.slOut (k := 4) rfl⟩, hW.below⟩)

theorem F_panel_told_ok (N : Nat) {w : World} (S0 : Nat → Prop) (hS : ∀ b, S0 b → b < w.heap.size) (p0 : TPanel) (Ap0_0 : Option Addr) (cp0_0 : Nat) (hp0_0s : Sl S0 w fl_TBoardKind Ap0_0 cp0_0 p0.Kinds) (Ap0_1 : Option Addr) (cp0_1 : Nat) (hp0_1s : Sl S0 w fl_TSlot Ap0_1 cp0_1 p0.Slots) (Ap0_2 : Option Addr) (cp0_2 : Nat) (hp0_2s : Sl S0 w fl_TPoint Ap0_2 cp0_2 p0.Marks) (r : (TPanel × Int)) (H : F_panel_told N p0 = some r) : Calls Try.prog 101 [(.agg #[(.int .i64 p0.W), (.int .i64 p0.H), (.int .i64 p0.Rail), (.int .i64 p0.Gap), (.slice Ap0_0 (p0.Kinds).length cp0_0), (.slice Ap0_1 (p0.Slots).length cp0_1), (.slice Ap0_2 (p0.Marks).length cp0_2)])].toArray w fun e W' => ∃ u : Option Addr × Nat × Option Addr × Nat × Option Addr × Nat, e = .returned (.tuple #[(.agg #[(.int .i64 r.1.W), (.int .i64 r.1.H), (.int .i64 r.1.Rail), (.int .i64 r.1.Gap), (.slice u.1 (r.1.Kinds).length u.2.1), (.slice u.2.2.1 (r.1.Slots).length u.2.2.2.1), (.slice u.2.2.2.2.1 (r.1.Marks).length u.2.2.2.2.2)]), (.int .i64 r.2)]) ∧ (Sl (fun b => S0 b ∨ (w.heap.size ≤ b ∧ b < W'.heap.size)) W' fl_TBoardKind u.1 u.2.1 r.1.Kinds ∧ Sl (fun b => S0 b ∨ (w.heap.size ≤ b ∧ b < W'.heap.size)) W' fl_TSlot u.2.2.1 u.2.2.2.1 r.1.Slots ∧ Sl (fun b => S0 b ∨ (w.heap.size ≤ b ∧ b < W'.heap.size)) W' fl_TPoint u.2.2.2.2.1 u.2.2.2.2.2 r.1.Marks) ∧ Below w.heap.size w W' := by
  unfold F_panel_told at H
  have hp0_0 : Sl (lo w.heap.size) w fl_TBoardKind Ap0_0 cp0_0 p0.Kinds := Sl.mono hp0_0s hS
  have hp0_0z : Zs S0 w [] fl_TBoardKind Ap0_0 cp0_0 p0.Kinds := Zs.arg hS hp0_0s
  have hp0_1 : Sl (lo w.heap.size) w fl_TSlot Ap0_1 cp0_1 p0.Slots := Sl.mono hp0_1s hS
  have hp0_1z : Zs S0 w [] fl_TSlot Ap0_1 cp0_1 p0.Slots := Zs.arg hS hp0_1s
  have hp0_2 : Sl (lo w.heap.size) w fl_TPoint Ap0_2 cp0_2 p0.Marks := Sl.mono hp0_2s hS
  have hp0_2z : Zs S0 w [] fl_TPoint Ap0_2 cp0_2 p0.Marks := Zs.arg hS hp0_2s
  refine Tr.enter (n := 12) Try.func101 rfl rfl rfl ?_
  refine Tr.seq ?_
  refine Tr.region ?_
  refine Tr.box 1 (cs := [(.int .i64 p0.W), (.int .i64 p0.H), (.int .i64 p0.Rail), (.int .i64 p0.Gap), (.slice Ap0_0 (p0.Kinds).length cp0_0), (.slice Ap0_1 (p0.Slots).length cp0_1), (.slice Ap0_2 (p0.Marks).length cp0_2)]) (wn rfl) rfl rfl rfl fun b1 => ?_
  refine Tr.alloc 2 (wn rfl) rfl ze_26 fun b2 => ?_
  refine Tr.val (wn rfl) rfl (fun _ _ h1 h2 => run_assign (h1.ev rfl)) ?_
  refine Tr.nil (Tr.normThen ?_)
  refine Tr.seq ?_
  refine Tr.seq ?_
  refine Tr.region ?_
  refine Tr.val (wn rfl) rfl (fun _ _ h1 h2 => run_loadN (cs := [(.int .i64 p0.W), (.int .i64 p0.H), (.int .i64 p0.Rail), (.int .i64 p0.Gap), (.slice Ap0_0 (p0.Kinds).length cp0_0), (.slice Ap0_1 (p0.Slots).length cp0_1), (.slice Ap0_2 (p0.Marks).length cp0_2)]) ag_26 sz_26 (h1.ev rfl) (CellsAt.take (rdb h2 (vs := [(.int .i64 p0.W), (.int .i64 p0.H), (.int .i64 p0.Rail), (.int .i64 p0.Gap), (.slice Ap0_0 (p0.Kinds).length cp0_0), (.slice Ap0_1 (p0.Slots).length cp0_1), (.slice Ap0_2 (p0.Marks).length cp0_2)]) (k := 1) rfl 0) 7) rfl) ?_
  obtain ⟨y1, hy1, H⟩ := bnd H
  refine Tr.call0 (r := (.int .i64 y1)) (wn rfl) rfl Try.call31 (evl_cons rfl evl_nil) (fun W hW => F_panel_CheckPanel_ok N p0 Ap0_0 cp0_0 (Sl.up hp0_0 hW) Ap0_1 cp0_1 (Sl.up hp0_1 hW) Ap0_2 cp0_2 (Sl.up hp0_2 hW) y1 hy1) ?_
  refine Tr.val (wn rfl) rfl (fun _ _ h1 h2 => run_assign (h1.ev rfl)) ?_
  refine Tr.nil (Tr.normThen ?_)
  refine Tr.seq ?_
  refine Tr.region ?_
  refine Tr.val (wn rfl) rfl (fun _ _ h1 h2 => run_move (h1.ev rfl)) ?_
  refine Tr.val (wn rfl) rfl (fun _ _ h1 h2 => run_neq (h1.ev rfl) (h1.ev rfl)) ?_
  refine Tr.nil (Tr.normThen ?_)
  refine Tr.cond rfl H (fun H => ?_) (fun H => ?_)
  · refine Tr.seq ?_
    refine Tr.region ?_
    refine Tr.build (vs := []) (cs := [(.int .i64 0), (.int .i64 0), (.int .i64 0), (.int .i64 0), (.slice none 0 0), (.slice none 0 0), (.slice none 0 0)]) (wn rfl) rfl evs_nil (by kernel_rfl) ?_
    refine Tr.val (wn rfl) rfl (fun _ _ h1 h2 => run_move (h1.ev rfl)) ?_
    refine Tr.store 2 (cs := [(.int .i64 0), (.int .i64 0), (.int .i64 0), (.int .i64 0), (.slice none 0 0), (.slice none 0 0), (.slice none 0 0)]) [(.int .i64 0), (.int .i64 0), (.int .i64 0), (.int .i64 0), (.slice none 0 0), (.slice none 0 0), (.slice none 0 0)] (wn rfl) rfl rfl rfl rfl sz_26 rfl rfl rfl ?_
    refine Tr.val (wn rfl) rfl (fun _ _ h1 h2 => run_assign (h1.ev rfl)) ?_
    refine Tr.nil (Tr.normThen ?_)
    refine Tr.ret (Tr.retThen ?_)
    obtain rfl := Option.some.inj H
    exact Tr.out (m := [(.agg #[(.int .i64 0), (.int .i64 0), (.int .i64 0), (.int .i64 0), (.slice none 0 0), (.slice none 0 0), (.slice none 0 0)]), (.int .i64 y1)]) [2] (res_cell rfl rfl ag_26 sz_26 (res_tmp rfl res_nil)) (fun W hW => ⟨(none, 0, none, 0, none, 0), rfl, ⟨Sl.nil _ _ _, Sl.nil _ _ _, Sl.nil _ _ _⟩, hW.below⟩)
  · refine Tr.skip (Tr.normThen ?_)
    refine Tr.seq ?_
    refine Tr.region ?_
    refine Tr.val (wn rfl) rfl (fun _ _ h1 h2 => run_loadN (cs := [(.int .i64 p0.W), (.int .i64 p0.H), (.int .i64 p0.Rail), (.int .i64 p0.Gap), (.slice Ap0_0 (p0.Kinds).length cp0_0), (.slice Ap0_1 (p0.Slots).length cp0_1), (.slice Ap0_2 (p0.Marks).length cp0_2)]) ag_26 sz_26 (h1.ev rfl) (CellsAt.take (rdb h2 (vs := [(.int .i64 p0.W), (.int .i64 p0.H), (.int .i64 p0.Rail), (.int .i64 p0.Gap), (.slice Ap0_0 (p0.Kinds).length cp0_0), (.slice Ap0_1 (p0.Slots).length cp0_1), (.slice Ap0_2 (p0.Marks).length cp0_2)]) (k := 1) rfl 0) 7) rfl) ?_
    refine Tr.store 2 (cs := [(.int .i64 p0.W), (.int .i64 p0.H), (.int .i64 p0.Rail), (.int .i64 p0.Gap), (.slice Ap0_0 (p0.Kinds).length cp0_0), (.slice Ap0_1 (p0.Slots).length cp0_1), (.slice Ap0_2 (p0.Marks).length cp0_2)]) [(.int .i64 p0.W), (.int .i64 p0.H), (.int .i64 p0.Rail), (.int .i64 p0.Gap), (.slice Ap0_0 (p0.Kinds).length cp0_0), (.slice Ap0_1 (p0.Slots).length cp0_1), (.slice Ap0_2 (p0.Marks).length cp0_2)] (wn rfl) rfl rfl rfl rfl sz_26 rfl rfl rfl ?_
    refine Tr.val (wn rfl) rfl (fun _ _ h1 h2 => run_assign (h1.ev rfl)) ?_
    refine Tr.nil (Tr.normThen ?_)
    refine Tr.ret ?_
    obtain rfl := Option.some.inj H
    exact Tr.out (m := [(.agg #[(.int .i64 p0.W), (.int .i64 p0.H), (.int .i64 p0.Rail), (.int .i64 p0.Gap), (.slice Ap0_0 (p0.Kinds).length cp0_0), (.slice Ap0_1 (p0.Slots).length cp0_1), (.slice Ap0_2 (p0.Marks).length cp0_2)]), (.int .i64 0)]) [2] (res_cell rfl rfl ag_26 sz_26 (res_tmp rfl res_nil)) (fun W hW => ⟨(Ap0_0, cp0_0, Ap0_1, cp0_1, Ap0_2, cp0_2), rfl, ⟨Zs.out hS hp0_0z hW trivial, Zs.out hS hp0_1z hW trivial, Zs.out hS hp0_2z hW trivial⟩, hW.below⟩)

end Go.Proofs.Ytpkicpnbpldkpaa
