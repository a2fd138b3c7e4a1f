/- The walks: each function computes its plain function. -/
import Derived.Test.YtpkicpnbpldkpaaXWd
namespace Go.Proofs.Ytpkicpnbpldkpaa
open Go.RowKit
set_option maxRecDepth 100000
set_option maxHeartbeats 1000000
theorem F_etchhouseref9_ToBoard_ok (N : Nat) {w : Bs} (p0 : TPanel) (Ap0_0 : Option Addr) (cp0_0 : Nat) (hp0_0 : Sl w.R w.W fl_TBoardKind Ap0_0 cp0_0 p0.Kinds) (Ap0_1 : Option Addr) (cp0_1 : Nat) (hp0_1 : Sl w.R w.W fl_TSlot Ap0_1 cp0_1 p0.Slots) (Ap0_2 : Option Addr) (cp0_2 : Nat) (hp0_2 : Sl w.R w.W fl_TPoint Ap0_2 cp0_2 p0.Marks) (p1 : TPoint) (r : (Int × TPoint × Bool × Int)) (H : F_etchhouseref9_ToBoard N p0 p1 = some r) (hE : HF w w.W E0) : Calls Try.prog 25 [(.agg #[(.int .i64 p0.W), (.int .i64 p0.H), (.int .i64 p0.Rail), (.int .i64 p0.Gap), (.slice Ap0_0 (p0.Kinds).length cp0_0), (.slice Ap0_1 (p0.Slots).length cp0_1), (.slice Ap0_2 (p0.Marks).length cp0_2)]), (.agg #[(.int .i64 p1.X), (.int .i64 p1.Y)])].toArray w.W fun e W' => e = .returned (.tuple #[(.int .i64 r.1), (.agg #[(.int .i64 r.2.1.X), (.int .i64 r.2.1.Y)]), (.bool r.2.2.1), (.int .i64 r.2.2.2)]) ∧ HF w W' E0 := by
  unfold F_etchhouseref9_ToBoard at H
  have leB := Bs.Le.refl w
  refine Tr.enter (n := 93) Try.func25 rfl rfl rfl hE ?_
  refine Tr.seq ?_
  refine Tr.region ?_
  refine Tr.box 1 (cs := [(.int .i64 p0.W), (.int .i64 p0.H), (.int .i64 p0.Rail), (.int .i64 p0.Gap), (.slice Ap0_0 (p0.Kinds).length cp0_0), (.slice Ap0_1 (p0.Slots).length cp0_1), (.slice Ap0_2 (p0.Marks).length cp0_2)]) (wn rfl) rfl rfl rfl fun b100 => ?_
  refine Tr.box 2 (cs := [(.int .i64 p1.X), (.int .i64 p1.Y)]) (wn rfl) rfl rfl rfl fun b101 => ?_
  refine Tr.val (wn rfl) rfl (fun _ _ h1 h2 => run_assign (h1.ev rfl)) ?_
  refine Tr.alloc 3 (wn rfl) rfl ze_32 fun b102 => ?_
  refine Tr.val (wn rfl) rfl (fun _ _ h1 h2 => run_assign (h1.ev rfl)) ?_
  refine Tr.val (wn rfl) rfl (fun _ _ h1 h2 => run_assign (h1.ev rfl)) ?_
  refine Tr.nil (Tr.normThen ?_)
  refine Tr.seq ?_
  refine Tr.seq ?_
  refine Tr.region ?_
  refine Tr.val (wn rfl) rfl (fun _ _ h1 h2 => run_loadN (cs := [(.int .i64 p0.W), (.int .i64 p0.H), (.int .i64 p0.Rail), (.int .i64 p0.Gap), (.slice Ap0_0 (p0.Kinds).length cp0_0), (.slice Ap0_1 (p0.Slots).length cp0_1), (.slice Ap0_2 (p0.Marks).length cp0_2)]) ag_26 sz_26 (h1.ev rfl) (CellsAt.take (rdb h2 (vs := [(.int .i64 p0.W), (.int .i64 p0.H), (.int .i64 p0.Rail), (.int .i64 p0.Gap), (.slice Ap0_0 (p0.Kinds).length cp0_0), (.slice Ap0_1 (p0.Slots).length cp0_1), (.slice Ap0_2 (p0.Marks).length cp0_2)]) (k := 1) rfl 0) 7) rfl) ?_
  obtain ⟨y103, hy103, H⟩ := bnd H
  refine Tr.call0 (r := (.int .i64 y103)) (wn rfl) rfl Try.call39 (evl_cons rfl evl_nil) (fun W hW => F_etchhouseref9_CheckPanel_ok N p0 Ap0_0 cp0_0 (hp0_0.ext hW.extAll) Ap0_1 cp0_1 (hp0_1.ext hW.extAll) Ap0_2 cp0_2 (hp0_2.ext hW.extAll) y103 hy103 (HF.start _)) ?_
  refine Tr.val (wn rfl) rfl (fun _ _ h1 h2 => run_assign (h1.ev rfl)) ?_
  refine Tr.nil (Tr.normThen ?_)
  refine Tr.seq ?_
  refine Tr.region ?_
  refine Tr.val (wn rfl) rfl (fun _ _ h1 h2 => run_move (h1.ev rfl)) ?_
  refine Tr.val (wn rfl) rfl (fun _ _ h1 h2 => run_neq (h1.ev rfl) (h1.ev rfl)) ?_
  refine Tr.nil (Tr.normThen ?_)
  refine Tr.cond rfl H (fun H => ?_) (fun H => ?_)
  · refine Tr.seq ?_
    refine Tr.region ?_
    refine Tr.build (vs := []) (cs := [(.int .i64 0), (.int .i64 0)]) (wn rfl) rfl evs_nil (by kernel_rfl) ?_
    refine Tr.val (wn rfl) rfl (fun _ _ h1 h2 => run_move (h1.ev rfl)) ?_
    refine Tr.val (wn rfl) rfl (fun _ _ h1 h2 => run_assign (h1.ev rfl)) ?_
    refine Tr.store 3 (cs := [(.int .i64 0), (.int .i64 0)]) [(.int .i64 0), (.int .i64 0)] (wn rfl) rfl rfl rfl rfl sz_32 rfl rfl rfl ?_
    refine Tr.val (wn rfl) rfl (fun _ _ h1 h2 => run_assign (h1.ev rfl)) ?_
    refine Tr.val (wn rfl) rfl (fun _ _ h1 h2 => run_assign (h1.ev rfl)) ?_
    refine Tr.nil (Tr.normThen ?_)
    refine Tr.ret (Tr.retThen ?_)
    obtain rfl := Option.some.inj H
    exact Tr.out (m := [(.int .i64 0), (.agg #[(.int .i64 0), (.int .i64 0)]), (.bool false), (.int .i64 y103)]) [3] (res_tmp rfl (res_cell rfl rfl ag_32 sz_32 (res_tmp rfl (res_tmp rfl res_nil)))) (fun W hW => ⟨rfl, hW.low leB⟩)
  · refine Tr.skip (Tr.normThen ?_)
    refine Tr.seq ?_
    refine Tr.seq ?_
    refine Tr.region ?_
    refine Tr.val (wn rfl) rfl (fun _ _ h1 h2 => run_fieldAddr fo_32_0 (h1.ev rfl)) ?_
    refine Tr.val (wn rfl) rfl (fun _ _ h1 h2 => run_load1 ag_3 (h1.ev rfl) (rdb h2 (vs := [(.int .i64 p1.X), (.int .i64 p1.Y)]) (k := 2) rfl 0) rfl) ?_
    refine Tr.val (wn rfl) rfl (fun _ _ h1 h2 => run_fieldAddr fo_26_0 (h1.ev rfl)) ?_
    refine Tr.val (wn rfl) rfl (fun _ _ h1 h2 => run_load1 ag_3 (h1.ev rfl) (rdb h2 (vs := [(.int .i64 p0.W), (.int .i64 p0.H), (.int .i64 p0.Rail), (.int .i64 p0.Gap), (.slice Ap0_0 (p0.Kinds).length cp0_0), (.slice Ap0_1 (p0.Slots).length cp0_1), (.slice Ap0_2 (p0.Marks).length cp0_2)]) (k := 1) rfl 0) rfl) ?_
    obtain ⟨y104, hy104, H⟩ := bnd H
    refine Tr.call0 (r := (.bool y104)) (wn rfl) rfl Try.call49 (evl_cons rfl (evl_cons rfl (evl_cons rfl evl_nil))) (fun W hW => F_etchhouseref9_within_ok p1.X 0 p0.W y104 hy104 (HF.start _)) ?_
    refine Tr.val (wn rfl) rfl (fun _ _ h1 h2 => run_not (h1.ev rfl)) ?_
    refine Tr.val (wn rfl) rfl (fun _ _ h1 h2 => run_move (h1.ev rfl)) ?_
    obtain ⟨g106, hg106, H⟩ := bnd H
    refine Tr.mid0 7 [(2, (.pointer (some ⟨b100, 0, none⟩))), (3, (.pointer (some ⟨b101, 0, none⟩))), (5, (.pointer (some ⟨b102, 0, none⟩))), (32, (.bool g106))] [(1, bx b100 #[(.int .i64 p0.W), (.int .i64 p0.H), (.int .i64 p0.Rail), (.int .i64 p0.Gap), (.slice Ap0_0 (p0.Kinds).length cp0_0), (.slice Ap0_1 (p0.Slots).length cp0_1), (.slice Ap0_2 (p0.Marks).length cp0_2)] 26), (2, bx b101 #[(.int .i64 p1.X), (.int .i64 p1.Y)] 32), (3, bx b102 #[(.int .i64 0), (.int .i64 0)] 32)] ?_ ?_
    · cases hg147 : (!y104)
      · rw [hg147] at hg106
        rw [if_neg (by decide)] at hg106
        have H := hg106
        refine Tr.val (wg rfl rfl rfl) rfl (fun _ _ h1 h2 => run_fieldAddr fo_32_1 (h1.ev rfl)) ?_
        refine Tr.val (wg rfl rfl rfl) rfl (fun _ _ h1 h2 => run_load1 ag_3 (h1.ev rfl) (rdb h2 (vs := [(.int .i64 p1.X), (.int .i64 p1.Y)]) (k := 2) rfl 1) rfl) ?_
        refine Tr.val (wg rfl rfl rfl) rfl (fun _ _ h1 h2 => run_fieldAddr fo_26_1 (h1.ev rfl)) ?_
        refine Tr.val (wg rfl rfl rfl) rfl (fun _ _ h1 h2 => run_load1 ag_3 (h1.ev rfl) (rdb h2 (vs := [(.int .i64 p0.W), (.int .i64 p0.H), (.int .i64 p0.Rail), (.int .i64 p0.Gap), (.slice Ap0_0 (p0.Kinds).length cp0_0), (.slice Ap0_1 (p0.Slots).length cp0_1), (.slice Ap0_2 (p0.Marks).length cp0_2)]) (k := 1) rfl 1) rfl) ?_
        obtain ⟨y107, hy107, H⟩ := bnd H
        refine Tr.call0 (r := (.bool y107)) (wg rfl rfl rfl) rfl Try.call49 (evl_cons rfl (evl_cons rfl (evl_cons rfl evl_nil))) (fun W hW => F_etchhouseref9_within_ok p1.Y 0 p0.H y107 hy107 (HF.start _)) ?_
        refine Tr.val (wg rfl rfl rfl) rfl (fun _ _ h1 h2 => run_not (h1.ev rfl)) ?_
        refine Tr.val (wn rfl) rfl (fun _ _ h1 h2 => run_pickF (h1.ev rfl) (h1.ev rfl)) ?_
        obtain rfl := Option.some.inj H
        exact Tr.nil (Tr.fin0 (.cons rfl (.cons rfl (.cons rfl (.cons rfl .nil)))) (.cons rfl (.cons rfl (.cons rfl .nil))))
      · rw [hg147] at hg106
        rw [if_pos rfl] at hg106
        have H := hg106
        obtain rfl := Option.some.inj H
        refine Tr.pass rfl rfl rfl rfl rfl (by decide) ?_
        refine Tr.pass rfl rfl rfl rfl rfl (by decide) ?_
        refine Tr.pass rfl rfl rfl rfl rfl (by decide) ?_
        refine Tr.pass rfl rfl rfl rfl rfl (by decide) ?_
        refine Tr.pass rfl rfl rfl rfl rfl (by decide) ?_
        refine Tr.pass rfl rfl rfl rfl rfl (by decide) ?_
        refine Tr.val (wn rfl) rfl (fun _ _ h1 h2 => run_pickT (h1.ev rfl) (h1.ev rfl)) ?_
        exact Tr.nil (Tr.fin0 (.cons rfl (.cons rfl (.cons rfl (.cons rfl .nil)))) (.cons rfl (.cons rfl (.cons rfl .nil))))
    · show Tr _ _ (LF [(2, (.pointer (some ⟨b100, 0, none⟩))), (3, (.pointer (some ⟨b101, 0, none⟩))), (5, (.pointer (some ⟨b102, 0, none⟩))), (32, (.bool g106))]) (LE [(1, bx b100 #[(.int .i64 p0.W), (.int .i64 p0.H), (.int .i64 p0.Rail), (.int .i64 p0.Gap), (.slice Ap0_0 (p0.Kinds).length cp0_0), (.slice Ap0_1 (p0.Slots).length cp0_1), (.slice Ap0_2 (p0.Marks).length cp0_2)] 26), (2, bx b101 #[(.int .i64 p1.X), (.int .i64 p1.Y)] 32), (3, bx b102 #[(.int .i64 0), (.int .i64 0)] 32)]) _
      refine Tr.nil (Tr.normThen ?_)
      refine Tr.cond rfl H (fun H => ?_) (fun H => ?_)
      · refine Tr.seq ?_
        refine Tr.region ?_
        refine Tr.build (vs := []) (cs := [(.int .i64 0), (.int .i64 0)]) (wn rfl) rfl evs_nil (by kernel_rfl) ?_
        refine Tr.val (wn rfl) rfl (fun _ _ h1 h2 => run_assign (h1.ev rfl)) ?_
        refine Tr.store 3 (cs := [(.int .i64 0), (.int .i64 0)]) [(.int .i64 0), (.int .i64 0)] (wn rfl) rfl rfl rfl rfl sz_32 rfl rfl rfl ?_
        refine Tr.val (wn rfl) rfl (fun _ _ h1 h2 => run_assign (h1.ev rfl)) ?_
        refine Tr.val (wn rfl) rfl (fun _ _ h1 h2 => run_assign (h1.ev rfl)) ?_
        refine Tr.nil (Tr.normThen ?_)
        refine Tr.ret (Tr.retThen ?_)
        obtain rfl := Option.some.inj H
        exact Tr.out (m := [(.int .i64 0), (.agg #[(.int .i64 0), (.int .i64 0)]), (.bool false), (.int .i64 1)]) [3] (res_tmp rfl (res_cell rfl rfl ag_32 sz_32 (res_tmp rfl (res_tmp rfl res_nil)))) (fun W hW => ⟨rfl, hW.low leB⟩)
      · refine Tr.skip (Tr.normThen ?_)
        refine Tr.seq ?_
        refine Tr.seq ?_
        refine Tr.region ?_
        refine Tr.val (wn rfl) rfl (fun _ _ h1 h2 => run_assign (h1.ev rfl)) ?_
        refine Tr.nil (Tr.normThen ?_)
        refine Tr.block ?_
        refine Tr.loop (σ := Int) (fun m w s => F_etchhouseref9_ToBoard_L1 N p0 p1 m s = some r) (fun s => [(2, (.pointer (some ⟨b100, 0, none⟩))), (3, (.pointer (some ⟨b101, 0, none⟩))), (5, (.pointer (some ⟨b102, 0, none⟩))), (9, (.int .i64 s))]) (fun s => [(1, bx b100 #[(.int .i64 p0.W), (.int .i64 p0.H), (.int .i64 p0.Rail), (.int .i64 p0.Gap), (.slice Ap0_0 (p0.Kinds).length cp0_0), (.slice Ap0_1 (p0.Slots).length cp0_1), (.slice Ap0_2 (p0.Marks).length cp0_2)] 26), (2, bx b101 #[(.int .i64 p1.X), (.int .i64 p1.Y)] 32), (3, bx b102 #[(.int .i64 0), (.int .i64 0)] 32)]) N 0 H (.cons rfl (.cons rfl (.cons rfl (.cons rfl .nil)))) (.cons rfl (.cons rfl (.cons rfl .nil))) (fun _ _ h => noSome (h)) ?_
        intro w leF_etchhouseref9_ToBoard_L1 mF_etchhouseref9_ToBoard_L1 x135 hs
        have H := hs
        replace H : F_etchhouseref9_ToBoard_L1 N p0 p1 (mF_etchhouseref9_ToBoard_L1 + 1) x135 = some r := H
        replace hp0_0 := hp0_0.leR leF_etchhouseref9_ToBoard_L1
        replace hp0_1 := hp0_1.leR leF_etchhouseref9_ToBoard_L1
        replace hp0_2 := hp0_2.leR leF_etchhouseref9_ToBoard_L1
        replace leB := leB.trans leF_etchhouseref9_ToBoard_L1
        rw [F_etchhouseref9_ToBoard_L1.eq_2] at H
        show Tr _ _ (LF [(2, (.pointer (some ⟨b100, 0, none⟩))), (3, (.pointer (some ⟨b101, 0, none⟩))), (5, (.pointer (some ⟨b102, 0, none⟩))), (9, (.int .i64 x135))]) (LE [(1, bx b100 #[(.int .i64 p0.W), (.int .i64 p0.H), (.int .i64 p0.Rail), (.int .i64 p0.Gap), (.slice Ap0_0 (p0.Kinds).length cp0_0), (.slice Ap0_1 (p0.Slots).length cp0_1), (.slice Ap0_2 (p0.Marks).length cp0_2)] 26), (2, bx b101 #[(.int .i64 p1.X), (.int .i64 p1.Y)] 32), (3, bx b102 #[(.int .i64 0), (.int .i64 0)] 32)]) _
        refine Tr.seq ?_
        refine Tr.seq ?_
        refine Tr.region ?_
        refine Tr.val (wn rfl) rfl (fun _ _ h1 h2 => run_move (h1.ev rfl)) ?_
        refine Tr.val (wn rfl) rfl (fun _ _ h1 h2 => run_fieldAddr fo_26_5 (h1.ev rfl)) ?_
        refine Tr.val (wn rfl) rfl (fun _ _ h1 h2 => run_load1 ag_23 (h1.ev rfl) (rdb h2 (vs := [(.int .i64 p0.W), (.int .i64 p0.H), (.int .i64 p0.Rail), (.int .i64 p0.Gap), (.slice Ap0_0 (p0.Kinds).length cp0_0), (.slice Ap0_1 (p0.Slots).length cp0_1), (.slice Ap0_2 (p0.Marks).length cp0_2)]) (k := 1) rfl 5) rfl) ?_
        refine Tr.val (wn rfl) rfl (fun _ _ h1 h2 => run_len un_23 (h1.ev rfl)) ?_
        refine Tr.val (wn rfl) rfl (fun _ _ h1 h2 => run_lss (h1.ev rfl) (h1.ev rfl)) ?_
        refine Tr.nil (Tr.normThen ?_)
        refine Tr.cond rfl H (fun H => ?_) (fun H => ?_)
        · refine Tr.skip (Tr.normThen ?_)
          refine Tr.seq ?_
          refine Tr.block ?_
          refine Tr.seq ?_
          obtain ⟨x137, hx137, H⟩ := bnd H
          obtain ⟨hx1370, hx1371, hx1372⟩ := idx_some hx137
          obtain ⟨y138, hy138, H⟩ := bnd H
          refine Tr.drawF 8 [(7, .makeFunc (.func 0) #[] #[])] [(7, ⟨10, 10, (.func (.func 0) #[] #[]), fun b => .pointer (some ⟨b, 0, none⟩), fun b => bx b #[(.int .i64 0), (.int .i64 0), (.int .i64 0), (.int .i64 0)] 42⟩)] [(2, (.pointer (some ⟨b100, 0, none⟩))), (3, (.pointer (some ⟨b101, 0, none⟩))), (5, (.pointer (some ⟨b102, 0, none⟩))), (9, (.int .i64 x135)), (10, (.func (.func 0) #[] #[])), (34, (.int .i64 x135)), (35, (.pointer (some ⟨b100, 5, none⟩))), (36, (.slice Ap0_1 (p0.Slots).length cp0_1)), (37, (.int .i64 (p0.Slots.length : Int))), (38, (.bool (decide (x135 < (p0.Slots.length : Int))))), (41, (.agg #[(.int .i64 p0.W), (.int .i64 p0.H), (.int .i64 p0.Rail), (.int .i64 p0.Gap), (.slice Ap0_0 (p0.Kinds).length cp0_0), (.slice Ap0_1 (p0.Slots).length cp0_1), (.slice Ap0_2 (p0.Marks).length cp0_2)])), (42, (.pointer (some ⟨b100, 5, none⟩))), (43, (.slice Ap0_1 (p0.Slots).length cp0_1)), (44, (.int .i64 x135)), (45, (.pointer (some ⟨adB Ap0_1, adO Ap0_1 + (x135).toNat * 4, none⟩))), (46, (.agg #[(.string x137.Board), (.int .i64 x137.Quarters), (.int .i64 x137.At.X), (.int .i64 x137.At.Y)])), (47, (.agg #[(.int .i64 y138.X0), (.int .i64 y138.Y0), (.int .i64 y138.X1), (.int .i64 y138.Y1)]))] (by kernel_rfl) (by kernel_rfl) (by kernel_rfl) (by kernel_rfl) (by kernel_rfl) (by kernel_rfl) (by kernel_rfl) (fall_cons (fr_alloc rfl rfl ze_42) fall_nil) (fall_cons rfl fall_nil) (fall_cons rfl fall_nil) ?_ ?_
          · refine Tq.val (wn rfl) rfl (fun _ _ h1 h2 => run_loadN (cs := [(.int .i64 p0.W), (.int .i64 p0.H), (.int .i64 p0.Rail), (.int .i64 p0.Gap), (.slice Ap0_0 (p0.Kinds).length cp0_0), (.slice Ap0_1 (p0.Slots).length cp0_1), (.slice Ap0_2 (p0.Marks).length cp0_2)]) ag_26 sz_26 (h1.ev rfl) (CellsAt.take (rdb h2 (vs := [(.int .i64 p0.W), (.int .i64 p0.H), (.int .i64 p0.Rail), (.int .i64 p0.Gap), (.slice Ap0_0 (p0.Kinds).length cp0_0), (.slice Ap0_1 (p0.Slots).length cp0_1), (.slice Ap0_2 (p0.Marks).length cp0_2)]) (k := 1) rfl 0) 7) rfl) ?_
            refine Tq.val (wn rfl) rfl (fun _ _ h1 h2 => run_fieldAddr fo_26_5 (h1.ev rfl)) ?_
            refine Tq.val (wn rfl) rfl (fun _ _ h1 h2 => run_load1 ag_23 (h1.ev rfl) (rdb h2 (vs := [(.int .i64 p0.W), (.int .i64 p0.H), (.int .i64 p0.Rail), (.int .i64 p0.Gap), (.slice Ap0_0 (p0.Kinds).length cp0_0), (.slice Ap0_1 (p0.Slots).length cp0_1), (.slice Ap0_2 (p0.Marks).length cp0_2)]) (k := 1) rfl 5) rfl) ?_
            refine Tq.val (wn rfl) rfl (fun _ _ h1 h2 => run_move (h1.ev rfl)) ?_
            refine Tq.val (wn rfl) rfl (fun _ _ h1 h2 => run_indexAddr el_23 (h1.ev rfl) hp0_1.form (h1.ev rfl) hx1370 hx1371) ?_
            refine Tq.val (wn rfl) rfl (fun _ _ h1 h2 => run_loadN (cs := [(.string x137.Board), (.int .i64 x137.Quarters), (.int .i64 x137.At.X), (.int .i64 x137.At.Y)]) ag_34 sz_34 (h1.ev rfl) (CellsAt.take (rdF ef_TSlot hp0_1 hx1372 h2) 4) rfl) ?_
            refine Tq.call0 (r := (.agg #[(.int .i64 y138.X0), (.int .i64 y138.Y0), (.int .i64 y138.X1), (.int .i64 y138.Y1)])) (wn rfl) rfl Try.call50 (evl_cons rfl (evl_cons rfl evl_nil)) (fun W hW => F_etchhouseref9_cellOf_ok N p0 Ap0_0 cp0_0 (hp0_0.ext hW.extAll) Ap0_1 cp0_1 (hp0_1.ext hW.extAll) Ap0_2 cp0_2 (hp0_2.ext hW.extAll) x137 y138 hy138 (HF.start _)) ?_
            refine Tq.mkFunc (vs := []) (wn rfl) rfl evl_nil ?_
            exact Tq.fin (.cons rfl (.cons rfl (.cons rfl (.cons rfl (.cons rfl (.cons rfl (.cons rfl (.cons rfl (.cons rfl (.cons rfl (.cons rfl (.cons rfl (.cons rfl (.cons rfl (.cons rfl (.cons rfl (.cons rfl .nil)))))))))))))))))
          · intro bs136
            refine Tr.sel (lf := [(2, (.pointer (some ⟨b100, 0, none⟩))), (3, (.pointer (some ⟨b101, 0, none⟩))), (5, (.pointer (some ⟨b102, 0, none⟩))), (9, (.int .i64 x135)), (10, (.pointer (some ⟨(bs136 7), 0, none⟩))), (47, (.agg #[(.int .i64 y138.X0), (.int .i64 y138.Y0), (.int .i64 y138.X1), (.int .i64 y138.Y1)]))]) (le := [(1, bx b100 #[(.int .i64 p0.W), (.int .i64 p0.H), (.int .i64 p0.Rail), (.int .i64 p0.Gap), (.slice Ap0_0 (p0.Kinds).length cp0_0), (.slice Ap0_1 (p0.Slots).length cp0_1), (.slice Ap0_2 (p0.Marks).length cp0_2)] 26), (2, bx b101 #[(.int .i64 p1.X), (.int .i64 p1.Y)] 32), (3, bx b102 #[(.int .i64 0), (.int .i64 0)] 32), (10, bx (bs136 7) #[(.int .i64 0), (.int .i64 0), (.int .i64 0), (.int .i64 0)] 42)]) (.cons rfl (.cons rfl (.cons rfl (.cons rfl (.cons rfl (.cons rfl .nil)))))) (.cons rfl (.cons rfl (.cons rfl (.cons rfl .nil)))) ?_
            refine Tr.store 10 (cs := [(.int .i64 y138.X0), (.int .i64 y138.Y0), (.int .i64 y138.X1), (.int .i64 y138.Y1)]) [(.int .i64 y138.X0), (.int .i64 y138.Y0), (.int .i64 y138.X1), (.int .i64 y138.Y1)] (wn rfl) rfl rfl rfl rfl sz_42 rfl rfl rfl ?_
            refine Tr.nil (Tr.normThen ?_)
            refine Tr.seq ?_
            refine Tr.region ?_
            refine Tr.val (wn rfl) rfl (fun _ _ h1 h2 => run_fieldAddr fo_32_0 (h1.ev rfl)) ?_
            refine Tr.val (wn rfl) rfl (fun _ _ h1 h2 => run_load1 ag_3 (h1.ev rfl) (rdb h2 (vs := [(.int .i64 p1.X), (.int .i64 p1.Y)]) (k := 2) rfl 0) rfl) ?_
            refine Tr.val (wn rfl) rfl (fun _ _ h1 h2 => run_fieldAddr fo_42_0 (h1.ev rfl)) ?_
            refine Tr.val (wn rfl) rfl (fun _ _ h1 h2 => run_load1 ag_3 (h1.ev rfl) (rdb h2 (vs := [(.int .i64 y138.X0), (.int .i64 y138.Y0), (.int .i64 y138.X1), (.int .i64 y138.Y1)]) (k := 10) rfl 0) rfl) ?_
            refine Tr.val (wn rfl) rfl (fun _ _ h1 h2 => run_fieldAddr fo_42_2 (h1.ev rfl)) ?_
            refine Tr.val (wn rfl) rfl (fun _ _ h1 h2 => run_load1 ag_3 (h1.ev rfl) (rdb h2 (vs := [(.int .i64 y138.X0), (.int .i64 y138.Y0), (.int .i64 y138.X1), (.int .i64 y138.Y1)]) (k := 10) rfl 2) rfl) ?_
            obtain ⟨y139, hy139, H⟩ := bnd H
            refine Tr.call0 (r := (.bool y139)) (wn rfl) rfl Try.call49 (evl_cons rfl (evl_cons rfl (evl_cons rfl evl_nil))) (fun W hW => F_etchhouseref9_within_ok p1.X y138.X0 y138.X1 y139 hy139 (HF.start _)) ?_
            refine Tr.val (wn rfl) rfl (fun _ _ h1 h2 => run_move (h1.ev rfl)) ?_
            obtain ⟨g141, hg141, H⟩ := bnd H
            refine Tr.mid0 8 [(2, (.pointer (some ⟨b100, 0, none⟩))), (3, (.pointer (some ⟨b101, 0, none⟩))), (5, (.pointer (some ⟨b102, 0, none⟩))), (9, (.int .i64 x135)), (63, (.bool g141))] [(1, bx b100 #[(.int .i64 p0.W), (.int .i64 p0.H), (.int .i64 p0.Rail), (.int .i64 p0.Gap), (.slice Ap0_0 (p0.Kinds).length cp0_0), (.slice Ap0_1 (p0.Slots).length cp0_1), (.slice Ap0_2 (p0.Marks).length cp0_2)] 26), (2, bx b101 #[(.int .i64 p1.X), (.int .i64 p1.Y)] 32), (3, bx b102 #[(.int .i64 0), (.int .i64 0)] 32), (10, bx (bs136 7) #[(.int .i64 y138.X0), (.int .i64 y138.Y0), (.int .i64 y138.X1), (.int .i64 y138.Y1)] 42)] ?_ ?_
            · cases hg147 : y139
              · rw [hg147] at hg141
                rw [if_neg (by decide)] at hg141
                have H := hg141
                obtain rfl := Option.some.inj H
                refine Tr.pass rfl rfl rfl rfl rfl (by decide) ?_
                refine Tr.pass rfl rfl rfl rfl rfl (by decide) ?_
                refine Tr.pass rfl rfl rfl rfl rfl (by decide) ?_
                refine Tr.pass rfl rfl rfl rfl rfl (by decide) ?_
                refine Tr.pass rfl rfl rfl rfl rfl (by decide) ?_
                refine Tr.pass rfl rfl rfl rfl rfl (by decide) ?_
                refine Tr.pass rfl rfl rfl rfl rfl (by decide) ?_
                refine Tr.val (wn rfl) rfl (fun _ _ h1 h2 => run_pickF (h1.ev rfl) (h1.ev rfl)) ?_
                exact Tr.nil (Tr.fin0 (.cons rfl (.cons rfl (.cons rfl (.cons rfl (.cons rfl .nil))))) (.cons rfl (.cons rfl (.cons rfl (.cons rfl .nil)))))
              · rw [hg147] at hg141
                rw [if_pos rfl] at hg141
                have H := hg141
                refine Tr.val (wg rfl rfl rfl) rfl (fun _ _ h1 h2 => run_fieldAddr fo_32_1 (h1.ev rfl)) ?_
                refine Tr.val (wg rfl rfl rfl) rfl (fun _ _ h1 h2 => run_load1 ag_3 (h1.ev rfl) (rdb h2 (vs := [(.int .i64 p1.X), (.int .i64 p1.Y)]) (k := 2) rfl 1) rfl) ?_
                refine Tr.val (wg rfl rfl rfl) rfl (fun _ _ h1 h2 => run_fieldAddr fo_42_1 (h1.ev rfl)) ?_
                refine Tr.val (wg rfl rfl rfl) rfl (fun _ _ h1 h2 => run_load1 ag_3 (h1.ev rfl) (rdb h2 (vs := [(.int .i64 y138.X0), (.int .i64 y138.Y0), (.int .i64 y138.X1), (.int .i64 y138.Y1)]) (k := 10) rfl 1) rfl) ?_
                refine Tr.val (wg rfl rfl rfl) rfl (fun _ _ h1 h2 => run_fieldAddr fo_42_3 (h1.ev rfl)) ?_
                refine Tr.val (wg rfl rfl rfl) rfl (fun _ _ h1 h2 => run_load1 ag_3 (h1.ev rfl) (rdb h2 (vs := [(.int .i64 y138.X0), (.int .i64 y138.Y0), (.int .i64 y138.X1), (.int .i64 y138.Y1)]) (k := 10) rfl 3) rfl) ?_
                obtain ⟨y142, hy142, H⟩ := bnd H
                refine Tr.call0 (r := (.bool y142)) (wg rfl rfl rfl) rfl Try.call49 (evl_cons rfl (evl_cons rfl (evl_cons rfl evl_nil))) (fun W hW => F_etchhouseref9_within_ok p1.Y y138.Y0 y138.Y1 y142 hy142 (HF.start _)) ?_
                refine Tr.val (wn rfl) rfl (fun _ _ h1 h2 => run_pickT (h1.ev rfl) (h1.ev rfl)) ?_
                obtain rfl := Option.some.inj H
                exact Tr.nil (Tr.fin0 (.cons rfl (.cons rfl (.cons rfl (.cons rfl (.cons rfl .nil))))) (.cons rfl (.cons rfl (.cons rfl (.cons rfl .nil)))))
            · show Tr _ _ (LF [(2, (.pointer (some ⟨b100, 0, none⟩))), (3, (.pointer (some ⟨b101, 0, none⟩))), (5, (.pointer (some ⟨b102, 0, none⟩))), (9, (.int .i64 x135)), (63, (.bool g141))]) (LE [(1, bx b100 #[(.int .i64 p0.W), (.int .i64 p0.H), (.int .i64 p0.Rail), (.int .i64 p0.Gap), (.slice Ap0_0 (p0.Kinds).length cp0_0), (.slice Ap0_1 (p0.Slots).length cp0_1), (.slice Ap0_2 (p0.Marks).length cp0_2)] 26), (2, bx b101 #[(.int .i64 p1.X), (.int .i64 p1.Y)] 32), (3, bx b102 #[(.int .i64 0), (.int .i64 0)] 32), (10, bx (bs136 7) #[(.int .i64 y138.X0), (.int .i64 y138.Y0), (.int .i64 y138.X1), (.int .i64 y138.Y1)] 42)]) _
              refine Tr.nil (Tr.normThen ?_)
              refine Tr.cond rfl H (fun H => ?_) (fun H => ?_)
              · refine Tr.seq ?_
                obtain ⟨x144, hx144, H⟩ := bnd H
                obtain ⟨hx1440, hx1441, hx1442⟩ := idx_some hx144
                obtain ⟨y145, hy145, H⟩ := bnd H
                refine Tr.drawF 8 [(7, .makeFunc (.func 0) #[] #[])] [(7, ⟨11, 11, (.func (.func 0) #[] #[]), fun b => .pointer (some ⟨b, 0, none⟩), fun b => bx b #[(.bool false), (.int .i64 0), (.int .i64 0), (.int .i64 0)] 46⟩)] [(2, (.pointer (some ⟨b100, 0, none⟩))), (3, (.pointer (some ⟨b101, 0, none⟩))), (5, (.pointer (some ⟨b102, 0, none⟩))), (9, (.int .i64 x135)), (11, (.func (.func 0) #[] #[])), (63, (.bool g141)), (64, (.agg #[(.int .i64 p0.W), (.int .i64 p0.H), (.int .i64 p0.Rail), (.int .i64 p0.Gap), (.slice Ap0_0 (p0.Kinds).length cp0_0), (.slice Ap0_1 (p0.Slots).length cp0_1), (.slice Ap0_2 (p0.Marks).length cp0_2)])), (65, (.pointer (some ⟨b100, 5, none⟩))), (66, (.slice Ap0_1 (p0.Slots).length cp0_1)), (67, (.int .i64 x135)), (68, (.pointer (some ⟨adB Ap0_1, adO Ap0_1 + (x135).toNat * 4, none⟩))), (69, (.agg #[(.string x144.Board), (.int .i64 x144.Quarters), (.int .i64 x144.At.X), (.int .i64 x144.At.Y)])), (70, (.agg #[(.bool y145.Flip), (.int .i64 y145.Quarters), (.int .i64 y145.At.X), (.int .i64 y145.At.Y)]))] (by kernel_rfl) (by kernel_rfl) (by kernel_rfl) (by kernel_rfl) (by kernel_rfl) (by kernel_rfl) (by kernel_rfl) (fall_cons (fr_alloc rfl rfl ze_46) fall_nil) (fall_cons rfl fall_nil) (fall_cons rfl fall_nil) ?_ ?_
                · refine Tq.val (wn rfl) rfl (fun _ _ h1 h2 => run_loadN (cs := [(.int .i64 p0.W), (.int .i64 p0.H), (.int .i64 p0.Rail), (.int .i64 p0.Gap), (.slice Ap0_0 (p0.Kinds).length cp0_0), (.slice Ap0_1 (p0.Slots).length cp0_1), (.slice Ap0_2 (p0.Marks).length cp0_2)]) ag_26 sz_26 (h1.ev rfl) (CellsAt.take (rdb h2 (vs := [(.int .i64 p0.W), (.int .i64 p0.H), (.int .i64 p0.Rail), (.int .i64 p0.Gap), (.slice Ap0_0 (p0.Kinds).length cp0_0), (.slice Ap0_1 (p0.Slots).length cp0_1), (.slice Ap0_2 (p0.Marks).length cp0_2)]) (k := 1) rfl 0) 7) rfl) ?_
                  refine Tq.val (wn rfl) rfl (fun _ _ h1 h2 => run_fieldAddr fo_26_5 (h1.ev rfl)) ?_
                  refine Tq.val (wn rfl) rfl (fun _ _ h1 h2 => run_load1 ag_23 (h1.ev rfl) (rdb h2 (vs := [(.int .i64 p0.W), (.int .i64 p0.H), (.int .i64 p0.Rail), (.int .i64 p0.Gap), (.slice Ap0_0 (p0.Kinds).length cp0_0), (.slice Ap0_1 (p0.Slots).length cp0_1), (.slice Ap0_2 (p0.Marks).length cp0_2)]) (k := 1) rfl 5) rfl) ?_
                  refine Tq.val (wn rfl) rfl (fun _ _ h1 h2 => run_move (h1.ev rfl)) ?_
                  refine Tq.val (wn rfl) rfl (fun _ _ h1 h2 => run_indexAddr el_23 (h1.ev rfl) hp0_1.form (h1.ev rfl) hx1440 hx1441) ?_
                  refine Tq.val (wn rfl) rfl (fun _ _ h1 h2 => run_loadN (cs := [(.string x144.Board), (.int .i64 x144.Quarters), (.int .i64 x144.At.X), (.int .i64 x144.At.Y)]) ag_34 sz_34 (h1.ev rfl) (CellsAt.take (rdF ef_TSlot hp0_1 hx1442 h2) 4) rfl) ?_
                  refine Tq.call0 (r := (.agg #[(.bool y145.Flip), (.int .i64 y145.Quarters), (.int .i64 y145.At.X), (.int .i64 y145.At.Y)])) (wn rfl) rfl Try.call53 (evl_cons rfl (evl_cons rfl evl_nil)) (fun W hW => F_etchhouseref9_turnOf_ok N p0 Ap0_0 cp0_0 (hp0_0.ext hW.extAll) Ap0_1 cp0_1 (hp0_1.ext hW.extAll) Ap0_2 cp0_2 (hp0_2.ext hW.extAll) x144 y145 hy145 (HF.start _)) ?_
                  refine Tq.mkFunc (vs := []) (wn rfl) rfl evl_nil ?_
                  exact Tq.fin (.cons rfl (.cons rfl (.cons rfl (.cons rfl (.cons rfl (.cons rfl (.cons rfl (.cons rfl (.cons rfl (.cons rfl (.cons rfl (.cons rfl (.cons rfl .nil)))))))))))))
                · intro bs143
                  refine Tr.sel (lf := [(3, (.pointer (some ⟨b101, 0, none⟩))), (5, (.pointer (some ⟨b102, 0, none⟩))), (9, (.int .i64 x135)), (11, (.pointer (some ⟨(bs143 7), 0, none⟩))), (70, (.agg #[(.bool y145.Flip), (.int .i64 y145.Quarters), (.int .i64 y145.At.X), (.int .i64 y145.At.Y)]))]) (le := [(1, bx b100 #[(.int .i64 p0.W), (.int .i64 p0.H), (.int .i64 p0.Rail), (.int .i64 p0.Gap), (.slice Ap0_0 (p0.Kinds).length cp0_0), (.slice Ap0_1 (p0.Slots).length cp0_1), (.slice Ap0_2 (p0.Marks).length cp0_2)] 26), (2, bx b101 #[(.int .i64 p1.X), (.int .i64 p1.Y)] 32), (3, bx b102 #[(.int .i64 0), (.int .i64 0)] 32), (10, bx (bs136 7) #[(.int .i64 y138.X0), (.int .i64 y138.Y0), (.int .i64 y138.X1), (.int .i64 y138.Y1)] 42), (11, bx (bs143 7) #[(.bool false), (.int .i64 0), (.int .i64 0), (.int .i64 0)] 46)]) (.cons rfl (.cons rfl (.cons rfl (.cons rfl (.cons rfl .nil))))) (.cons rfl (.cons rfl (.cons rfl (.cons rfl (.cons rfl .nil))))) ?_
                  refine Tr.store 11 (cs := [(.bool y145.Flip), (.int .i64 y145.Quarters), (.int .i64 y145.At.X), (.int .i64 y145.At.Y)]) [(.bool y145.Flip), (.int .i64 y145.Quarters), (.int .i64 y145.At.X), (.int .i64 y145.At.Y)] (wn rfl) rfl rfl rfl rfl sz_46 rfl rfl rfl ?_
                  refine Tr.nil (Tr.normThen ?_)
                  refine Tr.seq ?_
                  refine Tr.region ?_
                  refine Tr.val (wn rfl) rfl (fun _ _ h1 h2 => run_fieldAddr fo_46_1 (h1.ev rfl)) ?_
                  refine Tr.val (wn rfl) rfl (fun _ _ h1 h2 => run_load1 ag_3 (h1.ev rfl) (rdb h2 (vs := [(.bool y145.Flip), (.int .i64 y145.Quarters), (.int .i64 y145.At.X), (.int .i64 y145.At.Y)]) (k := 11) rfl 1) rfl) ?_
                  refine Tr.val (wn rfl) rfl (fun _ _ h1 h2 => run_sub (h1.ev rfl) (h1.ev rfl)) ?_
                  refine Tr.val (wn rfl) rfl (fun _ _ h1 h2 => run_rem (h1.ev rfl) (h1.ev rfl) (by decide)) ?_
                  refine Tr.build (vs := [(1, (.int .i64 (Int.tmod (w64 (4 - y145.Quarters)) 4)))]) (cs := [(.bool false), (.int .i64 (Int.tmod (w64 (4 - y145.Quarters)) 4)), (.int .i64 0), (.int .i64 0)]) (wn rfl) rfl (evs_cons rfl evs_nil) (by kernel_rfl) ?_
                  refine Tr.alloc 12 (wn rfl) rfl ze_46 fun b146 => ?_
                  refine Tr.store 12 (cs := [(.bool false), (.int .i64 (Int.tmod (w64 (4 - y145.Quarters)) 4)), (.int .i64 0), (.int .i64 0)]) [(.bool false), (.int .i64 (Int.tmod (w64 (4 - y145.Quarters)) 4)), (.int .i64 0), (.int .i64 0)] (wn rfl) rfl rfl rfl rfl sz_46 rfl rfl rfl ?_
                  refine Tr.nil (Tr.normThen ?_)
                  refine Tr.seq ?_
                  refine Tr.region ?_
                  refine Tr.val (wn rfl) rfl (fun _ _ h1 h2 => run_move (h1.ev rfl)) ?_
                  refine Tr.val (wn rfl) rfl (fun _ _ h1 h2 => run_fieldAddr fo_32_0 (h1.ev rfl)) ?_
                  refine Tr.val (wn rfl) rfl (fun _ _ h1 h2 => run_load1 ag_3 (h1.ev rfl) (rdb h2 (vs := [(.int .i64 p1.X), (.int .i64 p1.Y)]) (k := 2) rfl 0) rfl) ?_
                  refine Tr.val (wn rfl) rfl (fun _ _ h1 h2 => run_fieldAddr fo_46_2 (h1.ev rfl)) ?_
                  refine Tr.val (wn rfl) rfl (fun _ _ h1 h2 => run_fieldAddr fo_32_0 (h1.ev rfl)) ?_
                  refine Tr.val (wn rfl) rfl (fun _ _ h1 h2 => run_load1 ag_3 (h1.ev rfl) (rdb h2 (vs := [(.bool y145.Flip), (.int .i64 y145.Quarters), (.int .i64 y145.At.X), (.int .i64 y145.At.Y)]) (k := 11) rfl 2) rfl) ?_
                  refine Tr.val (wn rfl) rfl (fun _ _ h1 h2 => run_sub (h1.ev rfl) (h1.ev rfl)) ?_
                  refine Tr.val (wn rfl) rfl (fun _ _ h1 h2 => run_fieldAddr fo_32_1 (h1.ev rfl)) ?_
                  refine Tr.val (wn rfl) rfl (fun _ _ h1 h2 => run_load1 ag_3 (h1.ev rfl) (rdb h2 (vs := [(.int .i64 p1.X), (.int .i64 p1.Y)]) (k := 2) rfl 1) rfl) ?_
                  refine Tr.val (wn rfl) rfl (fun _ _ h1 h2 => run_fieldAddr fo_46_2 (h1.ev rfl)) ?_
                  refine Tr.val (wn rfl) rfl (fun _ _ h1 h2 => run_fieldAddr fo_32_1 (h1.ev rfl)) ?_
                  refine Tr.val (wn rfl) rfl (fun _ _ h1 h2 => run_load1 ag_3 (h1.ev rfl) (rdb h2 (vs := [(.bool y145.Flip), (.int .i64 y145.Quarters), (.int .i64 y145.At.X), (.int .i64 y145.At.Y)]) (k := 11) rfl 3) rfl) ?_
                  refine Tr.val (wn rfl) rfl (fun _ _ h1 h2 => run_sub (h1.ev rfl) (h1.ev rfl)) ?_
                  refine Tr.build (vs := [(0, (.int .i64 (w64 (p1.X - y145.At.X)))), (1, (.int .i64 (w64 (p1.Y - y145.At.Y))))]) (cs := [(.int .i64 (w64 (p1.X - y145.At.X))), (.int .i64 (w64 (p1.Y - y145.At.Y)))]) (wn rfl) rfl (evs_cons rfl (evs_cons rfl evs_nil)) (by kernel_rfl) ?_
                  refine Tr.val (wn rfl) rfl (fun _ _ h1 h2 => run_loadN (cs := [(.bool false), (.int .i64 (Int.tmod (w64 (4 - y145.Quarters)) 4)), (.int .i64 0), (.int .i64 0)]) ag_46 sz_46 (h1.ev rfl) (CellsAt.take (rdb h2 (vs := [(.bool false), (.int .i64 (Int.tmod (w64 (4 - y145.Quarters)) 4)), (.int .i64 0), (.int .i64 0)]) (k := 12) rfl 0) 4) rfl) ?_
                  obtain ⟨y147, hy147, H⟩ := bnd H
                  refine Tr.call0 (r := (.agg #[(.int .i64 y147.X), (.int .i64 y147.Y)])) (wn rfl) rfl Try.call56 (evl_cons rfl (evl_cons rfl evl_nil)) (fun W hW => F_etchhouseref1_TurnPoint_ok N (TPoint.mk (w64 (p1.X - y145.At.X)) (w64 (p1.Y - y145.At.Y))) (TTurn.mk false (Int.tmod (w64 (4 - y145.Quarters)) 4) (TPoint.mk 0 0)) y147 hy147 (HF.start _)) ?_
                  refine Tr.val (wn rfl) rfl (fun _ _ h1 h2 => run_assign (h1.ev rfl)) ?_
                  refine Tr.store 3 (cs := [(.int .i64 y147.X), (.int .i64 y147.Y)]) [(.int .i64 y147.X), (.int .i64 y147.Y)] (wn rfl) rfl rfl rfl rfl sz_32 rfl rfl rfl ?_
                  refine Tr.val (wn rfl) rfl (fun _ _ h1 h2 => run_assign (h1.ev rfl)) ?_
                  refine Tr.val (wn rfl) rfl (fun _ _ h1 h2 => run_assign (h1.ev rfl)) ?_
                  refine Tr.nil (Tr.normThen ?_)
                  refine Tr.ret (Tr.retBlock (Tr.retThen (Tr.retThen (Tr.retBlock (Tr.retThen ?_)))))
                  obtain rfl := Option.some.inj H
                  exact Tr.out (m := [(.int .i64 x135), (.agg #[(.int .i64 y147.X), (.int .i64 y147.Y)]), (.bool true), (.int .i64 0)]) [3] (res_tmp rfl (res_cell rfl rfl ag_32 sz_32 (res_tmp rfl (res_tmp rfl res_nil)))) (fun W hW => ⟨rfl, hW.low leB⟩)
              · refine Tr.skip (Tr.normBlock (Tr.normThen ?_))
                refine Tr.region ?_
                refine Tr.val (wn rfl) rfl (fun _ _ h1 h2 => run_move (h1.ev rfl)) ?_
                refine Tr.val (wn rfl) rfl (fun _ _ h1 h2 => run_add (h1.ev rfl) (h1.ev rfl)) ?_
                refine Tr.val (wn rfl) rfl (fun _ _ h1 h2 => run_assign (h1.ev rfl)) ?_
                refine Tr.nil ?_
                exact Tr.backThen leF_etchhouseref9_ToBoard_L1 (w64 (x135 + 1)) H (.cons rfl (.cons rfl (.cons rfl (.cons rfl .nil)))) (.cons rfl (.cons rfl (.cons rfl .nil)))
        · refine Tr.exit (Tr.exitThen (Tr.exitThen (Tr.exitBlock (Tr.normThen ?_))))
          refine Tr.seq ?_
          refine Tr.region ?_
          refine Tr.build (vs := []) (cs := [(.int .i64 0), (.int .i64 0)]) (wn rfl) rfl evs_nil (by kernel_rfl) ?_
          refine Tr.val (wn rfl) rfl (fun _ _ h1 h2 => run_assign (h1.ev rfl)) ?_
          refine Tr.store 3 (cs := [(.int .i64 0), (.int .i64 0)]) [(.int .i64 0), (.int .i64 0)] (wn rfl) rfl rfl rfl rfl sz_32 rfl rfl rfl ?_
          refine Tr.val (wn rfl) rfl (fun _ _ h1 h2 => run_assign (h1.ev rfl)) ?_
          refine Tr.val (wn rfl) rfl (fun _ _ h1 h2 => run_assign (h1.ev rfl)) ?_
          refine Tr.nil (Tr.normThen ?_)
          refine Tr.ret ?_
          obtain rfl := Option.some.inj H
          exact Tr.out (m := [(.int .i64 0), (.agg #[(.int .i64 0), (.int .i64 0)]), (.bool false), (.int .i64 0)]) [3] (res_tmp rfl (res_cell rfl rfl ag_32 sz_32 (res_tmp rfl (res_tmp rfl res_nil)))) (fun W hW => ⟨rfl, hW.low leB⟩)

theorem F_etchhouselaw9_PanelPointsMatchSpec_ok (N : Nat) {w : Bs} (p0 : TPanel) (Ap0_0 : Option Addr) (cp0_0 : Nat) (hp0_0 : Sl w.R w.W fl_TBoardKind Ap0_0 cp0_0 p0.Kinds) (Ap0_1 : Option Addr) (cp0_1 : Nat) (hp0_1 : Sl w.R w.W fl_TSlot Ap0_1 cp0_1 p0.Slots) (Ap0_2 : Option Addr) (cp0_2 : Nat) (hp0_2 : Sl w.R w.W fl_TPoint Ap0_2 cp0_2 p0.Marks) (p1 : Int) (p2 : TPoint) (r : Bool) (H : F_etchhouselaw9_PanelPointsMatchSpec N p0 p1 p2 = some r) (hE : HF w w.W E0) : Calls Try.prog 6 [(.agg #[(.int .i64 p0.W), (.int .i64 p0.H), (.int .i64 p0.Rail), (.int .i64 p0.Gap), (.slice Ap0_0 (p0.Kinds).length cp0_0), (.slice Ap0_1 (p0.Slots).length cp0_1), (.slice Ap0_2 (p0.Marks).length cp0_2)]), (.int .i64 p1), (.agg #[(.int .i64 p2.X), (.int .i64 p2.Y)])].toArray w.W fun e W' => e = .returned (.bool r) ∧ HF w W' E0 := by
  unfold F_etchhouselaw9_PanelPointsMatchSpec at H
  have leB := Bs.Le.refl w
  refine Tr.enter (n := 100) Try.func6 rfl rfl rfl hE ?_
  refine Tr.seq ?_
  refine Tr.region ?_
  refine Tr.box 1 (cs := [(.int .i64 p0.W), (.int .i64 p0.H), (.int .i64 p0.Rail), (.int .i64 p0.Gap), (.slice Ap0_0 (p0.Kinds).length cp0_0), (.slice Ap0_1 (p0.Slots).length cp0_1), (.slice Ap0_2 (p0.Marks).length cp0_2)]) (wn rfl) rfl rfl rfl fun b100 => ?_
  refine Tr.box 2 (cs := [(.int .i64 p2.X), (.int .i64 p2.Y)]) (wn rfl) rfl rfl rfl fun b101 => ?_
  refine Tr.val (wn rfl) rfl (fun _ _ h1 h2 => run_assign (h1.ev rfl)) ?_
  refine Tr.nil (Tr.normThen ?_)
  refine Tr.seq ?_
  refine Tr.region ?_
  refine Tr.val (wn rfl) rfl (fun _ _ h1 h2 => run_loadN (cs := [(.int .i64 p0.W), (.int .i64 p0.H), (.int .i64 p0.Rail), (.int .i64 p0.Gap), (.slice Ap0_0 (p0.Kinds).length cp0_0), (.slice Ap0_1 (p0.Slots).length cp0_1), (.slice Ap0_2 (p0.Marks).length cp0_2)]) ag_26 sz_26 (h1.ev rfl) (CellsAt.take (rdb h2 (vs := [(.int .i64 p0.W), (.int .i64 p0.H), (.int .i64 p0.Rail), (.int .i64 p0.Gap), (.slice Ap0_0 (p0.Kinds).length cp0_0), (.slice Ap0_1 (p0.Slots).length cp0_1), (.slice Ap0_2 (p0.Marks).length cp0_2)]) (k := 1) rfl 0) 7) rfl) ?_
  refine Tr.val (wn rfl) rfl (fun _ _ h1 h2 => run_move (h1.ev rfl)) ?_
  obtain ⟨y102, hy102, H⟩ := bnd H
  refine Tr.call0 (r := (.tuple #[(.agg #[(.bool y102.1.Flip), (.int .i64 y102.1.Quarters), (.int .i64 y102.1.At.X), (.int .i64 y102.1.At.Y)]), (.int .i64 y102.2)])) (wn rfl) rfl Try.call20 (evl_cons rfl (evl_cons rfl evl_nil)) (fun W hW => F_panel_SlotTurn_ok N p0 Ap0_0 cp0_0 (hp0_0.ext hW.extAll) Ap0_1 cp0_1 (hp0_1.ext hW.extAll) Ap0_2 cp0_2 (hp0_2.ext hW.extAll) p1 y102 hy102 (HF.start _)) ?_
  refine Tr.val (wn rfl) rfl (fun _ _ h1 h2 => run_move (h1.ev rfl)) ?_
  refine Tr.val (wn rfl) rfl (fun _ _ h1 h2 => run_extract (h1.ev rfl) rfl) ?_
  refine Tr.val (wn rfl) rfl (fun _ _ h1 h2 => run_extract (h1.ev rfl) rfl) ?_
  refine Tr.alloc 3 (wn rfl) rfl ze_46 fun b103 => ?_
  refine Tr.store 3 (cs := [(.bool y102.1.Flip), (.int .i64 y102.1.Quarters), (.int .i64 y102.1.At.X), (.int .i64 y102.1.At.Y)]) [(.bool y102.1.Flip), (.int .i64 y102.1.Quarters), (.int .i64 y102.1.At.X), (.int .i64 y102.1.At.Y)] (wn rfl) rfl rfl rfl rfl sz_46 rfl rfl rfl ?_
  refine Tr.val (wn rfl) rfl (fun _ _ h1 h2 => run_assign (h1.ev rfl)) ?_
  refine Tr.nil (Tr.normThen ?_)
  refine Tr.seq ?_
  refine Tr.region ?_
  refine Tr.val (wn rfl) rfl (fun _ _ h1 h2 => run_loadN (cs := [(.int .i64 p0.W), (.int .i64 p0.H), (.int .i64 p0.Rail), (.int .i64 p0.Gap), (.slice Ap0_0 (p0.Kinds).length cp0_0), (.slice Ap0_1 (p0.Slots).length cp0_1), (.slice Ap0_2 (p0.Marks).length cp0_2)]) ag_26 sz_26 (h1.ev rfl) (CellsAt.take (rdb h2 (vs := [(.int .i64 p0.W), (.int .i64 p0.H), (.int .i64 p0.Rail), (.int .i64 p0.Gap), (.slice Ap0_0 (p0.Kinds).length cp0_0), (.slice Ap0_1 (p0.Slots).length cp0_1), (.slice Ap0_2 (p0.Marks).length cp0_2)]) (k := 1) rfl 0) 7) rfl) ?_
  refine Tr.val (wn rfl) rfl (fun _ _ h1 h2 => run_move (h1.ev rfl)) ?_
  obtain ⟨y104, hy104, H⟩ := bnd H
  refine Tr.call0 (r := (.tuple #[(.agg #[(.bool y104.1.Flip), (.int .i64 y104.1.Quarters), (.int .i64 y104.1.At.X), (.int .i64 y104.1.At.Y)]), (.int .i64 y104.2)])) (wn rfl) rfl Try.call21 (evl_cons rfl (evl_cons rfl evl_nil)) (fun W hW => F_etchhouseref9_SlotTurn_ok N p0 Ap0_0 cp0_0 (hp0_0.ext hW.extAll) Ap0_1 cp0_1 (hp0_1.ext hW.extAll) Ap0_2 cp0_2 (hp0_2.ext hW.extAll) p1 y104 hy104 (HF.start _)) ?_
  refine Tr.val (wn rfl) rfl (fun _ _ h1 h2 => run_move (h1.ev rfl)) ?_
  refine Tr.val (wn rfl) rfl (fun _ _ h1 h2 => run_extract (h1.ev rfl) rfl) ?_
  refine Tr.val (wn rfl) rfl (fun _ _ h1 h2 => run_extract (h1.ev rfl) rfl) ?_
  refine Tr.alloc 4 (wn rfl) rfl ze_46 fun b105 => ?_
  refine Tr.store 4 (cs := [(.bool y104.1.Flip), (.int .i64 y104.1.Quarters), (.int .i64 y104.1.At.X), (.int .i64 y104.1.At.Y)]) [(.bool y104.1.Flip), (.int .i64 y104.1.Quarters), (.int .i64 y104.1.At.X), (.int .i64 y104.1.At.Y)] (wn rfl) rfl rfl rfl rfl sz_46 rfl rfl rfl ?_
  refine Tr.val (wn rfl) rfl (fun _ _ h1 h2 => run_assign (h1.ev rfl)) ?_
  refine Tr.nil (Tr.normThen ?_)
  refine Tr.seq ?_
  refine Tr.region ?_
  refine Tr.val (wn rfl) rfl (fun _ _ h1 h2 => run_loadN (cs := [(.int .i64 p0.W), (.int .i64 p0.H), (.int .i64 p0.Rail), (.int .i64 p0.Gap), (.slice Ap0_0 (p0.Kinds).length cp0_0), (.slice Ap0_1 (p0.Slots).length cp0_1), (.slice Ap0_2 (p0.Marks).length cp0_2)]) ag_26 sz_26 (h1.ev rfl) (CellsAt.take (rdb h2 (vs := [(.int .i64 p0.W), (.int .i64 p0.H), (.int .i64 p0.Rail), (.int .i64 p0.Gap), (.slice Ap0_0 (p0.Kinds).length cp0_0), (.slice Ap0_1 (p0.Slots).length cp0_1), (.slice Ap0_2 (p0.Marks).length cp0_2)]) (k := 1) rfl 0) 7) rfl) ?_
  refine Tr.val (wn rfl) rfl (fun _ _ h1 h2 => run_move (h1.ev rfl)) ?_
  refine Tr.val (wn rfl) rfl (fun _ _ h1 h2 => run_loadN (cs := [(.int .i64 p2.X), (.int .i64 p2.Y)]) ag_32 sz_32 (h1.ev rfl) (CellsAt.take (rdb h2 (vs := [(.int .i64 p2.X), (.int .i64 p2.Y)]) (k := 2) rfl 0) 2) rfl) ?_
  obtain ⟨y106, hy106, H⟩ := bnd H
  refine Tr.call0 (r := (.tuple #[(.agg #[(.int .i64 y106.1.X), (.int .i64 y106.1.Y)]), (.int .i64 y106.2)])) (wn rfl) rfl Try.call22 (evl_cons rfl (evl_cons rfl (evl_cons rfl evl_nil))) (fun W hW => F_panel_ToPanel_ok N p0 Ap0_0 cp0_0 (hp0_0.ext hW.extAll) Ap0_1 cp0_1 (hp0_1.ext hW.extAll) Ap0_2 cp0_2 (hp0_2.ext hW.extAll) p1 p2 y106 hy106 (HF.start _)) ?_
  refine Tr.val (wn rfl) rfl (fun _ _ h1 h2 => run_move (h1.ev rfl)) ?_
  refine Tr.val (wn rfl) rfl (fun _ _ h1 h2 => run_extract (h1.ev rfl) rfl) ?_
  refine Tr.val (wn rfl) rfl (fun _ _ h1 h2 => run_extract (h1.ev rfl) rfl) ?_
  refine Tr.alloc 5 (wn rfl) rfl ze_32 fun b107 => ?_
  refine Tr.store 5 (cs := [(.int .i64 y106.1.X), (.int .i64 y106.1.Y)]) [(.int .i64 y106.1.X), (.int .i64 y106.1.Y)] (wn rfl) rfl rfl rfl rfl sz_32 rfl rfl rfl ?_
  refine Tr.val (wn rfl) rfl (fun _ _ h1 h2 => run_assign (h1.ev rfl)) ?_
  refine Tr.nil (Tr.normThen ?_)
  refine Tr.seq ?_
  refine Tr.region ?_
  refine Tr.val (wn rfl) rfl (fun _ _ h1 h2 => run_loadN (cs := [(.int .i64 p0.W), (.int .i64 p0.H), (.int .i64 p0.Rail), (.int .i64 p0.Gap), (.slice Ap0_0 (p0.Kinds).length cp0_0), (.slice Ap0_1 (p0.Slots).length cp0_1), (.slice Ap0_2 (p0.Marks).length cp0_2)]) ag_26 sz_26 (h1.ev rfl) (CellsAt.take (rdb h2 (vs := [(.int .i64 p0.W), (.int .i64 p0.H), (.int .i64 p0.Rail), (.int .i64 p0.Gap), (.slice Ap0_0 (p0.Kinds).length cp0_0), (.slice Ap0_1 (p0.Slots).length cp0_1), (.slice Ap0_2 (p0.Marks).length cp0_2)]) (k := 1) rfl 0) 7) rfl) ?_
  refine Tr.val (wn rfl) rfl (fun _ _ h1 h2 => run_move (h1.ev rfl)) ?_
  refine Tr.val (wn rfl) rfl (fun _ _ h1 h2 => run_loadN (cs := [(.int .i64 p2.X), (.int .i64 p2.Y)]) ag_32 sz_32 (h1.ev rfl) (CellsAt.take (rdb h2 (vs := [(.int .i64 p2.X), (.int .i64 p2.Y)]) (k := 2) rfl 0) 2) rfl) ?_
  obtain ⟨y108, hy108, H⟩ := bnd H
  refine Tr.call0 (r := (.tuple #[(.agg #[(.int .i64 y108.1.X), (.int .i64 y108.1.Y)]), (.int .i64 y108.2)])) (wn rfl) rfl Try.call23 (evl_cons rfl (evl_cons rfl (evl_cons rfl evl_nil))) (fun W hW => F_etchhouseref9_ToPanel_ok N p0 Ap0_0 cp0_0 (hp0_0.ext hW.extAll) Ap0_1 cp0_1 (hp0_1.ext hW.extAll) Ap0_2 cp0_2 (hp0_2.ext hW.extAll) p1 p2 y108 hy108 (HF.start _)) ?_
  refine Tr.val (wn rfl) rfl (fun _ _ h1 h2 => run_move (h1.ev rfl)) ?_
  refine Tr.val (wn rfl) rfl (fun _ _ h1 h2 => run_extract (h1.ev rfl) rfl) ?_
  refine Tr.val (wn rfl) rfl (fun _ _ h1 h2 => run_extract (h1.ev rfl) rfl) ?_
  refine Tr.alloc 6 (wn rfl) rfl ze_32 fun b109 => ?_
  refine Tr.store 6 (cs := [(.int .i64 y108.1.X), (.int .i64 y108.1.Y)]) [(.int .i64 y108.1.X), (.int .i64 y108.1.Y)] (wn rfl) rfl rfl rfl rfl sz_32 rfl rfl rfl ?_
  refine Tr.val (wn rfl) rfl (fun _ _ h1 h2 => run_assign (h1.ev rfl)) ?_
  refine Tr.nil (Tr.normThen ?_)
  refine Tr.seq ?_
  refine Tr.seq ?_
  refine Tr.region ?_
  refine Tr.val (wn rfl) rfl (fun _ _ h1 h2 => run_loadN (cs := [(.bool y102.1.Flip), (.int .i64 y102.1.Quarters), (.int .i64 y102.1.At.X), (.int .i64 y102.1.At.Y)]) ag_46 sz_46 (h1.ev rfl) (CellsAt.take (rdb h2 (vs := [(.bool y102.1.Flip), (.int .i64 y102.1.Quarters), (.int .i64 y102.1.At.X), (.int .i64 y102.1.At.Y)]) (k := 3) rfl 0) 4) rfl) ?_
  refine Tr.val (wn rfl) rfl (fun _ _ h1 h2 => run_loadN (cs := [(.bool y104.1.Flip), (.int .i64 y104.1.Quarters), (.int .i64 y104.1.At.X), (.int .i64 y104.1.At.Y)]) ag_46 sz_46 (h1.ev rfl) (CellsAt.take (rdb h2 (vs := [(.bool y104.1.Flip), (.int .i64 y104.1.Quarters), (.int .i64 y104.1.At.X), (.int .i64 y104.1.At.Y)]) (k := 4) rfl 0) 4) rfl) ?_
  refine Tr.val (wn rfl) rfl (fun _ _ h1 h2 => run_neq_46 y102.1 y104.1 (h1.ev rfl) (h1.ev rfl)) ?_
  refine Tr.val (wn rfl) rfl (fun _ _ h1 h2 => run_move (h1.ev rfl)) ?_
  refine Tr.mid0 4 [(3, (.pointer (some ⟨b100, 0, none⟩))), (5, (.pointer (some ⟨b101, 0, none⟩))), (11, (.pointer (some ⟨b107, 0, none⟩))), (12, (.int .i64 y106.2)), (13, (.pointer (some ⟨b109, 0, none⟩))), (14, (.int .i64 y108.2)), (52, (.bool ((!(eqTTurn y102.1 y104.1)) || (y102.2 != y104.2))))] [(1, bx b100 #[(.int .i64 p0.W), (.int .i64 p0.H), (.int .i64 p0.Rail), (.int .i64 p0.Gap), (.slice Ap0_0 (p0.Kinds).length cp0_0), (.slice Ap0_1 (p0.Slots).length cp0_1), (.slice Ap0_2 (p0.Marks).length cp0_2)] 26), (2, bx b101 #[(.int .i64 p2.X), (.int .i64 p2.Y)] 32), (3, bx b103 #[(.bool y102.1.Flip), (.int .i64 y102.1.Quarters), (.int .i64 y102.1.At.X), (.int .i64 y102.1.At.Y)] 46), (4, bx b105 #[(.bool y104.1.Flip), (.int .i64 y104.1.Quarters), (.int .i64 y104.1.At.X), (.int .i64 y104.1.At.Y)] 46), (5, bx b107 #[(.int .i64 y106.1.X), (.int .i64 y106.1.Y)] 32), (6, bx b109 #[(.int .i64 y108.1.X), (.int .i64 y108.1.Y)] 32)] ?_ ?_
  · cases hg114 : (!(eqTTurn y102.1 y104.1))
    · refine Tr.val (wg rfl rfl rfl) rfl (fun _ _ h1 h2 => run_move (h1.ev rfl)) ?_
      refine Tr.val (wg rfl rfl rfl) rfl (fun _ _ h1 h2 => run_move (h1.ev rfl)) ?_
      refine Tr.val (wg rfl rfl rfl) rfl (fun _ _ h1 h2 => run_neq (h1.ev rfl) (h1.ev rfl)) ?_
      refine Tr.val (wn rfl) rfl (fun _ _ h1 h2 => run_pickF (h1.ev rfl) (h1.ev rfl)) ?_
      exact Tr.nil (Tr.fin0 (.cons rfl (.cons rfl (.cons rfl (.cons rfl (.cons rfl (.cons rfl (.cons rfl .nil))))))) (.cons rfl (.cons rfl (.cons rfl (.cons rfl (.cons rfl (.cons rfl .nil)))))))
    · refine Tr.pass rfl rfl rfl rfl rfl (by decide) ?_
      refine Tr.pass rfl rfl rfl rfl rfl (by decide) ?_
      refine Tr.pass rfl rfl rfl rfl rfl (by decide) ?_
      refine Tr.val (wn rfl) rfl (fun _ _ h1 h2 => run_pickT (h1.ev rfl) (h1.ev rfl)) ?_
      exact Tr.nil (Tr.fin0 (.cons rfl (.cons rfl (.cons rfl (.cons rfl (.cons rfl (.cons rfl (.cons rfl .nil))))))) (.cons rfl (.cons rfl (.cons rfl (.cons rfl (.cons rfl (.cons rfl .nil)))))))
  · show Tr _ _ (LF [(3, (.pointer (some ⟨b100, 0, none⟩))), (5, (.pointer (some ⟨b101, 0, none⟩))), (11, (.pointer (some ⟨b107, 0, none⟩))), (12, (.int .i64 y106.2)), (13, (.pointer (some ⟨b109, 0, none⟩))), (14, (.int .i64 y108.2)), (52, (.bool ((!(eqTTurn y102.1 y104.1)) || (y102.2 != y104.2))))]) (LE [(1, bx b100 #[(.int .i64 p0.W), (.int .i64 p0.H), (.int .i64 p0.Rail), (.int .i64 p0.Gap), (.slice Ap0_0 (p0.Kinds).length cp0_0), (.slice Ap0_1 (p0.Slots).length cp0_1), (.slice Ap0_2 (p0.Marks).length cp0_2)] 26), (2, bx b101 #[(.int .i64 p2.X), (.int .i64 p2.Y)] 32), (3, bx b103 #[(.bool y102.1.Flip), (.int .i64 y102.1.Quarters), (.int .i64 y102.1.At.X), (.int .i64 y102.1.At.Y)] 46), (4, bx b105 #[(.bool y104.1.Flip), (.int .i64 y104.1.Quarters), (.int .i64 y104.1.At.X), (.int .i64 y104.1.At.Y)] 46), (5, bx b107 #[(.int .i64 y106.1.X), (.int .i64 y106.1.Y)] 32), (6, bx b109 #[(.int .i64 y108.1.X), (.int .i64 y108.1.Y)] 32)]) _
    refine Tr.val (wn rfl) rfl (fun _ _ h1 h2 => run_move (h1.ev rfl)) ?_
    refine Tr.mid0 4 [(3, (.pointer (some ⟨b100, 0, none⟩))), (5, (.pointer (some ⟨b101, 0, none⟩))), (11, (.pointer (some ⟨b107, 0, none⟩))), (12, (.int .i64 y106.2)), (13, (.pointer (some ⟨b109, 0, none⟩))), (14, (.int .i64 y108.2)), (57, (.bool (((!(eqTTurn y102.1 y104.1)) || (y102.2 != y104.2)) || (!(eqTPoint y106.1 y108.1)))))] [(1, bx b100 #[(.int .i64 p0.W), (.int .i64 p0.H), (.int .i64 p0.Rail), (.int .i64 p0.Gap), (.slice Ap0_0 (p0.Kinds).length cp0_0), (.slice Ap0_1 (p0.Slots).length cp0_1), (.slice Ap0_2 (p0.Marks).length cp0_2)] 26), (2, bx b101 #[(.int .i64 p2.X), (.int .i64 p2.Y)] 32), (3, bx b103 #[(.bool y102.1.Flip), (.int .i64 y102.1.Quarters), (.int .i64 y102.1.At.X), (.int .i64 y102.1.At.Y)] 46), (4, bx b105 #[(.bool y104.1.Flip), (.int .i64 y104.1.Quarters), (.int .i64 y104.1.At.X), (.int .i64 y104.1.At.Y)] 46), (5, bx b107 #[(.int .i64 y106.1.X), (.int .i64 y106.1.Y)] 32), (6, bx b109 #[(.int .i64 y108.1.X), (.int .i64 y108.1.Y)] 32)] ?_ ?_
    · cases hg114 : ((!(eqTTurn y102.1 y104.1)) || (y102.2 != y104.2))
      · refine Tr.val (wg rfl rfl rfl) rfl (fun _ _ h1 h2 => run_loadN (cs := [(.int .i64 y106.1.X), (.int .i64 y106.1.Y)]) ag_32 sz_32 (h1.ev rfl) (CellsAt.take (rdb h2 (vs := [(.int .i64 y106.1.X), (.int .i64 y106.1.Y)]) (k := 5) rfl 0) 2) rfl) ?_
        refine Tr.val (wg rfl rfl rfl) rfl (fun _ _ h1 h2 => run_loadN (cs := [(.int .i64 y108.1.X), (.int .i64 y108.1.Y)]) ag_32 sz_32 (h1.ev rfl) (CellsAt.take (rdb h2 (vs := [(.int .i64 y108.1.X), (.int .i64 y108.1.Y)]) (k := 6) rfl 0) 2) rfl) ?_
        refine Tr.val (wg rfl rfl rfl) rfl (fun _ _ h1 h2 => run_neq_32 y106.1 y108.1 (h1.ev rfl) (h1.ev rfl)) ?_
        refine Tr.val (wn rfl) rfl (fun _ _ h1 h2 => run_pickF (h1.ev rfl) (h1.ev rfl)) ?_
        exact Tr.nil (Tr.fin0 (.cons rfl (.cons rfl (.cons rfl (.cons rfl (.cons rfl (.cons rfl (.cons rfl .nil))))))) (.cons rfl (.cons rfl (.cons rfl (.cons rfl (.cons rfl (.cons rfl .nil)))))))
      · refine Tr.pass rfl rfl rfl rfl rfl (by decide) ?_
        refine Tr.pass rfl rfl rfl rfl rfl (by decide) ?_
        refine Tr.pass rfl rfl rfl rfl rfl (by decide) ?_
        refine Tr.val (wn rfl) rfl (fun _ _ h1 h2 => run_pickT (h1.ev rfl) (h1.ev rfl)) ?_
        exact Tr.nil (Tr.fin0 (.cons rfl (.cons rfl (.cons rfl (.cons rfl (.cons rfl (.cons rfl (.cons rfl .nil))))))) (.cons rfl (.cons rfl (.cons rfl (.cons rfl (.cons rfl (.cons rfl .nil)))))))
    · show Tr _ _ (LF [(3, (.pointer (some ⟨b100, 0, none⟩))), (5, (.pointer (some ⟨b101, 0, none⟩))), (11, (.pointer (some ⟨b107, 0, none⟩))), (12, (.int .i64 y106.2)), (13, (.pointer (some ⟨b109, 0, none⟩))), (14, (.int .i64 y108.2)), (57, (.bool (((!(eqTTurn y102.1 y104.1)) || (y102.2 != y104.2)) || (!(eqTPoint y106.1 y108.1)))))]) (LE [(1, bx b100 #[(.int .i64 p0.W), (.int .i64 p0.H), (.int .i64 p0.Rail), (.int .i64 p0.Gap), (.slice Ap0_0 (p0.Kinds).length cp0_0), (.slice Ap0_1 (p0.Slots).length cp0_1), (.slice Ap0_2 (p0.Marks).length cp0_2)] 26), (2, bx b101 #[(.int .i64 p2.X), (.int .i64 p2.Y)] 32), (3, bx b103 #[(.bool y102.1.Flip), (.int .i64 y102.1.Quarters), (.int .i64 y102.1.At.X), (.int .i64 y102.1.At.Y)] 46), (4, bx b105 #[(.bool y104.1.Flip), (.int .i64 y104.1.Quarters), (.int .i64 y104.1.At.X), (.int .i64 y104.1.At.Y)] 46), (5, bx b107 #[(.int .i64 y106.1.X), (.int .i64 y106.1.Y)] 32), (6, bx b109 #[(.int .i64 y108.1.X), (.int .i64 y108.1.Y)] 32)]) _
      refine Tr.val (wn rfl) rfl (fun _ _ h1 h2 => run_move (h1.ev rfl)) ?_
      refine Tr.mid0 4 [(3, (.pointer (some ⟨b100, 0, none⟩))), (5, (.pointer (some ⟨b101, 0, none⟩))), (11, (.pointer (some ⟨b107, 0, none⟩))), (13, (.pointer (some ⟨b109, 0, none⟩))), (62, (.bool ((((!(eqTTurn y102.1 y104.1)) || (y102.2 != y104.2)) || (!(eqTPoint y106.1 y108.1))) || (y106.2 != y108.2))))] [(1, bx b100 #[(.int .i64 p0.W), (.int .i64 p0.H), (.int .i64 p0.Rail), (.int .i64 p0.Gap), (.slice Ap0_0 (p0.Kinds).length cp0_0), (.slice Ap0_1 (p0.Slots).length cp0_1), (.slice Ap0_2 (p0.Marks).length cp0_2)] 26), (2, bx b101 #[(.int .i64 p2.X), (.int .i64 p2.Y)] 32), (3, bx b103 #[(.bool y102.1.Flip), (.int .i64 y102.1.Quarters), (.int .i64 y102.1.At.X), (.int .i64 y102.1.At.Y)] 46), (4, bx b105 #[(.bool y104.1.Flip), (.int .i64 y104.1.Quarters), (.int .i64 y104.1.At.X), (.int .i64 y104.1.At.Y)] 46), (5, bx b107 #[(.int .i64 y106.1.X), (.int .i64 y106.1.Y)] 32), (6, bx b109 #[(.int .i64 y108.1.X), (.int .i64 y108.1.Y)] 32)] ?_ ?_
      · cases hg114 : (((!(eqTTurn y102.1 y104.1)) || (y102.2 != y104.2)) || (!(eqTPoint y106.1 y108.1)))
        · refine Tr.val (wg rfl rfl rfl) rfl (fun _ _ h1 h2 => run_move (h1.ev rfl)) ?_
          refine Tr.val (wg rfl rfl rfl) rfl (fun _ _ h1 h2 => run_move (h1.ev rfl)) ?_
          refine Tr.val (wg rfl rfl rfl) rfl (fun _ _ h1 h2 => run_neq (h1.ev rfl) (h1.ev rfl)) ?_
          refine Tr.val (wn rfl) rfl (fun _ _ h1 h2 => run_pickF (h1.ev rfl) (h1.ev rfl)) ?_
          exact Tr.nil (Tr.fin0 (.cons rfl (.cons rfl (.cons rfl (.cons rfl (.cons rfl .nil))))) (.cons rfl (.cons rfl (.cons rfl (.cons rfl (.cons rfl (.cons rfl .nil)))))))
        · refine Tr.pass rfl rfl rfl rfl rfl (by decide) ?_
          refine Tr.pass rfl rfl rfl rfl rfl (by decide) ?_
          refine Tr.pass rfl rfl rfl rfl rfl (by decide) ?_
          refine Tr.val (wn rfl) rfl (fun _ _ h1 h2 => run_pickT (h1.ev rfl) (h1.ev rfl)) ?_
          exact Tr.nil (Tr.fin0 (.cons rfl (.cons rfl (.cons rfl (.cons rfl (.cons rfl .nil))))) (.cons rfl (.cons rfl (.cons rfl (.cons rfl (.cons rfl (.cons rfl .nil)))))))
      · show Tr _ _ (LF [(3, (.pointer (some ⟨b100, 0, none⟩))), (5, (.pointer (some ⟨b101, 0, none⟩))), (11, (.pointer (some ⟨b107, 0, none⟩))), (13, (.pointer (some ⟨b109, 0, none⟩))), (62, (.bool ((((!(eqTTurn y102.1 y104.1)) || (y102.2 != y104.2)) || (!(eqTPoint y106.1 y108.1))) || (y106.2 != y108.2))))]) (LE [(1, bx b100 #[(.int .i64 p0.W), (.int .i64 p0.H), (.int .i64 p0.Rail), (.int .i64 p0.Gap), (.slice Ap0_0 (p0.Kinds).length cp0_0), (.slice Ap0_1 (p0.Slots).length cp0_1), (.slice Ap0_2 (p0.Marks).length cp0_2)] 26), (2, bx b101 #[(.int .i64 p2.X), (.int .i64 p2.Y)] 32), (3, bx b103 #[(.bool y102.1.Flip), (.int .i64 y102.1.Quarters), (.int .i64 y102.1.At.X), (.int .i64 y102.1.At.Y)] 46), (4, bx b105 #[(.bool y104.1.Flip), (.int .i64 y104.1.Quarters), (.int .i64 y104.1.At.X), (.int .i64 y104.1.At.Y)] 46), (5, bx b107 #[(.int .i64 y106.1.X), (.int .i64 y106.1.Y)] 32), (6, bx b109 #[(.int .i64 y108.1.X), (.int .i64 y108.1.Y)] 32)]) _
        refine Tr.nil (Tr.normThen ?_)
        refine Tr.cond rfl H (fun H => ?_) (fun H => ?_)
        · refine Tr.seq ?_
          refine Tr.region ?_
          refine Tr.val (wn rfl) rfl (fun _ _ h1 h2 => run_assign (h1.ev rfl)) ?_
          refine Tr.nil (Tr.normThen ?_)
          refine Tr.ret (Tr.retThen ?_)
          obtain rfl := Option.some.inj H
          exact Tr.out (m := [(.bool false)]) [] (res_tmp rfl res_nil) (fun W hW => ⟨rfl, hW.low leB⟩)
        · refine Tr.skip (Tr.normThen ?_)
          refine Tr.seq ?_
          refine Tr.region ?_
          refine Tr.val (wn rfl) rfl (fun _ _ h1 h2 => run_loadN (cs := [(.int .i64 p0.W), (.int .i64 p0.H), (.int .i64 p0.Rail), (.int .i64 p0.Gap), (.slice Ap0_0 (p0.Kinds).length cp0_0), (.slice Ap0_1 (p0.Slots).length cp0_1), (.slice Ap0_2 (p0.Marks).length cp0_2)]) ag_26 sz_26 (h1.ev rfl) (CellsAt.take (rdb h2 (vs := [(.int .i64 p0.W), (.int .i64 p0.H), (.int .i64 p0.Rail), (.int .i64 p0.Gap), (.slice Ap0_0 (p0.Kinds).length cp0_0), (.slice Ap0_1 (p0.Slots).length cp0_1), (.slice Ap0_2 (p0.Marks).length cp0_2)]) (k := 1) rfl 0) 7) rfl) ?_
          refine Tr.val (wn rfl) rfl (fun _ _ h1 h2 => run_loadN (cs := [(.int .i64 p2.X), (.int .i64 p2.Y)]) ag_32 sz_32 (h1.ev rfl) (CellsAt.take (rdb h2 (vs := [(.int .i64 p2.X), (.int .i64 p2.Y)]) (k := 2) rfl 0) 2) rfl) ?_
          obtain ⟨y110, hy110, H⟩ := bnd H
          refine Tr.call0 (r := (.tuple #[(.int .i64 y110.1), (.agg #[(.int .i64 y110.2.1.X), (.int .i64 y110.2.1.Y)]), (.bool y110.2.2.1), (.int .i64 y110.2.2.2)])) (wn rfl) rfl Try.call24 (evl_cons rfl (evl_cons rfl evl_nil)) (fun W hW => F_panel_ToBoard_ok N p0 Ap0_0 cp0_0 (hp0_0.ext hW.extAll) Ap0_1 cp0_1 (hp0_1.ext hW.extAll) Ap0_2 cp0_2 (hp0_2.ext hW.extAll) p2 y110 hy110 (HF.start _)) ?_
          refine Tr.val (wn rfl) rfl (fun _ _ h1 h2 => run_move (h1.ev rfl)) ?_
          refine Tr.val (wn rfl) rfl (fun _ _ h1 h2 => run_extract (h1.ev rfl) rfl) ?_
          refine Tr.val (wn rfl) rfl (fun _ _ h1 h2 => run_extract (h1.ev rfl) rfl) ?_
          refine Tr.val (wn rfl) rfl (fun _ _ h1 h2 => run_extract (h1.ev rfl) rfl) ?_
          refine Tr.val (wn rfl) rfl (fun _ _ h1 h2 => run_extract (h1.ev rfl) rfl) ?_
          refine Tr.val (wn rfl) rfl (fun _ _ h1 h2 => run_assign (h1.ev rfl)) ?_
          refine Tr.store 5 (cs := [(.int .i64 y110.2.1.X), (.int .i64 y110.2.1.Y)]) [(.int .i64 y110.2.1.X), (.int .i64 y110.2.1.Y)] (wn rfl) rfl rfl rfl rfl sz_32 rfl rfl rfl ?_
          refine Tr.val (wn rfl) rfl (fun _ _ h1 h2 => run_assign (h1.ev rfl)) ?_
          refine Tr.val (wn rfl) rfl (fun _ _ h1 h2 => run_assign (h1.ev rfl)) ?_
          refine Tr.nil (Tr.normThen ?_)
          refine Tr.seq ?_
          refine Tr.region ?_
          refine Tr.val (wn rfl) rfl (fun _ _ h1 h2 => run_loadN (cs := [(.int .i64 p0.W), (.int .i64 p0.H), (.int .i64 p0.Rail), (.int .i64 p0.Gap), (.slice Ap0_0 (p0.Kinds).length cp0_0), (.slice Ap0_1 (p0.Slots).length cp0_1), (.slice Ap0_2 (p0.Marks).length cp0_2)]) ag_26 sz_26 (h1.ev rfl) (CellsAt.take (rdb h2 (vs := [(.int .i64 p0.W), (.int .i64 p0.H), (.int .i64 p0.Rail), (.int .i64 p0.Gap), (.slice Ap0_0 (p0.Kinds).length cp0_0), (.slice Ap0_1 (p0.Slots).length cp0_1), (.slice Ap0_2 (p0.Marks).length cp0_2)]) (k := 1) rfl 0) 7) rfl) ?_
          refine Tr.val (wn rfl) rfl (fun _ _ h1 h2 => run_loadN (cs := [(.int .i64 p2.X), (.int .i64 p2.Y)]) ag_32 sz_32 (h1.ev rfl) (CellsAt.take (rdb h2 (vs := [(.int .i64 p2.X), (.int .i64 p2.Y)]) (k := 2) rfl 0) 2) rfl) ?_
          obtain ⟨y111, hy111, H⟩ := bnd H
          refine Tr.call0 (r := (.tuple #[(.int .i64 y111.1), (.agg #[(.int .i64 y111.2.1.X), (.int .i64 y111.2.1.Y)]), (.bool y111.2.2.1), (.int .i64 y111.2.2.2)])) (wn rfl) rfl Try.call25 (evl_cons rfl (evl_cons rfl evl_nil)) (fun W hW => F_etchhouseref9_ToBoard_ok N p0 Ap0_0 cp0_0 (hp0_0.ext hW.extAll) Ap0_1 cp0_1 (hp0_1.ext hW.extAll) Ap0_2 cp0_2 (hp0_2.ext hW.extAll) p2 y111 hy111 (HF.start _)) ?_
          refine Tr.val (wn rfl) rfl (fun _ _ h1 h2 => run_move (h1.ev rfl)) ?_
          refine Tr.val (wn rfl) rfl (fun _ _ h1 h2 => run_extract (h1.ev rfl) rfl) ?_
          refine Tr.val (wn rfl) rfl (fun _ _ h1 h2 => run_extract (h1.ev rfl) rfl) ?_
          refine Tr.val (wn rfl) rfl (fun _ _ h1 h2 => run_extract (h1.ev rfl) rfl) ?_
          refine Tr.val (wn rfl) rfl (fun _ _ h1 h2 => run_extract (h1.ev rfl) rfl) ?_
          refine Tr.val (wn rfl) rfl (fun _ _ h1 h2 => run_assign (h1.ev rfl)) ?_
          refine Tr.store 6 (cs := [(.int .i64 y111.2.1.X), (.int .i64 y111.2.1.Y)]) [(.int .i64 y111.2.1.X), (.int .i64 y111.2.1.Y)] (wn rfl) rfl rfl rfl rfl sz_32 rfl rfl rfl ?_
          refine Tr.val (wn rfl) rfl (fun _ _ h1 h2 => run_assign (h1.ev rfl)) ?_
          refine Tr.val (wn rfl) rfl (fun _ _ h1 h2 => run_assign (h1.ev rfl)) ?_
          refine Tr.nil (Tr.normThen ?_)
          refine Tr.seq ?_
          refine Tr.region ?_
          refine Tr.val (wn rfl) rfl (fun _ _ h1 h2 => run_move (h1.ev rfl)) ?_
          refine Tr.val (wn rfl) rfl (fun _ _ h1 h2 => run_move (h1.ev rfl)) ?_
          refine Tr.val (wn rfl) rfl (fun _ _ h1 h2 => run_eql (h1.ev rfl) (h1.ev rfl)) ?_
          refine Tr.val (wn rfl) rfl (fun _ _ h1 h2 => run_move (h1.ev rfl)) ?_
          refine Tr.mid0 4 [(8, (.int .i64 y110.2.2.2)), (10, (.int .i64 y111.2.2.2)), (16, (.bool y110.2.2.1)), (18, (.bool y111.2.2.1)), (86, (.bool ((y110.1 == y111.1) && (eqTPoint y110.2.1 y111.2.1))))] [(1, bx b100 #[(.int .i64 p0.W), (.int .i64 p0.H), (.int .i64 p0.Rail), (.int .i64 p0.Gap), (.slice Ap0_0 (p0.Kinds).length cp0_0), (.slice Ap0_1 (p0.Slots).length cp0_1), (.slice Ap0_2 (p0.Marks).length cp0_2)] 26), (2, bx b101 #[(.int .i64 p2.X), (.int .i64 p2.Y)] 32), (3, bx b103 #[(.bool y102.1.Flip), (.int .i64 y102.1.Quarters), (.int .i64 y102.1.At.X), (.int .i64 y102.1.At.Y)] 46), (4, bx b105 #[(.bool y104.1.Flip), (.int .i64 y104.1.Quarters), (.int .i64 y104.1.At.X), (.int .i64 y104.1.At.Y)] 46), (5, bx b107 #[(.int .i64 y110.2.1.X), (.int .i64 y110.2.1.Y)] 32), (6, bx b109 #[(.int .i64 y111.2.1.X), (.int .i64 y111.2.1.Y)] 32)] ?_ ?_
          · cases hg114 : (y110.1 == y111.1)
            · refine Tr.pass rfl rfl rfl rfl rfl (by decide) ?_
              refine Tr.pass rfl rfl rfl rfl rfl (by decide) ?_
              refine Tr.pass rfl rfl rfl rfl rfl (by decide) ?_
              refine Tr.val (wn rfl) rfl (fun _ _ h1 h2 => run_pickF (h1.ev rfl) (h1.ev rfl)) ?_
              exact Tr.nil (Tr.fin0 (.cons rfl (.cons rfl (.cons rfl (.cons rfl (.cons rfl .nil))))) (.cons rfl (.cons rfl (.cons rfl (.cons rfl (.cons rfl (.cons rfl .nil)))))))
            · refine Tr.val (wg rfl rfl rfl) rfl (fun _ _ h1 h2 => run_loadN (cs := [(.int .i64 y110.2.1.X), (.int .i64 y110.2.1.Y)]) ag_32 sz_32 (h1.ev rfl) (CellsAt.take (rdb h2 (vs := [(.int .i64 y110.2.1.X), (.int .i64 y110.2.1.Y)]) (k := 5) rfl 0) 2) rfl) ?_
              refine Tr.val (wg rfl rfl rfl) rfl (fun _ _ h1 h2 => run_loadN (cs := [(.int .i64 y111.2.1.X), (.int .i64 y111.2.1.Y)]) ag_32 sz_32 (h1.ev rfl) (CellsAt.take (rdb h2 (vs := [(.int .i64 y111.2.1.X), (.int .i64 y111.2.1.Y)]) (k := 6) rfl 0) 2) rfl) ?_
              refine Tr.val (wg rfl rfl rfl) rfl (fun _ _ h1 h2 => run_eql_32 y110.2.1 y111.2.1 (h1.ev rfl) (h1.ev rfl)) ?_
              refine Tr.val (wn rfl) rfl (fun _ _ h1 h2 => run_pickT (h1.ev rfl) (h1.ev rfl)) ?_
              exact Tr.nil (Tr.fin0 (.cons rfl (.cons rfl (.cons rfl (.cons rfl (.cons rfl .nil))))) (.cons rfl (.cons rfl (.cons rfl (.cons rfl (.cons rfl (.cons rfl .nil)))))))
          · show Tr _ _ (LF [(8, (.int .i64 y110.2.2.2)), (10, (.int .i64 y111.2.2.2)), (16, (.bool y110.2.2.1)), (18, (.bool y111.2.2.1)), (86, (.bool ((y110.1 == y111.1) && (eqTPoint y110.2.1 y111.2.1))))]) (LE [(1, bx b100 #[(.int .i64 p0.W), (.int .i64 p0.H), (.int .i64 p0.Rail), (.int .i64 p0.Gap), (.slice Ap0_0 (p0.Kinds).length cp0_0), (.slice Ap0_1 (p0.Slots).length cp0_1), (.slice Ap0_2 (p0.Marks).length cp0_2)] 26), (2, bx b101 #[(.int .i64 p2.X), (.int .i64 p2.Y)] 32), (3, bx b103 #[(.bool y102.1.Flip), (.int .i64 y102.1.Quarters), (.int .i64 y102.1.At.X), (.int .i64 y102.1.At.Y)] 46), (4, bx b105 #[(.bool y104.1.Flip), (.int .i64 y104.1.Quarters), (.int .i64 y104.1.At.X), (.int .i64 y104.1.At.Y)] 46), (5, bx b107 #[(.int .i64 y110.2.1.X), (.int .i64 y110.2.1.Y)] 32), (6, bx b109 #[(.int .i64 y111.2.1.X), (.int .i64 y111.2.1.Y)] 32)]) _
            refine Tr.val (wn rfl) rfl (fun _ _ h1 h2 => run_move (h1.ev rfl)) ?_
            refine Tr.mid0 4 [(8, (.int .i64 y110.2.2.2)), (10, (.int .i64 y111.2.2.2)), (91, (.bool (((y110.1 == y111.1) && (eqTPoint y110.2.1 y111.2.1)) && (y110.2.2.1 == y111.2.2.1))))] [(1, bx b100 #[(.int .i64 p0.W), (.int .i64 p0.H), (.int .i64 p0.Rail), (.int .i64 p0.Gap), (.slice Ap0_0 (p0.Kinds).length cp0_0), (.slice Ap0_1 (p0.Slots).length cp0_1), (.slice Ap0_2 (p0.Marks).length cp0_2)] 26), (2, bx b101 #[(.int .i64 p2.X), (.int .i64 p2.Y)] 32), (3, bx b103 #[(.bool y102.1.Flip), (.int .i64 y102.1.Quarters), (.int .i64 y102.1.At.X), (.int .i64 y102.1.At.Y)] 46), (4, bx b105 #[(.bool y104.1.Flip), (.int .i64 y104.1.Quarters), (.int .i64 y104.1.At.X), (.int .i64 y104.1.At.Y)] 46), (5, bx b107 #[(.int .i64 y110.2.1.X), (.int .i64 y110.2.1.Y)] 32), (6, bx b109 #[(.int .i64 y111.2.1.X), (.int .i64 y111.2.1.Y)] 32)] ?_ ?_
            · cases hg114 : ((y110.1 == y111.1) && (eqTPoint y110.2.1 y111.2.1))
              · refine Tr.pass rfl rfl rfl rfl rfl (by decide) ?_
                refine Tr.pass rfl rfl rfl rfl rfl (by decide) ?_
                refine Tr.pass rfl rfl rfl rfl rfl (by decide) ?_
                refine Tr.val (wn rfl) rfl (fun _ _ h1 h2 => run_pickF (h1.ev rfl) (h1.ev rfl)) ?_
                exact Tr.nil (Tr.fin0 (.cons rfl (.cons rfl (.cons rfl .nil))) (.cons rfl (.cons rfl (.cons rfl (.cons rfl (.cons rfl (.cons rfl .nil)))))))
              · refine Tr.val (wg rfl rfl rfl) rfl (fun _ _ h1 h2 => run_move (h1.ev rfl)) ?_
                refine Tr.val (wg rfl rfl rfl) rfl (fun _ _ h1 h2 => run_move (h1.ev rfl)) ?_
                refine Tr.val (wg rfl rfl rfl) rfl (fun _ _ h1 h2 => run_eqlB un_4 (h1.ev rfl) (h1.ev rfl)) ?_
                refine Tr.val (wn rfl) rfl (fun _ _ h1 h2 => run_pickT (h1.ev rfl) (h1.ev rfl)) ?_
                exact Tr.nil (Tr.fin0 (.cons rfl (.cons rfl (.cons rfl .nil))) (.cons rfl (.cons rfl (.cons rfl (.cons rfl (.cons rfl (.cons rfl .nil)))))))
            · show Tr _ _ (LF [(8, (.int .i64 y110.2.2.2)), (10, (.int .i64 y111.2.2.2)), (91, (.bool (((y110.1 == y111.1) && (eqTPoint y110.2.1 y111.2.1)) && (y110.2.2.1 == y111.2.2.1))))]) (LE [(1, bx b100 #[(.int .i64 p0.W), (.int .i64 p0.H), (.int .i64 p0.Rail), (.int .i64 p0.Gap), (.slice Ap0_0 (p0.Kinds).length cp0_0), (.slice Ap0_1 (p0.Slots).length cp0_1), (.slice Ap0_2 (p0.Marks).length cp0_2)] 26), (2, bx b101 #[(.int .i64 p2.X), (.int .i64 p2.Y)] 32), (3, bx b103 #[(.bool y102.1.Flip), (.int .i64 y102.1.Quarters), (.int .i64 y102.1.At.X), (.int .i64 y102.1.At.Y)] 46), (4, bx b105 #[(.bool y104.1.Flip), (.int .i64 y104.1.Quarters), (.int .i64 y104.1.At.X), (.int .i64 y104.1.At.Y)] 46), (5, bx b107 #[(.int .i64 y110.2.1.X), (.int .i64 y110.2.1.Y)] 32), (6, bx b109 #[(.int .i64 y111.2.1.X), (.int .i64 y111.2.1.Y)] 32)]) _
              refine Tr.val (wn rfl) rfl (fun _ _ h1 h2 => run_move (h1.ev rfl)) ?_
              refine Tr.mid0 4 [(96, (.bool ((((y110.1 == y111.1) && (eqTPoint y110.2.1 y111.2.1)) && (y110.2.2.1 == y111.2.2.1)) && (y110.2.2.2 == y111.2.2.2))))] [(1, bx b100 #[(.int .i64 p0.W), (.int .i64 p0.H), (.int .i64 p0.Rail), (.int .i64 p0.Gap), (.slice Ap0_0 (p0.Kinds).length cp0_0), (.slice Ap0_1 (p0.Slots).length cp0_1), (.slice Ap0_2 (p0.Marks).length cp0_2)] 26), (2, bx b101 #[(.int .i64 p2.X), (.int .i64 p2.Y)] 32), (3, bx b103 #[(.bool y102.1.Flip), (.int .i64 y102.1.Quarters), (.int .i64 y102.1.At.X), (.int .i64 y102.1.At.Y)] 46), (4, bx b105 #[(.bool y104.1.Flip), (.int .i64 y104.1.Quarters), (.int .i64 y104.1.At.X), (.int .i64 y104.1.At.Y)] 46), (5, bx b107 #[(.int .i64 y110.2.1.X), (.int .i64 y110.2.1.Y)] 32), (6, bx b109 #[(.int .i64 y111.2.1.X), (.int .i64 y111.2.1.Y)] 32)] ?_ ?_
              · cases hg114 : (((y110.1 == y111.1) && (eqTPoint y110.2.1 y111.2.1)) && (y110.2.2.1 == y111.2.2.1))
                · refine Tr.pass rfl rfl rfl rfl rfl (by decide) ?_
                  refine Tr.pass rfl rfl rfl rfl rfl (by decide) ?_
                  refine Tr.pass rfl rfl rfl rfl rfl (by decide) ?_
                  refine Tr.val (wn rfl) rfl (fun _ _ h1 h2 => run_pickF (h1.ev rfl) (h1.ev rfl)) ?_
                  exact Tr.nil (Tr.fin0 (.cons rfl .nil) (.cons rfl (.cons rfl (.cons rfl (.cons rfl (.cons rfl (.cons rfl .nil)))))))
                · refine Tr.val (wg rfl rfl rfl) rfl (fun _ _ h1 h2 => run_move (h1.ev rfl)) ?_
                  refine Tr.val (wg rfl rfl rfl) rfl (fun _ _ h1 h2 => run_move (h1.ev rfl)) ?_
                  refine Tr.val (wg rfl rfl rfl) rfl (fun _ _ h1 h2 => run_eql (h1.ev rfl) (h1.ev rfl)) ?_
                  refine Tr.val (wn rfl) rfl (fun _ _ h1 h2 => run_pickT (h1.ev rfl) (h1.ev rfl)) ?_
                  exact Tr.nil (Tr.fin0 (.cons rfl .nil) (.cons rfl (.cons rfl (.cons rfl (.cons rfl (.cons rfl (.cons rfl .nil)))))))
              · show Tr _ _ (LF [(96, (.bool ((((y110.1 == y111.1) && (eqTPoint y110.2.1 y111.2.1)) && (y110.2.2.1 == y111.2.2.1)) && (y110.2.2.2 == y111.2.2.2))))]) (LE [(1, bx b100 #[(.int .i64 p0.W), (.int .i64 p0.H), (.int .i64 p0.Rail), (.int .i64 p0.Gap), (.slice Ap0_0 (p0.Kinds).length cp0_0), (.slice Ap0_1 (p0.Slots).length cp0_1), (.slice Ap0_2 (p0.Marks).length cp0_2)] 26), (2, bx b101 #[(.int .i64 p2.X), (.int .i64 p2.Y)] 32), (3, bx b103 #[(.bool y102.1.Flip), (.int .i64 y102.1.Quarters), (.int .i64 y102.1.At.X), (.int .i64 y102.1.At.Y)] 46), (4, bx b105 #[(.bool y104.1.Flip), (.int .i64 y104.1.Quarters), (.int .i64 y104.1.At.X), (.int .i64 y104.1.At.Y)] 46), (5, bx b107 #[(.int .i64 y110.2.1.X), (.int .i64 y110.2.1.Y)] 32), (6, bx b109 #[(.int .i64 y111.2.1.X), (.int .i64 y111.2.1.Y)] 32)]) _
                refine Tr.val (wn rfl) rfl (fun _ _ h1 h2 => run_move (h1.ev rfl)) ?_
                obtain ⟨g113, hg113, H⟩ := bnd H
                refine Tr.mid0 2 [(99, (.bool g113))] [(1, bx b100 #[(.int .i64 p0.W), (.int .i64 p0.H), (.int .i64 p0.Rail), (.int .i64 p0.Gap), (.slice Ap0_0 (p0.Kinds).length cp0_0), (.slice Ap0_1 (p0.Slots).length cp0_1), (.slice Ap0_2 (p0.Marks).length cp0_2)] 26), (2, bx b101 #[(.int .i64 p2.X), (.int .i64 p2.Y)] 32), (3, bx b103 #[(.bool y102.1.Flip), (.int .i64 y102.1.Quarters), (.int .i64 y102.1.At.X), (.int .i64 y102.1.At.Y)] 46), (4, bx b105 #[(.bool y104.1.Flip), (.int .i64 y104.1.Quarters), (.int .i64 y104.1.At.X), (.int .i64 y104.1.At.Y)] 46), (5, bx b107 #[(.int .i64 y110.2.1.X), (.int .i64 y110.2.1.Y)] 32), (6, bx b109 #[(.int .i64 y111.2.1.X), (.int .i64 y111.2.1.Y)] 32)] ?_ ?_
                · cases hg114 : ((((y110.1 == y111.1) && (eqTPoint y110.2.1 y111.2.1)) && (y110.2.2.1 == y111.2.2.1)) && (y110.2.2.2 == y111.2.2.2))
                  · rw [hg114] at hg113
                    rw [if_neg (by decide)] at hg113
                    have H := hg113
                    obtain rfl := Option.some.inj H
                    refine Tr.pass rfl rfl rfl rfl rfl (by decide) ?_
                    refine Tr.val (wn rfl) rfl (fun _ _ h1 h2 => run_pickF (h1.ev rfl) (h1.ev rfl)) ?_
                    exact Tr.nil (Tr.fin0 (.cons rfl .nil) (.cons rfl (.cons rfl (.cons rfl (.cons rfl (.cons rfl (.cons rfl .nil)))))))
                  · rw [hg114] at hg113
                    rw [if_pos rfl] at hg113
                    have H := hg113
                    obtain ⟨y114, hy114, H⟩ := bnd H
                    refine Tr.call0 (r := (.bool y114)) (wg rfl rfl rfl) rfl Try.call15 evl_nil (fun W hW => F_etchhouselaw9_awake_ok N y114 hy114 (HF.start _)) ?_
                    refine Tr.val (wn rfl) rfl (fun _ _ h1 h2 => run_pickT (h1.ev rfl) (h1.ev rfl)) ?_
                    obtain rfl := Option.some.inj H
                    exact Tr.nil (Tr.fin0 (.cons rfl .nil) (.cons rfl (.cons rfl (.cons rfl (.cons rfl (.cons rfl (.cons rfl .nil)))))))
                · show Tr _ _ (LF [(99, (.bool g113))]) (LE [(1, bx b100 #[(.int .i64 p0.W), (.int .i64 p0.H), (.int .i64 p0.Rail), (.int .i64 p0.Gap), (.slice Ap0_0 (p0.Kinds).length cp0_0), (.slice Ap0_1 (p0.Slots).length cp0_1), (.slice Ap0_2 (p0.Marks).length cp0_2)] 26), (2, bx b101 #[(.int .i64 p2.X), (.int .i64 p2.Y)] 32), (3, bx b103 #[(.bool y102.1.Flip), (.int .i64 y102.1.Quarters), (.int .i64 y102.1.At.X), (.int .i64 y102.1.At.Y)] 46), (4, bx b105 #[(.bool y104.1.Flip), (.int .i64 y104.1.Quarters), (.int .i64 y104.1.At.X), (.int .i64 y104.1.At.Y)] 46), (5, bx b107 #[(.int .i64 y110.2.1.X), (.int .i64 y110.2.1.Y)] 32), (6, bx b109 #[(.int .i64 y111.2.1.X), (.int .i64 y111.2.1.Y)] 32)]) _
                  refine Tr.val (wn rfl) rfl (fun _ _ h1 h2 => run_assign (h1.ev rfl)) ?_
                  refine Tr.nil (Tr.normThen ?_)
                  refine Tr.ret ?_
                  obtain rfl := Option.some.inj H
                  exact Tr.out (m := [(.bool g113)]) [] (res_tmp rfl res_nil) (fun W hW => ⟨rfl, hW.low leB⟩)

end Go.Proofs.Ytpkicpnbpldkpaa
