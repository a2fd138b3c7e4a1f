/- The walks: each function computes its plain function. -/
import Derived.Test.YtfddmjoldoddlaaXWa
namespace Go.Proofs.Ytfddmjoldoddlaa
open Go.RowKit
set_option maxRecDepth 100000
set_option maxHeartbeats 1000000
theorem F_etchhouseref9_checkSlot_ok (N : Nat) {w : Bs} (p0 : TPanel) (Ap0_0 : Option Addr) (cp0_0 : Nat) (hp0_0 : Sl w.R w.W fl_TBoardKind Ap0_0 cp0_0 p0.Kinds) (Ap0_1 : Option Addr) (cp0_1 : Nat) (hp0_1 : Sl w.R w.W fl_TSlot Ap0_1 cp0_1 p0.Slots) (Ap0_2 : Option Addr) (cp0_2 : Nat) (hp0_2 : Sl w.R w.W fl_TPoint Ap0_2 cp0_2 p0.Marks) (p1 : Int) (r : Int) (H : F_etchhouseref9_checkSlot N p0 p1 = some r) (hE : HF w w.W E0) : Calls Try.prog 43 [(.agg #[(.int .i64 p0.W), (.int .i64 p0.H), (.int .i64 p0.Rail), (.int .i64 p0.Gap), (.slice Ap0_0 (p0.Kinds).length cp0_0), (.slice Ap0_1 (p0.Slots).length cp0_1), (.slice Ap0_2 (p0.Marks).length cp0_2)]), (.int .i64 p1)].toArray w.W fun e W' => e = .returned (.int .i64 r) ∧ HF w W' E0 := by
 unfold F_etchhouseref9_checkSlot at H
 have leB := Bs.Le.refl w
 refine Tr.enter (n := 62) Try.func43 rfl rfl rfl hE ?_
 refine Tr.sr ?_
 refine Tr.box 1 (cs := [(.int .i64 p0.W), (.int .i64 p0.H), (.int .i64 p0.Rail), (.int .i64 p0.Gap), (.slice Ap0_0 (p0.Kinds).length cp0_0), (.slice Ap0_1 (p0.Slots).length cp0_1), (.slice Ap0_2 (p0.Marks).length cp0_2)]) (wn rfl) rfl rfl rfl fun b100 => ?_
 refine Tr.asg rfl rfl ?_
 refine Tr.nil (Tr.normThen ?_)
 refine Tr.sr ?_
 refine Tr.va rfl (fun _ _ h1 h2 => run_fieldAddr fo_26_5 (h1.ev rfl)) ?_
 refine Tr.va rfl (fun _ _ h1 h2 => run_load1 ag_23 (h1.ev rfl) (rdb h2 (vs := [(.int .i64 p0.W), (.int .i64 p0.H), (.int .i64 p0.Rail), (.int .i64 p0.Gap), (.slice Ap0_0 (p0.Kinds).length cp0_0), (.slice Ap0_1 (p0.Slots).length cp0_1), (.slice Ap0_2 (p0.Marks).length cp0_2)]) (k := 1) rfl 5) rfl) ?_
 refine Tr.mv rfl rfl ?_
 obtain ⟨x101, hx101, H⟩ := bnd H
 obtain ⟨hx1010, hx1011, hx1012⟩ := idx_some hx101
 refine Tr.va rfl (fun _ _ h1 h2 => run_indexAddr el_23 (h1.ev rfl) hp0_1.form (h1.ev rfl) hx1010 hx1011) ?_
 refine Tr.va rfl (fun _ _ h1 h2 => run_loadN (cs := [(.string x101.Board), (.int .i64 x101.Quarters), (.int .i64 x101.At.X), (.int .i64 x101.At.Y)]) ag_96 sz_96 (h1.ev rfl) (CellsAt.take (rdF ef_TSlot hp0_1 hx1012 h2) 4) rfl) ?_
 refine Tr.alloc 2 (wn rfl) rfl ze_96 fun b102 => ?_
 refine Tr.store 2 (cs := [(.string x101.Board), (.int .i64 x101.Quarters), (.int .i64 x101.At.X), (.int .i64 x101.At.Y)]) [(.string x101.Board), (.int .i64 x101.Quarters), (.int .i64 x101.At.X), (.int .i64 x101.At.Y)] (wn rfl) rfl rfl rfl rfl sz_96 rfl rfl rfl ?_
 refine Tr.nil (Tr.normThen ?_)
 refine Tr.sr ?_
 refine Tr.va rfl (fun _ _ h1 h2 => run_loadN (cs := [(.int .i64 p0.W), (.int .i64 p0.H), (.int .i64 p0.Rail), (.int .i64 p0.Gap), (.slice Ap0_0 (p0.Kinds).length cp0_0), (.slice Ap0_1 (p0.Slots).length cp0_1), (.slice Ap0_2 (p0.Marks).length cp0_2)]) ag_26 sz_26 (h1.ev rfl) (CellsAt.take (rdb h2 (vs := [(.int .i64 p0.W), (.int .i64 p0.H), (.int .i64 p0.Rail), (.int .i64 p0.Gap), (.slice Ap0_0 (p0.Kinds).length cp0_0), (.slice Ap0_1 (p0.Slots).length cp0_1), (.slice Ap0_2 (p0.Marks).length cp0_2)]) (k := 1) rfl 0) 7) rfl) ?_
 refine Tr.va rfl (fun _ _ h1 h2 => run_fieldAddr fo_96_0 (h1.ev rfl)) ?_
 refine Tr.va rfl (fun _ _ h1 h2 => run_load1 ag_9 (h1.ev rfl) (rdb h2 (vs := [(.string x101.Board), (.int .i64 x101.Quarters), (.int .i64 x101.At.X), (.int .i64 x101.At.Y)]) (k := 2) rfl 0) rfl) ?_
 obtain ⟨y103, hy103, H⟩ := bnd H
 refine Tr.call0 (r := (.int .i64 y103)) (wn rfl) rfl Try.call66 (evl_cons rfl (evl_cons rfl evl_nil)) (fun W hW => F_etchhouseref9_kind_ok N p0 Ap0_0 cp0_0 (hp0_0.ext hW.extAll) Ap0_1 cp0_1 (hp0_1.ext hW.extAll) Ap0_2 cp0_2 (hp0_2.ext hW.extAll) x101.Board y103 hy103 (HF.start _)) ?_
 refine Tr.asg rfl rfl ?_
 refine Tr.nil (Tr.normThen ?_)
 refine Tr.seq ?_
 refine Tr.sr ?_
 refine Tr.mv rfl rfl ?_
 refine Tr.va rfl (fun _ _ h1 h2 => run_lss (h1.ev rfl) (h1.ev rfl)) ?_
 refine Tr.nil (Tr.normThen ?_)
 refine Tr.cond rfl H (fun H => ?_) (fun H => ?_)
 ·refine Tr.sr ?_
  refine Tr.asg rfl rfl ?_
  refine Tr.nil (Tr.normThen ?_)
  refine Tr.ret (Tr.retThen ?_)
  obtain rfl := Option.some.inj H
  exact Tr.out (m := [(.int .i64 5)]) [] (res_tmp rfl res_nil) (fun W hW => ⟨rfl, hW.low leB⟩)
 ·refine Tr.skip (Tr.normThen ?_)
  refine Tr.seq ?_
  refine Tr.sr ?_
  refine Tr.va rfl (fun _ _ h1 h2 => run_fieldAddr fo_96_1 (h1.ev rfl)) ?_
  refine Tr.va rfl (fun _ _ h1 h2 => run_load1 ag_3 (h1.ev rfl) (rdb h2 (vs := [(.string x101.Board), (.int .i64 x101.Quarters), (.int .i64 x101.At.X), (.int .i64 x101.At.Y)]) (k := 2) rfl 1) rfl) ?_
  obtain ⟨y104, hy104, H⟩ := bnd H
  refine Tr.call0 (r := (.bool y104)) (wn rfl) rfl Try.call41 (evl_cons rfl (evl_cons rfl (evl_cons rfl evl_nil))) (fun W hW => F_etchhouseref9_within_ok x101.Quarters 0 3 y104 hy104 (HF.start _)) ?_
  refine Tr.va rfl (fun _ _ h1 h2 => run_not (h1.ev rfl)) ?_
  refine Tr.nil (Tr.normThen ?_)
  refine Tr.cond rfl H (fun H => ?_) (fun H => ?_)
  ·refine Tr.sr ?_
   refine Tr.asg rfl rfl ?_
   refine Tr.nil (Tr.normThen ?_)
   refine Tr.ret (Tr.retThen ?_)
   obtain rfl := Option.some.inj H
   exact Tr.out (m := [(.int .i64 1)]) [] (res_tmp rfl res_nil) (fun W hW => ⟨rfl, hW.low leB⟩)
  ·refine Tr.skip (Tr.normThen ?_)
   refine Tr.seq ?_
   refine Tr.seq ?_
   refine Tr.draw (by kernel_rfl) (by kernel_rfl) ?_
   refine Tq.va rfl (fun _ _ h1 h2 => run_fieldAddr fo_26_4 (h1.ev rfl)) ?_
   refine Tq.va rfl (fun _ _ h1 h2 => run_load1 ag_22 (h1.ev rfl) (rdb h2 (vs := [(.int .i64 p0.W), (.int .i64 p0.H), (.int .i64 p0.Rail), (.int .i64 p0.Gap), (.slice Ap0_0 (p0.Kinds).length cp0_0), (.slice Ap0_1 (p0.Slots).length cp0_1), (.slice Ap0_2 (p0.Marks).length cp0_2)]) (k := 1) rfl 4) rfl) ?_
   refine Tq.mv rfl rfl ?_
   obtain ⟨x105, hx105, H⟩ := bnd H
   obtain ⟨hx1050, hx1051, hx1052⟩ := idx_some hx105
   refine Tq.va rfl (fun _ _ h1 h2 => run_indexAddr el_22 (h1.ev rfl) hp0_0.form (h1.ev rfl) hx1050 hx1051) ?_
   refine Tq.va rfl (fun _ _ h1 h2 => run_loadN (cs := [(.string x105.Name), (.int .i64 x105.W), (.int .i64 x105.H)]) ag_74 sz_74 (h1.ev rfl) (CellsAt.take (rdF ef_TBoardKind hp0_0 hx1052 h2) 3) rfl) ?_
   refine Tq.va rfl (fun _ _ h1 h2 => run_fieldAddr fo_96_1 (h1.ev rfl)) ?_
   refine Tq.va rfl (fun _ _ h1 h2 => run_load1 ag_3 (h1.ev rfl) (rdb h2 (vs := [(.string x101.Board), (.int .i64 x101.Quarters), (.int .i64 x101.At.X), (.int .i64 x101.At.Y)]) (k := 2) rfl 1) rfl) ?_
   obtain ⟨y106, hy106, H⟩ := bnd H
   refine Tq.call0 (r := (.tuple #[(.int .i64 y106.1), (.int .i64 y106.2)])) (wn rfl) rfl Try.call67 (evl_cons rfl (evl_cons rfl evl_nil)) (fun W hW => F_etchhouseref9_sizeOf_ok x105 x101.Quarters y106 hy106 (HF.start _)) ?_
   refine Tq.mv rfl rfl ?_
   refine Tq.va rfl (fun _ _ h1 h2 => run_extract (h1.ev rfl) rfl) ?_
   refine Tq.va rfl (fun _ _ h1 h2 => run_extract (h1.ev rfl) rfl) ?_
   refine Tq.asg rfl rfl ?_
   refine Tq.asg rfl rfl ?_
   refine Tq.nil (Tr.normThen ?_)
   refine Tr.sr ?_
   refine Tr.va rfl (fun _ _ h1 h2 => run_loadN (cs := [(.int .i64 p0.W), (.int .i64 p0.H), (.int .i64 p0.Rail), (.int .i64 p0.Gap), (.slice Ap0_0 (p0.Kinds).length cp0_0), (.slice Ap0_1 (p0.Slots).length cp0_1), (.slice Ap0_2 (p0.Marks).length cp0_2)]) ag_26 sz_26 (h1.ev rfl) (CellsAt.take (rdb h2 (vs := [(.int .i64 p0.W), (.int .i64 p0.H), (.int .i64 p0.Rail), (.int .i64 p0.Gap), (.slice Ap0_0 (p0.Kinds).length cp0_0), (.slice Ap0_1 (p0.Slots).length cp0_1), (.slice Ap0_2 (p0.Marks).length cp0_2)]) (k := 1) rfl 0) 7) rfl) ?_
   refine Tr.va rfl (fun _ _ h1 h2 => run_fieldAddr fo_96_2 (h1.ev rfl)) ?_
   refine Tr.va rfl (fun _ _ h1 h2 => run_loadN (cs := [(.int .i64 x101.At.X), (.int .i64 x101.At.Y)]) ag_82 sz_82 (h1.ev rfl) (CellsAt.take (rdb h2 (vs := [(.string x101.Board), (.int .i64 x101.Quarters), (.int .i64 x101.At.X), (.int .i64 x101.At.Y)]) (k := 2) rfl 2) 2) rfl) ?_
   refine Tr.mv rfl rfl ?_
   refine Tr.mv rfl rfl ?_
   obtain ⟨y107, hy107, H⟩ := bnd H
   refine Tr.call0 (r := (.bool y107)) (wn rfl) rfl Try.call68 (evl_cons rfl (evl_cons rfl (evl_cons rfl (evl_cons rfl evl_nil)))) (fun W hW => F_etchhouseref9_lies_ok p0 Ap0_0 cp0_0 (hp0_0.ext hW.extAll) Ap0_1 cp0_1 (hp0_1.ext hW.extAll) Ap0_2 cp0_2 (hp0_2.ext hW.extAll) x101.At y106.1 y106.2 y107 hy107 (HF.start _)) ?_
   refine Tr.va rfl (fun _ _ h1 h2 => run_not (h1.ev rfl)) ?_
   refine Tr.nil (Tr.normThen ?_)
   refine Tr.cond rfl H (fun H => ?_) (fun H => ?_)
   ·refine Tr.sr ?_
    refine Tr.asg rfl rfl ?_
    refine Tr.nil (Tr.normThen ?_)
    refine Tr.ret (Tr.retThen ?_)
    obtain rfl := Option.some.inj H
    exact Tr.out (m := [(.int .i64 1)]) [] (res_tmp rfl res_nil) (fun W hW => ⟨rfl, hW.low leB⟩)
   ·refine Tr.skip (Tr.normThen ?_)
    refine Tr.seq ?_
    refine Tr.sr ?_
    refine Tr.asg rfl rfl ?_
    refine Tr.nil (Tr.normThen ?_)
    refine Tr.block ?_
    refine Tr.loop (σ := Int) (fun m w s => F_etchhouseref9_checkSlot_L1 N p0 p1 x101 m s = some r) (fun s => [(1, (.int .i64 p1)), (2, (.pointer (some ⟨b100, 0, none⟩))), (5, (.pointer (some ⟨b102, 0, none⟩))), (9, (.int .i64 s))]) (fun s => [(1, bx b100 #[(.int .i64 p0.W), (.int .i64 p0.H), (.int .i64 p0.Rail), (.int .i64 p0.Gap), (.slice Ap0_0 (p0.Kinds).length cp0_0), (.slice Ap0_1 (p0.Slots).length cp0_1), (.slice Ap0_2 (p0.Marks).length cp0_2)] 26), (2, bx b102 #[(.string x101.Board), (.int .i64 x101.Quarters), (.int .i64 x101.At.X), (.int .i64 x101.At.Y)] 96)]) N 0 H (.cons rfl (.cons rfl (.cons rfl (.cons rfl .nil)))) (.cons rfl (.cons rfl .nil)) (fun _ _ h => noSome (h)) ?_
    intro w leF_etchhouseref9_checkSlot_L1 mF_etchhouseref9_checkSlot_L1 x119 hs
    have H := hs
    replace H : F_etchhouseref9_checkSlot_L1 N p0 p1 x101 (mF_etchhouseref9_checkSlot_L1 + 1) x119 = some r := H
    replace hp0_0 := hp0_0.leR leF_etchhouseref9_checkSlot_L1
    replace hp0_1 := hp0_1.leR leF_etchhouseref9_checkSlot_L1
    replace hp0_2 := hp0_2.leR leF_etchhouseref9_checkSlot_L1
    replace leB := leB.trans leF_etchhouseref9_checkSlot_L1
    rw [F_etchhouseref9_checkSlot_L1.eq_2] at H
    show Tr _ _ (LF [(1, (.int .i64 p1)), (2, (.pointer (some ⟨b100, 0, none⟩))), (5, (.pointer (some ⟨b102, 0, none⟩))), (9, (.int .i64 x119))]) (LE [(1, bx b100 #[(.int .i64 p0.W), (.int .i64 p0.H), (.int .i64 p0.Rail), (.int .i64 p0.Gap), (.slice Ap0_0 (p0.Kinds).length cp0_0), (.slice Ap0_1 (p0.Slots).length cp0_1), (.slice Ap0_2 (p0.Marks).length cp0_2)] 26), (2, bx b102 #[(.string x101.Board), (.int .i64 x101.Quarters), (.int .i64 x101.At.X), (.int .i64 x101.At.Y)] 96)]) _
    refine Tr.seq ?_
    refine Tr.sr ?_
    refine Tr.mv rfl rfl ?_
    refine Tr.mv rfl rfl ?_
    refine Tr.va rfl (fun _ _ h1 h2 => run_lss (h1.ev rfl) (h1.ev rfl)) ?_
    refine Tr.nil (Tr.normThen ?_)
    refine Tr.cond rfl H (fun H => ?_) (fun H => ?_)
    ·refine Tr.skip (Tr.normThen ?_)
     refine Tr.seq ?_
     refine Tr.block ?_
     refine Tr.seq ?_
     refine Tr.draw (by kernel_rfl) (by kernel_rfl) ?_
     refine Tq.va rfl (fun _ _ h1 h2 => run_loadN (cs := [(.int .i64 p0.W), (.int .i64 p0.H), (.int .i64 p0.Rail), (.int .i64 p0.Gap), (.slice Ap0_0 (p0.Kinds).length cp0_0), (.slice Ap0_1 (p0.Slots).length cp0_1), (.slice Ap0_2 (p0.Marks).length cp0_2)]) ag_26 sz_26 (h1.ev rfl) (CellsAt.take (rdb h2 (vs := [(.int .i64 p0.W), (.int .i64 p0.H), (.int .i64 p0.Rail), (.int .i64 p0.Gap), (.slice Ap0_0 (p0.Kinds).length cp0_0), (.slice Ap0_1 (p0.Slots).length cp0_1), (.slice Ap0_2 (p0.Marks).length cp0_2)]) (k := 1) rfl 0) 7) rfl) ?_
     refine Tq.va rfl (fun _ _ h1 h2 => run_loadN (cs := [(.string x101.Board), (.int .i64 x101.Quarters), (.int .i64 x101.At.X), (.int .i64 x101.At.Y)]) ag_96 sz_96 (h1.ev rfl) (CellsAt.take (rdb h2 (vs := [(.string x101.Board), (.int .i64 x101.Quarters), (.int .i64 x101.At.X), (.int .i64 x101.At.Y)]) (k := 2) rfl 0) 4) rfl) ?_
     obtain ⟨y120, hy120, H⟩ := bnd H
     refine Tq.call0 (r := (.agg #[(.int .i64 y120.X0), (.int .i64 y120.Y0), (.int .i64 y120.X1), (.int .i64 y120.Y1)])) (wn rfl) rfl Try.call63 (evl_cons rfl (evl_cons rfl evl_nil)) (fun W hW => F_etchhouseref9_cellOf_ok N p0 Ap0_0 cp0_0 (hp0_0.ext hW.extAll) Ap0_1 cp0_1 (hp0_1.ext hW.extAll) Ap0_2 cp0_2 (hp0_2.ext hW.extAll) x101 y120 hy120 (HF.start _)) ?_
     refine Tq.va rfl (fun _ _ h1 h2 => run_loadN (cs := [(.int .i64 p0.W), (.int .i64 p0.H), (.int .i64 p0.Rail), (.int .i64 p0.Gap), (.slice Ap0_0 (p0.Kinds).length cp0_0), (.slice Ap0_1 (p0.Slots).length cp0_1), (.slice Ap0_2 (p0.Marks).length cp0_2)]) ag_26 sz_26 (h1.ev rfl) (CellsAt.take (rdb h2 (vs := [(.int .i64 p0.W), (.int .i64 p0.H), (.int .i64 p0.Rail), (.int .i64 p0.Gap), (.slice Ap0_0 (p0.Kinds).length cp0_0), (.slice Ap0_1 (p0.Slots).length cp0_1), (.slice Ap0_2 (p0.Marks).length cp0_2)]) (k := 1) rfl 0) 7) rfl) ?_
     refine Tq.va rfl (fun _ _ h1 h2 => run_fieldAddr fo_26_5 (h1.ev rfl)) ?_
     refine Tq.va rfl (fun _ _ h1 h2 => run_load1 ag_23 (h1.ev rfl) (rdb h2 (vs := [(.int .i64 p0.W), (.int .i64 p0.H), (.int .i64 p0.Rail), (.int .i64 p0.Gap), (.slice Ap0_0 (p0.Kinds).length cp0_0), (.slice Ap0_1 (p0.Slots).length cp0_1), (.slice Ap0_2 (p0.Marks).length cp0_2)]) (k := 1) rfl 5) rfl) ?_
     refine Tq.mv rfl rfl ?_
     obtain ⟨x121, hx121, H⟩ := bnd H
     obtain ⟨hx1210, hx1211, hx1212⟩ := idx_some hx121
     refine Tq.va rfl (fun _ _ h1 h2 => run_indexAddr el_23 (h1.ev rfl) hp0_1.form (h1.ev rfl) hx1210 hx1211) ?_
     refine Tq.va rfl (fun _ _ h1 h2 => run_loadN (cs := [(.string x121.Board), (.int .i64 x121.Quarters), (.int .i64 x121.At.X), (.int .i64 x121.At.Y)]) ag_96 sz_96 (h1.ev rfl) (CellsAt.take (rdF ef_TSlot hp0_1 hx1212 h2) 4) rfl) ?_
     obtain ⟨y122, hy122, H⟩ := bnd H
     refine Tq.call0 (r := (.agg #[(.int .i64 y122.X0), (.int .i64 y122.Y0), (.int .i64 y122.X1), (.int .i64 y122.Y1)])) (wn rfl) rfl Try.call63 (evl_cons rfl (evl_cons rfl evl_nil)) (fun W hW => F_etchhouseref9_cellOf_ok N p0 Ap0_0 cp0_0 (hp0_0.ext hW.extAll) Ap0_1 cp0_1 (hp0_1.ext hW.extAll) Ap0_2 cp0_2 (hp0_2.ext hW.extAll) x121 y122 hy122 (HF.start _)) ?_
     refine Tq.va rfl (fun _ _ h1 h2 => run_fieldAddr fo_26_3 (h1.ev rfl)) ?_
     refine Tq.va rfl (fun _ _ h1 h2 => run_load1 ag_3 (h1.ev rfl) (rdb h2 (vs := [(.int .i64 p0.W), (.int .i64 p0.H), (.int .i64 p0.Rail), (.int .i64 p0.Gap), (.slice Ap0_0 (p0.Kinds).length cp0_0), (.slice Ap0_1 (p0.Slots).length cp0_1), (.slice Ap0_2 (p0.Marks).length cp0_2)]) (k := 1) rfl 3) rfl) ?_
     obtain ⟨y123, hy123, H⟩ := bnd H
     refine Tq.call0 (r := (.bool y123)) (wn rfl) rfl Try.call69 (evl_cons rfl (evl_cons rfl (evl_cons rfl evl_nil))) (fun W hW => F_etchhouseref9_apart_ok y120 y122 p0.Gap y123 hy123 (HF.start _)) ?_
     refine Tq.va rfl (fun _ _ h1 h2 => run_not (h1.ev rfl)) ?_
     refine Tq.nil (Tr.normThen ?_)
     refine Tr.cond rfl H (fun H => ?_) (fun H => ?_)
     ·refine Tr.sr ?_
      refine Tr.asg rfl rfl ?_
      refine Tr.nil (Tr.normThen ?_)
      refine Tr.ret (Tr.retBlock (Tr.retThen (Tr.retThen (Tr.retBlock (Tr.retThen ?_)))))
      obtain rfl := Option.some.inj H
      exact Tr.out (m := [(.int .i64 12)]) [] (res_tmp rfl res_nil) (fun W hW => ⟨rfl, hW.low leB⟩)
     ·refine Tr.skip (Tr.normBlock (Tr.normThen ?_))
      refine Tr.region ?_
      refine Tr.mv rfl rfl ?_
      refine Tr.va rfl (fun _ _ h1 h2 => run_add (h1.ev rfl) (h1.ev rfl)) ?_
      refine Tr.asg rfl rfl ?_
      refine Tr.nil ?_
      exact Tr.backThen leF_etchhouseref9_checkSlot_L1 (w64 (x119 + 1)) H (.cons rfl (.cons rfl (.cons rfl (.cons rfl .nil)))) (.cons rfl (.cons rfl .nil))
    ·refine Tr.exit (Tr.exitThen (Tr.exitThen (Tr.exitBlock (Tr.normThen ?_))))
     refine Tr.sr ?_
     refine Tr.asg rfl rfl ?_
     refine Tr.nil (Tr.normThen ?_)
     refine Tr.ret ?_
     obtain rfl := Option.some.inj H
     exact Tr.out (m := [(.int .i64 0)]) [] (res_tmp rfl res_nil) (fun W hW => ⟨rfl, hW.low leB⟩)

theorem F_etchhouseref9_checkMark_ok (N : Nat) {w : Bs} (p0 : TPanel) (Ap0_0 : Option Addr) (cp0_0 : Nat) (hp0_0 : Sl w.R w.W fl_TBoardKind Ap0_0 cp0_0 p0.Kinds) (Ap0_1 : Option Addr) (cp0_1 : Nat) (hp0_1 : Sl w.R w.W fl_TSlot Ap0_1 cp0_1 p0.Slots) (Ap0_2 : Option Addr) (cp0_2 : Nat) (hp0_2 : Sl w.R w.W fl_TPoint Ap0_2 cp0_2 p0.Marks) (p1 : Int) (r : Int) (H : F_etchhouseref9_checkMark N p0 p1 = some r) (hE : HF w w.W E0) : Calls Try.prog 44 [(.agg #[(.int .i64 p0.W), (.int .i64 p0.H), (.int .i64 p0.Rail), (.int .i64 p0.Gap), (.slice Ap0_0 (p0.Kinds).length cp0_0), (.slice Ap0_1 (p0.Slots).length cp0_1), (.slice Ap0_2 (p0.Marks).length cp0_2)]), (.int .i64 p1)].toArray w.W fun e W' => e = .returned (.int .i64 r) ∧ HF w W' E0 := by
 unfold F_etchhouseref9_checkMark at H
 have leB := Bs.Le.refl w
 refine Tr.enter (n := 80) Try.func44 rfl rfl rfl hE ?_
 refine Tr.sr ?_
 refine Tr.box 1 (cs := [(.int .i64 p0.W), (.int .i64 p0.H), (.int .i64 p0.Rail), (.int .i64 p0.Gap), (.slice Ap0_0 (p0.Kinds).length cp0_0), (.slice Ap0_1 (p0.Slots).length cp0_1), (.slice Ap0_2 (p0.Marks).length cp0_2)]) (wn rfl) rfl rfl rfl fun b100 => ?_
 refine Tr.asg rfl rfl ?_
 refine Tr.nil (Tr.normThen ?_)
 refine Tr.sr ?_
 refine Tr.va rfl (fun _ _ h1 h2 => run_fieldAddr fo_26_6 (h1.ev rfl)) ?_
 refine Tr.va rfl (fun _ _ h1 h2 => run_load1 ag_24 (h1.ev rfl) (rdb h2 (vs := [(.int .i64 p0.W), (.int .i64 p0.H), (.int .i64 p0.Rail), (.int .i64 p0.Gap), (.slice Ap0_0 (p0.Kinds).length cp0_0), (.slice Ap0_1 (p0.Slots).length cp0_1), (.slice Ap0_2 (p0.Marks).length cp0_2)]) (k := 1) rfl 6) rfl) ?_
 refine Tr.mv rfl rfl ?_
 obtain ⟨x101, hx101, H⟩ := bnd H
 obtain ⟨hx1010, hx1011, hx1012⟩ := idx_some hx101
 refine Tr.va rfl (fun _ _ h1 h2 => run_indexAddr el_24 (h1.ev rfl) hp0_2.form (h1.ev rfl) hx1010 hx1011) ?_
 refine Tr.va rfl (fun _ _ h1 h2 => run_loadN (cs := [(.int .i64 x101.X), (.int .i64 x101.Y)]) ag_82 sz_82 (h1.ev rfl) (CellsAt.take (rdF ef_TPoint hp0_2 hx1012 h2) 2) rfl) ?_
 refine Tr.alloc 2 (wn rfl) rfl ze_82 fun b102 => ?_
 refine Tr.store 2 (cs := [(.int .i64 x101.X), (.int .i64 x101.Y)]) [(.int .i64 x101.X), (.int .i64 x101.Y)] (wn rfl) rfl rfl rfl rfl sz_82 rfl rfl rfl ?_
 refine Tr.nil (Tr.normThen ?_)
 refine Tr.seq ?_
 refine Tr.sr ?_
 refine Tr.va rfl (fun _ _ h1 h2 => run_fieldAddr fo_82_0 (h1.ev rfl)) ?_
 refine Tr.va rfl (fun _ _ h1 h2 => run_load1 ag_3 (h1.ev rfl) (rdb h2 (vs := [(.int .i64 x101.X), (.int .i64 x101.Y)]) (k := 2) rfl 0) rfl) ?_
 refine Tr.va rfl (fun _ _ h1 h2 => run_fieldAddr fo_26_0 (h1.ev rfl)) ?_
 refine Tr.va rfl (fun _ _ h1 h2 => run_load1 ag_3 (h1.ev rfl) (rdb h2 (vs := [(.int .i64 p0.W), (.int .i64 p0.H), (.int .i64 p0.Rail), (.int .i64 p0.Gap), (.slice Ap0_0 (p0.Kinds).length cp0_0), (.slice Ap0_1 (p0.Slots).length cp0_1), (.slice Ap0_2 (p0.Marks).length cp0_2)]) (k := 1) rfl 0) rfl) ?_
 obtain ⟨y103, hy103, H⟩ := bnd H
 refine Tr.call0 (r := (.bool y103)) (wn rfl) rfl Try.call41 (evl_cons rfl (evl_cons rfl (evl_cons rfl evl_nil))) (fun W hW => F_etchhouseref9_within_ok x101.X 0 p0.W y103 hy103 (HF.start _)) ?_
 refine Tr.va rfl (fun _ _ h1 h2 => run_not (h1.ev rfl)) ?_
 refine Tr.mv rfl rfl ?_
 obtain ⟨g105, hg105, H⟩ := bnd H
 refine Tr.mid0 7 [(1, (.int .i64 p1)), (2, (.pointer (some ⟨b100, 0, none⟩))), (5, (.pointer (some ⟨b102, 0, none⟩))), (27, (.bool g105))] [(1, bx b100 #[(.int .i64 p0.W), (.int .i64 p0.H), (.int .i64 p0.Rail), (.int .i64 p0.Gap), (.slice Ap0_0 (p0.Kinds).length cp0_0), (.slice Ap0_1 (p0.Slots).length cp0_1), (.slice Ap0_2 (p0.Marks).length cp0_2)] 26), (2, bx b102 #[(.int .i64 x101.X), (.int .i64 x101.Y)] 82)] ?_ ?_
 ·cases hg126 : (!y103)
  ·rw [hg126] at hg105
   rw [if_neg (by decide)] at hg105
   have H := hg105
   refine Tr.val (wg rfl rfl rfl) rfl (fun _ _ h1 h2 => run_fieldAddr fo_82_1 (h1.ev rfl)) ?_
   refine Tr.val (wg rfl rfl rfl) rfl (fun _ _ h1 h2 => run_load1 ag_3 (h1.ev rfl) (rdb h2 (vs := [(.int .i64 x101.X), (.int .i64 x101.Y)]) (k := 2) rfl 1) rfl) ?_
   refine Tr.val (wg rfl rfl rfl) rfl (fun _ _ h1 h2 => run_fieldAddr fo_26_1 (h1.ev rfl)) ?_
   refine Tr.val (wg rfl rfl rfl) rfl (fun _ _ h1 h2 => run_load1 ag_3 (h1.ev rfl) (rdb h2 (vs := [(.int .i64 p0.W), (.int .i64 p0.H), (.int .i64 p0.Rail), (.int .i64 p0.Gap), (.slice Ap0_0 (p0.Kinds).length cp0_0), (.slice Ap0_1 (p0.Slots).length cp0_1), (.slice Ap0_2 (p0.Marks).length cp0_2)]) (k := 1) rfl 1) rfl) ?_
   obtain ⟨y106, hy106, H⟩ := bnd H
   refine Tr.call0 (r := (.bool y106)) (wg rfl rfl rfl) rfl Try.call41 (evl_cons rfl (evl_cons rfl (evl_cons rfl evl_nil))) (fun W hW => F_etchhouseref9_within_ok x101.Y 0 p0.H y106 hy106 (HF.start _)) ?_
   refine Tr.val (wg rfl rfl rfl) rfl (fun _ _ h1 h2 => run_not (h1.ev rfl)) ?_
   refine Tr.va rfl (fun _ _ h1 h2 => run_pickF (h1.ev rfl) (h1.ev rfl)) ?_
   obtain rfl := Option.some.inj H
   exact Tr.nil (Tr.fin0 (.cons rfl (.cons rfl (.cons rfl (.cons rfl .nil)))) (.cons rfl (.cons rfl .nil)))
  ·rw [hg126] at hg105
   rw [if_pos rfl] at hg105
   have H := hg105
   obtain rfl := Option.some.inj H
   refine Tr.pass rfl rfl rfl rfl rfl (by decide) ?_
   refine Tr.pass rfl rfl rfl rfl rfl (by decide) ?_
   refine Tr.pass rfl rfl rfl rfl rfl (by decide) ?_
   refine Tr.pass rfl rfl rfl rfl rfl (by decide) ?_
   refine Tr.pass rfl rfl rfl rfl rfl (by decide) ?_
   refine Tr.pass rfl rfl rfl rfl rfl (by decide) ?_
   refine Tr.va rfl (fun _ _ h1 h2 => run_pickT (h1.ev rfl) (h1.ev rfl)) ?_
   exact Tr.nil (Tr.fin0 (.cons rfl (.cons rfl (.cons rfl (.cons rfl .nil)))) (.cons rfl (.cons rfl .nil)))
 ·show Tr _ _ (LF [(1, (.int .i64 p1)), (2, (.pointer (some ⟨b100, 0, none⟩))), (5, (.pointer (some ⟨b102, 0, none⟩))), (27, (.bool g105))]) (LE [(1, bx b100 #[(.int .i64 p0.W), (.int .i64 p0.H), (.int .i64 p0.Rail), (.int .i64 p0.Gap), (.slice Ap0_0 (p0.Kinds).length cp0_0), (.slice Ap0_1 (p0.Slots).length cp0_1), (.slice Ap0_2 (p0.Marks).length cp0_2)] 26), (2, bx b102 #[(.int .i64 x101.X), (.int .i64 x101.Y)] 82)]) _
  refine Tr.nil (Tr.normThen ?_)
  refine Tr.cond rfl H (fun H => ?_) (fun H => ?_)
  ·refine Tr.sr ?_
   refine Tr.asg rfl rfl ?_
   refine Tr.nil (Tr.normThen ?_)
   refine Tr.ret (Tr.retThen ?_)
   obtain rfl := Option.some.inj H
   exact Tr.out (m := [(.int .i64 1)]) [] (res_tmp rfl res_nil) (fun W hW => ⟨rfl, hW.low leB⟩)
  ·refine Tr.skip (Tr.normThen ?_)
   refine Tr.seq ?_
   refine Tr.sr ?_
   refine Tr.asg rfl rfl ?_
   refine Tr.nil (Tr.normThen ?_)
   refine Tr.block ?_
   refine Tr.loop (σ := Int) (fun m w s => F_etchhouseref9_checkMark_L1 N p0 p1 x101 m s = some r) (fun s => [(1, (.int .i64 p1)), (2, (.pointer (some ⟨b100, 0, none⟩))), (5, (.pointer (some ⟨b102, 0, none⟩))), (6, (.int .i64 s))]) (fun s => [(1, bx b100 #[(.int .i64 p0.W), (.int .i64 p0.H), (.int .i64 p0.Rail), (.int .i64 p0.Gap), (.slice Ap0_0 (p0.Kinds).length cp0_0), (.slice Ap0_1 (p0.Slots).length cp0_1), (.slice Ap0_2 (p0.Marks).length cp0_2)] 26), (2, bx b102 #[(.int .i64 x101.X), (.int .i64 x101.Y)] 82)]) N 0 H (.cons rfl (.cons rfl (.cons rfl (.cons rfl .nil)))) (.cons rfl (.cons rfl .nil)) (fun _ _ h => noSome (h)) ?_
   intro w leF_etchhouseref9_checkMark_L1 mF_etchhouseref9_checkMark_L1 x116 hs
   have H := hs
   replace H : F_etchhouseref9_checkMark_L1 N p0 p1 x101 (mF_etchhouseref9_checkMark_L1 + 1) x116 = some r := H
   replace hp0_0 := hp0_0.leR leF_etchhouseref9_checkMark_L1
   replace hp0_1 := hp0_1.leR leF_etchhouseref9_checkMark_L1
   replace hp0_2 := hp0_2.leR leF_etchhouseref9_checkMark_L1
   replace leB := leB.trans leF_etchhouseref9_checkMark_L1
   rw [F_etchhouseref9_checkMark_L1.eq_2] at H
   show Tr _ _ (LF [(1, (.int .i64 p1)), (2, (.pointer (some ⟨b100, 0, none⟩))), (5, (.pointer (some ⟨b102, 0, none⟩))), (6, (.int .i64 x116))]) (LE [(1, bx b100 #[(.int .i64 p0.W), (.int .i64 p0.H), (.int .i64 p0.Rail), (.int .i64 p0.Gap), (.slice Ap0_0 (p0.Kinds).length cp0_0), (.slice Ap0_1 (p0.Slots).length cp0_1), (.slice Ap0_2 (p0.Marks).length cp0_2)] 26), (2, bx b102 #[(.int .i64 x101.X), (.int .i64 x101.Y)] 82)]) _
   refine Tr.seq ?_
   refine Tr.sr ?_
   refine Tr.mv rfl rfl ?_
   refine Tr.va rfl (fun _ _ h1 h2 => run_fieldAddr fo_26_5 (h1.ev rfl)) ?_
   refine Tr.va rfl (fun _ _ h1 h2 => run_load1 ag_23 (h1.ev rfl) (rdb h2 (vs := [(.int .i64 p0.W), (.int .i64 p0.H), (.int .i64 p0.Rail), (.int .i64 p0.Gap), (.slice Ap0_0 (p0.Kinds).length cp0_0), (.slice Ap0_1 (p0.Slots).length cp0_1), (.slice Ap0_2 (p0.Marks).length cp0_2)]) (k := 1) rfl 5) rfl) ?_
   refine Tr.va rfl (fun _ _ h1 h2 => run_len un_23 (h1.ev rfl)) ?_
   refine Tr.va rfl (fun _ _ h1 h2 => run_lss (h1.ev rfl) (h1.ev rfl)) ?_
   refine Tr.nil (Tr.normThen ?_)
   refine Tr.cond rfl H (fun H => ?_) (fun H => ?_)
   ·refine Tr.skip (Tr.normThen ?_)
    refine Tr.seq ?_
    refine Tr.block ?_
    refine Tr.seq ?_
    obtain ⟨x118, hx118, H⟩ := bnd H
    obtain ⟨hx1180, hx1181, hx1182⟩ := idx_some hx118
    obtain ⟨y119, hy119, H⟩ := bnd H
    refine Tr.drawF 8 [(7, .makeFunc (.func 0) #[] #[])] [(7, ⟨7, 5, (.func (.func 0) #[] #[]), fun b => .pointer (some ⟨b, 0, none⟩), fun b => bx b #[(.int .i64 0), (.int .i64 0), (.int .i64 0), (.int .i64 0)] 38⟩)] [(1, (.int .i64 p1)), (2, (.pointer (some ⟨b100, 0, none⟩))), (5, (.pointer (some ⟨b102, 0, none⟩))), (6, (.int .i64 x116)), (7, (.func (.func 0) #[] #[])), (28, (.int .i64 x116)), (29, (.pointer (some ⟨b100, 5, none⟩))), (30, (.slice Ap0_1 (p0.Slots).length cp0_1)), (31, (.int .i64 (p0.Slots.length : Int))), (32, (.bool (decide (x116 < (p0.Slots.length : Int))))), (35, (.agg #[(.int .i64 p0.W), (.int .i64 p0.H), (.int .i64 p0.Rail), (.int .i64 p0.Gap), (.slice Ap0_0 (p0.Kinds).length cp0_0), (.slice Ap0_1 (p0.Slots).length cp0_1), (.slice Ap0_2 (p0.Marks).length cp0_2)])), (36, (.pointer (some ⟨b100, 5, none⟩))), (37, (.slice Ap0_1 (p0.Slots).length cp0_1)), (38, (.int .i64 x116)), (39, (.pointer (some ⟨adB Ap0_1, adO Ap0_1 + (x116).toNat * 4, none⟩))), (40, (.agg #[(.string x118.Board), (.int .i64 x118.Quarters), (.int .i64 x118.At.X), (.int .i64 x118.At.Y)])), (41, (.agg #[(.int .i64 y119.X0), (.int .i64 y119.Y0), (.int .i64 y119.X1), (.int .i64 y119.Y1)]))] (by kernel_rfl) (by kernel_rfl) (by kernel_rfl) (by kernel_rfl) (by kernel_rfl) (by kernel_rfl) (by kernel_rfl) (fall_cons (fr_alloc rfl rfl ze_38) fall_nil) (fall_cons rfl fall_nil) (fall_cons rfl fall_nil) ?_ ?_
    ·refine Tq.va rfl (fun _ _ h1 h2 => run_loadN (cs := [(.int .i64 p0.W), (.int .i64 p0.H), (.int .i64 p0.Rail), (.int .i64 p0.Gap), (.slice Ap0_0 (p0.Kinds).length cp0_0), (.slice Ap0_1 (p0.Slots).length cp0_1), (.slice Ap0_2 (p0.Marks).length cp0_2)]) ag_26 sz_26 (h1.ev rfl) (CellsAt.take (rdb h2 (vs := [(.int .i64 p0.W), (.int .i64 p0.H), (.int .i64 p0.Rail), (.int .i64 p0.Gap), (.slice Ap0_0 (p0.Kinds).length cp0_0), (.slice Ap0_1 (p0.Slots).length cp0_1), (.slice Ap0_2 (p0.Marks).length cp0_2)]) (k := 1) rfl 0) 7) rfl) ?_
     refine Tq.va rfl (fun _ _ h1 h2 => run_fieldAddr fo_26_5 (h1.ev rfl)) ?_
     refine Tq.va rfl (fun _ _ h1 h2 => run_load1 ag_23 (h1.ev rfl) (rdb h2 (vs := [(.int .i64 p0.W), (.int .i64 p0.H), (.int .i64 p0.Rail), (.int .i64 p0.Gap), (.slice Ap0_0 (p0.Kinds).length cp0_0), (.slice Ap0_1 (p0.Slots).length cp0_1), (.slice Ap0_2 (p0.Marks).length cp0_2)]) (k := 1) rfl 5) rfl) ?_
     refine Tq.mv rfl rfl ?_
     refine Tq.va rfl (fun _ _ h1 h2 => run_indexAddr el_23 (h1.ev rfl) hp0_1.form (h1.ev rfl) hx1180 hx1181) ?_
     refine Tq.va rfl (fun _ _ h1 h2 => run_loadN (cs := [(.string x118.Board), (.int .i64 x118.Quarters), (.int .i64 x118.At.X), (.int .i64 x118.At.Y)]) ag_96 sz_96 (h1.ev rfl) (CellsAt.take (rdF ef_TSlot hp0_1 hx1182 h2) 4) rfl) ?_
     refine Tq.call0 (r := (.agg #[(.int .i64 y119.X0), (.int .i64 y119.Y0), (.int .i64 y119.X1), (.int .i64 y119.Y1)])) (wn rfl) rfl Try.call63 (evl_cons rfl (evl_cons rfl evl_nil)) (fun W hW => F_etchhouseref9_cellOf_ok N p0 Ap0_0 cp0_0 (hp0_0.ext hW.extAll) Ap0_1 cp0_1 (hp0_1.ext hW.extAll) Ap0_2 cp0_2 (hp0_2.ext hW.extAll) x118 y119 hy119 (HF.start _)) ?_
     refine Tq.mkFunc (vs := []) (wn rfl) rfl evl_nil ?_
     exact Tq.fin (.cons rfl (.cons rfl (.cons rfl (.cons rfl (.cons rfl (.cons rfl (.cons rfl (.cons rfl (.cons rfl (.cons rfl (.cons rfl (.cons rfl (.cons rfl (.cons rfl (.cons rfl (.cons rfl (.cons rfl .nil)))))))))))))))))
    ·intro bs117
     refine Tr.sel (lf := [(1, (.int .i64 p1)), (2, (.pointer (some ⟨b100, 0, none⟩))), (5, (.pointer (some ⟨b102, 0, none⟩))), (6, (.int .i64 x116)), (7, (.pointer (some ⟨(bs117 7), 0, none⟩))), (41, (.agg #[(.int .i64 y119.X0), (.int .i64 y119.Y0), (.int .i64 y119.X1), (.int .i64 y119.Y1)]))]) (le := [(1, bx b100 #[(.int .i64 p0.W), (.int .i64 p0.H), (.int .i64 p0.Rail), (.int .i64 p0.Gap), (.slice Ap0_0 (p0.Kinds).length cp0_0), (.slice Ap0_1 (p0.Slots).length cp0_1), (.slice Ap0_2 (p0.Marks).length cp0_2)] 26), (2, bx b102 #[(.int .i64 x101.X), (.int .i64 x101.Y)] 82), (5, bx (bs117 7) #[(.int .i64 0), (.int .i64 0), (.int .i64 0), (.int .i64 0)] 38)]) (.cons rfl (.cons rfl (.cons rfl (.cons rfl (.cons rfl (.cons rfl .nil)))))) (.cons rfl (.cons rfl (.cons rfl .nil))) ?_
     refine Tr.store 5 (cs := [(.int .i64 y119.X0), (.int .i64 y119.Y0), (.int .i64 y119.X1), (.int .i64 y119.Y1)]) [(.int .i64 y119.X0), (.int .i64 y119.Y0), (.int .i64 y119.X1), (.int .i64 y119.Y1)] (wn rfl) rfl rfl rfl rfl sz_38 rfl rfl rfl ?_
     refine Tr.nil (Tr.normThen ?_)
     refine Tr.sr ?_
     refine Tr.va rfl (fun _ _ h1 h2 => run_fieldAddr fo_38_0 (h1.ev rfl)) ?_
     refine Tr.va rfl (fun _ _ h1 h2 => run_load1 ag_3 (h1.ev rfl) (rdb h2 (vs := [(.int .i64 y119.X0), (.int .i64 y119.Y0), (.int .i64 y119.X1), (.int .i64 y119.Y1)]) (k := 5) rfl 0) rfl) ?_
     refine Tr.va rfl (fun _ _ h1 h2 => run_fieldAddr fo_82_0 (h1.ev rfl)) ?_
     refine Tr.va rfl (fun _ _ h1 h2 => run_load1 ag_3 (h1.ev rfl) (rdb h2 (vs := [(.int .i64 x101.X), (.int .i64 x101.Y)]) (k := 2) rfl 0) rfl) ?_
     refine Tr.va rfl (fun _ _ h1 h2 => run_lss (h1.ev rfl) (h1.ev rfl)) ?_
     refine Tr.mv rfl rfl ?_
     refine Tr.mid0 6 [(1, (.int .i64 p1)), (2, (.pointer (some ⟨b100, 0, none⟩))), (5, (.pointer (some ⟨b102, 0, none⟩))), (6, (.int .i64 x116)), (7, (.pointer (some ⟨(bs117 7), 0, none⟩))), (53, (.bool ((decide (y119.X0 < x101.X)) && (decide (x101.X < y119.X1)))))] [(1, bx b100 #[(.int .i64 p0.W), (.int .i64 p0.H), (.int .i64 p0.Rail), (.int .i64 p0.Gap), (.slice Ap0_0 (p0.Kinds).length cp0_0), (.slice Ap0_1 (p0.Slots).length cp0_1), (.slice Ap0_2 (p0.Marks).length cp0_2)] 26), (2, bx b102 #[(.int .i64 x101.X), (.int .i64 x101.Y)] 82), (5, bx (bs117 7) #[(.int .i64 y119.X0), (.int .i64 y119.Y0), (.int .i64 y119.X1), (.int .i64 y119.Y1)] 38)] ?_ ?_
     ·cases hg119 : (decide (y119.X0 < x101.X))
      ·refine Tr.pass rfl rfl rfl rfl rfl (by decide) ?_
       refine Tr.pass rfl rfl rfl rfl rfl (by decide) ?_
       refine Tr.pass rfl rfl rfl rfl rfl (by decide) ?_
       refine Tr.pass rfl rfl rfl rfl rfl (by decide) ?_
       refine Tr.pass rfl rfl rfl rfl rfl (by decide) ?_
       refine Tr.va rfl (fun _ _ h1 h2 => run_pickF (h1.ev rfl) (h1.ev rfl)) ?_
       exact Tr.nil (Tr.fin0 (.cons rfl (.cons rfl (.cons rfl (.cons rfl (.cons rfl (.cons rfl .nil)))))) (.cons rfl (.cons rfl (.cons rfl .nil))))
      ·refine Tr.val (wg rfl rfl rfl) rfl (fun _ _ h1 h2 => run_fieldAddr fo_82_0 (h1.ev rfl)) ?_
       refine Tr.val (wg rfl rfl rfl) rfl (fun _ _ h1 h2 => run_load1 ag_3 (h1.ev rfl) (rdb h2 (vs := [(.int .i64 x101.X), (.int .i64 x101.Y)]) (k := 2) rfl 0) rfl) ?_
       refine Tr.val (wg rfl rfl rfl) rfl (fun _ _ h1 h2 => run_fieldAddr fo_38_2 (h1.ev rfl)) ?_
       refine Tr.val (wg rfl rfl rfl) rfl (fun _ _ h1 h2 => run_load1 ag_3 (h1.ev rfl) (rdb h2 (vs := [(.int .i64 y119.X0), (.int .i64 y119.Y0), (.int .i64 y119.X1), (.int .i64 y119.Y1)]) (k := 5) rfl 2) rfl) ?_
       refine Tr.val (wg rfl rfl rfl) rfl (fun _ _ h1 h2 => run_lss (h1.ev rfl) (h1.ev rfl)) ?_
       refine Tr.va rfl (fun _ _ h1 h2 => run_pickT (h1.ev rfl) (h1.ev rfl)) ?_
       exact Tr.nil (Tr.fin0 (.cons rfl (.cons rfl (.cons rfl (.cons rfl (.cons rfl (.cons rfl .nil)))))) (.cons rfl (.cons rfl (.cons rfl .nil))))
     ·show Tr _ _ (LF [(1, (.int .i64 p1)), (2, (.pointer (some ⟨b100, 0, none⟩))), (5, (.pointer (some ⟨b102, 0, none⟩))), (6, (.int .i64 x116)), (7, (.pointer (some ⟨(bs117 7), 0, none⟩))), (53, (.bool ((decide (y119.X0 < x101.X)) && (decide (x101.X < y119.X1)))))]) (LE [(1, bx b100 #[(.int .i64 p0.W), (.int .i64 p0.H), (.int .i64 p0.Rail), (.int .i64 p0.Gap), (.slice Ap0_0 (p0.Kinds).length cp0_0), (.slice Ap0_1 (p0.Slots).length cp0_1), (.slice Ap0_2 (p0.Marks).length cp0_2)] 26), (2, bx b102 #[(.int .i64 x101.X), (.int .i64 x101.Y)] 82), (5, bx (bs117 7) #[(.int .i64 y119.X0), (.int .i64 y119.Y0), (.int .i64 y119.X1), (.int .i64 y119.Y1)] 38)]) _
      refine Tr.mv rfl rfl ?_
      refine Tr.mid0 6 [(1, (.int .i64 p1)), (2, (.pointer (some ⟨b100, 0, none⟩))), (5, (.pointer (some ⟨b102, 0, none⟩))), (6, (.int .i64 x116)), (7, (.pointer (some ⟨(bs117 7), 0, none⟩))), (60, (.bool (((decide (y119.X0 < x101.X)) && (decide (x101.X < y119.X1))) && (decide (y119.Y0 < x101.Y)))))] [(1, bx b100 #[(.int .i64 p0.W), (.int .i64 p0.H), (.int .i64 p0.Rail), (.int .i64 p0.Gap), (.slice Ap0_0 (p0.Kinds).length cp0_0), (.slice Ap0_1 (p0.Slots).length cp0_1), (.slice Ap0_2 (p0.Marks).length cp0_2)] 26), (2, bx b102 #[(.int .i64 x101.X), (.int .i64 x101.Y)] 82), (5, bx (bs117 7) #[(.int .i64 y119.X0), (.int .i64 y119.Y0), (.int .i64 y119.X1), (.int .i64 y119.Y1)] 38)] ?_ ?_
      ·cases hg119 : ((decide (y119.X0 < x101.X)) && (decide (x101.X < y119.X1)))
       ·refine Tr.pass rfl rfl rfl rfl rfl (by decide) ?_
        refine Tr.pass rfl rfl rfl rfl rfl (by decide) ?_
        refine Tr.pass rfl rfl rfl rfl rfl (by decide) ?_
        refine Tr.pass rfl rfl rfl rfl rfl (by decide) ?_
        refine Tr.pass rfl rfl rfl rfl rfl (by decide) ?_
        refine Tr.va rfl (fun _ _ h1 h2 => run_pickF (h1.ev rfl) (h1.ev rfl)) ?_
        exact Tr.nil (Tr.fin0 (.cons rfl (.cons rfl (.cons rfl (.cons rfl (.cons rfl (.cons rfl .nil)))))) (.cons rfl (.cons rfl (.cons rfl .nil))))
       ·refine Tr.val (wg rfl rfl rfl) rfl (fun _ _ h1 h2 => run_fieldAddr fo_38_1 (h1.ev rfl)) ?_
        refine Tr.val (wg rfl rfl rfl) rfl (fun _ _ h1 h2 => run_load1 ag_3 (h1.ev rfl) (rdb h2 (vs := [(.int .i64 y119.X0), (.int .i64 y119.Y0), (.int .i64 y119.X1), (.int .i64 y119.Y1)]) (k := 5) rfl 1) rfl) ?_
        refine Tr.val (wg rfl rfl rfl) rfl (fun _ _ h1 h2 => run_fieldAddr fo_82_1 (h1.ev rfl)) ?_
        refine Tr.val (wg rfl rfl rfl) rfl (fun _ _ h1 h2 => run_load1 ag_3 (h1.ev rfl) (rdb h2 (vs := [(.int .i64 x101.X), (.int .i64 x101.Y)]) (k := 2) rfl 1) rfl) ?_
        refine Tr.val (wg rfl rfl rfl) rfl (fun _ _ h1 h2 => run_lss (h1.ev rfl) (h1.ev rfl)) ?_
        refine Tr.va rfl (fun _ _ h1 h2 => run_pickT (h1.ev rfl) (h1.ev rfl)) ?_
        exact Tr.nil (Tr.fin0 (.cons rfl (.cons rfl (.cons rfl (.cons rfl (.cons rfl (.cons rfl .nil)))))) (.cons rfl (.cons rfl (.cons rfl .nil))))
      ·show Tr _ _ (LF [(1, (.int .i64 p1)), (2, (.pointer (some ⟨b100, 0, none⟩))), (5, (.pointer (some ⟨b102, 0, none⟩))), (6, (.int .i64 x116)), (7, (.pointer (some ⟨(bs117 7), 0, none⟩))), (60, (.bool (((decide (y119.X0 < x101.X)) && (decide (x101.X < y119.X1))) && (decide (y119.Y0 < x101.Y)))))]) (LE [(1, bx b100 #[(.int .i64 p0.W), (.int .i64 p0.H), (.int .i64 p0.Rail), (.int .i64 p0.Gap), (.slice Ap0_0 (p0.Kinds).length cp0_0), (.slice Ap0_1 (p0.Slots).length cp0_1), (.slice Ap0_2 (p0.Marks).length cp0_2)] 26), (2, bx b102 #[(.int .i64 x101.X), (.int .i64 x101.Y)] 82), (5, bx (bs117 7) #[(.int .i64 y119.X0), (.int .i64 y119.Y0), (.int .i64 y119.X1), (.int .i64 y119.Y1)] 38)]) _
       refine Tr.mv rfl rfl ?_
       refine Tr.mid0 6 [(1, (.int .i64 p1)), (2, (.pointer (some ⟨b100, 0, none⟩))), (5, (.pointer (some ⟨b102, 0, none⟩))), (6, (.int .i64 x116)), (67, (.bool ((((decide (y119.X0 < x101.X)) && (decide (x101.X < y119.X1))) && (decide (y119.Y0 < x101.Y))) && (decide (x101.Y < y119.Y1)))))] [(1, bx b100 #[(.int .i64 p0.W), (.int .i64 p0.H), (.int .i64 p0.Rail), (.int .i64 p0.Gap), (.slice Ap0_0 (p0.Kinds).length cp0_0), (.slice Ap0_1 (p0.Slots).length cp0_1), (.slice Ap0_2 (p0.Marks).length cp0_2)] 26), (2, bx b102 #[(.int .i64 x101.X), (.int .i64 x101.Y)] 82), (5, bx (bs117 7) #[(.int .i64 y119.X0), (.int .i64 y119.Y0), (.int .i64 y119.X1), (.int .i64 y119.Y1)] 38)] ?_ ?_
       ·cases hg119 : (((decide (y119.X0 < x101.X)) && (decide (x101.X < y119.X1))) && (decide (y119.Y0 < x101.Y)))
        ·refine Tr.pass rfl rfl rfl rfl rfl (by decide) ?_
         refine Tr.pass rfl rfl rfl rfl rfl (by decide) ?_
         refine Tr.pass rfl rfl rfl rfl rfl (by decide) ?_
         refine Tr.pass rfl rfl rfl rfl rfl (by decide) ?_
         refine Tr.pass rfl rfl rfl rfl rfl (by decide) ?_
         refine Tr.va rfl (fun _ _ h1 h2 => run_pickF (h1.ev rfl) (h1.ev rfl)) ?_
         exact Tr.nil (Tr.fin0 (.cons rfl (.cons rfl (.cons rfl (.cons rfl (.cons rfl .nil))))) (.cons rfl (.cons rfl (.cons rfl .nil))))
        ·refine Tr.val (wg rfl rfl rfl) rfl (fun _ _ h1 h2 => run_fieldAddr fo_82_1 (h1.ev rfl)) ?_
         refine Tr.val (wg rfl rfl rfl) rfl (fun _ _ h1 h2 => run_load1 ag_3 (h1.ev rfl) (rdb h2 (vs := [(.int .i64 x101.X), (.int .i64 x101.Y)]) (k := 2) rfl 1) rfl) ?_
         refine Tr.val (wg rfl rfl rfl) rfl (fun _ _ h1 h2 => run_fieldAddr fo_38_3 (h1.ev rfl)) ?_
         refine Tr.val (wg rfl rfl rfl) rfl (fun _ _ h1 h2 => run_load1 ag_3 (h1.ev rfl) (rdb h2 (vs := [(.int .i64 y119.X0), (.int .i64 y119.Y0), (.int .i64 y119.X1), (.int .i64 y119.Y1)]) (k := 5) rfl 3) rfl) ?_
         refine Tr.val (wg rfl rfl rfl) rfl (fun _ _ h1 h2 => run_lss (h1.ev rfl) (h1.ev rfl)) ?_
         refine Tr.va rfl (fun _ _ h1 h2 => run_pickT (h1.ev rfl) (h1.ev rfl)) ?_
         exact Tr.nil (Tr.fin0 (.cons rfl (.cons rfl (.cons rfl (.cons rfl (.cons rfl .nil))))) (.cons rfl (.cons rfl (.cons rfl .nil))))
       ·show Tr _ _ (LF [(1, (.int .i64 p1)), (2, (.pointer (some ⟨b100, 0, none⟩))), (5, (.pointer (some ⟨b102, 0, none⟩))), (6, (.int .i64 x116)), (67, (.bool ((((decide (y119.X0 < x101.X)) && (decide (x101.X < y119.X1))) && (decide (y119.Y0 < x101.Y))) && (decide (x101.Y < y119.Y1)))))]) (LE [(1, bx b100 #[(.int .i64 p0.W), (.int .i64 p0.H), (.int .i64 p0.Rail), (.int .i64 p0.Gap), (.slice Ap0_0 (p0.Kinds).length cp0_0), (.slice Ap0_1 (p0.Slots).length cp0_1), (.slice Ap0_2 (p0.Marks).length cp0_2)] 26), (2, bx b102 #[(.int .i64 x101.X), (.int .i64 x101.Y)] 82), (5, bx (bs117 7) #[(.int .i64 y119.X0), (.int .i64 y119.Y0), (.int .i64 y119.X1), (.int .i64 y119.Y1)] 38)]) _
        refine Tr.nil (Tr.normThen ?_)
        refine Tr.cond rfl H (fun H => ?_) (fun H => ?_)
        ·refine Tr.sr ?_
         refine Tr.asg rfl rfl ?_
         refine Tr.nil (Tr.normThen ?_)
         refine Tr.ret (Tr.retBlock (Tr.retThen (Tr.retThen (Tr.retBlock (Tr.retThen ?_)))))
         obtain rfl := Option.some.inj H
         exact Tr.out (m := [(.int .i64 12)]) [] (res_tmp rfl res_nil) (fun W hW => ⟨rfl, hW.low leB⟩)
        ·refine Tr.skip (Tr.normBlock (Tr.normThen ?_))
         refine Tr.region ?_
         refine Tr.mv rfl rfl ?_
         refine Tr.va rfl (fun _ _ h1 h2 => run_add (h1.ev rfl) (h1.ev rfl)) ?_
         refine Tr.asg rfl rfl ?_
         refine Tr.nil ?_
         exact Tr.backThen leF_etchhouseref9_checkMark_L1 (w64 (x116 + 1)) H (.cons rfl (.cons rfl (.cons rfl (.cons rfl .nil)))) (.cons rfl (.cons rfl .nil))
   ·refine Tr.exit (Tr.exitThen (Tr.exitThen (Tr.exitBlock (Tr.normThen ?_))))
    refine Tr.seq ?_
    refine Tr.sr ?_
    refine Tr.asg rfl rfl ?_
    refine Tr.nil (Tr.normThen ?_)
    refine Tr.block ?_
    refine Tr.loop (σ := Int) (fun m w s => F_etchhouseref9_checkMark_L2 p0 p1 x101 m s = some r) (fun s => [(1, (.int .i64 p1)), (2, (.pointer (some ⟨b100, 0, none⟩))), (5, (.pointer (some ⟨b102, 0, none⟩))), (8, (.int .i64 s))]) (fun s => [(1, bx b100 #[(.int .i64 p0.W), (.int .i64 p0.H), (.int .i64 p0.Rail), (.int .i64 p0.Gap), (.slice Ap0_0 (p0.Kinds).length cp0_0), (.slice Ap0_1 (p0.Slots).length cp0_1), (.slice Ap0_2 (p0.Marks).length cp0_2)] 26), (2, bx b102 #[(.int .i64 x101.X), (.int .i64 x101.Y)] 82)]) N 0 H (.cons rfl (.cons rfl (.cons rfl (.cons rfl .nil)))) (.cons rfl (.cons rfl .nil)) (fun _ _ h => noSome (h)) ?_
    intro w leF_etchhouseref9_checkMark_L2 mF_etchhouseref9_checkMark_L2 x125 hs
    have H := hs
    replace H : F_etchhouseref9_checkMark_L2 p0 p1 x101 (mF_etchhouseref9_checkMark_L2 + 1) x125 = some r := H
    replace hp0_0 := hp0_0.leR leF_etchhouseref9_checkMark_L2
    replace hp0_1 := hp0_1.leR leF_etchhouseref9_checkMark_L2
    replace hp0_2 := hp0_2.leR leF_etchhouseref9_checkMark_L2
    replace leB := leB.trans leF_etchhouseref9_checkMark_L2
    replace leF_etchhouseref9_checkMark_L1 := leF_etchhouseref9_checkMark_L1.trans leF_etchhouseref9_checkMark_L2
    rw [F_etchhouseref9_checkMark_L2.eq_2] at H
    show Tr _ _ (LF [(1, (.int .i64 p1)), (2, (.pointer (some ⟨b100, 0, none⟩))), (5, (.pointer (some ⟨b102, 0, none⟩))), (8, (.int .i64 x125))]) (LE [(1, bx b100 #[(.int .i64 p0.W), (.int .i64 p0.H), (.int .i64 p0.Rail), (.int .i64 p0.Gap), (.slice Ap0_0 (p0.Kinds).length cp0_0), (.slice Ap0_1 (p0.Slots).length cp0_1), (.slice Ap0_2 (p0.Marks).length cp0_2)] 26), (2, bx b102 #[(.int .i64 x101.X), (.int .i64 x101.Y)] 82)]) _
    refine Tr.seq ?_
    refine Tr.sr ?_
    refine Tr.mv rfl rfl ?_
    refine Tr.mv rfl rfl ?_
    refine Tr.va rfl (fun _ _ h1 h2 => run_lss (h1.ev rfl) (h1.ev rfl)) ?_
    refine Tr.nil (Tr.normThen ?_)
    refine Tr.cond rfl H (fun H => ?_) (fun H => ?_)
    ·refine Tr.skip (Tr.normThen ?_)
     refine Tr.seq ?_
     refine Tr.block ?_
     refine Tr.seq ?_
     refine Tr.draw (by kernel_rfl) (by kernel_rfl) ?_
     refine Tq.va rfl (fun _ _ h1 h2 => run_fieldAddr fo_26_6 (h1.ev rfl)) ?_
     refine Tq.va rfl (fun _ _ h1 h2 => run_load1 ag_24 (h1.ev rfl) (rdb h2 (vs := [(.int .i64 p0.W), (.int .i64 p0.H), (.int .i64 p0.Rail), (.int .i64 p0.Gap), (.slice Ap0_0 (p0.Kinds).length cp0_0), (.slice Ap0_1 (p0.Slots).length cp0_1), (.slice Ap0_2 (p0.Marks).length cp0_2)]) (k := 1) rfl 6) rfl) ?_
     refine Tq.mv rfl rfl ?_
     obtain ⟨x126, hx126, H⟩ := bnd H
     obtain ⟨hx1260, hx1261, hx1262⟩ := idx_some hx126
     refine Tq.va rfl (fun _ _ h1 h2 => run_indexAddr el_24 (h1.ev rfl) hp0_2.form (h1.ev rfl) hx1260 hx1261) ?_
     refine Tq.va rfl (fun _ _ h1 h2 => run_loadN (cs := [(.int .i64 x126.X), (.int .i64 x126.Y)]) ag_82 sz_82 (h1.ev rfl) (CellsAt.take (rdF ef_TPoint hp0_2 hx1262 h2) 2) rfl) ?_
     refine Tq.va rfl (fun _ _ h1 h2 => run_loadN (cs := [(.int .i64 x101.X), (.int .i64 x101.Y)]) ag_82 sz_82 (h1.ev rfl) (CellsAt.take (rdb h2 (vs := [(.int .i64 x101.X), (.int .i64 x101.Y)]) (k := 2) rfl 0) 2) rfl) ?_
     refine Tq.va rfl (fun _ _ h1 h2 => run_eql_82 x126 x101 (h1.ev rfl) (h1.ev rfl)) ?_
     refine Tq.nil (Tr.normThen ?_)
     refine Tr.cond rfl H (fun H => ?_) (fun H => ?_)
     ·refine Tr.sr ?_
      refine Tr.asg rfl rfl ?_
      refine Tr.nil (Tr.normThen ?_)
      refine Tr.ret (Tr.retBlock (Tr.retThen (Tr.retThen (Tr.retBlock (Tr.retThen ?_)))))
      obtain rfl := Option.some.inj H
      exact Tr.out (m := [(.int .i64 7)]) [] (res_tmp rfl res_nil) (fun W hW => ⟨rfl, hW.low leB⟩)
     ·refine Tr.skip (Tr.normBlock (Tr.normThen ?_))
      refine Tr.region ?_
      refine Tr.mv rfl rfl ?_
      refine Tr.va rfl (fun _ _ h1 h2 => run_add (h1.ev rfl) (h1.ev rfl)) ?_
      refine Tr.asg rfl rfl ?_
      refine Tr.nil ?_
      exact Tr.backThen leF_etchhouseref9_checkMark_L2 (w64 (x125 + 1)) H (.cons rfl (.cons rfl (.cons rfl (.cons rfl .nil)))) (.cons rfl (.cons rfl .nil))
    ·refine Tr.exit (Tr.exitThen (Tr.exitThen (Tr.exitBlock (Tr.normThen ?_))))
     refine Tr.sr ?_
     refine Tr.asg rfl rfl ?_
     refine Tr.nil (Tr.normThen ?_)
     refine Tr.ret ?_
     obtain rfl := Option.some.inj H
     exact Tr.out (m := [(.int .i64 0)]) [] (res_tmp rfl res_nil) (fun W hW => ⟨rfl, hW.low leB⟩)

theorem F_etchhouseref9_CheckPanel_ok (N : Nat) {w : Bs} (p0 : TPanel) (Ap0_0 : Option Addr) (cp0_0 : Nat) (hp0_0 : Sl w.R w.W fl_TBoardKind Ap0_0 cp0_0 p0.Kinds) (Ap0_1 : Option Addr) (cp0_1 : Nat) (hp0_1 : Sl w.R w.W fl_TSlot Ap0_1 cp0_1 p0.Slots) (Ap0_2 : Option Addr) (cp0_2 : Nat) (hp0_2 : Sl w.R w.W fl_TPoint Ap0_2 cp0_2 p0.Marks) (r : Int) (H : F_etchhouseref9_CheckPanel N p0 = some r) (hE : HF w w.W E0) : Calls Try.prog 19 [(.agg #[(.int .i64 p0.W), (.int .i64 p0.H), (.int .i64 p0.Rail), (.int .i64 p0.Gap), (.slice Ap0_0 (p0.Kinds).length cp0_0), (.slice Ap0_1 (p0.Slots).length cp0_1), (.slice Ap0_2 (p0.Marks).length cp0_2)])].toArray w.W fun e W' => e = .returned (.int .i64 r) ∧ HF w W' E0 := by
 unfold F_etchhouseref9_CheckPanel at H
 have leB := Bs.Le.refl w
 refine Tr.enter (n := 109) Try.func19 rfl rfl rfl hE ?_
 refine Tr.sr ?_
 refine Tr.box 1 (cs := [(.int .i64 p0.W), (.int .i64 p0.H), (.int .i64 p0.Rail), (.int .i64 p0.Gap), (.slice Ap0_0 (p0.Kinds).length cp0_0), (.slice Ap0_1 (p0.Slots).length cp0_1), (.slice Ap0_2 (p0.Marks).length cp0_2)]) (wn rfl) rfl rfl rfl fun b100 => ?_
 refine Tr.asg rfl rfl ?_
 refine Tr.nil (Tr.normThen ?_)
 refine Tr.seq ?_
 refine Tr.sr ?_
 refine Tr.va rfl (fun _ _ h1 h2 => run_fieldAddr fo_26_0 (h1.ev rfl)) ?_
 refine Tr.va rfl (fun _ _ h1 h2 => run_load1 ag_3 (h1.ev rfl) (rdb h2 (vs := [(.int .i64 p0.W), (.int .i64 p0.H), (.int .i64 p0.Rail), (.int .i64 p0.Gap), (.slice Ap0_0 (p0.Kinds).length cp0_0), (.slice Ap0_1 (p0.Slots).length cp0_1), (.slice Ap0_2 (p0.Marks).length cp0_2)]) (k := 1) rfl 0) rfl) ?_
 obtain ⟨y101, hy101, H⟩ := bnd H
 refine Tr.call0 (r := (.bool y101)) (wn rfl) rfl Try.call41 (evl_cons rfl (evl_cons rfl (evl_cons rfl evl_nil))) (fun W hW => F_etchhouseref9_within_ok p0.W 1 1000000 y101 hy101 (HF.start _)) ?_
 refine Tr.va rfl (fun _ _ h1 h2 => run_not (h1.ev rfl)) ?_
 refine Tr.mv rfl rfl ?_
 obtain ⟨g103, hg103, H⟩ := bnd H
 refine Tr.mid0 5 [(1, (.pointer (some ⟨b100, 0, none⟩))), (18, (.bool g103))] [(1, bx b100 #[(.int .i64 p0.W), (.int .i64 p0.H), (.int .i64 p0.Rail), (.int .i64 p0.Gap), (.slice Ap0_0 (p0.Kinds).length cp0_0), (.slice Ap0_1 (p0.Slots).length cp0_1), (.slice Ap0_2 (p0.Marks).length cp0_2)] 26)] ?_ ?_
 ·cases hg158 : (!y101)
  ·rw [hg158] at hg103
   rw [if_neg (by decide)] at hg103
   have H := hg103
   refine Tr.val (wg rfl rfl rfl) rfl (fun _ _ h1 h2 => run_fieldAddr fo_26_1 (h1.ev rfl)) ?_
   refine Tr.val (wg rfl rfl rfl) rfl (fun _ _ h1 h2 => run_load1 ag_3 (h1.ev rfl) (rdb h2 (vs := [(.int .i64 p0.W), (.int .i64 p0.H), (.int .i64 p0.Rail), (.int .i64 p0.Gap), (.slice Ap0_0 (p0.Kinds).length cp0_0), (.slice Ap0_1 (p0.Slots).length cp0_1), (.slice Ap0_2 (p0.Marks).length cp0_2)]) (k := 1) rfl 1) rfl) ?_
   obtain ⟨y104, hy104, H⟩ := bnd H
   refine Tr.call0 (r := (.bool y104)) (wg rfl rfl rfl) rfl Try.call41 (evl_cons rfl (evl_cons rfl (evl_cons rfl evl_nil))) (fun W hW => F_etchhouseref9_within_ok p0.H 1 1000000 y104 hy104 (HF.start _)) ?_
   refine Tr.val (wg rfl rfl rfl) rfl (fun _ _ h1 h2 => run_not (h1.ev rfl)) ?_
   refine Tr.va rfl (fun _ _ h1 h2 => run_pickF (h1.ev rfl) (h1.ev rfl)) ?_
   obtain rfl := Option.some.inj H
   exact Tr.nil (Tr.fin0 (.cons rfl (.cons rfl .nil)) (.cons rfl .nil))
  ·rw [hg158] at hg103
   rw [if_pos rfl] at hg103
   have H := hg103
   obtain rfl := Option.some.inj H
   refine Tr.pass rfl rfl rfl rfl rfl (by decide) ?_
   refine Tr.pass rfl rfl rfl rfl rfl (by decide) ?_
   refine Tr.pass rfl rfl rfl rfl rfl (by decide) ?_
   refine Tr.pass rfl rfl rfl rfl rfl (by decide) ?_
   refine Tr.va rfl (fun _ _ h1 h2 => run_pickT (h1.ev rfl) (h1.ev rfl)) ?_
   exact Tr.nil (Tr.fin0 (.cons rfl (.cons rfl .nil)) (.cons rfl .nil))
 ·show Tr _ _ (LF [(1, (.pointer (some ⟨b100, 0, none⟩))), (18, (.bool g103))]) (LE [(1, bx b100 #[(.int .i64 p0.W), (.int .i64 p0.H), (.int .i64 p0.Rail), (.int .i64 p0.Gap), (.slice Ap0_0 (p0.Kinds).length cp0_0), (.slice Ap0_1 (p0.Slots).length cp0_1), (.slice Ap0_2 (p0.Marks).length cp0_2)] 26)]) _
  refine Tr.mv rfl rfl ?_
  obtain ⟨g106, hg106, H⟩ := bnd H
  refine Tr.mid0 5 [(1, (.pointer (some ⟨b100, 0, none⟩))), (24, (.bool g106))] [(1, bx b100 #[(.int .i64 p0.W), (.int .i64 p0.H), (.int .i64 p0.Rail), (.int .i64 p0.Gap), (.slice Ap0_0 (p0.Kinds).length cp0_0), (.slice Ap0_1 (p0.Slots).length cp0_1), (.slice Ap0_2 (p0.Marks).length cp0_2)] 26)] ?_ ?_
  ·cases hg158 : g103
   ·rw [hg158] at hg106
    rw [if_neg (by decide)] at hg106
    have H := hg106
    refine Tr.val (wg rfl rfl rfl) rfl (fun _ _ h1 h2 => run_fieldAddr fo_26_2 (h1.ev rfl)) ?_
    refine Tr.val (wg rfl rfl rfl) rfl (fun _ _ h1 h2 => run_load1 ag_3 (h1.ev rfl) (rdb h2 (vs := [(.int .i64 p0.W), (.int .i64 p0.H), (.int .i64 p0.Rail), (.int .i64 p0.Gap), (.slice Ap0_0 (p0.Kinds).length cp0_0), (.slice Ap0_1 (p0.Slots).length cp0_1), (.slice Ap0_2 (p0.Marks).length cp0_2)]) (k := 1) rfl 2) rfl) ?_
    obtain ⟨y107, hy107, H⟩ := bnd H
    refine Tr.call0 (r := (.bool y107)) (wg rfl rfl rfl) rfl Try.call41 (evl_cons rfl (evl_cons rfl (evl_cons rfl evl_nil))) (fun W hW => F_etchhouseref9_within_ok p0.Rail 0 1000000 y107 hy107 (HF.start _)) ?_
    refine Tr.val (wg rfl rfl rfl) rfl (fun _ _ h1 h2 => run_not (h1.ev rfl)) ?_
    refine Tr.va rfl (fun _ _ h1 h2 => run_pickF (h1.ev rfl) (h1.ev rfl)) ?_
    obtain rfl := Option.some.inj H
    exact Tr.nil (Tr.fin0 (.cons rfl (.cons rfl .nil)) (.cons rfl .nil))
   ·rw [hg158] at hg106
    rw [if_pos rfl] at hg106
    have H := hg106
    obtain rfl := Option.some.inj H
    refine Tr.pass rfl rfl rfl rfl rfl (by decide) ?_
    refine Tr.pass rfl rfl rfl rfl rfl (by decide) ?_
    refine Tr.pass rfl rfl rfl rfl rfl (by decide) ?_
    refine Tr.pass rfl rfl rfl rfl rfl (by decide) ?_
    refine Tr.va rfl (fun _ _ h1 h2 => run_pickT (h1.ev rfl) (h1.ev rfl)) ?_
    exact Tr.nil (Tr.fin0 (.cons rfl (.cons rfl .nil)) (.cons rfl .nil))
  ·show Tr _ _ (LF [(1, (.pointer (some ⟨b100, 0, none⟩))), (24, (.bool g106))]) (LE [(1, bx b100 #[(.int .i64 p0.W), (.int .i64 p0.H), (.int .i64 p0.Rail), (.int .i64 p0.Gap), (.slice Ap0_0 (p0.Kinds).length cp0_0), (.slice Ap0_1 (p0.Slots).length cp0_1), (.slice Ap0_2 (p0.Marks).length cp0_2)] 26)]) _
   refine Tr.mv rfl rfl ?_
   obtain ⟨g109, hg109, H⟩ := bnd H
   refine Tr.mid0 5 [(1, (.pointer (some ⟨b100, 0, none⟩))), (30, (.bool g109))] [(1, bx b100 #[(.int .i64 p0.W), (.int .i64 p0.H), (.int .i64 p0.Rail), (.int .i64 p0.Gap), (.slice Ap0_0 (p0.Kinds).length cp0_0), (.slice Ap0_1 (p0.Slots).length cp0_1), (.slice Ap0_2 (p0.Marks).length cp0_2)] 26)] ?_ ?_
   ·cases hg158 : g106
    ·rw [hg158] at hg109
     rw [if_neg (by decide)] at hg109
     have H := hg109
     refine Tr.val (wg rfl rfl rfl) rfl (fun _ _ h1 h2 => run_fieldAddr fo_26_3 (h1.ev rfl)) ?_
     refine Tr.val (wg rfl rfl rfl) rfl (fun _ _ h1 h2 => run_load1 ag_3 (h1.ev rfl) (rdb h2 (vs := [(.int .i64 p0.W), (.int .i64 p0.H), (.int .i64 p0.Rail), (.int .i64 p0.Gap), (.slice Ap0_0 (p0.Kinds).length cp0_0), (.slice Ap0_1 (p0.Slots).length cp0_1), (.slice Ap0_2 (p0.Marks).length cp0_2)]) (k := 1) rfl 3) rfl) ?_
     obtain ⟨y110, hy110, H⟩ := bnd H
     refine Tr.call0 (r := (.bool y110)) (wg rfl rfl rfl) rfl Try.call41 (evl_cons rfl (evl_cons rfl (evl_cons rfl evl_nil))) (fun W hW => F_etchhouseref9_within_ok p0.Gap 0 1000000 y110 hy110 (HF.start _)) ?_
     refine Tr.val (wg rfl rfl rfl) rfl (fun _ _ h1 h2 => run_not (h1.ev rfl)) ?_
     refine Tr.va rfl (fun _ _ h1 h2 => run_pickF (h1.ev rfl) (h1.ev rfl)) ?_
     obtain rfl := Option.some.inj H
     exact Tr.nil (Tr.fin0 (.cons rfl (.cons rfl .nil)) (.cons rfl .nil))
    ·rw [hg158] at hg109
     rw [if_pos rfl] at hg109
     have H := hg109
     obtain rfl := Option.some.inj H
     refine Tr.pass rfl rfl rfl rfl rfl (by decide) ?_
     refine Tr.pass rfl rfl rfl rfl rfl (by decide) ?_
     refine Tr.pass rfl rfl rfl rfl rfl (by decide) ?_
     refine Tr.pass rfl rfl rfl rfl rfl (by decide) ?_
     refine Tr.va rfl (fun _ _ h1 h2 => run_pickT (h1.ev rfl) (h1.ev rfl)) ?_
     exact Tr.nil (Tr.fin0 (.cons rfl (.cons rfl .nil)) (.cons rfl .nil))
   ·show Tr _ _ (LF [(1, (.pointer (some ⟨b100, 0, none⟩))), (30, (.bool g109))]) (LE [(1, bx b100 #[(.int .i64 p0.W), (.int .i64 p0.H), (.int .i64 p0.Rail), (.int .i64 p0.Gap), (.slice Ap0_0 (p0.Kinds).length cp0_0), (.slice Ap0_1 (p0.Slots).length cp0_1), (.slice Ap0_2 (p0.Marks).length cp0_2)] 26)]) _
    refine Tr.nil (Tr.normThen ?_)
    refine Tr.cond rfl H (fun H => ?_) (fun H => ?_)
    ·refine Tr.sr ?_
     refine Tr.asg rfl rfl ?_
     refine Tr.nil (Tr.normThen ?_)
     refine Tr.ret (Tr.retThen ?_)
     obtain rfl := Option.some.inj H
     exact Tr.out (m := [(.int .i64 1)]) [] (res_tmp rfl res_nil) (fun W hW => ⟨rfl, hW.low leB⟩)
    ·refine Tr.skip (Tr.normThen ?_)
     refine Tr.seq ?_
     refine Tr.sr ?_
     refine Tr.va rfl (fun _ _ h1 h2 => run_fieldAddr fo_26_4 (h1.ev rfl)) ?_
     refine Tr.va rfl (fun _ _ h1 h2 => run_load1 ag_22 (h1.ev rfl) (rdb h2 (vs := [(.int .i64 p0.W), (.int .i64 p0.H), (.int .i64 p0.Rail), (.int .i64 p0.Gap), (.slice Ap0_0 (p0.Kinds).length cp0_0), (.slice Ap0_1 (p0.Slots).length cp0_1), (.slice Ap0_2 (p0.Marks).length cp0_2)]) (k := 1) rfl 4) rfl) ?_
     refine Tr.va rfl (fun _ _ h1 h2 => run_len un_22 (h1.ev rfl)) ?_
     refine Tr.va rfl (fun _ _ h1 h2 => run_gtr (h1.ev rfl) (h1.ev rfl)) ?_
     refine Tr.nil (Tr.normThen ?_)
     refine Tr.cond rfl H (fun H => ?_) (fun H => ?_)
     ·refine Tr.sr ?_
      refine Tr.asg rfl rfl ?_
      refine Tr.nil (Tr.normThen ?_)
      refine Tr.ret (Tr.retThen ?_)
      obtain rfl := Option.some.inj H
      exact Tr.out (m := [(.int .i64 2)]) [] (res_tmp rfl res_nil) (fun W hW => ⟨rfl, hW.low leB⟩)
     ·refine Tr.skip (Tr.normThen ?_)
      refine Tr.seq ?_
      refine Tr.sr ?_
      refine Tr.asg rfl rfl ?_
      refine Tr.nil (Tr.normThen ?_)
      refine Tr.block ?_
      refine Tr.loop (σ := Int) (fun m w s => F_etchhouseref9_CheckPanel_L1 N p0 m s = some r) (fun s => [(1, (.pointer (some ⟨b100, 0, none⟩))), (3, (.int .i64 s))]) (fun s => [(1, bx b100 #[(.int .i64 p0.W), (.int .i64 p0.H), (.int .i64 p0.Rail), (.int .i64 p0.Gap), (.slice Ap0_0 (p0.Kinds).length cp0_0), (.slice Ap0_1 (p0.Slots).length cp0_1), (.slice Ap0_2 (p0.Marks).length cp0_2)] 26)]) N 0 H (.cons rfl (.cons rfl .nil)) (.cons rfl .nil) (fun _ _ h => noSome (h)) ?_
      intro w leF_etchhouseref9_CheckPanel_L1 mF_etchhouseref9_CheckPanel_L1 x134 hs
      have H := hs
      replace H : F_etchhouseref9_CheckPanel_L1 N p0 (mF_etchhouseref9_CheckPanel_L1 + 1) x134 = some r := H
      replace hp0_0 := hp0_0.leR leF_etchhouseref9_CheckPanel_L1
      replace hp0_1 := hp0_1.leR leF_etchhouseref9_CheckPanel_L1
      replace hp0_2 := hp0_2.leR leF_etchhouseref9_CheckPanel_L1
      replace leB := leB.trans leF_etchhouseref9_CheckPanel_L1
      rw [F_etchhouseref9_CheckPanel_L1.eq_2] at H
      show Tr _ _ (LF [(1, (.pointer (some ⟨b100, 0, none⟩))), (3, (.int .i64 x134))]) (LE [(1, bx b100 #[(.int .i64 p0.W), (.int .i64 p0.H), (.int .i64 p0.Rail), (.int .i64 p0.Gap), (.slice Ap0_0 (p0.Kinds).length cp0_0), (.slice Ap0_1 (p0.Slots).length cp0_1), (.slice Ap0_2 (p0.Marks).length cp0_2)] 26)]) _
      refine Tr.seq ?_
      refine Tr.sr ?_
      refine Tr.mv rfl rfl ?_
      refine Tr.va rfl (fun _ _ h1 h2 => run_fieldAddr fo_26_4 (h1.ev rfl)) ?_
      refine Tr.va rfl (fun _ _ h1 h2 => run_load1 ag_22 (h1.ev rfl) (rdb h2 (vs := [(.int .i64 p0.W), (.int .i64 p0.H), (.int .i64 p0.Rail), (.int .i64 p0.Gap), (.slice Ap0_0 (p0.Kinds).length cp0_0), (.slice Ap0_1 (p0.Slots).length cp0_1), (.slice Ap0_2 (p0.Marks).length cp0_2)]) (k := 1) rfl 4) rfl) ?_
      refine Tr.va rfl (fun _ _ h1 h2 => run_len un_22 (h1.ev rfl)) ?_
      refine Tr.va rfl (fun _ _ h1 h2 => run_lss (h1.ev rfl) (h1.ev rfl)) ?_
      refine Tr.nil (Tr.normThen ?_)
      refine Tr.cond rfl H (fun H => ?_) (fun H => ?_)
      ·refine Tr.skip (Tr.normThen ?_)
       refine Tr.seq ?_
       refine Tr.block ?_
       refine Tr.sr ?_
       refine Tr.va rfl (fun _ _ h1 h2 => run_fieldAddr fo_26_4 (h1.ev rfl)) ?_
       refine Tr.va rfl (fun _ _ h1 h2 => run_load1 ag_22 (h1.ev rfl) (rdb h2 (vs := [(.int .i64 p0.W), (.int .i64 p0.H), (.int .i64 p0.Rail), (.int .i64 p0.Gap), (.slice Ap0_0 (p0.Kinds).length cp0_0), (.slice Ap0_1 (p0.Slots).length cp0_1), (.slice Ap0_2 (p0.Marks).length cp0_2)]) (k := 1) rfl 4) rfl) ?_
       refine Tr.mv rfl rfl ?_
       obtain ⟨x135, hx135, H⟩ := bnd H
       obtain ⟨hx1350, hx1351, hx1352⟩ := idx_some hx135
       refine Tr.va rfl (fun _ _ h1 h2 => run_indexAddr el_22 (h1.ev rfl) hp0_0.form (h1.ev rfl) hx1350 hx1351) ?_
       refine Tr.va rfl (fun _ _ h1 h2 => run_loadN (cs := [(.string x135.Name), (.int .i64 x135.W), (.int .i64 x135.H)]) ag_74 sz_74 (h1.ev rfl) (CellsAt.take (rdF ef_TBoardKind hp0_0 hx1352 h2) 3) rfl) ?_
       refine Tr.alloc 4 (wn rfl) rfl ze_74 fun b136 => ?_
       refine Tr.store 4 (cs := [(.string x135.Name), (.int .i64 x135.W), (.int .i64 x135.H)]) [(.string x135.Name), (.int .i64 x135.W), (.int .i64 x135.H)] (wn rfl) rfl rfl rfl rfl sz_74 rfl rfl rfl ?_
       refine Tr.nil (Tr.normThen ?_)
       refine Tr.seq ?_
       refine Tr.sr ?_
       refine Tr.va rfl (fun _ _ h1 h2 => run_fieldAddr fo_74_0 (h1.ev rfl)) ?_
       refine Tr.va rfl (fun _ _ h1 h2 => run_load1 ag_9 (h1.ev rfl) (rdb h2 (vs := [(.string x135.Name), (.int .i64 x135.W), (.int .i64 x135.H)]) (k := 4) rfl 0) rfl) ?_
       obtain ⟨y137, hy137, H⟩ := bnd H
       refine Tr.call0 (r := (.bool y137)) (wn rfl) rfl Try.call42 (evl_cons rfl evl_nil) (fun W hW => F_etchhouseref3_IsName_ok N x135.Name y137 hy137 (HF.start _)) ?_
       refine Tr.va rfl (fun _ _ h1 h2 => run_not (h1.ev rfl)) ?_
       refine Tr.nil (Tr.normThen ?_)
       refine Tr.cond rfl H (fun H => ?_) (fun H => ?_)
       ·refine Tr.sr ?_
        refine Tr.asg rfl rfl ?_
        refine Tr.nil (Tr.normThen ?_)
        refine Tr.ret (Tr.retThen (Tr.retBlock (Tr.retThen (Tr.retThen (Tr.retBlock (Tr.retThen ?_))))))
        obtain rfl := Option.some.inj H
        exact Tr.out (m := [(.int .i64 5)]) [] (res_tmp rfl res_nil) (fun W hW => ⟨rfl, hW.low leB⟩)
       ·refine Tr.skip (Tr.normThen ?_)
        refine Tr.seq ?_
        refine Tr.sr ?_
        refine Tr.va rfl (fun _ _ h1 h2 => run_fieldAddr fo_74_1 (h1.ev rfl)) ?_
        refine Tr.va rfl (fun _ _ h1 h2 => run_load1 ag_3 (h1.ev rfl) (rdb h2 (vs := [(.string x135.Name), (.int .i64 x135.W), (.int .i64 x135.H)]) (k := 4) rfl 1) rfl) ?_
        obtain ⟨y138, hy138, H⟩ := bnd H
        refine Tr.call0 (r := (.bool y138)) (wn rfl) rfl Try.call41 (evl_cons rfl (evl_cons rfl (evl_cons rfl evl_nil))) (fun W hW => F_etchhouseref9_within_ok x135.W 1 1000000 y138 hy138 (HF.start _)) ?_
        refine Tr.va rfl (fun _ _ h1 h2 => run_not (h1.ev rfl)) ?_
        refine Tr.mv rfl rfl ?_
        obtain ⟨g140, hg140, H⟩ := bnd H
        refine Tr.mid0 5 [(1, (.pointer (some ⟨b100, 0, none⟩))), (3, (.int .i64 x134)), (4, (.pointer (some ⟨b136, 0, none⟩))), (60, (.bool g140))] [(1, bx b100 #[(.int .i64 p0.W), (.int .i64 p0.H), (.int .i64 p0.Rail), (.int .i64 p0.Gap), (.slice Ap0_0 (p0.Kinds).length cp0_0), (.slice Ap0_1 (p0.Slots).length cp0_1), (.slice Ap0_2 (p0.Marks).length cp0_2)] 26), (4, bx b136 #[(.string x135.Name), (.int .i64 x135.W), (.int .i64 x135.H)] 74)] ?_ ?_
        ·cases hg144 : (!y138)
         ·rw [hg144] at hg140
          rw [if_neg (by decide)] at hg140
          have H := hg140
          refine Tr.val (wg rfl rfl rfl) rfl (fun _ _ h1 h2 => run_fieldAddr fo_74_2 (h1.ev rfl)) ?_
          refine Tr.val (wg rfl rfl rfl) rfl (fun _ _ h1 h2 => run_load1 ag_3 (h1.ev rfl) (rdb h2 (vs := [(.string x135.Name), (.int .i64 x135.W), (.int .i64 x135.H)]) (k := 4) rfl 2) rfl) ?_
          obtain ⟨y141, hy141, H⟩ := bnd H
          refine Tr.call0 (r := (.bool y141)) (wg rfl rfl rfl) rfl Try.call41 (evl_cons rfl (evl_cons rfl (evl_cons rfl evl_nil))) (fun W hW => F_etchhouseref9_within_ok x135.H 1 1000000 y141 hy141 (HF.start _)) ?_
          refine Tr.val (wg rfl rfl rfl) rfl (fun _ _ h1 h2 => run_not (h1.ev rfl)) ?_
          refine Tr.va rfl (fun _ _ h1 h2 => run_pickF (h1.ev rfl) (h1.ev rfl)) ?_
          obtain rfl := Option.some.inj H
          exact Tr.nil (Tr.fin0 (.cons rfl (.cons rfl (.cons rfl (.cons rfl .nil)))) (.cons rfl (.cons rfl .nil)))
         ·rw [hg144] at hg140
          rw [if_pos rfl] at hg140
          have H := hg140
          obtain rfl := Option.some.inj H
          refine Tr.pass rfl rfl rfl rfl rfl (by decide) ?_
          refine Tr.pass rfl rfl rfl rfl rfl (by decide) ?_
          refine Tr.pass rfl rfl rfl rfl rfl (by decide) ?_
          refine Tr.pass rfl rfl rfl rfl rfl (by decide) ?_
          refine Tr.va rfl (fun _ _ h1 h2 => run_pickT (h1.ev rfl) (h1.ev rfl)) ?_
          exact Tr.nil (Tr.fin0 (.cons rfl (.cons rfl (.cons rfl (.cons rfl .nil)))) (.cons rfl (.cons rfl .nil)))
        ·show Tr _ _ (LF [(1, (.pointer (some ⟨b100, 0, none⟩))), (3, (.int .i64 x134)), (4, (.pointer (some ⟨b136, 0, none⟩))), (60, (.bool g140))]) (LE [(1, bx b100 #[(.int .i64 p0.W), (.int .i64 p0.H), (.int .i64 p0.Rail), (.int .i64 p0.Gap), (.slice Ap0_0 (p0.Kinds).length cp0_0), (.slice Ap0_1 (p0.Slots).length cp0_1), (.slice Ap0_2 (p0.Marks).length cp0_2)] 26), (4, bx b136 #[(.string x135.Name), (.int .i64 x135.W), (.int .i64 x135.H)] 74)]) _
         refine Tr.nil (Tr.normThen ?_)
         refine Tr.cond rfl H (fun H => ?_) (fun H => ?_)
         ·refine Tr.sr ?_
          refine Tr.asg rfl rfl ?_
          refine Tr.nil (Tr.normThen ?_)
          refine Tr.ret (Tr.retThen (Tr.retBlock (Tr.retThen (Tr.retThen (Tr.retBlock (Tr.retThen ?_))))))
          obtain rfl := Option.some.inj H
          exact Tr.out (m := [(.int .i64 1)]) [] (res_tmp rfl res_nil) (fun W hW => ⟨rfl, hW.low leB⟩)
         ·refine Tr.skip (Tr.normThen ?_)
          refine Tr.seq ?_
          refine Tr.draw (by kernel_rfl) (by kernel_rfl) ?_
          refine Tq.mv rfl rfl ?_
          refine Tq.va rfl (fun _ _ h1 h2 => run_gtr (h1.ev rfl) (h1.ev rfl)) ?_
          refine Tq.mv rfl rfl ?_
          obtain ⟨g143, hg143, H⟩ := bnd H
          refine Tq.mid 11 [(1, (.pointer (some ⟨b100, 0, none⟩))), (3, (.int .i64 x134)), (74, (.bool g143))] ?_ ?_
          ·cases hg144 : (decide (0 < x134))
           ·rw [hg144] at hg143
            rw [if_neg (by decide)] at hg143
            have H := hg143
            obtain rfl := Option.some.inj H
            refine Tq.pass rfl rfl rfl rfl rfl (by decide) ?_
            refine Tq.pass rfl rfl rfl rfl rfl (by decide) ?_
            refine Tq.pass rfl rfl rfl rfl rfl (by decide) ?_
            refine Tq.pass rfl rfl rfl rfl rfl (by decide) ?_
            refine Tq.pass rfl rfl rfl rfl rfl (by decide) ?_
            refine Tq.pass rfl rfl rfl rfl rfl (by decide) ?_
            refine Tq.pass rfl rfl rfl rfl rfl (by decide) ?_
            refine Tq.pass rfl rfl rfl rfl rfl (by decide) ?_
            refine Tq.pass rfl rfl rfl rfl rfl (by decide) ?_
            refine Tq.pass rfl rfl rfl rfl rfl (by decide) ?_
            refine Tq.va rfl (fun _ _ h1 h2 => run_pickF (h1.ev rfl) (h1.ev rfl)) ?_
            exact Tq.fin (.cons rfl (.cons rfl (.cons rfl .nil)))
           ·rw [hg144] at hg143
            rw [if_pos rfl] at hg143
            have H := hg143
            refine Tq.val (wg rfl rfl rfl) rfl (fun _ _ h1 h2 => run_fieldAddr fo_74_0 (h1.ev rfl)) ?_
            refine Tq.val (wg rfl rfl rfl) rfl (fun _ _ h1 h2 => run_load1 ag_9 (h1.ev rfl) (rdb h2 (vs := [(.string x135.Name), (.int .i64 x135.W), (.int .i64 x135.H)]) (k := 4) rfl 0) rfl) ?_
            refine Tq.val (wg rfl rfl rfl) rfl (fun _ _ h1 h2 => run_fieldAddr fo_26_4 (h1.ev rfl)) ?_
            refine Tq.val (wg rfl rfl rfl) rfl (fun _ _ h1 h2 => run_load1 ag_22 (h1.ev rfl) (rdb h2 (vs := [(.int .i64 p0.W), (.int .i64 p0.H), (.int .i64 p0.Rail), (.int .i64 p0.Gap), (.slice Ap0_0 (p0.Kinds).length cp0_0), (.slice Ap0_1 (p0.Slots).length cp0_1), (.slice Ap0_2 (p0.Marks).length cp0_2)]) (k := 1) rfl 4) rfl) ?_
            refine Tq.val (wg rfl rfl rfl) rfl (fun _ _ h1 h2 => run_move (h1.ev rfl)) ?_
            refine Tq.val (wg rfl rfl rfl) rfl (fun _ _ h1 h2 => run_sub (h1.ev rfl) (h1.ev rfl)) ?_
            obtain ⟨x144, hx144, H⟩ := bnd H
            obtain ⟨hx1440, hx1441, hx1442⟩ := idx_some hx144
            refine Tq.val (wg rfl rfl rfl) rfl (fun _ _ h1 h2 => run_indexAddr el_22 (h1.ev rfl) hp0_0.form (h1.ev rfl) hx1440 hx1441) ?_
            refine Tq.val (wg rfl rfl rfl) rfl (fun _ _ h1 h2 => run_fieldAddr fo_74_0 (h1.ev rfl)) ?_
            refine Tq.val (wg rfl rfl rfl) rfl (fun _ _ h1 h2 => run_load1 ag_9 (h1.ev rfl) (CellsAt.drop (rdF ef_TBoardKind hp0_0 hx1442 h2) 0) rfl) ?_
            refine Tq.val (wg rfl rfl rfl) rfl (fun _ _ h1 h2 => run_leqS (h1.ev rfl) (h1.ev rfl)) ?_
            refine Tq.va rfl (fun _ _ h1 h2 => run_pickT (h1.ev rfl) (h1.ev rfl)) ?_
            obtain rfl := Option.some.inj H
            exact Tq.fin (.cons rfl (.cons rfl (.cons rfl .nil)))
          ·refine Tq.nil (Tr.normThen ?_)
           refine Tr.cond rfl H (fun H => ?_) (fun H => ?_)
           ·refine Tr.sr ?_
            refine Tr.asg rfl rfl ?_
            refine Tr.nil (Tr.normThen ?_)
            refine Tr.ret (Tr.retBlock (Tr.retThen (Tr.retThen (Tr.retBlock (Tr.retThen ?_)))))
            obtain rfl := Option.some.inj H
            exact Tr.out (m := [(.int .i64 8)]) [] (res_tmp rfl res_nil) (fun W hW => ⟨rfl, hW.low leB⟩)
           ·refine Tr.skip (Tr.normBlock (Tr.normThen ?_))
            refine Tr.region ?_
            refine Tr.mv rfl rfl ?_
            refine Tr.va rfl (fun _ _ h1 h2 => run_add (h1.ev rfl) (h1.ev rfl)) ?_
            refine Tr.asg rfl rfl ?_
            refine Tr.nil ?_
            exact Tr.backThen leF_etchhouseref9_CheckPanel_L1 (w64 (x134 + 1)) H (.cons rfl (.cons rfl .nil)) (.cons rfl .nil)
      ·refine Tr.exit (Tr.exitThen (Tr.exitThen (Tr.exitBlock (Tr.normThen ?_))))
       refine Tr.seq ?_
       refine Tr.sr ?_
       refine Tr.va rfl (fun _ _ h1 h2 => run_fieldAddr fo_26_5 (h1.ev rfl)) ?_
       refine Tr.va rfl (fun _ _ h1 h2 => run_load1 ag_23 (h1.ev rfl) (rdb h2 (vs := [(.int .i64 p0.W), (.int .i64 p0.H), (.int .i64 p0.Rail), (.int .i64 p0.Gap), (.slice Ap0_0 (p0.Kinds).length cp0_0), (.slice Ap0_1 (p0.Slots).length cp0_1), (.slice Ap0_2 (p0.Marks).length cp0_2)]) (k := 1) rfl 5) rfl) ?_
       refine Tr.va rfl (fun _ _ h1 h2 => run_len un_23 (h1.ev rfl)) ?_
       refine Tr.va rfl (fun _ _ h1 h2 => run_gtr (h1.ev rfl) (h1.ev rfl)) ?_
       refine Tr.nil (Tr.normThen ?_)
       refine Tr.cond rfl H (fun H => ?_) (fun H => ?_)
       ·refine Tr.sr ?_
        refine Tr.asg rfl rfl ?_
        refine Tr.nil (Tr.normThen ?_)
        refine Tr.ret (Tr.retThen ?_)
        obtain rfl := Option.some.inj H
        exact Tr.out (m := [(.int .i64 2)]) [] (res_tmp rfl res_nil) (fun W hW => ⟨rfl, hW.low leB⟩)
       ·refine Tr.skip (Tr.normThen ?_)
        refine Tr.seq ?_
        refine Tr.sr ?_
        refine Tr.asg rfl rfl ?_
        refine Tr.nil (Tr.normThen ?_)
        refine Tr.block ?_
        refine Tr.loop (σ := Int) (fun m w s => F_etchhouseref9_CheckPanel_L2 N p0 m s = some r) (fun s => [(1, (.pointer (some ⟨b100, 0, none⟩))), (5, (.int .i64 s))]) (fun s => [(1, bx b100 #[(.int .i64 p0.W), (.int .i64 p0.H), (.int .i64 p0.Rail), (.int .i64 p0.Gap), (.slice Ap0_0 (p0.Kinds).length cp0_0), (.slice Ap0_1 (p0.Slots).length cp0_1), (.slice Ap0_2 (p0.Marks).length cp0_2)] 26)]) N 0 H (.cons rfl (.cons rfl .nil)) (.cons rfl .nil) (fun _ _ h => noSome (h)) ?_
        intro w leF_etchhouseref9_CheckPanel_L2 mF_etchhouseref9_CheckPanel_L2 x150 hs
        have H := hs
        replace H : F_etchhouseref9_CheckPanel_L2 N p0 (mF_etchhouseref9_CheckPanel_L2 + 1) x150 = some r := H
        replace hp0_0 := hp0_0.leR leF_etchhouseref9_CheckPanel_L2
        replace hp0_1 := hp0_1.leR leF_etchhouseref9_CheckPanel_L2
        replace hp0_2 := hp0_2.leR leF_etchhouseref9_CheckPanel_L2
        replace leB := leB.trans leF_etchhouseref9_CheckPanel_L2
        replace leF_etchhouseref9_CheckPanel_L1 := leF_etchhouseref9_CheckPanel_L1.trans leF_etchhouseref9_CheckPanel_L2
        rw [F_etchhouseref9_CheckPanel_L2.eq_2] at H
        show Tr _ _ (LF [(1, (.pointer (some ⟨b100, 0, none⟩))), (5, (.int .i64 x150))]) (LE [(1, bx b100 #[(.int .i64 p0.W), (.int .i64 p0.H), (.int .i64 p0.Rail), (.int .i64 p0.Gap), (.slice Ap0_0 (p0.Kinds).length cp0_0), (.slice Ap0_1 (p0.Slots).length cp0_1), (.slice Ap0_2 (p0.Marks).length cp0_2)] 26)]) _
        refine Tr.seq ?_
        refine Tr.sr ?_
        refine Tr.mv rfl rfl ?_
        refine Tr.va rfl (fun _ _ h1 h2 => run_fieldAddr fo_26_5 (h1.ev rfl)) ?_
        refine Tr.va rfl (fun _ _ h1 h2 => run_load1 ag_23 (h1.ev rfl) (rdb h2 (vs := [(.int .i64 p0.W), (.int .i64 p0.H), (.int .i64 p0.Rail), (.int .i64 p0.Gap), (.slice Ap0_0 (p0.Kinds).length cp0_0), (.slice Ap0_1 (p0.Slots).length cp0_1), (.slice Ap0_2 (p0.Marks).length cp0_2)]) (k := 1) rfl 5) rfl) ?_
        refine Tr.va rfl (fun _ _ h1 h2 => run_len un_23 (h1.ev rfl)) ?_
        refine Tr.va rfl (fun _ _ h1 h2 => run_lss (h1.ev rfl) (h1.ev rfl)) ?_
        refine Tr.nil (Tr.normThen ?_)
        refine Tr.cond rfl H (fun H => ?_) (fun H => ?_)
        ·refine Tr.skip (Tr.normThen ?_)
         refine Tr.seq ?_
         refine Tr.block ?_
         refine Tr.sr ?_
         refine Tr.va rfl (fun _ _ h1 h2 => run_loadN (cs := [(.int .i64 p0.W), (.int .i64 p0.H), (.int .i64 p0.Rail), (.int .i64 p0.Gap), (.slice Ap0_0 (p0.Kinds).length cp0_0), (.slice Ap0_1 (p0.Slots).length cp0_1), (.slice Ap0_2 (p0.Marks).length cp0_2)]) ag_26 sz_26 (h1.ev rfl) (CellsAt.take (rdb h2 (vs := [(.int .i64 p0.W), (.int .i64 p0.H), (.int .i64 p0.Rail), (.int .i64 p0.Gap), (.slice Ap0_0 (p0.Kinds).length cp0_0), (.slice Ap0_1 (p0.Slots).length cp0_1), (.slice Ap0_2 (p0.Marks).length cp0_2)]) (k := 1) rfl 0) 7) rfl) ?_
         refine Tr.mv rfl rfl ?_
         obtain ⟨y151, hy151, H⟩ := bnd H
         refine Tr.call0 (r := (.int .i64 y151)) (wn rfl) rfl Try.call43 (evl_cons rfl (evl_cons rfl evl_nil)) (fun W hW => F_etchhouseref9_checkSlot_ok N p0 Ap0_0 cp0_0 (hp0_0.ext hW.extAll) Ap0_1 cp0_1 (hp0_1.ext hW.extAll) Ap0_2 cp0_2 (hp0_2.ext hW.extAll) x150 y151 hy151 (HF.start _)) ?_
         refine Tr.asg rfl rfl ?_
         refine Tr.nil (Tr.normThen ?_)
         refine Tr.sr ?_
         refine Tr.mv rfl rfl ?_
         refine Tr.va rfl (fun _ _ h1 h2 => run_neq (h1.ev rfl) (h1.ev rfl)) ?_
         refine Tr.nil (Tr.normThen ?_)
         refine Tr.cond rfl H (fun H => ?_) (fun H => ?_)
         ·refine Tr.sr ?_
          refine Tr.mv rfl rfl ?_
          refine Tr.asg rfl rfl ?_
          refine Tr.nil (Tr.normThen ?_)
          refine Tr.ret (Tr.retBlock (Tr.retThen (Tr.retThen (Tr.retBlock (Tr.retThen ?_)))))
          obtain rfl := Option.some.inj H
          exact Tr.out (m := [(.int .i64 y151)]) [] (res_tmp rfl res_nil) (fun W hW => ⟨rfl, hW.low leB⟩)
         ·refine Tr.skip (Tr.normBlock (Tr.normThen ?_))
          refine Tr.region ?_
          refine Tr.mv rfl rfl ?_
          refine Tr.va rfl (fun _ _ h1 h2 => run_add (h1.ev rfl) (h1.ev rfl)) ?_
          refine Tr.asg rfl rfl ?_
          refine Tr.nil ?_
          exact Tr.backThen leF_etchhouseref9_CheckPanel_L2 (w64 (x150 + 1)) H (.cons rfl (.cons rfl .nil)) (.cons rfl .nil)
        ·refine Tr.exit (Tr.exitThen (Tr.exitThen (Tr.exitBlock (Tr.normThen ?_))))
         refine Tr.seq ?_
         refine Tr.sr ?_
         refine Tr.va rfl (fun _ _ h1 h2 => run_fieldAddr fo_26_6 (h1.ev rfl)) ?_
         refine Tr.va rfl (fun _ _ h1 h2 => run_load1 ag_24 (h1.ev rfl) (rdb h2 (vs := [(.int .i64 p0.W), (.int .i64 p0.H), (.int .i64 p0.Rail), (.int .i64 p0.Gap), (.slice Ap0_0 (p0.Kinds).length cp0_0), (.slice Ap0_1 (p0.Slots).length cp0_1), (.slice Ap0_2 (p0.Marks).length cp0_2)]) (k := 1) rfl 6) rfl) ?_
         refine Tr.va rfl (fun _ _ h1 h2 => run_len un_24 (h1.ev rfl)) ?_
         refine Tr.va rfl (fun _ _ h1 h2 => run_gtr (h1.ev rfl) (h1.ev rfl)) ?_
         refine Tr.nil (Tr.normThen ?_)
         refine Tr.cond rfl H (fun H => ?_) (fun H => ?_)
         ·refine Tr.sr ?_
          refine Tr.asg rfl rfl ?_
          refine Tr.nil (Tr.normThen ?_)
          refine Tr.ret (Tr.retThen ?_)
          obtain rfl := Option.some.inj H
          exact Tr.out (m := [(.int .i64 2)]) [] (res_tmp rfl res_nil) (fun W hW => ⟨rfl, hW.low leB⟩)
         ·refine Tr.skip (Tr.normThen ?_)
          refine Tr.seq ?_
          refine Tr.sr ?_
          refine Tr.asg rfl rfl ?_
          refine Tr.nil (Tr.normThen ?_)
          refine Tr.block ?_
          refine Tr.loop (σ := Int) (fun m w s => F_etchhouseref9_CheckPanel_L3 N p0 m s = some r) (fun s => [(1, (.pointer (some ⟨b100, 0, none⟩))), (7, (.int .i64 s))]) (fun s => [(1, bx b100 #[(.int .i64 p0.W), (.int .i64 p0.H), (.int .i64 p0.Rail), (.int .i64 p0.Gap), (.slice Ap0_0 (p0.Kinds).length cp0_0), (.slice Ap0_1 (p0.Slots).length cp0_1), (.slice Ap0_2 (p0.Marks).length cp0_2)] 26)]) N 0 H (.cons rfl (.cons rfl .nil)) (.cons rfl .nil) (fun _ _ h => noSome (h)) ?_
          intro w leF_etchhouseref9_CheckPanel_L3 mF_etchhouseref9_CheckPanel_L3 x157 hs
          have H := hs
          replace H : F_etchhouseref9_CheckPanel_L3 N p0 (mF_etchhouseref9_CheckPanel_L3 + 1) x157 = some r := H
          replace hp0_0 := hp0_0.leR leF_etchhouseref9_CheckPanel_L3
          replace hp0_1 := hp0_1.leR leF_etchhouseref9_CheckPanel_L3
          replace hp0_2 := hp0_2.leR leF_etchhouseref9_CheckPanel_L3
          replace leB := leB.trans leF_etchhouseref9_CheckPanel_L3
          replace leF_etchhouseref9_CheckPanel_L1 := leF_etchhouseref9_CheckPanel_L1.trans leF_etchhouseref9_CheckPanel_L3
          replace leF_etchhouseref9_CheckPanel_L2 := leF_etchhouseref9_CheckPanel_L2.trans leF_etchhouseref9_CheckPanel_L3
          rw [F_etchhouseref9_CheckPanel_L3.eq_2] at H
          show Tr _ _ (LF [(1, (.pointer (some ⟨b100, 0, none⟩))), (7, (.int .i64 x157))]) (LE [(1, bx b100 #[(.int .i64 p0.W), (.int .i64 p0.H), (.int .i64 p0.Rail), (.int .i64 p0.Gap), (.slice Ap0_0 (p0.Kinds).length cp0_0), (.slice Ap0_1 (p0.Slots).length cp0_1), (.slice Ap0_2 (p0.Marks).length cp0_2)] 26)]) _
          refine Tr.seq ?_
          refine Tr.sr ?_
          refine Tr.mv rfl rfl ?_
          refine Tr.va rfl (fun _ _ h1 h2 => run_fieldAddr fo_26_6 (h1.ev rfl)) ?_
          refine Tr.va rfl (fun _ _ h1 h2 => run_load1 ag_24 (h1.ev rfl) (rdb h2 (vs := [(.int .i64 p0.W), (.int .i64 p0.H), (.int .i64 p0.Rail), (.int .i64 p0.Gap), (.slice Ap0_0 (p0.Kinds).length cp0_0), (.slice Ap0_1 (p0.Slots).length cp0_1), (.slice Ap0_2 (p0.Marks).length cp0_2)]) (k := 1) rfl 6) rfl) ?_
          refine Tr.va rfl (fun _ _ h1 h2 => run_len un_24 (h1.ev rfl)) ?_
          refine Tr.va rfl (fun _ _ h1 h2 => run_lss (h1.ev rfl) (h1.ev rfl)) ?_
          refine Tr.nil (Tr.normThen ?_)
          refine Tr.cond rfl H (fun H => ?_) (fun H => ?_)
          ·refine Tr.skip (Tr.normThen ?_)
           refine Tr.seq ?_
           refine Tr.block ?_
           refine Tr.sr ?_
           refine Tr.va rfl (fun _ _ h1 h2 => run_loadN (cs := [(.int .i64 p0.W), (.int .i64 p0.H), (.int .i64 p0.Rail), (.int .i64 p0.Gap), (.slice Ap0_0 (p0.Kinds).length cp0_0), (.slice Ap0_1 (p0.Slots).length cp0_1), (.slice Ap0_2 (p0.Marks).length cp0_2)]) ag_26 sz_26 (h1.ev rfl) (CellsAt.take (rdb h2 (vs := [(.int .i64 p0.W), (.int .i64 p0.H), (.int .i64 p0.Rail), (.int .i64 p0.Gap), (.slice Ap0_0 (p0.Kinds).length cp0_0), (.slice Ap0_1 (p0.Slots).length cp0_1), (.slice Ap0_2 (p0.Marks).length cp0_2)]) (k := 1) rfl 0) 7) rfl) ?_
           refine Tr.mv rfl rfl ?_
           obtain ⟨y158, hy158, H⟩ := bnd H
           refine Tr.call0 (r := (.int .i64 y158)) (wn rfl) rfl Try.call44 (evl_cons rfl (evl_cons rfl evl_nil)) (fun W hW => F_etchhouseref9_checkMark_ok N p0 Ap0_0 cp0_0 (hp0_0.ext hW.extAll) Ap0_1 cp0_1 (hp0_1.ext hW.extAll) Ap0_2 cp0_2 (hp0_2.ext hW.extAll) x157 y158 hy158 (HF.start _)) ?_
           refine Tr.asg rfl rfl ?_
           refine Tr.nil (Tr.normThen ?_)
           refine Tr.sr ?_
           refine Tr.mv rfl rfl ?_
           refine Tr.va rfl (fun _ _ h1 h2 => run_neq (h1.ev rfl) (h1.ev rfl)) ?_
           refine Tr.nil (Tr.normThen ?_)
           refine Tr.cond rfl H (fun H => ?_) (fun H => ?_)
           ·refine Tr.sr ?_
            refine Tr.mv rfl rfl ?_
            refine Tr.asg rfl rfl ?_
            refine Tr.nil (Tr.normThen ?_)
            refine Tr.ret (Tr.retBlock (Tr.retThen (Tr.retThen (Tr.retBlock (Tr.retThen ?_)))))
            obtain rfl := Option.some.inj H
            exact Tr.out (m := [(.int .i64 y158)]) [] (res_tmp rfl res_nil) (fun W hW => ⟨rfl, hW.low leB⟩)
           ·refine Tr.skip (Tr.normBlock (Tr.normThen ?_))
            refine Tr.region ?_
            refine Tr.mv rfl rfl ?_
            refine Tr.va rfl (fun _ _ h1 h2 => run_add (h1.ev rfl) (h1.ev rfl)) ?_
            refine Tr.asg rfl rfl ?_
            refine Tr.nil ?_
            exact Tr.backThen leF_etchhouseref9_CheckPanel_L3 (w64 (x157 + 1)) H (.cons rfl (.cons rfl .nil)) (.cons rfl .nil)
          ·refine Tr.exit (Tr.exitThen (Tr.exitThen (Tr.exitBlock (Tr.normThen ?_))))
           refine Tr.sr ?_
           refine Tr.asg rfl rfl ?_
           refine Tr.nil (Tr.normThen ?_)
           refine Tr.ret ?_
           obtain rfl := Option.some.inj H
           exact Tr.out (m := [(.int .i64 0)]) [] (res_tmp rfl res_nil) (fun W hW => ⟨rfl, hW.low leB⟩)

theorem F_etchhouseref9_cells_ok (N : Nat) {w : Bs} (p0 : TPanel) (Ap0_0 : Option Addr) (cp0_0 : Nat) (hp0_0 : Sl w.R w.W fl_TBoardKind Ap0_0 cp0_0 p0.Kinds) (Ap0_1 : Option Addr) (cp0_1 : Nat) (hp0_1 : Sl w.R w.W fl_TSlot Ap0_1 cp0_1 p0.Slots) (Ap0_2 : Option Addr) (cp0_2 : Nat) (hp0_2 : Sl w.R w.W fl_TPoint Ap0_2 cp0_2 p0.Marks) (r : (List TRect)) (H : F_etchhouseref9_cells N p0 = some r) (hE : HF w w.W (LEn [emp])) : Calls Try.prog 34 [(.agg #[(.int .i64 p0.W), (.int .i64 p0.H), (.int .i64 p0.Rail), (.int .i64 p0.Gap), (.slice Ap0_0 (p0.Kinds).length cp0_0), (.slice Ap0_1 (p0.Slots).length cp0_1), (.slice Ap0_2 (p0.Marks).length cp0_2)])].toArray w.W fun e W' => ∃ u : (Option Addr × Nat), e = .returned (.slice u.1 (r).length u.2) ∧ (SlF u.1 (r).length u.2) ∧ HF w W' (LEn [ow u.1 u.2 38 fl_TRect r]) := by
 unfold F_etchhouseref9_cells at H
 have leB := Bs.Le.refl w
 refine Tr.enter (n := 23) Try.func34 rfl rfl rfl hE ?_
 refine Tr.sr ?_
 refine Tr.box 1 (cs := [(.int .i64 p0.W), (.int .i64 p0.H), (.int .i64 p0.Rail), (.int .i64 p0.Gap), (.slice Ap0_0 (p0.Kinds).length cp0_0), (.slice Ap0_1 (p0.Slots).length cp0_1), (.slice Ap0_2 (p0.Marks).length cp0_2)]) (wn rfl) rfl rfl rfl fun b100 => ?_
 refine Tr.asg rfl rfl ?_
 refine Tr.nilOwn 2 38 fl_TRect ?_
 show Tr _ _ (uf _ 2 (.slice none (([] : List TRect)).length 0)) _ _
 refine Tr.nil (Tr.normThen ?_)
 refine Tr.sr ?_
 refine Tr.asg rfl rfl ?_
 refine Tr.nilOwn 3 38 fl_TRect ?_
 show Tr _ _ (uf _ 3 (.slice none (([] : List TRect)).length 0)) _ _
 refine Tr.nil (Tr.normThen ?_)
 refine Tr.seq ?_
 refine Tr.sr ?_
 refine Tr.asg rfl rfl ?_
 refine Tr.nil (Tr.normThen ?_)
 refine Tr.block ?_
 refine Tr.loop (σ := (List TRect) × Int × (Option Addr) × Nat) (fun m w s => F_etchhouseref9_cells_L1 N p0 m s.1 s.2.1 = some r ∧ SlF s.2.2.1 (s.1).length s.2.2.2) (fun s => [(1, (.pointer (some ⟨b100, 0, none⟩))), (3, (.slice s.2.2.1 (s.1).length s.2.2.2)), (4, (.int .i64 s.2.1))]) (fun s => [(1, bx b100 #[(.int .i64 p0.W), (.int .i64 p0.H), (.int .i64 p0.Rail), (.int .i64 p0.Gap), (.slice Ap0_0 (p0.Kinds).length cp0_0), (.slice Ap0_1 (p0.Slots).length cp0_1), (.slice Ap0_2 (p0.Marks).length cp0_2)] 26), (3, ow s.2.2.1 s.2.2.2 38 fl_TRect s.1)]) N (([] : List TRect), 0, none, 0) ⟨H, slf_nil⟩ (.cons rfl (.cons rfl (.cons rfl .nil))) (.cons rfl (.cons rfl .nil)) (fun _ _ h => noSome (h.1)) ?_
 intro w leF_etchhouseref9_cells_L1 mF_etchhouseref9_cells_L1 s hs
 obtain ⟨l115, x116, Al115, cl115⟩ := s
 obtain ⟨H, hl115⟩ := hs
 replace H : F_etchhouseref9_cells_L1 N p0 (mF_etchhouseref9_cells_L1 + 1) l115 x116 = some r := H
 replace hp0_0 := hp0_0.leR leF_etchhouseref9_cells_L1
 replace hp0_1 := hp0_1.leR leF_etchhouseref9_cells_L1
 replace hp0_2 := hp0_2.leR leF_etchhouseref9_cells_L1
 replace leB := leB.trans leF_etchhouseref9_cells_L1
 replace hl115 : SlF Al115 (l115).length cl115 := hl115
 rw [F_etchhouseref9_cells_L1.eq_2] at H
 show Tr _ _ (LF [(1, (.pointer (some ⟨b100, 0, none⟩))), (3, (.slice Al115 (l115).length cl115)), (4, (.int .i64 x116))]) (LE [(1, bx b100 #[(.int .i64 p0.W), (.int .i64 p0.H), (.int .i64 p0.Rail), (.int .i64 p0.Gap), (.slice Ap0_0 (p0.Kinds).length cp0_0), (.slice Ap0_1 (p0.Slots).length cp0_1), (.slice Ap0_2 (p0.Marks).length cp0_2)] 26), (3, ow Al115 cl115 38 fl_TRect l115)]) _
 refine Tr.seq ?_
 refine Tr.sr ?_
 refine Tr.mv rfl rfl ?_
 refine Tr.va rfl (fun _ _ h1 h2 => run_fieldAddr fo_26_5 (h1.ev rfl)) ?_
 refine Tr.va rfl (fun _ _ h1 h2 => run_load1 ag_23 (h1.ev rfl) (rdb h2 (vs := [(.int .i64 p0.W), (.int .i64 p0.H), (.int .i64 p0.Rail), (.int .i64 p0.Gap), (.slice Ap0_0 (p0.Kinds).length cp0_0), (.slice Ap0_1 (p0.Slots).length cp0_1), (.slice Ap0_2 (p0.Marks).length cp0_2)]) (k := 1) rfl 5) rfl) ?_
 refine Tr.va rfl (fun _ _ h1 h2 => run_len un_23 (h1.ev rfl)) ?_
 refine Tr.va rfl (fun _ _ h1 h2 => run_lss (h1.ev rfl) (h1.ev rfl)) ?_
 refine Tr.nil (Tr.normThen ?_)
 refine Tr.cond rfl H (fun H => ?_) (fun H => ?_)
 ·refine Tr.skip (Tr.normThen ?_)
  refine Tr.seq ?_
  refine Tr.block ?_
  obtain ⟨x118, hx118, H⟩ := bnd H
  obtain ⟨hx1180, hx1181, hx1182⟩ := idx_some hx118
  obtain ⟨y119, hy119, H⟩ := bnd H
  refine Tr.drawF 9 [(8, .makeFunc (.func 0) #[] #[.tmp 19])] [(8, ⟨20, 6, (.func (.func 0) #[] #[(.agg #[(.int .i64 y119.X0), (.int .i64 y119.Y0), (.int .i64 y119.X1), (.int .i64 y119.Y1)])]), fun b => .slice (some ⟨b, 0, none⟩) 1 1, fun b => bx b #[(.int .i64 y119.X0), (.int .i64 y119.Y0), (.int .i64 y119.X1), (.int .i64 y119.Y1)] 38⟩)] [(1, (.pointer (some ⟨b100, 0, none⟩))), (3, (.slice Al115 (l115).length cl115)), (4, (.int .i64 x116)), (5, (.int .i64 x116)), (6, (.pointer (some ⟨b100, 5, none⟩))), (7, (.slice Ap0_1 (p0.Slots).length cp0_1)), (8, (.int .i64 (p0.Slots.length : Int))), (9, (.bool (decide (x116 < (p0.Slots.length : Int))))), (12, (.slice Al115 (l115).length cl115)), (13, (.agg #[(.int .i64 p0.W), (.int .i64 p0.H), (.int .i64 p0.Rail), (.int .i64 p0.Gap), (.slice Ap0_0 (p0.Kinds).length cp0_0), (.slice Ap0_1 (p0.Slots).length cp0_1), (.slice Ap0_2 (p0.Marks).length cp0_2)])), (14, (.pointer (some ⟨b100, 5, none⟩))), (15, (.slice Ap0_1 (p0.Slots).length cp0_1)), (16, (.int .i64 x116)), (17, (.pointer (some ⟨adB Ap0_1, adO Ap0_1 + (x116).toNat * 4, none⟩))), (18, (.agg #[(.string x118.Board), (.int .i64 x118.Quarters), (.int .i64 x118.At.X), (.int .i64 x118.At.Y)])), (19, (.agg #[(.int .i64 y119.X0), (.int .i64 y119.Y0), (.int .i64 y119.X1), (.int .i64 y119.Y1)])), (20, (.func (.func 0) #[] #[(.agg #[(.int .i64 y119.X0), (.int .i64 y119.Y0), (.int .i64 y119.X1), (.int .i64 y119.Y1)])]))] (by kernel_rfl) (by kernel_rfl) (by kernel_rfl) (by kernel_rfl) (by kernel_rfl) (by kernel_rfl) (by kernel_rfl) (fall_cons (fr_lit (vs := [(0, (.agg #[(.int .i64 y119.X0), (.int .i64 y119.Y0), (.int .i64 y119.X1), (.int .i64 y119.Y1)]))]) rfl rfl rfl (by kernel_rfl)) fall_nil) (fall_cons rfl fall_nil) (fall_cons rfl fall_nil) ?_ ?_
  ·refine Tq.mv rfl rfl ?_
   refine Tq.va rfl (fun _ _ h1 h2 => run_loadN (cs := [(.int .i64 p0.W), (.int .i64 p0.H), (.int .i64 p0.Rail), (.int .i64 p0.Gap), (.slice Ap0_0 (p0.Kinds).length cp0_0), (.slice Ap0_1 (p0.Slots).length cp0_1), (.slice Ap0_2 (p0.Marks).length cp0_2)]) ag_26 sz_26 (h1.ev rfl) (CellsAt.take (rdb h2 (vs := [(.int .i64 p0.W), (.int .i64 p0.H), (.int .i64 p0.Rail), (.int .i64 p0.Gap), (.slice Ap0_0 (p0.Kinds).length cp0_0), (.slice Ap0_1 (p0.Slots).length cp0_1), (.slice Ap0_2 (p0.Marks).length cp0_2)]) (k := 1) rfl 0) 7) rfl) ?_
   refine Tq.va rfl (fun _ _ h1 h2 => run_fieldAddr fo_26_5 (h1.ev rfl)) ?_
   refine Tq.va rfl (fun _ _ h1 h2 => run_load1 ag_23 (h1.ev rfl) (rdb h2 (vs := [(.int .i64 p0.W), (.int .i64 p0.H), (.int .i64 p0.Rail), (.int .i64 p0.Gap), (.slice Ap0_0 (p0.Kinds).length cp0_0), (.slice Ap0_1 (p0.Slots).length cp0_1), (.slice Ap0_2 (p0.Marks).length cp0_2)]) (k := 1) rfl 5) rfl) ?_
   refine Tq.mv rfl rfl ?_
   refine Tq.va rfl (fun _ _ h1 h2 => run_indexAddr el_23 (h1.ev rfl) hp0_1.form (h1.ev rfl) hx1180 hx1181) ?_
   refine Tq.va rfl (fun _ _ h1 h2 => run_loadN (cs := [(.string x118.Board), (.int .i64 x118.Quarters), (.int .i64 x118.At.X), (.int .i64 x118.At.Y)]) ag_96 sz_96 (h1.ev rfl) (CellsAt.take (rdF ef_TSlot hp0_1 hx1182 h2) 4) rfl) ?_
   refine Tq.call0 (r := (.agg #[(.int .i64 y119.X0), (.int .i64 y119.Y0), (.int .i64 y119.X1), (.int .i64 y119.Y1)])) (wn rfl) rfl Try.call63 (evl_cons rfl (evl_cons rfl evl_nil)) (fun W hW => F_etchhouseref9_cellOf_ok N p0 Ap0_0 cp0_0 (hp0_0.ext hW.extAll) Ap0_1 cp0_1 (hp0_1.ext hW.extAll) Ap0_2 cp0_2 (hp0_2.ext hW.extAll) x118 y119 hy119 (HF.start _)) ?_
   refine Tq.mkFunc (vs := [(.agg #[(.int .i64 y119.X0), (.int .i64 y119.Y0), (.int .i64 y119.X1), (.int .i64 y119.Y1)])]) (wn rfl) rfl (evl_cons rfl evl_nil) ?_
   exact Tq.fin (.cons rfl (.cons rfl (.cons rfl (.cons rfl (.cons rfl (.cons rfl (.cons rfl (.cons rfl (.cons rfl (.cons rfl (.cons rfl (.cons rfl (.cons rfl (.cons rfl (.cons rfl (.cons rfl (.cons rfl .nil)))))))))))))))))
  ·intro bs117
   refine Tr.sel (lf := [(1, (.pointer (some ⟨b100, 0, none⟩))), (4, (.int .i64 x116)), (12, (.slice Al115 (l115).length cl115)), (20, (.slice (some ⟨(bs117 8), 0, none⟩) 1 1))]) (le := [(1, bx b100 #[(.int .i64 p0.W), (.int .i64 p0.H), (.int .i64 p0.Rail), (.int .i64 p0.Gap), (.slice Ap0_0 (p0.Kinds).length cp0_0), (.slice Ap0_1 (p0.Slots).length cp0_1), (.slice Ap0_2 (p0.Marks).length cp0_2)] 26), (3, ow Al115 cl115 38 fl_TRect l115), (6, bx (bs117 8) #[(.int .i64 y119.X0), (.int .i64 y119.Y0), (.int .i64 y119.X1), (.int .i64 y119.Y1)] 38)]) (.cons rfl (.cons rfl (.cons rfl (.cons rfl .nil)))) (.cons rfl (.cons rfl (.cons rfl .nil))) ?_
   obtain ⟨l120, hl120, H⟩ := bnd H
   refine Tr.append 3 (t := fl_TRect) (l := l115) (l2 := [y119]) (wn rfl) rfl rfl rfl rfl (fun W hW => ⟨[[(.int .i64 y119.X0), (.int .i64 y119.Y0), (.int .i64 y119.X1), (.int .i64 y119.Y1)]], (.cons ⟨(), trivial, rfl⟩ .nil), rdb hW (vs := [(.int .i64 y119.X0), (.int .i64 y119.Y0), (.int .i64 y119.X1), (.int .i64 y119.Y1)]) (k := 6) rfl 0⟩) un_32 sz_38 zl_38 (by decide) by_38 rfl hl120 fun Al120 cl120 hAl120 => ?_
   refine Tr.asg rfl rfl ?_
   refine Tr.nil (Tr.normBlock (Tr.normThen ?_))
   refine Tr.region ?_
   refine Tr.mv rfl rfl ?_
   refine Tr.va rfl (fun _ _ h1 h2 => run_add (h1.ev rfl) (h1.ev rfl)) ?_
   refine Tr.asg rfl rfl ?_
   refine Tr.nil ?_
   exact Tr.backThen leF_etchhouseref9_cells_L1 (l120, (w64 (x116 + 1)), Al120, cl120) ⟨H, hAl120⟩ (.cons rfl (.cons rfl (.cons rfl .nil))) (.cons rfl (.cons rfl .nil))
 ·refine Tr.exit (Tr.exitThen (Tr.exitThen (Tr.exitBlock (Tr.normThen ?_))))
  refine Tr.sr ?_
  refine Tr.mv rfl rfl ?_
  refine Tr.asg rfl rfl ?_
  refine Tr.nil (Tr.normThen ?_)
  refine Tr.ret ?_
  obtain rfl := Option.some.inj H
  exact Tr.out (m := [(.slice Al115 (l115).length cl115)]) [] (res_tmp rfl res_nil) (fun W hW => ⟨(Al115, cl115), rfl, hl115, HF.lowE leB (hW.pick (ks := [3]) (by decide) (pk_cons rfl pk_nil)) ⟨ow_any _ _ _ _ tr_TRect, trivial⟩⟩)

theorem F_etchhouseref9_Cells_ok (N : Nat) {w : Bs} (p0 : TPanel) (Ap0_0 : Option Addr) (cp0_0 : Nat) (hp0_0 : Sl w.R w.W fl_TBoardKind Ap0_0 cp0_0 p0.Kinds) (Ap0_1 : Option Addr) (cp0_1 : Nat) (hp0_1 : Sl w.R w.W fl_TSlot Ap0_1 cp0_1 p0.Slots) (Ap0_2 : Option Addr) (cp0_2 : Nat) (hp0_2 : Sl w.R w.W fl_TPoint Ap0_2 cp0_2 p0.Marks) (r : ((List TRect) × Int)) (H : F_etchhouseref9_Cells N p0 = some r) (hE : HF w w.W (LEn [emp])) : Calls Try.prog 17 [(.agg #[(.int .i64 p0.W), (.int .i64 p0.H), (.int .i64 p0.Rail), (.int .i64 p0.Gap), (.slice Ap0_0 (p0.Kinds).length cp0_0), (.slice Ap0_1 (p0.Slots).length cp0_1), (.slice Ap0_2 (p0.Marks).length cp0_2)])].toArray w.W fun e W' => ∃ u : (Option Addr × Nat), e = .returned (.tuple #[(.slice u.1 (r.1).length u.2), (.int .i64 r.2)]) ∧ (SlF u.1 (r.1).length u.2) ∧ HF w W' (LEn [ow u.1 u.2 38 fl_TRect r.1]) := by
 unfold F_etchhouseref9_Cells at H
 have leB := Bs.Le.refl w
 refine Tr.enter (n := 12) Try.func17 rfl rfl rfl hE ?_
 refine Tr.sr ?_
 refine Tr.box 1 (cs := [(.int .i64 p0.W), (.int .i64 p0.H), (.int .i64 p0.Rail), (.int .i64 p0.Gap), (.slice Ap0_0 (p0.Kinds).length cp0_0), (.slice Ap0_1 (p0.Slots).length cp0_1), (.slice Ap0_2 (p0.Marks).length cp0_2)]) (wn rfl) rfl rfl rfl fun b100 => ?_
 refine Tr.asg rfl rfl ?_
 refine Tr.nilOwn 2 38 fl_TRect ?_
 show Tr _ _ (uf _ 2 (.slice none (([] : List TRect)).length 0)) _ _
 refine Tr.asg rfl rfl ?_
 refine Tr.nil (Tr.normThen ?_)
 refine Tr.seq ?_
 refine Tr.sr ?_
 refine Tr.va rfl (fun _ _ h1 h2 => run_loadN (cs := [(.int .i64 p0.W), (.int .i64 p0.H), (.int .i64 p0.Rail), (.int .i64 p0.Gap), (.slice Ap0_0 (p0.Kinds).length cp0_0), (.slice Ap0_1 (p0.Slots).length cp0_1), (.slice Ap0_2 (p0.Marks).length cp0_2)]) ag_26 sz_26 (h1.ev rfl) (CellsAt.take (rdb h2 (vs := [(.int .i64 p0.W), (.int .i64 p0.H), (.int .i64 p0.Rail), (.int .i64 p0.Gap), (.slice Ap0_0 (p0.Kinds).length cp0_0), (.slice Ap0_1 (p0.Slots).length cp0_1), (.slice Ap0_2 (p0.Marks).length cp0_2)]) (k := 1) rfl 0) 7) rfl) ?_
 obtain ⟨y101, hy101, H⟩ := bnd H
 refine Tr.call0 (r := (.int .i64 y101)) (wn rfl) rfl Try.call19 (evl_cons rfl evl_nil) (fun W hW => F_etchhouseref9_CheckPanel_ok N p0 Ap0_0 cp0_0 (hp0_0.ext hW.extAll) Ap0_1 cp0_1 (hp0_1.ext hW.extAll) Ap0_2 cp0_2 (hp0_2.ext hW.extAll) y101 hy101 (HF.start _)) ?_
 refine Tr.asg rfl rfl ?_
 refine Tr.nil (Tr.normThen ?_)
 refine Tr.sr ?_
 refine Tr.mv rfl rfl ?_
 refine Tr.va rfl (fun _ _ h1 h2 => run_neq (h1.ev rfl) (h1.ev rfl)) ?_
 refine Tr.nil (Tr.normThen ?_)
 refine Tr.cond rfl H (fun H => ?_) (fun H => ?_)
 ·refine Tr.sr ?_
  refine Tr.mv rfl rfl ?_
  refine Tr.asg rfl rfl ?_
  refine Tr.nilOwn 3 38 fl_TRect ?_
  show Tr _ _ (uf _ 2 (.slice none (([] : List TRect)).length 0)) _ _
  refine Tr.asg rfl rfl ?_
  refine Tr.nil (Tr.normThen ?_)
  refine Tr.ret (Tr.retThen ?_)
  obtain rfl := Option.some.inj H
  exact Tr.out (m := [(.slice none (([] : List TRect)).length 0), (.int .i64 y101)]) [] (res_tmp rfl (res_tmp rfl res_nil)) (fun W hW => ⟨(none, 0), rfl, slf_nil, HF.lowE leB (hW.pick (ks := [3]) (by decide) (pk_cons rfl pk_nil)) ⟨ow_any _ _ _ _ tr_TRect, trivial⟩⟩)
 ·refine Tr.skip (Tr.normThen ?_)
  refine Tr.sr ?_
  refine Tr.va rfl (fun _ _ h1 h2 => run_loadN (cs := [(.int .i64 p0.W), (.int .i64 p0.H), (.int .i64 p0.Rail), (.int .i64 p0.Gap), (.slice Ap0_0 (p0.Kinds).length cp0_0), (.slice Ap0_1 (p0.Slots).length cp0_1), (.slice Ap0_2 (p0.Marks).length cp0_2)]) ag_26 sz_26 (h1.ev rfl) (CellsAt.take (rdb h2 (vs := [(.int .i64 p0.W), (.int .i64 p0.H), (.int .i64 p0.Rail), (.int .i64 p0.Gap), (.slice Ap0_0 (p0.Kinds).length cp0_0), (.slice Ap0_1 (p0.Slots).length cp0_1), (.slice Ap0_2 (p0.Marks).length cp0_2)]) (k := 1) rfl 0) 7) rfl) ?_
  obtain ⟨y102, hy102, H⟩ := bnd H
  refine Tr.callM [4] [emp] (U := (Option Addr × Nat)) (fun u => (.slice u.1 (y102).length u.2)) (fun u => SlF u.1 (y102).length u.2) (fun u => [ow u.1 u.2 38 fl_TRect y102]) rfl (pk_cons rfl pk_nil) (fun _ => rfl) (wn rfl) rfl Try.call34 (evl_cons rfl evl_nil) (fun W hW hp hE => F_etchhouseref9_cells_ok N p0 Ap0_0 cp0_0 (hp0_0.ext (hW.extS hp)) Ap0_1 cp0_1 (hp0_1.ext (hW.extS hp)) Ap0_2 cp0_2 (hp0_2.ext (hW.extS hp)) y102 hy102 hE) ?_
  intro u hu
  obtain ⟨Ay102_0, cy102_0⟩ := u
  have gy102_0 := hu
  have hgy102_0 : SlF Ay102_0 (y102).length cy102_0 := gy102_0 --@phi
  show Tr _ _ (uf _ 11 (.slice Ay102_0 (y102).length cy102_0)) (up _ 4 (ow Ay102_0 cy102_0 38 fl_TRect y102)) _
  refine Tr.asg rfl rfl ?_
  refine Tr.asg rfl rfl ?_
  refine Tr.nil (Tr.normThen ?_)
  refine Tr.ret ?_
  obtain rfl := Option.some.inj H
  exact Tr.out (m := [(.slice Ay102_0 (y102).length cy102_0), (.int .i64 0)]) [] (res_tmp rfl (res_tmp rfl res_nil)) (fun W hW => ⟨(Ay102_0, cy102_0), rfl, hgy102_0, HF.lowE leB (hW.pick (ks := [4]) (by decide) (pk_cons rfl pk_nil)) ⟨ow_any _ _ _ _ tr_TRect, trivial⟩⟩)

theorem F_panel_CheckPanel_ok (N : Nat) {w : Bs} (p0 : TPanel) (Ap0_0 : Option Addr) (cp0_0 : Nat) (hp0_0 : Sl w.R w.W fl_TBoardKind Ap0_0 cp0_0 p0.Kinds) (Ap0_1 : Option Addr) (cp0_1 : Nat) (hp0_1 : Sl w.R w.W fl_TSlot Ap0_1 cp0_1 p0.Slots) (Ap0_2 : Option Addr) (cp0_2 : Nat) (hp0_2 : Sl w.R w.W fl_TPoint Ap0_2 cp0_2 p0.Marks) (r : Int) (H : F_panel_CheckPanel N p0 = some r) (hE : HF w w.W E0) : Calls Try.prog 18 [(.agg #[(.int .i64 p0.W), (.int .i64 p0.H), (.int .i64 p0.Rail), (.int .i64 p0.Gap), (.slice Ap0_0 (p0.Kinds).length cp0_0), (.slice Ap0_1 (p0.Slots).length cp0_1), (.slice Ap0_2 (p0.Marks).length cp0_2)])].toArray w.W fun e W' => e = .returned (.int .i64 r) ∧ HF w W' E0 := by
 unfold F_panel_CheckPanel at H
 have leB := Bs.Le.refl w
 refine Tr.enter (n := 11) Try.func18 rfl rfl rfl hE ?_
 refine Tr.sr ?_
 refine Tr.box 1 (cs := [(.int .i64 p0.W), (.int .i64 p0.H), (.int .i64 p0.Rail), (.int .i64 p0.Gap), (.slice Ap0_0 (p0.Kinds).length cp0_0), (.slice Ap0_1 (p0.Slots).length cp0_1), (.slice Ap0_2 (p0.Marks).length cp0_2)]) (wn rfl) rfl rfl rfl fun b100 => ?_
 refine Tr.asg rfl rfl ?_
 refine Tr.nil (Tr.normThen ?_)
 refine Tr.sr ?_
 refine Tr.va rfl (fun _ _ h1 h2 => run_loadN (cs := [(.int .i64 p0.W), (.int .i64 p0.H), (.int .i64 p0.Rail), (.int .i64 p0.Gap), (.slice Ap0_0 (p0.Kinds).length cp0_0), (.slice Ap0_1 (p0.Slots).length cp0_1), (.slice Ap0_2 (p0.Marks).length cp0_2)]) ag_26 sz_26 (h1.ev rfl) (CellsAt.take (rdb h2 (vs := [(.int .i64 p0.W), (.int .i64 p0.H), (.int .i64 p0.Rail), (.int .i64 p0.Gap), (.slice Ap0_0 (p0.Kinds).length cp0_0), (.slice Ap0_1 (p0.Slots).length cp0_1), (.slice Ap0_2 (p0.Marks).length cp0_2)]) (k := 1) rfl 0) 7) rfl) ?_
 obtain ⟨y101, hy101, H⟩ := bnd H
 refine Tr.callM [2] [emp] (U := (Option Addr × Nat)) (fun u => (.tuple #[(.slice u.1 (y101.1).length u.2), (.int .i64 y101.2)])) (fun u => SlF u.1 (y101.1).length u.2) (fun u => [ow u.1 u.2 38 fl_TRect y101.1]) rfl (pk_cons rfl pk_nil) (fun _ => rfl) (wn rfl) rfl Try.call25 (evl_cons rfl evl_nil) (fun W hW hp hE => F_panel_open_ok N p0 Ap0_0 cp0_0 (hp0_0.ext (hW.extS hp)) Ap0_1 cp0_1 (hp0_1.ext (hW.extS hp)) Ap0_2 cp0_2 (hp0_2.ext (hW.extS hp)) y101 hy101 hE) ?_
 intro u hu
 obtain ⟨Ay101_0, cy101_0⟩ := u
 have gy101_0 := hu
 have hgy101_0 : SlF Ay101_0 (y101.1).length cy101_0 := gy101_0 --@phi
 show Tr _ _ (uf _ 7 (.tuple #[(.slice Ay101_0 (y101.1).length cy101_0), (.int .i64 y101.2)])) (up _ 2 (ow Ay101_0 cy101_0 38 fl_TRect y101.1)) _
 refine Tr.mv rfl rfl ?_
 refine Tr.va rfl (fun _ _ h1 h2 => run_extract (h1.ev rfl) rfl) ?_
 refine Tr.va rfl (fun _ _ h1 h2 => run_extract (h1.ev rfl) rfl) ?_
 refine Tr.asg rfl rfl ?_
 refine Tr.asg rfl rfl ?_
 refine Tr.nil (Tr.normThen ?_)
 refine Tr.sr ?_
 refine Tr.mv rfl rfl ?_
 refine Tr.asg rfl rfl ?_
 refine Tr.nil (Tr.normThen ?_)
 refine Tr.ret ?_
 obtain rfl := Option.some.inj H
 exact Tr.out (m := [(.int .i64 y101.2)]) [] (res_tmp rfl res_nil) (fun W hW => ⟨rfl, hW.low leB⟩)

theorem F_slices_Equal_Rect_ok {w : Bs} (p0 : (List TRect)) (Ap0_0 : Option Addr) (cp0_0 : Nat) (hp0_0 : Sl w.R w.W fl_TRect Ap0_0 cp0_0 p0) (p1 : (List TRect)) (Ap1_0 : Option Addr) (cp1_0 : Nat) (hp1_0 : Sl w.R w.W fl_TRect Ap1_0 cp1_0 p1) (r : Bool) (H : F_slices_Equal_Rect p0 p1 = some r) (hE : HF w w.W E0) : Calls Try.prog 20 [(.slice Ap0_0 (p0).length cp0_0), (.slice Ap1_0 (p1).length cp1_0)].toArray w.W fun e W' => e = .returned (.bool r) ∧ HF w W' E0 := by
 unfold F_slices_Equal_Rect at H
 have leB := Bs.Le.refl w
 refine Tr.enter (n := 26) Try.func20 rfl rfl rfl hE ?_
 refine Tr.sr ?_
 refine Tr.asg rfl rfl ?_
 refine Tr.nil (Tr.normThen ?_)
 refine Tr.seq ?_
 refine Tr.sr ?_
 refine Tr.mv rfl rfl ?_
 refine Tr.va rfl (fun _ _ h1 h2 => run_len un_32 (h1.ev rfl)) ?_
 refine Tr.mv rfl rfl ?_
 refine Tr.va rfl (fun _ _ h1 h2 => run_len un_32 (h1.ev rfl)) ?_
 refine Tr.va rfl (fun _ _ h1 h2 => run_neq (h1.ev rfl) (h1.ev rfl)) ?_
 refine Tr.nil (Tr.normThen ?_)
 refine Tr.cond rfl H (fun H => ?_) (fun H => ?_)
 ·refine Tr.sr ?_
  refine Tr.asg rfl rfl ?_
  refine Tr.nil (Tr.normThen ?_)
  refine Tr.ret (Tr.retThen ?_)
  obtain rfl := Option.some.inj H
  exact Tr.out (m := [(.bool false)]) [] (res_tmp rfl res_nil) (fun W hW => ⟨rfl, hW.low leB⟩)
 ·refine Tr.skip (Tr.normThen ?_)
  refine Tr.seq ?_
  refine Tr.sr ?_
  refine Tr.mv rfl rfl ?_
  refine Tr.va rfl (fun _ _ h1 h2 => run_len un_32 (h1.ev rfl)) ?_
  refine Tr.mv rfl rfl ?_
  refine Tr.nil (Tr.normThen ?_)
  refine Tr.block ?_
  refine Tr.loop (σ := (List TRect) × Nat) (fun m w s => m = s.1.length + 1 ∧ s.1 = List.drop s.2 p0 ∧ s.2 ≤ p0.length ∧ F_slices_Equal_Rect_L1 p1 s.1 s.2 = some r) (fun s => [(0, (.slice Ap0_0 (p0).length cp0_0)), (1, (.slice Ap1_0 (p1).length cp1_0)), (12, (.int .i64 (p0.length : Int))), (13, (.int .i64 (s.2 : Int)))]) (fun s => []) (p0.length + 1) (p0, 0) ⟨rfl, rfl, Nat.zero_le _, H⟩ (.cons rfl (.cons rfl (.cons rfl (.cons rfl .nil)))) .nil (fun _ _ h => absurd h.1 (by simp)) ?_
  intro w leF_slices_Equal_Rect_L1 m s hs
  obtain ⟨restF_slices_Equal_Rect_L1, iF_slices_Equal_Rect_L1⟩ := s
  obtain ⟨hmF_slices_Equal_Rect_L1, hdF_slices_Equal_Rect_L1, hiF_slices_Equal_Rect_L1, H⟩ := hs
  replace hdF_slices_Equal_Rect_L1 : restF_slices_Equal_Rect_L1 = List.drop iF_slices_Equal_Rect_L1 p0 := hdF_slices_Equal_Rect_L1
  replace H : F_slices_Equal_Rect_L1 p1 restF_slices_Equal_Rect_L1 iF_slices_Equal_Rect_L1 = some r := H
  replace hmF_slices_Equal_Rect_L1 : m + 1 = restF_slices_Equal_Rect_L1.length + 1 := hmF_slices_Equal_Rect_L1
  replace hp0_0 := hp0_0.leR leF_slices_Equal_Rect_L1
  replace hp1_0 := hp1_0.leR leF_slices_Equal_Rect_L1
  replace leB := leB.trans leF_slices_Equal_Rect_L1
  obtain rfl : m = restF_slices_Equal_Rect_L1.length := by omega
  clear hmF_slices_Equal_Rect_L1
  show Tr _ _ (LF [(0, (.slice Ap0_0 (p0).length cp0_0)), (1, (.slice Ap1_0 (p1).length cp1_0)), (12, (.int .i64 (p0.length : Int))), (13, (.int .i64 (iF_slices_Equal_Rect_L1 : Int)))]) (LE []) _
  cases restF_slices_Equal_Rect_L1 with
  | nil =>
   rw [F_slices_Equal_Rect_L1.eq_1] at H
   refine Tr.sr ?_
   refine Tr.va rfl (fun _ _ h1 h2 => run_lss (h1.ev rfl) (h1.ev rfl)) ?_
   refine Tr.nil (Tr.normThen ?_)
   refine Tr.seq ?_
   refine Tr.condF rfl (range_nil hdF_slices_Equal_Rect_L1) ?_
   refine Tr.exit (Tr.exitThen (Tr.exitThen (Tr.exitBlock (Tr.normThen ?_))))
   refine Tr.sr ?_
   refine Tr.asg rfl rfl ?_
   refine Tr.nil (Tr.normThen ?_)
   refine Tr.ret ?_
   obtain rfl := Option.some.inj H
   exact Tr.out (m := [(.bool true)]) [] (res_tmp rfl res_nil) (fun W hW => ⟨rfl, hW.low leB⟩)
  | cons xF_slices_Equal_Rect_L1 restF_slices_Equal_Rect_L1 =>
   rw [F_slices_Equal_Rect_L1.eq_2] at H
   refine Tr.sr ?_
   refine Tr.va rfl (fun _ _ h1 h2 => run_lss (h1.ev rfl) (h1.ev rfl)) ?_
   refine Tr.nil (Tr.normThen ?_)
   refine Tr.seq ?_
   refine Tr.condT rfl (range_on hdF_slices_Equal_Rect_L1) ?_
   refine Tr.skip (Tr.normThen ?_)
   refine Tr.seq ?_
   refine Tr.block ?_
   refine Tr.sr ?_
   refine Tr.mv rfl rfl ?_
   refine Tr.asg rfl rfl ?_
   refine Tr.nil (Tr.normThen ?_)
   refine Tr.seq ?_
   refine Tr.draw (by kernel_rfl) (by kernel_rfl) ?_
   refine Tq.mv rfl rfl ?_
   refine Tq.mv rfl rfl ?_
   refine Tq.va rfl (fun _ _ h1 h2 => run_indexAddr el_32 (h1.ev rfl) hp0_0.form (h1.ev rfl) (Int.natCast_nonneg _) (range_lt hdF_slices_Equal_Rect_L1)) ?_
   refine Tq.va rfl (fun _ _ h1 h2 => run_loadN (cs := [(.int .i64 xF_slices_Equal_Rect_L1.X0), (.int .i64 xF_slices_Equal_Rect_L1.Y0), (.int .i64 xF_slices_Equal_Rect_L1.X1), (.int .i64 xF_slices_Equal_Rect_L1.Y1)]) ag_38 sz_38 (h1.ev rfl) (CellsAt.take (rdF ef_TRect hp0_0 (range_at hdF_slices_Equal_Rect_L1) h2) 4) rfl) ?_
   refine Tq.mv rfl rfl ?_
   refine Tq.mv rfl rfl ?_
   obtain ⟨x103, hx103, H⟩ := bnd H
   obtain ⟨hx1030, hx1031, hx1032⟩ := idx_some hx103
   refine Tq.va rfl (fun _ _ h1 h2 => run_indexAddr el_32 (h1.ev rfl) hp1_0.form (h1.ev rfl) hx1030 hx1031) ?_
   refine Tq.va rfl (fun _ _ h1 h2 => run_loadN (cs := [(.int .i64 x103.X0), (.int .i64 x103.Y0), (.int .i64 x103.X1), (.int .i64 x103.Y1)]) ag_38 sz_38 (h1.ev rfl) (CellsAt.take (rdF ef_TRect hp1_0 hx1032 h2) 4) rfl) ?_
   refine Tq.va rfl (fun _ _ h1 h2 => run_neq_38 xF_slices_Equal_Rect_L1 x103 (h1.ev rfl) (h1.ev rfl)) ?_
   refine Tq.nil (Tr.normThen ?_)
   refine Tr.cond rfl H (fun H => ?_) (fun H => ?_)
   ·refine Tr.sr ?_
    refine Tr.asg rfl rfl ?_
    refine Tr.nil (Tr.normThen ?_)
    refine Tr.ret (Tr.retBlock (Tr.retThen (Tr.retThen (Tr.retBlock (Tr.retThen ?_)))))
    obtain rfl := Option.some.inj H
    exact Tr.out (m := [(.bool false)]) [] (res_tmp rfl res_nil) (fun W hW => ⟨rfl, hW.low leB⟩)
   ·refine Tr.skip (Tr.normBlock (Tr.normThen ?_))
    refine Tr.region ?_
    refine Tr.va rfl (fun _ _ h1 h2 => run_add (h1.ev rfl) (h1.ev rfl)) ?_
    refine Tr.mv rfl rfl ?_
    refine Tr.nil ?_
    exact Tr.backThen leF_slices_Equal_Rect_L1 (restF_slices_Equal_Rect_L1, (iF_slices_Equal_Rect_L1 + 1)) ⟨rfl, range_tl hdF_slices_Equal_Rect_L1, range_lt hdF_slices_Equal_Rect_L1, H⟩ (.cons rfl (.cons rfl (.cons rfl (.cons (congrArg (fun z => some (Value.int .i64 z)) (range_up hdF_slices_Equal_Rect_L1 hp0_0.form)) .nil)))) .nil

theorem F_shape_AreaOf_ok {w : Bs} (p0 : (List TRect)) (Ap0_0 : Option Addr) (cp0_0 : Nat) (hp0_0 : Sl w.R w.W fl_TRect Ap0_0 cp0_0 p0) (r : Int) (H : F_shape_AreaOf p0 = some r) (hE : HF w w.W E0) : Calls Try.prog 46 [(.slice Ap0_0 (p0).length cp0_0)].toArray w.W fun e W' => e = .returned (.int .i64 r) ∧ HF w W' E0 := by
 unfold F_shape_AreaOf at H
 have leB := Bs.Le.refl w
 refine Tr.enter (n := 27) Try.func46 rfl rfl rfl hE ?_
 refine Tr.sr ?_
 refine Tr.asg rfl rfl ?_
 refine Tr.nil (Tr.normThen ?_)
 refine Tr.sr ?_
 refine Tr.asg rfl rfl ?_
 refine Tr.nil (Tr.normThen ?_)
 refine Tr.seq ?_
 refine Tr.sr ?_
 refine Tr.mv rfl rfl ?_
 refine Tr.va rfl (fun _ _ h1 h2 => run_len un_32 (h1.ev rfl)) ?_
 refine Tr.mv rfl rfl ?_
 refine Tr.nil (Tr.normThen ?_)
 refine Tr.block ?_
 refine Tr.loop (σ := (List TRect) × Nat × Int) (fun m w s => m = s.1.length + 1 ∧ s.1 = List.drop s.2.1 p0 ∧ s.2.1 ≤ p0.length ∧ F_shape_AreaOf_L1 s.1 s.2.1 s.2.2 = some r) (fun s => [(3, (.int .i64 s.2.2)), (6, (.slice Ap0_0 (p0).length cp0_0)), (7, (.int .i64 (p0.length : Int))), (8, (.int .i64 (s.2.1 : Int)))]) (fun s => []) (p0.length + 1) (p0, 0, 0) ⟨rfl, rfl, Nat.zero_le _, H⟩ (.cons rfl (.cons rfl (.cons rfl (.cons rfl .nil)))) .nil (fun _ _ h => absurd h.1 (by simp)) ?_
 intro w leF_shape_AreaOf_L1 m s hs
 obtain ⟨restF_shape_AreaOf_L1, iF_shape_AreaOf_L1, x110⟩ := s
 obtain ⟨hmF_shape_AreaOf_L1, hdF_shape_AreaOf_L1, hiF_shape_AreaOf_L1, H⟩ := hs
 replace hdF_shape_AreaOf_L1 : restF_shape_AreaOf_L1 = List.drop iF_shape_AreaOf_L1 p0 := hdF_shape_AreaOf_L1
 replace H : F_shape_AreaOf_L1 restF_shape_AreaOf_L1 iF_shape_AreaOf_L1 x110 = some r := H
 replace hmF_shape_AreaOf_L1 : m + 1 = restF_shape_AreaOf_L1.length + 1 := hmF_shape_AreaOf_L1
 replace hp0_0 := hp0_0.leR leF_shape_AreaOf_L1
 replace leB := leB.trans leF_shape_AreaOf_L1
 obtain rfl : m = restF_shape_AreaOf_L1.length := by omega
 clear hmF_shape_AreaOf_L1
 show Tr _ _ (LF [(3, (.int .i64 x110)), (6, (.slice Ap0_0 (p0).length cp0_0)), (7, (.int .i64 (p0.length : Int))), (8, (.int .i64 (iF_shape_AreaOf_L1 : Int)))]) (LE []) _
 cases restF_shape_AreaOf_L1 with
 | nil =>
  rw [F_shape_AreaOf_L1.eq_1] at H
  refine Tr.sr ?_
  refine Tr.va rfl (fun _ _ h1 h2 => run_lss (h1.ev rfl) (h1.ev rfl)) ?_
  refine Tr.nil (Tr.normThen ?_)
  refine Tr.seq ?_
  refine Tr.condF rfl (range_nil hdF_shape_AreaOf_L1) ?_
  refine Tr.exit (Tr.exitThen (Tr.exitThen (Tr.exitBlock (Tr.normThen ?_))))
  refine Tr.sr ?_
  refine Tr.mv rfl rfl ?_
  refine Tr.asg rfl rfl ?_
  refine Tr.nil (Tr.normThen ?_)
  refine Tr.ret ?_
  obtain rfl := Option.some.inj H
  exact Tr.out (m := [(.int .i64 x110)]) [] (res_tmp rfl res_nil) (fun W hW => ⟨rfl, hW.low leB⟩)
 | cons xF_shape_AreaOf_L1 restF_shape_AreaOf_L1 =>
  rw [F_shape_AreaOf_L1.eq_2] at H
  refine Tr.sr ?_
  refine Tr.va rfl (fun _ _ h1 h2 => run_lss (h1.ev rfl) (h1.ev rfl)) ?_
  refine Tr.nil (Tr.normThen ?_)
  refine Tr.seq ?_
  refine Tr.condT rfl (range_on hdF_shape_AreaOf_L1) ?_
  refine Tr.skip (Tr.normThen ?_)
  refine Tr.seq ?_
  refine Tr.block ?_
  refine Tr.sr ?_
  refine Tr.va rfl (fun _ _ h1 h2 => run_indexAddr el_32 (h1.ev rfl) hp0_0.form (h1.ev rfl) (Int.natCast_nonneg _) (range_lt hdF_shape_AreaOf_L1)) ?_
  refine Tr.va rfl (fun _ _ h1 h2 => run_loadN (cs := [(.int .i64 xF_shape_AreaOf_L1.X0), (.int .i64 xF_shape_AreaOf_L1.Y0), (.int .i64 xF_shape_AreaOf_L1.X1), (.int .i64 xF_shape_AreaOf_L1.Y1)]) ag_38 sz_38 (h1.ev rfl) (CellsAt.take (rdF ef_TRect hp0_0 (range_at hdF_shape_AreaOf_L1) h2) 4) rfl) ?_
  refine Tr.alloc 3 (wn rfl) rfl ze_38 fun b111 => ?_
  refine Tr.store 3 (cs := [(.int .i64 xF_shape_AreaOf_L1.X0), (.int .i64 xF_shape_AreaOf_L1.Y0), (.int .i64 xF_shape_AreaOf_L1.X1), (.int .i64 xF_shape_AreaOf_L1.Y1)]) [(.int .i64 xF_shape_AreaOf_L1.X0), (.int .i64 xF_shape_AreaOf_L1.Y0), (.int .i64 xF_shape_AreaOf_L1.X1), (.int .i64 xF_shape_AreaOf_L1.Y1)] (wn rfl) rfl rfl rfl rfl sz_38 rfl rfl rfl ?_
  refine Tr.nil (Tr.normThen ?_)
  refine Tr.region ?_
  refine Tr.mv rfl rfl ?_
  refine Tr.va rfl (fun _ _ h1 h2 => run_fieldAddr fo_38_2 (h1.ev rfl)) ?_
  refine Tr.va rfl (fun _ _ h1 h2 => run_load1 ag_3 (h1.ev rfl) (rdb h2 (vs := [(.int .i64 xF_shape_AreaOf_L1.X0), (.int .i64 xF_shape_AreaOf_L1.Y0), (.int .i64 xF_shape_AreaOf_L1.X1), (.int .i64 xF_shape_AreaOf_L1.Y1)]) (k := 3) rfl 2) rfl) ?_
  refine Tr.va rfl (fun _ _ h1 h2 => run_fieldAddr fo_38_0 (h1.ev rfl)) ?_
  refine Tr.va rfl (fun _ _ h1 h2 => run_load1 ag_3 (h1.ev rfl) (rdb h2 (vs := [(.int .i64 xF_shape_AreaOf_L1.X0), (.int .i64 xF_shape_AreaOf_L1.Y0), (.int .i64 xF_shape_AreaOf_L1.X1), (.int .i64 xF_shape_AreaOf_L1.Y1)]) (k := 3) rfl 0) rfl) ?_
  refine Tr.va rfl (fun _ _ h1 h2 => run_sub (h1.ev rfl) (h1.ev rfl)) ?_
  refine Tr.va rfl (fun _ _ h1 h2 => run_fieldAddr fo_38_3 (h1.ev rfl)) ?_
  refine Tr.va rfl (fun _ _ h1 h2 => run_load1 ag_3 (h1.ev rfl) (rdb h2 (vs := [(.int .i64 xF_shape_AreaOf_L1.X0), (.int .i64 xF_shape_AreaOf_L1.Y0), (.int .i64 xF_shape_AreaOf_L1.X1), (.int .i64 xF_shape_AreaOf_L1.Y1)]) (k := 3) rfl 3) rfl) ?_
  refine Tr.va rfl (fun _ _ h1 h2 => run_fieldAddr fo_38_1 (h1.ev rfl)) ?_
  refine Tr.va rfl (fun _ _ h1 h2 => run_load1 ag_3 (h1.ev rfl) (rdb h2 (vs := [(.int .i64 xF_shape_AreaOf_L1.X0), (.int .i64 xF_shape_AreaOf_L1.Y0), (.int .i64 xF_shape_AreaOf_L1.X1), (.int .i64 xF_shape_AreaOf_L1.Y1)]) (k := 3) rfl 1) rfl) ?_
  refine Tr.va rfl (fun _ _ h1 h2 => run_sub (h1.ev rfl) (h1.ev rfl)) ?_
  refine Tr.va rfl (fun _ _ h1 h2 => run_mul (h1.ev rfl) (h1.ev rfl)) ?_
  refine Tr.va rfl (fun _ _ h1 h2 => run_add (h1.ev rfl) (h1.ev rfl)) ?_
  refine Tr.asg rfl rfl ?_
  refine Tr.nil (Tr.normBlock (Tr.normThen ?_))
  refine Tr.region ?_
  refine Tr.va rfl (fun _ _ h1 h2 => run_add (h1.ev rfl) (h1.ev rfl)) ?_
  refine Tr.mv rfl rfl ?_
  refine Tr.nil ?_
  exact Tr.backThen leF_shape_AreaOf_L1 (restF_shape_AreaOf_L1, (iF_shape_AreaOf_L1 + 1), (w64 (x110 + (w64 ((w64 (xF_shape_AreaOf_L1.X1 - xF_shape_AreaOf_L1.X0)) * (w64 (xF_shape_AreaOf_L1.Y1 - xF_shape_AreaOf_L1.Y0))))))) ⟨rfl, range_tl hdF_shape_AreaOf_L1, range_lt hdF_shape_AreaOf_L1, H⟩ (.cons rfl (.cons rfl (.cons rfl (.cons (congrArg (fun z => some (Value.int .i64 z)) (range_up hdF_shape_AreaOf_L1 hp0_0.form)) .nil)))) .nil

theorem F_panel_Lowest_ok (N : Nat) {w : Bs} (p0 : Int) (p1 : Int) (r : TShare) (H : F_panel_Lowest N p0 p1 = some r) (hE : HF w w.W E0) : Calls Try.prog 45 [(.int .i64 p0), (.int .i64 p1)].toArray w.W fun e W' => e = .returned (.agg #[(.int .i64 r.Num), (.int .i64 r.Den)]) ∧ HF w W' E0 := by
 unfold F_panel_Lowest at H
 have leB := Bs.Le.refl w
 refine Tr.enter (n := 22) Try.func45 rfl rfl rfl hE ?_
 refine Tr.sr ?_
 refine Tr.alloc 1 (wn rfl) rfl ze_51 fun b100 => ?_
 refine Tr.nil (Tr.normThen ?_)
 refine Tr.sr ?_
 refine Tr.mv rfl rfl ?_
 refine Tr.mv rfl rfl ?_
 refine Tr.asg rfl rfl ?_
 refine Tr.asg rfl rfl ?_
 refine Tr.nil (Tr.normThen ?_)
 refine Tr.seq ?_
 refine Tr.block ?_
 refine Tr.loop (σ := Int × Int) (fun m w s => F_panel_Lowest_L1 p0 p1 m s.1 s.2 = some r) (fun s => [(0, (.int .i64 p0)), (1, (.int .i64 p1)), (4, (.pointer (some ⟨b100, 0, none⟩))), (5, (.int .i64 s.1)), (6, (.int .i64 s.2))]) (fun s => [(1, bx b100 #[(.int .i64 0), (.int .i64 0)] 51)]) N (p0, p1) H (.cons rfl (.cons rfl (.cons rfl (.cons rfl (.cons rfl .nil))))) (.cons rfl .nil) (fun _ _ h => noSome (h)) ?_
 intro w leF_panel_Lowest_L1 mF_panel_Lowest_L1 s hs
 obtain ⟨x109, x110⟩ := s
 have H := hs
 replace H : F_panel_Lowest_L1 p0 p1 (mF_panel_Lowest_L1 + 1) x109 x110 = some r := H
 replace leB := leB.trans leF_panel_Lowest_L1
 rw [F_panel_Lowest_L1.eq_2] at H
 show Tr _ _ (LF [(0, (.int .i64 p0)), (1, (.int .i64 p1)), (4, (.pointer (some ⟨b100, 0, none⟩))), (5, (.int .i64 x109)), (6, (.int .i64 x110))]) (LE [(1, bx b100 #[(.int .i64 0), (.int .i64 0)] 51)]) _
 refine Tr.seq ?_
 refine Tr.sr ?_
 refine Tr.mv rfl rfl ?_
 refine Tr.va rfl (fun _ _ h1 h2 => run_neq (h1.ev rfl) (h1.ev rfl)) ?_
 refine Tr.nil (Tr.normThen ?_)
 refine Tr.cond rfl H (fun H => ?_) (fun H => ?_)
 ·refine Tr.skip (Tr.normThen ?_)
  refine Tr.block ?_
  refine Tr.draw (by kernel_rfl) (by kernel_rfl) ?_
  refine Tq.mv rfl rfl ?_
  refine Tq.mv rfl rfl ?_
  refine Tq.mv rfl rfl ?_
  obtain ⟨q111, hq111, H⟩ := bnd H
  refine Tq.va rfl (fun _ _ h1 h2 => run_md (h1.ev rfl) (h1.ev rfl) hq111) ?_
  refine Tq.asg rfl rfl ?_
  refine Tq.asg rfl rfl ?_
  refine Tq.nil (Tr.normBlock ?_)
  exact Tr.backThen leF_panel_Lowest_L1 (x110, q111) H (.cons rfl (.cons rfl (.cons rfl (.cons rfl (.cons rfl .nil))))) (.cons rfl .nil)
 ·refine Tr.exit (Tr.exitThen (Tr.exitThen (Tr.exitBlock (Tr.normThen ?_))))
  refine Tr.seq ?_
  refine Tr.drawTail 6 (by kernel_rfl) (by kernel_rfl) ?_
  refine Tq.mv rfl rfl ?_
  refine Tq.mv rfl rfl ?_
  obtain ⟨q112, hq112, H⟩ := bnd H
  refine Tq.va rfl (fun _ _ h1 h2 => run_dv (h1.ev rfl) (h1.ev rfl) hq112) ?_
  refine Tq.mv rfl rfl ?_
  refine Tq.mv rfl rfl ?_
  obtain ⟨q113, hq113, H⟩ := bnd H
  refine Tq.va rfl (fun _ _ h1 h2 => run_dv (h1.ev rfl) (h1.ev rfl) hq113) ?_
  refine Tq.nil ?_
  refine Tr.build (vs := [(0, (.int .i64 q112)), (1, (.int .i64 q113))]) (cs := [(.int .i64 q112), (.int .i64 q113)]) (wn rfl) rfl (evs_cons rfl (evs_cons rfl evs_nil)) (by kernel_rfl) ?_
  refine Tr.store 1 (cs := [(.int .i64 q112), (.int .i64 q113)]) [(.int .i64 q112), (.int .i64 q113)] (wn rfl) rfl rfl rfl rfl sz_51 rfl rfl rfl ?_
  refine Tr.nil (Tr.normThen ?_)
  refine Tr.ret ?_
  obtain rfl := Option.some.inj H
  exact Tr.out (m := [(.agg #[(.int .i64 q112), (.int .i64 q113)])]) [1] (res_cell rfl rfl ag_51 sz_51 res_nil) (fun W hW => ⟨rfl, hW.low leB⟩)

theorem F_panel_Use_ok (N : Nat) {w : Bs} (p0 : TPanel) (Ap0_0 : Option Addr) (cp0_0 : Nat) (hp0_0 : Sl w.R w.W fl_TBoardKind Ap0_0 cp0_0 p0.Kinds) (Ap0_1 : Option Addr) (cp0_1 : Nat) (hp0_1 : Sl w.R w.W fl_TSlot Ap0_1 cp0_1 p0.Slots) (Ap0_2 : Option Addr) (cp0_2 : Nat) (hp0_2 : Sl w.R w.W fl_TPoint Ap0_2 cp0_2 p0.Marks) (r : (TShare × Int)) (H : F_panel_Use N p0 = some r) (hE : HF w w.W E0) : Calls Try.prog 21 [(.agg #[(.int .i64 p0.W), (.int .i64 p0.H), (.int .i64 p0.Rail), (.int .i64 p0.Gap), (.slice Ap0_0 (p0.Kinds).length cp0_0), (.slice Ap0_1 (p0.Slots).length cp0_1), (.slice Ap0_2 (p0.Marks).length cp0_2)])].toArray w.W fun e W' => e = .returned (.tuple #[(.agg #[(.int .i64 r.1.Num), (.int .i64 r.1.Den)]), (.int .i64 r.2)]) ∧ HF w W' E0 := by
 unfold F_panel_Use at H
 have leB := Bs.Le.refl w
 refine Tr.enter (n := 23) Try.func21 rfl rfl rfl hE ?_
 refine Tr.sr ?_
 refine Tr.box 1 (cs := [(.int .i64 p0.W), (.int .i64 p0.H), (.int .i64 p0.Rail), (.int .i64 p0.Gap), (.slice Ap0_0 (p0.Kinds).length cp0_0), (.slice Ap0_1 (p0.Slots).length cp0_1), (.slice Ap0_2 (p0.Marks).length cp0_2)]) (wn rfl) rfl rfl rfl fun b100 => ?_
 refine Tr.alloc 2 (wn rfl) rfl ze_51 fun b101 => ?_
 refine Tr.asg rfl rfl ?_
 refine Tr.nil (Tr.normThen ?_)
 refine Tr.sr ?_
 refine Tr.va rfl (fun _ _ h1 h2 => run_loadN (cs := [(.int .i64 p0.W), (.int .i64 p0.H), (.int .i64 p0.Rail), (.int .i64 p0.Gap), (.slice Ap0_0 (p0.Kinds).length cp0_0), (.slice Ap0_1 (p0.Slots).length cp0_1), (.slice Ap0_2 (p0.Marks).length cp0_2)]) ag_26 sz_26 (h1.ev rfl) (CellsAt.take (rdb h2 (vs := [(.int .i64 p0.W), (.int .i64 p0.H), (.int .i64 p0.Rail), (.int .i64 p0.Gap), (.slice Ap0_0 (p0.Kinds).length cp0_0), (.slice Ap0_1 (p0.Slots).length cp0_1), (.slice Ap0_2 (p0.Marks).length cp0_2)]) (k := 1) rfl 0) 7) rfl) ?_
 obtain ⟨y102, hy102, H⟩ := bnd H
 refine Tr.callM [3] [emp] (U := (Option Addr × Nat)) (fun u => (.tuple #[(.slice u.1 (y102.1).length u.2), (.int .i64 y102.2)])) (fun u => SlF u.1 (y102.1).length u.2) (fun u => [ow u.1 u.2 38 fl_TRect y102.1]) rfl (pk_cons rfl pk_nil) (fun _ => rfl) (wn rfl) rfl Try.call25 (evl_cons rfl evl_nil) (fun W hW hp hE => F_panel_open_ok N p0 Ap0_0 cp0_0 (hp0_0.ext (hW.extS hp)) Ap0_1 cp0_1 (hp0_1.ext (hW.extS hp)) Ap0_2 cp0_2 (hp0_2.ext (hW.extS hp)) y102 hy102 hE) ?_
 intro u hu
 obtain ⟨Ay102_0, cy102_0⟩ := u
 have gy102_0 := hu
 have hgy102_0 : SlF Ay102_0 (y102.1).length cy102_0 := gy102_0 --@phi
 show Tr _ _ (uf _ 8 (.tuple #[(.slice Ay102_0 (y102.1).length cy102_0), (.int .i64 y102.2)])) (up _ 3 (ow Ay102_0 cy102_0 38 fl_TRect y102.1)) _
 refine Tr.mv rfl rfl ?_
 refine Tr.va rfl (fun _ _ h1 h2 => run_extract (h1.ev rfl) rfl) ?_
 refine Tr.va rfl (fun _ _ h1 h2 => run_extract (h1.ev rfl) rfl) ?_
 refine Tr.asg rfl rfl ?_
 refine Tr.asg rfl rfl ?_
 refine Tr.nil (Tr.normThen ?_)
 refine Tr.seq ?_
 refine Tr.sr ?_
 refine Tr.mv rfl rfl ?_
 refine Tr.va rfl (fun _ _ h1 h2 => run_neq (h1.ev rfl) (h1.ev rfl)) ?_
 refine Tr.nil (Tr.normThen ?_)
 refine Tr.cond rfl H (fun H => ?_) (fun H => ?_)
 ·refine Tr.sr ?_
  refine Tr.build (vs := []) (cs := [(.int .i64 0), (.int .i64 0)]) (wn rfl) rfl evs_nil (by kernel_rfl) ?_
  refine Tr.mv rfl rfl ?_
  refine Tr.store 2 (cs := [(.int .i64 0), (.int .i64 0)]) [(.int .i64 0), (.int .i64 0)] (wn rfl) rfl rfl rfl rfl sz_51 rfl rfl rfl ?_
  refine Tr.asg rfl rfl ?_
  refine Tr.nil (Tr.normThen ?_)
  refine Tr.ret (Tr.retThen ?_)
  obtain rfl := Option.some.inj H
  exact Tr.out (m := [(.agg #[(.int .i64 0), (.int .i64 0)]), (.int .i64 y102.2)]) [2] (res_cell rfl rfl ag_51 sz_51 (res_tmp rfl res_nil)) (fun W hW => ⟨rfl, hW.low leB⟩)
 ·refine Tr.skip (Tr.normThen ?_)
  refine Tr.seq ?_
  refine Tr.drawTail 7 (by kernel_rfl) (by kernel_rfl) ?_
  refine Tq.mv rfl rfl ?_
  obtain ⟨y104, hy104, H⟩ := bnd H
  refine Tq.call0 (r := (.int .i64 y104)) (wn rfl) rfl Try.call46 (evl_cons rfl evl_nil) (fun W hW => F_shape_AreaOf_ok y102.1 Ay102_0 cy102_0 (hW.slCall (k := 3) rfl) y104 hy104 (HF.start _)) ?_
  refine Tq.va rfl (fun _ _ h1 h2 => run_fieldAddr fo_26_0 (h1.ev rfl)) ?_
  refine Tq.va rfl (fun _ _ h1 h2 => run_load1 ag_3 (h1.ev rfl) (rdb h2 (vs := [(.int .i64 p0.W), (.int .i64 p0.H), (.int .i64 p0.Rail), (.int .i64 p0.Gap), (.slice Ap0_0 (p0.Kinds).length cp0_0), (.slice Ap0_1 (p0.Slots).length cp0_1), (.slice Ap0_2 (p0.Marks).length cp0_2)]) (k := 1) rfl 0) rfl) ?_
  refine Tq.va rfl (fun _ _ h1 h2 => run_fieldAddr fo_26_1 (h1.ev rfl)) ?_
  refine Tq.va rfl (fun _ _ h1 h2 => run_load1 ag_3 (h1.ev rfl) (rdb h2 (vs := [(.int .i64 p0.W), (.int .i64 p0.H), (.int .i64 p0.Rail), (.int .i64 p0.Gap), (.slice Ap0_0 (p0.Kinds).length cp0_0), (.slice Ap0_1 (p0.Slots).length cp0_1), (.slice Ap0_2 (p0.Marks).length cp0_2)]) (k := 1) rfl 1) rfl) ?_
  refine Tq.va rfl (fun _ _ h1 h2 => run_mul (h1.ev rfl) (h1.ev rfl)) ?_
  refine Tq.nil ?_
  obtain ⟨y105, hy105, H⟩ := bnd H
  refine Tr.call0 (r := (.agg #[(.int .i64 y105.Num), (.int .i64 y105.Den)])) (wn rfl) rfl Try.call45 (evl_cons rfl (evl_cons rfl evl_nil)) (fun W hW => F_panel_Lowest_ok N y104 (w64 (p0.W * p0.H)) y105 hy105 (HF.start _)) ?_
  refine Tr.store 2 (cs := [(.int .i64 y105.Num), (.int .i64 y105.Den)]) [(.int .i64 y105.Num), (.int .i64 y105.Den)] (wn rfl) rfl rfl rfl rfl sz_51 rfl rfl rfl ?_
  refine Tr.asg rfl rfl ?_
  refine Tr.nil (Tr.normThen ?_)
  refine Tr.ret ?_
  obtain rfl := Option.some.inj H
  exact Tr.out (m := [(.agg #[(.int .i64 y105.Num), (.int .i64 y105.Den)]), (.int .i64 0)]) [2] (res_cell rfl rfl ag_51 sz_51 (res_tmp rfl res_nil)) (fun W hW => ⟨rfl, hW.low leB⟩)

theorem F_etchhouseref1_AreaOf_ok (N : Nat) {w : Bs} (p0 : (List TRect)) (Ap0_0 : Option Addr) (cp0_0 : Nat) (hp0_0 : Sl w.R w.W fl_TRect Ap0_0 cp0_0 p0) (r : Int) (H : F_etchhouseref1_AreaOf N p0 = some r) (hE : HF w w.W E0) : Calls Try.prog 47 [(.slice Ap0_0 (p0).length cp0_0)].toArray w.W fun e W' => e = .returned (.int .i64 r) ∧ HF w W' E0 := by
 unfold F_etchhouseref1_AreaOf at H
 have leB := Bs.Le.refl w
 refine Tr.enter (n := 37) Try.func47 rfl rfl rfl hE ?_
 refine Tr.sr ?_
 refine Tr.asg rfl rfl ?_
 refine Tr.nil (Tr.normThen ?_)
 refine Tr.sr ?_
 refine Tr.asg rfl rfl ?_
 refine Tr.nil (Tr.normThen ?_)
 refine Tr.seq ?_
 refine Tr.sr ?_
 refine Tr.asg rfl rfl ?_
 refine Tr.nil (Tr.normThen ?_)
 refine Tr.block ?_
 refine Tr.loop (σ := Int × Int) (fun m w s => F_etchhouseref1_AreaOf_L1 p0 m s.1 s.2 = some r) (fun s => [(0, (.slice Ap0_0 (p0).length cp0_0)), (3, (.int .i64 s.1)), (4, (.int .i64 s.2))]) (fun s => []) N (0, 0) H (.cons rfl (.cons rfl (.cons rfl .nil))) .nil (fun _ _ h => noSome (h)) ?_
 intro w leF_etchhouseref1_AreaOf_L1 mF_etchhouseref1_AreaOf_L1 s hs
 obtain ⟨x114, x115⟩ := s
 have H := hs
 replace H : F_etchhouseref1_AreaOf_L1 p0 (mF_etchhouseref1_AreaOf_L1 + 1) x114 x115 = some r := H
 replace hp0_0 := hp0_0.leR leF_etchhouseref1_AreaOf_L1
 replace leB := leB.trans leF_etchhouseref1_AreaOf_L1
 rw [F_etchhouseref1_AreaOf_L1.eq_2] at H
 show Tr _ _ (LF [(0, (.slice Ap0_0 (p0).length cp0_0)), (3, (.int .i64 x114)), (4, (.int .i64 x115))]) (LE []) _
 refine Tr.seq ?_
 refine Tr.sr ?_
 refine Tr.mv rfl rfl ?_
 refine Tr.mv rfl rfl ?_
 refine Tr.va rfl (fun _ _ h1 h2 => run_len un_32 (h1.ev rfl)) ?_
 refine Tr.va rfl (fun _ _ h1 h2 => run_lss (h1.ev rfl) (h1.ev rfl)) ?_
 refine Tr.nil (Tr.normThen ?_)
 refine Tr.cond rfl H (fun H => ?_) (fun H => ?_)
 ·refine Tr.skip (Tr.normThen ?_)
  refine Tr.seq ?_
  refine Tr.block ?_
  refine Tr.draw (by kernel_rfl) (by kernel_rfl) ?_
  refine Tq.mv rfl rfl ?_
  refine Tq.mv rfl rfl ?_
  refine Tq.mv rfl rfl ?_
  obtain ⟨x116, hx116, H⟩ := bnd H
  obtain ⟨hx1160, hx1161, hx1162⟩ := idx_some hx116
  refine Tq.va rfl (fun _ _ h1 h2 => run_indexAddr el_32 (h1.ev rfl) hp0_0.form (h1.ev rfl) hx1160 hx1161) ?_
  refine Tq.va rfl (fun _ _ h1 h2 => run_fieldAddr fo_38_2 (h1.ev rfl)) ?_
  refine Tq.va rfl (fun _ _ h1 h2 => run_load1 ag_3 (h1.ev rfl) (CellsAt.drop (rdF ef_TRect hp0_0 hx1162 h2) 2) rfl) ?_
  refine Tq.mv rfl rfl ?_
  refine Tq.mv rfl rfl ?_
  obtain ⟨x117, hx117, H⟩ := bnd H
  obtain ⟨hx1170, hx1171, hx1172⟩ := idx_some hx117
  refine Tq.va rfl (fun _ _ h1 h2 => run_indexAddr el_32 (h1.ev rfl) hp0_0.form (h1.ev rfl) hx1170 hx1171) ?_
  refine Tq.va rfl (fun _ _ h1 h2 => run_fieldAddr fo_38_0 (h1.ev rfl)) ?_
  refine Tq.va rfl (fun _ _ h1 h2 => run_load1 ag_3 (h1.ev rfl) (CellsAt.drop (rdF ef_TRect hp0_0 hx1172 h2) 0) rfl) ?_
  refine Tq.va rfl (fun _ _ h1 h2 => run_sub (h1.ev rfl) (h1.ev rfl)) ?_
  refine Tq.mv rfl rfl ?_
  refine Tq.mv rfl rfl ?_
  obtain ⟨x118, hx118, H⟩ := bnd H
  obtain ⟨hx1180, hx1181, hx1182⟩ := idx_some hx118
  refine Tq.va rfl (fun _ _ h1 h2 => run_indexAddr el_32 (h1.ev rfl) hp0_0.form (h1.ev rfl) hx1180 hx1181) ?_
  refine Tq.va rfl (fun _ _ h1 h2 => run_fieldAddr fo_38_3 (h1.ev rfl)) ?_
  refine Tq.va rfl (fun _ _ h1 h2 => run_load1 ag_3 (h1.ev rfl) (CellsAt.drop (rdF ef_TRect hp0_0 hx1182 h2) 3) rfl) ?_
  refine Tq.mv rfl rfl ?_
  refine Tq.mv rfl rfl ?_
  obtain ⟨x119, hx119, H⟩ := bnd H
  obtain ⟨hx1190, hx1191, hx1192⟩ := idx_some hx119
  refine Tq.va rfl (fun _ _ h1 h2 => run_indexAddr el_32 (h1.ev rfl) hp0_0.form (h1.ev rfl) hx1190 hx1191) ?_
  refine Tq.va rfl (fun _ _ h1 h2 => run_fieldAddr fo_38_1 (h1.ev rfl)) ?_
  refine Tq.va rfl (fun _ _ h1 h2 => run_load1 ag_3 (h1.ev rfl) (CellsAt.drop (rdF ef_TRect hp0_0 hx1192 h2) 1) rfl) ?_
  refine Tq.va rfl (fun _ _ h1 h2 => run_sub (h1.ev rfl) (h1.ev rfl)) ?_
  refine Tq.va rfl (fun _ _ h1 h2 => run_mul (h1.ev rfl) (h1.ev rfl)) ?_
  refine Tq.va rfl (fun _ _ h1 h2 => run_add (h1.ev rfl) (h1.ev rfl)) ?_
  refine Tq.asg rfl rfl ?_
  refine Tq.nil (Tr.normBlock (Tr.normThen ?_))
  refine Tr.region ?_
  refine Tr.mv rfl rfl ?_
  refine Tr.va rfl (fun _ _ h1 h2 => run_add (h1.ev rfl) (h1.ev rfl)) ?_
  refine Tr.asg rfl rfl ?_
  refine Tr.nil ?_
  exact Tr.backThen leF_etchhouseref1_AreaOf_L1 ((w64 (x114 + (w64 ((w64 (x116.X1 - x117.X0)) * (w64 (x118.Y1 - x119.Y0)))))), (w64 (x115 + 1))) H (.cons rfl (.cons rfl (.cons rfl .nil))) .nil
 ·refine Tr.exit (Tr.exitThen (Tr.exitThen (Tr.exitBlock (Tr.normThen ?_))))
  refine Tr.sr ?_
  refine Tr.mv rfl rfl ?_
  refine Tr.asg rfl rfl ?_
  refine Tr.nil (Tr.normThen ?_)
  refine Tr.ret ?_
  obtain rfl := Option.some.inj H
  exact Tr.out (m := [(.int .i64 x114)]) [] (res_tmp rfl res_nil) (fun W hW => ⟨rfl, hW.low leB⟩)

theorem F_etchhouseref9_common_ok (N : Nat) {w : Bs} (p0 : Int) (p1 : Int) (r : Int) (H : F_etchhouseref9_common N p0 p1 = some r) (hE : HF w w.W E0) : Calls Try.prog 48 [(.int .i64 p0), (.int .i64 p1)].toArray w.W fun e W' => e = .returned (.int .i64 r) ∧ HF w W' E0 := by
 unfold F_etchhouseref9_common at H
 have leB := Bs.Le.refl w
 refine Tr.enter (n := 12) Try.func48 rfl rfl rfl hE ?_
 refine Tr.sr ?_
 refine Tr.asg rfl rfl ?_
 refine Tr.nil (Tr.normThen ?_)
 refine Tr.seq ?_
 refine Tr.block ?_
 refine Tr.loop (σ := Int × Int) (fun m w s => F_etchhouseref9_common_L1 m s.1 s.2 = some r) (fun s => [(0, (.int .i64 s.1)), (1, (.int .i64 s.2))]) (fun s => []) N (p0, p1) H (.cons rfl (.cons rfl .nil)) .nil (fun _ _ h => noSome (h)) ?_
 intro w leF_etchhouseref9_common_L1 mF_etchhouseref9_common_L1 s hs
 obtain ⟨x108, x109⟩ := s
 have H := hs
 replace H : F_etchhouseref9_common_L1 (mF_etchhouseref9_common_L1 + 1) x108 x109 = some r := H
 replace leB := leB.trans leF_etchhouseref9_common_L1
 rw [F_etchhouseref9_common_L1.eq_2] at H
 show Tr _ _ (LF [(0, (.int .i64 x108)), (1, (.int .i64 x109))]) (LE []) _
 refine Tr.seq ?_
 refine Tr.sr ?_
 refine Tr.mv rfl rfl ?_
 refine Tr.va rfl (fun _ _ h1 h2 => run_neq (h1.ev rfl) (h1.ev rfl)) ?_
 refine Tr.nil (Tr.normThen ?_)
 refine Tr.cond rfl H (fun H => ?_) (fun H => ?_)
 ·refine Tr.skip (Tr.normThen ?_)
  refine Tr.block ?_
  refine Tr.draw (by kernel_rfl) (by kernel_rfl) ?_
  refine Tq.mv rfl rfl ?_
  refine Tq.mv rfl rfl ?_
  refine Tq.mv rfl rfl ?_
  obtain ⟨q110, hq110, H⟩ := bnd H
  refine Tq.va rfl (fun _ _ h1 h2 => run_md (h1.ev rfl) (h1.ev rfl) hq110) ?_
  refine Tq.asg rfl rfl ?_
  refine Tq.asg rfl rfl ?_
  refine Tq.nil (Tr.normBlock ?_)
  exact Tr.backThen leF_etchhouseref9_common_L1 (x109, q110) H (.cons rfl (.cons rfl .nil)) .nil
 ·refine Tr.exit (Tr.exitThen (Tr.exitThen (Tr.exitBlock (Tr.normThen ?_))))
  refine Tr.sr ?_
  refine Tr.mv rfl rfl ?_
  refine Tr.asg rfl rfl ?_
  refine Tr.nil (Tr.normThen ?_)
  refine Tr.ret ?_
  obtain rfl := Option.some.inj H
  exact Tr.out (m := [(.int .i64 x108)]) [] (res_tmp rfl res_nil) (fun W hW => ⟨rfl, hW.low leB⟩)

theorem F_etchhouseref9_Use_ok (N : Nat) {w : Bs} (p0 : TPanel) (Ap0_0 : Option Addr) (cp0_0 : Nat) (hp0_0 : Sl w.R w.W fl_TBoardKind Ap0_0 cp0_0 p0.Kinds) (Ap0_1 : Option Addr) (cp0_1 : Nat) (hp0_1 : Sl w.R w.W fl_TSlot Ap0_1 cp0_1 p0.Slots) (Ap0_2 : Option Addr) (cp0_2 : Nat) (hp0_2 : Sl w.R w.W fl_TPoint Ap0_2 cp0_2 p0.Marks) (r : (TShare × Int)) (H : F_etchhouseref9_Use N p0 = some r) (hE : HF w w.W E0) : Calls Try.prog 22 [(.agg #[(.int .i64 p0.W), (.int .i64 p0.H), (.int .i64 p0.Rail), (.int .i64 p0.Gap), (.slice Ap0_0 (p0.Kinds).length cp0_0), (.slice Ap0_1 (p0.Slots).length cp0_1), (.slice Ap0_2 (p0.Marks).length cp0_2)])].toArray w.W fun e W' => e = .returned (.tuple #[(.agg #[(.int .i64 r.1.Num), (.int .i64 r.1.Den)]), (.int .i64 r.2)]) ∧ HF w W' E0 := by
 unfold F_etchhouseref9_Use at H
 have leB := Bs.Le.refl w
 refine Tr.enter (n := 34) Try.func22 rfl rfl rfl hE ?_
 refine Tr.sr ?_
 refine Tr.box 1 (cs := [(.int .i64 p0.W), (.int .i64 p0.H), (.int .i64 p0.Rail), (.int .i64 p0.Gap), (.slice Ap0_0 (p0.Kinds).length cp0_0), (.slice Ap0_1 (p0.Slots).length cp0_1), (.slice Ap0_2 (p0.Marks).length cp0_2)]) (wn rfl) rfl rfl rfl fun b100 => ?_
 refine Tr.alloc 2 (wn rfl) rfl ze_51 fun b101 => ?_
 refine Tr.asg rfl rfl ?_
 refine Tr.nil (Tr.normThen ?_)
 refine Tr.seq ?_
 refine Tr.sr ?_
 refine Tr.va rfl (fun _ _ h1 h2 => run_loadN (cs := [(.int .i64 p0.W), (.int .i64 p0.H), (.int .i64 p0.Rail), (.int .i64 p0.Gap), (.slice Ap0_0 (p0.Kinds).length cp0_0), (.slice Ap0_1 (p0.Slots).length cp0_1), (.slice Ap0_2 (p0.Marks).length cp0_2)]) ag_26 sz_26 (h1.ev rfl) (CellsAt.take (rdb h2 (vs := [(.int .i64 p0.W), (.int .i64 p0.H), (.int .i64 p0.Rail), (.int .i64 p0.Gap), (.slice Ap0_0 (p0.Kinds).length cp0_0), (.slice Ap0_1 (p0.Slots).length cp0_1), (.slice Ap0_2 (p0.Marks).length cp0_2)]) (k := 1) rfl 0) 7) rfl) ?_
 obtain ⟨y102, hy102, H⟩ := bnd H
 refine Tr.call0 (r := (.int .i64 y102)) (wn rfl) rfl Try.call19 (evl_cons rfl evl_nil) (fun W hW => F_etchhouseref9_CheckPanel_ok N p0 Ap0_0 cp0_0 (hp0_0.ext hW.extAll) Ap0_1 cp0_1 (hp0_1.ext hW.extAll) Ap0_2 cp0_2 (hp0_2.ext hW.extAll) y102 hy102 (HF.start _)) ?_
 refine Tr.asg rfl rfl ?_
 refine Tr.nil (Tr.normThen ?_)
 refine Tr.sr ?_
 refine Tr.mv rfl rfl ?_
 refine Tr.va rfl (fun _ _ h1 h2 => run_neq (h1.ev rfl) (h1.ev rfl)) ?_
 refine Tr.nil (Tr.normThen ?_)
 refine Tr.cond rfl H (fun H => ?_) (fun H => ?_)
 ·refine Tr.sr ?_
  refine Tr.build (vs := []) (cs := [(.int .i64 0), (.int .i64 0)]) (wn rfl) rfl evs_nil (by kernel_rfl) ?_
  refine Tr.mv rfl rfl ?_
  refine Tr.store 2 (cs := [(.int .i64 0), (.int .i64 0)]) [(.int .i64 0), (.int .i64 0)] (wn rfl) rfl rfl rfl rfl sz_51 rfl rfl rfl ?_
  refine Tr.asg rfl rfl ?_
  refine Tr.nil (Tr.normThen ?_)
  refine Tr.ret (Tr.retThen ?_)
  obtain rfl := Option.some.inj H
  exact Tr.out (m := [(.agg #[(.int .i64 0), (.int .i64 0)]), (.int .i64 y102)]) [2] (res_cell rfl rfl ag_51 sz_51 (res_tmp rfl res_nil)) (fun W hW => ⟨rfl, hW.low leB⟩)
 ·refine Tr.skip (Tr.normThen ?_)
  refine Tr.sr ?_
  refine Tr.va rfl (fun _ _ h1 h2 => run_loadN (cs := [(.int .i64 p0.W), (.int .i64 p0.H), (.int .i64 p0.Rail), (.int .i64 p0.Gap), (.slice Ap0_0 (p0.Kinds).length cp0_0), (.slice Ap0_1 (p0.Slots).length cp0_1), (.slice Ap0_2 (p0.Marks).length cp0_2)]) ag_26 sz_26 (h1.ev rfl) (CellsAt.take (rdb h2 (vs := [(.int .i64 p0.W), (.int .i64 p0.H), (.int .i64 p0.Rail), (.int .i64 p0.Gap), (.slice Ap0_0 (p0.Kinds).length cp0_0), (.slice Ap0_1 (p0.Slots).length cp0_1), (.slice Ap0_2 (p0.Marks).length cp0_2)]) (k := 1) rfl 0) 7) rfl) ?_
  obtain ⟨y103, hy103, H⟩ := bnd H
  refine Tr.callM [3] [emp] (U := (Option Addr × Nat)) (fun u => (.slice u.1 (y103).length u.2)) (fun u => SlF u.1 (y103).length u.2) (fun u => [ow u.1 u.2 38 fl_TRect y103]) rfl (pk_cons rfl pk_nil) (fun _ => rfl) (wn rfl) rfl Try.call34 (evl_cons rfl evl_nil) (fun W hW hp hE => F_etchhouseref9_cells_ok N p0 Ap0_0 cp0_0 (hp0_0.ext (hW.extS hp)) Ap0_1 cp0_1 (hp0_1.ext (hW.extS hp)) Ap0_2 cp0_2 (hp0_2.ext (hW.extS hp)) y103 hy103 hE) ?_
  intro u hu
  obtain ⟨Ay103_0, cy103_0⟩ := u
  have gy103_0 := hu
  have hgy103_0 : SlF Ay103_0 (y103).length cy103_0 := gy103_0 --@phi
  show Tr _ _ (uf _ 14 (.slice Ay103_0 (y103).length cy103_0)) (up _ 3 (ow Ay103_0 cy103_0 38 fl_TRect y103)) _
  obtain ⟨y105, hy105, H⟩ := bnd H
  refine Tr.call0 (r := (.int .i64 y105)) (wn rfl) rfl Try.call47 (evl_cons rfl evl_nil) (fun W hW => F_etchhouseref1_AreaOf_ok N y103 Ay103_0 cy103_0 (hW.slCall (k := 3) rfl) y105 hy105 (HF.start _)) ?_
  refine Tr.asg rfl rfl ?_
  refine Tr.nil (Tr.normThen ?_)
  refine Tr.sr ?_
  refine Tr.mv rfl rfl ?_
  refine Tr.va rfl (fun _ _ h1 h2 => run_fieldAddr fo_26_0 (h1.ev rfl)) ?_
  refine Tr.va rfl (fun _ _ h1 h2 => run_load1 ag_3 (h1.ev rfl) (rdb h2 (vs := [(.int .i64 p0.W), (.int .i64 p0.H), (.int .i64 p0.Rail), (.int .i64 p0.Gap), (.slice Ap0_0 (p0.Kinds).length cp0_0), (.slice Ap0_1 (p0.Slots).length cp0_1), (.slice Ap0_2 (p0.Marks).length cp0_2)]) (k := 1) rfl 0) rfl) ?_
  refine Tr.va rfl (fun _ _ h1 h2 => run_fieldAddr fo_26_1 (h1.ev rfl)) ?_
  refine Tr.va rfl (fun _ _ h1 h2 => run_load1 ag_3 (h1.ev rfl) (rdb h2 (vs := [(.int .i64 p0.W), (.int .i64 p0.H), (.int .i64 p0.Rail), (.int .i64 p0.Gap), (.slice Ap0_0 (p0.Kinds).length cp0_0), (.slice Ap0_1 (p0.Slots).length cp0_1), (.slice Ap0_2 (p0.Marks).length cp0_2)]) (k := 1) rfl 1) rfl) ?_
  refine Tr.va rfl (fun _ _ h1 h2 => run_mul (h1.ev rfl) (h1.ev rfl)) ?_
  obtain ⟨y106, hy106, H⟩ := bnd H
  refine Tr.call0 (r := (.int .i64 y106)) (wn rfl) rfl Try.call48 (evl_cons rfl (evl_cons rfl evl_nil)) (fun W hW => F_etchhouseref9_common_ok N y105 (w64 (p0.W * p0.H)) y106 hy106 (HF.start _)) ?_
  refine Tr.asg rfl rfl ?_
  refine Tr.nil (Tr.normThen ?_)
  refine Tr.seq ?_
  refine Tr.drawTail 10 (by kernel_rfl) (by kernel_rfl) ?_
  refine Tq.mv rfl rfl ?_
  refine Tq.mv rfl rfl ?_
  obtain ⟨q107, hq107, H⟩ := bnd H
  refine Tq.va rfl (fun _ _ h1 h2 => run_dv (h1.ev rfl) (h1.ev rfl) hq107) ?_
  refine Tq.va rfl (fun _ _ h1 h2 => run_fieldAddr fo_26_0 (h1.ev rfl)) ?_
  refine Tq.va rfl (fun _ _ h1 h2 => run_load1 ag_3 (h1.ev rfl) (rdb h2 (vs := [(.int .i64 p0.W), (.int .i64 p0.H), (.int .i64 p0.Rail), (.int .i64 p0.Gap), (.slice Ap0_0 (p0.Kinds).length cp0_0), (.slice Ap0_1 (p0.Slots).length cp0_1), (.slice Ap0_2 (p0.Marks).length cp0_2)]) (k := 1) rfl 0) rfl) ?_
  refine Tq.va rfl (fun _ _ h1 h2 => run_fieldAddr fo_26_1 (h1.ev rfl)) ?_
  refine Tq.va rfl (fun _ _ h1 h2 => run_load1 ag_3 (h1.ev rfl) (rdb h2 (vs := [(.int .i64 p0.W), (.int .i64 p0.H), (.int .i64 p0.Rail), (.int .i64 p0.Gap), (.slice Ap0_0 (p0.Kinds).length cp0_0), (.slice Ap0_1 (p0.Slots).length cp0_1), (.slice Ap0_2 (p0.Marks).length cp0_2)]) (k := 1) rfl 1) rfl) ?_
  refine Tq.va rfl (fun _ _ h1 h2 => run_mul (h1.ev rfl) (h1.ev rfl)) ?_
  refine Tq.mv rfl rfl ?_
  obtain ⟨q108, hq108, H⟩ := bnd H
  refine Tq.va rfl (fun _ _ h1 h2 => run_dv (h1.ev rfl) (h1.ev rfl) hq108) ?_
  refine Tq.nil ?_
  refine Tr.build (vs := [(0, (.int .i64 q107)), (1, (.int .i64 q108))]) (cs := [(.int .i64 q107), (.int .i64 q108)]) (wn rfl) rfl (evs_cons rfl (evs_cons rfl evs_nil)) (by kernel_rfl) ?_
  refine Tr.store 2 (cs := [(.int .i64 q107), (.int .i64 q108)]) [(.int .i64 q107), (.int .i64 q108)] (wn rfl) rfl rfl rfl rfl sz_51 rfl rfl rfl ?_
  refine Tr.asg rfl rfl ?_
  refine Tr.nil (Tr.normThen ?_)
  refine Tr.ret ?_
  obtain rfl := Option.some.inj H
  exact Tr.out (m := [(.agg #[(.int .i64 q107), (.int .i64 q108)]), (.int .i64 0)]) [2] (res_cell rfl rfl ag_51 sz_51 (res_tmp rfl res_nil)) (fun W hW => ⟨rfl, hW.low leB⟩)

theorem F_slices_Sort_int_ok {w : Bs} (p0 : List Int) (Ap0_0 : Option Addr) (cp0_0 : Nat) (r : List Int) (H : srtI p0 = some r) (hE : HF w w.W (LEn [ow Ap0_0 cp0_0 3 fl_i64 p0])) : Calls Try.prog 29 [(.slice Ap0_0 (p0).length cp0_0)].toArray w.W fun e W' => ∃ u : Unit, e = .returned (.tuple #[]) ∧ ((r).length = (p0).length) ∧ HF w W' (LEn [ow Ap0_0 cp0_0 3 fl_i64 r]) :=
 sortI_rule (ρ := Try.sort29_ren) Try.sort29 rfl ef_i64 tr_i64 () H hE

theorem F_panel_Order_1_ok {w : Bs} (p0 : Int) (p1 : Int) (q0 : (List TRect)) (Aq0_0 : Option Addr) (cq0_0 : Nat) (hq0_0 : Sl w.R w.W fl_TRect Aq0_0 cq0_0 q0) (bq0 : Nat) (hb0 : w.R bq0) (hc0 : CellsAt w.W bq0 0 [(.slice Aq0_0 (q0).length cq0_0)]) (r : Int) (H : F_panel_Order_1 p0 p1 q0 = some r) (hE : HF w w.W E0) : Calls Try.prog 38 [(.int .i64 p0), (.int .i64 p1), (.pointer (some ⟨bq0, 0, none⟩))].toArray w.W fun e W' => e = .returned (.int .i64 r) ∧ HF w W' E0 := by
 unfold F_panel_Order_1 at H
 have leB := Bs.Le.refl w
 refine Tr.enter (n := 17) Try.func38 rfl rfl rfl hE ?_
 refine Tr.sr ?_
 refine Tr.asg rfl rfl ?_
 refine Tr.nil (Tr.normThen ?_)
 refine Tr.seq ?_
 refine Tr.draw (by kernel_rfl) (by kernel_rfl) ?_
 refine Tq.va rfl (fun _ _ h1 h2 => run_load1 ag_32 (h1.ev rfl) (rdR hb0 hc0 h2) rfl) ?_
 refine Tq.mv rfl rfl ?_
 obtain ⟨x100, hx100, H⟩ := bnd H
 obtain ⟨hx1000, hx1001, hx1002⟩ := idx_some hx100
 refine Tq.va rfl (fun _ _ h1 h2 => run_indexAddr el_32 (h1.ev rfl) hq0_0.form (h1.ev rfl) hx1000 hx1001) ?_
 refine Tq.va rfl (fun _ _ h1 h2 => run_fieldAddr fo_38_0 (h1.ev rfl)) ?_
 refine Tq.va rfl (fun _ _ h1 h2 => run_load1 ag_3 (h1.ev rfl) (CellsAt.drop (rdF ef_TRect hq0_0 hx1002 h2) 0) rfl) ?_
 refine Tq.va rfl (fun _ _ h1 h2 => run_load1 ag_32 (h1.ev rfl) (rdR hb0 hc0 h2) rfl) ?_
 refine Tq.mv rfl rfl ?_
 obtain ⟨x101, hx101, H⟩ := bnd H
 obtain ⟨hx1010, hx1011, hx1012⟩ := idx_some hx101
 refine Tq.va rfl (fun _ _ h1 h2 => run_indexAddr el_32 (h1.ev rfl) hq0_0.form (h1.ev rfl) hx1010 hx1011) ?_
 refine Tq.va rfl (fun _ _ h1 h2 => run_fieldAddr fo_38_0 (h1.ev rfl)) ?_
 refine Tq.va rfl (fun _ _ h1 h2 => run_load1 ag_3 (h1.ev rfl) (CellsAt.drop (rdF ef_TRect hq0_0 hx1012 h2) 0) rfl) ?_
 refine Tq.va rfl (fun _ _ h1 h2 => run_sub (h1.ev rfl) (h1.ev rfl)) ?_
 refine Tq.asg rfl rfl ?_
 refine Tq.nil (Tr.normThen ?_)
 refine Tr.ret ?_
 obtain rfl := Option.some.inj H
 exact Tr.out (m := [(.int .i64 (w64 (x100.X0 - x101.X0)))]) [] (res_tmp rfl res_nil) (fun W hW => ⟨rfl, hW.low leB⟩)

theorem F_slices_SortFunc_i64_ok {w : Bs} (p0 : List Int) (Ap0_0 : Option Addr) (cp0_0 : Nat) (p1 : Int → Int → Option Int) (fid1 : Nat) (cap1 : List Value) (hg1 : ∀ args W, (callFunc fid1 args).run Try.prog W = .ok (.enter fid1 args) W) (hf1 : ∀ (w' : Bs), w.Ext w' → ∀ (z0 : Int) (z1 : Int), ∀ y, p1 z0 z1 = some y → Calls Try.prog fid1 (([(.int .i64 z0), (.int .i64 z1)] : List Value) ++ cap1).toArray w'.W fun e W'' => e = .returned (.int .i64 y) ∧ HF w' W'' E0) (r : List Int) (H : srtF p0 p1 = some r) (hE : HF w w.W (LEn [ow Ap0_0 cp0_0 3 fl_i64 p0])) : Calls Try.prog 37 [(.slice Ap0_0 (p0).length cp0_0), (.func (.func fid1) #[] cap1.toArray)].toArray w.W fun e W' => ∃ u : Unit, e = .returned (.tuple #[]) ∧ ((r).length = (p0).length) ∧ HF w W' (LEn [ow Ap0_0 cp0_0 3 fl_i64 r]) :=
 sortFuncI_rule (ρ := Try.srt37_ren) Try.srt37 rfl ef_i64 tr_i64 () hg1 hf1 H hE

theorem F_slices_Reverse_int_ok (N : Nat) {w : Bs} (p0 : (List Int)) (Ap0_0 : Option Addr) (cp0_0 : Nat) (r : (List Int)) (H : F_slices_Reverse_int N p0 = some r) (hE : HF w w.W (LEn [ow Ap0_0 cp0_0 3 fl_i64 p0])) : Calls Try.prog 39 [(.slice Ap0_0 (p0).length cp0_0)].toArray w.W fun e W' => ∃ u : Unit, e = .returned (.tuple #[]) ∧ ((r).length = (p0).length) ∧ HF w W' (LEn [ow Ap0_0 cp0_0 3 fl_i64 r]) := by
 unfold F_slices_Reverse_int at H
 have hfhp0_0 := (hE.sl (k := 0) rfl).form
 have leB := Bs.Le.refl w
 refine Tr.enter (n := 28) Try.func39 rfl rfl rfl hE ?_
 refine Tr.sr ?_
 refine Tr.mv rfl rfl ?_
 refine Tr.va rfl (fun _ _ h1 h2 => run_len un_44 (h1.ev rfl)) ?_
 refine Tr.va rfl (fun _ _ h1 h2 => run_sub (h1.ev rfl) (h1.ev rfl)) ?_
 refine Tr.asg rfl rfl ?_
 refine Tr.asg rfl rfl ?_
 refine Tr.nil (Tr.normThen ?_)
 refine Tr.block ?_
 refine Tr.loop (σ := (List Int) × Int × Int) (fun m w s => F_slices_Reverse_int_L1 m s.1 s.2.1 s.2.2 = some r ∧ (s.1).length = (p0).length) (fun s => [(0, (.slice Ap0_0 (s.1).length cp0_0)), (2, (.int .i64 s.2.1)), (3, (.int .i64 s.2.2))]) (fun s => [(0, ow Ap0_0 cp0_0 3 fl_i64 s.1)]) N (p0, 0, (w64 ((p0.length : Int) - 1))) ⟨H, rfl⟩ (.cons rfl (.cons rfl (.cons rfl .nil))) (.cons rfl .nil) (fun _ _ h => noSome (h.1)) ?_
 intro w leF_slices_Reverse_int_L1 mF_slices_Reverse_int_L1 s hs
 obtain ⟨l123, x124, x125⟩ := s
 obtain ⟨H, hl123⟩ := hs
 replace H : F_slices_Reverse_int_L1 (mF_slices_Reverse_int_L1 + 1) l123 x124 x125 = some r := H
 replace leB := leB.trans leF_slices_Reverse_int_L1
 replace hl123 : (l123).length = (p0).length := hl123
 have hfl123 : SlF Ap0_0 (l123).length cp0_0 := (by rw [hl123]; exact hfhp0_0)
 rw [F_slices_Reverse_int_L1.eq_2] at H
 show Tr _ _ (LF [(0, (.slice Ap0_0 (l123).length cp0_0)), (2, (.int .i64 x124)), (3, (.int .i64 x125))]) (LE [(0, ow Ap0_0 cp0_0 3 fl_i64 l123)]) _
 refine Tr.seq ?_
 refine Tr.sr ?_
 refine Tr.mv rfl rfl ?_
 refine Tr.mv rfl rfl ?_
 refine Tr.va rfl (fun _ _ h1 h2 => run_lss (h1.ev rfl) (h1.ev rfl)) ?_
 refine Tr.nil (Tr.normThen ?_)
 refine Tr.cond rfl H (fun H => ?_) (fun H => ?_)
 ·refine Tr.skip (Tr.normThen ?_)
  refine Tr.seq ?_
  refine Tr.block ?_
  refine Tr.drawC 14 [(13, (ow Ap0_0 cp0_0 3 fl_i64 l123).S)] [] (by kernel_rfl) (by kernel_rfl) fun sz126 hlosz126 hEsz126 => ?_
  refine Dr.quiet 0 [(14, (.slice Ap0_0 (l123).length cp0_0))] (by kernel_rfl) rfl rfl (by kernel_rfl) ?_ rfl rfl ?_
  ·refine Tq.mv rfl rfl ?_
   exact Tq.fin (.cons rfl .nil)
  refine Dr.quiet 1 [(15, (.int .i64 x124))] (by kernel_rfl) rfl rfl (by kernel_rfl) ?_ rfl rfl ?_
  ·refine Tq.mv rfl rfl ?_
   exact Tq.fin (.cons rfl .nil)
  refine Dr.quietP 2 (by kernel_rfl) rfl (wn rfl) rfl (by kernel_rfl) (fun _ _ h1 => run_move (h1.ev rfl)) rfl ?_
  refine Dr.quietP 3 (by kernel_rfl) rfl (wn rfl) rfl (by kernel_rfl) (fun _ _ h1 => run_move (h1.ev rfl)) rfl ?_
  refine Dr.quiet 4 [(18, (.slice Ap0_0 (l123).length cp0_0))] (by kernel_rfl) rfl rfl (by kernel_rfl) ?_ rfl rfl ?_
  ·refine Tq.mv rfl rfl ?_
   exact Tq.fin (.cons rfl .nil)
  refine Dr.quiet 5 [(19, (.int .i64 x125))] (by kernel_rfl) rfl rfl (by kernel_rfl) ?_ rfl rfl ?_
  ·refine Tq.mv rfl rfl ?_
   exact Tq.fin (.cons rfl .nil)
  obtain ⟨x127, hx127, H⟩ := bnd H
  obtain ⟨hx1270, hx1271, hx1272⟩ := idx_some hx127
  refine Dr.quiet 6 [(20, (.pointer (some ⟨adB Ap0_0, adO Ap0_0 + (x125).toNat * 1, none⟩)))] (by kernel_rfl) rfl rfl (by kernel_rfl) ?_ rfl rfl ?_
  ·refine Tq.va rfl (fun _ _ h1 h2 => run_indexAddr el_44 (h1.ev rfl) hfl123 (h1.ev rfl) hx1270 hx1271) ?_
   exact Tq.fin (.cons rfl .nil)
  refine Dr.quiet 7 [(21, (.int .i64 x127))] (by kernel_rfl) rfl rfl (by kernel_rfl) ?_ rfl rfl ?_
  ·refine Tq.va rfl (fun _ _ h1 h2 => run_load1 ag_3 (h1.ev rfl) (rdo ef_i64 (k := 0) h2 rfl hx1272) rfl) ?_
   exact Tq.fin (.cons rfl .nil)
  refine Dr.quietP 8 (by kernel_rfl) rfl (wn rfl) rfl (by kernel_rfl) (fun _ _ h1 => run_move (h1.ev rfl)) rfl ?_
  refine Dr.quietP 9 (by kernel_rfl) rfl (wn rfl) rfl (by kernel_rfl) (fun _ _ h1 => run_move (h1.ev rfl)) rfl ?_
  obtain ⟨x128, hx128, H⟩ := bnd H
  obtain ⟨hx1280, hx1281, hx1282⟩ := idx_some hx128
  refine Dr.quietP 10 (by kernel_rfl) rfl (wn rfl) rfl (by kernel_rfl) (fun _ _ h1 => run_indexAddr el_44 (h1.ev rfl) hfl123 (h1.ev rfl) hx1280 hx1281) rfl ?_
  refine Dr.quiet 11 [(25, (.int .i64 x128))] (by kernel_rfl) rfl rfl (by kernel_rfl) ?_ rfl rfl ?_
  ·refine Tq.va rfl (fun _ _ h1 h2 => run_load1 ag_3 (h1.ev rfl) (rdo ef_i64 (k := 0) h2 rfl hx1282) rfl) ?_
   exact Tq.fin (.cons rfl .nil)
  obtain ⟨x129, hx129, H⟩ := bnd H
  obtain ⟨hx1290, hx1291, hx1292⟩ := idx_some hx129
  refine Dr.quiet 12 [(26, (.pointer (some ⟨adB Ap0_0, adO Ap0_0 + (x124).toNat * 1, none⟩)))] (by kernel_rfl) rfl rfl (by kernel_rfl) ?_ rfl rfl ?_
  ·refine Tq.va rfl (fun _ _ h1 h2 => run_indexAddr el_44 (h1.ev rfl) hfl123 (h1.ev rfl) hx1290 hx1291) ?_
   exact Tq.fin (.cons rfl .nil)
  obtain ⟨l130, hl130, H⟩ := bnd H
  refine Dr.one 13 (by kernel_rfl) ?_
  have hnl130 := sets_len hl130
  refine St.storeEl 13 0 (t' := fl_i64) (ll := l123) (ix := x124) (fo := 0) (cs := [(.int .i64 x127)]) x127 (fun b hb => .inl ⟨_, List.mem_cons_self, rfl, hb⟩) rfl (wn rfl) rfl rfl rfl rfl rfl hx1292 sz_3 rfl (fun u _ => ⟨u, trivial, rfl⟩) rfl hl130 ?_
  have hfl130 : SlF Ap0_0 (l130).length cp0_0 := by rw [hnl130]; exact hfl123
  have hsl130 := hnl130.trans hl123
  refine Dr.use (lf := [(0, (.slice Ap0_0 (l130).length cp0_0)), (2, (.int .i64 x124)), (3, (.int .i64 x125)), (7, (.int .i64 x124)), (8, (.int .i64 x125)), (9, (.bool (decide (x124 < x125)))), (14, (.slice Ap0_0 (l130).length cp0_0)), (15, (.int .i64 x124)), (16, (.slice Ap0_0 (l130).length cp0_0)), (17, (.int .i64 x125)), (18, (.slice Ap0_0 (l130).length cp0_0)), (19, (.int .i64 x125)), (21, (.int .i64 x127)), (22, (.slice Ap0_0 (l130).length cp0_0)), (23, (.int .i64 x124)), (25, (.int .i64 x128))]) (le := [(0, ow Ap0_0 cp0_0 3 fl_i64 l130)]) ?_ rfl (.cons (slenV rfl (by rw [hnl130])) (.cons rfl (.cons rfl (.cons rfl (.cons rfl (.cons rfl (.cons (slenV rfl (by rw [hnl130])) (.cons rfl (.cons (slenV rfl (by rw [hnl130])) (.cons rfl (.cons (slenV rfl (by rw [hnl130])) (.cons rfl (.cons rfl (.cons (slenV rfl (by rw [hnl130])) (.cons rfl (.cons rfl .nil)))))))))))))))) (.cons rfl .nil)
  refine Dr.tail (by kernel_rfl) ?_
  obtain ⟨x131, hx131, H⟩ := bnd H
  obtain ⟨hx1310, hx1311, hx1312⟩ := idx_some hx131
  refine Tr.va rfl (fun _ _ h1 h2 => run_indexAddr el_44 (h1.ev rfl) hfl130 (h1.ev rfl) hx1310 hx1311) ?_
  obtain ⟨l132, hl132, H⟩ := bnd H
  have hnl132 := sets_len hl132
  refine Tr.storeEl 0 (t := fl_i64) (l := l130) (i := x125) (fo := 0) (cs := [(.int .i64 x128)]) x128 (wn rfl) rfl rfl rfl rfl rfl hx1312 sz_3 rfl (fun u _ => ⟨u, trivial, rfl⟩) rfl hl132 ?_
  have hfl132 : SlF Ap0_0 (l132).length cp0_0 := by rw [hnl132]; exact hfl130
  have hsl132 := hnl132.trans hsl130
  refine Tr.sel (lf := [(0, (.slice Ap0_0 (l132).length cp0_0)), (2, (.int .i64 x124)), (3, (.int .i64 x125)), (7, (.int .i64 x124)), (8, (.int .i64 x125)), (9, (.bool (decide (x124 < x125)))), (14, (.slice Ap0_0 (l132).length cp0_0)), (15, (.int .i64 x124)), (16, (.slice Ap0_0 (l132).length cp0_0)), (17, (.int .i64 x125)), (18, (.slice Ap0_0 (l132).length cp0_0)), (19, (.int .i64 x125)), (21, (.int .i64 x127)), (22, (.slice Ap0_0 (l132).length cp0_0)), (23, (.int .i64 x124)), (25, (.int .i64 x128))]) (le := [(0, ow Ap0_0 cp0_0 3 fl_i64 l132)]) (.cons (slenV rfl (by rw [hnl132])) (.cons rfl (.cons rfl (.cons rfl (.cons rfl (.cons rfl (.cons (slenV rfl (by rw [hnl132])) (.cons rfl (.cons (slenV rfl (by rw [hnl132])) (.cons rfl (.cons (slenV rfl (by rw [hnl132])) (.cons rfl (.cons rfl (.cons (slenV rfl (by rw [hnl132])) (.cons rfl (.cons rfl .nil)))))))))))))))) (.cons rfl .nil) ?_
  refine Tr.nil (Tr.normBlock (Tr.normThen ?_))
  refine Tr.region ?_
  refine Tr.mv rfl rfl ?_
  refine Tr.va rfl (fun _ _ h1 h2 => run_add (h1.ev rfl) (h1.ev rfl)) ?_
  refine Tr.mv rfl rfl ?_
  refine Tr.va rfl (fun _ _ h1 h2 => run_sub (h1.ev rfl) (h1.ev rfl)) ?_
  refine Tr.asg rfl rfl ?_
  refine Tr.asg rfl rfl ?_
  refine Tr.nil ?_
  exact Tr.backThen leF_slices_Reverse_int_L1 (l132, (w64 (x124 + 1)), (w64 (x125 - 1))) ⟨H, hsl132⟩ (.cons rfl (.cons rfl (.cons rfl .nil))) (.cons rfl .nil)
 ·refine Tr.exit (Tr.exitThen (Tr.exitThen (Tr.exitBlock (Tr.offEnd ?_))))
  obtain rfl := Option.some.inj H
  exact Tr.out (m := []) [] res_nil (fun W hW => ⟨(), rfl, hl123, HF.lowE leB (hW.pick (ks := [0]) (by decide) (pk_cons rfl pk_nil)) ⟨ow_any _ _ _ _ tr_i64, trivial⟩⟩)

theorem F_panel_Order_ok (N : Nat) {w : Bs} (p0 : TPanel) (Ap0_0 : Option Addr) (cp0_0 : Nat) (hp0_0 : Sl w.R w.W fl_TBoardKind Ap0_0 cp0_0 p0.Kinds) (Ap0_1 : Option Addr) (cp0_1 : Nat) (hp0_1 : Sl w.R w.W fl_TSlot Ap0_1 cp0_1 p0.Slots) (Ap0_2 : Option Addr) (cp0_2 : Nat) (hp0_2 : Sl w.R w.W fl_TPoint Ap0_2 cp0_2 p0.Marks) (r : ((List Int) × Int)) (H : F_panel_Order N p0 = some r) (hE : HF w w.W (LEn [emp])) : Calls Try.prog 15 [(.agg #[(.int .i64 p0.W), (.int .i64 p0.H), (.int .i64 p0.Rail), (.int .i64 p0.Gap), (.slice Ap0_0 (p0.Kinds).length cp0_0), (.slice Ap0_1 (p0.Slots).length cp0_1), (.slice Ap0_2 (p0.Marks).length cp0_2)])].toArray w.W fun e W' => ∃ u : (Option Addr × Nat), e = .returned (.tuple #[(.slice u.1 (r.1).length u.2), (.int .i64 r.2)]) ∧ (SlF u.1 (r.1).length u.2) ∧ HF w W' (LEn [ow u.1 u.2 3 fl_i64 r.1]) := by
 unfold F_panel_Order at H
 have leB := Bs.Le.refl w
 refine Tr.enter (n := 76) Try.func15 rfl rfl rfl hE ?_
 refine Tr.sr ?_
 refine Tr.box 1 (cs := [(.int .i64 p0.W), (.int .i64 p0.H), (.int .i64 p0.Rail), (.int .i64 p0.Gap), (.slice Ap0_0 (p0.Kinds).length cp0_0), (.slice Ap0_1 (p0.Slots).length cp0_1), (.slice Ap0_2 (p0.Marks).length cp0_2)]) (wn rfl) rfl rfl rfl fun b100 => ?_
 refine Tr.asg rfl rfl ?_
 refine Tr.nilOwn 2 3 fl_i64 ?_
 show Tr _ _ (uf _ 2 (.slice none (([] : List Int)).length 0)) _ _
 refine Tr.asg rfl rfl ?_
 refine Tr.nil (Tr.normThen ?_)
 refine Tr.sr ?_
 refine Tr.va rfl (fun _ _ h1 h2 => run_loadN (cs := [(.int .i64 p0.W), (.int .i64 p0.H), (.int .i64 p0.Rail), (.int .i64 p0.Gap), (.slice Ap0_0 (p0.Kinds).length cp0_0), (.slice Ap0_1 (p0.Slots).length cp0_1), (.slice Ap0_2 (p0.Marks).length cp0_2)]) ag_26 sz_26 (h1.ev rfl) (CellsAt.take (rdb h2 (vs := [(.int .i64 p0.W), (.int .i64 p0.H), (.int .i64 p0.Rail), (.int .i64 p0.Gap), (.slice Ap0_0 (p0.Kinds).length cp0_0), (.slice Ap0_1 (p0.Slots).length cp0_1), (.slice Ap0_2 (p0.Marks).length cp0_2)]) (k := 1) rfl 0) 7) rfl) ?_
 obtain ⟨y101, hy101, H⟩ := bnd H
 refine Tr.callM [3] [emp] (U := (Option Addr × Nat)) (fun u => (.tuple #[(.slice u.1 (y101.1).length u.2), (.int .i64 y101.2)])) (fun u => SlF u.1 (y101.1).length u.2) (fun u => [ow u.1 u.2 38 fl_TRect y101.1]) rfl (pk_cons rfl pk_nil) (fun _ => rfl) (wn rfl) rfl Try.call25 (evl_cons rfl evl_nil) (fun W hW hp hE => F_panel_open_ok N p0 Ap0_0 cp0_0 (hp0_0.ext (hW.extS hp)) Ap0_1 cp0_1 (hp0_1.ext (hW.extS hp)) Ap0_2 cp0_2 (hp0_2.ext (hW.extS hp)) y101 hy101 hE) ?_
 intro u hu
 obtain ⟨Ay101_0, cy101_0⟩ := u
 have gy101_0 := hu
 have hgy101_0 : SlF Ay101_0 (y101.1).length cy101_0 := gy101_0 --@phi
 show Tr _ _ (uf _ 16 (.tuple #[(.slice Ay101_0 (y101.1).length cy101_0), (.int .i64 y101.2)])) (up _ 3 (ow Ay101_0 cy101_0 38 fl_TRect y101.1)) _
 refine Tr.mv rfl rfl ?_
 refine Tr.va rfl (fun _ _ h1 h2 => run_extract (h1.ev rfl) rfl) ?_
 refine Tr.va rfl (fun _ _ h1 h2 => run_extract (h1.ev rfl) rfl) ?_
 refine Tr.alloc 4 (wn rfl) rfl ze_32 fun b103 => ?_
 refine Tr.store 4 (cs := [(.slice Ay101_0 (y101.1).length cy101_0)]) [(.slice Ay101_0 (y101.1).length cy101_0)] (wn rfl) rfl rfl rfl rfl sz_32 rfl rfl rfl ?_
 refine Tr.asg rfl rfl ?_
 refine Tr.nil (Tr.normThen ?_)
 refine Tr.seq ?_
 refine Tr.sr ?_
 refine Tr.mv rfl rfl ?_
 refine Tr.va rfl (fun _ _ h1 h2 => run_neq (h1.ev rfl) (h1.ev rfl)) ?_
 refine Tr.nil (Tr.normThen ?_)
 refine Tr.cond rfl H (fun H => ?_) (fun H => ?_)
 ·refine Tr.sr ?_
  refine Tr.mv rfl rfl ?_
  refine Tr.asg rfl rfl ?_
  refine Tr.nilOwn 5 3 fl_i64 ?_
  show Tr _ _ (uf _ 2 (.slice none (([] : List Int)).length 0)) _ _
  refine Tr.asg rfl rfl ?_
  refine Tr.nil (Tr.normThen ?_)
  refine Tr.ret (Tr.retThen ?_)
  obtain rfl := Option.some.inj H
  exact Tr.out (m := [(.slice none (([] : List Int)).length 0), (.int .i64 y101.2)]) [] (res_tmp rfl (res_tmp rfl res_nil)) (fun W hW => ⟨(none, 0), rfl, slf_nil, HF.lowE leB (hW.pick (ks := [5]) (by decide) (pk_cons rfl pk_nil)) ⟨ow_any _ _ _ _ tr_i64, trivial⟩⟩)
 ·refine Tr.skip (Tr.normThen ?_)
  refine Tr.sr ?_
  refine Tr.makeMap 6 3 fl_i64 (wn rfl) rfl fun b104 => ?_
  refine Tr.asg rfl rfl ?_
  refine Tr.nil (Tr.normThen ?_)
  refine Tr.sr ?_
  refine Tr.asg rfl rfl ?_
  refine Tr.nilOwn 7 3 fl_i64 ?_
  show Tr _ _ (uf _ 7 (.slice none (([] : List Int)).length 0)) _ _
  refine Tr.nil (Tr.normThen ?_)
  refine Tr.seq ?_
  refine Tr.sr ?_
  refine Tr.va rfl (fun _ _ h1 h2 => run_load1 ag_32 (h1.ev rfl) (rdb h2 (vs := [(.slice Ay101_0 (y101.1).length cy101_0)]) (k := 4) rfl 0) rfl) ?_
  refine Tr.va rfl (fun _ _ h1 h2 => run_len un_32 (h1.ev rfl)) ?_
  refine Tr.mv rfl rfl ?_
  refine Tr.nil (Tr.normThen ?_)
  refine Tr.block ?_
  refine Tr.loop (σ := (List TRect) × Nat × (List (Int × List Int)) × (List Int) × (List (ME Int)) × (Option Addr) × Nat) (fun m w s => m = s.1.length + 1 ∧ s.1 = List.drop s.2.1 y101.1 ∧ s.2.1 ≤ y101.1.length ∧ F_panel_Order_L3 N y101 s.1 s.2.1 s.2.2.1 s.2.2.2.1 = some r ∧ MC s.2.2.2.2.1 s.2.2.1 ∧ SlF s.2.2.2.2.2.1 (s.2.2.2.1).length s.2.2.2.2.2.2) (fun s => [(4, (.pointer (some ⟨b103, 0, none⟩))), (6, (.map (some b104))), (7, (.slice s.2.2.2.2.2.1 (s.2.2.2.1).length s.2.2.2.2.2.2)), (23, (.slice Ay101_0 (y101.1).length cy101_0)), (24, (.int .i64 (y101.1.length : Int))), (25, (.int .i64 (s.2.1 : Int)))]) (fun s => [(3, ow Ay101_0 cy101_0 38 fl_TRect y101.1), (4, bx b103 #[(.slice Ay101_0 (y101.1).length cy101_0)] 32), (6, mo b104 3 fl_i64 s.2.2.2.2.1), (7, ow s.2.2.2.2.2.1 s.2.2.2.2.2.2 3 fl_i64 s.2.2.2.1)]) (y101.1.length + 1) (y101.1, 0, ([] : List (Int × List Int)), ([] : List Int), ([] : List (ME Int)), none, 0) ⟨rfl, rfl, Nat.zero_le _, H, MC.nil, slf_nil⟩ (.cons rfl (.cons rfl (.cons rfl (.cons rfl (.cons rfl (.cons rfl .nil)))))) (.cons rfl (.cons rfl (.cons rfl (.cons rfl .nil)))) (fun _ _ h => absurd h.1 (by simp)) ?_
  intro w leF_panel_Order_L3 m s hs
  obtain ⟨restF_panel_Order_L3, iF_panel_Order_L3, m164, l165, msm164, Al165, cl165⟩ := s
  obtain ⟨hmF_panel_Order_L3, hdF_panel_Order_L3, hiF_panel_Order_L3, H, hm164, hl165⟩ := hs
  replace hdF_panel_Order_L3 : restF_panel_Order_L3 = List.drop iF_panel_Order_L3 y101.1 := hdF_panel_Order_L3
  replace H : F_panel_Order_L3 N y101 restF_panel_Order_L3 iF_panel_Order_L3 m164 l165 = some r := H
  replace hmF_panel_Order_L3 : m + 1 = restF_panel_Order_L3.length + 1 := hmF_panel_Order_L3
  replace leB := leB.trans leF_panel_Order_L3
  replace hm164 : MC msm164 m164 := hm164
  replace hl165 : SlF Al165 (l165).length cl165 := hl165
  obtain rfl : m = restF_panel_Order_L3.length := by omega
  clear hmF_panel_Order_L3
  show Tr _ _ (LF [(4, (.pointer (some ⟨b103, 0, none⟩))), (6, (.map (some b104))), (7, (.slice Al165 (l165).length cl165)), (23, (.slice Ay101_0 (y101.1).length cy101_0)), (24, (.int .i64 (y101.1.length : Int))), (25, (.int .i64 (iF_panel_Order_L3 : Int)))]) (LE [(3, ow Ay101_0 cy101_0 38 fl_TRect y101.1), (4, bx b103 #[(.slice Ay101_0 (y101.1).length cy101_0)] 32), (6, mo b104 3 fl_i64 msm164), (7, ow Al165 cl165 3 fl_i64 l165)]) _
  cases restF_panel_Order_L3 with
  | nil =>
   rw [F_panel_Order_L3.eq_1] at H
   refine Tr.sr ?_
   refine Tr.va rfl (fun _ _ h1 h2 => run_lss (h1.ev rfl) (h1.ev rfl)) ?_
   refine Tr.nil (Tr.normThen ?_)
   refine Tr.seq ?_
   refine Tr.condF rfl (range_nil hdF_panel_Order_L3) ?_
   refine Tr.exit (Tr.exitThen (Tr.exitThen (Tr.exitBlock (Tr.normThen ?_))))
   refine Tr.sr ?_
   refine Tr.mv rfl rfl ?_
   obtain ⟨y166, hy166, H⟩ := bnd H
   refine Tr.callM [7] [ow Al165 cl165 3 fl_i64 l165] (U := Unit) (fun u => (.tuple #[])) (fun u => (y166).length = (l165).length) (fun u => [ow Al165 cl165 3 fl_i64 y166]) rfl (pk_cons rfl pk_nil) (fun _ => rfl) (wn rfl) rfl Try.call29 (evl_cons rfl evl_nil) (fun W hW hp hE => F_slices_Sort_int_ok l165 Al165 cl165 y166 hy166 hE) ?_
   intro u hu
   have gky166_0 := hu
   have hgky166_0 : (y166).length = (l165).length := gky166_0 --@phi
   have hfky166_0 : SlF Al165 (y166).length cl165 := by rw [hgky166_0]; exact hl165
   show Tr _ _ (uf _ 52 (.tuple #[])) (up _ 7 (ow Al165 cl165 3 fl_i64 y166)) _
   refine Tr.sel (lf := [(4, (.pointer (some ⟨b103, 0, none⟩))), (6, (.map (some b104))), (7, (.slice Al165 (y166).length cl165)), (23, (.slice Ay101_0 (y101.1).length cy101_0)), (24, (.int .i64 (y101.1.length : Int))), (25, (.int .i64 (iF_panel_Order_L3 : Int))), (26, (.bool (decide ((iF_panel_Order_L3 : Int) < (y101.1.length : Int))))), (51, (.slice Al165 (y166).length cl165)), (52, (.tuple #[]))]) (le := [(3, ow Ay101_0 cy101_0 38 fl_TRect y101.1), (4, bx b103 #[(.slice Ay101_0 (y101.1).length cy101_0)] 32), (6, mo b104 3 fl_i64 msm164), (7, ow Al165 cl165 3 fl_i64 y166)]) (.cons rfl (.cons rfl (.cons (slenV rfl (by rw [hgky166_0])) (.cons rfl (.cons rfl (.cons rfl (.cons rfl (.cons (slenV rfl (by rw [hgky166_0])) (.cons rfl .nil))))))))) (.cons rfl (.cons rfl (.cons rfl (.cons rfl .nil)))) ?_
   refine Tr.nil (Tr.normThen ?_)
   refine Tr.sr ?_
   refine Tr.asg rfl rfl ?_
   refine Tr.nilOwn 22 3 fl_i64 ?_
   show Tr _ _ (uf _ 10 (.slice none (([] : List Int)).length 0)) _ _
   refine Tr.nil (Tr.normThen ?_)
   refine Tr.seq ?_
   refine Tr.sr ?_
   refine Tr.mv rfl rfl ?_
   refine Tr.va rfl (fun _ _ h1 h2 => run_len un_44 (h1.ev rfl)) ?_
   refine Tr.mv rfl rfl ?_
   refine Tr.nil (Tr.normThen ?_)
   refine Tr.block ?_
   refine Tr.loop (σ := (List Int) × Nat × (List (Int × List Int)) × (List Int) × (List (ME Int)) × (Option Addr) × Nat) (fun m w s => m = s.1.length + 1 ∧ s.1 = List.drop s.2.1 y166 ∧ s.2.1 ≤ y166.length ∧ F_panel_Order_L6 N y101 s.1 s.2.1 s.2.2.1 s.2.2.2.1 = some r ∧ MC s.2.2.2.2.1 s.2.2.1 ∧ SlF s.2.2.2.2.2.1 (s.2.2.2.1).length s.2.2.2.2.2.2) (fun s => [(4, (.pointer (some ⟨b103, 0, none⟩))), (6, (.map (some b104))), (10, (.slice s.2.2.2.2.2.1 (s.2.2.2.1).length s.2.2.2.2.2.2)), (53, (.slice Al165 (y166).length cl165)), (54, (.int .i64 (y166.length : Int))), (55, (.int .i64 (s.2.1 : Int)))]) (fun s => [(3, ow Ay101_0 cy101_0 38 fl_TRect y101.1), (4, bx b103 #[(.slice Ay101_0 (y101.1).length cy101_0)] 32), (6, mo b104 3 fl_i64 s.2.2.2.2.1), (7, ow Al165 cl165 3 fl_i64 y166), (22, ow s.2.2.2.2.2.1 s.2.2.2.2.2.2 3 fl_i64 s.2.2.2.1)]) (y166.length + 1) (y166, 0, m164, ([] : List Int), msm164, none, 0) ⟨rfl, rfl, Nat.zero_le _, H, hm164, slf_nil⟩ (.cons rfl (.cons rfl (.cons rfl (.cons rfl (.cons rfl (.cons rfl .nil)))))) (.cons rfl (.cons rfl (.cons rfl (.cons rfl (.cons rfl .nil))))) (fun _ _ h => absurd h.1 (by simp)) ?_
   intro w leF_panel_Order_L6 m s hs
   obtain ⟨restF_panel_Order_L6, iF_panel_Order_L6, m207, l208, msm207, Al208, cl208⟩ := s
   obtain ⟨hmF_panel_Order_L6, hdF_panel_Order_L6, hiF_panel_Order_L6, H, hm207, hl208⟩ := hs
   replace hdF_panel_Order_L6 : restF_panel_Order_L6 = List.drop iF_panel_Order_L6 y166 := hdF_panel_Order_L6
   replace H : F_panel_Order_L6 N y101 restF_panel_Order_L6 iF_panel_Order_L6 m207 l208 = some r := H
   replace hmF_panel_Order_L6 : m + 1 = restF_panel_Order_L6.length + 1 := hmF_panel_Order_L6
   replace leB := leB.trans leF_panel_Order_L6
   replace leF_panel_Order_L3 := leF_panel_Order_L3.trans leF_panel_Order_L6
   replace hm207 : MC msm207 m207 := hm207
   replace hl208 : SlF Al208 (l208).length cl208 := hl208
   obtain rfl : m = restF_panel_Order_L6.length := by omega
   clear hmF_panel_Order_L6
   show Tr _ _ (LF [(4, (.pointer (some ⟨b103, 0, none⟩))), (6, (.map (some b104))), (10, (.slice Al208 (l208).length cl208)), (53, (.slice Al165 (y166).length cl165)), (54, (.int .i64 (y166.length : Int))), (55, (.int .i64 (iF_panel_Order_L6 : Int)))]) (LE [(3, ow Ay101_0 cy101_0 38 fl_TRect y101.1), (4, bx b103 #[(.slice Ay101_0 (y101.1).length cy101_0)] 32), (6, mo b104 3 fl_i64 msm207), (7, ow Al165 cl165 3 fl_i64 y166), (22, ow Al208 cl208 3 fl_i64 l208)]) _
   cases restF_panel_Order_L6 with
   | nil =>
    rw [F_panel_Order_L6.eq_1] at H
    refine Tr.sr ?_
    refine Tr.va rfl (fun _ _ h1 h2 => run_lss (h1.ev rfl) (h1.ev rfl)) ?_
    refine Tr.nil (Tr.normThen ?_)
    refine Tr.seq ?_
    refine Tr.condF rfl (range_nil hdF_panel_Order_L6) ?_
    refine Tr.exit (Tr.exitThen (Tr.exitThen (Tr.exitBlock (Tr.normThen ?_))))
    refine Tr.sr ?_
    refine Tr.mv rfl rfl ?_
    refine Tr.asg rfl rfl ?_
    refine Tr.asg rfl rfl ?_
    refine Tr.nil (Tr.normThen ?_)
    refine Tr.ret ?_
    obtain rfl := Option.some.inj H
    exact Tr.out (m := [(.slice Al208 (l208).length cl208), (.int .i64 0)]) [] (res_tmp rfl (res_tmp rfl res_nil)) (fun W hW => ⟨(Al208, cl208), rfl, hl208, HF.lowE leB (hW.pick (ks := [22]) (by decide) (pk_cons rfl pk_nil)) ⟨ow_any _ _ _ _ tr_i64, trivial⟩⟩)
   | cons xF_panel_Order_L6 restF_panel_Order_L6 =>
    rw [F_panel_Order_L6.eq_2] at H
    refine Tr.sr ?_
    refine Tr.va rfl (fun _ _ h1 h2 => run_lss (h1.ev rfl) (h1.ev rfl)) ?_
    refine Tr.nil (Tr.normThen ?_)
    refine Tr.seq ?_
    refine Tr.condT rfl (range_on hdF_panel_Order_L6) ?_
    refine Tr.skip (Tr.normThen ?_)
    refine Tr.seq ?_
    refine Tr.block ?_
    refine Tr.sr ?_
    refine Tr.mv rfl rfl ?_
    refine Tr.va rfl (fun _ _ h1 h2 => run_indexAddr el_44 (h1.ev rfl) hfky166_0 (h1.ev rfl) (Int.natCast_nonneg _) (range_lt hdF_panel_Order_L6)) ?_
    refine Tr.va rfl (fun _ _ h1 h2 => run_load1 ag_3 (h1.ev rfl) (rdo ef_i64 (k := 7) h2 rfl (range_at hdF_panel_Order_L6)) rfl) ?_
    refine Tr.asg rfl rfl ?_
    refine Tr.asg rfl rfl ?_
    refine Tr.nil (Tr.normThen ?_)
    refine Tr.sr ?_
    refine Tr.mv rfl rfl ?_
    refine Tr.mv rfl rfl ?_
    obtain ⟨l209, hl209, H⟩ := bnd H
    refine Tr.mapTake 6 25 rfl rfl hm207 hl209 fun ms210 Al209 cl209 hMl209 hfl209 hNl209 => ?_
    refine Tr.va rfl (fun _ _ h1 h2 => run_lookupM un_68 un_3 zs_44 (h1.ev rfl) (h1.ev rfl) h2 (κ := 6) rfl hMl209) ?_
    refine Tr.asg rfl rfl ?_
    refine Tr.nil (Tr.normThen ?_)
    refine Tr.sr ?_
    refine Tr.mv rfl rfl ?_
    refine Tr.mkFunc (vs := [(.pointer (some ⟨b103, 0, none⟩))]) (wn rfl) rfl (evl_cons rfl evl_nil) ?_
    obtain ⟨y211, hy211, H⟩ := bnd H
    refine Tr.callM [25] [ow Al209 cl209 3 fl_i64 l209] (U := Unit) (fun u => (.tuple #[])) (fun u => (y211).length = (l209).length) (fun u => [ow Al209 cl209 3 fl_i64 y211]) rfl (pk_cons rfl pk_nil) (fun _ => rfl) (wn rfl) rfl Try.call37 (evl_cons rfl (evl_cons rfl evl_nil)) (fun W hW hp hE => F_slices_SortFunc_i64_ok l209 Al209 cl209 (fun z0 z1 => F_panel_Order_1 z0 z1 y101.1) 38 [(.pointer (some ⟨b103, 0, none⟩))] Try.call38 (fun w' he z0 z1 y hy => F_panel_Order_1_ok z0 z1 y101.1 Ay101_0 cy101_0 ((hW.slS (k := 3) rfl hp rfl).ext he) b103 (he.r _ (hW.boxS (k := 4) rfl hp rfl)) (he.cells (hW.boxS (k := 4) rfl hp rfl) (hW.boxC (k := 4) rfl)) y hy (HF.start _)) y211 hy211 hE) ?_
    intro u hu
    have gky211_0 := hu
    have hgky211_0 : (y211).length = (l209).length := gky211_0 --@phi
    have hfky211_0 : SlF Al209 (y211).length cl209 := by rw [hgky211_0]; exact hfl209
    have hsky211_0 := hgky211_0.trans rfl
    show Tr _ _ (uf _ 65 (.tuple #[])) (up _ 25 (ow Al209 cl209 3 fl_i64 y211)) _
    refine Tr.sel (lf := [(4, (.pointer (some ⟨b103, 0, none⟩))), (6, (.map (some b104))), (10, (.slice Al208 (l208).length cl208)), (11, (.int .i64 (iF_panel_Order_L6 : Int))), (12, (.int .i64 xF_panel_Order_L6)), (13, (.slice Al209 (y211).length cl209)), (53, (.slice Al165 (y166).length cl165)), (54, (.int .i64 (y166.length : Int))), (55, (.int .i64 (iF_panel_Order_L6 : Int))), (56, (.bool (decide ((iF_panel_Order_L6 : Int) < (y166.length : Int))))), (57, (.int .i64 (iF_panel_Order_L6 : Int))), (58, (.pointer (some ⟨adB Al165, adO Al165 + ((iF_panel_Order_L6 : Int)).toNat * 1, none⟩))), (59, (.int .i64 xF_panel_Order_L6)), (60, (.map (some b104))), (61, (.int .i64 xF_panel_Order_L6)), (62, (.slice Al209 (y211).length cl209)), (63, (.slice Al209 (y211).length cl209)), (64, (.func (.func 38) #[] #[(.pointer (some ⟨b103, 0, none⟩))])), (65, (.tuple #[]))]) (le := [(3, ow Ay101_0 cy101_0 38 fl_TRect y101.1), (4, bx b103 #[(.slice Ay101_0 (y101.1).length cy101_0)] 32), (6, mo b104 3 fl_i64 ms210), (7, ow Al165 cl165 3 fl_i64 y166), (22, ow Al208 cl208 3 fl_i64 l208), (25, ow Al209 cl209 3 fl_i64 y211)]) (.cons rfl (.cons rfl (.cons rfl (.cons rfl (.cons rfl (.cons (slenV rfl (by rw [hgky211_0])) (.cons rfl (.cons rfl (.cons rfl (.cons rfl (.cons rfl (.cons rfl (.cons rfl (.cons rfl (.cons rfl (.cons (slenV rfl (by rw [hgky211_0])) (.cons (slenV rfl (by rw [hgky211_0])) (.cons rfl (.cons rfl .nil))))))))))))))))))) (.cons rfl (.cons rfl (.cons rfl (.cons rfl (.cons rfl (.cons rfl .nil)))))) ?_
    refine Tr.nil (Tr.normThen ?_)
    have leJ216 := Bs.Le.refl w
    refine Tr.cutJ (σ := (List Int)) (fun w s => F_panel_Order_J7 m207 l208 (F_panel_Order_L6 N y101 restF_panel_Order_L6 (iF_panel_Order_L6 + 1)) xF_panel_Order_L6 s = some r ∧ (s).length = (l209).length) (fun s => [(4, (.pointer (some ⟨b103, 0, none⟩))), (6, (.map (some b104))), (10, (.slice Al208 (l208).length cl208)), (13, (.slice Al209 (s).length cl209)), (53, (.slice Al165 (y166).length cl165)), (54, (.int .i64 (y166.length : Int))), (55, (.int .i64 (iF_panel_Order_L6 : Int)))]) (fun s => [(3, ow Ay101_0 cy101_0 38 fl_TRect y101.1), (4, bx b103 #[(.slice Ay101_0 (y101.1).length cy101_0)] 32), (6, mo b104 3 fl_i64 ms210), (7, ow Al165 cl165 3 fl_i64 y166), (22, ow Al208 cl208 3 fl_i64 l208), (25, ow Al209 cl209 3 fl_i64 s)]) ?_ ?_
    ·refine Tr.sr ?_
     refine Tr.mv rfl rfl ?_
     refine Tr.va rfl (fun _ _ h1 h2 => run_rem (h1.ev rfl) (h1.ev rfl) (by decide)) ?_
     refine Tr.va rfl (fun _ _ h1 h2 => run_eql (h1.ev rfl) (h1.ev rfl)) ?_
     refine Tr.nil (Tr.normThen ?_)
     refine Tr.cond rfl H (fun H => ?_) (fun H => ?_)
     ·refine Tr.region ?_
      refine Tr.mv rfl rfl ?_
      obtain ⟨y220, hy220, H⟩ := bnd H
      refine Tr.callM [25] [ow Al209 cl209 3 fl_i64 y211] (U := Unit) (fun u => (.tuple #[])) (fun u => (y220).length = (y211).length) (fun u => [ow Al209 cl209 3 fl_i64 y220]) rfl (pk_cons rfl pk_nil) (fun _ => rfl) (wn rfl) rfl Try.call39 (evl_cons rfl evl_nil) (fun W hW hp hE => F_slices_Reverse_int_ok N y211 Al209 cl209 y220 hy220 hE) ?_
      intro u hu
      have gky220_0 := hu
      have hgky220_0 : (y220).length = (y211).length := gky220_0 --@phi
      have hfky220_0 : SlF Al209 (y220).length cl209 := by rw [hgky220_0]; exact hfky211_0
      have hsky220_0 := hgky220_0.trans hsky211_0
      show Tr _ _ (uf _ 70 (.tuple #[])) (up _ 25 (ow Al209 cl209 3 fl_i64 y220)) _
      refine Tr.sel (lf := [(4, (.pointer (some ⟨b103, 0, none⟩))), (6, (.map (some b104))), (10, (.slice Al208 (l208).length cl208)), (11, (.int .i64 (iF_panel_Order_L6 : Int))), (12, (.int .i64 xF_panel_Order_L6)), (13, (.slice Al209 (y220).length cl209)), (53, (.slice Al165 (y166).length cl165)), (54, (.int .i64 (y166.length : Int))), (55, (.int .i64 (iF_panel_Order_L6 : Int))), (56, (.bool (decide ((iF_panel_Order_L6 : Int) < (y166.length : Int))))), (57, (.int .i64 (iF_panel_Order_L6 : Int))), (58, (.pointer (some ⟨adB Al165, adO Al165 + ((iF_panel_Order_L6 : Int)).toNat * 1, none⟩))), (59, (.int .i64 xF_panel_Order_L6)), (60, (.map (some b104))), (61, (.int .i64 xF_panel_Order_L6)), (62, (.slice Al209 (y220).length cl209)), (63, (.slice Al209 (y220).length cl209)), (64, (.func (.func 38) #[] #[(.pointer (some ⟨b103, 0, none⟩))])), (65, (.tuple #[])), (66, (.int .i64 (iF_panel_Order_L6 : Int))), (67, (.int .i64 (Int.tmod (iF_panel_Order_L6 : Int) 2))), (68, (.bool ((Int.tmod (iF_panel_Order_L6 : Int) 2) == 1))), (69, (.slice Al209 (y220).length cl209)), (70, (.tuple #[]))]) (le := [(3, ow Ay101_0 cy101_0 38 fl_TRect y101.1), (4, bx b103 #[(.slice Ay101_0 (y101.1).length cy101_0)] 32), (6, mo b104 3 fl_i64 ms210), (7, ow Al165 cl165 3 fl_i64 y166), (22, ow Al208 cl208 3 fl_i64 l208), (25, ow Al209 cl209 3 fl_i64 y220)]) (.cons rfl (.cons rfl (.cons rfl (.cons rfl (.cons rfl (.cons (slenV rfl (by rw [hgky220_0])) (.cons rfl (.cons rfl (.cons rfl (.cons rfl (.cons rfl (.cons rfl (.cons rfl (.cons rfl (.cons rfl (.cons (slenV rfl (by rw [hgky220_0])) (.cons (slenV rfl (by rw [hgky220_0])) (.cons rfl (.cons rfl (.cons rfl (.cons rfl (.cons rfl (.cons (slenV rfl (by rw [hgky220_0])) (.cons rfl .nil)))))))))))))))))))))))) (.cons rfl (.cons rfl (.cons rfl (.cons rfl (.cons rfl (.cons rfl .nil)))))) ?_
      refine Tr.nil ?_
      exact Tr.backThen leJ216 y220 ⟨H, hsky220_0⟩ (.cons rfl (.cons rfl (.cons rfl (.cons rfl (.cons rfl (.cons rfl (.cons rfl .nil))))))) (.cons rfl (.cons rfl (.cons rfl (.cons rfl (.cons rfl (.cons rfl .nil))))))
     ·refine Tr.skip ?_
      exact Tr.backThen leJ216 y211 ⟨H, hsky211_0⟩ (.cons rfl (.cons rfl (.cons rfl (.cons rfl (.cons rfl (.cons rfl (.cons rfl .nil))))))) (.cons rfl (.cons rfl (.cons rfl (.cons rfl (.cons rfl (.cons rfl .nil))))))
    ·intro w l215 hlJ217 hs
     obtain ⟨H, hl215⟩ := hs
     replace H : F_panel_Order_J7 m207 l208 (F_panel_Order_L6 N y101 restF_panel_Order_L6 (iF_panel_Order_L6 + 1)) xF_panel_Order_L6 l215 = some r := H
     replace leB := leB.trans hlJ217
     replace leF_panel_Order_L3 := leF_panel_Order_L3.trans hlJ217
     replace leF_panel_Order_L6 := leF_panel_Order_L6.trans hlJ217
     replace hl215 : (l215).length = (l209).length := hl215
     have hfl215 : SlF Al209 (l215).length cl209 := (by rw [hl215]; exact hfl209)
     unfold F_panel_Order_J7 at H
     show Tr _ _ (LF [(4, (.pointer (some ⟨b103, 0, none⟩))), (6, (.map (some b104))), (10, (.slice Al208 (l208).length cl208)), (13, (.slice Al209 (l215).length cl209)), (53, (.slice Al165 (y166).length cl165)), (54, (.int .i64 (y166.length : Int))), (55, (.int .i64 (iF_panel_Order_L6 : Int)))]) (LE [(3, ow Ay101_0 cy101_0 38 fl_TRect y101.1), (4, bx b103 #[(.slice Ay101_0 (y101.1).length cy101_0)] 32), (6, mo b104 3 fl_i64 ms210), (7, ow Al165 cl165 3 fl_i64 y166), (22, ow Al208 cl208 3 fl_i64 l208), (25, ow Al209 cl209 3 fl_i64 l215)]) _
     refine Tr.region ?_
     refine Tr.mv rfl rfl ?_
     refine Tr.mv rfl rfl ?_
     obtain ⟨l218, hl218, H⟩ := bnd H
     refine Tr.appendS 22 (t := fl_i64) (l := l208) (l2 := l215) (wn rfl) rfl rfl rfl rfl (apT tr_i64 (fun W hW => (hW.slB (k := 25) rfl))) un_44 sz_3 zl_3 (by decide) by_3 rfl hl218 fun Al218 cl218 hAl218 => ?_
     refine Tr.asg rfl rfl ?_
     refine Tr.nil (Tr.normBlock (Tr.normThen ?_))
     refine Tr.region ?_
     refine Tr.va rfl (fun _ _ h1 h2 => run_add (h1.ev rfl) (h1.ev rfl)) ?_
     refine Tr.mv rfl rfl ?_
     refine Tr.nil ?_
     refine Tr.mapClose 6 25 rfl rfl rfl hMl209 hl215 rfl fun ms219 hmms219 => ?_
     exact Tr.backThen leF_panel_Order_L6 (restF_panel_Order_L6, (iF_panel_Order_L6 + 1), (mset m207 xF_panel_Order_L6 l215), l218, ms219, Al218, cl218) ⟨rfl, range_tl hdF_panel_Order_L6, range_lt hdF_panel_Order_L6, H, hmms219, hAl218⟩ (.cons rfl (.cons rfl (.cons rfl (.cons rfl (.cons rfl (.cons (congrArg (fun z => some (Value.int .i64 z)) (range_up hdF_panel_Order_L6 hfky166_0)) .nil)))))) (.cons rfl (.cons rfl (.cons rfl (.cons rfl (.cons rfl .nil)))))
  | cons xF_panel_Order_L3 restF_panel_Order_L3 =>
   rw [F_panel_Order_L3.eq_2] at H
   refine Tr.sr ?_
   refine Tr.va rfl (fun _ _ h1 h2 => run_lss (h1.ev rfl) (h1.ev rfl)) ?_
   refine Tr.nil (Tr.normThen ?_)
   refine Tr.seq ?_
   refine Tr.condT rfl (range_on hdF_panel_Order_L3) ?_
   refine Tr.skip (Tr.normThen ?_)
   refine Tr.seq ?_
   refine Tr.block ?_
   refine Tr.sr ?_
   refine Tr.mv rfl rfl ?_
   refine Tr.va rfl (fun _ _ h1 h2 => run_indexAddr el_32 (h1.ev rfl) hgy101_0 (h1.ev rfl) (Int.natCast_nonneg _) (range_lt hdF_panel_Order_L3)) ?_
   refine Tr.va rfl (fun _ _ h1 h2 => run_loadN (cs := [(.int .i64 xF_panel_Order_L3.X0), (.int .i64 xF_panel_Order_L3.Y0), (.int .i64 xF_panel_Order_L3.X1), (.int .i64 xF_panel_Order_L3.Y1)]) ag_38 sz_38 (h1.ev rfl) (CellsAt.take (rdo ef_TRect (k := 3) h2 rfl (range_at hdF_panel_Order_L3)) 4) rfl) ?_
   refine Tr.alloc 26 (wn rfl) rfl ze_38 fun b222 => ?_
   refine Tr.asg rfl rfl ?_
   refine Tr.store 26 (cs := [(.int .i64 xF_panel_Order_L3.X0), (.int .i64 xF_panel_Order_L3.Y0), (.int .i64 xF_panel_Order_L3.X1), (.int .i64 xF_panel_Order_L3.Y1)]) [(.int .i64 xF_panel_Order_L3.X0), (.int .i64 xF_panel_Order_L3.Y0), (.int .i64 xF_panel_Order_L3.X1), (.int .i64 xF_panel_Order_L3.Y1)] (wn rfl) rfl rfl rfl rfl sz_38 rfl rfl rfl ?_
   refine Tr.nil (Tr.normThen ?_)
   have leJ231 := Bs.Le.refl w
   refine Tr.cutJ (σ := (List (Int × List Int)) × (List Int) × (List (ME Int)) × (Option Addr) × Nat) (fun w s => F_panel_Order_J8 (F_panel_Order_L3 N y101 restF_panel_Order_L3 (iF_panel_Order_L3 + 1)) xF_panel_Order_L3 iF_panel_Order_L3 s.1 s.2.1 = some r ∧ MC s.2.2.1 s.1 ∧ SlF s.2.2.2.1 (s.2.1).length s.2.2.2.2) (fun s => [(4, (.pointer (some ⟨b103, 0, none⟩))), (6, (.map (some b104))), (7, (.slice s.2.2.2.1 (s.2.1).length s.2.2.2.2)), (8, (.int .i64 (iF_panel_Order_L3 : Int))), (9, (.pointer (some ⟨b222, 0, none⟩))), (23, (.slice Ay101_0 (y101.1).length cy101_0)), (24, (.int .i64 (y101.1.length : Int))), (25, (.int .i64 (iF_panel_Order_L3 : Int)))]) (fun s => [(3, ow Ay101_0 cy101_0 38 fl_TRect y101.1), (4, bx b103 #[(.slice Ay101_0 (y101.1).length cy101_0)] 32), (6, mo b104 3 fl_i64 s.2.2.1), (7, ow s.2.2.2.1 s.2.2.2.2 3 fl_i64 s.2.1), (26, bx b222 #[(.int .i64 xF_panel_Order_L3.X0), (.int .i64 xF_panel_Order_L3.Y0), (.int .i64 xF_panel_Order_L3.X1), (.int .i64 xF_panel_Order_L3.Y1)] 38)]) ?_ ?_
   ·refine Tr.sr ?_
    refine Tr.mv rfl rfl ?_
    refine Tr.va rfl (fun _ _ h1 h2 => run_fieldAddr fo_38_1 (h1.ev rfl)) ?_
    refine Tr.va rfl (fun _ _ h1 h2 => run_load1 ag_3 (h1.ev rfl) (rdb h2 (vs := [(.int .i64 xF_panel_Order_L3.X0), (.int .i64 xF_panel_Order_L3.Y0), (.int .i64 xF_panel_Order_L3.X1), (.int .i64 xF_panel_Order_L3.Y1)]) (k := 26) rfl 1) rfl) ?_
    obtain ⟨l240, hl240, H⟩ := bnd H
    refine Tr.mapTake 6 31 rfl rfl hm164 hl240 fun ms241 Al240 cl240 hMl240 hfl240 hNl240 => ?_
    refine Tr.va rfl (fun _ _ h1 h2 => run_lookupM un_68 un_3 zs_44 (h1.ev rfl) (h1.ev rfl) h2 (κ := 6) rfl hMl240) ?_
    refine Tr.va rfl (fun _ _ h1 h2 => run_eqlE hNl240 (run_eqlNil un_44 (h1.ev rfl) (h1.ev rfl))) ?_
    refine Tr.nil (Tr.normThen ?_)
    refine Tr.cond rfl H (fun H => ?_) (fun H => ?_)
    ·refine Tr.region ?_
     refine Tr.mv rfl rfl ?_
     refine Tr.va rfl (fun _ _ h1 h2 => run_fieldAddr fo_38_1 (h1.ev rfl)) ?_
     refine Tr.va rfl (fun _ _ h1 h2 => run_load1 ag_3 (h1.ev rfl) (rdb h2 (vs := [(.int .i64 xF_panel_Order_L3.X0), (.int .i64 xF_panel_Order_L3.Y0), (.int .i64 xF_panel_Order_L3.X1), (.int .i64 xF_panel_Order_L3.Y1)]) (k := 26) rfl 1) rfl) ?_
     refine Tr.buildSlice 32 (e := 3) (vs := [(0, (.int .i64 xF_panel_Order_L3.Y0))]) (cs := [(.int .i64 xF_panel_Order_L3.Y0)]) (wn rfl) rfl (evs_cons rfl evs_nil) (by kernel_rfl) fun b242 => ?_
     obtain ⟨l243, hl243, H⟩ := bnd H
     refine Tr.append 7 (t := fl_i64) (l := l165) (l2 := [xF_panel_Order_L3.Y0]) (wn rfl) rfl rfl rfl rfl (fun W hW => ⟨[[(.int .i64 xF_panel_Order_L3.Y0)]], (.cons ⟨(), trivial, rfl⟩ .nil), rdb hW (vs := [(.int .i64 xF_panel_Order_L3.Y0)]) (k := 32) rfl 0⟩) un_44 sz_3 zl_3 (by decide) by_3 rfl hl243 fun Al243 cl243 hAl243 => ?_
     refine Tr.asg rfl rfl ?_
     refine Tr.nil ?_
     refine Tr.mapClose 6 31 rfl rfl rfl hMl240 rfl (mset_getO hl240) fun ms244 hmms244 => ?_
     exact Tr.backThen leJ231 (m164, l243, ms244, Al243, cl243) ⟨H, hmms244, hAl243⟩ (.cons rfl (.cons rfl (.cons rfl (.cons rfl (.cons rfl (.cons rfl (.cons rfl (.cons rfl .nil)))))))) (.cons rfl (.cons rfl (.cons rfl (.cons rfl (.cons rfl .nil)))))
    ·refine Tr.skip ?_
     refine Tr.mapClose 6 31 rfl rfl rfl hMl240 rfl (mset_getO hl240) fun ms245 hmms245 => ?_
     exact Tr.backThen leJ231 (m164, l165, ms245, Al165, cl165) ⟨H, hmms245, hl165⟩ (.cons rfl (.cons rfl (.cons rfl (.cons rfl (.cons rfl (.cons rfl (.cons rfl (.cons rfl .nil)))))))) (.cons rfl (.cons rfl (.cons rfl (.cons rfl (.cons rfl .nil)))))
   ·intro w s hlJ232 hs
    obtain ⟨m229, l230, msm229, Al230, cl230⟩ := s
    obtain ⟨H, hm229, hl230⟩ := hs
    replace H : F_panel_Order_J8 (F_panel_Order_L3 N y101 restF_panel_Order_L3 (iF_panel_Order_L3 + 1)) xF_panel_Order_L3 iF_panel_Order_L3 m229 l230 = some r := H
    replace leB := leB.trans hlJ232
    replace leF_panel_Order_L3 := leF_panel_Order_L3.trans hlJ232
    replace hm229 : MC msm229 m229 := hm229
    replace hl230 : SlF Al230 (l230).length cl230 := hl230
    unfold F_panel_Order_J8 at H
    show Tr _ _ (LF [(4, (.pointer (some ⟨b103, 0, none⟩))), (6, (.map (some b104))), (7, (.slice Al230 (l230).length cl230)), (8, (.int .i64 (iF_panel_Order_L3 : Int))), (9, (.pointer (some ⟨b222, 0, none⟩))), (23, (.slice Ay101_0 (y101.1).length cy101_0)), (24, (.int .i64 (y101.1.length : Int))), (25, (.int .i64 (iF_panel_Order_L3 : Int)))]) (LE [(3, ow Ay101_0 cy101_0 38 fl_TRect y101.1), (4, bx b103 #[(.slice Ay101_0 (y101.1).length cy101_0)] 32), (6, mo b104 3 fl_i64 msm229), (7, ow Al230 cl230 3 fl_i64 l230), (26, bx b222 #[(.int .i64 xF_panel_Order_L3.X0), (.int .i64 xF_panel_Order_L3.Y0), (.int .i64 xF_panel_Order_L3.X1), (.int .i64 xF_panel_Order_L3.Y1)] 38)]) _
    obtain ⟨l233, hl233, H⟩ := bnd H
    refine Tr.mapTake 6 29 rfl rfl hm229 hl233 fun ms234 Al233 cl233 hMl233 hfl233 hNl233 => ?_
    refine Tr.drawC 10 [(9, (ow Al233 cl233 3 fl_i64 l233).S)] [] (by kernel_rfl) (by kernel_rfl) fun sz235 hlosz235 hEsz235 => ?_
    refine Dr.quietP 0 (by kernel_rfl) rfl (wn rfl) rfl (by kernel_rfl) (fun _ _ h1 => run_move (h1.ev rfl)) rfl ?_
    refine Dr.quietP 1 (by kernel_rfl) rfl (wn rfl) rfl (by kernel_rfl) (fun _ _ h1 => run_fieldAddr fo_38_1 (h1.ev rfl)) rfl ?_
    refine Dr.quietZ 2 [(42, (.int .i64 xF_panel_Order_L3.Y0))] [9] false (by kernel_rfl) rfl rfl (by kernel_rfl) (fun W W' h2 hsW hk => HF.keepZ (le := [(26, bx b222 #[(.int .i64 xF_panel_Order_L3.X0), (.int .i64 xF_panel_Order_L3.Y0), (.int .i64 xF_panel_Order_L3.X1), (.int .i64 xF_panel_Order_L3.Y1)] 38)]) (ks := [(29, (ow Al233 cl233 3 fl_i64 l233).S)]) (s0 := sz235) false h2 hk (fun h => absurd h (by decide)) (.cons rfl .nil) (fun b hb => hb.elim (fun ⟨p, hp, hf, hb⟩ => by simp only [List.mem_cons, List.not_mem_nil, or_false] at hp; rcases hp with rfl; exact .inl ⟨_, List.mem_cons_self, hb⟩) (fun hb => absurd hb.1 (by decide))) (List.forall_mem_cons.2 ⟨fun b hb => hb, (fun _ h => nomatch h)⟩) rfl) ?_ rfl rfl ?_
    ·refine Tq.va rfl (fun _ _ h1 h2 => run_load1 ag_3 (h1.ev rfl) (rdb h2 (vs := [(.int .i64 xF_panel_Order_L3.X0), (.int .i64 xF_panel_Order_L3.Y0), (.int .i64 xF_panel_Order_L3.X1), (.int .i64 xF_panel_Order_L3.Y1)]) (k := 26) rfl 1) rfl) ?_
     exact Tq.fin (.cons rfl .nil)
    refine Dr.quietP 3 (by kernel_rfl) rfl (wn rfl) rfl (by kernel_rfl) (fun _ _ h1 => run_move (h1.ev rfl)) rfl ?_
    refine Dr.quietP 4 (by kernel_rfl) rfl (wn rfl) rfl (by kernel_rfl) (fun _ _ h1 => run_fieldAddr fo_38_1 (h1.ev rfl)) rfl ?_
    refine Dr.quietZ 5 [(45, (.int .i64 xF_panel_Order_L3.Y0))] [9] false (by kernel_rfl) rfl rfl (by kernel_rfl) (fun W W' h2 hsW hk => HF.keepZ (le := [(26, bx b222 #[(.int .i64 xF_panel_Order_L3.X0), (.int .i64 xF_panel_Order_L3.Y0), (.int .i64 xF_panel_Order_L3.X1), (.int .i64 xF_panel_Order_L3.Y1)] 38)]) (ks := [(29, (ow Al233 cl233 3 fl_i64 l233).S)]) (s0 := sz235) false h2 hk (fun h => absurd h (by decide)) (.cons rfl .nil) (fun b hb => hb.elim (fun ⟨p, hp, hf, hb⟩ => by simp only [List.mem_cons, List.not_mem_nil, or_false] at hp; rcases hp with rfl; exact .inl ⟨_, List.mem_cons_self, hb⟩) (fun hb => absurd hb.1 (by decide))) (List.forall_mem_cons.2 ⟨fun b hb => hb, (fun _ h => nomatch h)⟩) rfl) ?_ rfl rfl ?_
    ·refine Tq.va rfl (fun _ _ h1 h2 => run_load1 ag_3 (h1.ev rfl) (rdb h2 (vs := [(.int .i64 xF_panel_Order_L3.X0), (.int .i64 xF_panel_Order_L3.Y0), (.int .i64 xF_panel_Order_L3.X1), (.int .i64 xF_panel_Order_L3.Y1)]) (k := 26) rfl 1) rfl) ?_
     exact Tq.fin (.cons rfl .nil)
    refine Dr.quiet 6 [(46, (.slice Al233 (l233).length cl233))] (by kernel_rfl) rfl rfl (by kernel_rfl) ?_ rfl rfl ?_
    ·refine Tq.va rfl (fun _ _ h1 h2 => run_lookupM un_68 un_3 zs_44 (h1.ev rfl) (h1.ev rfl) h2 (κ := 6) rfl hMl233) ?_
     exact Tq.fin (.cons rfl .nil)
    refine Dr.quietP 7 (by kernel_rfl) rfl (wn rfl) rfl (by kernel_rfl) (fun _ _ h1 => run_move (h1.ev rfl)) rfl ?_
    refine Dr.one 8 (by kernel_rfl) ?_
    refine St.buildSlice 8 30 (e := 3) (vs := [(0, (.int .i64 (iF_panel_Order_L3 : Int)))]) (cs := [(.int .i64 (iF_panel_Order_L3 : Int))]) rfl (wn rfl) rfl (evs_cons rfl evs_nil) (by kernel_rfl) fun b236 hb236 => ?_
    obtain ⟨l237, hl237, H⟩ := bnd H
    refine Dr.one 9 (by kernel_rfl) ?_
    refine St.append 9 29 (t' := fl_i64) (ll := l233) (l2 := [(iF_panel_Order_L3 : Int)]) (fun b hb => .inl ⟨_, List.mem_cons_self, rfl, hb⟩) rfl (wn rfl) rfl rfl rfl rfl (fun W hW => ⟨[[(.int .i64 (iF_panel_Order_L3 : Int))]], (.cons ⟨(), trivial, rfl⟩ .nil), rdb hW (vs := [(.int .i64 (iF_panel_Order_L3 : Int))]) (k := 30) rfl 0⟩) un_44 sz_3 zl_3 (by decide) by_3 rfl hl237 fun Al237 cl237 hAl237 => ?_
    refine Dr.tail (by kernel_rfl) ?_
    obtain ⟨m238, hm238, H⟩ := bnd H
    refine Tr.mapPut 6 29 (wn rfl) un_68 un_3 rfl rfl rfl rfl rfl rfl hMl233 hAl237 hm238 fun ms239 hmms239 => ?_
    refine Tr.nil (Tr.normBlock (Tr.normThen ?_))
    refine Tr.region ?_
    refine Tr.va rfl (fun _ _ h1 h2 => run_add (h1.ev rfl) (h1.ev rfl)) ?_
    refine Tr.mv rfl rfl ?_
    refine Tr.nil ?_
    exact Tr.backThen leF_panel_Order_L3 (restF_panel_Order_L3, (iF_panel_Order_L3 + 1), m238, l230, ms239, Al230, cl230) ⟨rfl, range_tl hdF_panel_Order_L3, range_lt hdF_panel_Order_L3, H, hmms239, hl230⟩ (.cons rfl (.cons rfl (.cons rfl (.cons rfl (.cons rfl (.cons (congrArg (fun z => some (Value.int .i64 z)) (range_up hdF_panel_Order_L3 hgy101_0)) .nil)))))) (.cons rfl (.cons rfl (.cons rfl (.cons rfl .nil))))

theorem F_etchhouseref9_number_ok (N : Nat) {w : Bs} (p0 : (List Int)) (Ap0_0 : Option Addr) (cp0_0 : Nat) (hp0_0 : Sl w.O w.W fl_i64 Ap0_0 cp0_0 p0) (p1 : Int) (r : (List Int)) (H : F_etchhouseref9_number N p0 p1 = some r) (hE : HF w w.W (LEn [])) : Calls Try.prog 49 [(.slice Ap0_0 (p0).length cp0_0), (.int .i64 p1)].toArray w.W fun e W' => ∃ (w' : Bs) (u : (Option Addr × Nat)), w.Le w' ∧ e = .returned (.slice u.1 (r).length u.2) ∧ (Sl w'.O w'.W fl_i64 u.1 u.2 r) ∧ HF w' W' (LEn []) := by
 unfold F_etchhouseref9_number at H
 have leB := Bs.Le.refl w
 refine Tr.enter (n := 48) Try.func49 rfl rfl rfl hE ?_
 refine Tr.sr ?_
 refine Tr.asg rfl rfl ?_
 refine Tr.nilOwn 1 3 fl_i64 ?_
 show Tr _ _ (uf _ 4 (.slice none (([] : List Int)).length 0)) _ _
 refine Tr.nil (Tr.normThen ?_)
 refine Tr.sr ?_
 refine Tr.mv rfl rfl ?_
 refine Tr.va rfl (fun _ _ h1 h2 => run_len un_44 (h1.ev rfl)) ?_
 refine Tr.asg rfl rfl ?_
 refine Tr.nil (Tr.normThen ?_)
 refine Tr.seq ?_
 refine Tr.block ?_
 refine Tr.loop (σ := Int) (fun m w s => F_etchhouseref9_number_L1 p0 p1 m s = some r) (fun s => [(0, (.slice Ap0_0 (p0).length cp0_0)), (1, (.int .i64 p1)), (5, (.int .i64 s))]) (fun s => []) N (p0.length : Int) H (.cons rfl (.cons rfl (.cons rfl .nil))) .nil (fun _ _ h => noSome (h)) ?_
 intro w leF_etchhouseref9_number_L1 mF_etchhouseref9_number_L1 x109 hs
 have H := hs
 replace H : F_etchhouseref9_number_L1 p0 p1 (mF_etchhouseref9_number_L1 + 1) x109 = some r := H
 replace hp0_0 := hp0_0.le leF_etchhouseref9_number_L1
 replace leB := leB.trans leF_etchhouseref9_number_L1
 rw [F_etchhouseref9_number_L1.eq_2] at H
 show Tr _ _ (LF [(0, (.slice Ap0_0 (p0).length cp0_0)), (1, (.int .i64 p1)), (5, (.int .i64 x109))]) (LE []) _
 refine Tr.seq ?_
 refine Tr.sr ?_
 refine Tr.mv rfl rfl ?_
 refine Tr.va rfl (fun _ _ h1 h2 => run_gtr (h1.ev rfl) (h1.ev rfl)) ?_
 refine Tr.mv rfl rfl ?_
 obtain ⟨g111, hg111, H⟩ := bnd H
 refine Tr.mid0 8 [(0, (.slice Ap0_0 (p0).length cp0_0)), (1, (.int .i64 p1)), (5, (.int .i64 x109)), (19, (.bool g111))] [] ?_ ?_
 ·cases hg123 : (decide (0 < x109))
  ·rw [hg123] at hg111
   rw [if_neg (by decide)] at hg111
   have H := hg111
   obtain rfl := Option.some.inj H
   refine Tr.pass rfl rfl rfl rfl rfl (by decide) ?_
   refine Tr.pass rfl rfl rfl rfl rfl (by decide) ?_
   refine Tr.pass rfl rfl rfl rfl rfl (by decide) ?_
   refine Tr.pass rfl rfl rfl rfl rfl (by decide) ?_
   refine Tr.pass rfl rfl rfl rfl rfl (by decide) ?_
   refine Tr.pass rfl rfl rfl rfl rfl (by decide) ?_
   refine Tr.pass rfl rfl rfl rfl rfl (by decide) ?_
   refine Tr.va rfl (fun _ _ h1 h2 => run_pickF (h1.ev rfl) (h1.ev rfl)) ?_
   exact Tr.nil (Tr.fin0 (.cons rfl (.cons rfl (.cons rfl (.cons rfl .nil)))) .nil)
  ·rw [hg123] at hg111
   rw [if_pos rfl] at hg111
   have H := hg111
   refine Tr.val (wg rfl rfl rfl) rfl (fun _ _ h1 h2 => run_move (h1.ev rfl)) ?_
   refine Tr.val (wg rfl rfl rfl) rfl (fun _ _ h1 h2 => run_move (h1.ev rfl)) ?_
   refine Tr.val (wg rfl rfl rfl) rfl (fun _ _ h1 h2 => run_sub (h1.ev rfl) (h1.ev rfl)) ?_
   obtain ⟨x112, hx112, H⟩ := bnd H
   obtain ⟨hx1120, hx1121, hx1122⟩ := idx_some hx112
   refine Tr.val (wg rfl rfl rfl) rfl (fun _ _ h1 h2 => run_indexAddr el_44 (h1.ev rfl) hp0_0.form (h1.ev rfl) hx1120 hx1121) ?_
   refine Tr.val (wg rfl rfl rfl) rfl (fun _ _ h1 h2 => run_load1 ag_3 (h1.ev rfl) (rdF ef_i64 (hp0_0.rl) hx1122 h2) rfl) ?_
   refine Tr.val (wg rfl rfl rfl) rfl (fun _ _ h1 h2 => run_move (h1.ev rfl)) ?_
   refine Tr.val (wg rfl rfl rfl) rfl (fun _ _ h1 h2 => run_gtr (h1.ev rfl) (h1.ev rfl)) ?_
   refine Tr.va rfl (fun _ _ h1 h2 => run_pickT (h1.ev rfl) (h1.ev rfl)) ?_
   obtain rfl := Option.some.inj H
   exact Tr.nil (Tr.fin0 (.cons rfl (.cons rfl (.cons rfl (.cons rfl .nil)))) .nil)
 ·show Tr _ _ (LF [(0, (.slice Ap0_0 (p0).length cp0_0)), (1, (.int .i64 p1)), (5, (.int .i64 x109)), (19, (.bool g111))]) (LE []) _
  refine Tr.nil (Tr.normThen ?_)
  refine Tr.cond rfl H (fun H => ?_) (fun H => ?_)
  ·refine Tr.skip (Tr.normThen ?_)
   refine Tr.block ?_
   refine Tr.region ?_
   refine Tr.mv rfl rfl ?_
   refine Tr.va rfl (fun _ _ h1 h2 => run_sub (h1.ev rfl) (h1.ev rfl)) ?_
   refine Tr.asg rfl rfl ?_
   refine Tr.nil (Tr.normBlock ?_)
   exact Tr.backThen leF_etchhouseref9_number_L1 (w64 (x109 - 1)) H (.cons rfl (.cons rfl (.cons rfl .nil))) .nil
  ·refine Tr.exit (Tr.exitThen (Tr.exitThen (Tr.exitBlock (Tr.normThen ?_))))
   refine Tr.seq ?_
   refine Tr.sr ?_
   refine Tr.mv rfl rfl ?_
   refine Tr.va rfl (fun _ _ h1 h2 => run_gtr (h1.ev rfl) (h1.ev rfl)) ?_
   refine Tr.mv rfl rfl ?_
   obtain ⟨g114, hg114, H⟩ := bnd H
   refine Tr.mid0 8 [(0, (.slice Ap0_0 (p0).length cp0_0)), (1, (.int .i64 p1)), (5, (.int .i64 x109)), (32, (.bool g114))] [] ?_ ?_
   ·cases hg123 : (decide (0 < x109))
    ·rw [hg123] at hg114
     rw [if_neg (by decide)] at hg114
     have H := hg114
     obtain rfl := Option.some.inj H
     refine Tr.pass rfl rfl rfl rfl rfl (by decide) ?_
     refine Tr.pass rfl rfl rfl rfl rfl (by decide) ?_
     refine Tr.pass rfl rfl rfl rfl rfl (by decide) ?_
     refine Tr.pass rfl rfl rfl rfl rfl (by decide) ?_
     refine Tr.pass rfl rfl rfl rfl rfl (by decide) ?_
     refine Tr.pass rfl rfl rfl rfl rfl (by decide) ?_
     refine Tr.pass rfl rfl rfl rfl rfl (by decide) ?_
     refine Tr.va rfl (fun _ _ h1 h2 => run_pickF (h1.ev rfl) (h1.ev rfl)) ?_
     exact Tr.nil (Tr.fin0 (.cons rfl (.cons rfl (.cons rfl (.cons rfl .nil)))) .nil)
    ·rw [hg123] at hg114
     rw [if_pos rfl] at hg114
     have H := hg114
     refine Tr.val (wg rfl rfl rfl) rfl (fun _ _ h1 h2 => run_move (h1.ev rfl)) ?_
     refine Tr.val (wg rfl rfl rfl) rfl (fun _ _ h1 h2 => run_move (h1.ev rfl)) ?_
     refine Tr.val (wg rfl rfl rfl) rfl (fun _ _ h1 h2 => run_sub (h1.ev rfl) (h1.ev rfl)) ?_
     obtain ⟨x115, hx115, H⟩ := bnd H
     obtain ⟨hx1150, hx1151, hx1152⟩ := idx_some hx115
     refine Tr.val (wg rfl rfl rfl) rfl (fun _ _ h1 h2 => run_indexAddr el_44 (h1.ev rfl) hp0_0.form (h1.ev rfl) hx1150 hx1151) ?_
     refine Tr.val (wg rfl rfl rfl) rfl (fun _ _ h1 h2 => run_load1 ag_3 (h1.ev rfl) (rdF ef_i64 (hp0_0.rl) hx1152 h2) rfl) ?_
     refine Tr.val (wg rfl rfl rfl) rfl (fun _ _ h1 h2 => run_move (h1.ev rfl)) ?_
     refine Tr.val (wg rfl rfl rfl) rfl (fun _ _ h1 h2 => run_eql (h1.ev rfl) (h1.ev rfl)) ?_
     refine Tr.va rfl (fun _ _ h1 h2 => run_pickT (h1.ev rfl) (h1.ev rfl)) ?_
     obtain rfl := Option.some.inj H
     exact Tr.nil (Tr.fin0 (.cons rfl (.cons rfl (.cons rfl (.cons rfl .nil)))) .nil)
   ·show Tr _ _ (LF [(0, (.slice Ap0_0 (p0).length cp0_0)), (1, (.int .i64 p1)), (5, (.int .i64 x109)), (32, (.bool g114))]) (LE []) _
    refine Tr.nil (Tr.normThen ?_)
    refine Tr.cond rfl H (fun H => ?_) (fun H => ?_)
    ·refine Tr.sr ?_
     refine Tr.mv rfl rfl ?_
     refine Tr.asg rfl rfl ?_
     refine Tr.nil (Tr.normThen ?_)
     refine Tr.ret (Tr.retThen ?_)
     obtain rfl := Option.some.inj H
     exact Tr.out (m := [(.slice Ap0_0 (p0).length cp0_0)]) [] (res_tmp rfl res_nil) (fun W hW => ⟨w, (Ap0_0, cp0_0), leB, rfl, hp0_0, hW.pick (ks := []) (by decide) pk_nil⟩)
    ·refine Tr.skip (Tr.normThen ?_)
     refine Tr.sr ?_
     refine Tr.asg rfl rfl ?_
     refine Tr.nilOwn 2 3 fl_i64 ?_
     show Tr _ _ (uf _ 6 (.slice none (([] : List Int)).length 0)) _ _
     refine Tr.nil (Tr.normThen ?_)
     refine Tr.sr ?_
     refine Tr.mv rfl rfl ?_
     refine Tr.mv rfl rfl ?_
     refine Tr.mv rfl rfl ?_
     obtain ⟨l116, hl116, H⟩ := bnd H
     refine Tr.va rfl (fun _ _ h1 h2 => run_pre el_44 (h1.ev rfl) hp0_0.form (h1.ev rfl) hl116) ?_
     obtain ⟨l117, hl117, H⟩ := bnd H
     refine Tr.appendS 2 (t := fl_i64) (l := ([] : List Int)) (l2 := l116) (wn rfl) rfl rfl rfl rfl (apT tr_i64 (fun W hW => (Sl.pre (Sl.inB (hp0_0.rl) hW) hl116))) un_44 sz_3 zl_3 (by decide) by_3 rfl hl117 fun Al117 cl117 hAl117 => ?_
     refine Tr.asg rfl rfl ?_
     refine Tr.nil (Tr.normThen ?_)
     refine Tr.sr ?_
     refine Tr.mv rfl rfl ?_
     refine Tr.mv rfl rfl ?_
     refine Tr.buildSlice 3 (e := 3) (vs := [(0, (.int .i64 p1))]) (cs := [(.int .i64 p1)]) (wn rfl) rfl (evs_cons rfl evs_nil) (by kernel_rfl) fun b118 => ?_
     obtain ⟨l119, hl119, H⟩ := bnd H
     refine Tr.append 2 (t := fl_i64) (l := l117) (l2 := [p1]) (wn rfl) rfl rfl rfl rfl (fun W hW => ⟨[[(.int .i64 p1)]], (.cons ⟨(), trivial, rfl⟩ .nil), rdb hW (vs := [(.int .i64 p1)]) (k := 3) rfl 0⟩) un_44 sz_3 zl_3 (by decide) by_3 rfl hl119 fun Al119 cl119 hAl119 => ?_
     refine Tr.asg rfl rfl ?_
     refine Tr.nil (Tr.normThen ?_)
     refine Tr.sr ?_
     refine Tr.mv rfl rfl ?_
     refine Tr.mv rfl rfl ?_
     refine Tr.mv rfl rfl ?_
     obtain ⟨l120, hl120, H⟩ := bnd H
     refine Tr.va rfl (fun _ _ h1 h2 => run_cutL el_44 (h1.ev rfl) hp0_0.form (h1.ev rfl) hl120) ?_
     obtain ⟨l121, hl121, H⟩ := bnd H
     refine Tr.appendS 2 (t := fl_i64) (l := l119) (l2 := l120) (wn rfl) rfl rfl rfl rfl (apT tr_i64 (fun W hW => (Sl.cut (Sl.inB (hp0_0.rl) hW) hl120))) un_44 sz_3 zl_3 (by decide) by_3 rfl hl121 fun Al121 cl121 hAl121 => ?_
     refine Tr.asg rfl rfl ?_
     refine Tr.nil (Tr.normThen ?_)
     refine Tr.ret ?_
     obtain rfl := Option.some.inj H
     refine Tr.freeze 2 rfl fun w le123 hz122 => ?_
     replace hp0_0 := hp0_0.le le123
     replace leB := leB.trans le123
     replace leF_etchhouseref9_number_L1 := leF_etchhouseref9_number_L1.trans le123
     exact Tr.out (m := [(.slice Al121 (l121).length cl121)]) [] (res_tmp rfl res_nil) (fun W hW => ⟨w, (Al121, cl121), leB, rfl, hz122, hW.pick (ks := []) (by decide) pk_nil⟩)

theorem F_etchhouseref9_Order_ok (N : Nat) {w : Bs} (p0 : TPanel) (Ap0_0 : Option Addr) (cp0_0 : Nat) (hp0_0 : Sl w.R w.W fl_TBoardKind Ap0_0 cp0_0 p0.Kinds) (Ap0_1 : Option Addr) (cp0_1 : Nat) (hp0_1 : Sl w.R w.W fl_TSlot Ap0_1 cp0_1 p0.Slots) (Ap0_2 : Option Addr) (cp0_2 : Nat) (hp0_2 : Sl w.R w.W fl_TPoint Ap0_2 cp0_2 p0.Marks) (r : ((List Int) × Int)) (H : F_etchhouseref9_Order N p0 = some r) (hE : HF w w.W (LEn [emp])) : Calls Try.prog 23 [(.agg #[(.int .i64 p0.W), (.int .i64 p0.H), (.int .i64 p0.Rail), (.int .i64 p0.Gap), (.slice Ap0_0 (p0.Kinds).length cp0_0), (.slice Ap0_1 (p0.Slots).length cp0_1), (.slice Ap0_2 (p0.Marks).length cp0_2)])].toArray w.W fun e W' => ∃ u : (Option Addr × Nat), e = .returned (.tuple #[(.slice u.1 (r.1).length u.2), (.int .i64 r.2)]) ∧ (SlF u.1 (r.1).length u.2) ∧ HF w W' (LEn [ow u.1 u.2 3 fl_i64 r.1]) := by
 unfold F_etchhouseref9_Order at H
 have leB := Bs.Le.refl w
 refine Tr.enter (n := 101) Try.func23 rfl rfl rfl hE ?_
 refine Tr.sr ?_
 refine Tr.box 1 (cs := [(.int .i64 p0.W), (.int .i64 p0.H), (.int .i64 p0.Rail), (.int .i64 p0.Gap), (.slice Ap0_0 (p0.Kinds).length cp0_0), (.slice Ap0_1 (p0.Slots).length cp0_1), (.slice Ap0_2 (p0.Marks).length cp0_2)]) (wn rfl) rfl rfl rfl fun b100 => ?_
 refine Tr.asg rfl rfl ?_
 refine Tr.nilOwn 2 3 fl_i64 ?_
 show Tr _ _ (uf _ 2 (.slice none (([] : List Int)).length 0)) _ _
 refine Tr.asg rfl rfl ?_
 refine Tr.nil (Tr.normThen ?_)
 refine Tr.seq ?_
 refine Tr.sr ?_
 refine Tr.va rfl (fun _ _ h1 h2 => run_loadN (cs := [(.int .i64 p0.W), (.int .i64 p0.H), (.int .i64 p0.Rail), (.int .i64 p0.Gap), (.slice Ap0_0 (p0.Kinds).length cp0_0), (.slice Ap0_1 (p0.Slots).length cp0_1), (.slice Ap0_2 (p0.Marks).length cp0_2)]) ag_26 sz_26 (h1.ev rfl) (CellsAt.take (rdb h2 (vs := [(.int .i64 p0.W), (.int .i64 p0.H), (.int .i64 p0.Rail), (.int .i64 p0.Gap), (.slice Ap0_0 (p0.Kinds).length cp0_0), (.slice Ap0_1 (p0.Slots).length cp0_1), (.slice Ap0_2 (p0.Marks).length cp0_2)]) (k := 1) rfl 0) 7) rfl) ?_
 obtain ⟨y101, hy101, H⟩ := bnd H
 refine Tr.call0 (r := (.int .i64 y101)) (wn rfl) rfl Try.call19 (evl_cons rfl evl_nil) (fun W hW => F_etchhouseref9_CheckPanel_ok N p0 Ap0_0 cp0_0 (hp0_0.ext hW.extAll) Ap0_1 cp0_1 (hp0_1.ext hW.extAll) Ap0_2 cp0_2 (hp0_2.ext hW.extAll) y101 hy101 (HF.start _)) ?_
 refine Tr.asg rfl rfl ?_
 refine Tr.nil (Tr.normThen ?_)
 refine Tr.sr ?_
 refine Tr.mv rfl rfl ?_
 refine Tr.va rfl (fun _ _ h1 h2 => run_neq (h1.ev rfl) (h1.ev rfl)) ?_
 refine Tr.nil (Tr.normThen ?_)
 refine Tr.cond rfl H (fun H => ?_) (fun H => ?_)
 ·refine Tr.sr ?_
  refine Tr.mv rfl rfl ?_
  refine Tr.asg rfl rfl ?_
  refine Tr.nilOwn 3 3 fl_i64 ?_
  show Tr _ _ (uf _ 2 (.slice none (([] : List Int)).length 0)) _ _
  refine Tr.asg rfl rfl ?_
  refine Tr.nil (Tr.normThen ?_)
  refine Tr.ret (Tr.retThen ?_)
  obtain rfl := Option.some.inj H
  exact Tr.out (m := [(.slice none (([] : List Int)).length 0), (.int .i64 y101)]) [] (res_tmp rfl (res_tmp rfl res_nil)) (fun W hW => ⟨(none, 0), rfl, slf_nil, HF.lowE leB (hW.pick (ks := [3]) (by decide) (pk_cons rfl pk_nil)) ⟨ow_any _ _ _ _ tr_i64, trivial⟩⟩)
 ·refine Tr.skip (Tr.normThen ?_)
  refine Tr.sr ?_
  refine Tr.va rfl (fun _ _ h1 h2 => run_loadN (cs := [(.int .i64 p0.W), (.int .i64 p0.H), (.int .i64 p0.Rail), (.int .i64 p0.Gap), (.slice Ap0_0 (p0.Kinds).length cp0_0), (.slice Ap0_1 (p0.Slots).length cp0_1), (.slice Ap0_2 (p0.Marks).length cp0_2)]) ag_26 sz_26 (h1.ev rfl) (CellsAt.take (rdb h2 (vs := [(.int .i64 p0.W), (.int .i64 p0.H), (.int .i64 p0.Rail), (.int .i64 p0.Gap), (.slice Ap0_0 (p0.Kinds).length cp0_0), (.slice Ap0_1 (p0.Slots).length cp0_1), (.slice Ap0_2 (p0.Marks).length cp0_2)]) (k := 1) rfl 0) 7) rfl) ?_
  obtain ⟨y102, hy102, H⟩ := bnd H
  refine Tr.callM [4] [emp] (U := (Option Addr × Nat)) (fun u => (.slice u.1 (y102).length u.2)) (fun u => SlF u.1 (y102).length u.2) (fun u => [ow u.1 u.2 38 fl_TRect y102]) rfl (pk_cons rfl pk_nil) (fun _ => rfl) (wn rfl) rfl Try.call34 (evl_cons rfl evl_nil) (fun W hW hp hE => F_etchhouseref9_cells_ok N p0 Ap0_0 cp0_0 (hp0_0.ext (hW.extS hp)) Ap0_1 cp0_1 (hp0_1.ext (hW.extS hp)) Ap0_2 cp0_2 (hp0_2.ext (hW.extS hp)) y102 hy102 hE) ?_
  intro u hu
  obtain ⟨Ay102_0, cy102_0⟩ := u
  have gy102_0 := hu
  have hgy102_0 : SlF Ay102_0 (y102).length cy102_0 := gy102_0 --@phi
  show Tr _ _ (uf _ 20 (.slice Ay102_0 (y102).length cy102_0)) (up _ 4 (ow Ay102_0 cy102_0 38 fl_TRect y102)) _
  refine Tr.asg rfl rfl ?_
  refine Tr.nil (Tr.normThen ?_)
  refine Tr.sr ?_
  refine Tr.asg rfl rfl ?_
  refine Tr.nilOwn 5 3 fl_i64 ?_
  show Tr _ _ (uf _ 6 (.slice none (([] : List Int)).length 0)) _ _
  refine Tr.nil (Tr.normThen ?_)
  refine Tr.seq ?_
  refine Tr.sr ?_
  refine Tr.asg rfl rfl ?_
  refine Tr.nil (Tr.normThen ?_)
  refine Tr.block ?_
  refine Tr.freeze 5 rfl fun w le121 hz120 => ?_
  replace hp0_0 := hp0_0.leR le121
  replace hp0_1 := hp0_1.leR le121
  replace hp0_2 := hp0_2.leR le121
  replace leB := leB.trans le121
  refine Tr.loop (σ := (List Int) × Int × (Option Addr) × Nat) (fun m w s => F_etchhouseref9_Order_L1 N y102 m s.1 s.2.1 = some r ∧ Sl w.O w.W fl_i64 s.2.2.1 s.2.2.2 s.1) (fun s => [(5, (.slice Ay102_0 (y102).length cy102_0)), (6, (.slice s.2.2.1 (s.1).length s.2.2.2)), (7, (.int .i64 s.2.1))]) (fun s => [(4, ow Ay102_0 cy102_0 38 fl_TRect y102)]) N (([] : List Int), 0, none, 0) ⟨H, hz120⟩ (.cons rfl (.cons rfl (.cons rfl .nil))) (.cons rfl .nil) (fun _ _ h => noSome (h.1)) ?_
  intro w leF_etchhouseref9_Order_L1 mF_etchhouseref9_Order_L1 s hs
  obtain ⟨l118, x119, Al118, cl118⟩ := s
  obtain ⟨H, hl118⟩ := hs
  replace H : F_etchhouseref9_Order_L1 N y102 (mF_etchhouseref9_Order_L1 + 1) l118 x119 = some r := H
  replace leB := leB.trans leF_etchhouseref9_Order_L1
  replace hl118 : Sl w.O w.W fl_i64 Al118 cl118 l118 := hl118
  rw [F_etchhouseref9_Order_L1.eq_2] at H
  show Tr _ _ (LF [(5, (.slice Ay102_0 (y102).length cy102_0)), (6, (.slice Al118 (l118).length cl118)), (7, (.int .i64 x119))]) (LE [(4, ow Ay102_0 cy102_0 38 fl_TRect y102)]) _
  refine Tr.seq ?_
  refine Tr.sr ?_
  refine Tr.mv rfl rfl ?_
  refine Tr.mv rfl rfl ?_
  refine Tr.va rfl (fun _ _ h1 h2 => run_len un_32 (h1.ev rfl)) ?_
  refine Tr.va rfl (fun _ _ h1 h2 => run_lss (h1.ev rfl) (h1.ev rfl)) ?_
  refine Tr.nil (Tr.normThen ?_)
  refine Tr.cond rfl H (fun H => ?_) (fun H => ?_)
  ·refine Tr.skip (Tr.normThen ?_)
   refine Tr.seq ?_
   refine Tr.block ?_
   refine Tr.region ?_
   refine Tr.mv rfl rfl ?_
   refine Tr.mv rfl rfl ?_
   refine Tr.mv rfl rfl ?_
   obtain ⟨x122, hx122, H⟩ := bnd H
   obtain ⟨hx1220, hx1221, hx1222⟩ := idx_some hx122
   refine Tr.va rfl (fun _ _ h1 h2 => run_indexAddr el_32 (h1.ev rfl) hgy102_0 (h1.ev rfl) hx1220 hx1221) ?_
   refine Tr.va rfl (fun _ _ h1 h2 => run_fieldAddr fo_38_1 (h1.ev rfl)) ?_
   refine Tr.va rfl (fun _ _ h1 h2 => run_load1 ag_3 (h1.ev rfl) (CellsAt.drop (rdo ef_TRect (k := 4) h2 rfl hx1222) 1) rfl) ?_
   obtain ⟨y123, hy123, H⟩ := bnd H
   refine Tr.callG [] [] (U := (Option Addr × Nat)) (fun u => (.slice u.1 (y123).length u.2)) (fun O W u => Sl O W fl_i64 u.1 u.2 y123) (fun u => []) rfl pk_nil (fun _ => rfl) (wn rfl) rfl Try.call49 (evl_cons rfl (evl_cons rfl evl_nil)) (fun W hW hp hE => F_etchhouseref9_number_ok N l118 Al118 cl118 (hl118.extO (hW.extS hp)) x122.Y0 y123 hy123 hE) ?_
   intro w u le124 hu
   obtain ⟨Ay123_0, cy123_0⟩ := u
   have gy123_0 := hu
   replace hl118 := hl118.le le124
   replace leB := leB.trans le124
   replace leF_etchhouseref9_Order_L1 := leF_etchhouseref9_Order_L1.trans le124
   have hgy123_0 : Sl w.O w.W fl_i64 Ay123_0 cy123_0 y123 := gy123_0 --@phi
   show Tr _ _ (uf _ 33 (.slice Ay123_0 (y123).length cy123_0)) (_) _
   refine Tr.asg rfl rfl ?_
   refine Tr.nil (Tr.normBlock (Tr.normThen ?_))
   refine Tr.region ?_
   refine Tr.mv rfl rfl ?_
   refine Tr.va rfl (fun _ _ h1 h2 => run_add (h1.ev rfl) (h1.ev rfl)) ?_
   refine Tr.asg rfl rfl ?_
   refine Tr.nil ?_
   exact Tr.backThen leF_etchhouseref9_Order_L1 (y123, (w64 (x119 + 1)), Ay123_0, cy123_0) ⟨H, hgy123_0⟩ (.cons rfl (.cons rfl (.cons rfl .nil))) (.cons rfl .nil)
  ·refine Tr.exit (Tr.exitThen (Tr.exitThen (Tr.exitBlock (Tr.normThen ?_))))
   refine Tr.sr ?_
   refine Tr.asg rfl rfl ?_
   refine Tr.nilOwn 6 3 fl_i64 ?_
   show Tr _ _ (uf _ 8 (.slice none (([] : List Int)).length 0)) _ _
   refine Tr.nil (Tr.normThen ?_)
   refine Tr.seq ?_
   refine Tr.sr ?_
   refine Tr.asg rfl rfl ?_
   refine Tr.nil (Tr.normThen ?_)
   refine Tr.block ?_
   refine Tr.loop (σ := (List Int) × Int × (Option Addr) × Nat) (fun m w s => F_etchhouseref9_Order_L10 N y102 l118 m s.1 s.2.1 = some r ∧ SlF s.2.2.1 (s.1).length s.2.2.2) (fun s => [(5, (.slice Ay102_0 (y102).length cy102_0)), (6, (.slice Al118 (l118).length cl118)), (8, (.slice s.2.2.1 (s.1).length s.2.2.2)), (9, (.int .i64 s.2.1))]) (fun s => [(4, ow Ay102_0 cy102_0 38 fl_TRect y102), (6, ow s.2.2.1 s.2.2.2 3 fl_i64 s.1)]) N (([] : List Int), 0, none, 0) ⟨H, slf_nil⟩ (.cons rfl (.cons rfl (.cons rfl (.cons rfl .nil)))) (.cons rfl (.cons rfl .nil)) (fun _ _ h => noSome (h.1)) ?_
   intro w leF_etchhouseref9_Order_L10 mF_etchhouseref9_Order_L10 s hs
   obtain ⟨l347, x348, Al347, cl347⟩ := s
   obtain ⟨H, hl347⟩ := hs
   replace H : F_etchhouseref9_Order_L10 N y102 l118 (mF_etchhouseref9_Order_L10 + 1) l347 x348 = some r := H
   replace hl118 := hl118.le leF_etchhouseref9_Order_L10
   replace leB := leB.trans leF_etchhouseref9_Order_L10
   replace leF_etchhouseref9_Order_L1 := leF_etchhouseref9_Order_L1.trans leF_etchhouseref9_Order_L10
   replace hl347 : SlF Al347 (l347).length cl347 := hl347
   rw [F_etchhouseref9_Order_L10.eq_2] at H
   show Tr _ _ (LF [(5, (.slice Ay102_0 (y102).length cy102_0)), (6, (.slice Al118 (l118).length cl118)), (8, (.slice Al347 (l347).length cl347)), (9, (.int .i64 x348))]) (LE [(4, ow Ay102_0 cy102_0 38 fl_TRect y102), (6, ow Al347 cl347 3 fl_i64 l347)]) _
   refine Tr.seq ?_
   refine Tr.sr ?_
   refine Tr.mv rfl rfl ?_
   refine Tr.mv rfl rfl ?_
   refine Tr.va rfl (fun _ _ h1 h2 => run_len un_44 (h1.ev rfl)) ?_
   refine Tr.va rfl (fun _ _ h1 h2 => run_lss (h1.ev rfl) (h1.ev rfl)) ?_
   refine Tr.nil (Tr.normThen ?_)
   refine Tr.cond rfl H (fun H => ?_) (fun H => ?_)
   ·refine Tr.skip (Tr.normThen ?_)
    refine Tr.seq ?_
    refine Tr.block ?_
    refine Tr.sr ?_
    refine Tr.asg rfl rfl ?_
    refine Tr.nilOwn 29 3 fl_i64 ?_
    show Tr _ _ (uf _ 10 (.slice none (([] : List Int)).length 0)) _ _
    refine Tr.nil (Tr.normThen ?_)
    refine Tr.seq ?_
    refine Tr.sr ?_
    refine Tr.asg rfl rfl ?_
    refine Tr.nil (Tr.normThen ?_)
    refine Tr.block ?_
    refine Tr.ren 29 37 rfl rfl rfl ?_
    refine Tr.loop (σ := (List Int) × Int × (Option Addr) × Nat) (fun m w s => F_etchhouseref9_Order_L13 N y102 l118 l347 x348 (F_etchhouseref9_Order_L10 N y102 l118 mF_etchhouseref9_Order_L10) m s.1 s.2.1 = some r ∧ SlF s.2.2.1 (s.1).length s.2.2.2) (fun s => [(5, (.slice Ay102_0 (y102).length cy102_0)), (6, (.slice Al118 (l118).length cl118)), (8, (.slice Al347 (l347).length cl347)), (9, (.int .i64 x348)), (10, (.slice s.2.2.1 (s.1).length s.2.2.2)), (11, (.int .i64 s.2.1))]) (fun s => [(4, ow Ay102_0 cy102_0 38 fl_TRect y102), (6, ow Al347 cl347 3 fl_i64 l347), (37, ow s.2.2.1 s.2.2.2 3 fl_i64 s.1)]) N (([] : List Int), 0, none, 0) ⟨H, slf_nil⟩ (.cons rfl (.cons rfl (.cons rfl (.cons rfl (.cons rfl (.cons rfl .nil)))))) (.cons rfl (.cons rfl (.cons rfl .nil))) (fun _ _ h => noSome (h.1)) ?_
    intro w leF_etchhouseref9_Order_L13 mF_etchhouseref9_Order_L13 s hs
    obtain ⟨l421, x422, Al421, cl421⟩ := s
    obtain ⟨H, hl421⟩ := hs
    replace H : F_etchhouseref9_Order_L13 N y102 l118 l347 x348 (F_etchhouseref9_Order_L10 N y102 l118 mF_etchhouseref9_Order_L10) (mF_etchhouseref9_Order_L13 + 1) l421 x422 = some r := H
    replace hl118 := hl118.le leF_etchhouseref9_Order_L13
    replace leB := leB.trans leF_etchhouseref9_Order_L13
    replace leF_etchhouseref9_Order_L1 := leF_etchhouseref9_Order_L1.trans leF_etchhouseref9_Order_L13
    replace leF_etchhouseref9_Order_L10 := leF_etchhouseref9_Order_L10.trans leF_etchhouseref9_Order_L13
    replace hl421 : SlF Al421 (l421).length cl421 := hl421
    rw [F_etchhouseref9_Order_L13.eq_2] at H
    show Tr _ _ (LF [(5, (.slice Ay102_0 (y102).length cy102_0)), (6, (.slice Al118 (l118).length cl118)), (8, (.slice Al347 (l347).length cl347)), (9, (.int .i64 x348)), (10, (.slice Al421 (l421).length cl421)), (11, (.int .i64 x422))]) (LE [(4, ow Ay102_0 cy102_0 38 fl_TRect y102), (6, ow Al347 cl347 3 fl_i64 l347), (37, ow Al421 cl421 3 fl_i64 l421)]) _
    refine Tr.seq ?_
    refine Tr.sr ?_
    refine Tr.mv rfl rfl ?_
    refine Tr.mv rfl rfl ?_
    refine Tr.va rfl (fun _ _ h1 h2 => run_len un_32 (h1.ev rfl)) ?_
    refine Tr.va rfl (fun _ _ h1 h2 => run_lss (h1.ev rfl) (h1.ev rfl)) ?_
    refine Tr.nil (Tr.normThen ?_)
    refine Tr.cond rfl H (fun H => ?_) (fun H => ?_)
    ·refine Tr.skip (Tr.normThen ?_)
     refine Tr.seq ?_
     refine Tr.block ?_
     refine Tr.seq ?_
     refine Tr.seq ?_
     refine Tr.draw (by kernel_rfl) (by kernel_rfl) ?_
     refine Tq.mv rfl rfl ?_
     refine Tq.mv rfl rfl ?_
     obtain ⟨x423, hx423, H⟩ := bnd H
     obtain ⟨hx4230, hx4231, hx4232⟩ := idx_some hx423
     refine Tq.va rfl (fun _ _ h1 h2 => run_indexAddr el_32 (h1.ev rfl) hgy102_0 (h1.ev rfl) hx4230 hx4231) ?_
     refine Tq.va rfl (fun _ _ h1 h2 => run_fieldAddr fo_38_1 (h1.ev rfl)) ?_
     refine Tq.va rfl (fun _ _ h1 h2 => run_load1 ag_3 (h1.ev rfl) (CellsAt.drop (rdo ef_TRect (k := 4) h2 rfl hx4232) 1) rfl) ?_
     refine Tq.mv rfl rfl ?_
     refine Tq.mv rfl rfl ?_
     obtain ⟨x424, hx424, H⟩ := bnd H
     obtain ⟨hx4240, hx4241, hx4242⟩ := idx_some hx424
     refine Tq.va rfl (fun _ _ h1 h2 => run_indexAddr el_44 (h1.ev rfl) hl118.form (h1.ev rfl) hx4240 hx4241) ?_
     refine Tq.va rfl (fun _ _ h1 h2 => run_load1 ag_3 (h1.ev rfl) (rdF ef_i64 (hl118.rl) hx4242 h2) rfl) ?_
     refine Tq.va rfl (fun _ _ h1 h2 => run_neq (h1.ev rfl) (h1.ev rfl)) ?_
     refine Tq.nil (Tr.normThen ?_)
     refine Tr.cond rfl H (fun H => ?_) (fun H => ?_)
     ·refine Tr.exit (Tr.exitThen (Tr.exitBlock (Tr.normThen ?_)))
      refine Tr.region ?_
      refine Tr.mv rfl rfl ?_
      refine Tr.va rfl (fun _ _ h1 h2 => run_add (h1.ev rfl) (h1.ev rfl)) ?_
      refine Tr.asg rfl rfl ?_
      refine Tr.nil ?_
      exact Tr.backThen leF_etchhouseref9_Order_L13 (l421, (w64 (x422 + 1)), Al421, cl421) ⟨H, hl421⟩ (.cons rfl (.cons rfl (.cons rfl (.cons rfl (.cons rfl (.cons rfl .nil)))))) (.cons rfl (.cons rfl (.cons rfl .nil)))
     ·refine Tr.skip (Tr.normThen ?_)
      refine Tr.sr ?_
      refine Tr.mv rfl rfl ?_
      refine Tr.va rfl (fun _ _ h1 h2 => run_len un_44 (h1.ev rfl)) ?_
      refine Tr.asg rfl rfl ?_
      refine Tr.nil (Tr.normThen ?_)
      refine Tr.seq ?_
      refine Tr.block ?_
      refine Tr.loop (σ := Int) (fun m w s => F_etchhouseref9_Order_L14 y102 x348 l421 x422 (F_etchhouseref9_Order_L13 N y102 l118 l347 x348 (F_etchhouseref9_Order_L10 N y102 l118 mF_etchhouseref9_Order_L10) mF_etchhouseref9_Order_L13) m s = some r) (fun s => [(5, (.slice Ay102_0 (y102).length cy102_0)), (6, (.slice Al118 (l118).length cl118)), (8, (.slice Al347 (l347).length cl347)), (9, (.int .i64 x348)), (10, (.slice Al421 (l421).length cl421)), (11, (.int .i64 x422)), (12, (.int .i64 s))]) (fun s => [(4, ow Ay102_0 cy102_0 38 fl_TRect y102), (6, ow Al347 cl347 3 fl_i64 l347), (37, ow Al421 cl421 3 fl_i64 l421)]) N (l421.length : Int) H (.cons rfl (.cons rfl (.cons rfl (.cons rfl (.cons rfl (.cons rfl (.cons rfl .nil))))))) (.cons rfl (.cons rfl (.cons rfl .nil))) (fun _ _ h => noSome (h)) ?_
      intro w leF_etchhouseref9_Order_L14 mF_etchhouseref9_Order_L14 x442 hs
      have H := hs
      replace H : F_etchhouseref9_Order_L14 y102 x348 l421 x422 (F_etchhouseref9_Order_L13 N y102 l118 l347 x348 (F_etchhouseref9_Order_L10 N y102 l118 mF_etchhouseref9_Order_L10) mF_etchhouseref9_Order_L13) (mF_etchhouseref9_Order_L14 + 1) x442 = some r := H
      replace hl118 := hl118.le leF_etchhouseref9_Order_L14
      replace leB := leB.trans leF_etchhouseref9_Order_L14
      replace leF_etchhouseref9_Order_L1 := leF_etchhouseref9_Order_L1.trans leF_etchhouseref9_Order_L14
      replace leF_etchhouseref9_Order_L10 := leF_etchhouseref9_Order_L10.trans leF_etchhouseref9_Order_L14
      replace leF_etchhouseref9_Order_L13 := leF_etchhouseref9_Order_L13.trans leF_etchhouseref9_Order_L14
      rw [F_etchhouseref9_Order_L14.eq_2] at H
      show Tr _ _ (LF [(5, (.slice Ay102_0 (y102).length cy102_0)), (6, (.slice Al118 (l118).length cl118)), (8, (.slice Al347 (l347).length cl347)), (9, (.int .i64 x348)), (10, (.slice Al421 (l421).length cl421)), (11, (.int .i64 x422)), (12, (.int .i64 x442))]) (LE [(4, ow Ay102_0 cy102_0 38 fl_TRect y102), (6, ow Al347 cl347 3 fl_i64 l347), (37, ow Al421 cl421 3 fl_i64 l421)]) _
      refine Tr.seq ?_
      refine Tr.seq ?_
      refine Tr.draw (by kernel_rfl) (by kernel_rfl) ?_
      refine Tq.mv rfl rfl ?_
      refine Tq.va rfl (fun _ _ h1 h2 => run_gtr (h1.ev rfl) (h1.ev rfl)) ?_
      refine Tq.mv rfl rfl ?_
      obtain ⟨g446, hg446, H⟩ := bnd H
      refine Tq.mid 20 [(5, (.slice Ay102_0 (y102).length cy102_0)), (6, (.slice Al118 (l118).length cl118)), (8, (.slice Al347 (l347).length cl347)), (9, (.int .i64 x348)), (10, (.slice Al421 (l421).length cl421)), (11, (.int .i64 x422)), (12, (.int .i64 x442)), (80, (.bool g446))] ?_ ?_
      ·cases hg455 : (decide (0 < x442))
       ·rw [hg455] at hg446
        rw [if_neg (by decide)] at hg446
        have H := hg446
        obtain rfl := Option.some.inj H
        refine Tq.pass rfl rfl rfl rfl rfl (by decide) ?_
        refine Tq.pass rfl rfl rfl rfl rfl (by decide) ?_
        refine Tq.pass rfl rfl rfl rfl rfl (by decide) ?_
        refine Tq.pass rfl rfl rfl rfl rfl (by decide) ?_
        refine Tq.pass rfl rfl rfl rfl rfl (by decide) ?_
        refine Tq.pass rfl rfl rfl rfl rfl (by decide) ?_
        refine Tq.pass rfl rfl rfl rfl rfl (by decide) ?_
        refine Tq.pass rfl rfl rfl rfl rfl (by decide) ?_
        refine Tq.pass rfl rfl rfl rfl rfl (by decide) ?_
        refine Tq.pass rfl rfl rfl rfl rfl (by decide) ?_
        refine Tq.pass rfl rfl rfl rfl rfl (by decide) ?_
        refine Tq.pass rfl rfl rfl rfl rfl (by decide) ?_
        refine Tq.pass rfl rfl rfl rfl rfl (by decide) ?_
        refine Tq.pass rfl rfl rfl rfl rfl (by decide) ?_
        refine Tq.pass rfl rfl rfl rfl rfl (by decide) ?_
        refine Tq.pass rfl rfl rfl rfl rfl (by decide) ?_
        refine Tq.pass rfl rfl rfl rfl rfl (by decide) ?_
        refine Tq.pass rfl rfl rfl rfl rfl (by decide) ?_
        refine Tq.pass rfl rfl rfl rfl rfl (by decide) ?_
        refine Tq.va rfl (fun _ _ h1 h2 => run_pickF (h1.ev rfl) (h1.ev rfl)) ?_
        exact Tq.fin (.cons rfl (.cons rfl (.cons rfl (.cons rfl (.cons rfl (.cons rfl (.cons rfl (.cons rfl .nil))))))))
       ·rw [hg455] at hg446
        rw [if_pos rfl] at hg446
        have H := hg446
        refine Tq.val (wg rfl rfl rfl) rfl (fun _ _ h1 h2 => run_move (h1.ev rfl)) ?_
        refine Tq.val (wg rfl rfl rfl) rfl (fun _ _ h1 h2 => run_move (h1.ev rfl)) ?_
        refine Tq.val (wg rfl rfl rfl) rfl (fun _ _ h1 h2 => run_move (h1.ev rfl)) ?_
        refine Tq.val (wg rfl rfl rfl) rfl (fun _ _ h1 h2 => run_sub (h1.ev rfl) (h1.ev rfl)) ?_
        obtain ⟨x447, hx447, H⟩ := bnd H
        obtain ⟨hx4470, hx4471, hx4472⟩ := idx_some hx447
        refine Tq.val (wg rfl rfl rfl) rfl (fun _ _ h1 h2 => run_indexAddr el_44 (h1.ev rfl) hl421 (h1.ev rfl) hx4470 hx4471) ?_
        refine Tq.val (wg rfl rfl rfl) rfl (fun _ _ h1 h2 => run_load1 ag_3 (h1.ev rfl) (rdo ef_i64 (k := 37) h2 rfl hx4472) rfl) ?_
        obtain ⟨x448, hx448, H⟩ := bnd H
        obtain ⟨hx4480, hx4481, hx4482⟩ := idx_some hx448
        refine Tq.val (wg rfl rfl rfl) rfl (fun _ _ h1 h2 => run_indexAddr el_32 (h1.ev rfl) hgy102_0 (h1.ev rfl) hx4480 hx4481) ?_
        refine Tq.val (wg rfl rfl rfl) rfl (fun _ _ h1 h2 => run_fieldAddr fo_38_0 (h1.ev rfl)) ?_
        refine Tq.val (wg rfl rfl rfl) rfl (fun _ _ h1 h2 => run_load1 ag_3 (h1.ev rfl) (CellsAt.drop (rdo ef_TRect (k := 4) h2 rfl hx4482) 0) rfl) ?_
        refine Tq.val (wg rfl rfl rfl) rfl (fun _ _ h1 h2 => run_move (h1.ev rfl)) ?_
        refine Tq.val (wg rfl rfl rfl) rfl (fun _ _ h1 h2 => run_move (h1.ev rfl)) ?_
        obtain ⟨x449, hx449, H⟩ := bnd H
        obtain ⟨hx4490, hx4491, hx4492⟩ := idx_some hx449
        refine Tq.val (wg rfl rfl rfl) rfl (fun _ _ h1 h2 => run_indexAddr el_32 (h1.ev rfl) hgy102_0 (h1.ev rfl) hx4490 hx4491) ?_
        refine Tq.val (wg rfl rfl rfl) rfl (fun _ _ h1 h2 => run_fieldAddr fo_38_0 (h1.ev rfl)) ?_
        refine Tq.val (wg rfl rfl rfl) rfl (fun _ _ h1 h2 => run_load1 ag_3 (h1.ev rfl) (CellsAt.drop (rdo ef_TRect (k := 4) h2 rfl hx4492) 0) rfl) ?_
        refine Tq.val (wg rfl rfl rfl) rfl (fun _ _ h1 h2 => run_gtr (h1.ev rfl) (h1.ev rfl)) ?_
        refine Tq.val (wg rfl rfl rfl) rfl (fun _ _ h1 h2 => run_move (h1.ev rfl)) ?_
        refine Tq.val (wg rfl rfl rfl) rfl (fun _ _ h1 h2 => run_rem (h1.ev rfl) (h1.ev rfl) (by decide)) ?_
        refine Tq.val (wg rfl rfl rfl) rfl (fun _ _ h1 h2 => run_eql (h1.ev rfl) (h1.ev rfl)) ?_
        refine Tq.val (wg rfl rfl rfl) rfl (fun _ _ h1 h2 => run_eqlB un_4 (h1.ev rfl) (h1.ev rfl)) ?_
        refine Tq.va rfl (fun _ _ h1 h2 => run_pickT (h1.ev rfl) (h1.ev rfl)) ?_
        obtain rfl := Option.some.inj H
        exact Tq.fin (.cons rfl (.cons rfl (.cons rfl (.cons rfl (.cons rfl (.cons rfl (.cons rfl (.cons rfl .nil))))))))
      ·refine Tq.nil (Tr.normThen ?_)
       refine Tr.cond rfl H (fun H => ?_) (fun H => ?_)
       ·refine Tr.skip (Tr.normThen ?_)
        refine Tr.block ?_
        refine Tr.region ?_
        refine Tr.mv rfl rfl ?_
        refine Tr.va rfl (fun _ _ h1 h2 => run_sub (h1.ev rfl) (h1.ev rfl)) ?_
        refine Tr.asg rfl rfl ?_
        refine Tr.nil (Tr.normBlock ?_)
        exact Tr.backThen leF_etchhouseref9_Order_L14 (w64 (x442 - 1)) H (.cons rfl (.cons rfl (.cons rfl (.cons rfl (.cons rfl (.cons rfl (.cons rfl .nil))))))) (.cons rfl (.cons rfl (.cons rfl .nil)))
       ·refine Tr.exit (Tr.exitThen (Tr.exitThen (Tr.exitBlock (Tr.normThen ?_))))
        refine Tr.sr ?_
        refine Tr.asg rfl rfl ?_
        refine Tr.nilOwn 38 3 fl_i64 ?_
        show Tr _ _ (uf _ 13 (.slice none (([] : List Int)).length 0)) _ _
        refine Tr.nil (Tr.normThen ?_)
        refine Tr.sr ?_
        refine Tr.mv rfl rfl ?_
        refine Tr.mv rfl rfl ?_
        refine Tr.mv rfl rfl ?_
        obtain ⟨l450, hl450, H⟩ := bnd H
        refine Tr.va rfl (fun _ _ h1 h2 => run_pre el_44 (h1.ev rfl) hl421 (h1.ev rfl) hl450) ?_
        obtain ⟨l451, hl451, H⟩ := bnd H
        refine Tr.appendS 38 (t := fl_i64) (l := ([] : List Int)) (l2 := l450) (wn rfl) rfl rfl rfl rfl (apT tr_i64 (fun W hW => (Sl.pre (hW.slB (k := 37) rfl) hl450))) un_44 sz_3 zl_3 (by decide) by_3 rfl hl451 fun Al451 cl451 hAl451 => ?_
        refine Tr.asg rfl rfl ?_
        refine Tr.nil (Tr.normThen ?_)
        refine Tr.sr ?_
        refine Tr.mv rfl rfl ?_
        refine Tr.mv rfl rfl ?_
        refine Tr.buildSlice 39 (e := 3) (vs := [(0, (.int .i64 x422))]) (cs := [(.int .i64 x422)]) (wn rfl) rfl (evs_cons rfl evs_nil) (by kernel_rfl) fun b452 => ?_
        obtain ⟨l453, hl453, H⟩ := bnd H
        refine Tr.append 38 (t := fl_i64) (l := l451) (l2 := [x422]) (wn rfl) rfl rfl rfl rfl (fun W hW => ⟨[[(.int .i64 x422)]], (.cons ⟨(), trivial, rfl⟩ .nil), rdb hW (vs := [(.int .i64 x422)]) (k := 39) rfl 0⟩) un_44 sz_3 zl_3 (by decide) by_3 rfl hl453 fun Al453 cl453 hAl453 => ?_
        refine Tr.asg rfl rfl ?_
        refine Tr.nil (Tr.normThen ?_)
        refine Tr.region ?_
        refine Tr.mv rfl rfl ?_
        refine Tr.mv rfl rfl ?_
        refine Tr.mv rfl rfl ?_
        obtain ⟨l454, hl454, H⟩ := bnd H
        refine Tr.va rfl (fun _ _ h1 h2 => run_cutL el_44 (h1.ev rfl) hl421 (h1.ev rfl) hl454) ?_
        obtain ⟨l455, hl455, H⟩ := bnd H
        refine Tr.appendS 38 (t := fl_i64) (l := l453) (l2 := l454) (wn rfl) rfl rfl rfl rfl (apT tr_i64 (fun W hW => (Sl.cut (hW.slB (k := 37) rfl) hl454))) un_44 sz_3 zl_3 (by decide) by_3 rfl hl455 fun Al455 cl455 hAl455 => ?_
        refine Tr.asg rfl rfl ?_
        refine Tr.nil (Tr.normBlock (Tr.normThen ?_))
        refine Tr.region ?_
        refine Tr.mv rfl rfl ?_
        refine Tr.va rfl (fun _ _ h1 h2 => run_add (h1.ev rfl) (h1.ev rfl)) ?_
        refine Tr.asg rfl rfl ?_
        refine Tr.nil ?_
        refine Tr.dropK 37 ?_
        refine Tr.ren 38 37 rfl rfl rfl ?_
        exact Tr.backThen leF_etchhouseref9_Order_L13 (l455, (w64 (x422 + 1)), Al455, cl455) ⟨H, hAl455⟩ (.cons rfl (.cons rfl (.cons rfl (.cons rfl (.cons rfl (.cons rfl .nil)))))) (.cons rfl (.cons rfl (.cons rfl .nil)))
    ·refine Tr.exit (Tr.exitThen (Tr.exitThen (Tr.exitBlock (Tr.normThen ?_))))
     refine Tr.region ?_
     refine Tr.mv rfl rfl ?_
     refine Tr.mv rfl rfl ?_
     obtain ⟨l456, hl456, H⟩ := bnd H
     refine Tr.appendS 6 (t := fl_i64) (l := l347) (l2 := l421) (wn rfl) rfl rfl rfl rfl (apT tr_i64 (fun W hW => (hW.slB (k := 37) rfl))) un_44 sz_3 zl_3 (by decide) by_3 rfl hl456 fun Al456 cl456 hAl456 => ?_
     refine Tr.asg rfl rfl ?_
     refine Tr.nil (Tr.normBlock (Tr.normThen ?_))
     refine Tr.region ?_
     refine Tr.mv rfl rfl ?_
     refine Tr.va rfl (fun _ _ h1 h2 => run_add (h1.ev rfl) (h1.ev rfl)) ?_
     refine Tr.asg rfl rfl ?_
     refine Tr.nil ?_
     exact Tr.backThen leF_etchhouseref9_Order_L10 (l456, (w64 (x348 + 1)), Al456, cl456) ⟨H, hAl456⟩ (.cons rfl (.cons rfl (.cons rfl (.cons rfl .nil)))) (.cons rfl (.cons rfl .nil))
   ·refine Tr.exit (Tr.exitThen (Tr.exitThen (Tr.exitBlock (Tr.normThen ?_))))
    refine Tr.sr ?_
    refine Tr.mv rfl rfl ?_
    refine Tr.asg rfl rfl ?_
    refine Tr.asg rfl rfl ?_
    refine Tr.nil (Tr.normThen ?_)
    refine Tr.ret ?_
    obtain rfl := Option.some.inj H
    exact Tr.out (m := [(.slice Al347 (l347).length cl347), (.int .i64 0)]) [] (res_tmp rfl (res_tmp rfl res_nil)) (fun W hW => ⟨(Al347, cl347), rfl, hl347, HF.lowE leB (hW.pick (ks := [6]) (by decide) (pk_cons rfl pk_nil)) ⟨ow_any _ _ _ _ tr_i64, trivial⟩⟩)

theorem F_slices_Equal_int_ok {w : Bs} (p0 : (List Int)) (Ap0_0 : Option Addr) (cp0_0 : Nat) (hp0_0 : Sl w.R w.W fl_i64 Ap0_0 cp0_0 p0) (p1 : (List Int)) (Ap1_0 : Option Addr) (cp1_0 : Nat) (hp1_0 : Sl w.R w.W fl_i64 Ap1_0 cp1_0 p1) (r : Bool) (H : F_slices_Equal_int p0 p1 = some r) (hE : HF w w.W E0) : Calls Try.prog 24 [(.slice Ap0_0 (p0).length cp0_0), (.slice Ap1_0 (p1).length cp1_0)].toArray w.W fun e W' => e = .returned (.bool r) ∧ HF w W' E0 := by
 unfold F_slices_Equal_int at H
 have leB := Bs.Le.refl w
 refine Tr.enter (n := 26) Try.func24 rfl rfl rfl hE ?_
 refine Tr.sr ?_
 refine Tr.asg rfl rfl ?_
 refine Tr.nil (Tr.normThen ?_)
 refine Tr.seq ?_
 refine Tr.sr ?_
 refine Tr.mv rfl rfl ?_
 refine Tr.va rfl (fun _ _ h1 h2 => run_len un_44 (h1.ev rfl)) ?_
 refine Tr.mv rfl rfl ?_
 refine Tr.va rfl (fun _ _ h1 h2 => run_len un_44 (h1.ev rfl)) ?_
 refine Tr.va rfl (fun _ _ h1 h2 => run_neq (h1.ev rfl) (h1.ev rfl)) ?_
 refine Tr.nil (Tr.normThen ?_)
 refine Tr.cond rfl H (fun H => ?_) (fun H => ?_)
 ·refine Tr.sr ?_
  refine Tr.asg rfl rfl ?_
  refine Tr.nil (Tr.normThen ?_)
  refine Tr.ret (Tr.retThen ?_)
  obtain rfl := Option.some.inj H
  exact Tr.out (m := [(.bool false)]) [] (res_tmp rfl res_nil) (fun W hW => ⟨rfl, hW.low leB⟩)
 ·refine Tr.skip (Tr.normThen ?_)
  refine Tr.seq ?_
  refine Tr.sr ?_
  refine Tr.mv rfl rfl ?_
  refine Tr.va rfl (fun _ _ h1 h2 => run_len un_44 (h1.ev rfl)) ?_
  refine Tr.mv rfl rfl ?_
  refine Tr.nil (Tr.normThen ?_)
  refine Tr.block ?_
  refine Tr.loop (σ := (List Int) × Nat) (fun m w s => m = s.1.length + 1 ∧ s.1 = List.drop s.2 p0 ∧ s.2 ≤ p0.length ∧ F_slices_Equal_int_L1 p1 s.1 s.2 = some r) (fun s => [(0, (.slice Ap0_0 (p0).length cp0_0)), (1, (.slice Ap1_0 (p1).length cp1_0)), (12, (.int .i64 (p0.length : Int))), (13, (.int .i64 (s.2 : Int)))]) (fun s => []) (p0.length + 1) (p0, 0) ⟨rfl, rfl, Nat.zero_le _, H⟩ (.cons rfl (.cons rfl (.cons rfl (.cons rfl .nil)))) .nil (fun _ _ h => absurd h.1 (by simp)) ?_
  intro w leF_slices_Equal_int_L1 m s hs
  obtain ⟨restF_slices_Equal_int_L1, iF_slices_Equal_int_L1⟩ := s
  obtain ⟨hmF_slices_Equal_int_L1, hdF_slices_Equal_int_L1, hiF_slices_Equal_int_L1, H⟩ := hs
  replace hdF_slices_Equal_int_L1 : restF_slices_Equal_int_L1 = List.drop iF_slices_Equal_int_L1 p0 := hdF_slices_Equal_int_L1
  replace H : F_slices_Equal_int_L1 p1 restF_slices_Equal_int_L1 iF_slices_Equal_int_L1 = some r := H
  replace hmF_slices_Equal_int_L1 : m + 1 = restF_slices_Equal_int_L1.length + 1 := hmF_slices_Equal_int_L1
  replace hp0_0 := hp0_0.leR leF_slices_Equal_int_L1
  replace hp1_0 := hp1_0.leR leF_slices_Equal_int_L1
  replace leB := leB.trans leF_slices_Equal_int_L1
  obtain rfl : m = restF_slices_Equal_int_L1.length := by omega
  clear hmF_slices_Equal_int_L1
  show Tr _ _ (LF [(0, (.slice Ap0_0 (p0).length cp0_0)), (1, (.slice Ap1_0 (p1).length cp1_0)), (12, (.int .i64 (p0.length : Int))), (13, (.int .i64 (iF_slices_Equal_int_L1 : Int)))]) (LE []) _
  cases restF_slices_Equal_int_L1 with
  | nil =>
   rw [F_slices_Equal_int_L1.eq_1] at H
   refine Tr.sr ?_
   refine Tr.va rfl (fun _ _ h1 h2 => run_lss (h1.ev rfl) (h1.ev rfl)) ?_
   refine Tr.nil (Tr.normThen ?_)
   refine Tr.seq ?_
   refine Tr.condF rfl (range_nil hdF_slices_Equal_int_L1) ?_
   refine Tr.exit (Tr.exitThen (Tr.exitThen (Tr.exitBlock (Tr.normThen ?_))))
   refine Tr.sr ?_
   refine Tr.asg rfl rfl ?_
   refine Tr.nil (Tr.normThen ?_)
   refine Tr.ret ?_
   obtain rfl := Option.some.inj H
   exact Tr.out (m := [(.bool true)]) [] (res_tmp rfl res_nil) (fun W hW => ⟨rfl, hW.low leB⟩)
  | cons xF_slices_Equal_int_L1 restF_slices_Equal_int_L1 =>
   rw [F_slices_Equal_int_L1.eq_2] at H
   refine Tr.sr ?_
   refine Tr.va rfl (fun _ _ h1 h2 => run_lss (h1.ev rfl) (h1.ev rfl)) ?_
   refine Tr.nil (Tr.normThen ?_)
   refine Tr.seq ?_
   refine Tr.condT rfl (range_on hdF_slices_Equal_int_L1) ?_
   refine Tr.skip (Tr.normThen ?_)
   refine Tr.seq ?_
   refine Tr.block ?_
   refine Tr.sr ?_
   refine Tr.mv rfl rfl ?_
   refine Tr.asg rfl rfl ?_
   refine Tr.nil (Tr.normThen ?_)
   refine Tr.seq ?_
   refine Tr.draw (by kernel_rfl) (by kernel_rfl) ?_
   refine Tq.mv rfl rfl ?_
   refine Tq.mv rfl rfl ?_
   refine Tq.va rfl (fun _ _ h1 h2 => run_indexAddr el_44 (h1.ev rfl) hp0_0.form (h1.ev rfl) (Int.natCast_nonneg _) (range_lt hdF_slices_Equal_int_L1)) ?_
   refine Tq.va rfl (fun _ _ h1 h2 => run_load1 ag_3 (h1.ev rfl) (rdF ef_i64 hp0_0 (range_at hdF_slices_Equal_int_L1) h2) rfl) ?_
   refine Tq.mv rfl rfl ?_
   refine Tq.mv rfl rfl ?_
   obtain ⟨x103, hx103, H⟩ := bnd H
   obtain ⟨hx1030, hx1031, hx1032⟩ := idx_some hx103
   refine Tq.va rfl (fun _ _ h1 h2 => run_indexAddr el_44 (h1.ev rfl) hp1_0.form (h1.ev rfl) hx1030 hx1031) ?_
   refine Tq.va rfl (fun _ _ h1 h2 => run_load1 ag_3 (h1.ev rfl) (rdF ef_i64 hp1_0 hx1032 h2) rfl) ?_
   refine Tq.va rfl (fun _ _ h1 h2 => run_neq (h1.ev rfl) (h1.ev rfl)) ?_
   refine Tq.nil (Tr.normThen ?_)
   refine Tr.cond rfl H (fun H => ?_) (fun H => ?_)
   ·refine Tr.sr ?_
    refine Tr.asg rfl rfl ?_
    refine Tr.nil (Tr.normThen ?_)
    refine Tr.ret (Tr.retBlock (Tr.retThen (Tr.retThen (Tr.retBlock (Tr.retThen ?_)))))
    obtain rfl := Option.some.inj H
    exact Tr.out (m := [(.bool false)]) [] (res_tmp rfl res_nil) (fun W hW => ⟨rfl, hW.low leB⟩)
   ·refine Tr.skip (Tr.normBlock (Tr.normThen ?_))
    refine Tr.region ?_
    refine Tr.va rfl (fun _ _ h1 h2 => run_add (h1.ev rfl) (h1.ev rfl)) ?_
    refine Tr.mv rfl rfl ?_
    refine Tr.nil ?_
    exact Tr.backThen leF_slices_Equal_int_L1 (restF_slices_Equal_int_L1, (iF_slices_Equal_int_L1 + 1)) ⟨rfl, range_tl hdF_slices_Equal_int_L1, range_lt hdF_slices_Equal_int_L1, H⟩ (.cons rfl (.cons rfl (.cons rfl (.cons (congrArg (fun z => some (Value.int .i64 z)) (range_up hdF_slices_Equal_int_L1 hp0_0.form)) .nil)))) .nil

end Go.Proofs.Ytfddmjoldoddlaa
