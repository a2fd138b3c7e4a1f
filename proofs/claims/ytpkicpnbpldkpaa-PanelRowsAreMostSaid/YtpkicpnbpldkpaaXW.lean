/- The walks: each function computes its plain function. -/
import Derived.Test.YtpkicpnbpldkpaaXWc
namespace Go.Proofs.Ytpkicpnbpldkpaa
open Go.RowKit
set_option maxRecDepth 100000
set_option maxHeartbeats 1000000
theorem F_panel_rows_ok (N : Nat) {w : World} (S0 : Nat → Prop) (hS : ∀ b, S0 b → b < w.heap.size) (p0 : TPanel) (Ap0_0 : Option Addr) (cp0_0 : Nat) (hp0_0s : Sl S0 w fl_TBoardKind Ap0_0 cp0_0 p0.Kinds) (Ap0_1 : Option Addr) (cp0_1 : Nat) (hp0_1s : Sl S0 w fl_TSlot Ap0_1 cp0_1 p0.Slots) (Ap0_2 : Option Addr) (cp0_2 : Nat) (hp0_2s : Sl S0 w fl_TPoint Ap0_2 cp0_2 p0.Marks) (p1 : ByteArray) (p2 : Int) (p3 : Int) (p4 : Int) (p5 : Int) (p6 : Int) (r : (TPanel × Int)) (H : F_panel_rows N p0 p1 p2 p3 p4 p5 p6 = some r) : Calls Try.prog 61 [(.agg #[(.int .i64 p0.W), (.int .i64 p0.H), (.int .i64 p0.Rail), (.int .i64 p0.Gap), (.slice Ap0_0 (p0.Kinds).length cp0_0), (.slice Ap0_1 (p0.Slots).length cp0_1), (.slice Ap0_2 (p0.Marks).length cp0_2)]), (.string p1), (.int .i64 p2), (.int .i64 p3), (.int .i64 p4), (.int .i64 p5), (.int .i64 p6)].toArray w fun e W' => ∃ u : Option Addr × Nat × Option Addr × Nat × Option Addr × Nat, e = .returned (.tuple #[(.agg #[(.int .i64 r.1.W), (.int .i64 r.1.H), (.int .i64 r.1.Rail), (.int .i64 r.1.Gap), (.slice u.1 (r.1.Kinds).length u.2.1), (.slice u.2.2.1 (r.1.Slots).length u.2.2.2.1), (.slice u.2.2.2.2.1 (r.1.Marks).length u.2.2.2.2.2)]), (.int .i64 r.2)]) ∧ (Sl (fun b => S0 b ∨ (w.heap.size ≤ b ∧ b < W'.heap.size)) W' fl_TBoardKind u.1 u.2.1 r.1.Kinds ∧ Sl (fun b => S0 b ∨ (w.heap.size ≤ b ∧ b < W'.heap.size)) W' fl_TSlot u.2.2.1 u.2.2.2.1 r.1.Slots ∧ Sl (fun b => S0 b ∨ (w.heap.size ≤ b ∧ b < W'.heap.size)) W' fl_TPoint u.2.2.2.2.1 u.2.2.2.2.2 r.1.Marks) ∧ Below w.heap.size w W' := by
  unfold F_panel_rows at H
  have hp0_0 : Sl (lo w.heap.size) w fl_TBoardKind Ap0_0 cp0_0 p0.Kinds := Sl.mono hp0_0s hS
  have hp0_0z : Zs S0 w [] fl_TBoardKind Ap0_0 cp0_0 p0.Kinds := Zs.arg hS hp0_0s
  have hp0_1 : Sl (lo w.heap.size) w fl_TSlot Ap0_1 cp0_1 p0.Slots := Sl.mono hp0_1s hS
  have hp0_1z : Zs S0 w [] fl_TSlot Ap0_1 cp0_1 p0.Slots := Zs.arg hS hp0_1s
  have hp0_2 : Sl (lo w.heap.size) w fl_TPoint Ap0_2 cp0_2 p0.Marks := Sl.mono hp0_2s hS
  have hp0_2z : Zs S0 w [] fl_TPoint Ap0_2 cp0_2 p0.Marks := Zs.arg hS hp0_2s
  refine Tr.enter (n := 83) Try.func61 rfl rfl rfl ?_
  refine Tr.seq ?_
  refine Tr.region ?_
  refine Tr.box 1 (cs := [(.int .i64 p0.W), (.int .i64 p0.H), (.int .i64 p0.Rail), (.int .i64 p0.Gap), (.slice Ap0_0 (p0.Kinds).length cp0_0), (.slice Ap0_1 (p0.Slots).length cp0_1), (.slice Ap0_2 (p0.Marks).length cp0_2)]) (wn rfl) rfl rfl rfl fun b1 => ?_
  refine Tr.alloc 2 (wn rfl) rfl ze_26 fun b2 => ?_
  refine Tr.val (wn rfl) rfl (fun _ _ h1 h2 => run_assign (h1.ev rfl)) ?_
  refine Tr.nil (Tr.normThen ?_)
  refine Tr.seq ?_
  refine Tr.seq ?_
  refine Tr.region ?_
  refine Tr.val (wn rfl) rfl (fun _ _ h1 h2 => run_move (h1.ev rfl)) ?_
  refine Tr.val (wn rfl) rfl (fun _ _ h1 h2 => run_move (h1.ev rfl)) ?_
  refine Tr.val (wn rfl) rfl (fun _ _ h1 h2 => run_mul (h1.ev rfl) (h1.ev rfl)) ?_
  refine Tr.val (wn rfl) rfl (fun _ _ h1 h2 => run_move (h1.ev rfl)) ?_
  refine Tr.val (wn rfl) rfl (fun _ _ h1 h2 => run_move (h1.ev rfl)) ?_
  refine Tr.val (wn rfl) rfl (fun _ _ h1 h2 => run_mul (h1.ev rfl) (h1.ev rfl)) ?_
  refine Tr.val (wn rfl) rfl (fun _ _ h1 h2 => run_add (h1.ev rfl) (h1.ev rfl)) ?_
  refine Tr.val (wn rfl) rfl (fun _ _ h1 h2 => run_gtr (h1.ev rfl) (h1.ev rfl)) ?_
  refine Tr.nil (Tr.normThen ?_)
  refine Tr.cond rfl H (fun H => ?_) (fun H => ?_)
  · refine Tr.seq ?_
    refine Tr.region ?_
    refine Tr.build (vs := []) (cs := [(.int .i64 0), (.int .i64 0), (.int .i64 0), (.int .i64 0), (.slice none 0 0), (.slice none 0 0), (.slice none 0 0)]) (wn rfl) rfl evs_nil (by kernel_rfl) ?_
    refine Tr.store 2 (cs := [(.int .i64 0), (.int .i64 0), (.int .i64 0), (.int .i64 0), (.slice none 0 0), (.slice none 0 0), (.slice none 0 0)]) [(.int .i64 0), (.int .i64 0), (.int .i64 0), (.int .i64 0), (.slice none 0 0), (.slice none 0 0), (.slice none 0 0)] (wn rfl) rfl rfl rfl rfl sz_26 rfl rfl rfl ?_
    refine Tr.val (wn rfl) rfl (fun _ _ h1 h2 => run_assign (h1.ev rfl)) ?_
    refine Tr.nil (Tr.normThen ?_)
    refine Tr.ret (Tr.retThen ?_)
    obtain rfl := Option.some.inj H
    exact Tr.out (m := [(.agg #[(.int .i64 0), (.int .i64 0), (.int .i64 0), (.int .i64 0), (.slice none 0 0), (.slice none 0 0), (.slice none 0 0)]), (.int .i64 2)]) [2] (res_cell rfl rfl ag_26 sz_26 (res_tmp rfl res_nil)) (fun W hW => ⟨(none, 0, none, 0, none, 0), rfl, ⟨Sl.nil _ _ _, Sl.nil _ _ _, Sl.nil _ _ _⟩, hW.below⟩)
  · refine Tr.skip (Tr.normThen ?_)
    refine Tr.seq ?_
    obtain ⟨y2, hy2, H⟩ := bnd H
    obtain ⟨x3, hx3, H⟩ := bnd H
    obtain ⟨hx30, hx31, hx32⟩ := idx_some hx3
    refine Tr.drawF 8 [(7, .makeFunc (.func 0) #[] #[])] [(7, ⟨16, 3, (.func (.func 0) #[] #[]), fun b => .pointer (some ⟨b, 0, none⟩), fun b => bx b #[(.string ⟨#[]⟩), (.int .i64 0), (.int .i64 0)] 82⟩)] [(0, (.agg #[(.int .i64 p0.W), (.int .i64 p0.H), (.int .i64 p0.Rail), (.int .i64 p0.Gap), (.slice Ap0_0 (p0.Kinds).length cp0_0), (.slice Ap0_1 (p0.Slots).length cp0_1), (.slice Ap0_2 (p0.Marks).length cp0_2)])), (1, (.string p1)), (2, (.int .i64 p2)), (3, (.int .i64 p3)), (4, (.int .i64 p4)), (5, (.int .i64 p5)), (6, (.int .i64 p6)), (7, (.pointer (some ⟨b1, 0, none⟩))), (14, (.pointer (some ⟨b2, 0, none⟩))), (15, (.int .i64 0)), (16, (.func (.func 0) #[] #[])), (24, (.int .i64 p4)), (25, (.int .i64 p3)), (26, (.int .i64 (w64 (p4 * p3)))), (27, (.int .i64 p6)), (28, (.int .i64 p5)), (29, (.int .i64 (w64 (p6 * p5)))), (30, (.int .i64 (w64 ((w64 (p4 * p3)) + (w64 (p6 * p5)))))), (31, (.bool (decide (500 < (w64 ((w64 (p4 * p3)) + (w64 (p6 * p5)))))))), (33, (.pointer (some ⟨b1, 4, none⟩))), (34, (.slice Ap0_0 (p0.Kinds).length cp0_0)), (35, (.agg #[(.int .i64 p0.W), (.int .i64 p0.H), (.int .i64 p0.Rail), (.int .i64 p0.Gap), (.slice Ap0_0 (p0.Kinds).length cp0_0), (.slice Ap0_1 (p0.Slots).length cp0_1), (.slice Ap0_2 (p0.Marks).length cp0_2)])), (36, (.string p1)), (37, (.int .i64 y2)), (38, (.pointer (some ⟨adB Ap0_0, adO Ap0_0 + (y2).toNat * 3, none⟩))), (39, (.agg #[(.string x3.Name), (.int .i64 x3.W), (.int .i64 x3.H)]))] (by kernel_rfl) (by kernel_rfl) (by kernel_rfl) (by kernel_rfl) (by kernel_rfl) (by kernel_rfl) (by kernel_rfl) (fall_cons (fr_alloc rfl rfl ze_82) fall_nil) (fall_cons rfl fall_nil) (fall_cons rfl fall_nil) ?_ ?_
    · refine Tq.val (wn rfl) rfl (fun _ _ h1 h2 => run_fieldAddr fo_26_4 (h1.ev rfl)) ?_
      refine Tq.val (wn rfl) rfl (fun _ _ h1 h2 => run_load1 ag_22 (h1.ev rfl) (rdb h2 (vs := [(.int .i64 p0.W), (.int .i64 p0.H), (.int .i64 p0.Rail), (.int .i64 p0.Gap), (.slice Ap0_0 (p0.Kinds).length cp0_0), (.slice Ap0_1 (p0.Slots).length cp0_1), (.slice Ap0_2 (p0.Marks).length cp0_2)]) (k := 1) rfl 4) rfl) ?_
      refine Tq.val (wn rfl) rfl (fun _ _ h1 h2 => run_loadN (cs := [(.int .i64 p0.W), (.int .i64 p0.H), (.int .i64 p0.Rail), (.int .i64 p0.Gap), (.slice Ap0_0 (p0.Kinds).length cp0_0), (.slice Ap0_1 (p0.Slots).length cp0_1), (.slice Ap0_2 (p0.Marks).length cp0_2)]) ag_26 sz_26 (h1.ev rfl) (CellsAt.take (rdb h2 (vs := [(.int .i64 p0.W), (.int .i64 p0.H), (.int .i64 p0.Rail), (.int .i64 p0.Gap), (.slice Ap0_0 (p0.Kinds).length cp0_0), (.slice Ap0_1 (p0.Slots).length cp0_1), (.slice Ap0_2 (p0.Marks).length cp0_2)]) (k := 1) rfl 0) 7) rfl) ?_
      refine Tq.val (wn rfl) rfl (fun _ _ h1 h2 => run_move (h1.ev rfl)) ?_
      refine Tq.call0 (r := (.int .i64 y2)) (wn rfl) rfl Try.call45 (evl_cons rfl (evl_cons rfl evl_nil)) (fun W hW => F_panel_kindAt_ok p0 Ap0_0 cp0_0 (Sl.up hp0_0 hW) Ap0_1 cp0_1 (Sl.up hp0_1 hW) Ap0_2 cp0_2 (Sl.up hp0_2 hW) p1 y2 hy2) ?_
      refine Tq.val (wn rfl) rfl (fun _ _ h1 h2 => run_indexAddr el_22 (h1.ev rfl) hp0_0.form (h1.ev rfl) hx30 hx31) ?_
      refine Tq.val (wn rfl) rfl (fun _ _ h1 h2 => run_loadN (cs := [(.string x3.Name), (.int .i64 x3.W), (.int .i64 x3.H)]) ag_82 sz_82 (h1.ev rfl) (CellsAt.take (Rd.arg hp0_0 hx32 _ h2) 3) rfl) ?_
      refine Tq.mkFunc (vs := []) (wn rfl) rfl evl_nil ?_
      exact Tq.fin (.cons rfl (.cons rfl (.cons rfl (.cons rfl (.cons rfl (.cons rfl (.cons rfl (.cons rfl (.cons rfl (.cons rfl (.cons rfl (.cons rfl (.cons rfl (.cons rfl (.cons rfl (.cons rfl (.cons rfl (.cons rfl (.cons rfl (.cons rfl (.cons rfl (.cons rfl (.cons rfl (.cons rfl (.cons rfl (.cons rfl .nil))))))))))))))))))))))))))
    · intro bs1
      refine Tr.sel (lf := [(1, (.string p1)), (2, (.int .i64 p2)), (3, (.int .i64 p3)), (4, (.int .i64 p4)), (5, (.int .i64 p5)), (6, (.int .i64 p6)), (7, (.pointer (some ⟨b1, 0, none⟩))), (14, (.pointer (some ⟨b2, 0, none⟩))), (16, (.pointer (some ⟨(bs1 7), 0, none⟩))), (39, (.agg #[(.string x3.Name), (.int .i64 x3.W), (.int .i64 x3.H)]))]) (le := [(1, bx b1 #[(.int .i64 p0.W), (.int .i64 p0.H), (.int .i64 p0.Rail), (.int .i64 p0.Gap), (.slice Ap0_0 (p0.Kinds).length cp0_0), (.slice Ap0_1 (p0.Slots).length cp0_1), (.slice Ap0_2 (p0.Marks).length cp0_2)] 26), (2, bx b2 #[(.int .i64 0), (.int .i64 0), (.int .i64 0), (.int .i64 0), (.slice none 0 0), (.slice none 0 0), (.slice none 0 0)] 26), (3, bx (bs1 7) #[(.string ⟨#[]⟩), (.int .i64 0), (.int .i64 0)] 82)]) (.cons rfl (.cons rfl (.cons rfl (.cons rfl (.cons rfl (.cons rfl (.cons rfl (.cons rfl (.cons rfl (.cons rfl .nil)))))))))) (.cons rfl (.cons rfl (.cons rfl .nil))) ?_
      refine Tr.store 3 (cs := [(.string x3.Name), (.int .i64 x3.W), (.int .i64 x3.H)]) [(.string x3.Name), (.int .i64 x3.W), (.int .i64 x3.H)] (wn rfl) rfl rfl rfl rfl sz_82 rfl rfl rfl ?_
      refine Tr.nil (Tr.normThen ?_)
      refine Tr.seq ?_
      refine Tr.region ?_
      refine Tr.val (wn rfl) rfl (fun _ _ h1 h2 => run_assign (h1.ev rfl)) ?_
      refine Tr.nilOwn 4 34 fl_TSlot ?_
      refine Tr.nil (Tr.normThen ?_)
      refine Tr.seq ?_
      refine Tr.region ?_
      refine Tr.val (wn rfl) rfl (fun _ _ h1 h2 => run_fieldAddr fo_26_2 (h1.ev rfl)) ?_
      refine Tr.val (wn rfl) rfl (fun _ _ h1 h2 => run_load1 ag_3 (h1.ev rfl) (rdb h2 (vs := [(.int .i64 p0.W), (.int .i64 p0.H), (.int .i64 p0.Rail), (.int .i64 p0.Gap), (.slice Ap0_0 (p0.Kinds).length cp0_0), (.slice Ap0_1 (p0.Slots).length cp0_1), (.slice Ap0_2 (p0.Marks).length cp0_2)]) (k := 1) rfl 2) rfl) ?_
      refine Tr.val (wn rfl) rfl (fun _ _ h1 h2 => run_assign (h1.ev rfl)) ?_
      refine Tr.nil (Tr.normThen ?_)
      refine Tr.seq ?_
      refine Tr.seq ?_
      refine Tr.region ?_
      refine Tr.val (wn rfl) rfl (fun _ _ h1 h2 => run_move (h1.ev rfl)) ?_
      refine Tr.val (wn rfl) rfl (fun _ _ h1 h2 => run_move (h1.ev rfl)) ?_
      refine Tr.val (wn rfl) rfl (fun _ _ h1 h2 => run_add (h1.ev rfl) (h1.ev rfl)) ?_
      refine Tr.val (wn rfl) rfl (fun _ _ h1 h2 => run_move (h1.ev rfl)) ?_
      refine Tr.nil (Tr.normThen ?_)
      refine Tr.block ?_
      refine Tr.loop (σ := (List TSlot) × Int × Int × (Option Addr) × Nat) (fun m s => F_panel_rows_L3 N p0 p1 p2 p3 p4 p5 p6 x3 m s.1 s.2.1 s.2.2.1 = some r ∧ SlF s.2.2.2.1 (s.1).length s.2.2.2.2) (fun s => [(1, (.string p1)), (2, (.int .i64 p2)), (3, (.int .i64 p3)), (4, (.int .i64 p4)), (5, (.int .i64 p5)), (7, (.pointer (some ⟨b1, 0, none⟩))), (14, (.pointer (some ⟨b2, 0, none⟩))), (16, (.pointer (some ⟨(bs1 7), 0, none⟩))), (17, (.slice s.2.2.2.1 (s.1).length s.2.2.2.2)), (18, (.int .i64 s.2.1)), (44, (.int .i64 (w64 (p4 + p6)))), (45, (.int .i64 s.2.2.1))]) (fun s => [(1, bx b1 #[(.int .i64 p0.W), (.int .i64 p0.H), (.int .i64 p0.Rail), (.int .i64 p0.Gap), (.slice Ap0_0 (p0.Kinds).length cp0_0), (.slice Ap0_1 (p0.Slots).length cp0_1), (.slice Ap0_2 (p0.Marks).length cp0_2)] 26), (2, bx b2 #[(.int .i64 0), (.int .i64 0), (.int .i64 0), (.int .i64 0), (.slice none 0 0), (.slice none 0 0), (.slice none 0 0)] 26), (3, bx (bs1 7) #[(.string x3.Name), (.int .i64 x3.W), (.int .i64 x3.H)] 82), (4, ow s.2.2.2.1 s.2.2.2.2 34 fl_TSlot s.1)]) N (([] : List TSlot), p0.Rail, 0, none, 0) ⟨H, slf_nil⟩ (.cons rfl (.cons rfl (.cons rfl (.cons rfl (.cons rfl (.cons rfl (.cons rfl (.cons rfl (.cons rfl (.cons rfl (.cons rfl (.cons rfl .nil)))))))))))) (.cons rfl (.cons rfl (.cons rfl (.cons rfl .nil)))) (fun _ h => noSome (h.1)) ?_
      intro mF_panel_rows_L3 s hs
      obtain ⟨l23, x24, x25, Al23, cl23⟩ := s
      obtain ⟨H, hAl23⟩ := hs
      replace H : F_panel_rows_L3 N p0 p1 p2 p3 p4 p5 p6 x3 (mF_panel_rows_L3 + 1) l23 x24 x25 = some r := H
      replace hAl23 : SlF Al23 (l23).length cl23 := hAl23
      rw [F_panel_rows_L3.eq_2] at H
      show Tr _ _ (LF [(1, (.string p1)), (2, (.int .i64 p2)), (3, (.int .i64 p3)), (4, (.int .i64 p4)), (5, (.int .i64 p5)), (7, (.pointer (some ⟨b1, 0, none⟩))), (14, (.pointer (some ⟨b2, 0, none⟩))), (16, (.pointer (some ⟨(bs1 7), 0, none⟩))), (17, (.slice Al23 (l23).length cl23)), (18, (.int .i64 x24)), (44, (.int .i64 (w64 (p4 + p6)))), (45, (.int .i64 x25))]) (LE [(1, bx b1 #[(.int .i64 p0.W), (.int .i64 p0.H), (.int .i64 p0.Rail), (.int .i64 p0.Gap), (.slice Ap0_0 (p0.Kinds).length cp0_0), (.slice Ap0_1 (p0.Slots).length cp0_1), (.slice Ap0_2 (p0.Marks).length cp0_2)] 26), (2, bx b2 #[(.int .i64 0), (.int .i64 0), (.int .i64 0), (.int .i64 0), (.slice none 0 0), (.slice none 0 0), (.slice none 0 0)] 26), (3, bx (bs1 7) #[(.string x3.Name), (.int .i64 x3.W), (.int .i64 x3.H)] 82), (4, ow Al23 cl23 34 fl_TSlot l23)]) _
      refine Tr.seq ?_
      refine Tr.region ?_
      refine Tr.val (wn rfl) rfl (fun _ _ h1 h2 => run_lss (h1.ev rfl) (h1.ev rfl)) ?_
      refine Tr.nil (Tr.normThen ?_)
      refine Tr.seq ?_
      refine Tr.cond rfl H (fun H => ?_) (fun H => ?_)
      · refine Tr.skip (Tr.normThen ?_)
        refine Tr.seq ?_
        refine Tr.block ?_
        refine Tr.seq ?_
        refine Tr.region ?_
        refine Tr.val (wn rfl) rfl (fun _ _ h1 h2 => run_move (h1.ev rfl)) ?_
        refine Tr.val (wn rfl) rfl (fun _ _ h1 h2 => run_assign (h1.ev rfl)) ?_
        refine Tr.nil (Tr.normThen ?_)
        refine Tr.seq ?_
        refine Tr.region ?_
        refine Tr.val (wn rfl) rfl (fun _ _ h1 h2 => run_move (h1.ev rfl)) ?_
        refine Tr.val (wn rfl) rfl (fun _ _ h1 h2 => run_move (h1.ev rfl)) ?_
        refine Tr.val (wn rfl) rfl (fun _ _ h1 h2 => run_assign (h1.ev rfl)) ?_
        refine Tr.val (wn rfl) rfl (fun _ _ h1 h2 => run_assign (h1.ev rfl)) ?_
        refine Tr.nil (Tr.normThen ?_)
        refine Tr.cutJ (σ := Int × Int) (fun s => F_panel_rows_J4 N p0 p1 x3 l23 x24 x25 (F_panel_rows_L3 N p0 p1 p2 p3 p4 p5 p6 x3 mF_panel_rows_L3) s.1 s.2 = some r) (fun s => [(1, (.string p1)), (2, (.int .i64 p2)), (3, (.int .i64 p3)), (4, (.int .i64 p4)), (5, (.int .i64 p5)), (7, (.pointer (some ⟨b1, 0, none⟩))), (14, (.pointer (some ⟨b2, 0, none⟩))), (16, (.pointer (some ⟨(bs1 7), 0, none⟩))), (17, (.slice Al23 (l23).length cl23)), (18, (.int .i64 x24)), (20, (.int .i64 s.1)), (21, (.int .i64 s.2)), (44, (.int .i64 (w64 (p4 + p6)))), (45, (.int .i64 x25))]) (fun s => [(1, bx b1 #[(.int .i64 p0.W), (.int .i64 p0.H), (.int .i64 p0.Rail), (.int .i64 p0.Gap), (.slice Ap0_0 (p0.Kinds).length cp0_0), (.slice Ap0_1 (p0.Slots).length cp0_1), (.slice Ap0_2 (p0.Marks).length cp0_2)] 26), (2, bx b2 #[(.int .i64 0), (.int .i64 0), (.int .i64 0), (.int .i64 0), (.slice none 0 0), (.slice none 0 0), (.slice none 0 0)] 26), (3, bx (bs1 7) #[(.string x3.Name), (.int .i64 x3.W), (.int .i64 x3.H)] 82), (4, ow Al23 cl23 34 fl_TSlot l23)]) ?_ ?_
        · refine Tr.seq ?_
          refine Tr.region ?_
          refine Tr.val (wn rfl) rfl (fun _ _ h1 h2 => run_move (h1.ev rfl)) ?_
          refine Tr.val (wn rfl) rfl (fun _ _ h1 h2 => run_move (h1.ev rfl)) ?_
          refine Tr.val (wn rfl) rfl (fun _ _ h1 h2 => run_geq (h1.ev rfl) (h1.ev rfl)) ?_
          refine Tr.nil (Tr.normThen ?_)
          refine Tr.cond rfl H (fun H => ?_) (fun H => ?_)
          · refine Tr.region ?_
            refine Tr.val (wn rfl) rfl (fun _ _ h1 h2 => run_move (h1.ev rfl)) ?_
            refine Tr.val (wn rfl) rfl (fun _ _ h1 h2 => run_add (h1.ev rfl) (h1.ev rfl)) ?_
            refine Tr.val (wn rfl) rfl (fun _ _ h1 h2 => run_move (h1.ev rfl)) ?_
            refine Tr.val (wn rfl) rfl (fun _ _ h1 h2 => run_assign (h1.ev rfl)) ?_
            refine Tr.val (wn rfl) rfl (fun _ _ h1 h2 => run_assign (h1.ev rfl)) ?_
            refine Tr.nil ?_
            exact Tr.backThen ((w64 (p2 + 1)), p5) H (.cons rfl (.cons rfl (.cons rfl (.cons rfl (.cons rfl (.cons rfl (.cons rfl (.cons rfl (.cons rfl (.cons rfl (.cons rfl (.cons rfl (.cons rfl (.cons rfl .nil)))))))))))))) (.cons rfl (.cons rfl (.cons rfl (.cons rfl .nil))))
          · refine Tr.skip ?_
            exact Tr.backThen (p2, p3) H (.cons rfl (.cons rfl (.cons rfl (.cons rfl (.cons rfl (.cons rfl (.cons rfl (.cons rfl (.cons rfl (.cons rfl (.cons rfl (.cons rfl (.cons rfl (.cons rfl .nil)))))))))))))) (.cons rfl (.cons rfl (.cons rfl (.cons rfl .nil))))
        · intro s hs
          obtain ⟨x26, x27⟩ := s
          have H := hs
          replace H : F_panel_rows_J4 N p0 p1 x3 l23 x24 x25 (F_panel_rows_L3 N p0 p1 p2 p3 p4 p5 p6 x3 mF_panel_rows_L3) x26 x27 = some r := H
          unfold F_panel_rows_J4 at H
          show Tr _ _ (LF [(1, (.string p1)), (2, (.int .i64 p2)), (3, (.int .i64 p3)), (4, (.int .i64 p4)), (5, (.int .i64 p5)), (7, (.pointer (some ⟨b1, 0, none⟩))), (14, (.pointer (some ⟨b2, 0, none⟩))), (16, (.pointer (some ⟨(bs1 7), 0, none⟩))), (17, (.slice Al23 (l23).length cl23)), (18, (.int .i64 x24)), (20, (.int .i64 x26)), (21, (.int .i64 x27)), (44, (.int .i64 (w64 (p4 + p6)))), (45, (.int .i64 x25))]) (LE [(1, bx b1 #[(.int .i64 p0.W), (.int .i64 p0.H), (.int .i64 p0.Rail), (.int .i64 p0.Gap), (.slice Ap0_0 (p0.Kinds).length cp0_0), (.slice Ap0_1 (p0.Slots).length cp0_1), (.slice Ap0_2 (p0.Marks).length cp0_2)] 26), (2, bx b2 #[(.int .i64 0), (.int .i64 0), (.int .i64 0), (.int .i64 0), (.slice none 0 0), (.slice none 0 0), (.slice none 0 0)] 26), (3, bx (bs1 7) #[(.string x3.Name), (.int .i64 x3.W), (.int .i64 x3.H)] 82), (4, ow Al23 cl23 34 fl_TSlot l23)]) _
          refine Tr.seq ?_
          refine Tr.region ?_
          refine Tr.val (wn rfl) rfl (fun _ _ h1 h2 => run_loadN (cs := [(.string x3.Name), (.int .i64 x3.W), (.int .i64 x3.H)]) ag_82 sz_82 (h1.ev rfl) (CellsAt.take (rdb h2 (vs := [(.string x3.Name), (.int .i64 x3.W), (.int .i64 x3.H)]) (k := 3) rfl 0) 3) rfl) ?_
          refine Tr.val (wn rfl) rfl (fun _ _ h1 h2 => run_move (h1.ev rfl)) ?_
          obtain ⟨y28, hy28, H⟩ := bnd H
          refine Tr.call0 (r := (.tuple #[(.int .i64 y28.1), (.int .i64 y28.2)])) (wn rfl) rfl Try.call59 (evl_cons rfl (evl_cons rfl evl_nil)) (fun W hW => F_panel_sizeOf_ok x3 x26 y28 hy28) ?_
          refine Tr.val (wn rfl) rfl (fun _ _ h1 h2 => run_move (h1.ev rfl)) ?_
          refine Tr.val (wn rfl) rfl (fun _ _ h1 h2 => run_extract (h1.ev rfl) rfl) ?_
          refine Tr.val (wn rfl) rfl (fun _ _ h1 h2 => run_extract (h1.ev rfl) rfl) ?_
          refine Tr.val (wn rfl) rfl (fun _ _ h1 h2 => run_assign (h1.ev rfl)) ?_
          refine Tr.val (wn rfl) rfl (fun _ _ h1 h2 => run_assign (h1.ev rfl)) ?_
          refine Tr.nil (Tr.normThen ?_)
          refine Tr.seq ?_
          refine Tr.region ?_
          refine Tr.val (wn rfl) rfl (fun _ _ h1 h2 => run_move (h1.ev rfl)) ?_
          refine Tr.val (wn rfl) rfl (fun _ _ h1 h2 => run_loadN (cs := [(.int .i64 p0.W), (.int .i64 p0.H), (.int .i64 p0.Rail), (.int .i64 p0.Gap), (.slice Ap0_0 (p0.Kinds).length cp0_0), (.slice Ap0_1 (p0.Slots).length cp0_1), (.slice Ap0_2 (p0.Marks).length cp0_2)]) ag_26 sz_26 (h1.ev rfl) (CellsAt.take (rdb h2 (vs := [(.int .i64 p0.W), (.int .i64 p0.H), (.int .i64 p0.Rail), (.int .i64 p0.Gap), (.slice Ap0_0 (p0.Kinds).length cp0_0), (.slice Ap0_1 (p0.Slots).length cp0_1), (.slice Ap0_2 (p0.Marks).length cp0_2)]) (k := 1) rfl 0) 7) rfl) ?_
          refine Tr.val (wn rfl) rfl (fun _ _ h1 h2 => run_move (h1.ev rfl)) ?_
          refine Tr.val (wn rfl) rfl (fun _ _ h1 h2 => run_move (h1.ev rfl)) ?_
          refine Tr.val (wn rfl) rfl (fun _ _ h1 h2 => run_move (h1.ev rfl)) ?_
          refine Tr.val (wn rfl) rfl (fun _ _ h1 h2 => run_move (h1.ev rfl)) ?_
          obtain ⟨y29, hy29, H⟩ := bnd H
          refine Tr.call 7 (U := Option Addr × Nat) (fun u => (.slice u.1 (y29).length u.2)) (fun u => SlF u.1 (y29).length u.2) (fun u => ow u.1 u.2 34 fl_TSlot y29) (wn rfl) rfl Try.call100 (evl_cons rfl (evl_cons rfl (evl_cons rfl (evl_cons rfl (evl_cons rfl evl_nil))))) (fun W hW => F_panel_row_ok N p0 Ap0_0 cp0_0 (Sl.up hp0_0 hW) Ap0_1 cp0_1 (Sl.up hp0_1 hW) Ap0_2 cp0_2 (Sl.up hp0_2 hW) p1 x26 x27 x24 y29 hy29) ?_
          intro u hu
          obtain ⟨Ay29, cy29⟩ := u
          have hAy29 : SlF Ay29 (y29).length cy29 := hu
          show Tr _ _ (uf _ 68 (.slice Ay29 (y29).length cy29)) (up _ 7 (ow Ay29 cy29 34 fl_TSlot y29)) _
          obtain ⟨l30, hl30, H⟩ := bnd H
          refine Tr.appendS 4 (t := fl_TSlot) (l := l23) (l2 := y29) (wn rfl) rfl rfl rfl rfl (fun W hW => (hW.sl (k := 7) rfl)) un_23 sz_34 zl_34 (by decide) by_34 rfl hl30 fun Al30 cl30 hAl30 => ?_
          refine Tr.val (wn rfl) rfl (fun _ _ h1 h2 => run_assign (h1.ev rfl)) ?_
          refine Tr.nil (Tr.normThen ?_)
          refine Tr.region ?_
          refine Tr.val (wn rfl) rfl (fun _ _ h1 h2 => run_move (h1.ev rfl)) ?_
          refine Tr.val (wn rfl) rfl (fun _ _ h1 h2 => run_move (h1.ev rfl)) ?_
          refine Tr.val (wn rfl) rfl (fun _ _ h1 h2 => run_fieldAddr fo_26_3 (h1.ev rfl)) ?_
          refine Tr.val (wn rfl) rfl (fun _ _ h1 h2 => run_load1 ag_3 (h1.ev rfl) (rdb h2 (vs := [(.int .i64 p0.W), (.int .i64 p0.H), (.int .i64 p0.Rail), (.int .i64 p0.Gap), (.slice Ap0_0 (p0.Kinds).length cp0_0), (.slice Ap0_1 (p0.Slots).length cp0_1), (.slice Ap0_2 (p0.Marks).length cp0_2)]) (k := 1) rfl 3) rfl) ?_
          refine Tr.val (wn rfl) rfl (fun _ _ h1 h2 => run_add (h1.ev rfl) (h1.ev rfl)) ?_
          refine Tr.val (wn rfl) rfl (fun _ _ h1 h2 => run_add (h1.ev rfl) (h1.ev rfl)) ?_
          refine Tr.val (wn rfl) rfl (fun _ _ h1 h2 => run_assign (h1.ev rfl)) ?_
          refine Tr.nil (Tr.normBlock (Tr.normThen ?_))
          refine Tr.region ?_
          refine Tr.val (wn rfl) rfl (fun _ _ h1 h2 => run_add (h1.ev rfl) (h1.ev rfl)) ?_
          refine Tr.val (wn rfl) rfl (fun _ _ h1 h2 => run_move (h1.ev rfl)) ?_
          refine Tr.nil ?_
          exact Tr.backThen (l30, (w64 (x24 + (w64 (y28.2 + p0.Gap)))), (w64 (x25 + 1)), Al30, cl30) ⟨H, hAl30⟩ (.cons rfl (.cons rfl (.cons rfl (.cons rfl (.cons rfl (.cons rfl (.cons rfl (.cons rfl (.cons rfl (.cons rfl (.cons rfl (.cons rfl .nil)))))))))))) (.cons rfl (.cons rfl (.cons rfl (.cons rfl .nil))))
      · refine Tr.exit (Tr.exitThen (Tr.exitThen (Tr.exitBlock (Tr.normThen ?_))))
        refine Tr.seq ?_
        refine Tr.region ?_
        refine Tr.val (wn rfl) rfl (fun _ _ h1 h2 => run_loadN (cs := [(.int .i64 p0.W), (.int .i64 p0.H), (.int .i64 p0.Rail), (.int .i64 p0.Gap), (.slice Ap0_0 (p0.Kinds).length cp0_0), (.slice Ap0_1 (p0.Slots).length cp0_1), (.slice Ap0_2 (p0.Marks).length cp0_2)]) ag_26 sz_26 (h1.ev rfl) (CellsAt.take (rdb h2 (vs := [(.int .i64 p0.W), (.int .i64 p0.H), (.int .i64 p0.Rail), (.int .i64 p0.Gap), (.slice Ap0_0 (p0.Kinds).length cp0_0), (.slice Ap0_1 (p0.Slots).length cp0_1), (.slice Ap0_2 (p0.Marks).length cp0_2)]) (k := 1) rfl 0) 7) rfl) ?_
        refine Tr.val (wn rfl) rfl (fun _ _ h1 h2 => run_move (h1.ev rfl)) ?_
        refine Tr.freeze (S0 := S0) 4 rfl fun Sz31 Wz31 hz31 => ?_
        obtain ⟨y32, hy32, H⟩ := bnd H
        refine Tr.callZ 8 (U := Option Addr × Nat × Option Addr × Nat × Option Addr × Nat) (fun u => (.agg #[(.int .i64 y32.W), (.int .i64 y32.H), (.int .i64 y32.Rail), (.int .i64 y32.Gap), (.slice u.1 (y32.Kinds).length u.2.1), (.slice u.2.2.1 (y32.Slots).length u.2.2.2.1), (.slice u.2.2.2.2.1 (y32.Marks).length u.2.2.2.2.2)])) (fun u R W' => Sl R W' fl_TBoardKind u.1 u.2.1 y32.Kinds ∧ Sl R W' fl_TSlot u.2.2.1 u.2.2.2.1 y32.Slots ∧ Sl R W' fl_TPoint u.2.2.2.2.1 u.2.2.2.2.2 y32.Marks) (Dp S0 [(4, Sz31, Wz31)]) (wn rfl) rfl Try.call75 (evl_cons rfl (evl_cons rfl evl_nil)) (fun W hW => F_panel_own_ok (Dp S0 [(4, Sz31, Wz31)]) (Dp.lt hS hW ⟨rfl, trivial⟩) p0 Ap0_0 cp0_0 (Zs.pass hp0_0z hW trivial (by simp)) Ap0_1 cp0_1 (Zs.pass hp0_1z hW trivial (by simp)) Ap0_2 cp0_2 (Zs.pass hp0_2z hW trivial (by simp)) l23 Al23 cl23 (Zs.pass hz31 hW ⟨rfl, trivial⟩ (by simp)) y32 hy32) ?_
        intro u Sy32 Wy32 hu h0
        obtain ⟨Ay32_0, cy32_0, Ay32_1, cy32_1, Ay32_2, cy32_2⟩ := u
        obtain ⟨gy32_0, gy32_1, gy32_2⟩ := hu
        have zgy32_0 : Zs S0 w [(8, Sy32, Wy32), (4, Sz31, Wz31)] fl_TBoardKind Ay32_0 cy32_0 y32.Kinds := Zs.new (ds := [(4, Sz31, Wz31)]) hS gy32_0 h0 ⟨rfl, rfl, trivial⟩
        have hgy32_0 : SlF Ay32_0 (y32.Kinds).length cy32_0 := gy32_0.form
        have zgy32_1 : Zs S0 w [(8, Sy32, Wy32), (4, Sz31, Wz31)] fl_TSlot Ay32_1 cy32_1 y32.Slots := Zs.new (ds := [(4, Sz31, Wz31)]) hS gy32_1 h0 ⟨rfl, rfl, trivial⟩
        have hgy32_1 : SlF Ay32_1 (y32.Slots).length cy32_1 := gy32_1.form
        have zgy32_2 : Zs S0 w [(8, Sy32, Wy32), (4, Sz31, Wz31)] fl_TPoint Ay32_2 cy32_2 y32.Marks := Zs.new (ds := [(4, Sz31, Wz31)]) hS gy32_2 h0 ⟨rfl, rfl, trivial⟩
        have hgy32_2 : SlF Ay32_2 (y32.Marks).length cy32_2 := gy32_2.form
        show Tr _ _ (uf _ 79 (.agg #[(.int .i64 y32.W), (.int .i64 y32.H), (.int .i64 y32.Rail), (.int .i64 y32.Gap), (.slice Ay32_0 (y32.Kinds).length cy32_0), (.slice Ay32_1 (y32.Slots).length cy32_1), (.slice Ay32_2 (y32.Marks).length cy32_2)])) (up _ 8 (fz Sy32 Wy32)) _
        obtain ⟨y33, hy33, H⟩ := bnd H
        refine Tr.callZ 9 (U := Option Addr × Nat × Option Addr × Nat × Option Addr × Nat) (fun u => (.tuple #[(.agg #[(.int .i64 y33.1.W), (.int .i64 y33.1.H), (.int .i64 y33.1.Rail), (.int .i64 y33.1.Gap), (.slice u.1 (y33.1.Kinds).length u.2.1), (.slice u.2.2.1 (y33.1.Slots).length u.2.2.2.1), (.slice u.2.2.2.2.1 (y33.1.Marks).length u.2.2.2.2.2)]), (.int .i64 y33.2)])) (fun u R W' => Sl R W' fl_TBoardKind u.1 u.2.1 y33.1.Kinds ∧ Sl R W' fl_TSlot u.2.2.1 u.2.2.2.1 y33.1.Slots ∧ Sl R W' fl_TPoint u.2.2.2.2.1 u.2.2.2.2.2 y33.1.Marks) (Dp S0 [(8, Sy32, Wy32), (4, Sz31, Wz31)]) (wn rfl) rfl Try.call101 (evl_cons rfl evl_nil) (fun W hW => F_panel_told_ok N (Dp S0 [(8, Sy32, Wy32), (4, Sz31, Wz31)]) (Dp.lt hS hW ⟨rfl, rfl, trivial⟩) y32 Ay32_0 cy32_0 (Zs.pass zgy32_0 hW ⟨rfl, rfl, trivial⟩ (by simp)) Ay32_1 cy32_1 (Zs.pass zgy32_1 hW ⟨rfl, rfl, trivial⟩ (by simp)) Ay32_2 cy32_2 (Zs.pass zgy32_2 hW ⟨rfl, rfl, trivial⟩ (by simp)) y33 hy33) ?_
        intro u Sy33 Wy33 hu h0
        obtain ⟨Ay33_0, cy33_0, Ay33_1, cy33_1, Ay33_2, cy33_2⟩ := u
        obtain ⟨gy33_0, gy33_1, gy33_2⟩ := hu
        have zgy33_0 : Zs S0 w [(9, Sy33, Wy33), (8, Sy32, Wy32), (4, Sz31, Wz31)] fl_TBoardKind Ay33_0 cy33_0 y33.1.Kinds := Zs.new (ds := [(8, Sy32, Wy32), (4, Sz31, Wz31)]) hS gy33_0 h0 ⟨rfl, rfl, rfl, trivial⟩
        have hgy33_0 : SlF Ay33_0 (y33.1.Kinds).length cy33_0 := gy33_0.form
        have zgy33_1 : Zs S0 w [(9, Sy33, Wy33), (8, Sy32, Wy32), (4, Sz31, Wz31)] fl_TSlot Ay33_1 cy33_1 y33.1.Slots := Zs.new (ds := [(8, Sy32, Wy32), (4, Sz31, Wz31)]) hS gy33_1 h0 ⟨rfl, rfl, rfl, trivial⟩
        have hgy33_1 : SlF Ay33_1 (y33.1.Slots).length cy33_1 := gy33_1.form
        have zgy33_2 : Zs S0 w [(9, Sy33, Wy33), (8, Sy32, Wy32), (4, Sz31, Wz31)] fl_TPoint Ay33_2 cy33_2 y33.1.Marks := Zs.new (ds := [(8, Sy32, Wy32), (4, Sz31, Wz31)]) hS gy33_2 h0 ⟨rfl, rfl, rfl, trivial⟩
        have hgy33_2 : SlF Ay33_2 (y33.1.Marks).length cy33_2 := gy33_2.form
        show Tr _ _ (uf _ 80 (.tuple #[(.agg #[(.int .i64 y33.1.W), (.int .i64 y33.1.H), (.int .i64 y33.1.Rail), (.int .i64 y33.1.Gap), (.slice Ay33_0 (y33.1.Kinds).length cy33_0), (.slice Ay33_1 (y33.1.Slots).length cy33_1), (.slice Ay33_2 (y33.1.Marks).length cy33_2)]), (.int .i64 y33.2)])) (up _ 9 (fz Sy33 Wy33)) _
        refine Tr.val (wn rfl) rfl (fun _ _ h1 h2 => run_extract (h1.ev rfl) rfl) ?_
        refine Tr.val (wn rfl) rfl (fun _ _ h1 h2 => run_extract (h1.ev rfl) rfl) ?_
        refine Tr.store 2 (cs := [(.int .i64 y33.1.W), (.int .i64 y33.1.H), (.int .i64 y33.1.Rail), (.int .i64 y33.1.Gap), (.slice Ay33_0 (y33.1.Kinds).length cy33_0), (.slice Ay33_1 (y33.1.Slots).length cy33_1), (.slice Ay33_2 (y33.1.Marks).length cy33_2)]) [(.int .i64 y33.1.W), (.int .i64 y33.1.H), (.int .i64 y33.1.Rail), (.int .i64 y33.1.Gap), (.slice Ay33_0 (y33.1.Kinds).length cy33_0), (.slice Ay33_1 (y33.1.Slots).length cy33_1), (.slice Ay33_2 (y33.1.Marks).length cy33_2)] (wn rfl) rfl rfl rfl rfl sz_26 rfl rfl rfl ?_
        refine Tr.val (wn rfl) rfl (fun _ _ h1 h2 => run_assign (h1.ev rfl)) ?_
        refine Tr.nil (Tr.normThen ?_)
        refine Tr.ret ?_
        obtain rfl := Option.some.inj H
        exact Tr.out (m := [(.agg #[(.int .i64 y33.1.W), (.int .i64 y33.1.H), (.int .i64 y33.1.Rail), (.int .i64 y33.1.Gap), (.slice Ay33_0 (y33.1.Kinds).length cy33_0), (.slice Ay33_1 (y33.1.Slots).length cy33_1), (.slice Ay33_2 (y33.1.Marks).length cy33_2)]), (.int .i64 y33.2)]) [2] (res_cell rfl rfl ag_26 sz_26 (res_tmp rfl res_nil)) (fun W hW => ⟨(Ay33_0, cy33_0, Ay33_1, cy33_1, Ay33_2, cy33_2), rfl, ⟨Zs.out hS zgy33_0 hW ⟨rfl, rfl, rfl, trivial⟩, Zs.out hS zgy33_1 hW ⟨rfl, rfl, rfl, trivial⟩, Zs.out hS zgy33_2 hW ⟨rfl, rfl, rfl, trivial⟩⟩, hW.below⟩)

theorem F_panel_Rows_ok (N : Nat) {w : World} (S0 : Nat → Prop) (hS : ∀ b, S0 b → b < w.heap.size) (p0 : TPanel) (Ap0_0 : Option Addr) (cp0_0 : Nat) (hp0_0s : Sl S0 w fl_TBoardKind Ap0_0 cp0_0 p0.Kinds) (Ap0_1 : Option Addr) (cp0_1 : Nat) (hp0_1s : Sl S0 w fl_TSlot Ap0_1 cp0_1 p0.Slots) (Ap0_2 : Option Addr) (cp0_2 : Nat) (hp0_2s : Sl S0 w fl_TPoint Ap0_2 cp0_2 p0.Marks) (p1 : ByteArray) (r : (TPanel × Int)) (H : F_panel_Rows N p0 p1 = some r) : Calls Try.prog 28 [(.agg #[(.int .i64 p0.W), (.int .i64 p0.H), (.int .i64 p0.Rail), (.int .i64 p0.Gap), (.slice Ap0_0 (p0.Kinds).length cp0_0), (.slice Ap0_1 (p0.Slots).length cp0_1), (.slice Ap0_2 (p0.Marks).length cp0_2)]), (.string p1)].toArray w fun e W' => ∃ u : Option Addr × Nat × Option Addr × Nat × Option Addr × Nat, e = .returned (.tuple #[(.agg #[(.int .i64 r.1.W), (.int .i64 r.1.H), (.int .i64 r.1.Rail), (.int .i64 r.1.Gap), (.slice u.1 (r.1.Kinds).length u.2.1), (.slice u.2.2.1 (r.1.Slots).length u.2.2.2.1), (.slice u.2.2.2.2.1 (r.1.Marks).length u.2.2.2.2.2)]), (.int .i64 r.2)]) ∧ (Sl (fun b => S0 b ∨ (w.heap.size ≤ b ∧ b < W'.heap.size)) W' fl_TBoardKind u.1 u.2.1 r.1.Kinds ∧ Sl (fun b => S0 b ∨ (w.heap.size ≤ b ∧ b < W'.heap.size)) W' fl_TSlot u.2.2.1 u.2.2.2.1 r.1.Slots ∧ Sl (fun b => S0 b ∨ (w.heap.size ≤ b ∧ b < W'.heap.size)) W' fl_TPoint u.2.2.2.2.1 u.2.2.2.2.2 r.1.Marks) ∧ Below w.heap.size w W' := by
  unfold F_panel_Rows at H
  have hp0_0 : Sl (lo w.heap.size) w fl_TBoardKind Ap0_0 cp0_0 p0.Kinds := Sl.mono hp0_0s hS
  have hp0_0z : Zs S0 w [] fl_TBoardKind Ap0_0 cp0_0 p0.Kinds := Zs.arg hS hp0_0s
  have hp0_1 : Sl (lo w.heap.size) w fl_TSlot Ap0_1 cp0_1 p0.Slots := Sl.mono hp0_1s hS
  have hp0_1z : Zs S0 w [] fl_TSlot Ap0_1 cp0_1 p0.Slots := Zs.arg hS hp0_1s
  have hp0_2 : Sl (lo w.heap.size) w fl_TPoint Ap0_2 cp0_2 p0.Marks := Sl.mono hp0_2s hS
  have hp0_2z : Zs S0 w [] fl_TPoint Ap0_2 cp0_2 p0.Marks := Zs.arg hS hp0_2s
  refine Tr.enter (n := 114) Try.func28 rfl rfl rfl ?_
  refine Tr.seq ?_
  refine Tr.region ?_
  refine Tr.box 1 (cs := [(.int .i64 p0.W), (.int .i64 p0.H), (.int .i64 p0.Rail), (.int .i64 p0.Gap), (.slice Ap0_0 (p0.Kinds).length cp0_0), (.slice Ap0_1 (p0.Slots).length cp0_1), (.slice Ap0_2 (p0.Marks).length cp0_2)]) (wn rfl) rfl rfl rfl fun b1 => ?_
  refine Tr.alloc 2 (wn rfl) rfl ze_26 fun b2 => ?_
  refine Tr.val (wn rfl) rfl (fun _ _ h1 h2 => run_assign (h1.ev rfl)) ?_
  refine Tr.nil (Tr.normThen ?_)
  refine Tr.seq ?_
  refine Tr.seq ?_
  refine Tr.region ?_
  refine Tr.val (wn rfl) rfl (fun _ _ h1 h2 => run_loadN (cs := [(.int .i64 p0.W), (.int .i64 p0.H), (.int .i64 p0.Rail), (.int .i64 p0.Gap), (.slice Ap0_0 (p0.Kinds).length cp0_0), (.slice Ap0_1 (p0.Slots).length cp0_1), (.slice Ap0_2 (p0.Marks).length cp0_2)]) ag_26 sz_26 (h1.ev rfl) (CellsAt.take (rdb h2 (vs := [(.int .i64 p0.W), (.int .i64 p0.H), (.int .i64 p0.Rail), (.int .i64 p0.Gap), (.slice Ap0_0 (p0.Kinds).length cp0_0), (.slice Ap0_1 (p0.Slots).length cp0_1), (.slice Ap0_2 (p0.Marks).length cp0_2)]) (k := 1) rfl 0) 7) rfl) ?_
  obtain ⟨y1, hy1, H⟩ := bnd H
  refine Tr.call0 (r := (.int .i64 y1)) (wn rfl) rfl Try.call31 (evl_cons rfl evl_nil) (fun W hW => F_panel_CheckPanel_ok N p0 Ap0_0 cp0_0 (Sl.up hp0_0 hW) Ap0_1 cp0_1 (Sl.up hp0_1 hW) Ap0_2 cp0_2 (Sl.up hp0_2 hW) y1 hy1) ?_
  refine Tr.val (wn rfl) rfl (fun _ _ h1 h2 => run_assign (h1.ev rfl)) ?_
  refine Tr.nil (Tr.normThen ?_)
  refine Tr.seq ?_
  refine Tr.region ?_
  refine Tr.val (wn rfl) rfl (fun _ _ h1 h2 => run_move (h1.ev rfl)) ?_
  refine Tr.val (wn rfl) rfl (fun _ _ h1 h2 => run_neq (h1.ev rfl) (h1.ev rfl)) ?_
  refine Tr.nil (Tr.normThen ?_)
  refine Tr.cond rfl H (fun H => ?_) (fun H => ?_)
  · refine Tr.seq ?_
    refine Tr.region ?_
    refine Tr.build (vs := []) (cs := [(.int .i64 0), (.int .i64 0), (.int .i64 0), (.int .i64 0), (.slice none 0 0), (.slice none 0 0), (.slice none 0 0)]) (wn rfl) rfl evs_nil (by kernel_rfl) ?_
    refine Tr.val (wn rfl) rfl (fun _ _ h1 h2 => run_move (h1.ev rfl)) ?_
    refine Tr.store 2 (cs := [(.int .i64 0), (.int .i64 0), (.int .i64 0), (.int .i64 0), (.slice none 0 0), (.slice none 0 0), (.slice none 0 0)]) [(.int .i64 0), (.int .i64 0), (.int .i64 0), (.int .i64 0), (.slice none 0 0), (.slice none 0 0), (.slice none 0 0)] (wn rfl) rfl rfl rfl rfl sz_26 rfl rfl rfl ?_
    refine Tr.val (wn rfl) rfl (fun _ _ h1 h2 => run_assign (h1.ev rfl)) ?_
    refine Tr.nil (Tr.normThen ?_)
    refine Tr.ret (Tr.retThen ?_)
    obtain rfl := Option.some.inj H
    exact Tr.out (m := [(.agg #[(.int .i64 0), (.int .i64 0), (.int .i64 0), (.int .i64 0), (.slice none 0 0), (.slice none 0 0), (.slice none 0 0)]), (.int .i64 y1)]) [2] (res_cell rfl rfl ag_26 sz_26 (res_tmp rfl res_nil)) (fun W hW => ⟨(none, 0, none, 0, none, 0), rfl, ⟨Sl.nil _ _ _, Sl.nil _ _ _, Sl.nil _ _ _⟩, hW.below⟩)
  · refine Tr.skip (Tr.normThen ?_)
    refine Tr.seq ?_
    refine Tr.region ?_
    refine Tr.val (wn rfl) rfl (fun _ _ h1 h2 => run_loadN (cs := [(.int .i64 p0.W), (.int .i64 p0.H), (.int .i64 p0.Rail), (.int .i64 p0.Gap), (.slice Ap0_0 (p0.Kinds).length cp0_0), (.slice Ap0_1 (p0.Slots).length cp0_1), (.slice Ap0_2 (p0.Marks).length cp0_2)]) ag_26 sz_26 (h1.ev rfl) (CellsAt.take (rdb h2 (vs := [(.int .i64 p0.W), (.int .i64 p0.H), (.int .i64 p0.Rail), (.int .i64 p0.Gap), (.slice Ap0_0 (p0.Kinds).length cp0_0), (.slice Ap0_1 (p0.Slots).length cp0_1), (.slice Ap0_2 (p0.Marks).length cp0_2)]) (k := 1) rfl 0) 7) rfl) ?_
    refine Tr.val (wn rfl) rfl (fun _ _ h1 h2 => run_move (h1.ev rfl)) ?_
    obtain ⟨y2, hy2, H⟩ := bnd H
    refine Tr.call0 (r := (.int .i64 y2)) (wn rfl) rfl Try.call45 (evl_cons rfl (evl_cons rfl evl_nil)) (fun W hW => F_panel_kindAt_ok p0 Ap0_0 cp0_0 (Sl.up hp0_0 hW) Ap0_1 cp0_1 (Sl.up hp0_1 hW) Ap0_2 cp0_2 (Sl.up hp0_2 hW) p1 y2 hy2) ?_
    refine Tr.val (wn rfl) rfl (fun _ _ h1 h2 => run_assign (h1.ev rfl)) ?_
    refine Tr.nil (Tr.normThen ?_)
    refine Tr.seq ?_
    refine Tr.seq ?_
    refine Tr.region ?_
    refine Tr.val (wn rfl) rfl (fun _ _ h1 h2 => run_move (h1.ev rfl)) ?_
    refine Tr.val (wn rfl) rfl (fun _ _ h1 h2 => run_lss (h1.ev rfl) (h1.ev rfl)) ?_
    refine Tr.nil (Tr.normThen ?_)
    refine Tr.cond rfl H (fun H => ?_) (fun H => ?_)
    · refine Tr.seq ?_
      refine Tr.region ?_
      refine Tr.build (vs := []) (cs := [(.int .i64 0), (.int .i64 0), (.int .i64 0), (.int .i64 0), (.slice none 0 0), (.slice none 0 0), (.slice none 0 0)]) (wn rfl) rfl evs_nil (by kernel_rfl) ?_
      refine Tr.store 2 (cs := [(.int .i64 0), (.int .i64 0), (.int .i64 0), (.int .i64 0), (.slice none 0 0), (.slice none 0 0), (.slice none 0 0)]) [(.int .i64 0), (.int .i64 0), (.int .i64 0), (.int .i64 0), (.slice none 0 0), (.slice none 0 0), (.slice none 0 0)] (wn rfl) rfl rfl rfl rfl sz_26 rfl rfl rfl ?_
      refine Tr.val (wn rfl) rfl (fun _ _ h1 h2 => run_assign (h1.ev rfl)) ?_
      refine Tr.nil (Tr.normThen ?_)
      refine Tr.ret (Tr.retThen ?_)
      obtain rfl := Option.some.inj H
      exact Tr.out (m := [(.agg #[(.int .i64 0), (.int .i64 0), (.int .i64 0), (.int .i64 0), (.slice none 0 0), (.slice none 0 0), (.slice none 0 0)]), (.int .i64 9)]) [2] (res_cell rfl rfl ag_26 sz_26 (res_tmp rfl res_nil)) (fun W hW => ⟨(none, 0, none, 0, none, 0), rfl, ⟨Sl.nil _ _ _, Sl.nil _ _ _, Sl.nil _ _ _⟩, hW.below⟩)
    · refine Tr.skip (Tr.normThen ?_)
      refine Tr.seq ?_
      refine Tr.region ?_
      refine Tr.val (wn rfl) rfl (fun _ _ h1 h2 => run_fieldAddr fo_26_4 (h1.ev rfl)) ?_
      refine Tr.val (wn rfl) rfl (fun _ _ h1 h2 => run_load1 ag_22 (h1.ev rfl) (rdb h2 (vs := [(.int .i64 p0.W), (.int .i64 p0.H), (.int .i64 p0.Rail), (.int .i64 p0.Gap), (.slice Ap0_0 (p0.Kinds).length cp0_0), (.slice Ap0_1 (p0.Slots).length cp0_1), (.slice Ap0_2 (p0.Marks).length cp0_2)]) (k := 1) rfl 4) rfl) ?_
      refine Tr.val (wn rfl) rfl (fun _ _ h1 h2 => run_move (h1.ev rfl)) ?_
      obtain ⟨x3, hx3, H⟩ := bnd H
      obtain ⟨hx30, hx31, hx32⟩ := idx_some hx3
      refine Tr.val (wn rfl) rfl (fun _ _ h1 h2 => run_indexAddr el_22 (h1.ev rfl) hp0_0.form (h1.ev rfl) hx30 hx31) ?_
      refine Tr.val (wn rfl) rfl (fun _ _ h1 h2 => run_loadN (cs := [(.string x3.Name), (.int .i64 x3.W), (.int .i64 x3.H)]) ag_82 sz_82 (h1.ev rfl) (CellsAt.take (Rd.arg hp0_0 hx32 _ h2) 3) rfl) ?_
      obtain ⟨y4, hy4, H⟩ := bnd H
      refine Tr.call0 (r := (.tuple #[(.int .i64 y4.1), (.int .i64 y4.2)])) (wn rfl) rfl Try.call59 (evl_cons rfl (evl_cons rfl evl_nil)) (fun W hW => F_panel_sizeOf_ok x3 0 y4 hy4) ?_
      refine Tr.val (wn rfl) rfl (fun _ _ h1 h2 => run_move (h1.ev rfl)) ?_
      refine Tr.val (wn rfl) rfl (fun _ _ h1 h2 => run_extract (h1.ev rfl) rfl) ?_
      refine Tr.val (wn rfl) rfl (fun _ _ h1 h2 => run_extract (h1.ev rfl) rfl) ?_
      refine Tr.val (wn rfl) rfl (fun _ _ h1 h2 => run_assign (h1.ev rfl)) ?_
      refine Tr.val (wn rfl) rfl (fun _ _ h1 h2 => run_assign (h1.ev rfl)) ?_
      refine Tr.nil (Tr.normThen ?_)
      refine Tr.seq ?_
      refine Tr.draw (by kernel_rfl) (by kernel_rfl) ?_
      refine Tq.val (wn rfl) rfl (fun _ _ h1 h2 => run_fieldAddr fo_26_0 (h1.ev rfl)) ?_
      refine Tq.val (wn rfl) rfl (fun _ _ h1 h2 => run_load1 ag_3 (h1.ev rfl) (rdb h2 (vs := [(.int .i64 p0.W), (.int .i64 p0.H), (.int .i64 p0.Rail), (.int .i64 p0.Gap), (.slice Ap0_0 (p0.Kinds).length cp0_0), (.slice Ap0_1 (p0.Slots).length cp0_1), (.slice Ap0_2 (p0.Marks).length cp0_2)]) (k := 1) rfl 0) rfl) ?_
      refine Tq.val (wn rfl) rfl (fun _ _ h1 h2 => run_fieldAddr fo_26_2 (h1.ev rfl)) ?_
      refine Tq.val (wn rfl) rfl (fun _ _ h1 h2 => run_load1 ag_3 (h1.ev rfl) (rdb h2 (vs := [(.int .i64 p0.W), (.int .i64 p0.H), (.int .i64 p0.Rail), (.int .i64 p0.Gap), (.slice Ap0_0 (p0.Kinds).length cp0_0), (.slice Ap0_1 (p0.Slots).length cp0_1), (.slice Ap0_2 (p0.Marks).length cp0_2)]) (k := 1) rfl 2) rfl) ?_
      refine Tq.val (wn rfl) rfl (fun _ _ h1 h2 => run_mul (h1.ev rfl) (h1.ev rfl)) ?_
      refine Tq.val (wn rfl) rfl (fun _ _ h1 h2 => run_sub (h1.ev rfl) (h1.ev rfl)) ?_
      refine Tq.val (wn rfl) rfl (fun _ _ h1 h2 => run_fieldAddr fo_26_1 (h1.ev rfl)) ?_
      refine Tq.val (wn rfl) rfl (fun _ _ h1 h2 => run_load1 ag_3 (h1.ev rfl) (rdb h2 (vs := [(.int .i64 p0.W), (.int .i64 p0.H), (.int .i64 p0.Rail), (.int .i64 p0.Gap), (.slice Ap0_0 (p0.Kinds).length cp0_0), (.slice Ap0_1 (p0.Slots).length cp0_1), (.slice Ap0_2 (p0.Marks).length cp0_2)]) (k := 1) rfl 1) rfl) ?_
      refine Tq.val (wn rfl) rfl (fun _ _ h1 h2 => run_fieldAddr fo_26_2 (h1.ev rfl)) ?_
      refine Tq.val (wn rfl) rfl (fun _ _ h1 h2 => run_load1 ag_3 (h1.ev rfl) (rdb h2 (vs := [(.int .i64 p0.W), (.int .i64 p0.H), (.int .i64 p0.Rail), (.int .i64 p0.Gap), (.slice Ap0_0 (p0.Kinds).length cp0_0), (.slice Ap0_1 (p0.Slots).length cp0_1), (.slice Ap0_2 (p0.Marks).length cp0_2)]) (k := 1) rfl 2) rfl) ?_
      refine Tq.val (wn rfl) rfl (fun _ _ h1 h2 => run_mul (h1.ev rfl) (h1.ev rfl)) ?_
      refine Tq.val (wn rfl) rfl (fun _ _ h1 h2 => run_sub (h1.ev rfl) (h1.ev rfl)) ?_
      refine Tq.val (wn rfl) rfl (fun _ _ h1 h2 => run_assign (h1.ev rfl)) ?_
      refine Tq.val (wn rfl) rfl (fun _ _ h1 h2 => run_assign (h1.ev rfl)) ?_
      refine Tq.nil (Tr.normThen ?_)
      refine Tr.seq ?_
      refine Tr.draw (by kernel_rfl) (by kernel_rfl) ?_
      refine Tq.val (wn rfl) rfl (fun _ _ h1 h2 => run_move (h1.ev rfl)) ?_
      refine Tq.val (wn rfl) rfl (fun _ _ h1 h2 => run_move (h1.ev rfl)) ?_
      refine Tq.val (wn rfl) rfl (fun _ _ h1 h2 => run_fieldAddr fo_26_3 (h1.ev rfl)) ?_
      refine Tq.val (wn rfl) rfl (fun _ _ h1 h2 => run_load1 ag_3 (h1.ev rfl) (rdb h2 (vs := [(.int .i64 p0.W), (.int .i64 p0.H), (.int .i64 p0.Rail), (.int .i64 p0.Gap), (.slice Ap0_0 (p0.Kinds).length cp0_0), (.slice Ap0_1 (p0.Slots).length cp0_1), (.slice Ap0_2 (p0.Marks).length cp0_2)]) (k := 1) rfl 3) rfl) ?_
      obtain ⟨y5, hy5, H⟩ := bnd H
      refine Tq.call0 (r := (.int .i64 y5)) (wn rfl) rfl Try.call60 (evl_cons rfl (evl_cons rfl (evl_cons rfl evl_nil))) (fun W hW => F_panel_many_ok (w64 (p0.W - (w64 (2 * p0.Rail)))) y4.1 p0.Gap y5 hy5) ?_
      refine Tq.val (wn rfl) rfl (fun _ _ h1 h2 => run_move (h1.ev rfl)) ?_
      refine Tq.val (wn rfl) rfl (fun _ _ h1 h2 => run_move (h1.ev rfl)) ?_
      refine Tq.val (wn rfl) rfl (fun _ _ h1 h2 => run_fieldAddr fo_26_3 (h1.ev rfl)) ?_
      refine Tq.val (wn rfl) rfl (fun _ _ h1 h2 => run_load1 ag_3 (h1.ev rfl) (rdb h2 (vs := [(.int .i64 p0.W), (.int .i64 p0.H), (.int .i64 p0.Rail), (.int .i64 p0.Gap), (.slice Ap0_0 (p0.Kinds).length cp0_0), (.slice Ap0_1 (p0.Slots).length cp0_1), (.slice Ap0_2 (p0.Marks).length cp0_2)]) (k := 1) rfl 3) rfl) ?_
      obtain ⟨y6, hy6, H⟩ := bnd H
      refine Tq.call0 (r := (.int .i64 y6)) (wn rfl) rfl Try.call60 (evl_cons rfl (evl_cons rfl (evl_cons rfl evl_nil))) (fun W hW => F_panel_many_ok (w64 (p0.W - (w64 (2 * p0.Rail)))) y4.2 p0.Gap y6 hy6) ?_
      refine Tq.val (wn rfl) rfl (fun _ _ h1 h2 => run_assign (h1.ev rfl)) ?_
      refine Tq.val (wn rfl) rfl (fun _ _ h1 h2 => run_assign (h1.ev rfl)) ?_
      refine Tq.nil (Tr.normThen ?_)
      refine Tr.seq ?_
      refine Tr.region ?_
      refine Tr.val (wn rfl) rfl (fun _ _ h1 h2 => run_move (h1.ev rfl)) ?_
      refine Tr.val (wn rfl) rfl (fun _ _ h1 h2 => run_move (h1.ev rfl)) ?_
      refine Tr.val (wn rfl) rfl (fun _ _ h1 h2 => run_fieldAddr fo_26_3 (h1.ev rfl)) ?_
      refine Tr.val (wn rfl) rfl (fun _ _ h1 h2 => run_load1 ag_3 (h1.ev rfl) (rdb h2 (vs := [(.int .i64 p0.W), (.int .i64 p0.H), (.int .i64 p0.Rail), (.int .i64 p0.Gap), (.slice Ap0_0 (p0.Kinds).length cp0_0), (.slice Ap0_1 (p0.Slots).length cp0_1), (.slice Ap0_2 (p0.Marks).length cp0_2)]) (k := 1) rfl 3) rfl) ?_
      obtain ⟨y7, hy7, H⟩ := bnd H
      refine Tr.call0 (r := (.int .i64 y7)) (wn rfl) rfl Try.call60 (evl_cons rfl (evl_cons rfl (evl_cons rfl evl_nil))) (fun W hW => F_panel_many_ok (w64 (p0.H - (w64 (2 * p0.Rail)))) y4.2 p0.Gap y7 hy7) ?_
      refine Tr.val (wn rfl) rfl (fun _ _ h1 h2 => run_assign (h1.ev rfl)) ?_
      refine Tr.nil (Tr.normThen ?_)
      refine Tr.cutJ (σ := Int) (fun s => F_panel_Rows_J6 N p0 p1 y4 y5 y6 s = some r) (fun s => [(1, (.string p1)), (2, (.pointer (some ⟨b1, 0, none⟩))), (4, (.pointer (some ⟨b2, 0, none⟩))), (8, (.int .i64 y4.1)), (9, (.int .i64 y4.2)), (11, (.int .i64 (w64 (p0.H - (w64 (2 * p0.Rail)))))), (12, (.int .i64 y5)), (13, (.int .i64 y6)), (14, (.int .i64 s))]) (fun s => [(1, bx b1 #[(.int .i64 p0.W), (.int .i64 p0.H), (.int .i64 p0.Rail), (.int .i64 p0.Gap), (.slice Ap0_0 (p0.Kinds).length cp0_0), (.slice Ap0_1 (p0.Slots).length cp0_1), (.slice Ap0_2 (p0.Marks).length cp0_2)] 26), (2, bx b2 #[(.int .i64 0), (.int .i64 0), (.int .i64 0), (.int .i64 0), (.slice none 0 0), (.slice none 0 0), (.slice none 0 0)] 26)]) ?_ ?_
      · refine Tr.seq ?_
        refine Tr.region ?_
        refine Tr.val (wn rfl) rfl (fun _ _ h1 h2 => run_move (h1.ev rfl)) ?_
        refine Tr.val (wn rfl) rfl (fun _ _ h1 h2 => run_eql (h1.ev rfl) (h1.ev rfl)) ?_
        refine Tr.nil (Tr.normThen ?_)
        refine Tr.cond rfl H (fun H => ?_) (fun H => ?_)
        · refine Tr.region ?_
          refine Tr.val (wn rfl) rfl (fun _ _ h1 h2 => run_assign (h1.ev rfl)) ?_
          refine Tr.nil ?_
          exact Tr.backThen 0 H (.cons rfl (.cons rfl (.cons rfl (.cons rfl (.cons rfl (.cons rfl (.cons rfl (.cons rfl (.cons rfl .nil))))))))) (.cons rfl (.cons rfl .nil))
        · refine Tr.skip ?_
          exact Tr.backThen y7 H (.cons rfl (.cons rfl (.cons rfl (.cons rfl (.cons rfl (.cons rfl (.cons rfl (.cons rfl (.cons rfl .nil))))))))) (.cons rfl (.cons rfl .nil))
      · intro x8 hs
        have H := hs
        replace H : F_panel_Rows_J6 N p0 p1 y4 y5 y6 x8 = some r := H
        unfold F_panel_Rows_J6 at H
        show Tr _ _ (LF [(1, (.string p1)), (2, (.pointer (some ⟨b1, 0, none⟩))), (4, (.pointer (some ⟨b2, 0, none⟩))), (8, (.int .i64 y4.1)), (9, (.int .i64 y4.2)), (11, (.int .i64 (w64 (p0.H - (w64 (2 * p0.Rail)))))), (12, (.int .i64 y5)), (13, (.int .i64 y6)), (14, (.int .i64 x8))]) (LE [(1, bx b1 #[(.int .i64 p0.W), (.int .i64 p0.H), (.int .i64 p0.Rail), (.int .i64 p0.Gap), (.slice Ap0_0 (p0.Kinds).length cp0_0), (.slice Ap0_1 (p0.Slots).length cp0_1), (.slice Ap0_2 (p0.Marks).length cp0_2)] 26), (2, bx b2 #[(.int .i64 0), (.int .i64 0), (.int .i64 0), (.int .i64 0), (.slice none 0 0), (.slice none 0 0), (.slice none 0 0)] 26)]) _
        refine Tr.seq ?_
        refine Tr.region ?_
        refine Tr.val (wn rfl) rfl (fun _ _ h1 h2 => run_assign (h1.ev rfl)) ?_
        refine Tr.val (wn rfl) rfl (fun _ _ h1 h2 => run_assign (h1.ev rfl)) ?_
        refine Tr.nil (Tr.normThen ?_)
        refine Tr.seq ?_
        refine Tr.seq ?_
        refine Tr.region ?_
        refine Tr.val (wn rfl) rfl (fun _ _ h1 h2 => run_assign (h1.ev rfl)) ?_
        refine Tr.nil (Tr.normThen ?_)
        refine Tr.block ?_
        refine Tr.loop (σ := Int × Int × Int) (fun m s => F_panel_Rows_L4 N p0 p1 y4 y5 y6 x8 m s.1 s.2.1 s.2.2 = some r) (fun s => [(1, (.string p1)), (2, (.pointer (some ⟨b1, 0, none⟩))), (4, (.pointer (some ⟨b2, 0, none⟩))), (8, (.int .i64 y4.1)), (9, (.int .i64 y4.2)), (11, (.int .i64 (w64 (p0.H - (w64 (2 * p0.Rail)))))), (12, (.int .i64 y5)), (13, (.int .i64 y6)), (14, (.int .i64 x8)), (15, (.int .i64 s.1)), (16, (.int .i64 s.2.1)), (17, (.int .i64 s.2.2))]) (fun s => [(1, bx b1 #[(.int .i64 p0.W), (.int .i64 p0.H), (.int .i64 p0.Rail), (.int .i64 p0.Gap), (.slice Ap0_0 (p0.Kinds).length cp0_0), (.slice Ap0_1 (p0.Slots).length cp0_1), (.slice Ap0_2 (p0.Marks).length cp0_2)] 26), (2, bx b2 #[(.int .i64 0), (.int .i64 0), (.int .i64 0), (.int .i64 0), (.slice none 0 0), (.slice none 0 0), (.slice none 0 0)] 26)]) N (0, 0, 0) H (.cons rfl (.cons rfl (.cons rfl (.cons rfl (.cons rfl (.cons rfl (.cons rfl (.cons rfl (.cons rfl (.cons rfl (.cons rfl (.cons rfl .nil)))))))))))) (.cons rfl (.cons rfl .nil)) (fun _ h => noSome (h)) ?_
        intro mF_panel_Rows_L4 s hs
        obtain ⟨x31, x32, x33⟩ := s
        have H := hs
        replace H : F_panel_Rows_L4 N p0 p1 y4 y5 y6 x8 (mF_panel_Rows_L4 + 1) x31 x32 x33 = some r := H
        rw [F_panel_Rows_L4.eq_2] at H
        show Tr _ _ (LF [(1, (.string p1)), (2, (.pointer (some ⟨b1, 0, none⟩))), (4, (.pointer (some ⟨b2, 0, none⟩))), (8, (.int .i64 y4.1)), (9, (.int .i64 y4.2)), (11, (.int .i64 (w64 (p0.H - (w64 (2 * p0.Rail)))))), (12, (.int .i64 y5)), (13, (.int .i64 y6)), (14, (.int .i64 x8)), (15, (.int .i64 x31)), (16, (.int .i64 x32)), (17, (.int .i64 x33))]) (LE [(1, bx b1 #[(.int .i64 p0.W), (.int .i64 p0.H), (.int .i64 p0.Rail), (.int .i64 p0.Gap), (.slice Ap0_0 (p0.Kinds).length cp0_0), (.slice Ap0_1 (p0.Slots).length cp0_1), (.slice Ap0_2 (p0.Marks).length cp0_2)] 26), (2, bx b2 #[(.int .i64 0), (.int .i64 0), (.int .i64 0), (.int .i64 0), (.slice none 0 0), (.slice none 0 0), (.slice none 0 0)] 26)]) _
        refine Tr.seq ?_
        refine Tr.seq ?_
        refine Tr.region ?_
        refine Tr.val (wn rfl) rfl (fun _ _ h1 h2 => run_move (h1.ev rfl)) ?_
        refine Tr.val (wn rfl) rfl (fun _ _ h1 h2 => run_move (h1.ev rfl)) ?_
        refine Tr.val (wn rfl) rfl (fun _ _ h1 h2 => run_leq (h1.ev rfl) (h1.ev rfl)) ?_
        refine Tr.nil (Tr.normThen ?_)
        refine Tr.cond rfl H (fun H => ?_) (fun H => ?_)
        · refine Tr.skip (Tr.normThen ?_)
          refine Tr.seq ?_
          refine Tr.block ?_
          refine Tr.seq ?_
          refine Tr.region ?_
          refine Tr.val (wn rfl) rfl (fun _ _ h1 h2 => run_assign (h1.ev rfl)) ?_
          refine Tr.nil (Tr.normThen ?_)
          refine Tr.cutJ (σ := Int) (fun s => F_panel_Rows_J5 y5 y6 x31 x32 x33 (F_panel_Rows_L4 N p0 p1 y4 y5 y6 x8 mF_panel_Rows_L4) s = some r) (fun s => [(1, (.string p1)), (2, (.pointer (some ⟨b1, 0, none⟩))), (4, (.pointer (some ⟨b2, 0, none⟩))), (8, (.int .i64 y4.1)), (9, (.int .i64 y4.2)), (11, (.int .i64 (w64 (p0.H - (w64 (2 * p0.Rail)))))), (12, (.int .i64 y5)), (13, (.int .i64 y6)), (14, (.int .i64 x8)), (15, (.int .i64 x31)), (16, (.int .i64 x32)), (17, (.int .i64 x33)), (18, (.int .i64 s))]) (fun s => [(1, bx b1 #[(.int .i64 p0.W), (.int .i64 p0.H), (.int .i64 p0.Rail), (.int .i64 p0.Gap), (.slice Ap0_0 (p0.Kinds).length cp0_0), (.slice Ap0_1 (p0.Slots).length cp0_1), (.slice Ap0_2 (p0.Marks).length cp0_2)] 26), (2, bx b2 #[(.int .i64 0), (.int .i64 0), (.int .i64 0), (.int .i64 0), (.slice none 0 0), (.slice none 0 0), (.slice none 0 0)] 26)]) ?_ ?_
          · refine Tr.seq ?_
            refine Tr.region ?_
            refine Tr.val (wn rfl) rfl (fun _ _ h1 h2 => run_move (h1.ev rfl)) ?_
            refine Tr.val (wn rfl) rfl (fun _ _ h1 h2 => run_gtr (h1.ev rfl) (h1.ev rfl)) ?_
            refine Tr.nil (Tr.normThen ?_)
            refine Tr.cond rfl H (fun H => ?_) (fun H => ?_)
            · refine Tr.region ?_
              refine Tr.val (wn rfl) rfl (fun _ _ h1 h2 => run_move (h1.ev rfl)) ?_
              refine Tr.val (wn rfl) rfl (fun _ _ h1 h2 => run_move (h1.ev rfl)) ?_
              refine Tr.val (wn rfl) rfl (fun _ _ h1 h2 => run_move (h1.ev rfl)) ?_
              refine Tr.val (wn rfl) rfl (fun _ _ h1 h2 => run_fieldAddr fo_26_3 (h1.ev rfl)) ?_
              refine Tr.val (wn rfl) rfl (fun _ _ h1 h2 => run_load1 ag_3 (h1.ev rfl) (rdb h2 (vs := [(.int .i64 p0.W), (.int .i64 p0.H), (.int .i64 p0.Rail), (.int .i64 p0.Gap), (.slice Ap0_0 (p0.Kinds).length cp0_0), (.slice Ap0_1 (p0.Slots).length cp0_1), (.slice Ap0_2 (p0.Marks).length cp0_2)]) (k := 1) rfl 3) rfl) ?_
              refine Tr.val (wn rfl) rfl (fun _ _ h1 h2 => run_add (h1.ev rfl) (h1.ev rfl)) ?_
              refine Tr.val (wn rfl) rfl (fun _ _ h1 h2 => run_mul (h1.ev rfl) (h1.ev rfl)) ?_
              refine Tr.val (wn rfl) rfl (fun _ _ h1 h2 => run_sub (h1.ev rfl) (h1.ev rfl)) ?_
              refine Tr.val (wn rfl) rfl (fun _ _ h1 h2 => run_move (h1.ev rfl)) ?_
              refine Tr.val (wn rfl) rfl (fun _ _ h1 h2 => run_fieldAddr fo_26_3 (h1.ev rfl)) ?_
              refine Tr.val (wn rfl) rfl (fun _ _ h1 h2 => run_load1 ag_3 (h1.ev rfl) (rdb h2 (vs := [(.int .i64 p0.W), (.int .i64 p0.H), (.int .i64 p0.Rail), (.int .i64 p0.Gap), (.slice Ap0_0 (p0.Kinds).length cp0_0), (.slice Ap0_1 (p0.Slots).length cp0_1), (.slice Ap0_2 (p0.Marks).length cp0_2)]) (k := 1) rfl 3) rfl) ?_
              obtain ⟨y36, hy36, H⟩ := bnd H
              refine Tr.call0 (r := (.int .i64 y36)) (wn rfl) rfl Try.call60 (evl_cons rfl (evl_cons rfl (evl_cons rfl evl_nil))) (fun W hW => F_panel_many_ok (w64 ((w64 (p0.H - (w64 (2 * p0.Rail)))) - (w64 (x33 * (w64 (y4.2 + p0.Gap)))))) y4.1 p0.Gap y36 hy36) ?_
              refine Tr.val (wn rfl) rfl (fun _ _ h1 h2 => run_assign (h1.ev rfl)) ?_
              refine Tr.nil ?_
              exact Tr.backThen y36 H (.cons rfl (.cons rfl (.cons rfl (.cons rfl (.cons rfl (.cons rfl (.cons rfl (.cons rfl (.cons rfl (.cons rfl (.cons rfl (.cons rfl (.cons rfl .nil))))))))))))) (.cons rfl (.cons rfl .nil))
            · refine Tr.skip ?_
              exact Tr.backThen 0 H (.cons rfl (.cons rfl (.cons rfl (.cons rfl (.cons rfl (.cons rfl (.cons rfl (.cons rfl (.cons rfl (.cons rfl (.cons rfl (.cons rfl (.cons rfl .nil))))))))))))) (.cons rfl (.cons rfl .nil))
          · intro x35 hs
            have H := hs
            replace H : F_panel_Rows_J5 y5 y6 x31 x32 x33 (F_panel_Rows_L4 N p0 p1 y4 y5 y6 x8 mF_panel_Rows_L4) x35 = some r := H
            unfold F_panel_Rows_J5 at H
            show Tr _ _ (LF [(1, (.string p1)), (2, (.pointer (some ⟨b1, 0, none⟩))), (4, (.pointer (some ⟨b2, 0, none⟩))), (8, (.int .i64 y4.1)), (9, (.int .i64 y4.2)), (11, (.int .i64 (w64 (p0.H - (w64 (2 * p0.Rail)))))), (12, (.int .i64 y5)), (13, (.int .i64 y6)), (14, (.int .i64 x8)), (15, (.int .i64 x31)), (16, (.int .i64 x32)), (17, (.int .i64 x33)), (18, (.int .i64 x35))]) (LE [(1, bx b1 #[(.int .i64 p0.W), (.int .i64 p0.H), (.int .i64 p0.Rail), (.int .i64 p0.Gap), (.slice Ap0_0 (p0.Kinds).length cp0_0), (.slice Ap0_1 (p0.Slots).length cp0_1), (.slice Ap0_2 (p0.Marks).length cp0_2)] 26), (2, bx b2 #[(.int .i64 0), (.int .i64 0), (.int .i64 0), (.int .i64 0), (.slice none 0 0), (.slice none 0 0), (.slice none 0 0)] 26)]) _
            refine Tr.seq ?_
            refine Tr.region ?_
            refine Tr.val (wn rfl) rfl (fun _ _ h1 h2 => run_move (h1.ev rfl)) ?_
            refine Tr.val (wn rfl) rfl (fun _ _ h1 h2 => run_move (h1.ev rfl)) ?_
            refine Tr.val (wn rfl) rfl (fun _ _ h1 h2 => run_mul (h1.ev rfl) (h1.ev rfl)) ?_
            refine Tr.val (wn rfl) rfl (fun _ _ h1 h2 => run_move (h1.ev rfl)) ?_
            refine Tr.val (wn rfl) rfl (fun _ _ h1 h2 => run_move (h1.ev rfl)) ?_
            refine Tr.val (wn rfl) rfl (fun _ _ h1 h2 => run_mul (h1.ev rfl) (h1.ev rfl)) ?_
            refine Tr.val (wn rfl) rfl (fun _ _ h1 h2 => run_add (h1.ev rfl) (h1.ev rfl)) ?_
            refine Tr.val (wn rfl) rfl (fun _ _ h1 h2 => run_move (h1.ev rfl)) ?_
            refine Tr.val (wn rfl) rfl (fun _ _ h1 h2 => run_move (h1.ev rfl)) ?_
            refine Tr.val (wn rfl) rfl (fun _ _ h1 h2 => run_mul (h1.ev rfl) (h1.ev rfl)) ?_
            refine Tr.val (wn rfl) rfl (fun _ _ h1 h2 => run_move (h1.ev rfl)) ?_
            refine Tr.val (wn rfl) rfl (fun _ _ h1 h2 => run_move (h1.ev rfl)) ?_
            refine Tr.val (wn rfl) rfl (fun _ _ h1 h2 => run_mul (h1.ev rfl) (h1.ev rfl)) ?_
            refine Tr.val (wn rfl) rfl (fun _ _ h1 h2 => run_add (h1.ev rfl) (h1.ev rfl)) ?_
            refine Tr.val (wn rfl) rfl (fun _ _ h1 h2 => run_geq (h1.ev rfl) (h1.ev rfl)) ?_
            refine Tr.nil (Tr.normThen ?_)
            refine Tr.cond rfl H (fun H => ?_) (fun H => ?_)
            · refine Tr.region ?_
              refine Tr.val (wn rfl) rfl (fun _ _ h1 h2 => run_move (h1.ev rfl)) ?_
              refine Tr.val (wn rfl) rfl (fun _ _ h1 h2 => run_move (h1.ev rfl)) ?_
              refine Tr.val (wn rfl) rfl (fun _ _ h1 h2 => run_assign (h1.ev rfl)) ?_
              refine Tr.val (wn rfl) rfl (fun _ _ h1 h2 => run_assign (h1.ev rfl)) ?_
              refine Tr.nil (Tr.normBlock (Tr.normThen ?_))
              refine Tr.region ?_
              refine Tr.val (wn rfl) rfl (fun _ _ h1 h2 => run_move (h1.ev rfl)) ?_
              refine Tr.val (wn rfl) rfl (fun _ _ h1 h2 => run_add (h1.ev rfl) (h1.ev rfl)) ?_
              refine Tr.val (wn rfl) rfl (fun _ _ h1 h2 => run_assign (h1.ev rfl)) ?_
              refine Tr.nil ?_
              exact Tr.backThen (x33, x35, (w64 (x33 + 1))) H (.cons rfl (.cons rfl (.cons rfl (.cons rfl (.cons rfl (.cons rfl (.cons rfl (.cons rfl (.cons rfl (.cons rfl (.cons rfl (.cons rfl .nil)))))))))))) (.cons rfl (.cons rfl .nil))
            · refine Tr.skip (Tr.normBlock (Tr.normThen ?_))
              refine Tr.region ?_
              refine Tr.val (wn rfl) rfl (fun _ _ h1 h2 => run_move (h1.ev rfl)) ?_
              refine Tr.val (wn rfl) rfl (fun _ _ h1 h2 => run_add (h1.ev rfl) (h1.ev rfl)) ?_
              refine Tr.val (wn rfl) rfl (fun _ _ h1 h2 => run_assign (h1.ev rfl)) ?_
              refine Tr.nil ?_
              exact Tr.backThen (x31, x32, (w64 (x33 + 1))) H (.cons rfl (.cons rfl (.cons rfl (.cons rfl (.cons rfl (.cons rfl (.cons rfl (.cons rfl (.cons rfl (.cons rfl (.cons rfl (.cons rfl .nil)))))))))))) (.cons rfl (.cons rfl .nil))
        · refine Tr.exit (Tr.exitThen (Tr.exitThen (Tr.exitBlock (Tr.normThen ?_))))
          refine Tr.seq ?_
          refine Tr.region ?_
          refine Tr.val (wn rfl) rfl (fun _ _ h1 h2 => run_loadN (cs := [(.int .i64 p0.W), (.int .i64 p0.H), (.int .i64 p0.Rail), (.int .i64 p0.Gap), (.slice Ap0_0 (p0.Kinds).length cp0_0), (.slice Ap0_1 (p0.Slots).length cp0_1), (.slice Ap0_2 (p0.Marks).length cp0_2)]) ag_26 sz_26 (h1.ev rfl) (CellsAt.take (rdb h2 (vs := [(.int .i64 p0.W), (.int .i64 p0.H), (.int .i64 p0.Rail), (.int .i64 p0.Gap), (.slice Ap0_0 (p0.Kinds).length cp0_0), (.slice Ap0_1 (p0.Slots).length cp0_1), (.slice Ap0_2 (p0.Marks).length cp0_2)]) (k := 1) rfl 0) 7) rfl) ?_
          refine Tr.val (wn rfl) rfl (fun _ _ h1 h2 => run_move (h1.ev rfl)) ?_
          refine Tr.val (wn rfl) rfl (fun _ _ h1 h2 => run_move (h1.ev rfl)) ?_
          refine Tr.val (wn rfl) rfl (fun _ _ h1 h2 => run_move (h1.ev rfl)) ?_
          refine Tr.val (wn rfl) rfl (fun _ _ h1 h2 => run_move (h1.ev rfl)) ?_
          refine Tr.val (wn rfl) rfl (fun _ _ h1 h2 => run_move (h1.ev rfl)) ?_
          obtain ⟨y37, hy37, H⟩ := bnd H
          refine Tr.callZ 3 (U := Option Addr × Nat × Option Addr × Nat × Option Addr × Nat) (fun u => (.tuple #[(.agg #[(.int .i64 y37.1.W), (.int .i64 y37.1.H), (.int .i64 y37.1.Rail), (.int .i64 y37.1.Gap), (.slice u.1 (y37.1.Kinds).length u.2.1), (.slice u.2.2.1 (y37.1.Slots).length u.2.2.2.1), (.slice u.2.2.2.2.1 (y37.1.Marks).length u.2.2.2.2.2)]), (.int .i64 y37.2)])) (fun u R W' => Sl R W' fl_TBoardKind u.1 u.2.1 y37.1.Kinds ∧ Sl R W' fl_TSlot u.2.2.1 u.2.2.2.1 y37.1.Slots ∧ Sl R W' fl_TPoint u.2.2.2.2.1 u.2.2.2.2.2 y37.1.Marks) (Dp S0 []) (wn rfl) rfl Try.call61 (evl_cons rfl (evl_cons rfl (evl_cons rfl (evl_cons rfl (evl_cons rfl (evl_cons rfl (evl_cons rfl evl_nil))))))) (fun W hW => F_panel_rows_ok N (Dp S0 []) (Dp.lt hS hW trivial) p0 Ap0_0 cp0_0 (Zs.pass hp0_0z hW trivial (by simp)) Ap0_1 cp0_1 (Zs.pass hp0_1z hW trivial (by simp)) Ap0_2 cp0_2 (Zs.pass hp0_2z hW trivial (by simp)) p1 0 y5 x31 y6 x32 y37 hy37) ?_
          intro u Sy37 Wy37 hu h0
          obtain ⟨Ay37_0, cy37_0, Ay37_1, cy37_1, Ay37_2, cy37_2⟩ := u
          obtain ⟨gy37_0, gy37_1, gy37_2⟩ := hu
          have zgy37_0 : Zs S0 w [(3, Sy37, Wy37)] fl_TBoardKind Ay37_0 cy37_0 y37.1.Kinds := Zs.new (ds := []) hS gy37_0 h0 ⟨rfl, trivial⟩
          have hgy37_0 : SlF Ay37_0 (y37.1.Kinds).length cy37_0 := gy37_0.form
          have zgy37_1 : Zs S0 w [(3, Sy37, Wy37)] fl_TSlot Ay37_1 cy37_1 y37.1.Slots := Zs.new (ds := []) hS gy37_1 h0 ⟨rfl, trivial⟩
          have hgy37_1 : SlF Ay37_1 (y37.1.Slots).length cy37_1 := gy37_1.form
          have zgy37_2 : Zs S0 w [(3, Sy37, Wy37)] fl_TPoint Ay37_2 cy37_2 y37.1.Marks := Zs.new (ds := []) hS gy37_2 h0 ⟨rfl, trivial⟩
          have hgy37_2 : SlF Ay37_2 (y37.1.Marks).length cy37_2 := gy37_2.form
          show Tr _ _ (uf _ 111 (.tuple #[(.agg #[(.int .i64 y37.1.W), (.int .i64 y37.1.H), (.int .i64 y37.1.Rail), (.int .i64 y37.1.Gap), (.slice Ay37_0 (y37.1.Kinds).length cy37_0), (.slice Ay37_1 (y37.1.Slots).length cy37_1), (.slice Ay37_2 (y37.1.Marks).length cy37_2)]), (.int .i64 y37.2)])) (up _ 3 (fz Sy37 Wy37)) _
          refine Tr.val (wn rfl) rfl (fun _ _ h1 h2 => run_extract (h1.ev rfl) rfl) ?_
          refine Tr.val (wn rfl) rfl (fun _ _ h1 h2 => run_extract (h1.ev rfl) rfl) ?_
          refine Tr.store 2 (cs := [(.int .i64 y37.1.W), (.int .i64 y37.1.H), (.int .i64 y37.1.Rail), (.int .i64 y37.1.Gap), (.slice Ay37_0 (y37.1.Kinds).length cy37_0), (.slice Ay37_1 (y37.1.Slots).length cy37_1), (.slice Ay37_2 (y37.1.Marks).length cy37_2)]) [(.int .i64 y37.1.W), (.int .i64 y37.1.H), (.int .i64 y37.1.Rail), (.int .i64 y37.1.Gap), (.slice Ay37_0 (y37.1.Kinds).length cy37_0), (.slice Ay37_1 (y37.1.Slots).length cy37_1), (.slice Ay37_2 (y37.1.Marks).length cy37_2)] (wn rfl) rfl rfl rfl rfl sz_26 rfl rfl rfl ?_
          refine Tr.val (wn rfl) rfl (fun _ _ h1 h2 => run_assign (h1.ev rfl)) ?_
          refine Tr.nil (Tr.normThen ?_)
          refine Tr.ret ?_
          obtain rfl := Option.some.inj H
          exact Tr.out (m := [(.agg #[(.int .i64 y37.1.W), (.int .i64 y37.1.H), (.int .i64 y37.1.Rail), (.int .i64 y37.1.Gap), (.slice Ay37_0 (y37.1.Kinds).length cy37_0), (.slice Ay37_1 (y37.1.Slots).length cy37_1), (.slice Ay37_2 (y37.1.Marks).length cy37_2)]), (.int .i64 y37.2)]) [2] (res_cell rfl rfl ag_26 sz_26 (res_tmp rfl res_nil)) (fun W hW => ⟨(Ay37_0, cy37_0, Ay37_1, cy37_1, Ay37_2, cy37_2), rfl, ⟨Zs.out hS zgy37_0 hW ⟨rfl, trivial⟩, Zs.out hS zgy37_1 hW ⟨rfl, trivial⟩, Zs.out hS zgy37_2 hW ⟨rfl, trivial⟩⟩, hW.below⟩)

theorem F_panel_Grid_ok (N : Nat) {w : World} (S0 : Nat → Prop) (hS : ∀ b, S0 b → b < w.heap.size) (p0 : TPanel) (Ap0_0 : Option Addr) (cp0_0 : Nat) (hp0_0s : Sl S0 w fl_TBoardKind Ap0_0 cp0_0 p0.Kinds) (Ap0_1 : Option Addr) (cp0_1 : Nat) (hp0_1s : Sl S0 w fl_TSlot Ap0_1 cp0_1 p0.Slots) (Ap0_2 : Option Addr) (cp0_2 : Nat) (hp0_2s : Sl S0 w fl_TPoint Ap0_2 cp0_2 p0.Marks) (p1 : ByteArray) (p2 : Int) (r : (TPanel × Int)) (H : F_panel_Grid N p0 p1 p2 = some r) : Calls Try.prog 26 [(.agg #[(.int .i64 p0.W), (.int .i64 p0.H), (.int .i64 p0.Rail), (.int .i64 p0.Gap), (.slice Ap0_0 (p0.Kinds).length cp0_0), (.slice Ap0_1 (p0.Slots).length cp0_1), (.slice Ap0_2 (p0.Marks).length cp0_2)]), (.string p1), (.int .i64 p2)].toArray w fun e W' => ∃ u : Option Addr × Nat × Option Addr × Nat × Option Addr × Nat, e = .returned (.tuple #[(.agg #[(.int .i64 r.1.W), (.int .i64 r.1.H), (.int .i64 r.1.Rail), (.int .i64 r.1.Gap), (.slice u.1 (r.1.Kinds).length u.2.1), (.slice u.2.2.1 (r.1.Slots).length u.2.2.2.1), (.slice u.2.2.2.2.1 (r.1.Marks).length u.2.2.2.2.2)]), (.int .i64 r.2)]) ∧ (Sl (fun b => S0 b ∨ (w.heap.size ≤ b ∧ b < W'.heap.size)) W' fl_TBoardKind u.1 u.2.1 r.1.Kinds ∧ Sl (fun b => S0 b ∨ (w.heap.size ≤ b ∧ b < W'.heap.size)) W' fl_TSlot u.2.2.1 u.2.2.2.1 r.1.Slots ∧ Sl (fun b => S0 b ∨ (w.heap.size ≤ b ∧ b < W'.heap.size)) W' fl_TPoint u.2.2.2.2.1 u.2.2.2.2.2 r.1.Marks) ∧ Below w.heap.size w W' := by
  unfold F_panel_Grid at H
  have hp0_0 : Sl (lo w.heap.size) w fl_TBoardKind Ap0_0 cp0_0 p0.Kinds := Sl.mono hp0_0s hS
  have hp0_0z : Zs S0 w [] fl_TBoardKind Ap0_0 cp0_0 p0.Kinds := Zs.arg hS hp0_0s
  have hp0_1 : Sl (lo w.heap.size) w fl_TSlot Ap0_1 cp0_1 p0.Slots := Sl.mono hp0_1s hS
  have hp0_1z : Zs S0 w [] fl_TSlot Ap0_1 cp0_1 p0.Slots := Zs.arg hS hp0_1s
  have hp0_2 : Sl (lo w.heap.size) w fl_TPoint Ap0_2 cp0_2 p0.Marks := Sl.mono hp0_2s hS
  have hp0_2z : Zs S0 w [] fl_TPoint Ap0_2 cp0_2 p0.Marks := Zs.arg hS hp0_2s
  refine Tr.enter (n := 70) Try.func26 rfl rfl rfl ?_
  refine Tr.seq ?_
  refine Tr.region ?_
  refine Tr.box 1 (cs := [(.int .i64 p0.W), (.int .i64 p0.H), (.int .i64 p0.Rail), (.int .i64 p0.Gap), (.slice Ap0_0 (p0.Kinds).length cp0_0), (.slice Ap0_1 (p0.Slots).length cp0_1), (.slice Ap0_2 (p0.Marks).length cp0_2)]) (wn rfl) rfl rfl rfl fun b1 => ?_
  refine Tr.alloc 2 (wn rfl) rfl ze_26 fun b2 => ?_
  refine Tr.val (wn rfl) rfl (fun _ _ h1 h2 => run_assign (h1.ev rfl)) ?_
  refine Tr.nil (Tr.normThen ?_)
  refine Tr.seq ?_
  refine Tr.seq ?_
  refine Tr.region ?_
  refine Tr.val (wn rfl) rfl (fun _ _ h1 h2 => run_loadN (cs := [(.int .i64 p0.W), (.int .i64 p0.H), (.int .i64 p0.Rail), (.int .i64 p0.Gap), (.slice Ap0_0 (p0.Kinds).length cp0_0), (.slice Ap0_1 (p0.Slots).length cp0_1), (.slice Ap0_2 (p0.Marks).length cp0_2)]) ag_26 sz_26 (h1.ev rfl) (CellsAt.take (rdb h2 (vs := [(.int .i64 p0.W), (.int .i64 p0.H), (.int .i64 p0.Rail), (.int .i64 p0.Gap), (.slice Ap0_0 (p0.Kinds).length cp0_0), (.slice Ap0_1 (p0.Slots).length cp0_1), (.slice Ap0_2 (p0.Marks).length cp0_2)]) (k := 1) rfl 0) 7) rfl) ?_
  obtain ⟨y1, hy1, H⟩ := bnd H
  refine Tr.call0 (r := (.int .i64 y1)) (wn rfl) rfl Try.call31 (evl_cons rfl evl_nil) (fun W hW => F_panel_CheckPanel_ok N p0 Ap0_0 cp0_0 (Sl.up hp0_0 hW) Ap0_1 cp0_1 (Sl.up hp0_1 hW) Ap0_2 cp0_2 (Sl.up hp0_2 hW) y1 hy1) ?_
  refine Tr.val (wn rfl) rfl (fun _ _ h1 h2 => run_assign (h1.ev rfl)) ?_
  refine Tr.nil (Tr.normThen ?_)
  refine Tr.seq ?_
  refine Tr.region ?_
  refine Tr.val (wn rfl) rfl (fun _ _ h1 h2 => run_move (h1.ev rfl)) ?_
  refine Tr.val (wn rfl) rfl (fun _ _ h1 h2 => run_neq (h1.ev rfl) (h1.ev rfl)) ?_
  refine Tr.nil (Tr.normThen ?_)
  refine Tr.cond rfl H (fun H => ?_) (fun H => ?_)
  · refine Tr.seq ?_
    refine Tr.region ?_
    refine Tr.build (vs := []) (cs := [(.int .i64 0), (.int .i64 0), (.int .i64 0), (.int .i64 0), (.slice none 0 0), (.slice none 0 0), (.slice none 0 0)]) (wn rfl) rfl evs_nil (by kernel_rfl) ?_
    refine Tr.val (wn rfl) rfl (fun _ _ h1 h2 => run_move (h1.ev rfl)) ?_
    refine Tr.store 2 (cs := [(.int .i64 0), (.int .i64 0), (.int .i64 0), (.int .i64 0), (.slice none 0 0), (.slice none 0 0), (.slice none 0 0)]) [(.int .i64 0), (.int .i64 0), (.int .i64 0), (.int .i64 0), (.slice none 0 0), (.slice none 0 0), (.slice none 0 0)] (wn rfl) rfl rfl rfl rfl sz_26 rfl rfl rfl ?_
    refine Tr.val (wn rfl) rfl (fun _ _ h1 h2 => run_assign (h1.ev rfl)) ?_
    refine Tr.nil (Tr.normThen ?_)
    refine Tr.ret (Tr.retThen ?_)
    obtain rfl := Option.some.inj H
    exact Tr.out (m := [(.agg #[(.int .i64 0), (.int .i64 0), (.int .i64 0), (.int .i64 0), (.slice none 0 0), (.slice none 0 0), (.slice none 0 0)]), (.int .i64 y1)]) [2] (res_cell rfl rfl ag_26 sz_26 (res_tmp rfl res_nil)) (fun W hW => ⟨(none, 0, none, 0, none, 0), rfl, ⟨Sl.nil _ _ _, Sl.nil _ _ _, Sl.nil _ _ _⟩, hW.below⟩)
  · refine Tr.skip (Tr.normThen ?_)
    refine Tr.seq ?_
    refine Tr.region ?_
    refine Tr.val (wn rfl) rfl (fun _ _ h1 h2 => run_loadN (cs := [(.int .i64 p0.W), (.int .i64 p0.H), (.int .i64 p0.Rail), (.int .i64 p0.Gap), (.slice Ap0_0 (p0.Kinds).length cp0_0), (.slice Ap0_1 (p0.Slots).length cp0_1), (.slice Ap0_2 (p0.Marks).length cp0_2)]) ag_26 sz_26 (h1.ev rfl) (CellsAt.take (rdb h2 (vs := [(.int .i64 p0.W), (.int .i64 p0.H), (.int .i64 p0.Rail), (.int .i64 p0.Gap), (.slice Ap0_0 (p0.Kinds).length cp0_0), (.slice Ap0_1 (p0.Slots).length cp0_1), (.slice Ap0_2 (p0.Marks).length cp0_2)]) (k := 1) rfl 0) 7) rfl) ?_
    refine Tr.val (wn rfl) rfl (fun _ _ h1 h2 => run_move (h1.ev rfl)) ?_
    obtain ⟨y2, hy2, H⟩ := bnd H
    refine Tr.call0 (r := (.int .i64 y2)) (wn rfl) rfl Try.call45 (evl_cons rfl (evl_cons rfl evl_nil)) (fun W hW => F_panel_kindAt_ok p0 Ap0_0 cp0_0 (Sl.up hp0_0 hW) Ap0_1 cp0_1 (Sl.up hp0_1 hW) Ap0_2 cp0_2 (Sl.up hp0_2 hW) p1 y2 hy2) ?_
    refine Tr.val (wn rfl) rfl (fun _ _ h1 h2 => run_assign (h1.ev rfl)) ?_
    refine Tr.nil (Tr.normThen ?_)
    refine Tr.seq ?_
    refine Tr.seq ?_
    refine Tr.region ?_
    refine Tr.val (wn rfl) rfl (fun _ _ h1 h2 => run_move (h1.ev rfl)) ?_
    refine Tr.val (wn rfl) rfl (fun _ _ h1 h2 => run_lss (h1.ev rfl) (h1.ev rfl)) ?_
    refine Tr.nil (Tr.normThen ?_)
    refine Tr.cond rfl H (fun H => ?_) (fun H => ?_)
    · refine Tr.seq ?_
      refine Tr.region ?_
      refine Tr.build (vs := []) (cs := [(.int .i64 0), (.int .i64 0), (.int .i64 0), (.int .i64 0), (.slice none 0 0), (.slice none 0 0), (.slice none 0 0)]) (wn rfl) rfl evs_nil (by kernel_rfl) ?_
      refine Tr.store 2 (cs := [(.int .i64 0), (.int .i64 0), (.int .i64 0), (.int .i64 0), (.slice none 0 0), (.slice none 0 0), (.slice none 0 0)]) [(.int .i64 0), (.int .i64 0), (.int .i64 0), (.int .i64 0), (.slice none 0 0), (.slice none 0 0), (.slice none 0 0)] (wn rfl) rfl rfl rfl rfl sz_26 rfl rfl rfl ?_
      refine Tr.val (wn rfl) rfl (fun _ _ h1 h2 => run_assign (h1.ev rfl)) ?_
      refine Tr.nil (Tr.normThen ?_)
      refine Tr.ret (Tr.retThen ?_)
      obtain rfl := Option.some.inj H
      exact Tr.out (m := [(.agg #[(.int .i64 0), (.int .i64 0), (.int .i64 0), (.int .i64 0), (.slice none 0 0), (.slice none 0 0), (.slice none 0 0)]), (.int .i64 9)]) [2] (res_cell rfl rfl ag_26 sz_26 (res_tmp rfl res_nil)) (fun W hW => ⟨(none, 0, none, 0, none, 0), rfl, ⟨Sl.nil _ _ _, Sl.nil _ _ _, Sl.nil _ _ _⟩, hW.below⟩)
    · refine Tr.skip (Tr.normThen ?_)
      refine Tr.seq ?_
      refine Tr.seq ?_
      refine Tr.region ?_
      refine Tr.val (wn rfl) rfl (fun _ _ h1 h2 => run_move (h1.ev rfl)) ?_
      obtain ⟨y3, hy3, H⟩ := bnd H
      refine Tr.call0 (r := (.bool y3)) (wn rfl) rfl Try.call46 (evl_cons rfl (evl_cons rfl (evl_cons rfl evl_nil))) (fun W hW => F_panel_within_ok p2 0 3 y3 hy3) ?_
      refine Tr.val (wn rfl) rfl (fun _ _ h1 h2 => run_not (h1.ev rfl)) ?_
      refine Tr.nil (Tr.normThen ?_)
      refine Tr.cond rfl H (fun H => ?_) (fun H => ?_)
      · refine Tr.seq ?_
        refine Tr.region ?_
        refine Tr.build (vs := []) (cs := [(.int .i64 0), (.int .i64 0), (.int .i64 0), (.int .i64 0), (.slice none 0 0), (.slice none 0 0), (.slice none 0 0)]) (wn rfl) rfl evs_nil (by kernel_rfl) ?_
        refine Tr.store 2 (cs := [(.int .i64 0), (.int .i64 0), (.int .i64 0), (.int .i64 0), (.slice none 0 0), (.slice none 0 0), (.slice none 0 0)]) [(.int .i64 0), (.int .i64 0), (.int .i64 0), (.int .i64 0), (.slice none 0 0), (.slice none 0 0), (.slice none 0 0)] (wn rfl) rfl rfl rfl rfl sz_26 rfl rfl rfl ?_
        refine Tr.val (wn rfl) rfl (fun _ _ h1 h2 => run_assign (h1.ev rfl)) ?_
        refine Tr.nil (Tr.normThen ?_)
        refine Tr.ret (Tr.retThen ?_)
        obtain rfl := Option.some.inj H
        exact Tr.out (m := [(.agg #[(.int .i64 0), (.int .i64 0), (.int .i64 0), (.int .i64 0), (.slice none 0 0), (.slice none 0 0), (.slice none 0 0)]), (.int .i64 1)]) [2] (res_cell rfl rfl ag_26 sz_26 (res_tmp rfl res_nil)) (fun W hW => ⟨(none, 0, none, 0, none, 0), rfl, ⟨Sl.nil _ _ _, Sl.nil _ _ _, Sl.nil _ _ _⟩, hW.below⟩)
      · refine Tr.skip (Tr.normThen ?_)
        refine Tr.seq ?_
        refine Tr.region ?_
        refine Tr.val (wn rfl) rfl (fun _ _ h1 h2 => run_fieldAddr fo_26_4 (h1.ev rfl)) ?_
        refine Tr.val (wn rfl) rfl (fun _ _ h1 h2 => run_load1 ag_22 (h1.ev rfl) (rdb h2 (vs := [(.int .i64 p0.W), (.int .i64 p0.H), (.int .i64 p0.Rail), (.int .i64 p0.Gap), (.slice Ap0_0 (p0.Kinds).length cp0_0), (.slice Ap0_1 (p0.Slots).length cp0_1), (.slice Ap0_2 (p0.Marks).length cp0_2)]) (k := 1) rfl 4) rfl) ?_
        refine Tr.val (wn rfl) rfl (fun _ _ h1 h2 => run_move (h1.ev rfl)) ?_
        obtain ⟨x4, hx4, H⟩ := bnd H
        obtain ⟨hx40, hx41, hx42⟩ := idx_some hx4
        refine Tr.val (wn rfl) rfl (fun _ _ h1 h2 => run_indexAddr el_22 (h1.ev rfl) hp0_0.form (h1.ev rfl) hx40 hx41) ?_
        refine Tr.val (wn rfl) rfl (fun _ _ h1 h2 => run_loadN (cs := [(.string x4.Name), (.int .i64 x4.W), (.int .i64 x4.H)]) ag_82 sz_82 (h1.ev rfl) (CellsAt.take (Rd.arg hp0_0 hx42 _ h2) 3) rfl) ?_
        refine Tr.val (wn rfl) rfl (fun _ _ h1 h2 => run_move (h1.ev rfl)) ?_
        obtain ⟨y5, hy5, H⟩ := bnd H
        refine Tr.call0 (r := (.tuple #[(.int .i64 y5.1), (.int .i64 y5.2)])) (wn rfl) rfl Try.call59 (evl_cons rfl (evl_cons rfl evl_nil)) (fun W hW => F_panel_sizeOf_ok x4 p2 y5 hy5) ?_
        refine Tr.val (wn rfl) rfl (fun _ _ h1 h2 => run_move (h1.ev rfl)) ?_
        refine Tr.val (wn rfl) rfl (fun _ _ h1 h2 => run_extract (h1.ev rfl) rfl) ?_
        refine Tr.val (wn rfl) rfl (fun _ _ h1 h2 => run_extract (h1.ev rfl) rfl) ?_
        refine Tr.val (wn rfl) rfl (fun _ _ h1 h2 => run_assign (h1.ev rfl)) ?_
        refine Tr.val (wn rfl) rfl (fun _ _ h1 h2 => run_assign (h1.ev rfl)) ?_
        refine Tr.nil (Tr.normThen ?_)
        refine Tr.seq ?_
        refine Tr.draw (by kernel_rfl) (by kernel_rfl) ?_
        refine Tq.val (wn rfl) rfl (fun _ _ h1 h2 => run_fieldAddr fo_26_0 (h1.ev rfl)) ?_
        refine Tq.val (wn rfl) rfl (fun _ _ h1 h2 => run_load1 ag_3 (h1.ev rfl) (rdb h2 (vs := [(.int .i64 p0.W), (.int .i64 p0.H), (.int .i64 p0.Rail), (.int .i64 p0.Gap), (.slice Ap0_0 (p0.Kinds).length cp0_0), (.slice Ap0_1 (p0.Slots).length cp0_1), (.slice Ap0_2 (p0.Marks).length cp0_2)]) (k := 1) rfl 0) rfl) ?_
        refine Tq.val (wn rfl) rfl (fun _ _ h1 h2 => run_fieldAddr fo_26_2 (h1.ev rfl)) ?_
        refine Tq.val (wn rfl) rfl (fun _ _ h1 h2 => run_load1 ag_3 (h1.ev rfl) (rdb h2 (vs := [(.int .i64 p0.W), (.int .i64 p0.H), (.int .i64 p0.Rail), (.int .i64 p0.Gap), (.slice Ap0_0 (p0.Kinds).length cp0_0), (.slice Ap0_1 (p0.Slots).length cp0_1), (.slice Ap0_2 (p0.Marks).length cp0_2)]) (k := 1) rfl 2) rfl) ?_
        refine Tq.val (wn rfl) rfl (fun _ _ h1 h2 => run_mul (h1.ev rfl) (h1.ev rfl)) ?_
        refine Tq.val (wn rfl) rfl (fun _ _ h1 h2 => run_sub (h1.ev rfl) (h1.ev rfl)) ?_
        refine Tq.val (wn rfl) rfl (fun _ _ h1 h2 => run_move (h1.ev rfl)) ?_
        refine Tq.val (wn rfl) rfl (fun _ _ h1 h2 => run_fieldAddr fo_26_3 (h1.ev rfl)) ?_
        refine Tq.val (wn rfl) rfl (fun _ _ h1 h2 => run_load1 ag_3 (h1.ev rfl) (rdb h2 (vs := [(.int .i64 p0.W), (.int .i64 p0.H), (.int .i64 p0.Rail), (.int .i64 p0.Gap), (.slice Ap0_0 (p0.Kinds).length cp0_0), (.slice Ap0_1 (p0.Slots).length cp0_1), (.slice Ap0_2 (p0.Marks).length cp0_2)]) (k := 1) rfl 3) rfl) ?_
        obtain ⟨y6, hy6, H⟩ := bnd H
        refine Tq.call0 (r := (.int .i64 y6)) (wn rfl) rfl Try.call60 (evl_cons rfl (evl_cons rfl (evl_cons rfl evl_nil))) (fun W hW => F_panel_many_ok (w64 (p0.W - (w64 (2 * p0.Rail)))) y5.1 p0.Gap y6 hy6) ?_
        refine Tq.val (wn rfl) rfl (fun _ _ h1 h2 => run_fieldAddr fo_26_1 (h1.ev rfl)) ?_
        refine Tq.val (wn rfl) rfl (fun _ _ h1 h2 => run_load1 ag_3 (h1.ev rfl) (rdb h2 (vs := [(.int .i64 p0.W), (.int .i64 p0.H), (.int .i64 p0.Rail), (.int .i64 p0.Gap), (.slice Ap0_0 (p0.Kinds).length cp0_0), (.slice Ap0_1 (p0.Slots).length cp0_1), (.slice Ap0_2 (p0.Marks).length cp0_2)]) (k := 1) rfl 1) rfl) ?_
        refine Tq.val (wn rfl) rfl (fun _ _ h1 h2 => run_fieldAddr fo_26_2 (h1.ev rfl)) ?_
        refine Tq.val (wn rfl) rfl (fun _ _ h1 h2 => run_load1 ag_3 (h1.ev rfl) (rdb h2 (vs := [(.int .i64 p0.W), (.int .i64 p0.H), (.int .i64 p0.Rail), (.int .i64 p0.Gap), (.slice Ap0_0 (p0.Kinds).length cp0_0), (.slice Ap0_1 (p0.Slots).length cp0_1), (.slice Ap0_2 (p0.Marks).length cp0_2)]) (k := 1) rfl 2) rfl) ?_
        refine Tq.val (wn rfl) rfl (fun _ _ h1 h2 => run_mul (h1.ev rfl) (h1.ev rfl)) ?_
        refine Tq.val (wn rfl) rfl (fun _ _ h1 h2 => run_sub (h1.ev rfl) (h1.ev rfl)) ?_
        refine Tq.val (wn rfl) rfl (fun _ _ h1 h2 => run_move (h1.ev rfl)) ?_
        refine Tq.val (wn rfl) rfl (fun _ _ h1 h2 => run_fieldAddr fo_26_3 (h1.ev rfl)) ?_
        refine Tq.val (wn rfl) rfl (fun _ _ h1 h2 => run_load1 ag_3 (h1.ev rfl) (rdb h2 (vs := [(.int .i64 p0.W), (.int .i64 p0.H), (.int .i64 p0.Rail), (.int .i64 p0.Gap), (.slice Ap0_0 (p0.Kinds).length cp0_0), (.slice Ap0_1 (p0.Slots).length cp0_1), (.slice Ap0_2 (p0.Marks).length cp0_2)]) (k := 1) rfl 3) rfl) ?_
        obtain ⟨y7, hy7, H⟩ := bnd H
        refine Tq.call0 (r := (.int .i64 y7)) (wn rfl) rfl Try.call60 (evl_cons rfl (evl_cons rfl (evl_cons rfl evl_nil))) (fun W hW => F_panel_many_ok (w64 (p0.H - (w64 (2 * p0.Rail)))) y5.2 p0.Gap y7 hy7) ?_
        refine Tq.val (wn rfl) rfl (fun _ _ h1 h2 => run_assign (h1.ev rfl)) ?_
        refine Tq.val (wn rfl) rfl (fun _ _ h1 h2 => run_assign (h1.ev rfl)) ?_
        refine Tq.nil (Tr.normThen ?_)
        refine Tr.cutJ (σ := Int) (fun s => F_panel_Grid_J1 N p0 p1 p2 y6 s = some r) (fun s => [(1, (.string p1)), (2, (.int .i64 p2)), (3, (.pointer (some ⟨b1, 0, none⟩))), (6, (.pointer (some ⟨b2, 0, none⟩))), (12, (.int .i64 y6)), (13, (.int .i64 s))]) (fun s => [(1, bx b1 #[(.int .i64 p0.W), (.int .i64 p0.H), (.int .i64 p0.Rail), (.int .i64 p0.Gap), (.slice Ap0_0 (p0.Kinds).length cp0_0), (.slice Ap0_1 (p0.Slots).length cp0_1), (.slice Ap0_2 (p0.Marks).length cp0_2)] 26), (2, bx b2 #[(.int .i64 0), (.int .i64 0), (.int .i64 0), (.int .i64 0), (.slice none 0 0), (.slice none 0 0), (.slice none 0 0)] 26)]) ?_ ?_
        · refine Tr.seq ?_
          refine Tr.region ?_
          refine Tr.val (wn rfl) rfl (fun _ _ h1 h2 => run_move (h1.ev rfl)) ?_
          refine Tr.val (wn rfl) rfl (fun _ _ h1 h2 => run_eql (h1.ev rfl) (h1.ev rfl)) ?_
          refine Tr.nil (Tr.normThen ?_)
          refine Tr.cond rfl H (fun H => ?_) (fun H => ?_)
          · refine Tr.region ?_
            refine Tr.val (wn rfl) rfl (fun _ _ h1 h2 => run_assign (h1.ev rfl)) ?_
            refine Tr.nil ?_
            exact Tr.backThen 0 H (.cons rfl (.cons rfl (.cons rfl (.cons rfl (.cons rfl (.cons rfl .nil)))))) (.cons rfl (.cons rfl .nil))
          · refine Tr.skip ?_
            exact Tr.backThen y7 H (.cons rfl (.cons rfl (.cons rfl (.cons rfl (.cons rfl (.cons rfl .nil)))))) (.cons rfl (.cons rfl .nil))
        · intro x8 hs
          have H := hs
          replace H : F_panel_Grid_J1 N p0 p1 p2 y6 x8 = some r := H
          unfold F_panel_Grid_J1 at H
          show Tr _ _ (LF [(1, (.string p1)), (2, (.int .i64 p2)), (3, (.pointer (some ⟨b1, 0, none⟩))), (6, (.pointer (some ⟨b2, 0, none⟩))), (12, (.int .i64 y6)), (13, (.int .i64 x8))]) (LE [(1, bx b1 #[(.int .i64 p0.W), (.int .i64 p0.H), (.int .i64 p0.Rail), (.int .i64 p0.Gap), (.slice Ap0_0 (p0.Kinds).length cp0_0), (.slice Ap0_1 (p0.Slots).length cp0_1), (.slice Ap0_2 (p0.Marks).length cp0_2)] 26), (2, bx b2 #[(.int .i64 0), (.int .i64 0), (.int .i64 0), (.int .i64 0), (.slice none 0 0), (.slice none 0 0), (.slice none 0 0)] 26)]) _
          refine Tr.seq ?_
          refine Tr.region ?_
          refine Tr.val (wn rfl) rfl (fun _ _ h1 h2 => run_loadN (cs := [(.int .i64 p0.W), (.int .i64 p0.H), (.int .i64 p0.Rail), (.int .i64 p0.Gap), (.slice Ap0_0 (p0.Kinds).length cp0_0), (.slice Ap0_1 (p0.Slots).length cp0_1), (.slice Ap0_2 (p0.Marks).length cp0_2)]) ag_26 sz_26 (h1.ev rfl) (CellsAt.take (rdb h2 (vs := [(.int .i64 p0.W), (.int .i64 p0.H), (.int .i64 p0.Rail), (.int .i64 p0.Gap), (.slice Ap0_0 (p0.Kinds).length cp0_0), (.slice Ap0_1 (p0.Slots).length cp0_1), (.slice Ap0_2 (p0.Marks).length cp0_2)]) (k := 1) rfl 0) 7) rfl) ?_
          refine Tr.val (wn rfl) rfl (fun _ _ h1 h2 => run_move (h1.ev rfl)) ?_
          refine Tr.val (wn rfl) rfl (fun _ _ h1 h2 => run_move (h1.ev rfl)) ?_
          refine Tr.val (wn rfl) rfl (fun _ _ h1 h2 => run_move (h1.ev rfl)) ?_
          refine Tr.val (wn rfl) rfl (fun _ _ h1 h2 => run_move (h1.ev rfl)) ?_
          obtain ⟨y9, hy9, H⟩ := bnd H
          refine Tr.callZ 3 (U := Option Addr × Nat × Option Addr × Nat × Option Addr × Nat) (fun u => (.tuple #[(.agg #[(.int .i64 y9.1.W), (.int .i64 y9.1.H), (.int .i64 y9.1.Rail), (.int .i64 y9.1.Gap), (.slice u.1 (y9.1.Kinds).length u.2.1), (.slice u.2.2.1 (y9.1.Slots).length u.2.2.2.1), (.slice u.2.2.2.2.1 (y9.1.Marks).length u.2.2.2.2.2)]), (.int .i64 y9.2)])) (fun u R W' => Sl R W' fl_TBoardKind u.1 u.2.1 y9.1.Kinds ∧ Sl R W' fl_TSlot u.2.2.1 u.2.2.2.1 y9.1.Slots ∧ Sl R W' fl_TPoint u.2.2.2.2.1 u.2.2.2.2.2 y9.1.Marks) (Dp S0 []) (wn rfl) rfl Try.call61 (evl_cons rfl (evl_cons rfl (evl_cons rfl (evl_cons rfl (evl_cons rfl (evl_cons rfl (evl_cons rfl evl_nil))))))) (fun W hW => F_panel_rows_ok N (Dp S0 []) (Dp.lt hS hW trivial) p0 Ap0_0 cp0_0 (Zs.pass hp0_0z hW trivial (by simp)) Ap0_1 cp0_1 (Zs.pass hp0_1z hW trivial (by simp)) Ap0_2 cp0_2 (Zs.pass hp0_2z hW trivial (by simp)) p1 p2 y6 x8 0 0 y9 hy9) ?_
          intro u Sy9 Wy9 hu h0
          obtain ⟨Ay9_0, cy9_0, Ay9_1, cy9_1, Ay9_2, cy9_2⟩ := u
          obtain ⟨gy9_0, gy9_1, gy9_2⟩ := hu
          have zgy9_0 : Zs S0 w [(3, Sy9, Wy9)] fl_TBoardKind Ay9_0 cy9_0 y9.1.Kinds := Zs.new (ds := []) hS gy9_0 h0 ⟨rfl, trivial⟩
          have hgy9_0 : SlF Ay9_0 (y9.1.Kinds).length cy9_0 := gy9_0.form
          have zgy9_1 : Zs S0 w [(3, Sy9, Wy9)] fl_TSlot Ay9_1 cy9_1 y9.1.Slots := Zs.new (ds := []) hS gy9_1 h0 ⟨rfl, trivial⟩
          have hgy9_1 : SlF Ay9_1 (y9.1.Slots).length cy9_1 := gy9_1.form
          have zgy9_2 : Zs S0 w [(3, Sy9, Wy9)] fl_TPoint Ay9_2 cy9_2 y9.1.Marks := Zs.new (ds := []) hS gy9_2 h0 ⟨rfl, trivial⟩
          have hgy9_2 : SlF Ay9_2 (y9.1.Marks).length cy9_2 := gy9_2.form
          show Tr _ _ (uf _ 67 (.tuple #[(.agg #[(.int .i64 y9.1.W), (.int .i64 y9.1.H), (.int .i64 y9.1.Rail), (.int .i64 y9.1.Gap), (.slice Ay9_0 (y9.1.Kinds).length cy9_0), (.slice Ay9_1 (y9.1.Slots).length cy9_1), (.slice Ay9_2 (y9.1.Marks).length cy9_2)]), (.int .i64 y9.2)])) (up _ 3 (fz Sy9 Wy9)) _
          refine Tr.val (wn rfl) rfl (fun _ _ h1 h2 => run_extract (h1.ev rfl) rfl) ?_
          refine Tr.val (wn rfl) rfl (fun _ _ h1 h2 => run_extract (h1.ev rfl) rfl) ?_
          refine Tr.store 2 (cs := [(.int .i64 y9.1.W), (.int .i64 y9.1.H), (.int .i64 y9.1.Rail), (.int .i64 y9.1.Gap), (.slice Ay9_0 (y9.1.Kinds).length cy9_0), (.slice Ay9_1 (y9.1.Slots).length cy9_1), (.slice Ay9_2 (y9.1.Marks).length cy9_2)]) [(.int .i64 y9.1.W), (.int .i64 y9.1.H), (.int .i64 y9.1.Rail), (.int .i64 y9.1.Gap), (.slice Ay9_0 (y9.1.Kinds).length cy9_0), (.slice Ay9_1 (y9.1.Slots).length cy9_1), (.slice Ay9_2 (y9.1.Marks).length cy9_2)] (wn rfl) rfl rfl rfl rfl sz_26 rfl rfl rfl ?_
          refine Tr.val (wn rfl) rfl (fun _ _ h1 h2 => run_assign (h1.ev rfl)) ?_
          refine Tr.nil (Tr.normThen ?_)
          refine Tr.ret ?_
          obtain rfl := Option.some.inj H
          exact Tr.out (m := [(.agg #[(.int .i64 y9.1.W), (.int .i64 y9.1.H), (.int .i64 y9.1.Rail), (.int .i64 y9.1.Gap), (.slice Ay9_0 (y9.1.Kinds).length cy9_0), (.slice Ay9_1 (y9.1.Slots).length cy9_1), (.slice Ay9_2 (y9.1.Marks).length cy9_2)]), (.int .i64 y9.2)]) [2] (res_cell rfl rfl ag_26 sz_26 (res_tmp rfl res_nil)) (fun W hW => ⟨(Ay9_0, cy9_0, Ay9_1, cy9_1, Ay9_2, cy9_2), rfl, ⟨Zs.out hS zgy9_0 hW ⟨rfl, trivial⟩, Zs.out hS zgy9_1 hW ⟨rfl, trivial⟩, Zs.out hS zgy9_2 hW ⟨rfl, trivial⟩⟩, hW.below⟩)

theorem F_etchhouselaw9_PanelRowsAreMost_ok (N : Nat) {w : World} (p0 : TPanel) (Ap0_0 : Option Addr) (cp0_0 : Nat) (hp0_0 : Sl (lo w.heap.size) w fl_TBoardKind Ap0_0 cp0_0 p0.Kinds) (Ap0_1 : Option Addr) (cp0_1 : Nat) (hp0_1 : Sl (lo w.heap.size) w fl_TSlot Ap0_1 cp0_1 p0.Slots) (Ap0_2 : Option Addr) (cp0_2 : Nat) (hp0_2 : Sl (lo w.heap.size) w fl_TPoint Ap0_2 cp0_2 p0.Marks) (p1 : ByteArray) (p2 : Int) (r : Bool) (H : F_etchhouselaw9_PanelRowsAreMost N p0 p1 p2 = some r) : Calls Try.prog 9 [(.agg #[(.int .i64 p0.W), (.int .i64 p0.H), (.int .i64 p0.Rail), (.int .i64 p0.Gap), (.slice Ap0_0 (p0.Kinds).length cp0_0), (.slice Ap0_1 (p0.Slots).length cp0_1), (.slice Ap0_2 (p0.Marks).length cp0_2)]), (.string p1), (.int .i64 p2)].toArray w fun e W' => e = .returned (.bool r) ∧ Below w.heap.size w W' := by
  unfold F_etchhouselaw9_PanelRowsAreMost at H
  refine Tr.enter (n := 50) Try.func9 rfl rfl rfl ?_
  refine Tr.seq ?_
  refine Tr.region ?_
  refine Tr.box 1 (cs := [(.int .i64 p0.W), (.int .i64 p0.H), (.int .i64 p0.Rail), (.int .i64 p0.Gap), (.slice Ap0_0 (p0.Kinds).length cp0_0), (.slice Ap0_1 (p0.Slots).length cp0_1), (.slice Ap0_2 (p0.Marks).length cp0_2)]) (wn rfl) rfl rfl rfl fun b1 => ?_
  refine Tr.val (wn rfl) rfl (fun _ _ h1 h2 => run_assign (h1.ev rfl)) ?_
  refine Tr.nil (Tr.normThen ?_)
  refine Tr.seq ?_
  refine Tr.region ?_
  refine Tr.val (wn rfl) rfl (fun _ _ h1 h2 => run_loadN (cs := [(.int .i64 p0.W), (.int .i64 p0.H), (.int .i64 p0.Rail), (.int .i64 p0.Gap), (.slice Ap0_0 (p0.Kinds).length cp0_0), (.slice Ap0_1 (p0.Slots).length cp0_1), (.slice Ap0_2 (p0.Marks).length cp0_2)]) ag_26 sz_26 (h1.ev rfl) (CellsAt.take (rdb h2 (vs := [(.int .i64 p0.W), (.int .i64 p0.H), (.int .i64 p0.Rail), (.int .i64 p0.Gap), (.slice Ap0_0 (p0.Kinds).length cp0_0), (.slice Ap0_1 (p0.Slots).length cp0_1), (.slice Ap0_2 (p0.Marks).length cp0_2)]) (k := 1) rfl 0) 7) rfl) ?_
  refine Tr.val (wn rfl) rfl (fun _ _ h1 h2 => run_move (h1.ev rfl)) ?_
  obtain ⟨y1, hy1, H⟩ := bnd H
  refine Tr.callZ 2 (U := Option Addr × Nat × Option Addr × Nat × Option Addr × Nat) (fun u => (.tuple #[(.agg #[(.int .i64 y1.1.W), (.int .i64 y1.1.H), (.int .i64 y1.1.Rail), (.int .i64 y1.1.Gap), (.slice u.1 (y1.1.Kinds).length u.2.1), (.slice u.2.2.1 (y1.1.Slots).length u.2.2.2.1), (.slice u.2.2.2.2.1 (y1.1.Marks).length u.2.2.2.2.2)]), (.int .i64 y1.2)])) (fun u R W' => Sl R W' fl_TBoardKind u.1 u.2.1 y1.1.Kinds ∧ Sl R W' fl_TSlot u.2.2.1 u.2.2.2.1 y1.1.Slots ∧ Sl R W' fl_TPoint u.2.2.2.2.1 u.2.2.2.2.2 y1.1.Marks) (Dp (lo w.heap.size) []) (wn rfl) rfl Try.call28 (evl_cons rfl (evl_cons rfl evl_nil)) (fun W hW => F_panel_Rows_ok N (Dp (lo w.heap.size) []) (Dp.lt (fun _ h => h) hW trivial) p0 Ap0_0 cp0_0 (Zs.pass (Zs.arg (fun _ h => h) hp0_0) hW trivial (by simp)) Ap0_1 cp0_1 (Zs.pass (Zs.arg (fun _ h => h) hp0_1) hW trivial (by simp)) Ap0_2 cp0_2 (Zs.pass (Zs.arg (fun _ h => h) hp0_2) hW trivial (by simp)) p1 y1 hy1) ?_
  intro u Sy1 Wy1 hu h0
  obtain ⟨Ay1_0, cy1_0, Ay1_1, cy1_1, Ay1_2, cy1_2⟩ := u
  obtain ⟨gy1_0, gy1_1, gy1_2⟩ := hu
  have zgy1_0 : Zs (lo w.heap.size) w [(2, Sy1, Wy1)] fl_TBoardKind Ay1_0 cy1_0 y1.1.Kinds := Zs.new (ds := []) (fun _ h => h) gy1_0 h0 ⟨rfl, trivial⟩
  have hgy1_0 : SlF Ay1_0 (y1.1.Kinds).length cy1_0 := gy1_0.form
  have zgy1_1 : Zs (lo w.heap.size) w [(2, Sy1, Wy1)] fl_TSlot Ay1_1 cy1_1 y1.1.Slots := Zs.new (ds := []) (fun _ h => h) gy1_1 h0 ⟨rfl, trivial⟩
  have hgy1_1 : SlF Ay1_1 (y1.1.Slots).length cy1_1 := gy1_1.form
  have zgy1_2 : Zs (lo w.heap.size) w [(2, Sy1, Wy1)] fl_TPoint Ay1_2 cy1_2 y1.1.Marks := Zs.new (ds := []) (fun _ h => h) gy1_2 h0 ⟨rfl, trivial⟩
  have hgy1_2 : SlF Ay1_2 (y1.1.Marks).length cy1_2 := gy1_2.form
  show Tr _ _ (uf _ 13 (.tuple #[(.agg #[(.int .i64 y1.1.W), (.int .i64 y1.1.H), (.int .i64 y1.1.Rail), (.int .i64 y1.1.Gap), (.slice Ay1_0 (y1.1.Kinds).length cy1_0), (.slice Ay1_1 (y1.1.Slots).length cy1_1), (.slice Ay1_2 (y1.1.Marks).length cy1_2)]), (.int .i64 y1.2)])) (up _ 2 (fz Sy1 Wy1)) _
  refine Tr.val (wn rfl) rfl (fun _ _ h1 h2 => run_move (h1.ev rfl)) ?_
  refine Tr.val (wn rfl) rfl (fun _ _ h1 h2 => run_extract (h1.ev rfl) rfl) ?_
  refine Tr.val (wn rfl) rfl (fun _ _ h1 h2 => run_extract (h1.ev rfl) rfl) ?_
  refine Tr.alloc 3 (wn rfl) rfl ze_26 fun b3 => ?_
  refine Tr.store 3 (cs := [(.int .i64 y1.1.W), (.int .i64 y1.1.H), (.int .i64 y1.1.Rail), (.int .i64 y1.1.Gap), (.slice Ay1_0 (y1.1.Kinds).length cy1_0), (.slice Ay1_1 (y1.1.Slots).length cy1_1), (.slice Ay1_2 (y1.1.Marks).length cy1_2)]) [(.int .i64 y1.1.W), (.int .i64 y1.1.H), (.int .i64 y1.1.Rail), (.int .i64 y1.1.Gap), (.slice Ay1_0 (y1.1.Kinds).length cy1_0), (.slice Ay1_1 (y1.1.Slots).length cy1_1), (.slice Ay1_2 (y1.1.Marks).length cy1_2)] (wn rfl) rfl rfl rfl rfl sz_26 rfl rfl rfl ?_
  refine Tr.val (wn rfl) rfl (fun _ _ h1 h2 => run_assign (h1.ev rfl)) ?_
  refine Tr.nil (Tr.normThen ?_)
  refine Tr.seq ?_
  refine Tr.seq ?_
  refine Tr.region ?_
  refine Tr.val (wn rfl) rfl (fun _ _ h1 h2 => run_move (h1.ev rfl)) ?_
  refine Tr.val (wn rfl) rfl (fun _ _ h1 h2 => run_neq (h1.ev rfl) (h1.ev rfl)) ?_
  refine Tr.nil (Tr.normThen ?_)
  refine Tr.cond rfl H (fun H => ?_) (fun H => ?_)
  · refine Tr.seq ?_
    refine Tr.region ?_
    refine Tr.val (wn rfl) rfl (fun _ _ h1 h2 => run_fieldAddr fo_26_0 (h1.ev rfl)) ?_
    refine Tr.val (wn rfl) rfl (fun _ _ h1 h2 => run_load1 ag_3 (h1.ev rfl) (rdb h2 (vs := [(.int .i64 y1.1.W), (.int .i64 y1.1.H), (.int .i64 y1.1.Rail), (.int .i64 y1.1.Gap), (.slice Ay1_0 (y1.1.Kinds).length cy1_0), (.slice Ay1_1 (y1.1.Slots).length cy1_1), (.slice Ay1_2 (y1.1.Marks).length cy1_2)]) (k := 3) rfl 0) rfl) ?_
    refine Tr.val (wn rfl) rfl (fun _ _ h1 h2 => run_eql (h1.ev rfl) (h1.ev rfl)) ?_
    refine Tr.val (wn rfl) rfl (fun _ _ h1 h2 => run_move (h1.ev rfl)) ?_
    obtain ⟨g3, hg3, H⟩ := bnd H
    refine Tr.mid (σ := Unit) 2 (fun _ => True) (fun _ => [(23, (.bool g3))]) (fun _ => [(1, bx b1 #[(.int .i64 p0.W), (.int .i64 p0.H), (.int .i64 p0.Rail), (.int .i64 p0.Gap), (.slice Ap0_0 (p0.Kinds).length cp0_0), (.slice Ap0_1 (p0.Slots).length cp0_1), (.slice Ap0_2 (p0.Marks).length cp0_2)] 26), (2, fz Sy1 Wy1), (3, bx b3 #[(.int .i64 y1.1.W), (.int .i64 y1.1.H), (.int .i64 y1.1.Rail), (.int .i64 y1.1.Gap), (.slice Ay1_0 (y1.1.Kinds).length cy1_0), (.slice Ay1_1 (y1.1.Slots).length cy1_1), (.slice Ay1_2 (y1.1.Marks).length cy1_2)] 26)]) ?_ ?_
    · cases hg4 : (y1.1.W == 0)
      · rw [hg4] at hg3
        rw [if_neg (by decide)] at hg3
        have H := hg3
        obtain rfl := Option.some.inj H
        refine Tr.pass rfl rfl rfl rfl rfl (by decide) ?_
        refine Tr.val (wn rfl) rfl (fun _ _ h1 h2 => run_pickF (h1.ev rfl) (h1.ev rfl)) ?_
        exact Tr.nil (Tr.backThen () trivial (.cons rfl .nil) (.cons rfl (.cons rfl (.cons rfl .nil))))
      · rw [hg4] at hg3
        rw [if_pos rfl] at hg3
        have H := hg3
        obtain ⟨y4, hy4, H⟩ := bnd H
        refine Tr.call0 (r := (.bool y4)) (wg rfl rfl rfl) rfl Try.call15 evl_nil (fun W hW => F_etchhouselaw9_awake_ok N y4 hy4) ?_
        refine Tr.val (wn rfl) rfl (fun _ _ h1 h2 => run_pickT (h1.ev rfl) (h1.ev rfl)) ?_
        obtain rfl := Option.some.inj H
        exact Tr.nil (Tr.backThen () trivial (.cons rfl .nil) (.cons rfl (.cons rfl (.cons rfl .nil))))
    · intro _ _
      show Tr _ _ (LF [(23, (.bool g3))]) (LE [(1, bx b1 #[(.int .i64 p0.W), (.int .i64 p0.H), (.int .i64 p0.Rail), (.int .i64 p0.Gap), (.slice Ap0_0 (p0.Kinds).length cp0_0), (.slice Ap0_1 (p0.Slots).length cp0_1), (.slice Ap0_2 (p0.Marks).length cp0_2)] 26), (2, fz Sy1 Wy1), (3, bx b3 #[(.int .i64 y1.1.W), (.int .i64 y1.1.H), (.int .i64 y1.1.Rail), (.int .i64 y1.1.Gap), (.slice Ay1_0 (y1.1.Kinds).length cy1_0), (.slice Ay1_1 (y1.1.Slots).length cy1_1), (.slice Ay1_2 (y1.1.Marks).length cy1_2)] 26)]) _
      refine Tr.val (wn rfl) rfl (fun _ _ h1 h2 => run_assign (h1.ev rfl)) ?_
      refine Tr.nil (Tr.normThen ?_)
      refine Tr.ret (Tr.retThen ?_)
      obtain rfl := Option.some.inj H
      exact Tr.out (m := [(.bool g3)]) [] (res_tmp rfl res_nil) (fun W hW => ⟨rfl, hW.below⟩)
  · refine Tr.skip (Tr.normThen ?_)
    refine Tr.seq ?_
    refine Tr.region ?_
    refine Tr.val (wn rfl) rfl (fun _ _ h1 h2 => run_loadN (cs := [(.int .i64 p0.W), (.int .i64 p0.H), (.int .i64 p0.Rail), (.int .i64 p0.Gap), (.slice Ap0_0 (p0.Kinds).length cp0_0), (.slice Ap0_1 (p0.Slots).length cp0_1), (.slice Ap0_2 (p0.Marks).length cp0_2)]) ag_26 sz_26 (h1.ev rfl) (CellsAt.take (rdb h2 (vs := [(.int .i64 p0.W), (.int .i64 p0.H), (.int .i64 p0.Rail), (.int .i64 p0.Gap), (.slice Ap0_0 (p0.Kinds).length cp0_0), (.slice Ap0_1 (p0.Slots).length cp0_1), (.slice Ap0_2 (p0.Marks).length cp0_2)]) (k := 1) rfl 0) 7) rfl) ?_
    refine Tr.val (wn rfl) rfl (fun _ _ h1 h2 => run_move (h1.ev rfl)) ?_
    refine Tr.val (wn rfl) rfl (fun _ _ h1 h2 => run_move (h1.ev rfl)) ?_
    obtain ⟨y5, hy5, H⟩ := bnd H
    refine Tr.callZ 4 (U := Option Addr × Nat × Option Addr × Nat × Option Addr × Nat) (fun u => (.tuple #[(.agg #[(.int .i64 y5.1.W), (.int .i64 y5.1.H), (.int .i64 y5.1.Rail), (.int .i64 y5.1.Gap), (.slice u.1 (y5.1.Kinds).length u.2.1), (.slice u.2.2.1 (y5.1.Slots).length u.2.2.2.1), (.slice u.2.2.2.2.1 (y5.1.Marks).length u.2.2.2.2.2)]), (.int .i64 y5.2)])) (fun u R W' => Sl R W' fl_TBoardKind u.1 u.2.1 y5.1.Kinds ∧ Sl R W' fl_TSlot u.2.2.1 u.2.2.2.1 y5.1.Slots ∧ Sl R W' fl_TPoint u.2.2.2.2.1 u.2.2.2.2.2 y5.1.Marks) (Dp (lo w.heap.size) []) (wn rfl) rfl Try.call26 (evl_cons rfl (evl_cons rfl (evl_cons rfl evl_nil))) (fun W hW => F_panel_Grid_ok N (Dp (lo w.heap.size) []) (Dp.lt (fun _ h => h) hW trivial) p0 Ap0_0 cp0_0 (Zs.pass (Zs.arg (fun _ h => h) hp0_0) hW trivial (by simp)) Ap0_1 cp0_1 (Zs.pass (Zs.arg (fun _ h => h) hp0_1) hW trivial (by simp)) Ap0_2 cp0_2 (Zs.pass (Zs.arg (fun _ h => h) hp0_2) hW trivial (by simp)) p1 p2 y5 hy5) ?_
    intro u Sy5 Wy5 hu h0
    obtain ⟨Ay5_0, cy5_0, Ay5_1, cy5_1, Ay5_2, cy5_2⟩ := u
    obtain ⟨gy5_0, gy5_1, gy5_2⟩ := hu
    have zgy5_0 : Zs (lo w.heap.size) w [(4, Sy5, Wy5)] fl_TBoardKind Ay5_0 cy5_0 y5.1.Kinds := Zs.new (ds := []) (fun _ h => h) gy5_0 h0 ⟨rfl, trivial⟩
    have hgy5_0 : SlF Ay5_0 (y5.1.Kinds).length cy5_0 := gy5_0.form
    have zgy5_1 : Zs (lo w.heap.size) w [(4, Sy5, Wy5)] fl_TSlot Ay5_1 cy5_1 y5.1.Slots := Zs.new (ds := []) (fun _ h => h) gy5_1 h0 ⟨rfl, trivial⟩
    have hgy5_1 : SlF Ay5_1 (y5.1.Slots).length cy5_1 := gy5_1.form
    have zgy5_2 : Zs (lo w.heap.size) w [(4, Sy5, Wy5)] fl_TPoint Ay5_2 cy5_2 y5.1.Marks := Zs.new (ds := []) (fun _ h => h) gy5_2 h0 ⟨rfl, trivial⟩
    have hgy5_2 : SlF Ay5_2 (y5.1.Marks).length cy5_2 := gy5_2.form
    show Tr _ _ (uf _ 28 (.tuple #[(.agg #[(.int .i64 y5.1.W), (.int .i64 y5.1.H), (.int .i64 y5.1.Rail), (.int .i64 y5.1.Gap), (.slice Ay5_0 (y5.1.Kinds).length cy5_0), (.slice Ay5_1 (y5.1.Slots).length cy5_1), (.slice Ay5_2 (y5.1.Marks).length cy5_2)]), (.int .i64 y5.2)])) (up _ 4 (fz Sy5 Wy5)) _
    refine Tr.val (wn rfl) rfl (fun _ _ h1 h2 => run_move (h1.ev rfl)) ?_
    refine Tr.val (wn rfl) rfl (fun _ _ h1 h2 => run_extract (h1.ev rfl) rfl) ?_
    refine Tr.val (wn rfl) rfl (fun _ _ h1 h2 => run_extract (h1.ev rfl) rfl) ?_
    refine Tr.alloc 5 (wn rfl) rfl ze_26 fun b5 => ?_
    refine Tr.store 5 (cs := [(.int .i64 y5.1.W), (.int .i64 y5.1.H), (.int .i64 y5.1.Rail), (.int .i64 y5.1.Gap), (.slice Ay5_0 (y5.1.Kinds).length cy5_0), (.slice Ay5_1 (y5.1.Slots).length cy5_1), (.slice Ay5_2 (y5.1.Marks).length cy5_2)]) [(.int .i64 y5.1.W), (.int .i64 y5.1.H), (.int .i64 y5.1.Rail), (.int .i64 y5.1.Gap), (.slice Ay5_0 (y5.1.Kinds).length cy5_0), (.slice Ay5_1 (y5.1.Slots).length cy5_1), (.slice Ay5_2 (y5.1.Marks).length cy5_2)] (wn rfl) rfl rfl rfl rfl sz_26 rfl rfl rfl ?_
    refine Tr.val (wn rfl) rfl (fun _ _ h1 h2 => run_assign (h1.ev rfl)) ?_
    refine Tr.nil (Tr.normThen ?_)
    refine Tr.seq ?_
    refine Tr.region ?_
    refine Tr.val (wn rfl) rfl (fun _ _ h1 h2 => run_loadN (cs := [(.int .i64 y1.1.W), (.int .i64 y1.1.H), (.int .i64 y1.1.Rail), (.int .i64 y1.1.Gap), (.slice Ay1_0 (y1.1.Kinds).length cy1_0), (.slice Ay1_1 (y1.1.Slots).length cy1_1), (.slice Ay1_2 (y1.1.Marks).length cy1_2)]) ag_26 sz_26 (h1.ev rfl) (CellsAt.take (rdb h2 (vs := [(.int .i64 y1.1.W), (.int .i64 y1.1.H), (.int .i64 y1.1.Rail), (.int .i64 y1.1.Gap), (.slice Ay1_0 (y1.1.Kinds).length cy1_0), (.slice Ay1_1 (y1.1.Slots).length cy1_1), (.slice Ay1_2 (y1.1.Marks).length cy1_2)]) (k := 3) rfl 0) 7) rfl) ?_
    obtain ⟨y6, hy6, H⟩ := bnd H
    refine Tr.call0 (r := (.int .i64 y6)) (wn rfl) rfl Try.call31 (evl_cons rfl evl_nil) (fun W hW => F_panel_CheckPanel_ok N y1.1 Ay1_0 cy1_0 (Zs.lo (fun _ h => h) zgy1_0 hW ⟨rfl, trivial⟩) Ay1_1 cy1_1 (Zs.lo (fun _ h => h) zgy1_1 hW ⟨rfl, trivial⟩) Ay1_2 cy1_2 (Zs.lo (fun _ h => h) zgy1_2 hW ⟨rfl, trivial⟩) y6 hy6) ?_
    refine Tr.val (wn rfl) rfl (fun _ _ h1 h2 => run_eql (h1.ev rfl) (h1.ev rfl)) ?_
    refine Tr.val (wn rfl) rfl (fun _ _ h1 h2 => run_move (h1.ev rfl)) ?_
    refine Tr.mid (σ := Unit) 12 (fun _ => True) (fun _ => [(46, (.bool ((y6 == 0) && ((y5.2 != 0) || (decide ((y5.1.Slots.length : Int) ≤ (y1.1.Slots.length : Int)))))))]) (fun _ => [(1, bx b1 #[(.int .i64 p0.W), (.int .i64 p0.H), (.int .i64 p0.Rail), (.int .i64 p0.Gap), (.slice Ap0_0 (p0.Kinds).length cp0_0), (.slice Ap0_1 (p0.Slots).length cp0_1), (.slice Ap0_2 (p0.Marks).length cp0_2)] 26), (2, fz Sy1 Wy1), (3, bx b3 #[(.int .i64 y1.1.W), (.int .i64 y1.1.H), (.int .i64 y1.1.Rail), (.int .i64 y1.1.Gap), (.slice Ay1_0 (y1.1.Kinds).length cy1_0), (.slice Ay1_1 (y1.1.Slots).length cy1_1), (.slice Ay1_2 (y1.1.Marks).length cy1_2)] 26), (4, fz Sy5 Wy5), (5, bx b5 #[(.int .i64 y5.1.W), (.int .i64 y5.1.H), (.int .i64 y5.1.Rail), (.int .i64 y5.1.Gap), (.slice Ay5_0 (y5.1.Kinds).length cy5_0), (.slice Ay5_1 (y5.1.Slots).length cy5_1), (.slice Ay5_2 (y5.1.Marks).length cy5_2)] 26)]) ?_ ?_
    · cases hg9 : (y6 == 0)
      · refine Tr.pass rfl rfl rfl rfl rfl (by decide) ?_
        refine Tr.pass rfl rfl rfl rfl rfl (by decide) ?_
        refine Tr.pass rfl rfl rfl rfl rfl (by decide) ?_
        refine Tr.passU rfl rfl rfl rfl (by decide) ?_
        refine Tr.passU rfl rfl rfl rfl (by decide) ?_
        refine Tr.passU rfl rfl rfl rfl (by decide) ?_
        refine Tr.passU rfl rfl rfl rfl (by decide) ?_
        refine Tr.passU rfl rfl rfl rfl (by decide) ?_
        refine Tr.passU rfl rfl rfl rfl (by decide) ?_
        refine Tr.passU rfl rfl rfl rfl (by decide) ?_
        refine Tr.pass rfl rfl rfl rfl rfl (by decide) ?_
        refine Tr.val (wn rfl) rfl (fun _ _ h1 h2 => run_pickF (h1.ev rfl) (h1.ev rfl)) ?_
        exact Tr.nil (Tr.backThen () trivial (.cons rfl .nil) (.cons rfl (.cons rfl (.cons rfl (.cons rfl (.cons rfl .nil))))))
      · refine Tr.val (wg rfl rfl rfl) rfl (fun _ _ h1 h2 => run_move (h1.ev rfl)) ?_
        refine Tr.val (wg rfl rfl rfl) rfl (fun _ _ h1 h2 => run_neq (h1.ev rfl) (h1.ev rfl)) ?_
        refine Tr.val (wg rfl rfl rfl) rfl (fun _ _ h1 h2 => run_move (h1.ev rfl)) ?_
        refine Tr.mid (σ := Unit) 8 (fun _ => True) (fun _ => [(34, (.bool true)), (45, (.bool ((y5.2 != 0) || (decide ((y5.1.Slots.length : Int) ≤ (y1.1.Slots.length : Int))))))]) (fun _ => [(1, bx b1 #[(.int .i64 p0.W), (.int .i64 p0.H), (.int .i64 p0.Rail), (.int .i64 p0.Gap), (.slice Ap0_0 (p0.Kinds).length cp0_0), (.slice Ap0_1 (p0.Slots).length cp0_1), (.slice Ap0_2 (p0.Marks).length cp0_2)] 26), (2, fz Sy1 Wy1), (3, bx b3 #[(.int .i64 y1.1.W), (.int .i64 y1.1.H), (.int .i64 y1.1.Rail), (.int .i64 y1.1.Gap), (.slice Ay1_0 (y1.1.Kinds).length cy1_0), (.slice Ay1_1 (y1.1.Slots).length cy1_1), (.slice Ay1_2 (y1.1.Marks).length cy1_2)] 26), (4, fz Sy5 Wy5), (5, bx b5 #[(.int .i64 y5.1.W), (.int .i64 y5.1.H), (.int .i64 y5.1.Rail), (.int .i64 y5.1.Gap), (.slice Ay5_0 (y5.1.Kinds).length cy5_0), (.slice Ay5_1 (y5.1.Slots).length cy5_1), (.slice Ay5_2 (y5.1.Marks).length cy5_2)] 26)]) ?_ ?_
        · cases hg6 : (y5.2 != 0)
          · refine Tr.val (wg rfl rfl rfl) rfl (fun _ _ h1 h2 => run_fieldAddr fo_26_5 (h1.ev rfl)) ?_
            refine Tr.val (wg rfl rfl rfl) rfl (fun _ _ h1 h2 => run_load1 ag_23 (h1.ev rfl) (rdb h2 (vs := [(.int .i64 y5.1.W), (.int .i64 y5.1.H), (.int .i64 y5.1.Rail), (.int .i64 y5.1.Gap), (.slice Ay5_0 (y5.1.Kinds).length cy5_0), (.slice Ay5_1 (y5.1.Slots).length cy5_1), (.slice Ay5_2 (y5.1.Marks).length cy5_2)]) (k := 5) rfl 5) rfl) ?_
            refine Tr.val (wg rfl rfl rfl) rfl (fun _ _ h1 h2 => run_len un_23 (h1.ev rfl)) ?_
            refine Tr.val (wg rfl rfl rfl) rfl (fun _ _ h1 h2 => run_fieldAddr fo_26_5 (h1.ev rfl)) ?_
            refine Tr.val (wg rfl rfl rfl) rfl (fun _ _ h1 h2 => run_load1 ag_23 (h1.ev rfl) (rdb h2 (vs := [(.int .i64 y1.1.W), (.int .i64 y1.1.H), (.int .i64 y1.1.Rail), (.int .i64 y1.1.Gap), (.slice Ay1_0 (y1.1.Kinds).length cy1_0), (.slice Ay1_1 (y1.1.Slots).length cy1_1), (.slice Ay1_2 (y1.1.Marks).length cy1_2)]) (k := 3) rfl 5) rfl) ?_
            refine Tr.val (wg rfl rfl rfl) rfl (fun _ _ h1 h2 => run_len un_23 (h1.ev rfl)) ?_
            refine Tr.val (wg rfl rfl rfl) rfl (fun _ _ h1 h2 => run_leq (h1.ev rfl) (h1.ev rfl)) ?_
            refine Tr.val (wg rfl rfl rfl) rfl (fun _ _ h1 h2 => run_pickF (h1.ev rfl) (h1.ev rfl)) ?_
            exact Tr.nil (Tr.backThen () trivial (.cons rfl (.cons rfl .nil)) (.cons rfl (.cons rfl (.cons rfl (.cons rfl (.cons rfl .nil))))))
          · refine Tr.pass rfl rfl rfl rfl rfl (by decide) ?_
            refine Tr.pass rfl rfl rfl rfl rfl (by decide) ?_
            refine Tr.pass rfl rfl rfl rfl rfl (by decide) ?_
            refine Tr.pass rfl rfl rfl rfl rfl (by decide) ?_
            refine Tr.pass rfl rfl rfl rfl rfl (by decide) ?_
            refine Tr.pass rfl rfl rfl rfl rfl (by decide) ?_
            refine Tr.pass rfl rfl rfl rfl rfl (by decide) ?_
            refine Tr.val (wg rfl rfl rfl) rfl (fun _ _ h1 h2 => run_pickT (h1.ev rfl) (h1.ev rfl)) ?_
            exact Tr.nil (Tr.backThen () trivial (.cons rfl (.cons rfl .nil)) (.cons rfl (.cons rfl (.cons rfl (.cons rfl (.cons rfl .nil))))))
        · intro _ _
          show Tr _ _ (LF [(34, (.bool true)), (45, (.bool ((y5.2 != 0) || (decide ((y5.1.Slots.length : Int) ≤ (y1.1.Slots.length : Int))))))]) (LE [(1, bx b1 #[(.int .i64 p0.W), (.int .i64 p0.H), (.int .i64 p0.Rail), (.int .i64 p0.Gap), (.slice Ap0_0 (p0.Kinds).length cp0_0), (.slice Ap0_1 (p0.Slots).length cp0_1), (.slice Ap0_2 (p0.Marks).length cp0_2)] 26), (2, fz Sy1 Wy1), (3, bx b3 #[(.int .i64 y1.1.W), (.int .i64 y1.1.H), (.int .i64 y1.1.Rail), (.int .i64 y1.1.Gap), (.slice Ay1_0 (y1.1.Kinds).length cy1_0), (.slice Ay1_1 (y1.1.Slots).length cy1_1), (.slice Ay1_2 (y1.1.Marks).length cy1_2)] 26), (4, fz Sy5 Wy5), (5, bx b5 #[(.int .i64 y5.1.W), (.int .i64 y5.1.H), (.int .i64 y5.1.Rail), (.int .i64 y5.1.Gap), (.slice Ay5_0 (y5.1.Kinds).length cy5_0), (.slice Ay5_1 (y5.1.Slots).length cy5_1), (.slice Ay5_2 (y5.1.Marks).length cy5_2)] 26)]) _
          refine Tr.val (wn rfl) rfl (fun _ _ h1 h2 => run_pickT (h1.ev rfl) (h1.ev rfl)) ?_
          exact Tr.nil (Tr.backThen () trivial (.cons rfl .nil) (.cons rfl (.cons rfl (.cons rfl (.cons rfl (.cons rfl .nil))))))
    · intro _ _
      show Tr _ _ (LF [(46, (.bool ((y6 == 0) && ((y5.2 != 0) || (decide ((y5.1.Slots.length : Int) ≤ (y1.1.Slots.length : Int)))))))]) (LE [(1, bx b1 #[(.int .i64 p0.W), (.int .i64 p0.H), (.int .i64 p0.Rail), (.int .i64 p0.Gap), (.slice Ap0_0 (p0.Kinds).length cp0_0), (.slice Ap0_1 (p0.Slots).length cp0_1), (.slice Ap0_2 (p0.Marks).length cp0_2)] 26), (2, fz Sy1 Wy1), (3, bx b3 #[(.int .i64 y1.1.W), (.int .i64 y1.1.H), (.int .i64 y1.1.Rail), (.int .i64 y1.1.Gap), (.slice Ay1_0 (y1.1.Kinds).length cy1_0), (.slice Ay1_1 (y1.1.Slots).length cy1_1), (.slice Ay1_2 (y1.1.Marks).length cy1_2)] 26), (4, fz Sy5 Wy5), (5, bx b5 #[(.int .i64 y5.1.W), (.int .i64 y5.1.H), (.int .i64 y5.1.Rail), (.int .i64 y5.1.Gap), (.slice Ay5_0 (y5.1.Kinds).length cy5_0), (.slice Ay5_1 (y5.1.Slots).length cy5_1), (.slice Ay5_2 (y5.1.Marks).length cy5_2)] 26)]) _
      refine Tr.val (wn rfl) rfl (fun _ _ h1 h2 => run_move (h1.ev rfl)) ?_
      obtain ⟨g8, hg8, H⟩ := bnd H
      refine Tr.mid (σ := Unit) 2 (fun _ => True) (fun _ => [(49, (.bool g8))]) (fun _ => [(1, bx b1 #[(.int .i64 p0.W), (.int .i64 p0.H), (.int .i64 p0.Rail), (.int .i64 p0.Gap), (.slice Ap0_0 (p0.Kinds).length cp0_0), (.slice Ap0_1 (p0.Slots).length cp0_1), (.slice Ap0_2 (p0.Marks).length cp0_2)] 26), (2, fz Sy1 Wy1), (3, bx b3 #[(.int .i64 y1.1.W), (.int .i64 y1.1.H), (.int .i64 y1.1.Rail), (.int .i64 y1.1.Gap), (.slice Ay1_0 (y1.1.Kinds).length cy1_0), (.slice Ay1_1 (y1.1.Slots).length cy1_1), (.slice Ay1_2 (y1.1.Marks).length cy1_2)] 26), (4, fz Sy5 Wy5), (5, bx b5 #[(.int .i64 y5.1.W), (.int .i64 y5.1.H), (.int .i64 y5.1.Rail), (.int .i64 y5.1.Gap), (.slice Ay5_0 (y5.1.Kinds).length cy5_0), (.slice Ay5_1 (y5.1.Slots).length cy5_1), (.slice Ay5_2 (y5.1.Marks).length cy5_2)] 26)]) ?_ ?_
      · cases hg9 : ((y6 == 0) && ((y5.2 != 0) || (decide ((y5.1.Slots.length : Int) ≤ (y1.1.Slots.length : Int)))))
        · rw [hg9] at hg8
          rw [if_neg (by decide)] at hg8
          have H := hg8
          obtain rfl := Option.some.inj H
          refine Tr.pass rfl rfl rfl rfl rfl (by decide) ?_
          refine Tr.val (wn rfl) rfl (fun _ _ h1 h2 => run_pickF (h1.ev rfl) (h1.ev rfl)) ?_
          exact Tr.nil (Tr.backThen () trivial (.cons rfl .nil) (.cons rfl (.cons rfl (.cons rfl (.cons rfl (.cons rfl .nil))))))
        · rw [hg9] at hg8
          rw [if_pos rfl] at hg8
          have H := hg8
          obtain ⟨y9, hy9, H⟩ := bnd H
          refine Tr.call0 (r := (.bool y9)) (wg rfl rfl rfl) rfl Try.call15 evl_nil (fun W hW => F_etchhouselaw9_awake_ok N y9 hy9) ?_
          refine Tr.val (wn rfl) rfl (fun _ _ h1 h2 => run_pickT (h1.ev rfl) (h1.ev rfl)) ?_
          obtain rfl := Option.some.inj H
          exact Tr.nil (Tr.backThen () trivial (.cons rfl .nil) (.cons rfl (.cons rfl (.cons rfl (.cons rfl (.cons rfl .nil))))))
      · intro _ _
        show Tr _ _ (LF [(49, (.bool g8))]) (LE [(1, bx b1 #[(.int .i64 p0.W), (.int .i64 p0.H), (.int .i64 p0.Rail), (.int .i64 p0.Gap), (.slice Ap0_0 (p0.Kinds).length cp0_0), (.slice Ap0_1 (p0.Slots).length cp0_1), (.slice Ap0_2 (p0.Marks).length cp0_2)] 26), (2, fz Sy1 Wy1), (3, bx b3 #[(.int .i64 y1.1.W), (.int .i64 y1.1.H), (.int .i64 y1.1.Rail), (.int .i64 y1.1.Gap), (.slice Ay1_0 (y1.1.Kinds).length cy1_0), (.slice Ay1_1 (y1.1.Slots).length cy1_1), (.slice Ay1_2 (y1.1.Marks).length cy1_2)] 26), (4, fz Sy5 Wy5), (5, bx b5 #[(.int .i64 y5.1.W), (.int .i64 y5.1.H), (.int .i64 y5.1.Rail), (.int .i64 y5.1.Gap), (.slice Ay5_0 (y5.1.Kinds).length cy5_0), (.slice Ay5_1 (y5.1.Slots).length cy5_1), (.slice Ay5_2 (y5.1.Marks).length cy5_2)] 26)]) _
        refine Tr.val (wn rfl) rfl (fun _ _ h1 h2 => run_assign (h1.ev rfl)) ?_
        refine Tr.nil (Tr.normThen ?_)
        refine Tr.ret ?_
        obtain rfl := Option.some.inj H
        exact Tr.out (m := [(.bool g8)]) [] (res_tmp rfl res_nil) (fun W hW => ⟨rfl, hW.below⟩)

end Go.Proofs.Ytpkicpnbpldkpaa
