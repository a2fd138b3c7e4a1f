/- The walks: each function computes its plain function. -/
import Derived.Test.YtnlhigfglfahiaaGreatXWb
namespace Go.Proofs.YtnlhigfglfahiaaGreat
open Go.RowKit
set_option maxRecDepth 100000
set_option maxHeartbeats 1000000
theorem F_etchhouseref1_row_ok (N : Nat) {w : Bs} (p0 : (List TRect)) (Ap0_0 : Option Addr) (cp0_0 : Nat) (hp0_0 : Sl w.R w.W fl_TRect Ap0_0 cp0_0 p0) (p1 : Int) (r : (List TSpan)) (H : F_etchhouseref1_row N p0 p1 = some r) (hE : HF w w.W (LEn [emp])) : Calls Tryz.prog 94 [(.slice Ap0_0 (p0).length cp0_0), (.int .i64 p1)].toArray w.W fun e W' => ∃ u : (Option Addr × Nat), e = .returned (.slice u.1 (r).length u.2) ∧ (SlF u.1 (r).length u.2) ∧ HF w W' (LEn [ow u.1 u.2 140 fl_TSpan r]) := by
  unfold F_etchhouseref1_row at H
  have leB := Bs.Le.refl w
  refine Tr.enter (n := 43) Tryz.func94 rfl rfl rfl hE ?_
  refine Tr.seq ?_
  refine Tr.region ?_
  refine Tr.val (wn rfl) rfl (fun _ _ h1 h2 => run_assign (h1.ev rfl)) ?_
  refine Tr.nilOwn 1 140 fl_TSpan ?_
  show Tr _ _ (uf _ 4 (.slice none (([] : List TSpan)).length 0)) _ _
  refine Tr.nil (Tr.normThen ?_)
  refine Tr.seq ?_
  refine Tr.region ?_
  refine Tr.val (wn rfl) rfl (fun _ _ h1 h2 => run_assign (h1.ev rfl)) ?_
  refine Tr.nilOwn 2 140 fl_TSpan ?_
  show Tr _ _ (uf _ 5 (.slice none (([] : List TSpan)).length 0)) _ _
  refine Tr.nil (Tr.normThen ?_)
  refine Tr.seq ?_
  refine Tr.seq ?_
  refine Tr.region ?_
  refine Tr.val (wn rfl) rfl (fun _ _ h1 h2 => run_assign (h1.ev rfl)) ?_
  refine Tr.nil (Tr.normThen ?_)
  refine Tr.block ?_
  refine Tr.ren 2 8 rfl rfl rfl ?_
  refine Tr.loop (σ := (List TSpan) × Int × (Option Addr) × Nat) (fun m w s => F_etchhouseref1_row_L1 N p0 p1 m s.1 s.2.1 = some r ∧ SlF s.2.2.1 (s.1).length s.2.2.2) (fun s => [(0, (.slice Ap0_0 (p0).length cp0_0)), (1, (.int .i64 p1)), (5, (.slice s.2.2.1 (s.1).length s.2.2.2)), (6, (.int .i64 s.2.1))]) (fun s => [(8, ow s.2.2.1 s.2.2.2 140 fl_TSpan s.1)]) N (([] : List TSpan), 0, none, 0) ⟨H, slf_nil⟩ (.cons rfl (.cons rfl (.cons rfl (.cons rfl .nil)))) (.cons rfl .nil) (fun _ _ h => noSome (h.1)) ?_
  intro w leF_etchhouseref1_row_L1 mF_etchhouseref1_row_L1 s hs
  obtain ⟨l122, x123, Al122, cl122⟩ := s
  obtain ⟨H, hl122⟩ := hs
  replace H : F_etchhouseref1_row_L1 N p0 p1 (mF_etchhouseref1_row_L1 + 1) l122 x123 = some r := H
  replace hp0_0 := hp0_0.leR leF_etchhouseref1_row_L1
  replace leB := leB.trans leF_etchhouseref1_row_L1
  replace hl122 : SlF Al122 (l122).length cl122 := hl122
  rw [F_etchhouseref1_row_L1.eq_2] at H
  show Tr _ _ (LF [(0, (.slice Ap0_0 (p0).length cp0_0)), (1, (.int .i64 p1)), (5, (.slice Al122 (l122).length cl122)), (6, (.int .i64 x123))]) (LE [(8, ow Al122 cl122 140 fl_TSpan l122)]) _
  refine Tr.seq ?_
  refine Tr.seq ?_
  refine Tr.region ?_
  refine Tr.val (wn rfl) rfl (fun _ _ h1 h2 => run_move (h1.ev rfl)) ?_
  refine Tr.val (wn rfl) rfl (fun _ _ h1 h2 => run_move (h1.ev rfl)) ?_
  refine Tr.val (wn rfl) rfl (fun _ _ h1 h2 => run_len un_22 (h1.ev rfl)) ?_
  refine Tr.val (wn rfl) rfl (fun _ _ h1 h2 => run_lss (h1.ev rfl) (h1.ev rfl)) ?_
  refine Tr.nil (Tr.normThen ?_)
  refine Tr.cond rfl H (fun H => ?_) (fun H => ?_)
  · refine Tr.skip (Tr.normThen ?_)
    refine Tr.seq ?_
    refine Tr.block ?_
    refine Tr.seq ?_
    refine Tr.region ?_
    refine Tr.val (wn rfl) rfl (fun _ _ h1 h2 => run_move (h1.ev rfl)) ?_
    refine Tr.val (wn rfl) rfl (fun _ _ h1 h2 => run_move (h1.ev rfl)) ?_
    obtain ⟨x124, hx124, H⟩ := bnd H
    obtain ⟨hx1240, hx1241, hx1242⟩ := idx_some hx124
    refine Tr.val (wn rfl) rfl (fun _ _ h1 h2 => run_indexAddr el_22 (h1.ev rfl) hp0_0.form (h1.ev rfl) hx1240 hx1241) ?_
    refine Tr.val (wn rfl) rfl (fun _ _ h1 h2 => run_fieldAddr fo_28_1 (h1.ev rfl)) ?_
    refine Tr.val (wn rfl) rfl (fun _ _ h1 h2 => run_load1 ag_3 (h1.ev rfl) (CellsAt.drop (rdF ef_TRect hp0_0 hx1242 h2) 1) rfl) ?_
    refine Tr.val (wn rfl) rfl (fun _ _ h1 h2 => run_move (h1.ev rfl)) ?_
    refine Tr.val (wn rfl) rfl (fun _ _ h1 h2 => run_leq (h1.ev rfl) (h1.ev rfl)) ?_
    refine Tr.val (wn rfl) rfl (fun _ _ h1 h2 => run_move (h1.ev rfl)) ?_
    obtain ⟨g126, hg126, H⟩ := bnd H
    refine Tr.mid0 8 [(0, (.slice Ap0_0 (p0).length cp0_0)), (1, (.int .i64 p1)), (5, (.slice Al122 (l122).length cl122)), (6, (.int .i64 x123)), (28, (.bool g126))] [(8, ow Al122 cl122 140 fl_TSpan l122)] ?_ ?_
    · cases hg131 : (decide (x124.Y0 ≤ p1))
      · rw [hg131] at hg126
        rw [if_neg (by decide)] at hg126
        have H := hg126
        obtain rfl := Option.some.inj H
        refine Tr.pass rfl rfl rfl rfl rfl (by decide) ?_
        refine Tr.pass rfl rfl rfl rfl rfl (by decide) ?_
        refine Tr.pass rfl rfl rfl rfl rfl (by decide) ?_
        refine Tr.pass rfl rfl rfl rfl rfl (by decide) ?_
        refine Tr.pass rfl rfl rfl rfl rfl (by decide) ?_
        refine Tr.pass rfl rfl rfl rfl rfl (by decide) ?_
        refine Tr.pass rfl rfl rfl rfl rfl (by decide) ?_
        refine Tr.val (wn rfl) rfl (fun _ _ h1 h2 => run_pickF (h1.ev rfl) (h1.ev rfl)) ?_
        exact Tr.nil (Tr.fin0 (.cons rfl (.cons rfl (.cons rfl (.cons rfl (.cons rfl .nil))))) (.cons rfl .nil))
      · rw [hg131] at hg126
        rw [if_pos rfl] at hg126
        have H := hg126
        refine Tr.val (wg rfl rfl rfl) rfl (fun _ _ h1 h2 => run_move (h1.ev rfl)) ?_
        refine Tr.val (wg rfl rfl rfl) rfl (fun _ _ h1 h2 => run_move (h1.ev rfl)) ?_
        refine Tr.val (wg rfl rfl rfl) rfl (fun _ _ h1 h2 => run_move (h1.ev rfl)) ?_
        obtain ⟨x127, hx127, H⟩ := bnd H
        obtain ⟨hx1270, hx1271, hx1272⟩ := idx_some hx127
        refine Tr.val (wg rfl rfl rfl) rfl (fun _ _ h1 h2 => run_indexAddr el_22 (h1.ev rfl) hp0_0.form (h1.ev rfl) hx1270 hx1271) ?_
        refine Tr.val (wg rfl rfl rfl) rfl (fun _ _ h1 h2 => run_fieldAddr fo_28_3 (h1.ev rfl)) ?_
        refine Tr.val (wg rfl rfl rfl) rfl (fun _ _ h1 h2 => run_load1 ag_3 (h1.ev rfl) (CellsAt.drop (rdF ef_TRect hp0_0 hx1272 h2) 3) rfl) ?_
        refine Tr.val (wg rfl rfl rfl) rfl (fun _ _ h1 h2 => run_lss (h1.ev rfl) (h1.ev rfl)) ?_
        refine Tr.val (wn rfl) rfl (fun _ _ h1 h2 => run_pickT (h1.ev rfl) (h1.ev rfl)) ?_
        obtain rfl := Option.some.inj H
        exact Tr.nil (Tr.fin0 (.cons rfl (.cons rfl (.cons rfl (.cons rfl (.cons rfl .nil))))) (.cons rfl .nil))
    · show Tr _ _ (LF [(0, (.slice Ap0_0 (p0).length cp0_0)), (1, (.int .i64 p1)), (5, (.slice Al122 (l122).length cl122)), (6, (.int .i64 x123)), (28, (.bool g126))]) (LE [(8, ow Al122 cl122 140 fl_TSpan l122)]) _
      refine Tr.nil (Tr.normThen ?_)
      refine Tr.cond rfl H (fun H => ?_) (fun H => ?_)
      · refine Tr.drawTail 12 (by kernel_rfl) (by kernel_rfl) ?_
        refine Tq.val (wn rfl) rfl (fun _ _ h1 h2 => run_move (h1.ev rfl)) ?_
        refine Tq.val (wn rfl) rfl (fun _ _ h1 h2 => run_move (h1.ev rfl)) ?_
        refine Tq.val (wn rfl) rfl (fun _ _ h1 h2 => run_move (h1.ev rfl)) ?_
        obtain ⟨x128, hx128, H⟩ := bnd H
        obtain ⟨hx1280, hx1281, hx1282⟩ := idx_some hx128
        refine Tq.val (wn rfl) rfl (fun _ _ h1 h2 => run_indexAddr el_22 (h1.ev rfl) hp0_0.form (h1.ev rfl) hx1280 hx1281) ?_
        refine Tq.val (wn rfl) rfl (fun _ _ h1 h2 => run_fieldAddr fo_28_0 (h1.ev rfl)) ?_
        refine Tq.val (wn rfl) rfl (fun _ _ h1 h2 => run_load1 ag_3 (h1.ev rfl) (CellsAt.drop (rdF ef_TRect hp0_0 hx1282 h2) 0) rfl) ?_
        refine Tq.val (wn rfl) rfl (fun _ _ h1 h2 => run_move (h1.ev rfl)) ?_
        refine Tq.val (wn rfl) rfl (fun _ _ h1 h2 => run_move (h1.ev rfl)) ?_
        obtain ⟨x129, hx129, H⟩ := bnd H
        obtain ⟨hx1290, hx1291, hx1292⟩ := idx_some hx129
        refine Tq.val (wn rfl) rfl (fun _ _ h1 h2 => run_indexAddr el_22 (h1.ev rfl) hp0_0.form (h1.ev rfl) hx1290 hx1291) ?_
        refine Tq.val (wn rfl) rfl (fun _ _ h1 h2 => run_fieldAddr fo_28_2 (h1.ev rfl)) ?_
        refine Tq.val (wn rfl) rfl (fun _ _ h1 h2 => run_load1 ag_3 (h1.ev rfl) (CellsAt.drop (rdF ef_TRect hp0_0 hx1292 h2) 2) rfl) ?_
        refine Tq.build (vs := [(0, (.int .i64 x128.X0)), (1, (.int .i64 x129.X1))]) (cs := [(.int .i64 x128.X0), (.int .i64 x129.X1)]) (wn rfl) rfl (evs_cons rfl (evs_cons rfl evs_nil)) (by kernel_rfl) ?_
        refine Tq.nil ?_
        obtain ⟨y130, hy130, H⟩ := bnd H
        refine Tr.callM [9] [emp] (U := (Option Addr × Nat)) (fun u => (.slice u.1 (y130).length u.2)) (fun u => SlF u.1 (y130).length u.2) (fun u => [ow u.1 u.2 140 fl_TSpan y130]) rfl (pk_cons rfl pk_nil) (fun _ => rfl) (wn rfl) rfl Tryz.call115 (evl_cons rfl (evl_cons rfl evl_nil)) (fun W hW hp hE => F_etchhouseref1_joined_ok N l122 Al122 cl122 (hW.slS (k := 8) rfl hp rfl) (TSpan.mk x128.X0 x129.X1) y130 hy130 hE) ?_
        intro u hu
        obtain ⟨Ay130_0, cy130_0⟩ := u
        have gy130_0 := hu
        have hgy130_0 : SlF Ay130_0 (y130).length cy130_0 := gy130_0 --@phi
        show Tr _ _ (uf _ 41 (.slice Ay130_0 (y130).length cy130_0)) (up _ 9 (ow Ay130_0 cy130_0 140 fl_TSpan y130)) _
        refine Tr.val (wn rfl) rfl (fun _ _ h1 h2 => run_assign (h1.ev rfl)) ?_
        refine Tr.nil (Tr.normBlock (Tr.normThen ?_))
        refine Tr.region ?_
        refine Tr.val (wn rfl) rfl (fun _ _ h1 h2 => run_move (h1.ev rfl)) ?_
        refine Tr.val (wn rfl) rfl (fun _ _ h1 h2 => run_add (h1.ev rfl) (h1.ev rfl)) ?_
        refine Tr.val (wn rfl) rfl (fun _ _ h1 h2 => run_assign (h1.ev rfl)) ?_
        refine Tr.nil ?_
        refine Tr.dropK 8 ?_
        refine Tr.ren 9 8 rfl rfl rfl ?_
        exact Tr.backThen leF_etchhouseref1_row_L1 (y130, (w64 (x123 + 1)), Ay130_0, cy130_0) ⟨H, hgy130_0⟩ (.cons rfl (.cons rfl (.cons rfl (.cons rfl .nil)))) (.cons rfl .nil)
      · refine Tr.skip (Tr.normBlock (Tr.normThen ?_))
        refine Tr.region ?_
        refine Tr.val (wn rfl) rfl (fun _ _ h1 h2 => run_move (h1.ev rfl)) ?_
        refine Tr.val (wn rfl) rfl (fun _ _ h1 h2 => run_add (h1.ev rfl) (h1.ev rfl)) ?_
        refine Tr.val (wn rfl) rfl (fun _ _ h1 h2 => run_assign (h1.ev rfl)) ?_
        refine Tr.nil ?_
        exact Tr.backThen leF_etchhouseref1_row_L1 (l122, (w64 (x123 + 1)), Al122, cl122) ⟨H, hl122⟩ (.cons rfl (.cons rfl (.cons rfl (.cons rfl .nil)))) (.cons rfl .nil)
  · refine Tr.exit (Tr.exitThen (Tr.exitThen (Tr.exitBlock (Tr.normThen ?_))))
    refine Tr.seq ?_
    refine Tr.region ?_
    refine Tr.val (wn rfl) rfl (fun _ _ h1 h2 => run_move (h1.ev rfl)) ?_
    refine Tr.val (wn rfl) rfl (fun _ _ h1 h2 => run_assign (h1.ev rfl)) ?_
    refine Tr.nil (Tr.normThen ?_)
    refine Tr.ret ?_
    obtain rfl := Option.some.inj H
    exact Tr.out (m := [(.slice Al122 (l122).length cl122)]) [] (res_tmp rfl res_nil) (fun W hW => ⟨(Al122, cl122), rfl, hl122, HF.lowE leB (hW.pick (ks := [8]) (by decide) (pk_cons rfl pk_nil)) ⟨ow_any _ _ _ _ tr_TSpan, trivial⟩⟩)

theorem F_etchhouseref1_sameSpans_ok (N : Nat) {w : Bs} (p0 : (List TSpan)) (Ap0_0 : Option Addr) (cp0_0 : Nat) (hp0_0 : Sl w.R w.W fl_TSpan Ap0_0 cp0_0 p0) (p1 : (List TSpan)) (Ap1_0 : Option Addr) (cp1_0 : Nat) (hp1_0 : Sl w.R w.W fl_TSpan Ap1_0 cp1_0 p1) (r : Bool) (H : F_etchhouseref1_sameSpans N p0 p1 = some r) (hE : HF w w.W E0) : Calls Tryz.prog 114 [(.slice Ap0_0 (p0).length cp0_0), (.slice Ap1_0 (p1).length cp1_0)].toArray w.W fun e W' => e = .returned (.bool r) ∧ HF w W' E0 := by
  unfold F_etchhouseref1_sameSpans at H
  have leB := Bs.Le.refl w
  refine Tr.enter (n := 26) Tryz.func114 rfl rfl rfl hE ?_
  refine Tr.seq ?_
  refine Tr.region ?_
  refine Tr.val (wn rfl) rfl (fun _ _ h1 h2 => run_assign (h1.ev rfl)) ?_
  refine Tr.nil (Tr.normThen ?_)
  refine Tr.seq ?_
  refine Tr.seq ?_
  refine Tr.region ?_
  refine Tr.val (wn rfl) rfl (fun _ _ h1 h2 => run_move (h1.ev rfl)) ?_
  refine Tr.val (wn rfl) rfl (fun _ _ h1 h2 => run_len un_109 (h1.ev rfl)) ?_
  refine Tr.val (wn rfl) rfl (fun _ _ h1 h2 => run_move (h1.ev rfl)) ?_
  refine Tr.val (wn rfl) rfl (fun _ _ h1 h2 => run_len un_109 (h1.ev rfl)) ?_
  refine Tr.val (wn rfl) rfl (fun _ _ h1 h2 => run_neq (h1.ev rfl) (h1.ev rfl)) ?_
  refine Tr.nil (Tr.normThen ?_)
  refine Tr.cond rfl H (fun H => ?_) (fun H => ?_)
  · refine Tr.seq ?_
    refine Tr.region ?_
    refine Tr.val (wn rfl) rfl (fun _ _ h1 h2 => run_assign (h1.ev rfl)) ?_
    refine Tr.nil (Tr.normThen ?_)
    refine Tr.ret (Tr.retThen ?_)
    obtain rfl := Option.some.inj H
    exact Tr.out (m := [(.bool false)]) [] (res_tmp rfl res_nil) (fun W hW => ⟨rfl, hW.low leB⟩)
  · refine Tr.skip (Tr.normThen ?_)
    refine Tr.seq ?_
    refine Tr.seq ?_
    refine Tr.region ?_
    refine Tr.val (wn rfl) rfl (fun _ _ h1 h2 => run_assign (h1.ev rfl)) ?_
    refine Tr.nil (Tr.normThen ?_)
    refine Tr.block ?_
    refine Tr.loop (σ := Int) (fun m w s => F_etchhouseref1_sameSpans_L1 p0 p1 m s = some r) (fun s => [(0, (.slice Ap0_0 (p0).length cp0_0)), (1, (.slice Ap1_0 (p1).length cp1_0)), (5, (.int .i64 s))]) (fun s => []) N 0 H (.cons rfl (.cons rfl (.cons rfl .nil))) .nil (fun _ _ h => noSome (h)) ?_
    intro w leF_etchhouseref1_sameSpans_L1 mF_etchhouseref1_sameSpans_L1 x107 hs
    have H := hs
    replace H : F_etchhouseref1_sameSpans_L1 p0 p1 (mF_etchhouseref1_sameSpans_L1 + 1) x107 = some r := H
    replace hp0_0 := hp0_0.leR leF_etchhouseref1_sameSpans_L1
    replace hp1_0 := hp1_0.leR leF_etchhouseref1_sameSpans_L1
    replace leB := leB.trans leF_etchhouseref1_sameSpans_L1
    rw [F_etchhouseref1_sameSpans_L1.eq_2] at H
    show Tr _ _ (LF [(0, (.slice Ap0_0 (p0).length cp0_0)), (1, (.slice Ap1_0 (p1).length cp1_0)), (5, (.int .i64 x107))]) (LE []) _
    refine Tr.seq ?_
    refine Tr.seq ?_
    refine Tr.region ?_
    refine Tr.val (wn rfl) rfl (fun _ _ h1 h2 => run_move (h1.ev rfl)) ?_
    refine Tr.val (wn rfl) rfl (fun _ _ h1 h2 => run_move (h1.ev rfl)) ?_
    refine Tr.val (wn rfl) rfl (fun _ _ h1 h2 => run_len un_109 (h1.ev rfl)) ?_
    refine Tr.val (wn rfl) rfl (fun _ _ h1 h2 => run_lss (h1.ev rfl) (h1.ev rfl)) ?_
    refine Tr.nil (Tr.normThen ?_)
    refine Tr.cond rfl H (fun H => ?_) (fun H => ?_)
    · refine Tr.skip (Tr.normThen ?_)
      refine Tr.seq ?_
      refine Tr.block ?_
      refine Tr.seq ?_
      refine Tr.draw (by kernel_rfl) (by kernel_rfl) ?_
      refine Tq.val (wn rfl) rfl (fun _ _ h1 h2 => run_move (h1.ev rfl)) ?_
      refine Tq.val (wn rfl) rfl (fun _ _ h1 h2 => run_move (h1.ev rfl)) ?_
      obtain ⟨x108, hx108, H⟩ := bnd H
      obtain ⟨hx1080, hx1081, hx1082⟩ := idx_some hx108
      refine Tq.val (wn rfl) rfl (fun _ _ h1 h2 => run_indexAddr el_109 (h1.ev rfl) hp0_0.form (h1.ev rfl) hx1080 hx1081) ?_
      refine Tq.val (wn rfl) rfl (fun _ _ h1 h2 => run_loadN (cs := [(.int .i64 x108.from_), (.int .i64 x108.to_)]) ag_140 sz_140 (h1.ev rfl) (CellsAt.take (rdF ef_TSpan hp0_0 hx1082 h2) 2) rfl) ?_
      refine Tq.val (wn rfl) rfl (fun _ _ h1 h2 => run_move (h1.ev rfl)) ?_
      refine Tq.val (wn rfl) rfl (fun _ _ h1 h2 => run_move (h1.ev rfl)) ?_
      obtain ⟨x109, hx109, H⟩ := bnd H
      obtain ⟨hx1090, hx1091, hx1092⟩ := idx_some hx109
      refine Tq.val (wn rfl) rfl (fun _ _ h1 h2 => run_indexAddr el_109 (h1.ev rfl) hp1_0.form (h1.ev rfl) hx1090 hx1091) ?_
      refine Tq.val (wn rfl) rfl (fun _ _ h1 h2 => run_loadN (cs := [(.int .i64 x109.from_), (.int .i64 x109.to_)]) ag_140 sz_140 (h1.ev rfl) (CellsAt.take (rdF ef_TSpan hp1_0 hx1092 h2) 2) rfl) ?_
      refine Tq.val (wn rfl) rfl (fun _ _ h1 h2 => run_neq_140 x108 x109 (h1.ev rfl) (h1.ev rfl)) ?_
      refine Tq.nil (Tr.normThen ?_)
      refine Tr.cond rfl H (fun H => ?_) (fun H => ?_)
      · refine Tr.seq ?_
        refine Tr.region ?_
        refine Tr.val (wn rfl) rfl (fun _ _ h1 h2 => run_assign (h1.ev rfl)) ?_
        refine Tr.nil (Tr.normThen ?_)
        refine Tr.ret (Tr.retBlock (Tr.retThen (Tr.retThen (Tr.retBlock (Tr.retThen ?_)))))
        obtain rfl := Option.some.inj H
        exact Tr.out (m := [(.bool false)]) [] (res_tmp rfl res_nil) (fun W hW => ⟨rfl, hW.low leB⟩)
      · refine Tr.skip (Tr.normBlock (Tr.normThen ?_))
        refine Tr.region ?_
        refine Tr.val (wn rfl) rfl (fun _ _ h1 h2 => run_move (h1.ev rfl)) ?_
        refine Tr.val (wn rfl) rfl (fun _ _ h1 h2 => run_add (h1.ev rfl) (h1.ev rfl)) ?_
        refine Tr.val (wn rfl) rfl (fun _ _ h1 h2 => run_assign (h1.ev rfl)) ?_
        refine Tr.nil ?_
        exact Tr.backThen leF_etchhouseref1_sameSpans_L1 (w64 (x107 + 1)) H (.cons rfl (.cons rfl (.cons rfl .nil))) .nil
    · refine Tr.exit (Tr.exitThen (Tr.exitThen (Tr.exitBlock (Tr.normThen ?_))))
      refine Tr.seq ?_
      refine Tr.region ?_
      refine Tr.val (wn rfl) rfl (fun _ _ h1 h2 => run_assign (h1.ev rfl)) ?_
      refine Tr.nil (Tr.normThen ?_)
      refine Tr.ret ?_
      obtain rfl := Option.some.inj H
      exact Tr.out (m := [(.bool true)]) [] (res_tmp rfl res_nil) (fun W hW => ⟨rfl, hW.low leB⟩)

theorem F_etchhouseref1_stacked_ok (N : Nat) {w : Bs} (p0 : (List Tetchhouseref1Band)) (Ap0_0 : Option Addr) (cp0_0 : Nat) (p1 : Tetchhouseref1Band) (Ap1_0 : Option Addr) (cp1_0 : Nat) (hp1_0 : Sl w.O w.W fl_TSpan Ap1_0 cp1_0 p1.spans) (r : (List Tetchhouseref1Band)) (H : F_etchhouseref1_stacked N p0 p1 = some r) (hE : HF w w.W (LEn [ow Ap0_0 cp0_0 112 fl_Tetchhouseref1Band p0])) : Calls Tryz.prog 87 [(.slice Ap0_0 (p0).length cp0_0), (.agg #[(.int .i64 p1.from_), (.int .i64 p1.to_), (.slice Ap1_0 (p1.spans).length cp1_0)])].toArray w.W fun e W' => ∃ (w' : Bs) (u : (Option Addr × Nat)), w.Le w' ∧ e = .returned (.slice u.1 (r).length u.2) ∧ (SlF u.1 (r).length u.2) ∧ HF w' W' (LEn [ow u.1 u.2 112 fl_Tetchhouseref1Band r]) := by
  unfold F_etchhouseref1_stacked at H
  have hfhp0_0 := (hE.sl (k := 0) rfl).form
  have leB := Bs.Le.refl w
  refine Tr.enter (n := 49) Tryz.func87 rfl rfl rfl hE ?_
  refine Tr.seq ?_
  refine Tr.region ?_
  refine Tr.box 1 (cs := [(.int .i64 p1.from_), (.int .i64 p1.to_), (.slice Ap1_0 (p1.spans).length cp1_0)]) (wn rfl) rfl rfl rfl fun b100 => ?_
  refine Tr.val (wn rfl) rfl (fun _ _ h1 h2 => run_assign (h1.ev rfl)) ?_
  refine Tr.nilOwn 2 112 fl_Tetchhouseref1Band ?_
  show Tr _ _ (uf _ 4 (.slice none (([] : List Tetchhouseref1Band)).length 0)) _ _
  refine Tr.nil (Tr.normThen ?_)
  refine Tr.seq ?_
  refine Tr.seq ?_
  refine Tr.region ?_
  refine Tr.val (wn rfl) rfl (fun _ _ h1 h2 => run_fieldAddr fo_112_2 (h1.ev rfl)) ?_
  refine Tr.val (wn rfl) rfl (fun _ _ h1 h2 => run_load1 ag_109 (h1.ev rfl) (rdb h2 (vs := [(.int .i64 p1.from_), (.int .i64 p1.to_), (.slice Ap1_0 (p1.spans).length cp1_0)]) (k := 1) rfl 2) rfl) ?_
  refine Tr.val (wn rfl) rfl (fun _ _ h1 h2 => run_len un_109 (h1.ev rfl)) ?_
  refine Tr.val (wn rfl) rfl (fun _ _ h1 h2 => run_eql (h1.ev rfl) (h1.ev rfl)) ?_
  refine Tr.nil (Tr.normThen ?_)
  refine Tr.cond rfl H (fun H => ?_) (fun H => ?_)
  · refine Tr.seq ?_
    refine Tr.region ?_
    refine Tr.val (wn rfl) rfl (fun _ _ h1 h2 => run_move (h1.ev rfl)) ?_
    refine Tr.val (wn rfl) rfl (fun _ _ h1 h2 => run_assign (h1.ev rfl)) ?_
    refine Tr.nil (Tr.normThen ?_)
    refine Tr.ret (Tr.retThen ?_)
    obtain rfl := Option.some.inj H
    exact Tr.out (m := [(.slice Ap0_0 (p0).length cp0_0)]) [] (res_tmp rfl res_nil) (fun W hW => ⟨w, (Ap0_0, cp0_0), leB, rfl, hfhp0_0, hW.pick (ks := [0]) (by decide) (pk_cons rfl pk_nil)⟩)
  · refine Tr.skip (Tr.normThen ?_)
    refine Tr.seq ?_
    refine Tr.seq ?_
    refine Tr.region ?_
    refine Tr.val (wn rfl) rfl (fun _ _ h1 h2 => run_move (h1.ev rfl)) ?_
    refine Tr.val (wn rfl) rfl (fun _ _ h1 h2 => run_len un_107 (h1.ev rfl)) ?_
    refine Tr.val (wn rfl) rfl (fun _ _ h1 h2 => run_assign (h1.ev rfl)) ?_
    refine Tr.nil (Tr.normThen ?_)
    refine Tr.seq ?_
    refine Tr.draw (by kernel_rfl) (by kernel_rfl) ?_
    refine Tq.val (wn rfl) rfl (fun _ _ h1 h2 => run_move (h1.ev rfl)) ?_
    refine Tq.val (wn rfl) rfl (fun _ _ h1 h2 => run_gtr (h1.ev rfl) (h1.ev rfl)) ?_
    refine Tq.val (wn rfl) rfl (fun _ _ h1 h2 => run_move (h1.ev rfl)) ?_
    obtain ⟨g102, hg102, H⟩ := bnd H
    refine Tq.mid 10 [(0, (.slice Ap0_0 (p0).length cp0_0)), (3, (.pointer (some ⟨b100, 0, none⟩))), (5, (.int .i64 (p0.length : Int))), (25, (.bool g102))] ?_ ?_
    · cases hg114 : (decide (0 < (p0.length : Int)))
      · rw [hg114] at hg102
        rw [if_neg (by decide)] at hg102
        have H := hg102
        obtain rfl := Option.some.inj H
        refine Tq.pass rfl rfl rfl rfl rfl (by decide) ?_
        refine Tq.pass rfl rfl rfl rfl rfl (by decide) ?_
        refine Tq.pass rfl rfl rfl rfl rfl (by decide) ?_
        refine Tq.pass rfl rfl rfl rfl rfl (by decide) ?_
        refine Tq.pass rfl rfl rfl rfl rfl (by decide) ?_
        refine Tq.pass rfl rfl rfl rfl rfl (by decide) ?_
        refine Tq.pass rfl rfl rfl rfl rfl (by decide) ?_
        refine Tq.pass rfl rfl rfl rfl rfl (by decide) ?_
        refine Tq.pass rfl rfl rfl rfl rfl (by decide) ?_
        refine Tq.val (wn rfl) rfl (fun _ _ h1 h2 => run_pickF (h1.ev rfl) (h1.ev rfl)) ?_
        exact Tq.fin (.cons rfl (.cons rfl (.cons rfl (.cons rfl .nil))))
      · rw [hg114] at hg102
        rw [if_pos rfl] at hg102
        have H := hg102
        refine Tq.val (wg rfl rfl rfl) rfl (fun _ _ h1 h2 => run_move (h1.ev rfl)) ?_
        refine Tq.val (wg rfl rfl rfl) rfl (fun _ _ h1 h2 => run_move (h1.ev rfl)) ?_
        refine Tq.val (wg rfl rfl rfl) rfl (fun _ _ h1 h2 => run_sub (h1.ev rfl) (h1.ev rfl)) ?_
        obtain ⟨x103, hx103, H⟩ := bnd H
        obtain ⟨hx1030, hx1031, hx1032⟩ := idx_some hx103
        refine Tq.val (wg rfl rfl rfl) rfl (fun _ _ h1 h2 => run_indexAddr el_107 (h1.ev rfl) hfhp0_0 (h1.ev rfl) hx1030 hx1031) ?_
        refine Tq.val (wg rfl rfl rfl) rfl (fun _ _ h1 h2 => run_fieldAddr fo_112_1 (h1.ev rfl)) ?_
        refine Tq.val (wg rfl rfl rfl) rfl (fun _ _ h1 h2 => (HF.atN (k := 0) h2 rfl hx1032).elim fun u hu => run_load1 ag_3 (h1.ev rfl) (hu.2.drop 1) rfl) ?_
        refine Tq.val (wg rfl rfl rfl) rfl (fun _ _ h1 h2 => run_fieldAddr fo_112_0 (h1.ev rfl)) ?_
        refine Tq.val (wg rfl rfl rfl) rfl (fun _ _ h1 h2 => run_load1 ag_3 (h1.ev rfl) (rdb h2 (vs := [(.int .i64 p1.from_), (.int .i64 p1.to_), (.slice Ap1_0 (p1.spans).length cp1_0)]) (k := 1) rfl 0) rfl) ?_
        refine Tq.val (wg rfl rfl rfl) rfl (fun _ _ h1 h2 => run_eql (h1.ev rfl) (h1.ev rfl)) ?_
        refine Tq.val (wn rfl) rfl (fun _ _ h1 h2 => run_pickT (h1.ev rfl) (h1.ev rfl)) ?_
        obtain rfl := Option.some.inj H
        exact Tq.fin (.cons rfl (.cons rfl (.cons rfl (.cons rfl .nil))))
    · refine Tq.val (wn rfl) rfl (fun _ _ h1 h2 => run_move (h1.ev rfl)) ?_
      obtain ⟨g107, hg107, H⟩ := bnd H
      refine Tq.mid 10 [(0, (.slice Ap0_0 (p0).length cp0_0)), (3, (.pointer (some ⟨b100, 0, none⟩))), (5, (.int .i64 (p0.length : Int))), (36, (.bool g107))] ?_ ?_
      · cases hg114 : g102
        · rw [hg114] at hg107
          rw [if_neg (by decide)] at hg107
          have H := hg107
          obtain rfl := Option.some.inj H
          refine Tq.pass rfl rfl rfl rfl rfl (by decide) ?_
          refine Tq.pass rfl rfl rfl rfl rfl (by decide) ?_
          refine Tq.pass rfl rfl rfl rfl rfl (by decide) ?_
          refine Tq.pass rfl rfl rfl rfl rfl (by decide) ?_
          refine Tq.pass rfl rfl rfl rfl rfl (by decide) ?_
          refine Tq.pass rfl rfl rfl rfl rfl (by decide) ?_
          refine Tq.pass rfl rfl rfl rfl rfl (by decide) ?_
          refine Tq.pass rfl rfl rfl rfl rfl (by decide) ?_
          refine Tq.pass rfl rfl rfl rfl rfl (by decide) ?_
          refine Tq.val (wn rfl) rfl (fun _ _ h1 h2 => run_pickF (h1.ev rfl) (h1.ev rfl)) ?_
          exact Tq.fin (.cons rfl (.cons rfl (.cons rfl (.cons rfl .nil))))
        · rw [hg114] at hg107
          rw [if_pos rfl] at hg107
          have H := hg107
          refine Tq.val (wg rfl rfl rfl) rfl (fun _ _ h1 h2 => run_move (h1.ev rfl)) ?_
          refine Tq.val (wg rfl rfl rfl) rfl (fun _ _ h1 h2 => run_move (h1.ev rfl)) ?_
          refine Tq.val (wg rfl rfl rfl) rfl (fun _ _ h1 h2 => run_sub (h1.ev rfl) (h1.ev rfl)) ?_
          obtain ⟨x108, hx108, H⟩ := bnd H
          obtain ⟨hx1080, hx1081, hx1082⟩ := idx_some hx108
          refine Tq.val (wg rfl rfl rfl) rfl (fun _ _ h1 h2 => run_indexAddr el_107 (h1.ev rfl) hfhp0_0 (h1.ev rfl) hx1080 hx1081) ?_
          refine Tq.val (wg rfl rfl rfl) rfl (fun _ _ h1 h2 => run_fieldAddr fo_112_2 (h1.ev rfl)) ?_
          refine Tq.valE (U := (fl_Tetchhouseref1Band).Ad) (fun u => (fl_Tetchhouseref1Band).ok w.O w.W u x108) (fun u => (.slice u.1 (x108.spans).length u.2)) (wg rfl rfl rfl) rfl (ldN (κ := 0) (t := fl_Tetchhouseref1Band) (V := fun u => (.slice u.1 (x108.spans).length u.2)) rfl hx1082 (fun _ _ u h1 hc => run_load1 ag_109 (h1.ev rfl) (hc.drop 2) rfl)) ?_
          intro u109 hoku109
          obtain ⟨Au109_0, cu109_0⟩ := u109
          have hoku109_0 := hoku109
          replace hoku109_0 : Sl w.O w.W fl_TSpan Au109_0 cu109_0 x108.spans := hoku109_0
          show Tq _ _ _ _ (uf _ 32 (.slice Au109_0 (x108.spans).length cu109_0)) _ _ _
          refine Tq.val (wg rfl rfl rfl) rfl (fun _ _ h1 h2 => run_fieldAddr fo_112_2 (h1.ev rfl)) ?_
          refine Tq.val (wg rfl rfl rfl) rfl (fun _ _ h1 h2 => run_load1 ag_109 (h1.ev rfl) (rdb h2 (vs := [(.int .i64 p1.from_), (.int .i64 p1.to_), (.slice Ap1_0 (p1.spans).length cp1_0)]) (k := 1) rfl 2) rfl) ?_
          obtain ⟨y110, hy110, H⟩ := bnd H
          refine Tq.call0 (r := (.bool y110)) (wg rfl rfl rfl) rfl Tryz.call114 (evl_cons rfl (evl_cons rfl evl_nil)) (fun W hW => F_etchhouseref1_sameSpans_ok N x108.spans Au109_0 cu109_0 (hoku109_0.rl.ext hW.extAll) p1.spans Ap1_0 cp1_0 (hp1_0.rl.ext hW.extAll) y110 hy110 (HF.start _)) ?_
          refine Tq.val (wn rfl) rfl (fun _ _ h1 h2 => run_pickT (h1.ev rfl) (h1.ev rfl)) ?_
          obtain rfl := Option.some.inj H
          exact Tq.fin (.cons rfl (.cons rfl (.cons rfl (.cons rfl .nil))))
      · refine Tq.nil (Tr.normThen ?_)
        refine Tr.cond rfl H (fun H => ?_) (fun H => ?_)
        · refine Tr.seq ?_
          refine Tr.region ?_
          refine Tr.val (wn rfl) rfl (fun _ _ h1 h2 => run_move (h1.ev rfl)) ?_
          refine Tr.val (wn rfl) rfl (fun _ _ h1 h2 => run_move (h1.ev rfl)) ?_
          refine Tr.val (wn rfl) rfl (fun _ _ h1 h2 => run_sub (h1.ev rfl) (h1.ev rfl)) ?_
          refine Tr.val (wn rfl) rfl (fun _ _ h1 h2 => run_fieldAddr fo_112_1 (h1.ev rfl)) ?_
          refine Tr.val (wn rfl) rfl (fun _ _ h1 h2 => run_load1 ag_3 (h1.ev rfl) (rdb h2 (vs := [(.int .i64 p1.from_), (.int .i64 p1.to_), (.slice Ap1_0 (p1.spans).length cp1_0)]) (k := 1) rfl 1) rfl) ?_
          obtain ⟨x111, hx111, H⟩ := bnd H
          obtain ⟨hx1110, hx1111, hx1112⟩ := idx_some hx111
          refine Tr.val (wn rfl) rfl (fun _ _ h1 h2 => run_indexAddr el_107 (h1.ev rfl) hfhp0_0 (h1.ev rfl) hx1110 hx1111) ?_
          refine Tr.val (wn rfl) rfl (fun _ _ h1 h2 => run_fieldAddr fo_112_1 (h1.ev rfl)) ?_
          obtain ⟨l112, hl112, H⟩ := bnd H
          have hnl112 := sets_len hl112
          refine Tr.storeEl 0 (t := fl_Tetchhouseref1Band) (l := p0) (i := (w64 ((p0.length : Int) - 1))) (fo := 1) (cs := [(.int .i64 p1.to_)]) (Tetchhouseref1Band.mk x111.from_ p1.to_ x111.spans) (wn rfl) rfl rfl rfl rfl rfl hx1112 sz_3 rfl (fun u hu => ⟨u, hu, rfl⟩) rfl hl112 ?_
          have hfl112 : SlF Ap0_0 (l112).length cp0_0 := by rw [hnl112]; exact hfhp0_0
          have hsl112 := hnl112.trans rfl
          refine Tr.sel (lf := [(0, (.slice Ap0_0 (l112).length cp0_0)), (3, (.pointer (some ⟨b100, 0, none⟩))), (5, (.int .i64 (p0.length : Int))), (36, (.bool g107)), (37, (.slice Ap0_0 (l112).length cp0_0)), (38, (.int .i64 (p0.length : Int))), (39, (.int .i64 (w64 ((p0.length : Int) - 1)))), (40, (.pointer (some ⟨b100, 1, none⟩))), (41, (.int .i64 p1.to_))]) (le := [(0, ow Ap0_0 cp0_0 112 fl_Tetchhouseref1Band l112), (1, bx b100 #[(.int .i64 p1.from_), (.int .i64 p1.to_), (.slice Ap1_0 (p1.spans).length cp1_0)] 112), (2, ow none 0 112 fl_Tetchhouseref1Band ([] : List Tetchhouseref1Band))]) (.cons (slenV rfl (by rw [hnl112])) (.cons rfl (.cons rfl (.cons rfl (.cons (slenV rfl (by rw [hnl112])) (.cons rfl (.cons rfl (.cons rfl (.cons rfl .nil))))))))) (.cons rfl (.cons rfl (.cons rfl .nil))) ?_
          refine Tr.nil (Tr.normThen ?_)
          refine Tr.seq ?_
          refine Tr.region ?_
          refine Tr.val (wn rfl) rfl (fun _ _ h1 h2 => run_move (h1.ev rfl)) ?_
          refine Tr.val (wn rfl) rfl (fun _ _ h1 h2 => run_assign (h1.ev rfl)) ?_
          refine Tr.nil (Tr.normThen ?_)
          refine Tr.ret (Tr.retThen ?_)
          obtain rfl := Option.some.inj H
          exact Tr.out (m := [(.slice Ap0_0 (l112).length cp0_0)]) [] (res_tmp rfl res_nil) (fun W hW => ⟨w, (Ap0_0, cp0_0), leB, rfl, hfl112, hW.pick (ks := [0]) (by decide) (pk_cons rfl pk_nil)⟩)
        · refine Tr.skip (Tr.normThen ?_)
          refine Tr.seq ?_
          refine Tr.region ?_
          refine Tr.val (wn rfl) rfl (fun _ _ h1 h2 => run_move (h1.ev rfl)) ?_
          refine Tr.val (wn rfl) rfl (fun _ _ h1 h2 => run_loadN (cs := [(.int .i64 p1.from_), (.int .i64 p1.to_), (.slice Ap1_0 (p1.spans).length cp1_0)]) ag_112 sz_112 (h1.ev rfl) (CellsAt.take (rdb h2 (vs := [(.int .i64 p1.from_), (.int .i64 p1.to_), (.slice Ap1_0 (p1.spans).length cp1_0)]) (k := 1) rfl 0) 3) rfl) ?_
          refine Tr.buildSlice 3 (e := 112) (vs := [(0, (.agg #[(.int .i64 p1.from_), (.int .i64 p1.to_), (.slice Ap1_0 (p1.spans).length cp1_0)]))]) (cs := [(.int .i64 p1.from_), (.int .i64 p1.to_), (.slice Ap1_0 (p1.spans).length cp1_0)]) (wn rfl) rfl (evs_cons rfl evs_nil) (by kernel_rfl) fun b113 => ?_
          obtain ⟨l114, hl114, H⟩ := bnd H
          refine Tr.append 0 (t := fl_Tetchhouseref1Band) (l := p0) (l2 := [p1]) (wn rfl) rfl rfl rfl rfl (fun W hW => ⟨[[(.int .i64 p1.from_), (.int .i64 p1.to_), (.slice Ap1_0 (p1.spans).length cp1_0)]], (.cons ⟨(Ap1_0, cp1_0), hp1_0, rfl⟩ .nil), rdb hW (vs := [(.int .i64 p1.from_), (.int .i64 p1.to_), (.slice Ap1_0 (p1.spans).length cp1_0)]) (k := 3) rfl 0⟩) un_107 sz_112 zl_112 (by decide) by_112 rfl hl114 fun Al114 cl114 hAl114 => ?_
          refine Tr.val (wn rfl) rfl (fun _ _ h1 h2 => run_assign (h1.ev rfl)) ?_
          refine Tr.nil (Tr.normThen ?_)
          refine Tr.ret ?_
          obtain rfl := Option.some.inj H
          exact Tr.out (m := [(.slice Al114 (l114).length cl114)]) [] (res_tmp rfl res_nil) (fun W hW => ⟨w, (Al114, cl114), leB, rfl, hAl114, hW.pick (ks := [0]) (by decide) (pk_cons rfl pk_nil)⟩)

theorem F_etchhouseref1_told_ok (N : Nat) {w : Bs} (p0 : (List Tetchhouseref1Band)) (Ap0_0 : Option Addr) (cp0_0 : Nat) (hp0_0 : Sl w.R w.W fl_Tetchhouseref1Band Ap0_0 cp0_0 p0) (r : (List TRect)) (H : F_etchhouseref1_told N p0 = some r) (hE : HF w w.W (LEn [emp])) : Calls Tryz.prog 89 [(.slice Ap0_0 (p0).length cp0_0)].toArray w.W fun e W' => ∃ u : (Option Addr × Nat), e = .returned (.slice u.1 (r).length u.2) ∧ (SlF u.1 (r).length u.2) ∧ HF w W' (LEn [ow u.1 u.2 28 fl_TRect r]) := by
  unfold F_etchhouseref1_told at H
  have leB := Bs.Le.refl w
  refine Tr.enter (n := 55) Tryz.func89 rfl rfl rfl hE ?_
  refine Tr.seq ?_
  refine Tr.region ?_
  refine Tr.val (wn rfl) rfl (fun _ _ h1 h2 => run_assign (h1.ev rfl)) ?_
  refine Tr.nilOwn 1 28 fl_TRect ?_
  show Tr _ _ (uf _ 2 (.slice none (([] : List TRect)).length 0)) _ _
  refine Tr.nil (Tr.normThen ?_)
  refine Tr.seq ?_
  refine Tr.region ?_
  refine Tr.val (wn rfl) rfl (fun _ _ h1 h2 => run_assign (h1.ev rfl)) ?_
  refine Tr.nilOwn 2 28 fl_TRect ?_
  show Tr _ _ (uf _ 3 (.slice none (([] : List TRect)).length 0)) _ _
  refine Tr.nil (Tr.normThen ?_)
  refine Tr.seq ?_
  refine Tr.seq ?_
  refine Tr.region ?_
  refine Tr.val (wn rfl) rfl (fun _ _ h1 h2 => run_assign (h1.ev rfl)) ?_
  refine Tr.nil (Tr.normThen ?_)
  refine Tr.block ?_
  refine Tr.loop (σ := (List TRect) × Int × (Option Addr) × Nat) (fun m w s => F_etchhouseref1_told_L3 N p0 m s.1 s.2.1 = some r ∧ SlF s.2.2.1 (s.1).length s.2.2.2) (fun s => [(0, (.slice Ap0_0 (p0).length cp0_0)), (3, (.slice s.2.2.1 (s.1).length s.2.2.2)), (4, (.int .i64 s.2.1))]) (fun s => [(2, ow s.2.2.1 s.2.2.2 28 fl_TRect s.1)]) N (([] : List TRect), 0, none, 0) ⟨H, slf_nil⟩ (.cons rfl (.cons rfl (.cons rfl .nil))) (.cons rfl .nil) (fun _ _ h => noSome (h.1)) ?_
  intro w leF_etchhouseref1_told_L3 mF_etchhouseref1_told_L3 s hs
  obtain ⟨l206, x207, Al206, cl206⟩ := s
  obtain ⟨H, hl206⟩ := hs
  replace H : F_etchhouseref1_told_L3 N p0 (mF_etchhouseref1_told_L3 + 1) l206 x207 = some r := H
  replace hp0_0 := hp0_0.leR leF_etchhouseref1_told_L3
  replace leB := leB.trans leF_etchhouseref1_told_L3
  replace hl206 : SlF Al206 (l206).length cl206 := hl206
  rw [F_etchhouseref1_told_L3.eq_2] at H
  show Tr _ _ (LF [(0, (.slice Ap0_0 (p0).length cp0_0)), (3, (.slice Al206 (l206).length cl206)), (4, (.int .i64 x207))]) (LE [(2, ow Al206 cl206 28 fl_TRect l206)]) _
  refine Tr.seq ?_
  refine Tr.seq ?_
  refine Tr.region ?_
  refine Tr.val (wn rfl) rfl (fun _ _ h1 h2 => run_move (h1.ev rfl)) ?_
  refine Tr.val (wn rfl) rfl (fun _ _ h1 h2 => run_move (h1.ev rfl)) ?_
  refine Tr.val (wn rfl) rfl (fun _ _ h1 h2 => run_len un_107 (h1.ev rfl)) ?_
  refine Tr.val (wn rfl) rfl (fun _ _ h1 h2 => run_lss (h1.ev rfl) (h1.ev rfl)) ?_
  refine Tr.nil (Tr.normThen ?_)
  refine Tr.cond rfl H (fun H => ?_) (fun H => ?_)
  · refine Tr.skip (Tr.normThen ?_)
    refine Tr.seq ?_
    refine Tr.block ?_
    refine Tr.seq ?_
    refine Tr.region ?_
    refine Tr.val (wn rfl) rfl (fun _ _ h1 h2 => run_assign (h1.ev rfl)) ?_
    refine Tr.nil (Tr.normThen ?_)
    refine Tr.block ?_
    refine Tr.loop (σ := (List TRect) × Int × (Option Addr) × Nat) (fun m w s => F_etchhouseref1_told_L4 p0 x207 (F_etchhouseref1_told_L3 N p0 mF_etchhouseref1_told_L3) m s.1 s.2.1 = some r ∧ SlF s.2.2.1 (s.1).length s.2.2.2) (fun s => [(0, (.slice Ap0_0 (p0).length cp0_0)), (3, (.slice s.2.2.1 (s.1).length s.2.2.2)), (4, (.int .i64 x207)), (5, (.int .i64 s.2.1))]) (fun s => [(2, ow s.2.2.1 s.2.2.2 28 fl_TRect s.1)]) N (l206, 0, Al206, cl206) ⟨H, hl206⟩ (.cons rfl (.cons rfl (.cons rfl (.cons rfl .nil)))) (.cons rfl .nil) (fun _ _ h => noSome (h.1)) ?_
    intro w leF_etchhouseref1_told_L4 mF_etchhouseref1_told_L4 s hs
    obtain ⟨l242, x243, Al242, cl242⟩ := s
    obtain ⟨H, hl242⟩ := hs
    replace H : F_etchhouseref1_told_L4 p0 x207 (F_etchhouseref1_told_L3 N p0 mF_etchhouseref1_told_L3) (mF_etchhouseref1_told_L4 + 1) l242 x243 = some r := H
    replace hp0_0 := hp0_0.leR leF_etchhouseref1_told_L4
    replace leB := leB.trans leF_etchhouseref1_told_L4
    replace leF_etchhouseref1_told_L3 := leF_etchhouseref1_told_L3.trans leF_etchhouseref1_told_L4
    replace hl242 : SlF Al242 (l242).length cl242 := hl242
    rw [F_etchhouseref1_told_L4.eq_2] at H
    show Tr _ _ (LF [(0, (.slice Ap0_0 (p0).length cp0_0)), (3, (.slice Al242 (l242).length cl242)), (4, (.int .i64 x207)), (5, (.int .i64 x243))]) (LE [(2, ow Al242 cl242 28 fl_TRect l242)]) _
    refine Tr.seq ?_
    refine Tr.seq ?_
    refine Tr.region ?_
    refine Tr.val (wn rfl) rfl (fun _ _ h1 h2 => run_move (h1.ev rfl)) ?_
    refine Tr.val (wn rfl) rfl (fun _ _ h1 h2 => run_move (h1.ev rfl)) ?_
    refine Tr.val (wn rfl) rfl (fun _ _ h1 h2 => run_move (h1.ev rfl)) ?_
    obtain ⟨x244, hx244, H⟩ := bnd H
    obtain ⟨hx2440, hx2441, hx2442⟩ := idx_some hx244
    obtain ⟨u245, hRu245, hoku245, hcu245⟩ := (hp0_0).el hx2442
    obtain ⟨Au245_0, cu245_0⟩ := u245
    have hoku245_0 := hoku245
    replace hoku245_0 : Sl w.R w.W fl_TSpan Au245_0 cu245_0 x244.spans := hoku245_0
    refine Tr.val (wn rfl) rfl (fun _ _ h1 h2 => run_indexAddr el_107 (h1.ev rfl) hp0_0.form (h1.ev rfl) hx2440 hx2441) ?_
    refine Tr.val (wn rfl) rfl (fun _ _ h1 h2 => run_fieldAddr fo_112_2 (h1.ev rfl)) ?_
    refine Tr.val (wn rfl) rfl (fun _ _ h1 h2 => run_load1 ag_109 (h1.ev rfl) (CellsAt.drop (rdR hRu245 hcu245 h2) 2) rfl) ?_
    refine Tr.val (wn rfl) rfl (fun _ _ h1 h2 => run_len un_109 (h1.ev rfl)) ?_
    refine Tr.val (wn rfl) rfl (fun _ _ h1 h2 => run_lss (h1.ev rfl) (h1.ev rfl)) ?_
    refine Tr.nil (Tr.normThen ?_)
    refine Tr.cond rfl H (fun H => ?_) (fun H => ?_)
    · refine Tr.skip (Tr.normThen ?_)
      refine Tr.seq ?_
      refine Tr.block ?_
      obtain ⟨x247, hx247, H⟩ := bnd H
      obtain ⟨hx2470, hx2471, hx2472⟩ := idx_some hx247
      obtain ⟨u248, hRu248, hoku248, hcu248⟩ := (hp0_0).el hx2472
      obtain ⟨Au248_0, cu248_0⟩ := u248
      obtain ⟨x249, hx249, H⟩ := bnd H
      obtain ⟨hx2490, hx2491, hx2492⟩ := idx_some hx249
      obtain ⟨x250, hx250, H⟩ := bnd H
      obtain ⟨hx2500, hx2501, hx2502⟩ := idx_some hx250
      obtain ⟨u251, hRu251, hoku251, hcu251⟩ := (hp0_0).el hx2502
      obtain ⟨Au251_0, cu251_0⟩ := u251
      obtain ⟨x252, hx252, H⟩ := bnd H
      obtain ⟨hx2520, hx2521, hx2522⟩ := idx_some hx252
      obtain ⟨u253, hRu253, hoku253, hcu253⟩ := (hp0_0).el hx2522
      obtain ⟨Au253_0, cu253_0⟩ := u253
      obtain ⟨x254, hx254, H⟩ := bnd H
      obtain ⟨hx2540, hx2541, hx2542⟩ := idx_some hx254
      obtain ⟨x255, hx255, H⟩ := bnd H
      obtain ⟨hx2550, hx2551, hx2552⟩ := idx_some hx255
      obtain ⟨u256, hRu256, hoku256, hcu256⟩ := (hp0_0).el hx2552
      obtain ⟨Au256_0, cu256_0⟩ := u256
      refine Tr.drawF 31 [(30, .makeFunc (.func 0) #[] #[.tmp 51])] [(30, ⟨52, 11, (.func (.func 0) #[] #[(.agg #[(.int .i64 x249.from_), (.int .i64 x250.from_), (.int .i64 x254.to_), (.int .i64 x255.to_)])]), fun b => .slice (some ⟨b, 0, none⟩) 1 1, fun b => bx b #[(.int .i64 x249.from_), (.int .i64 x250.from_), (.int .i64 x254.to_), (.int .i64 x255.to_)] 28⟩)] [(0, (.slice Ap0_0 (p0).length cp0_0)), (3, (.slice Al242 (l242).length cl242)), (4, (.int .i64 x207)), (5, (.int .i64 x243)), (12, (.int .i64 x243)), (13, (.slice Ap0_0 (p0).length cp0_0)), (14, (.int .i64 x207)), (15, (.pointer (some ⟨adB Ap0_0, adO Ap0_0 + (x207).toNat * 3, none⟩))), (16, (.pointer (some ⟨adB Ap0_0, adO Ap0_0 + (x207).toNat * 3 + 2, none⟩))), (17, (.slice Au245_0 (x244.spans).length cu245_0)), (18, (.int .i64 (x244.spans.length : Int))), (19, (.bool (decide (x243 < (x244.spans.length : Int))))), (22, (.slice Al242 (l242).length cl242)), (23, (.slice Ap0_0 (p0).length cp0_0)), (24, (.int .i64 x207)), (25, (.pointer (some ⟨adB Ap0_0, adO Ap0_0 + (x207).toNat * 3, none⟩))), (26, (.pointer (some ⟨adB Ap0_0, adO Ap0_0 + (x207).toNat * 3 + 2, none⟩))), (27, (.slice Au248_0 (x247.spans).length cu248_0)), (28, (.int .i64 x243)), (29, (.pointer (some ⟨adB Au248_0, adO Au248_0 + (x243).toNat * 2, none⟩))), (30, (.pointer (some ⟨adB Au248_0, adO Au248_0 + (x243).toNat * 2 + 0, none⟩))), (31, (.int .i64 x249.from_)), (32, (.slice Ap0_0 (p0).length cp0_0)), (33, (.int .i64 x207)), (34, (.pointer (some ⟨adB Ap0_0, adO Ap0_0 + (x207).toNat * 3, none⟩))), (35, (.pointer (some ⟨adB Ap0_0, adO Ap0_0 + (x207).toNat * 3 + 0, none⟩))), (36, (.int .i64 x250.from_)), (37, (.slice Ap0_0 (p0).length cp0_0)), (38, (.int .i64 x207)), (39, (.pointer (some ⟨adB Ap0_0, adO Ap0_0 + (x207).toNat * 3, none⟩))), (40, (.pointer (some ⟨adB Ap0_0, adO Ap0_0 + (x207).toNat * 3 + 2, none⟩))), (41, (.slice Au253_0 (x252.spans).length cu253_0)), (42, (.int .i64 x243)), (43, (.pointer (some ⟨adB Au253_0, adO Au253_0 + (x243).toNat * 2, none⟩))), (44, (.pointer (some ⟨adB Au253_0, adO Au253_0 + (x243).toNat * 2 + 1, none⟩))), (45, (.int .i64 x254.to_)), (46, (.slice Ap0_0 (p0).length cp0_0)), (47, (.int .i64 x207)), (48, (.pointer (some ⟨adB Ap0_0, adO Ap0_0 + (x207).toNat * 3, none⟩))), (49, (.pointer (some ⟨adB Ap0_0, adO Ap0_0 + (x207).toNat * 3 + 1, none⟩))), (50, (.int .i64 x255.to_)), (51, (.agg #[(.int .i64 x249.from_), (.int .i64 x250.from_), (.int .i64 x254.to_), (.int .i64 x255.to_)])), (52, (.func (.func 0) #[] #[(.agg #[(.int .i64 x249.from_), (.int .i64 x250.from_), (.int .i64 x254.to_), (.int .i64 x255.to_)])]))] (by kernel_rfl) (by kernel_rfl) (by kernel_rfl) (by kernel_rfl) (by kernel_rfl) (by kernel_rfl) (by kernel_rfl) (fall_cons (fr_lit (vs := [(0, (.agg #[(.int .i64 x249.from_), (.int .i64 x250.from_), (.int .i64 x254.to_), (.int .i64 x255.to_)]))]) rfl rfl rfl (by kernel_rfl)) fall_nil) (fall_cons rfl fall_nil) (fall_cons rfl fall_nil) ?_ ?_
      · refine Tq.val (wn rfl) rfl (fun _ _ h1 h2 => run_move (h1.ev rfl)) ?_
        refine Tq.val (wn rfl) rfl (fun _ _ h1 h2 => run_move (h1.ev rfl)) ?_
        refine Tq.val (wn rfl) rfl (fun _ _ h1 h2 => run_move (h1.ev rfl)) ?_
        have hoku248_0 := hoku248
        replace hoku248_0 : Sl w.R w.W fl_TSpan Au248_0 cu248_0 x247.spans := hoku248_0
        refine Tq.val (wn rfl) rfl (fun _ _ h1 h2 => run_indexAddr el_107 (h1.ev rfl) hp0_0.form (h1.ev rfl) hx2470 hx2471) ?_
        refine Tq.val (wn rfl) rfl (fun _ _ h1 h2 => run_fieldAddr fo_112_2 (h1.ev rfl)) ?_
        refine Tq.val (wn rfl) rfl (fun _ _ h1 h2 => run_load1 ag_109 (h1.ev rfl) (CellsAt.drop (rdR hRu248 hcu248 h2) 2) rfl) ?_
        refine Tq.val (wn rfl) rfl (fun _ _ h1 h2 => run_move (h1.ev rfl)) ?_
        refine Tq.val (wn rfl) rfl (fun _ _ h1 h2 => run_indexAddr el_109 (h1.ev rfl) hoku248_0.form (h1.ev rfl) hx2490 hx2491) ?_
        refine Tq.val (wn rfl) rfl (fun _ _ h1 h2 => run_fieldAddr fo_140_0 (h1.ev rfl)) ?_
        refine Tq.val (wn rfl) rfl (fun _ _ h1 h2 => run_load1 ag_3 (h1.ev rfl) (CellsAt.drop (rdF ef_TSpan hoku248_0 hx2492 h2) 0) rfl) ?_
        refine Tq.val (wn rfl) rfl (fun _ _ h1 h2 => run_move (h1.ev rfl)) ?_
        refine Tq.val (wn rfl) rfl (fun _ _ h1 h2 => run_move (h1.ev rfl)) ?_
        have hoku251_0 := hoku251
        replace hoku251_0 : Sl w.R w.W fl_TSpan Au251_0 cu251_0 x250.spans := hoku251_0
        refine Tq.val (wn rfl) rfl (fun _ _ h1 h2 => run_indexAddr el_107 (h1.ev rfl) hp0_0.form (h1.ev rfl) hx2500 hx2501) ?_
        refine Tq.val (wn rfl) rfl (fun _ _ h1 h2 => run_fieldAddr fo_112_0 (h1.ev rfl)) ?_
        refine Tq.val (wn rfl) rfl (fun _ _ h1 h2 => run_load1 ag_3 (h1.ev rfl) (CellsAt.drop (rdR hRu251 hcu251 h2) 0) rfl) ?_
        refine Tq.val (wn rfl) rfl (fun _ _ h1 h2 => run_move (h1.ev rfl)) ?_
        refine Tq.val (wn rfl) rfl (fun _ _ h1 h2 => run_move (h1.ev rfl)) ?_
        have hoku253_0 := hoku253
        replace hoku253_0 : Sl w.R w.W fl_TSpan Au253_0 cu253_0 x252.spans := hoku253_0
        refine Tq.val (wn rfl) rfl (fun _ _ h1 h2 => run_indexAddr el_107 (h1.ev rfl) hp0_0.form (h1.ev rfl) hx2520 hx2521) ?_
        refine Tq.val (wn rfl) rfl (fun _ _ h1 h2 => run_fieldAddr fo_112_2 (h1.ev rfl)) ?_
        refine Tq.val (wn rfl) rfl (fun _ _ h1 h2 => run_load1 ag_109 (h1.ev rfl) (CellsAt.drop (rdR hRu253 hcu253 h2) 2) rfl) ?_
        refine Tq.val (wn rfl) rfl (fun _ _ h1 h2 => run_move (h1.ev rfl)) ?_
        refine Tq.val (wn rfl) rfl (fun _ _ h1 h2 => run_indexAddr el_109 (h1.ev rfl) hoku253_0.form (h1.ev rfl) hx2540 hx2541) ?_
        refine Tq.val (wn rfl) rfl (fun _ _ h1 h2 => run_fieldAddr fo_140_1 (h1.ev rfl)) ?_
        refine Tq.val (wn rfl) rfl (fun _ _ h1 h2 => run_load1 ag_3 (h1.ev rfl) (CellsAt.drop (rdF ef_TSpan hoku253_0 hx2542 h2) 1) rfl) ?_
        refine Tq.val (wn rfl) rfl (fun _ _ h1 h2 => run_move (h1.ev rfl)) ?_
        refine Tq.val (wn rfl) rfl (fun _ _ h1 h2 => run_move (h1.ev rfl)) ?_
        have hoku256_0 := hoku256
        replace hoku256_0 : Sl w.R w.W fl_TSpan Au256_0 cu256_0 x255.spans := hoku256_0
        refine Tq.val (wn rfl) rfl (fun _ _ h1 h2 => run_indexAddr el_107 (h1.ev rfl) hp0_0.form (h1.ev rfl) hx2550 hx2551) ?_
        refine Tq.val (wn rfl) rfl (fun _ _ h1 h2 => run_fieldAddr fo_112_1 (h1.ev rfl)) ?_
        refine Tq.val (wn rfl) rfl (fun _ _ h1 h2 => run_load1 ag_3 (h1.ev rfl) (CellsAt.drop (rdR hRu256 hcu256 h2) 1) rfl) ?_
        refine Tq.build (vs := [(0, (.int .i64 x249.from_)), (1, (.int .i64 x250.from_)), (2, (.int .i64 x254.to_)), (3, (.int .i64 x255.to_))]) (cs := [(.int .i64 x249.from_), (.int .i64 x250.from_), (.int .i64 x254.to_), (.int .i64 x255.to_)]) (wn rfl) rfl (evs_cons rfl (evs_cons rfl (evs_cons rfl (evs_cons rfl evs_nil)))) (by kernel_rfl) ?_
        refine Tq.mkFunc (vs := [(.agg #[(.int .i64 x249.from_), (.int .i64 x250.from_), (.int .i64 x254.to_), (.int .i64 x255.to_)])]) (wn rfl) rfl (evl_cons rfl evl_nil) ?_
        exact Tq.fin (.cons rfl (.cons rfl (.cons rfl (.cons rfl (.cons rfl (.cons rfl (.cons rfl (.cons rfl (.cons rfl (.cons rfl (.cons rfl (.cons rfl (.cons rfl (.cons rfl (.cons rfl (.cons rfl (.cons rfl (.cons rfl (.cons rfl (.cons rfl (.cons rfl (.cons rfl (.cons rfl (.cons rfl (.cons rfl (.cons rfl (.cons rfl (.cons rfl (.cons rfl (.cons rfl (.cons rfl (.cons rfl (.cons rfl (.cons rfl (.cons rfl (.cons rfl (.cons rfl (.cons rfl (.cons rfl (.cons rfl (.cons rfl (.cons rfl (.cons rfl .nil)))))))))))))))))))))))))))))))))))))))))))
      · intro bs246
        refine Tr.sel (lf := [(0, (.slice Ap0_0 (p0).length cp0_0)), (4, (.int .i64 x207)), (5, (.int .i64 x243)), (22, (.slice Al242 (l242).length cl242)), (52, (.slice (some ⟨(bs246 30), 0, none⟩) 1 1))]) (le := [(2, ow Al242 cl242 28 fl_TRect l242), (11, bx (bs246 30) #[(.int .i64 x249.from_), (.int .i64 x250.from_), (.int .i64 x254.to_), (.int .i64 x255.to_)] 28)]) (.cons rfl (.cons rfl (.cons rfl (.cons rfl (.cons rfl .nil))))) (.cons rfl (.cons rfl .nil)) ?_
        obtain ⟨l257, hl257, H⟩ := bnd H
        refine Tr.append 2 (t := fl_TRect) (l := l242) (l2 := [(TRect.mk x249.from_ x250.from_ x254.to_ x255.to_)]) (wn rfl) rfl rfl rfl rfl (fun W hW => ⟨[[(.int .i64 x249.from_), (.int .i64 x250.from_), (.int .i64 x254.to_), (.int .i64 x255.to_)]], (.cons ⟨(), trivial, rfl⟩ .nil), rdb hW (vs := [(.int .i64 x249.from_), (.int .i64 x250.from_), (.int .i64 x254.to_), (.int .i64 x255.to_)]) (k := 11) rfl 0⟩) un_22 sz_28 zl_28 (by decide) by_28 rfl hl257 fun Al257 cl257 hAl257 => ?_
        refine Tr.val (wn rfl) rfl (fun _ _ h1 h2 => run_assign (h1.ev rfl)) ?_
        refine Tr.nil (Tr.normBlock (Tr.normThen ?_))
        refine Tr.region ?_
        refine Tr.val (wn rfl) rfl (fun _ _ h1 h2 => run_move (h1.ev rfl)) ?_
        refine Tr.val (wn rfl) rfl (fun _ _ h1 h2 => run_add (h1.ev rfl) (h1.ev rfl)) ?_
        refine Tr.val (wn rfl) rfl (fun _ _ h1 h2 => run_assign (h1.ev rfl)) ?_
        refine Tr.nil ?_
        exact Tr.backThen leF_etchhouseref1_told_L4 (l257, (w64 (x243 + 1)), Al257, cl257) ⟨H, hAl257⟩ (.cons rfl (.cons rfl (.cons rfl (.cons rfl .nil)))) (.cons rfl .nil)
    · refine Tr.exit (Tr.exitThen (Tr.exitThen (Tr.exitBlock (Tr.normBlock (Tr.normThen ?_)))))
      refine Tr.region ?_
      refine Tr.val (wn rfl) rfl (fun _ _ h1 h2 => run_move (h1.ev rfl)) ?_
      refine Tr.val (wn rfl) rfl (fun _ _ h1 h2 => run_add (h1.ev rfl) (h1.ev rfl)) ?_
      refine Tr.val (wn rfl) rfl (fun _ _ h1 h2 => run_assign (h1.ev rfl)) ?_
      refine Tr.nil ?_
      exact Tr.backThen leF_etchhouseref1_told_L3 (l242, (w64 (x207 + 1)), Al242, cl242) ⟨H, hl242⟩ (.cons rfl (.cons rfl (.cons rfl .nil))) (.cons rfl .nil)
  · refine Tr.exit (Tr.exitThen (Tr.exitThen (Tr.exitBlock (Tr.normThen ?_))))
    refine Tr.seq ?_
    refine Tr.region ?_
    refine Tr.val (wn rfl) rfl (fun _ _ h1 h2 => run_move (h1.ev rfl)) ?_
    refine Tr.val (wn rfl) rfl (fun _ _ h1 h2 => run_assign (h1.ev rfl)) ?_
    refine Tr.nil (Tr.normThen ?_)
    refine Tr.ret ?_
    obtain rfl := Option.some.inj H
    exact Tr.out (m := [(.slice Al206 (l206).length cl206)]) [] (res_tmp rfl res_nil) (fun W hW => ⟨(Al206, cl206), rfl, hl206, HF.lowE leB (hW.pick (ks := [2]) (by decide) (pk_cons rfl pk_nil)) ⟨ow_any _ _ _ _ tr_TRect, trivial⟩⟩)

theorem F_etchhouseref1_Canonical_ok (N : Nat) {w : Bs} (p0 : (List TRect)) (Ap0_0 : Option Addr) (cp0_0 : Nat) (hp0_0 : Sl w.R w.W fl_TRect Ap0_0 cp0_0 p0) (r : (List TRect)) (H : F_etchhouseref1_Canonical N p0 = some r) (hE : HF w w.W (LEn [emp])) : Calls Tryz.prog 50 [(.slice Ap0_0 (p0).length cp0_0)].toArray w.W fun e W' => ∃ u : (Option Addr × Nat), e = .returned (.slice u.1 (r).length u.2) ∧ (SlF u.1 (r).length u.2) ∧ HF w W' (LEn [ow u.1 u.2 28 fl_TRect r]) := by
  unfold F_etchhouseref1_Canonical at H
  have leB := Bs.Le.refl w
  refine Tr.enter (n := 35) Tryz.func50 rfl rfl rfl hE ?_
  refine Tr.seq ?_
  refine Tr.region ?_
  refine Tr.val (wn rfl) rfl (fun _ _ h1 h2 => run_assign (h1.ev rfl)) ?_
  refine Tr.nilOwn 1 28 fl_TRect ?_
  show Tr _ _ (uf _ 2 (.slice none (([] : List TRect)).length 0)) _ _
  refine Tr.nil (Tr.normThen ?_)
  refine Tr.seq ?_
  refine Tr.region ?_
  refine Tr.val (wn rfl) rfl (fun _ _ h1 h2 => run_move (h1.ev rfl)) ?_
  obtain ⟨y100, hy100, H⟩ := bnd H
  refine Tr.callG [] [] (U := (Option Addr × Nat)) (fun u => (.slice u.1 (y100).length u.2)) (fun O W u => Sl O W fl_i64 u.1 u.2 y100) (fun u => []) rfl pk_nil (fun _ => rfl) (wn rfl) rfl Tryz.call93 (evl_cons rfl evl_nil) (fun W hW hp hE => F_etchhouseref1_heights_ok N p0 Ap0_0 cp0_0 (hp0_0.ext (hW.extS hp)) y100 hy100 hE) ?_
  intro w u le101 hu
  obtain ⟨Ay100_0, cy100_0⟩ := u
  have gy100_0 := hu
  replace hp0_0 := hp0_0.leR le101
  replace leB := leB.trans le101
  have hgy100_0 : Sl w.O w.W fl_i64 Ay100_0 cy100_0 y100 := gy100_0 --@phi
  show Tr _ _ (uf _ 7 (.slice Ay100_0 (y100).length cy100_0)) (_) _
  refine Tr.val (wn rfl) rfl (fun _ _ h1 h2 => run_assign (h1.ev rfl)) ?_
  refine Tr.nil (Tr.normThen ?_)
  refine Tr.seq ?_
  refine Tr.region ?_
  refine Tr.val (wn rfl) rfl (fun _ _ h1 h2 => run_assign (h1.ev rfl)) ?_
  refine Tr.nilOwn 2 112 fl_Tetchhouseref1Band ?_
  show Tr _ _ (uf _ 4 (.slice none (([] : List Tetchhouseref1Band)).length 0)) _ _
  refine Tr.nil (Tr.normThen ?_)
  refine Tr.seq ?_
  refine Tr.seq ?_
  refine Tr.region ?_
  refine Tr.val (wn rfl) rfl (fun _ _ h1 h2 => run_assign (h1.ev rfl)) ?_
  refine Tr.nil (Tr.normThen ?_)
  refine Tr.block ?_
  refine Tr.loop (σ := (List Tetchhouseref1Band) × Int × (Option Addr) × Nat) (fun m w s => F_etchhouseref1_Canonical_L1 N p0 y100 m s.1 s.2.1 = some r ∧ SlF s.2.2.1 (s.1).length s.2.2.2) (fun s => [(0, (.slice Ap0_0 (p0).length cp0_0)), (3, (.slice Ay100_0 (y100).length cy100_0)), (4, (.slice s.2.2.1 (s.1).length s.2.2.2)), (5, (.int .i64 s.2.1))]) (fun s => [(2, ow s.2.2.1 s.2.2.2 112 fl_Tetchhouseref1Band s.1)]) N (([] : List Tetchhouseref1Band), 1, none, 0) ⟨H, slf_nil⟩ (.cons rfl (.cons rfl (.cons rfl (.cons rfl .nil)))) (.cons rfl .nil) (fun _ _ h => noSome (h.1)) ?_
  intro w leF_etchhouseref1_Canonical_L1 mF_etchhouseref1_Canonical_L1 s hs
  obtain ⟨l128, x129, Al128, cl128⟩ := s
  obtain ⟨H, hl128⟩ := hs
  replace H : F_etchhouseref1_Canonical_L1 N p0 y100 (mF_etchhouseref1_Canonical_L1 + 1) l128 x129 = some r := H
  replace hp0_0 := hp0_0.leR leF_etchhouseref1_Canonical_L1
  replace hgy100_0 := hgy100_0.le leF_etchhouseref1_Canonical_L1
  replace leB := leB.trans leF_etchhouseref1_Canonical_L1
  replace hl128 : SlF Al128 (l128).length cl128 := hl128
  rw [F_etchhouseref1_Canonical_L1.eq_2] at H
  show Tr _ _ (LF [(0, (.slice Ap0_0 (p0).length cp0_0)), (3, (.slice Ay100_0 (y100).length cy100_0)), (4, (.slice Al128 (l128).length cl128)), (5, (.int .i64 x129))]) (LE [(2, ow Al128 cl128 112 fl_Tetchhouseref1Band l128)]) _
  refine Tr.seq ?_
  refine Tr.seq ?_
  refine Tr.region ?_
  refine Tr.val (wn rfl) rfl (fun _ _ h1 h2 => run_move (h1.ev rfl)) ?_
  refine Tr.val (wn rfl) rfl (fun _ _ h1 h2 => run_move (h1.ev rfl)) ?_
  refine Tr.val (wn rfl) rfl (fun _ _ h1 h2 => run_len un_75 (h1.ev rfl)) ?_
  refine Tr.val (wn rfl) rfl (fun _ _ h1 h2 => run_lss (h1.ev rfl) (h1.ev rfl)) ?_
  refine Tr.nil (Tr.normThen ?_)
  refine Tr.cond rfl H (fun H => ?_) (fun H => ?_)
  · refine Tr.skip (Tr.normThen ?_)
    refine Tr.seq ?_
    refine Tr.block ?_
    refine Tr.drawC 18 [] [] (by kernel_rfl) (by kernel_rfl) fun sz130 hlosz130 hEsz130 => ?_
    refine Dr.quiet 0 [(14, (.slice Al128 (l128).length cl128))] (by kernel_rfl) rfl rfl (by kernel_rfl) ?_ rfl rfl ?_
    · refine Tq.val (wn rfl) rfl (fun _ _ h1 h2 => run_move (h1.ev rfl)) ?_
      exact Tq.fin (.cons rfl .nil)
    refine Dr.quiet 1 [(15, (.slice Ay100_0 (y100).length cy100_0))] (by kernel_rfl) rfl rfl (by kernel_rfl) ?_ rfl rfl ?_
    · refine Tq.val (wn rfl) rfl (fun _ _ h1 h2 => run_move (h1.ev rfl)) ?_
      exact Tq.fin (.cons rfl .nil)
    refine Dr.quiet 2 [(16, (.int .i64 x129))] (by kernel_rfl) rfl rfl (by kernel_rfl) ?_ rfl rfl ?_
    · refine Tq.val (wn rfl) rfl (fun _ _ h1 h2 => run_move (h1.ev rfl)) ?_
      exact Tq.fin (.cons rfl .nil)
    refine Dr.quiet 3 [(17, (.int .i64 (w64 (x129 - 1))))] (by kernel_rfl) rfl rfl (by kernel_rfl) ?_ rfl rfl ?_
    · refine Tq.val (wn rfl) rfl (fun _ _ h1 h2 => run_sub (h1.ev rfl) (h1.ev rfl)) ?_
      exact Tq.fin (.cons rfl .nil)
    obtain ⟨x131, hx131, H⟩ := bnd H
    obtain ⟨hx1310, hx1311, hx1312⟩ := idx_some hx131
    refine Dr.quiet 4 [(18, (.pointer (some ⟨adB Ay100_0, adO Ay100_0 + ((w64 (x129 - 1))).toNat * 1, none⟩)))] (by kernel_rfl) rfl rfl (by kernel_rfl) ?_ rfl rfl ?_
    · refine Tq.val (wn rfl) rfl (fun _ _ h1 h2 => run_indexAddr el_75 (h1.ev rfl) hgy100_0.form (h1.ev rfl) hx1310 hx1311) ?_
      exact Tq.fin (.cons rfl .nil)
    refine Dr.quiet 5 [(19, (.int .i64 x131))] (by kernel_rfl) rfl rfl (by kernel_rfl) ?_ rfl rfl ?_
    · refine Tq.val (wn rfl) rfl (fun _ _ h1 h2 => run_load1 ag_3 (h1.ev rfl) (rdF ef_i64 (hgy100_0.rl) hx1312 h2) rfl) ?_
      exact Tq.fin (.cons rfl .nil)
    refine Dr.quiet 6 [(20, (.slice Ay100_0 (y100).length cy100_0))] (by kernel_rfl) rfl rfl (by kernel_rfl) ?_ rfl rfl ?_
    · refine Tq.val (wn rfl) rfl (fun _ _ h1 h2 => run_move (h1.ev rfl)) ?_
      exact Tq.fin (.cons rfl .nil)
    refine Dr.quiet 7 [(21, (.int .i64 x129))] (by kernel_rfl) rfl rfl (by kernel_rfl) ?_ rfl rfl ?_
    · refine Tq.val (wn rfl) rfl (fun _ _ h1 h2 => run_move (h1.ev rfl)) ?_
      exact Tq.fin (.cons rfl .nil)
    obtain ⟨x132, hx132, H⟩ := bnd H
    obtain ⟨hx1320, hx1321, hx1322⟩ := idx_some hx132
    refine Dr.quiet 8 [(22, (.pointer (some ⟨adB Ay100_0, adO Ay100_0 + (x129).toNat * 1, none⟩)))] (by kernel_rfl) rfl rfl (by kernel_rfl) ?_ rfl rfl ?_
    · refine Tq.val (wn rfl) rfl (fun _ _ h1 h2 => run_indexAddr el_75 (h1.ev rfl) hgy100_0.form (h1.ev rfl) hx1320 hx1321) ?_
      exact Tq.fin (.cons rfl .nil)
    refine Dr.quiet 9 [(23, (.int .i64 x132))] (by kernel_rfl) rfl rfl (by kernel_rfl) ?_ rfl rfl ?_
    · refine Tq.val (wn rfl) rfl (fun _ _ h1 h2 => run_load1 ag_3 (h1.ev rfl) (rdF ef_i64 (hgy100_0.rl) hx1322 h2) rfl) ?_
      exact Tq.fin (.cons rfl .nil)
    refine Dr.quiet 10 [(24, (.slice Ap0_0 (p0).length cp0_0))] (by kernel_rfl) rfl rfl (by kernel_rfl) ?_ rfl rfl ?_
    · refine Tq.val (wn rfl) rfl (fun _ _ h1 h2 => run_move (h1.ev rfl)) ?_
      exact Tq.fin (.cons rfl .nil)
    refine Dr.quiet 11 [(25, (.slice Ay100_0 (y100).length cy100_0))] (by kernel_rfl) rfl rfl (by kernel_rfl) ?_ rfl rfl ?_
    · refine Tq.val (wn rfl) rfl (fun _ _ h1 h2 => run_move (h1.ev rfl)) ?_
      exact Tq.fin (.cons rfl .nil)
    refine Dr.quiet 12 [(26, (.int .i64 x129))] (by kernel_rfl) rfl rfl (by kernel_rfl) ?_ rfl rfl ?_
    · refine Tq.val (wn rfl) rfl (fun _ _ h1 h2 => run_move (h1.ev rfl)) ?_
      exact Tq.fin (.cons rfl .nil)
    refine Dr.quiet 13 [(27, (.int .i64 (w64 (x129 - 1))))] (by kernel_rfl) rfl rfl (by kernel_rfl) ?_ rfl rfl ?_
    · refine Tq.val (wn rfl) rfl (fun _ _ h1 h2 => run_sub (h1.ev rfl) (h1.ev rfl)) ?_
      exact Tq.fin (.cons rfl .nil)
    obtain ⟨x133, hx133, H⟩ := bnd H
    obtain ⟨hx1330, hx1331, hx1332⟩ := idx_some hx133
    refine Dr.quiet 14 [(28, (.pointer (some ⟨adB Ay100_0, adO Ay100_0 + ((w64 (x129 - 1))).toNat * 1, none⟩)))] (by kernel_rfl) rfl rfl (by kernel_rfl) ?_ rfl rfl ?_
    · refine Tq.val (wn rfl) rfl (fun _ _ h1 h2 => run_indexAddr el_75 (h1.ev rfl) hgy100_0.form (h1.ev rfl) hx1330 hx1331) ?_
      exact Tq.fin (.cons rfl .nil)
    refine Dr.quiet 15 [(29, (.int .i64 x133))] (by kernel_rfl) rfl rfl (by kernel_rfl) ?_ rfl rfl ?_
    · refine Tq.val (wn rfl) rfl (fun _ _ h1 h2 => run_load1 ag_3 (h1.ev rfl) (rdF ef_i64 (hgy100_0.rl) hx1332 h2) rfl) ?_
      exact Tq.fin (.cons rfl .nil)
    obtain ⟨y134, hy134, H⟩ := bnd H
    refine Dr.one 16 (by kernel_rfl) ?_
    refine St.callM 16 [5] [emp] (U := (Option Addr × Nat)) (fun u => (.slice u.1 (y134).length u.2)) (fun u => SlF u.1 (y134).length u.2) (fun u => [ow u.1 u.2 140 fl_TSpan y134]) rfl (pk_cons rfl pk_nil) (fun _ => rfl) (insS_no rfl) rfl (wn rfl) rfl Tryz.call94 (evl_cons rfl (evl_cons rfl evl_nil)) (fun W hW hp hE => F_etchhouseref1_row_ok N p0 Ap0_0 cp0_0 (hp0_0.ext (hW.extS hp)) x133 y134 hy134 hE) ?_
    intro u hu hsy134
    obtain ⟨Ay134_0, cy134_0⟩ := u
    have gy134_0 := hu
    have hgy134_0 : SlF Ay134_0 (y134).length cy134_0 := gy134_0
    show Dr _ _ _ _ _ _ _ _ _ (uf _ 30 (.slice Ay134_0 (y134).length cy134_0)) (up _ 5 (ow Ay134_0 cy134_0 140 fl_TSpan y134))
    refine Dr.quiet 17 [(31, (.agg #[(.int .i64 x131), (.int .i64 x132), (.slice Ay134_0 (y134).length cy134_0)]))] (by kernel_rfl) rfl rfl (by kernel_rfl) ?_ rfl rfl ?_
    · refine Tq.build (vs := [(0, (.int .i64 x131)), (1, (.int .i64 x132)), (2, (.slice Ay134_0 (y134).length cy134_0))]) (cs := [(.int .i64 x131), (.int .i64 x132), (.slice Ay134_0 (y134).length cy134_0)]) (wn rfl) rfl (evs_cons rfl (evs_cons rfl (evs_cons rfl evs_nil))) (by kernel_rfl) ?_
      exact Tq.fin (.cons rfl .nil)
    refine Dr.tail (by kernel_rfl) ?_
    refine Tr.freeze 5 rfl fun w le137 hz136 => ?_
    replace hp0_0 := hp0_0.leR le137
    replace hgy100_0 := hgy100_0.le le137
    replace leB := leB.trans le137
    replace leF_etchhouseref1_Canonical_L1 := leF_etchhouseref1_Canonical_L1.trans le137
    obtain ⟨y138, hy138, H⟩ := bnd H
    refine Tr.callG [2] [ow Al128 cl128 112 fl_Tetchhouseref1Band l128] (U := (Option Addr × Nat)) (fun u => (.slice u.1 (y138).length u.2)) (fun O W u => SlF u.1 (y138).length u.2) (fun u => [ow u.1 u.2 112 fl_Tetchhouseref1Band y138]) rfl (pk_cons rfl pk_nil) (fun _ => rfl) (wn rfl) rfl Tryz.call87 (evl_cons rfl (evl_cons rfl evl_nil)) (fun W hW hp hE => F_etchhouseref1_stacked_ok N l128 Al128 cl128 (Tetchhouseref1Band.mk x131 x132 y134) Ay134_0 cy134_0 (hz136.extO (hW.extS hp)) y138 hy138 hE) ?_
    intro w u le139 hu
    obtain ⟨Ay138_0, cy138_0⟩ := u
    have gy138_0 := hu
    replace hp0_0 := hp0_0.leR le139
    replace hgy100_0 := hgy100_0.le le139
    replace hz136 := hz136.le le139
    replace leB := leB.trans le139
    replace leF_etchhouseref1_Canonical_L1 := leF_etchhouseref1_Canonical_L1.trans le139
    have hgy138_0 : SlF Ay138_0 (y138).length cy138_0 := gy138_0 --@phi
    show Tr _ _ (uf _ 32 (.slice Ay138_0 (y138).length cy138_0)) (up _ 2 (ow Ay138_0 cy138_0 112 fl_Tetchhouseref1Band y138)) _
    refine Tr.val (wn rfl) rfl (fun _ _ h1 h2 => run_assign (h1.ev rfl)) ?_
    refine Tr.nil (Tr.normBlock (Tr.normThen ?_))
    refine Tr.region ?_
    refine Tr.val (wn rfl) rfl (fun _ _ h1 h2 => run_move (h1.ev rfl)) ?_
    refine Tr.val (wn rfl) rfl (fun _ _ h1 h2 => run_add (h1.ev rfl) (h1.ev rfl)) ?_
    refine Tr.val (wn rfl) rfl (fun _ _ h1 h2 => run_assign (h1.ev rfl)) ?_
    refine Tr.nil ?_
    exact Tr.backThen leF_etchhouseref1_Canonical_L1 (y138, (w64 (x129 + 1)), Ay138_0, cy138_0) ⟨H, hgy138_0⟩ (.cons rfl (.cons rfl (.cons rfl (.cons rfl .nil)))) (.cons rfl .nil)
  · refine Tr.exit (Tr.exitThen (Tr.exitThen (Tr.exitBlock (Tr.normThen ?_))))
    refine Tr.seq ?_
    refine Tr.region ?_
    refine Tr.val (wn rfl) rfl (fun _ _ h1 h2 => run_move (h1.ev rfl)) ?_
    obtain ⟨y140, hy140, H⟩ := bnd H
    refine Tr.callM [6] [emp] (U := (Option Addr × Nat)) (fun u => (.slice u.1 (y140).length u.2)) (fun u => SlF u.1 (y140).length u.2) (fun u => [ow u.1 u.2 28 fl_TRect y140]) rfl (pk_cons rfl pk_nil) (fun _ => rfl) (wn rfl) rfl Tryz.call89 (evl_cons rfl evl_nil) (fun W hW hp hE => F_etchhouseref1_told_ok N l128 Al128 cl128 (hW.slS (k := 2) rfl hp rfl) y140 hy140 hE) ?_
    intro u hu
    obtain ⟨Ay140_0, cy140_0⟩ := u
    have gy140_0 := hu
    have hgy140_0 : SlF Ay140_0 (y140).length cy140_0 := gy140_0 --@phi
    show Tr _ _ (uf _ 34 (.slice Ay140_0 (y140).length cy140_0)) (up _ 6 (ow Ay140_0 cy140_0 28 fl_TRect y140)) _
    refine Tr.val (wn rfl) rfl (fun _ _ h1 h2 => run_assign (h1.ev rfl)) ?_
    refine Tr.nil (Tr.normThen ?_)
    refine Tr.ret ?_
    obtain rfl := Option.some.inj H
    exact Tr.out (m := [(.slice Ay140_0 (y140).length cy140_0)]) [] (res_tmp rfl res_nil) (fun W hW => ⟨(Ay140_0, cy140_0), rfl, hgy140_0, HF.lowE leB (hW.pick (ks := [6]) (by decide) (pk_cons rfl pk_nil)) ⟨ow_any _ _ _ _ tr_TRect, trivial⟩⟩)

theorem F_etchhouseref1_SameRects_ok (N : Nat) {w : Bs} (p0 : (List TRect)) (Ap0_0 : Option Addr) (cp0_0 : Nat) (hp0_0 : Sl w.R w.W fl_TRect Ap0_0 cp0_0 p0) (p1 : (List TRect)) (Ap1_0 : Option Addr) (cp1_0 : Nat) (hp1_0 : Sl w.R w.W fl_TRect Ap1_0 cp1_0 p1) (r : Bool) (H : F_etchhouseref1_SameRects N p0 p1 = some r) (hE : HF w w.W E0) : Calls Tryz.prog 77 [(.slice Ap0_0 (p0).length cp0_0), (.slice Ap1_0 (p1).length cp1_0)].toArray w.W fun e W' => e = .returned (.bool r) ∧ HF w W' E0 := by
  unfold F_etchhouseref1_SameRects at H
  have leB := Bs.Le.refl w
  refine Tr.enter (n := 26) Tryz.func77 rfl rfl rfl hE ?_
  refine Tr.seq ?_
  refine Tr.region ?_
  refine Tr.val (wn rfl) rfl (fun _ _ h1 h2 => run_assign (h1.ev rfl)) ?_
  refine Tr.nil (Tr.normThen ?_)
  refine Tr.seq ?_
  refine Tr.seq ?_
  refine Tr.region ?_
  refine Tr.val (wn rfl) rfl (fun _ _ h1 h2 => run_move (h1.ev rfl)) ?_
  refine Tr.val (wn rfl) rfl (fun _ _ h1 h2 => run_len un_22 (h1.ev rfl)) ?_
  refine Tr.val (wn rfl) rfl (fun _ _ h1 h2 => run_move (h1.ev rfl)) ?_
  refine Tr.val (wn rfl) rfl (fun _ _ h1 h2 => run_len un_22 (h1.ev rfl)) ?_
  refine Tr.val (wn rfl) rfl (fun _ _ h1 h2 => run_neq (h1.ev rfl) (h1.ev rfl)) ?_
  refine Tr.nil (Tr.normThen ?_)
  refine Tr.cond rfl H (fun H => ?_) (fun H => ?_)
  · refine Tr.seq ?_
    refine Tr.region ?_
    refine Tr.val (wn rfl) rfl (fun _ _ h1 h2 => run_assign (h1.ev rfl)) ?_
    refine Tr.nil (Tr.normThen ?_)
    refine Tr.ret (Tr.retThen ?_)
    obtain rfl := Option.some.inj H
    exact Tr.out (m := [(.bool false)]) [] (res_tmp rfl res_nil) (fun W hW => ⟨rfl, hW.low leB⟩)
  · refine Tr.skip (Tr.normThen ?_)
    refine Tr.seq ?_
    refine Tr.seq ?_
    refine Tr.region ?_
    refine Tr.val (wn rfl) rfl (fun _ _ h1 h2 => run_assign (h1.ev rfl)) ?_
    refine Tr.nil (Tr.normThen ?_)
    refine Tr.block ?_
    refine Tr.loop (σ := Int) (fun m w s => F_etchhouseref1_SameRects_L1 p0 p1 m s = some r) (fun s => [(0, (.slice Ap0_0 (p0).length cp0_0)), (1, (.slice Ap1_0 (p1).length cp1_0)), (5, (.int .i64 s))]) (fun s => []) N 0 H (.cons rfl (.cons rfl (.cons rfl .nil))) .nil (fun _ _ h => noSome (h)) ?_
    intro w leF_etchhouseref1_SameRects_L1 mF_etchhouseref1_SameRects_L1 x107 hs
    have H := hs
    replace H : F_etchhouseref1_SameRects_L1 p0 p1 (mF_etchhouseref1_SameRects_L1 + 1) x107 = some r := H
    replace hp0_0 := hp0_0.leR leF_etchhouseref1_SameRects_L1
    replace hp1_0 := hp1_0.leR leF_etchhouseref1_SameRects_L1
    replace leB := leB.trans leF_etchhouseref1_SameRects_L1
    rw [F_etchhouseref1_SameRects_L1.eq_2] at H
    show Tr _ _ (LF [(0, (.slice Ap0_0 (p0).length cp0_0)), (1, (.slice Ap1_0 (p1).length cp1_0)), (5, (.int .i64 x107))]) (LE []) _
    refine Tr.seq ?_
    refine Tr.seq ?_
    refine Tr.region ?_
    refine Tr.val (wn rfl) rfl (fun _ _ h1 h2 => run_move (h1.ev rfl)) ?_
    refine Tr.val (wn rfl) rfl (fun _ _ h1 h2 => run_move (h1.ev rfl)) ?_
    refine Tr.val (wn rfl) rfl (fun _ _ h1 h2 => run_len un_22 (h1.ev rfl)) ?_
    refine Tr.val (wn rfl) rfl (fun _ _ h1 h2 => run_lss (h1.ev rfl) (h1.ev rfl)) ?_
    refine Tr.nil (Tr.normThen ?_)
    refine Tr.cond rfl H (fun H => ?_) (fun H => ?_)
    · refine Tr.skip (Tr.normThen ?_)
      refine Tr.seq ?_
      refine Tr.block ?_
      refine Tr.seq ?_
      refine Tr.draw (by kernel_rfl) (by kernel_rfl) ?_
      refine Tq.val (wn rfl) rfl (fun _ _ h1 h2 => run_move (h1.ev rfl)) ?_
      refine Tq.val (wn rfl) rfl (fun _ _ h1 h2 => run_move (h1.ev rfl)) ?_
      obtain ⟨x108, hx108, H⟩ := bnd H
      obtain ⟨hx1080, hx1081, hx1082⟩ := idx_some hx108
      refine Tq.val (wn rfl) rfl (fun _ _ h1 h2 => run_indexAddr el_22 (h1.ev rfl) hp0_0.form (h1.ev rfl) hx1080 hx1081) ?_
      refine Tq.val (wn rfl) rfl (fun _ _ h1 h2 => run_loadN (cs := [(.int .i64 x108.X0), (.int .i64 x108.Y0), (.int .i64 x108.X1), (.int .i64 x108.Y1)]) ag_28 sz_28 (h1.ev rfl) (CellsAt.take (rdF ef_TRect hp0_0 hx1082 h2) 4) rfl) ?_
      refine Tq.val (wn rfl) rfl (fun _ _ h1 h2 => run_move (h1.ev rfl)) ?_
      refine Tq.val (wn rfl) rfl (fun _ _ h1 h2 => run_move (h1.ev rfl)) ?_
      obtain ⟨x109, hx109, H⟩ := bnd H
      obtain ⟨hx1090, hx1091, hx1092⟩ := idx_some hx109
      refine Tq.val (wn rfl) rfl (fun _ _ h1 h2 => run_indexAddr el_22 (h1.ev rfl) hp1_0.form (h1.ev rfl) hx1090 hx1091) ?_
      refine Tq.val (wn rfl) rfl (fun _ _ h1 h2 => run_loadN (cs := [(.int .i64 x109.X0), (.int .i64 x109.Y0), (.int .i64 x109.X1), (.int .i64 x109.Y1)]) ag_28 sz_28 (h1.ev rfl) (CellsAt.take (rdF ef_TRect hp1_0 hx1092 h2) 4) rfl) ?_
      refine Tq.val (wn rfl) rfl (fun _ _ h1 h2 => run_neq_28 x108 x109 (h1.ev rfl) (h1.ev rfl)) ?_
      refine Tq.nil (Tr.normThen ?_)
      refine Tr.cond rfl H (fun H => ?_) (fun H => ?_)
      · refine Tr.seq ?_
        refine Tr.region ?_
        refine Tr.val (wn rfl) rfl (fun _ _ h1 h2 => run_assign (h1.ev rfl)) ?_
        refine Tr.nil (Tr.normThen ?_)
        refine Tr.ret (Tr.retBlock (Tr.retThen (Tr.retThen (Tr.retBlock (Tr.retThen ?_)))))
        obtain rfl := Option.some.inj H
        exact Tr.out (m := [(.bool false)]) [] (res_tmp rfl res_nil) (fun W hW => ⟨rfl, hW.low leB⟩)
      · refine Tr.skip (Tr.normBlock (Tr.normThen ?_))
        refine Tr.region ?_
        refine Tr.val (wn rfl) rfl (fun _ _ h1 h2 => run_move (h1.ev rfl)) ?_
        refine Tr.val (wn rfl) rfl (fun _ _ h1 h2 => run_add (h1.ev rfl) (h1.ev rfl)) ?_
        refine Tr.val (wn rfl) rfl (fun _ _ h1 h2 => run_assign (h1.ev rfl)) ?_
        refine Tr.nil ?_
        exact Tr.backThen leF_etchhouseref1_SameRects_L1 (w64 (x107 + 1)) H (.cons rfl (.cons rfl (.cons rfl .nil))) .nil
    · refine Tr.exit (Tr.exitThen (Tr.exitThen (Tr.exitBlock (Tr.normThen ?_))))
      refine Tr.seq ?_
      refine Tr.region ?_
      refine Tr.val (wn rfl) rfl (fun _ _ h1 h2 => run_assign (h1.ev rfl)) ?_
      refine Tr.nil (Tr.normThen ?_)
      refine Tr.ret ?_
      obtain rfl := Option.some.inj H
      exact Tr.out (m := [(.bool true)]) [] (res_tmp rfl res_nil) (fun W hW => ⟨rfl, hW.low leB⟩)

theorem F_etchhouseref1_CheckRegion_ok (N : Nat) {w : Bs} (p0 : (List TRect)) (Ap0_0 : Option Addr) (cp0_0 : Nat) (hp0_0 : Sl w.R w.W fl_TRect Ap0_0 cp0_0 p0) (r : Int) (H : F_etchhouseref1_CheckRegion N p0 = some r) (hE : HF w w.W E0) : Calls Tryz.prog 31 [(.slice Ap0_0 (p0).length cp0_0)].toArray w.W fun e W' => e = .returned (.int .i64 r) ∧ HF w W' E0 := by
  unfold F_etchhouseref1_CheckRegion at H
  have leB := Bs.Le.refl w
  refine Tr.enter (n := 32) Tryz.func31 rfl rfl rfl hE ?_
  refine Tr.seq ?_
  refine Tr.region ?_
  refine Tr.val (wn rfl) rfl (fun _ _ h1 h2 => run_assign (h1.ev rfl)) ?_
  refine Tr.nil (Tr.normThen ?_)
  refine Tr.seq ?_
  refine Tr.seq ?_
  refine Tr.region ?_
  refine Tr.val (wn rfl) rfl (fun _ _ h1 h2 => run_move (h1.ev rfl)) ?_
  obtain ⟨y100, hy100, H⟩ := bnd H
  refine Tr.call0 (r := (.int .i64 y100)) (wn rfl) rfl Tryz.call75 (evl_cons rfl evl_nil) (fun W hW => F_etchhouseref1_CheckRects_ok N p0 Ap0_0 cp0_0 (hp0_0.ext hW.extAll) y100 hy100 (HF.start _)) ?_
  refine Tr.val (wn rfl) rfl (fun _ _ h1 h2 => run_assign (h1.ev rfl)) ?_
  refine Tr.nil (Tr.normThen ?_)
  refine Tr.seq ?_
  refine Tr.region ?_
  refine Tr.val (wn rfl) rfl (fun _ _ h1 h2 => run_move (h1.ev rfl)) ?_
  refine Tr.val (wn rfl) rfl (fun _ _ h1 h2 => run_neq (h1.ev rfl) (h1.ev rfl)) ?_
  refine Tr.nil (Tr.normThen ?_)
  refine Tr.cond rfl H (fun H => ?_) (fun H => ?_)
  · refine Tr.seq ?_
    refine Tr.region ?_
    refine Tr.val (wn rfl) rfl (fun _ _ h1 h2 => run_move (h1.ev rfl)) ?_
    refine Tr.val (wn rfl) rfl (fun _ _ h1 h2 => run_assign (h1.ev rfl)) ?_
    refine Tr.nil (Tr.normThen ?_)
    refine Tr.ret (Tr.retThen ?_)
    obtain rfl := Option.some.inj H
    exact Tr.out (m := [(.int .i64 y100)]) [] (res_tmp rfl res_nil) (fun W hW => ⟨rfl, hW.low leB⟩)
  · refine Tr.skip (Tr.normThen ?_)
    refine Tr.seq ?_
    refine Tr.seq ?_
    refine Tr.region ?_
    refine Tr.val (wn rfl) rfl (fun _ _ h1 h2 => run_assign (h1.ev rfl)) ?_
    refine Tr.nil (Tr.normThen ?_)
    refine Tr.block ?_
    refine Tr.loop (σ := Int) (fun m w s => F_etchhouseref1_CheckRegion_L1 N p0 m s = some r) (fun s => [(0, (.slice Ap0_0 (p0).length cp0_0)), (4, (.int .i64 s))]) (fun s => []) N 1 H (.cons rfl (.cons rfl .nil)) .nil (fun _ _ h => noSome (h)) ?_
    intro w leF_etchhouseref1_CheckRegion_L1 mF_etchhouseref1_CheckRegion_L1 x110 hs
    have H := hs
    replace H : F_etchhouseref1_CheckRegion_L1 N p0 (mF_etchhouseref1_CheckRegion_L1 + 1) x110 = some r := H
    replace hp0_0 := hp0_0.leR leF_etchhouseref1_CheckRegion_L1
    replace leB := leB.trans leF_etchhouseref1_CheckRegion_L1
    rw [F_etchhouseref1_CheckRegion_L1.eq_2] at H
    show Tr _ _ (LF [(0, (.slice Ap0_0 (p0).length cp0_0)), (4, (.int .i64 x110))]) (LE []) _
    refine Tr.seq ?_
    refine Tr.seq ?_
    refine Tr.region ?_
    refine Tr.val (wn rfl) rfl (fun _ _ h1 h2 => run_move (h1.ev rfl)) ?_
    refine Tr.val (wn rfl) rfl (fun _ _ h1 h2 => run_move (h1.ev rfl)) ?_
    refine Tr.val (wn rfl) rfl (fun _ _ h1 h2 => run_len un_22 (h1.ev rfl)) ?_
    refine Tr.val (wn rfl) rfl (fun _ _ h1 h2 => run_lss (h1.ev rfl) (h1.ev rfl)) ?_
    refine Tr.nil (Tr.normThen ?_)
    refine Tr.cond rfl H (fun H => ?_) (fun H => ?_)
    · refine Tr.skip (Tr.normThen ?_)
      refine Tr.seq ?_
      refine Tr.block ?_
      refine Tr.seq ?_
      refine Tr.draw (by kernel_rfl) (by kernel_rfl) ?_
      refine Tq.val (wn rfl) rfl (fun _ _ h1 h2 => run_move (h1.ev rfl)) ?_
      refine Tq.val (wn rfl) rfl (fun _ _ h1 h2 => run_move (h1.ev rfl)) ?_
      refine Tq.val (wn rfl) rfl (fun _ _ h1 h2 => run_sub (h1.ev rfl) (h1.ev rfl)) ?_
      obtain ⟨x111, hx111, H⟩ := bnd H
      obtain ⟨hx1110, hx1111, hx1112⟩ := idx_some hx111
      refine Tq.val (wn rfl) rfl (fun _ _ h1 h2 => run_indexAddr el_22 (h1.ev rfl) hp0_0.form (h1.ev rfl) hx1110 hx1111) ?_
      refine Tq.val (wn rfl) rfl (fun _ _ h1 h2 => run_loadN (cs := [(.int .i64 x111.X0), (.int .i64 x111.Y0), (.int .i64 x111.X1), (.int .i64 x111.Y1)]) ag_28 sz_28 (h1.ev rfl) (CellsAt.take (rdF ef_TRect hp0_0 hx1112 h2) 4) rfl) ?_
      refine Tq.val (wn rfl) rfl (fun _ _ h1 h2 => run_move (h1.ev rfl)) ?_
      refine Tq.val (wn rfl) rfl (fun _ _ h1 h2 => run_move (h1.ev rfl)) ?_
      obtain ⟨x112, hx112, H⟩ := bnd H
      obtain ⟨hx1120, hx1121, hx1122⟩ := idx_some hx112
      refine Tq.val (wn rfl) rfl (fun _ _ h1 h2 => run_indexAddr el_22 (h1.ev rfl) hp0_0.form (h1.ev rfl) hx1120 hx1121) ?_
      refine Tq.val (wn rfl) rfl (fun _ _ h1 h2 => run_loadN (cs := [(.int .i64 x112.X0), (.int .i64 x112.Y0), (.int .i64 x112.X1), (.int .i64 x112.Y1)]) ag_28 sz_28 (h1.ev rfl) (CellsAt.take (rdF ef_TRect hp0_0 hx1122 h2) 4) rfl) ?_
      obtain ⟨y113, hy113, H⟩ := bnd H
      refine Tq.call0 (r := (.bool y113)) (wn rfl) rfl Tryz.call76 (evl_cons rfl (evl_cons rfl evl_nil)) (fun W hW => F_etchhouseref1_before_ok x111 x112 y113 hy113 (HF.start _)) ?_
      refine Tq.val (wn rfl) rfl (fun _ _ h1 h2 => run_not (h1.ev rfl)) ?_
      refine Tq.nil (Tr.normThen ?_)
      refine Tr.cond rfl H (fun H => ?_) (fun H => ?_)
      · refine Tr.seq ?_
        refine Tr.region ?_
        refine Tr.val (wn rfl) rfl (fun _ _ h1 h2 => run_assign (h1.ev rfl)) ?_
        refine Tr.nil (Tr.normThen ?_)
        refine Tr.ret (Tr.retBlock (Tr.retThen (Tr.retThen (Tr.retBlock (Tr.retThen ?_)))))
        obtain rfl := Option.some.inj H
        exact Tr.out (m := [(.int .i64 8)]) [] (res_tmp rfl res_nil) (fun W hW => ⟨rfl, hW.low leB⟩)
      · refine Tr.skip (Tr.normBlock (Tr.normThen ?_))
        refine Tr.region ?_
        refine Tr.val (wn rfl) rfl (fun _ _ h1 h2 => run_move (h1.ev rfl)) ?_
        refine Tr.val (wn rfl) rfl (fun _ _ h1 h2 => run_add (h1.ev rfl) (h1.ev rfl)) ?_
        refine Tr.val (wn rfl) rfl (fun _ _ h1 h2 => run_assign (h1.ev rfl)) ?_
        refine Tr.nil ?_
        exact Tr.backThen leF_etchhouseref1_CheckRegion_L1 (w64 (x110 + 1)) H (.cons rfl (.cons rfl .nil)) .nil
    · refine Tr.exit (Tr.exitThen (Tr.exitThen (Tr.exitBlock (Tr.normThen ?_))))
      refine Tr.seq ?_
      refine Tr.seq ?_
      refine Tr.region ?_
      refine Tr.val (wn rfl) rfl (fun _ _ h1 h2 => run_move (h1.ev rfl)) ?_
      refine Tr.val (wn rfl) rfl (fun _ _ h1 h2 => run_move (h1.ev rfl)) ?_
      obtain ⟨y114, hy114, H⟩ := bnd H
      refine Tr.callM [1] [emp] (U := (Option Addr × Nat)) (fun u => (.slice u.1 (y114).length u.2)) (fun u => SlF u.1 (y114).length u.2) (fun u => [ow u.1 u.2 28 fl_TRect y114]) rfl (pk_cons rfl pk_nil) (fun _ => rfl) (wn rfl) rfl Tryz.call50 (evl_cons rfl evl_nil) (fun W hW hp hE => F_etchhouseref1_Canonical_ok N p0 Ap0_0 cp0_0 (hp0_0.ext (hW.extS hp)) y114 hy114 hE) ?_
      intro u hu
      obtain ⟨Ay114_0, cy114_0⟩ := u
      have gy114_0 := hu
      have hgy114_0 : SlF Ay114_0 (y114).length cy114_0 := gy114_0 --@phi
      show Tr _ _ (uf _ 29 (.slice Ay114_0 (y114).length cy114_0)) (up _ 1 (ow Ay114_0 cy114_0 28 fl_TRect y114)) _
      obtain ⟨y116, hy116, H⟩ := bnd H
      refine Tr.call0 (r := (.bool y116)) (wn rfl) rfl Tryz.call77 (evl_cons rfl (evl_cons rfl evl_nil)) (fun W hW => F_etchhouseref1_SameRects_ok N p0 Ap0_0 cp0_0 (hp0_0.ext hW.extAll) y114 Ay114_0 cy114_0 (hW.slCall (k := 1) rfl) y116 hy116 (HF.start _)) ?_
      refine Tr.val (wn rfl) rfl (fun _ _ h1 h2 => run_not (h1.ev rfl)) ?_
      refine Tr.nil (Tr.normThen ?_)
      refine Tr.cond rfl H (fun H => ?_) (fun H => ?_)
      · refine Tr.seq ?_
        refine Tr.region ?_
        refine Tr.val (wn rfl) rfl (fun _ _ h1 h2 => run_assign (h1.ev rfl)) ?_
        refine Tr.nil (Tr.normThen ?_)
        refine Tr.ret (Tr.retThen ?_)
        obtain rfl := Option.some.inj H
        exact Tr.out (m := [(.int .i64 3)]) [] (res_tmp rfl res_nil) (fun W hW => ⟨rfl, hW.low leB⟩)
      · refine Tr.skip (Tr.normThen ?_)
        refine Tr.seq ?_
        refine Tr.region ?_
        refine Tr.val (wn rfl) rfl (fun _ _ h1 h2 => run_assign (h1.ev rfl)) ?_
        refine Tr.nil (Tr.normThen ?_)
        refine Tr.ret ?_
        obtain rfl := Option.some.inj H
        exact Tr.out (m := [(.int .i64 0)]) [] (res_tmp rfl res_nil) (fun W hW => ⟨rfl, hW.low leB⟩)

theorem F_etchhouseref1_checkGrow_ok (N : Nat) {w : Bs} (p0 : (List TRect)) (Ap0_0 : Option Addr) (cp0_0 : Nat) (hp0_0 : Sl w.R w.W fl_TRect Ap0_0 cp0_0 p0) (p1 : Int) (r : Int) (H : F_etchhouseref1_checkGrow N p0 p1 = some r) (hE : HF w w.W E0) : Calls Tryz.prog 23 [(.slice Ap0_0 (p0).length cp0_0), (.int .i64 p1)].toArray w.W fun e W' => e = .returned (.int .i64 r) ∧ HF w W' E0 := by
  unfold F_etchhouseref1_checkGrow at H
  have leB := Bs.Le.refl w
  refine Tr.enter (n := 14) Tryz.func23 rfl rfl rfl hE ?_
  refine Tr.seq ?_
  refine Tr.region ?_
  refine Tr.val (wn rfl) rfl (fun _ _ h1 h2 => run_assign (h1.ev rfl)) ?_
  refine Tr.nil (Tr.normThen ?_)
  refine Tr.seq ?_
  refine Tr.seq ?_
  refine Tr.region ?_
  refine Tr.val (wn rfl) rfl (fun _ _ h1 h2 => run_move (h1.ev rfl)) ?_
  obtain ⟨y100, hy100, H⟩ := bnd H
  refine Tr.call0 (r := (.int .i64 y100)) (wn rfl) rfl Tryz.call31 (evl_cons rfl evl_nil) (fun W hW => F_etchhouseref1_CheckRegion_ok N p0 Ap0_0 cp0_0 (hp0_0.ext hW.extAll) y100 hy100 (HF.start _)) ?_
  refine Tr.val (wn rfl) rfl (fun _ _ h1 h2 => run_assign (h1.ev rfl)) ?_
  refine Tr.nil (Tr.normThen ?_)
  refine Tr.seq ?_
  refine Tr.region ?_
  refine Tr.val (wn rfl) rfl (fun _ _ h1 h2 => run_move (h1.ev rfl)) ?_
  refine Tr.val (wn rfl) rfl (fun _ _ h1 h2 => run_neq (h1.ev rfl) (h1.ev rfl)) ?_
  refine Tr.nil (Tr.normThen ?_)
  refine Tr.cond rfl H (fun H => ?_) (fun H => ?_)
  · refine Tr.seq ?_
    refine Tr.region ?_
    refine Tr.val (wn rfl) rfl (fun _ _ h1 h2 => run_move (h1.ev rfl)) ?_
    refine Tr.val (wn rfl) rfl (fun _ _ h1 h2 => run_assign (h1.ev rfl)) ?_
    refine Tr.nil (Tr.normThen ?_)
    refine Tr.ret (Tr.retThen ?_)
    obtain rfl := Option.some.inj H
    exact Tr.out (m := [(.int .i64 y100)]) [] (res_tmp rfl res_nil) (fun W hW => ⟨rfl, hW.low leB⟩)
  · refine Tr.skip (Tr.normThen ?_)
    refine Tr.seq ?_
    refine Tr.seq ?_
    refine Tr.region ?_
    refine Tr.val (wn rfl) rfl (fun _ _ h1 h2 => run_move (h1.ev rfl)) ?_
    obtain ⟨y101, hy101, H⟩ := bnd H
    refine Tr.call0 (r := (.bool y101)) (wn rfl) rfl Tryz.call47 (evl_cons rfl (evl_cons rfl (evl_cons rfl evl_nil))) (fun W hW => F_etchhouseref1_within_ok p1 0 100000 y101 hy101 (HF.start _)) ?_
    refine Tr.val (wn rfl) rfl (fun _ _ h1 h2 => run_not (h1.ev rfl)) ?_
    refine Tr.nil (Tr.normThen ?_)
    refine Tr.cond rfl H (fun H => ?_) (fun H => ?_)
    · refine Tr.seq ?_
      refine Tr.region ?_
      refine Tr.val (wn rfl) rfl (fun _ _ h1 h2 => run_assign (h1.ev rfl)) ?_
      refine Tr.nil (Tr.normThen ?_)
      refine Tr.ret (Tr.retThen ?_)
      obtain rfl := Option.some.inj H
      exact Tr.out (m := [(.int .i64 1)]) [] (res_tmp rfl res_nil) (fun W hW => ⟨rfl, hW.low leB⟩)
    · refine Tr.skip (Tr.normThen ?_)
      refine Tr.seq ?_
      refine Tr.region ?_
      refine Tr.val (wn rfl) rfl (fun _ _ h1 h2 => run_assign (h1.ev rfl)) ?_
      refine Tr.nil (Tr.normThen ?_)
      refine Tr.ret ?_
      obtain rfl := Option.some.inj H
      exact Tr.out (m := [(.int .i64 0)]) [] (res_tmp rfl res_nil) (fun W hW => ⟨rfl, hW.low leB⟩)

theorem F_etchhouseref1_wider_ok {w : Bs} (p0 : TRect) (p1 : Int) (r : TRect) (H : F_etchhouseref1_wider p0 p1 = some r) (hE : HF w w.W E0) : Calls Tryz.prog 53 [(.agg #[(.int .i64 p0.X0), (.int .i64 p0.Y0), (.int .i64 p0.X1), (.int .i64 p0.Y1)]), (.int .i64 p1)].toArray w.W fun e W' => e = .returned (.agg #[(.int .i64 r.X0), (.int .i64 r.Y0), (.int .i64 r.X1), (.int .i64 r.Y1)]) ∧ HF w W' E0 := by
  unfold F_etchhouseref1_wider at H
  have leB := Bs.Le.refl w
  refine Tr.enter (n := 22) Tryz.func53 rfl rfl rfl hE ?_
  refine Tr.seq ?_
  refine Tr.region ?_
  refine Tr.box 1 (cs := [(.int .i64 p0.X0), (.int .i64 p0.Y0), (.int .i64 p0.X1), (.int .i64 p0.Y1)]) (wn rfl) rfl rfl rfl fun b100 => ?_
  refine Tr.alloc 2 (wn rfl) rfl ze_28 fun b101 => ?_
  refine Tr.nil (Tr.normThen ?_)
  refine Tr.seq ?_
  refine Tr.region ?_
  refine Tr.val (wn rfl) rfl (fun _ _ h1 h2 => run_fieldAddr fo_28_0 (h1.ev rfl)) ?_
  refine Tr.val (wn rfl) rfl (fun _ _ h1 h2 => run_load1 ag_3 (h1.ev rfl) (rdb h2 (vs := [(.int .i64 p0.X0), (.int .i64 p0.Y0), (.int .i64 p0.X1), (.int .i64 p0.Y1)]) (k := 1) rfl 0) rfl) ?_
  refine Tr.val (wn rfl) rfl (fun _ _ h1 h2 => run_move (h1.ev rfl)) ?_
  refine Tr.val (wn rfl) rfl (fun _ _ h1 h2 => run_sub (h1.ev rfl) (h1.ev rfl)) ?_
  refine Tr.val (wn rfl) rfl (fun _ _ h1 h2 => run_fieldAddr fo_28_1 (h1.ev rfl)) ?_
  refine Tr.val (wn rfl) rfl (fun _ _ h1 h2 => run_load1 ag_3 (h1.ev rfl) (rdb h2 (vs := [(.int .i64 p0.X0), (.int .i64 p0.Y0), (.int .i64 p0.X1), (.int .i64 p0.Y1)]) (k := 1) rfl 1) rfl) ?_
  refine Tr.val (wn rfl) rfl (fun _ _ h1 h2 => run_move (h1.ev rfl)) ?_
  refine Tr.val (wn rfl) rfl (fun _ _ h1 h2 => run_sub (h1.ev rfl) (h1.ev rfl)) ?_
  refine Tr.val (wn rfl) rfl (fun _ _ h1 h2 => run_fieldAddr fo_28_2 (h1.ev rfl)) ?_
  refine Tr.val (wn rfl) rfl (fun _ _ h1 h2 => run_load1 ag_3 (h1.ev rfl) (rdb h2 (vs := [(.int .i64 p0.X0), (.int .i64 p0.Y0), (.int .i64 p0.X1), (.int .i64 p0.Y1)]) (k := 1) rfl 2) rfl) ?_
  refine Tr.val (wn rfl) rfl (fun _ _ h1 h2 => run_move (h1.ev rfl)) ?_
  refine Tr.val (wn rfl) rfl (fun _ _ h1 h2 => run_add (h1.ev rfl) (h1.ev rfl)) ?_
  refine Tr.val (wn rfl) rfl (fun _ _ h1 h2 => run_fieldAddr fo_28_3 (h1.ev rfl)) ?_
  refine Tr.val (wn rfl) rfl (fun _ _ h1 h2 => run_load1 ag_3 (h1.ev rfl) (rdb h2 (vs := [(.int .i64 p0.X0), (.int .i64 p0.Y0), (.int .i64 p0.X1), (.int .i64 p0.Y1)]) (k := 1) rfl 3) rfl) ?_
  refine Tr.val (wn rfl) rfl (fun _ _ h1 h2 => run_move (h1.ev rfl)) ?_
  refine Tr.val (wn rfl) rfl (fun _ _ h1 h2 => run_add (h1.ev rfl) (h1.ev rfl)) ?_
  refine Tr.build (vs := [(0, (.int .i64 (w64 (p0.X0 - p1)))), (1, (.int .i64 (w64 (p0.Y0 - p1)))), (2, (.int .i64 (w64 (p0.X1 + p1)))), (3, (.int .i64 (w64 (p0.Y1 + p1))))]) (cs := [(.int .i64 (w64 (p0.X0 - p1))), (.int .i64 (w64 (p0.Y0 - p1))), (.int .i64 (w64 (p0.X1 + p1))), (.int .i64 (w64 (p0.Y1 + p1)))]) (wn rfl) rfl (evs_cons rfl (evs_cons rfl (evs_cons rfl (evs_cons rfl evs_nil)))) (by kernel_rfl) ?_
  refine Tr.store 2 (cs := [(.int .i64 (w64 (p0.X0 - p1))), (.int .i64 (w64 (p0.Y0 - p1))), (.int .i64 (w64 (p0.X1 + p1))), (.int .i64 (w64 (p0.Y1 + p1)))]) [(.int .i64 (w64 (p0.X0 - p1))), (.int .i64 (w64 (p0.Y0 - p1))), (.int .i64 (w64 (p0.X1 + p1))), (.int .i64 (w64 (p0.Y1 + p1)))] (wn rfl) rfl rfl rfl rfl sz_28 rfl rfl rfl ?_
  refine Tr.nil (Tr.normThen ?_)
  refine Tr.ret ?_
  obtain rfl := Option.some.inj H
  exact Tr.out (m := [(.agg #[(.int .i64 (w64 (p0.X0 - p1))), (.int .i64 (w64 (p0.Y0 - p1))), (.int .i64 (w64 (p0.X1 + p1))), (.int .i64 (w64 (p0.Y1 + p1)))])]) [2] (res_cell rfl rfl ag_28 sz_28 res_nil) (fun W hW => ⟨rfl, hW.low leB⟩)

theorem F_etchhouseref1_grown_ok (N : Nat) {w : Bs} (p0 : (List TRect)) (Ap0_0 : Option Addr) (cp0_0 : Nat) (hp0_0 : Sl w.R w.W fl_TRect Ap0_0 cp0_0 p0) (p1 : Int) (r : (List TRect)) (H : F_etchhouseref1_grown N p0 p1 = some r) (hE : HF w w.W (LEn [emp])) : Calls Tryz.prog 48 [(.slice Ap0_0 (p0).length cp0_0), (.int .i64 p1)].toArray w.W fun e W' => ∃ u : (Option Addr × Nat), e = .returned (.slice u.1 (r).length u.2) ∧ (SlF u.1 (r).length u.2) ∧ HF w W' (LEn [ow u.1 u.2 28 fl_TRect r]) := by
  unfold F_etchhouseref1_grown at H
  have leB := Bs.Le.refl w
  refine Tr.enter (n := 23) Tryz.func48 rfl rfl rfl hE ?_
  refine Tr.seq ?_
  refine Tr.region ?_
  refine Tr.val (wn rfl) rfl (fun _ _ h1 h2 => run_assign (h1.ev rfl)) ?_
  refine Tr.nilOwn 1 28 fl_TRect ?_
  show Tr _ _ (uf _ 4 (.slice none (([] : List TRect)).length 0)) _ _
  refine Tr.nil (Tr.normThen ?_)
  refine Tr.seq ?_
  refine Tr.region ?_
  refine Tr.val (wn rfl) rfl (fun _ _ h1 h2 => run_assign (h1.ev rfl)) ?_
  refine Tr.nilOwn 2 28 fl_TRect ?_
  show Tr _ _ (uf _ 5 (.slice none (([] : List TRect)).length 0)) _ _
  refine Tr.nil (Tr.normThen ?_)
  refine Tr.seq ?_
  refine Tr.seq ?_
  refine Tr.region ?_
  refine Tr.val (wn rfl) rfl (fun _ _ h1 h2 => run_assign (h1.ev rfl)) ?_
  refine Tr.nil (Tr.normThen ?_)
  refine Tr.block ?_
  refine Tr.loop (σ := (List TRect) × Int × (Option Addr) × Nat) (fun m w s => F_etchhouseref1_grown_L1 p0 p1 m s.1 s.2.1 = some r ∧ SlF s.2.2.1 (s.1).length s.2.2.2) (fun s => [(0, (.slice Ap0_0 (p0).length cp0_0)), (1, (.int .i64 p1)), (5, (.slice s.2.2.1 (s.1).length s.2.2.2)), (6, (.int .i64 s.2.1))]) (fun s => [(2, ow s.2.2.1 s.2.2.2 28 fl_TRect s.1)]) N (([] : List TRect), 0, none, 0) ⟨H, slf_nil⟩ (.cons rfl (.cons rfl (.cons rfl (.cons rfl .nil)))) (.cons rfl .nil) (fun _ _ h => noSome (h.1)) ?_
  intro w leF_etchhouseref1_grown_L1 mF_etchhouseref1_grown_L1 s hs
  obtain ⟨l114, x115, Al114, cl114⟩ := s
  obtain ⟨H, hl114⟩ := hs
  replace H : F_etchhouseref1_grown_L1 p0 p1 (mF_etchhouseref1_grown_L1 + 1) l114 x115 = some r := H
  replace hp0_0 := hp0_0.leR leF_etchhouseref1_grown_L1
  replace leB := leB.trans leF_etchhouseref1_grown_L1
  replace hl114 : SlF Al114 (l114).length cl114 := hl114
  rw [F_etchhouseref1_grown_L1.eq_2] at H
  show Tr _ _ (LF [(0, (.slice Ap0_0 (p0).length cp0_0)), (1, (.int .i64 p1)), (5, (.slice Al114 (l114).length cl114)), (6, (.int .i64 x115))]) (LE [(2, ow Al114 cl114 28 fl_TRect l114)]) _
  refine Tr.seq ?_
  refine Tr.seq ?_
  refine Tr.region ?_
  refine Tr.val (wn rfl) rfl (fun _ _ h1 h2 => run_move (h1.ev rfl)) ?_
  refine Tr.val (wn rfl) rfl (fun _ _ h1 h2 => run_move (h1.ev rfl)) ?_
  refine Tr.val (wn rfl) rfl (fun _ _ h1 h2 => run_len un_22 (h1.ev rfl)) ?_
  refine Tr.val (wn rfl) rfl (fun _ _ h1 h2 => run_lss (h1.ev rfl) (h1.ev rfl)) ?_
  refine Tr.nil (Tr.normThen ?_)
  refine Tr.cond rfl H (fun H => ?_) (fun H => ?_)
  · refine Tr.skip (Tr.normThen ?_)
    refine Tr.seq ?_
    refine Tr.block ?_
    refine Tr.region ?_
    refine Tr.val (wn rfl) rfl (fun _ _ h1 h2 => run_move (h1.ev rfl)) ?_
    refine Tr.val (wn rfl) rfl (fun _ _ h1 h2 => run_move (h1.ev rfl)) ?_
    refine Tr.val (wn rfl) rfl (fun _ _ h1 h2 => run_move (h1.ev rfl)) ?_
    obtain ⟨x116, hx116, H⟩ := bnd H
    obtain ⟨hx1160, hx1161, hx1162⟩ := idx_some hx116
    refine Tr.val (wn rfl) rfl (fun _ _ h1 h2 => run_indexAddr el_22 (h1.ev rfl) hp0_0.form (h1.ev rfl) hx1160 hx1161) ?_
    refine Tr.val (wn rfl) rfl (fun _ _ h1 h2 => run_loadN (cs := [(.int .i64 x116.X0), (.int .i64 x116.Y0), (.int .i64 x116.X1), (.int .i64 x116.Y1)]) ag_28 sz_28 (h1.ev rfl) (CellsAt.take (rdF ef_TRect hp0_0 hx1162 h2) 4) rfl) ?_
    refine Tr.val (wn rfl) rfl (fun _ _ h1 h2 => run_move (h1.ev rfl)) ?_
    obtain ⟨y117, hy117, H⟩ := bnd H
    refine Tr.call0 (r := (.agg #[(.int .i64 y117.X0), (.int .i64 y117.Y0), (.int .i64 y117.X1), (.int .i64 y117.Y1)])) (wn rfl) rfl Tryz.call53 (evl_cons rfl (evl_cons rfl evl_nil)) (fun W hW => F_etchhouseref1_wider_ok x116 p1 y117 hy117 (HF.start _)) ?_
    refine Tr.buildSlice 5 (e := 28) (vs := [(0, (.agg #[(.int .i64 y117.X0), (.int .i64 y117.Y0), (.int .i64 y117.X1), (.int .i64 y117.Y1)]))]) (cs := [(.int .i64 y117.X0), (.int .i64 y117.Y0), (.int .i64 y117.X1), (.int .i64 y117.Y1)]) (wn rfl) rfl (evs_cons rfl evs_nil) (by kernel_rfl) fun b118 => ?_
    obtain ⟨l119, hl119, H⟩ := bnd H
    refine Tr.append 2 (t := fl_TRect) (l := l114) (l2 := [y117]) (wn rfl) rfl rfl rfl rfl (fun W hW => ⟨[[(.int .i64 y117.X0), (.int .i64 y117.Y0), (.int .i64 y117.X1), (.int .i64 y117.Y1)]], (.cons ⟨(), trivial, rfl⟩ .nil), rdb hW (vs := [(.int .i64 y117.X0), (.int .i64 y117.Y0), (.int .i64 y117.X1), (.int .i64 y117.Y1)]) (k := 5) rfl 0⟩) un_22 sz_28 zl_28 (by decide) by_28 rfl hl119 fun Al119 cl119 hAl119 => ?_
    refine Tr.val (wn rfl) rfl (fun _ _ h1 h2 => run_assign (h1.ev rfl)) ?_
    refine Tr.nil (Tr.normBlock (Tr.normThen ?_))
    refine Tr.region ?_
    refine Tr.val (wn rfl) rfl (fun _ _ h1 h2 => run_move (h1.ev rfl)) ?_
    refine Tr.val (wn rfl) rfl (fun _ _ h1 h2 => run_add (h1.ev rfl) (h1.ev rfl)) ?_
    refine Tr.val (wn rfl) rfl (fun _ _ h1 h2 => run_assign (h1.ev rfl)) ?_
    refine Tr.nil ?_
    exact Tr.backThen leF_etchhouseref1_grown_L1 (l119, (w64 (x115 + 1)), Al119, cl119) ⟨H, hAl119⟩ (.cons rfl (.cons rfl (.cons rfl (.cons rfl .nil)))) (.cons rfl .nil)
  · refine Tr.exit (Tr.exitThen (Tr.exitThen (Tr.exitBlock (Tr.normThen ?_))))
    refine Tr.seq ?_
    refine Tr.region ?_
    refine Tr.val (wn rfl) rfl (fun _ _ h1 h2 => run_move (h1.ev rfl)) ?_
    refine Tr.val (wn rfl) rfl (fun _ _ h1 h2 => run_assign (h1.ev rfl)) ?_
    refine Tr.nil (Tr.normThen ?_)
    refine Tr.ret ?_
    obtain rfl := Option.some.inj H
    exact Tr.out (m := [(.slice Al114 (l114).length cl114)]) [] (res_tmp rfl res_nil) (fun W hW => ⟨(Al114, cl114), rfl, hl114, HF.lowE leB (hW.pick (ks := [2]) (by decide) (pk_cons rfl pk_nil)) ⟨ow_any _ _ _ _ tr_TRect, trivial⟩⟩)

theorem F_etchhouseref1_limited_ok {w : Bs} (p0 : (List TRect)) (Ap0_0 : Option Addr) (cp0_0 : Nat) (hp0_0 : Sl w.O w.W fl_TRect Ap0_0 cp0_0 p0) (r : ((List TRect) × Int)) (H : F_etchhouseref1_limited p0 = some r) (hE : HF w w.W (LEn [])) : Calls Tryz.prog 40 [(.slice Ap0_0 (p0).length cp0_0)].toArray w.W fun e W' => ∃ (w' : Bs) (u : (Option Addr × Nat)), w.Le w' ∧ e = .returned (.tuple #[(.slice u.1 (r.1).length u.2), (.int .i64 r.2)]) ∧ (Sl w'.O w'.W fl_TRect u.1 u.2 r.1) ∧ HF w' W' (LEn []) := by
  unfold F_etchhouseref1_limited at H
  have leB := Bs.Le.refl w
  refine Tr.enter (n := 8) Tryz.func40 rfl rfl rfl hE ?_
  refine Tr.seq ?_
  refine Tr.region ?_
  refine Tr.val (wn rfl) rfl (fun _ _ h1 h2 => run_assign (h1.ev rfl)) ?_
  refine Tr.nilOwn 1 28 fl_TRect ?_
  show Tr _ _ (uf _ 2 (.slice none (([] : List TRect)).length 0)) _ _
  refine Tr.val (wn rfl) rfl (fun _ _ h1 h2 => run_assign (h1.ev rfl)) ?_
  refine Tr.nil (Tr.normThen ?_)
  refine Tr.seq ?_
  refine Tr.seq ?_
  refine Tr.region ?_
  refine Tr.val (wn rfl) rfl (fun _ _ h1 h2 => run_move (h1.ev rfl)) ?_
  refine Tr.val (wn rfl) rfl (fun _ _ h1 h2 => run_len un_22 (h1.ev rfl)) ?_
  refine Tr.val (wn rfl) rfl (fun _ _ h1 h2 => run_gtr (h1.ev rfl) (h1.ev rfl)) ?_
  refine Tr.nil (Tr.normThen ?_)
  refine Tr.cond rfl H (fun H => ?_) (fun H => ?_)
  · refine Tr.seq ?_
    refine Tr.region ?_
    refine Tr.val (wn rfl) rfl (fun _ _ h1 h2 => run_assign (h1.ev rfl)) ?_
    refine Tr.nilOwn 2 28 fl_TRect ?_
    show Tr _ _ (uf _ 2 (.slice none (([] : List TRect)).length 0)) _ _
    refine Tr.val (wn rfl) rfl (fun _ _ h1 h2 => run_assign (h1.ev rfl)) ?_
    refine Tr.nil (Tr.normThen ?_)
    refine Tr.ret (Tr.retThen ?_)
    obtain rfl := Option.some.inj H
    refine Tr.freeze 2 rfl fun w le101 hz100 => ?_
    replace hp0_0 := hp0_0.le le101
    replace leB := leB.trans le101
    exact Tr.out (m := [(.slice none (([] : List TRect)).length 0), (.int .i64 2)]) [] (res_tmp rfl (res_tmp rfl res_nil)) (fun W hW => ⟨w, (none, 0), leB, rfl, hz100, hW.pick (ks := []) (by decide) pk_nil⟩)
  · refine Tr.skip (Tr.normThen ?_)
    refine Tr.seq ?_
    refine Tr.region ?_
    refine Tr.val (wn rfl) rfl (fun _ _ h1 h2 => run_move (h1.ev rfl)) ?_
    refine Tr.val (wn rfl) rfl (fun _ _ h1 h2 => run_assign (h1.ev rfl)) ?_
    refine Tr.val (wn rfl) rfl (fun _ _ h1 h2 => run_assign (h1.ev rfl)) ?_
    refine Tr.nil (Tr.normThen ?_)
    refine Tr.ret ?_
    obtain rfl := Option.some.inj H
    exact Tr.out (m := [(.slice Ap0_0 (p0).length cp0_0), (.int .i64 0)]) [] (res_tmp rfl (res_tmp rfl res_nil)) (fun W hW => ⟨w, (Ap0_0, cp0_0), leB, rfl, hp0_0, hW.pick (ks := []) (by decide) pk_nil⟩)

theorem F_etchhouseref1_growOf_ok (N : Nat) {w : Bs} (p0 : (List TRect)) (Ap0_0 : Option Addr) (cp0_0 : Nat) (hp0_0 : Sl w.R w.W fl_TRect Ap0_0 cp0_0 p0) (p1 : Int) (r : ((List TRect) × Int)) (H : F_etchhouseref1_growOf N p0 p1 = some r) (hE : HF w w.W (LEn [])) : Calls Tryz.prog 24 [(.slice Ap0_0 (p0).length cp0_0), (.int .i64 p1)].toArray w.W fun e W' => ∃ (w' : Bs) (u : (Option Addr × Nat)), w.Le w' ∧ e = .returned (.tuple #[(.slice u.1 (r.1).length u.2), (.int .i64 r.2)]) ∧ (Sl w'.O w'.W fl_TRect u.1 u.2 r.1) ∧ HF w' W' (LEn []) := by
  unfold F_etchhouseref1_growOf at H
  have leB := Bs.Le.refl w
  refine Tr.enter (n := 49) Tryz.func24 rfl rfl rfl hE ?_
  refine Tr.seq ?_
  refine Tr.region ?_
  refine Tr.val (wn rfl) rfl (fun _ _ h1 h2 => run_assign (h1.ev rfl)) ?_
  refine Tr.nilOwn 1 28 fl_TRect ?_
  show Tr _ _ (uf _ 4 (.slice none (([] : List TRect)).length 0)) _ _
  refine Tr.val (wn rfl) rfl (fun _ _ h1 h2 => run_assign (h1.ev rfl)) ?_
  refine Tr.nil (Tr.normThen ?_)
  refine Tr.seq ?_
  refine Tr.region ?_
  refine Tr.val (wn rfl) rfl (fun _ _ h1 h2 => run_move (h1.ev rfl)) ?_
  refine Tr.val (wn rfl) rfl (fun _ _ h1 h2 => run_move (h1.ev rfl)) ?_
  obtain ⟨y100, hy100, H⟩ := bnd H
  refine Tr.callM [2] [emp] (U := (Option Addr × Nat)) (fun u => (.slice u.1 (y100).length u.2)) (fun u => SlF u.1 (y100).length u.2) (fun u => [ow u.1 u.2 28 fl_TRect y100]) rfl (pk_cons rfl pk_nil) (fun _ => rfl) (wn rfl) rfl Tryz.call48 (evl_cons rfl (evl_cons rfl evl_nil)) (fun W hW hp hE => F_etchhouseref1_grown_ok N p0 Ap0_0 cp0_0 (hp0_0.ext (hW.extS hp)) p1 y100 hy100 hE) ?_
  intro u hu
  obtain ⟨Ay100_0, cy100_0⟩ := u
  have gy100_0 := hu
  have hgy100_0 : SlF Ay100_0 (y100).length cy100_0 := gy100_0 --@phi
  show Tr _ _ (uf _ 11 (.slice Ay100_0 (y100).length cy100_0)) (up _ 2 (ow Ay100_0 cy100_0 28 fl_TRect y100)) _
  refine Tr.val (wn rfl) rfl (fun _ _ h1 h2 => run_assign (h1.ev rfl)) ?_
  refine Tr.nil (Tr.normThen ?_)
  refine Tr.seq ?_
  refine Tr.seq ?_
  refine Tr.region ?_
  refine Tr.val (wn rfl) rfl (fun _ _ h1 h2 => run_assign (h1.ev rfl)) ?_
  refine Tr.nil (Tr.normThen ?_)
  refine Tr.block ?_
  refine Tr.loop (σ := Int) (fun m w s => F_etchhouseref1_growOf_L1 N y100 m s = some r) (fun s => [(6, (.slice Ay100_0 (y100).length cy100_0)), (7, (.int .i64 s))]) (fun s => [(2, ow Ay100_0 cy100_0 28 fl_TRect y100)]) N 0 H (.cons rfl (.cons rfl .nil)) (.cons rfl .nil) (fun _ _ h => noSome (h)) ?_
  intro w leF_etchhouseref1_growOf_L1 mF_etchhouseref1_growOf_L1 x129 hs
  have H := hs
  replace H : F_etchhouseref1_growOf_L1 N y100 (mF_etchhouseref1_growOf_L1 + 1) x129 = some r := H
  replace leB := leB.trans leF_etchhouseref1_growOf_L1
  rw [F_etchhouseref1_growOf_L1.eq_2] at H
  show Tr _ _ (LF [(6, (.slice Ay100_0 (y100).length cy100_0)), (7, (.int .i64 x129))]) (LE [(2, ow Ay100_0 cy100_0 28 fl_TRect y100)]) _
  refine Tr.seq ?_
  refine Tr.seq ?_
  refine Tr.region ?_
  refine Tr.val (wn rfl) rfl (fun _ _ h1 h2 => run_move (h1.ev rfl)) ?_
  refine Tr.val (wn rfl) rfl (fun _ _ h1 h2 => run_move (h1.ev rfl)) ?_
  refine Tr.val (wn rfl) rfl (fun _ _ h1 h2 => run_len un_22 (h1.ev rfl)) ?_
  refine Tr.val (wn rfl) rfl (fun _ _ h1 h2 => run_lss (h1.ev rfl) (h1.ev rfl)) ?_
  refine Tr.nil (Tr.normThen ?_)
  refine Tr.cond rfl H (fun H => ?_) (fun H => ?_)
  · refine Tr.skip (Tr.normThen ?_)
    refine Tr.seq ?_
    refine Tr.block ?_
    refine Tr.seq ?_
    refine Tr.region ?_
    refine Tr.val (wn rfl) rfl (fun _ _ h1 h2 => run_move (h1.ev rfl)) ?_
    refine Tr.val (wn rfl) rfl (fun _ _ h1 h2 => run_move (h1.ev rfl)) ?_
    obtain ⟨x130, hx130, H⟩ := bnd H
    obtain ⟨hx1300, hx1301, hx1302⟩ := idx_some hx130
    refine Tr.val (wn rfl) rfl (fun _ _ h1 h2 => run_indexAddr el_22 (h1.ev rfl) hgy100_0 (h1.ev rfl) hx1300 hx1301) ?_
    refine Tr.val (wn rfl) rfl (fun _ _ h1 h2 => run_loadN (cs := [(.int .i64 x130.X0), (.int .i64 x130.Y0), (.int .i64 x130.X1), (.int .i64 x130.Y1)]) ag_28 sz_28 (h1.ev rfl) (CellsAt.take (rdo ef_TRect (k := 2) h2 rfl hx1302) 4) rfl) ?_
    refine Tr.alloc 7 (wn rfl) rfl ze_28 fun b131 => ?_
    refine Tr.store 7 (cs := [(.int .i64 x130.X0), (.int .i64 x130.Y0), (.int .i64 x130.X1), (.int .i64 x130.Y1)]) [(.int .i64 x130.X0), (.int .i64 x130.Y0), (.int .i64 x130.X1), (.int .i64 x130.Y1)] (wn rfl) rfl rfl rfl rfl sz_28 rfl rfl rfl ?_
    refine Tr.nil (Tr.normThen ?_)
    refine Tr.seq ?_
    refine Tr.region ?_
    refine Tr.val (wn rfl) rfl (fun _ _ h1 h2 => run_fieldAddr fo_28_0 (h1.ev rfl)) ?_
    refine Tr.val (wn rfl) rfl (fun _ _ h1 h2 => run_load1 ag_3 (h1.ev rfl) (rdb h2 (vs := [(.int .i64 x130.X0), (.int .i64 x130.Y0), (.int .i64 x130.X1), (.int .i64 x130.Y1)]) (k := 7) rfl 0) rfl) ?_
    obtain ⟨y132, hy132, H⟩ := bnd H
    refine Tr.call0 (r := (.bool y132)) (wn rfl) rfl Tryz.call49 (evl_cons rfl evl_nil) (fun W hW => F_etchhouseref1_At_ok x130.X0 y132 hy132 (HF.start _)) ?_
    refine Tr.val (wn rfl) rfl (fun _ _ h1 h2 => run_not (h1.ev rfl)) ?_
    refine Tr.val (wn rfl) rfl (fun _ _ h1 h2 => run_move (h1.ev rfl)) ?_
    obtain ⟨g134, hg134, H⟩ := bnd H
    refine Tr.mid0 5 [(6, (.slice Ay100_0 (y100).length cy100_0)), (7, (.int .i64 x129)), (8, (.pointer (some ⟨b131, 0, none⟩))), (31, (.bool g134))] [(2, ow Ay100_0 cy100_0 28 fl_TRect y100), (7, bx b131 #[(.int .i64 x130.X0), (.int .i64 x130.Y0), (.int .i64 x130.X1), (.int .i64 x130.Y1)] 28)] ?_ ?_
    · cases hg143 : (!y132)
      · rw [hg143] at hg134
        rw [if_neg (by decide)] at hg134
        have H := hg134
        refine Tr.val (wg rfl rfl rfl) rfl (fun _ _ h1 h2 => run_fieldAddr fo_28_1 (h1.ev rfl)) ?_
        refine Tr.val (wg rfl rfl rfl) rfl (fun _ _ h1 h2 => run_load1 ag_3 (h1.ev rfl) (rdb h2 (vs := [(.int .i64 x130.X0), (.int .i64 x130.Y0), (.int .i64 x130.X1), (.int .i64 x130.Y1)]) (k := 7) rfl 1) rfl) ?_
        obtain ⟨y135, hy135, H⟩ := bnd H
        refine Tr.call0 (r := (.bool y135)) (wg rfl rfl rfl) rfl Tryz.call49 (evl_cons rfl evl_nil) (fun W hW => F_etchhouseref1_At_ok x130.Y0 y135 hy135 (HF.start _)) ?_
        refine Tr.val (wg rfl rfl rfl) rfl (fun _ _ h1 h2 => run_not (h1.ev rfl)) ?_
        refine Tr.val (wn rfl) rfl (fun _ _ h1 h2 => run_pickF (h1.ev rfl) (h1.ev rfl)) ?_
        obtain rfl := Option.some.inj H
        exact Tr.nil (Tr.fin0 (.cons rfl (.cons rfl (.cons rfl (.cons rfl .nil)))) (.cons rfl (.cons rfl .nil)))
      · rw [hg143] at hg134
        rw [if_pos rfl] at hg134
        have H := hg134
        obtain rfl := Option.some.inj H
        refine Tr.pass rfl rfl rfl rfl rfl (by decide) ?_
        refine Tr.pass rfl rfl rfl rfl rfl (by decide) ?_
        refine Tr.pass rfl rfl rfl rfl rfl (by decide) ?_
        refine Tr.pass rfl rfl rfl rfl rfl (by decide) ?_
        refine Tr.val (wn rfl) rfl (fun _ _ h1 h2 => run_pickT (h1.ev rfl) (h1.ev rfl)) ?_
        exact Tr.nil (Tr.fin0 (.cons rfl (.cons rfl (.cons rfl (.cons rfl .nil)))) (.cons rfl (.cons rfl .nil)))
    · show Tr _ _ (LF [(6, (.slice Ay100_0 (y100).length cy100_0)), (7, (.int .i64 x129)), (8, (.pointer (some ⟨b131, 0, none⟩))), (31, (.bool g134))]) (LE [(2, ow Ay100_0 cy100_0 28 fl_TRect y100), (7, bx b131 #[(.int .i64 x130.X0), (.int .i64 x130.Y0), (.int .i64 x130.X1), (.int .i64 x130.Y1)] 28)]) _
      refine Tr.val (wn rfl) rfl (fun _ _ h1 h2 => run_move (h1.ev rfl)) ?_
      obtain ⟨g137, hg137, H⟩ := bnd H
      refine Tr.mid0 5 [(6, (.slice Ay100_0 (y100).length cy100_0)), (7, (.int .i64 x129)), (8, (.pointer (some ⟨b131, 0, none⟩))), (37, (.bool g137))] [(2, ow Ay100_0 cy100_0 28 fl_TRect y100), (7, bx b131 #[(.int .i64 x130.X0), (.int .i64 x130.Y0), (.int .i64 x130.X1), (.int .i64 x130.Y1)] 28)] ?_ ?_
      · cases hg143 : g134
        · rw [hg143] at hg137
          rw [if_neg (by decide)] at hg137
          have H := hg137
          refine Tr.val (wg rfl rfl rfl) rfl (fun _ _ h1 h2 => run_fieldAddr fo_28_2 (h1.ev rfl)) ?_
          refine Tr.val (wg rfl rfl rfl) rfl (fun _ _ h1 h2 => run_load1 ag_3 (h1.ev rfl) (rdb h2 (vs := [(.int .i64 x130.X0), (.int .i64 x130.Y0), (.int .i64 x130.X1), (.int .i64 x130.Y1)]) (k := 7) rfl 2) rfl) ?_
          obtain ⟨y138, hy138, H⟩ := bnd H
          refine Tr.call0 (r := (.bool y138)) (wg rfl rfl rfl) rfl Tryz.call49 (evl_cons rfl evl_nil) (fun W hW => F_etchhouseref1_At_ok x130.X1 y138 hy138 (HF.start _)) ?_
          refine Tr.val (wg rfl rfl rfl) rfl (fun _ _ h1 h2 => run_not (h1.ev rfl)) ?_
          refine Tr.val (wn rfl) rfl (fun _ _ h1 h2 => run_pickF (h1.ev rfl) (h1.ev rfl)) ?_
          obtain rfl := Option.some.inj H
          exact Tr.nil (Tr.fin0 (.cons rfl (.cons rfl (.cons rfl (.cons rfl .nil)))) (.cons rfl (.cons rfl .nil)))
        · rw [hg143] at hg137
          rw [if_pos rfl] at hg137
          have H := hg137
          obtain rfl := Option.some.inj H
          refine Tr.pass rfl rfl rfl rfl rfl (by decide) ?_
          refine Tr.pass rfl rfl rfl rfl rfl (by decide) ?_
          refine Tr.pass rfl rfl rfl rfl rfl (by decide) ?_
          refine Tr.pass rfl rfl rfl rfl rfl (by decide) ?_
          refine Tr.val (wn rfl) rfl (fun _ _ h1 h2 => run_pickT (h1.ev rfl) (h1.ev rfl)) ?_
          exact Tr.nil (Tr.fin0 (.cons rfl (.cons rfl (.cons rfl (.cons rfl .nil)))) (.cons rfl (.cons rfl .nil)))
      · show Tr _ _ (LF [(6, (.slice Ay100_0 (y100).length cy100_0)), (7, (.int .i64 x129)), (8, (.pointer (some ⟨b131, 0, none⟩))), (37, (.bool g137))]) (LE [(2, ow Ay100_0 cy100_0 28 fl_TRect y100), (7, bx b131 #[(.int .i64 x130.X0), (.int .i64 x130.Y0), (.int .i64 x130.X1), (.int .i64 x130.Y1)] 28)]) _
        refine Tr.val (wn rfl) rfl (fun _ _ h1 h2 => run_move (h1.ev rfl)) ?_
        obtain ⟨g140, hg140, H⟩ := bnd H
        refine Tr.mid0 5 [(6, (.slice Ay100_0 (y100).length cy100_0)), (7, (.int .i64 x129)), (43, (.bool g140))] [(2, ow Ay100_0 cy100_0 28 fl_TRect y100), (7, bx b131 #[(.int .i64 x130.X0), (.int .i64 x130.Y0), (.int .i64 x130.X1), (.int .i64 x130.Y1)] 28)] ?_ ?_
        · cases hg143 : g137
          · rw [hg143] at hg140
            rw [if_neg (by decide)] at hg140
            have H := hg140
            refine Tr.val (wg rfl rfl rfl) rfl (fun _ _ h1 h2 => run_fieldAddr fo_28_3 (h1.ev rfl)) ?_
            refine Tr.val (wg rfl rfl rfl) rfl (fun _ _ h1 h2 => run_load1 ag_3 (h1.ev rfl) (rdb h2 (vs := [(.int .i64 x130.X0), (.int .i64 x130.Y0), (.int .i64 x130.X1), (.int .i64 x130.Y1)]) (k := 7) rfl 3) rfl) ?_
            obtain ⟨y141, hy141, H⟩ := bnd H
            refine Tr.call0 (r := (.bool y141)) (wg rfl rfl rfl) rfl Tryz.call49 (evl_cons rfl evl_nil) (fun W hW => F_etchhouseref1_At_ok x130.Y1 y141 hy141 (HF.start _)) ?_
            refine Tr.val (wg rfl rfl rfl) rfl (fun _ _ h1 h2 => run_not (h1.ev rfl)) ?_
            refine Tr.val (wn rfl) rfl (fun _ _ h1 h2 => run_pickF (h1.ev rfl) (h1.ev rfl)) ?_
            obtain rfl := Option.some.inj H
            exact Tr.nil (Tr.fin0 (.cons rfl (.cons rfl (.cons rfl .nil))) (.cons rfl (.cons rfl .nil)))
          · rw [hg143] at hg140
            rw [if_pos rfl] at hg140
            have H := hg140
            obtain rfl := Option.some.inj H
            refine Tr.pass rfl rfl rfl rfl rfl (by decide) ?_
            refine Tr.pass rfl rfl rfl rfl rfl (by decide) ?_
            refine Tr.pass rfl rfl rfl rfl rfl (by decide) ?_
            refine Tr.pass rfl rfl rfl rfl rfl (by decide) ?_
            refine Tr.val (wn rfl) rfl (fun _ _ h1 h2 => run_pickT (h1.ev rfl) (h1.ev rfl)) ?_
            exact Tr.nil (Tr.fin0 (.cons rfl (.cons rfl (.cons rfl .nil))) (.cons rfl (.cons rfl .nil)))
        · show Tr _ _ (LF [(6, (.slice Ay100_0 (y100).length cy100_0)), (7, (.int .i64 x129)), (43, (.bool g140))]) (LE [(2, ow Ay100_0 cy100_0 28 fl_TRect y100), (7, bx b131 #[(.int .i64 x130.X0), (.int .i64 x130.Y0), (.int .i64 x130.X1), (.int .i64 x130.Y1)] 28)]) _
          refine Tr.nil (Tr.normThen ?_)
          refine Tr.cond rfl H (fun H => ?_) (fun H => ?_)
          · refine Tr.seq ?_
            refine Tr.region ?_
            refine Tr.val (wn rfl) rfl (fun _ _ h1 h2 => run_assign (h1.ev rfl)) ?_
            refine Tr.nilOwn 8 28 fl_TRect ?_
            show Tr _ _ (uf _ 4 (.slice none (([] : List TRect)).length 0)) _ _
            refine Tr.val (wn rfl) rfl (fun _ _ h1 h2 => run_assign (h1.ev rfl)) ?_
            refine Tr.nil (Tr.normThen ?_)
            refine Tr.ret (Tr.retBlock (Tr.retThen (Tr.retThen (Tr.retBlock (Tr.retThen ?_)))))
            obtain rfl := Option.some.inj H
            refine Tr.freeze 8 rfl fun w le143 hz142 => ?_
            replace leB := leB.trans le143
            replace leF_etchhouseref1_growOf_L1 := leF_etchhouseref1_growOf_L1.trans le143
            exact Tr.out (m := [(.slice none (([] : List TRect)).length 0), (.int .i64 1)]) [] (res_tmp rfl (res_tmp rfl res_nil)) (fun W hW => ⟨w, (none, 0), leB, rfl, hz142, hW.pick (ks := []) (by decide) pk_nil⟩)
          · refine Tr.skip (Tr.normBlock (Tr.normThen ?_))
            refine Tr.region ?_
            refine Tr.val (wn rfl) rfl (fun _ _ h1 h2 => run_move (h1.ev rfl)) ?_
            refine Tr.val (wn rfl) rfl (fun _ _ h1 h2 => run_add (h1.ev rfl) (h1.ev rfl)) ?_
            refine Tr.val (wn rfl) rfl (fun _ _ h1 h2 => run_assign (h1.ev rfl)) ?_
            refine Tr.nil ?_
            exact Tr.backThen leF_etchhouseref1_growOf_L1 (w64 (x129 + 1)) H (.cons rfl (.cons rfl .nil)) (.cons rfl .nil)
  · refine Tr.exit (Tr.exitThen (Tr.exitThen (Tr.exitBlock (Tr.normThen ?_))))
    refine Tr.seq ?_
    refine Tr.region ?_
    refine Tr.val (wn rfl) rfl (fun _ _ h1 h2 => run_move (h1.ev rfl)) ?_
    obtain ⟨y144, hy144, H⟩ := bnd H
    refine Tr.callM [9] [emp] (U := (Option Addr × Nat)) (fun u => (.slice u.1 (y144).length u.2)) (fun u => SlF u.1 (y144).length u.2) (fun u => [ow u.1 u.2 28 fl_TRect y144]) rfl (pk_cons rfl pk_nil) (fun _ => rfl) (wn rfl) rfl Tryz.call50 (evl_cons rfl evl_nil) (fun W hW hp hE => F_etchhouseref1_Canonical_ok N y100 Ay100_0 cy100_0 (hW.slS (k := 2) rfl hp rfl) y144 hy144 hE) ?_
    intro u hu
    obtain ⟨Ay144_0, cy144_0⟩ := u
    have gy144_0 := hu
    have hgy144_0 : SlF Ay144_0 (y144).length cy144_0 := gy144_0 --@phi
    show Tr _ _ (uf _ 45 (.slice Ay144_0 (y144).length cy144_0)) (up _ 9 (ow Ay144_0 cy144_0 28 fl_TRect y144)) _
    refine Tr.freeze 9 rfl fun w le147 hz146 => ?_
    replace leB := leB.trans le147
    replace leF_etchhouseref1_growOf_L1 := leF_etchhouseref1_growOf_L1.trans le147
    obtain ⟨y148, hy148, H⟩ := bnd H
    refine Tr.callG [] [] (U := (Option Addr × Nat)) (fun u => (.tuple #[(.slice u.1 (y148.1).length u.2), (.int .i64 y148.2)])) (fun O W u => Sl O W fl_TRect u.1 u.2 y148.1) (fun u => []) rfl pk_nil (fun _ => rfl) (wn rfl) rfl Tryz.call40 (evl_cons rfl evl_nil) (fun W hW hp hE => F_etchhouseref1_limited_ok y144 Ay144_0 cy144_0 (hz146.extO (hW.extS hp)) y148 hy148 hE) ?_
    intro w u le149 hu
    obtain ⟨Ay148_0, cy148_0⟩ := u
    have gy148_0 := hu
    replace hz146 := hz146.le le149
    replace leB := leB.trans le149
    replace leF_etchhouseref1_growOf_L1 := leF_etchhouseref1_growOf_L1.trans le149
    have hgy148_0 : Sl w.O w.W fl_TRect Ay148_0 cy148_0 y148.1 := gy148_0 --@phi
    show Tr _ _ (uf _ 46 (.tuple #[(.slice Ay148_0 (y148.1).length cy148_0), (.int .i64 y148.2)])) (_) _
    refine Tr.val (wn rfl) rfl (fun _ _ h1 h2 => run_extract (h1.ev rfl) rfl) ?_
    refine Tr.val (wn rfl) rfl (fun _ _ h1 h2 => run_extract (h1.ev rfl) rfl) ?_
    refine Tr.val (wn rfl) rfl (fun _ _ h1 h2 => run_assign (h1.ev rfl)) ?_
    refine Tr.val (wn rfl) rfl (fun _ _ h1 h2 => run_assign (h1.ev rfl)) ?_
    refine Tr.nil (Tr.normThen ?_)
    refine Tr.ret ?_
    obtain rfl := Option.some.inj H
    exact Tr.out (m := [(.slice Ay148_0 (y148.1).length cy148_0), (.int .i64 y148.2)]) [] (res_tmp rfl (res_tmp rfl res_nil)) (fun W hW => ⟨w, (Ay148_0, cy148_0), leB, rfl, hgy148_0, hW.pick (ks := []) (by decide) pk_nil⟩)

theorem F_etchhouseref1_Grow_ok (N : Nat) {w : Bs} (p0 : (List TRect)) (Ap0_0 : Option Addr) (cp0_0 : Nat) (hp0_0 : Sl w.R w.W fl_TRect Ap0_0 cp0_0 p0) (p1 : Int) (r : ((List TRect) × Int)) (H : F_etchhouseref1_Grow N p0 p1 = some r) (hE : HF w w.W (LEn [])) : Calls Tryz.prog 6 [(.slice Ap0_0 (p0).length cp0_0), (.int .i64 p1)].toArray w.W fun e W' => ∃ (w' : Bs) (u : (Option Addr × Nat)), w.Le w' ∧ e = .returned (.tuple #[(.slice u.1 (r.1).length u.2), (.int .i64 r.2)]) ∧ (Sl w'.O w'.W fl_TRect u.1 u.2 r.1) ∧ HF w' W' (LEn []) := by
  unfold F_etchhouseref1_Grow at H
  have leB := Bs.Le.refl w
  refine Tr.enter (n := 18) Tryz.func6 rfl rfl rfl hE ?_
  refine Tr.seq ?_
  refine Tr.region ?_
  refine Tr.val (wn rfl) rfl (fun _ _ h1 h2 => run_assign (h1.ev rfl)) ?_
  refine Tr.nilOwn 1 28 fl_TRect ?_
  show Tr _ _ (uf _ 4 (.slice none (([] : List TRect)).length 0)) _ _
  refine Tr.val (wn rfl) rfl (fun _ _ h1 h2 => run_assign (h1.ev rfl)) ?_
  refine Tr.nil (Tr.normThen ?_)
  refine Tr.seq ?_
  refine Tr.seq ?_
  refine Tr.region ?_
  refine Tr.val (wn rfl) rfl (fun _ _ h1 h2 => run_move (h1.ev rfl)) ?_
  refine Tr.val (wn rfl) rfl (fun _ _ h1 h2 => run_move (h1.ev rfl)) ?_
  obtain ⟨y100, hy100, H⟩ := bnd H
  refine Tr.call0 (r := (.int .i64 y100)) (wn rfl) rfl Tryz.call23 (evl_cons rfl (evl_cons rfl evl_nil)) (fun W hW => F_etchhouseref1_checkGrow_ok N p0 Ap0_0 cp0_0 (hp0_0.ext hW.extAll) p1 y100 hy100 (HF.start _)) ?_
  refine Tr.val (wn rfl) rfl (fun _ _ h1 h2 => run_assign (h1.ev rfl)) ?_
  refine Tr.nil (Tr.normThen ?_)
  refine Tr.seq ?_
  refine Tr.region ?_
  refine Tr.val (wn rfl) rfl (fun _ _ h1 h2 => run_move (h1.ev rfl)) ?_
  refine Tr.val (wn rfl) rfl (fun _ _ h1 h2 => run_neq (h1.ev rfl) (h1.ev rfl)) ?_
  refine Tr.nil (Tr.normThen ?_)
  refine Tr.cond rfl H (fun H => ?_) (fun H => ?_)
  · refine Tr.seq ?_
    refine Tr.region ?_
    refine Tr.val (wn rfl) rfl (fun _ _ h1 h2 => run_move (h1.ev rfl)) ?_
    refine Tr.val (wn rfl) rfl (fun _ _ h1 h2 => run_assign (h1.ev rfl)) ?_
    refine Tr.nilOwn 2 28 fl_TRect ?_
    show Tr _ _ (uf _ 4 (.slice none (([] : List TRect)).length 0)) _ _
    refine Tr.val (wn rfl) rfl (fun _ _ h1 h2 => run_assign (h1.ev rfl)) ?_
    refine Tr.nil (Tr.normThen ?_)
    refine Tr.ret (Tr.retThen ?_)
    obtain rfl := Option.some.inj H
    refine Tr.freeze 2 rfl fun w le102 hz101 => ?_
    replace hp0_0 := hp0_0.leR le102
    replace leB := leB.trans le102
    exact Tr.out (m := [(.slice none (([] : List TRect)).length 0), (.int .i64 y100)]) [] (res_tmp rfl (res_tmp rfl res_nil)) (fun W hW => ⟨w, (none, 0), leB, rfl, hz101, hW.pick (ks := []) (by decide) pk_nil⟩)
  · refine Tr.skip (Tr.normThen ?_)
    refine Tr.seq ?_
    refine Tr.region ?_
    refine Tr.val (wn rfl) rfl (fun _ _ h1 h2 => run_move (h1.ev rfl)) ?_
    refine Tr.val (wn rfl) rfl (fun _ _ h1 h2 => run_move (h1.ev rfl)) ?_
    obtain ⟨y103, hy103, H⟩ := bnd H
    refine Tr.callG [] [] (U := (Option Addr × Nat)) (fun u => (.tuple #[(.slice u.1 (y103.1).length u.2), (.int .i64 y103.2)])) (fun O W u => Sl O W fl_TRect u.1 u.2 y103.1) (fun u => []) rfl pk_nil (fun _ => rfl) (wn rfl) rfl Tryz.call24 (evl_cons rfl (evl_cons rfl evl_nil)) (fun W hW hp hE => F_etchhouseref1_growOf_ok N p0 Ap0_0 cp0_0 (hp0_0.ext (hW.extS hp)) p1 y103 hy103 hE) ?_
    intro w u le104 hu
    obtain ⟨Ay103_0, cy103_0⟩ := u
    have gy103_0 := hu
    replace hp0_0 := hp0_0.leR le104
    replace leB := leB.trans le104
    have hgy103_0 : Sl w.O w.W fl_TRect Ay103_0 cy103_0 y103.1 := gy103_0 --@phi
    show Tr _ _ (uf _ 15 (.tuple #[(.slice Ay103_0 (y103.1).length cy103_0), (.int .i64 y103.2)])) (_) _
    refine Tr.val (wn rfl) rfl (fun _ _ h1 h2 => run_extract (h1.ev rfl) rfl) ?_
    refine Tr.val (wn rfl) rfl (fun _ _ h1 h2 => run_extract (h1.ev rfl) rfl) ?_
    refine Tr.val (wn rfl) rfl (fun _ _ h1 h2 => run_assign (h1.ev rfl)) ?_
    refine Tr.val (wn rfl) rfl (fun _ _ h1 h2 => run_assign (h1.ev rfl)) ?_
    refine Tr.nil (Tr.normThen ?_)
    refine Tr.ret ?_
    obtain rfl := Option.some.inj H
    exact Tr.out (m := [(.slice Ay103_0 (y103.1).length cy103_0), (.int .i64 y103.2)]) [] (res_tmp rfl (res_tmp rfl res_nil)) (fun W hW => ⟨w, (Ay103_0, cy103_0), leB, rfl, hgy103_0, hW.pick (ks := []) (by decide) pk_nil⟩)

theorem F_shape_Shrink_ok (N : Nat) {w : Bs} (p0 : (List TRect)) (Ap0_0 : Option Addr) (cp0_0 : Nat) (hp0_0 : Sl w.R w.W fl_TRect Ap0_0 cp0_0 p0) (p1 : Int) (r : ((List TRect) × Int)) (H : F_shape_Shrink N p0 p1 = some r) (hE : HF w w.W (LEn [emp])) : Calls Tryz.prog 8 [(.slice Ap0_0 (p0).length cp0_0), (.int .i64 p1)].toArray w.W fun e W' => ∃ u : (Option Addr × Nat), e = .returned (.tuple #[(.slice u.1 (r.1).length u.2), (.int .i64 r.2)]) ∧ (SlF u.1 (r.1).length u.2) ∧ HF w W' (LEn [ow u.1 u.2 28 fl_TRect r.1]) := by
  unfold F_shape_Shrink at H
  have leB := Bs.Le.refl w
  refine Tr.enter (n := 12) Tryz.func8 rfl rfl rfl hE ?_
  refine Tr.seq ?_
  refine Tr.region ?_
  refine Tr.val (wn rfl) rfl (fun _ _ h1 h2 => run_assign (h1.ev rfl)) ?_
  refine Tr.nilOwn 1 28 fl_TRect ?_
  show Tr _ _ (uf _ 4 (.slice none (([] : List TRect)).length 0)) _ _
  refine Tr.val (wn rfl) rfl (fun _ _ h1 h2 => run_assign (h1.ev rfl)) ?_
  refine Tr.nil (Tr.normThen ?_)
  refine Tr.seq ?_
  refine Tr.region ?_
  refine Tr.val (wn rfl) rfl (fun _ _ h1 h2 => run_move (h1.ev rfl)) ?_
  refine Tr.val (wn rfl) rfl (fun _ _ h1 h2 => run_move (h1.ev rfl)) ?_
  refine Tr.buildSlice 2 (e := 42) (vs := [(0, (.func (.func 25) #[] #[]))]) (cs := [(.func (.func 25) #[] #[])]) (wn rfl) rfl (evs_cons rfl evs_nil) (by kernel_rfl) fun b100 => ?_
  refine Tr.own 2 fl_func [25] (css := [[(.func (.func 25) #[] #[])]]) rfl (.cons ⟨(), trivial, rfl⟩ .nil) rfl (by decide) (lit_max rfl) ?_
  obtain ⟨y101, hy101, H⟩ := bnd H
  refine Tr.callM [3] [emp] (U := (Option Addr × Nat)) (fun u => (.tuple #[(.slice u.1 (y101.1).length u.2), (.int .i64 y101.2)])) (fun u => SlF u.1 (y101.1).length u.2) (fun u => [ow u.1 u.2 28 fl_TRect y101.1]) rfl (pk_cons rfl pk_nil) (fun _ => rfl) (wn rfl) rfl Tryz.call21 (evl_cons rfl (evl_cons rfl (evl_cons rfl evl_nil))) (fun W hW hp hE => F_shape_steps_ok N p0 Ap0_0 cp0_0 (hp0_0.ext (hW.extS hp)) p1 [25] (some ⟨b100, 0, none⟩) 1 (hW.slS (k := 2) rfl hp rfl) y101 hy101 hE) ?_
  intro u hu
  obtain ⟨Ay101_0, cy101_0⟩ := u
  have gy101_0 := hu
  have hgy101_0 : SlF Ay101_0 (y101.1).length cy101_0 := gy101_0 --@phi
  show Tr _ _ (uf _ 9 (.tuple #[(.slice Ay101_0 (y101.1).length cy101_0), (.int .i64 y101.2)])) (up _ 3 (ow Ay101_0 cy101_0 28 fl_TRect y101.1)) _
  refine Tr.val (wn rfl) rfl (fun _ _ h1 h2 => run_extract (h1.ev rfl) rfl) ?_
  refine Tr.val (wn rfl) rfl (fun _ _ h1 h2 => run_extract (h1.ev rfl) rfl) ?_
  refine Tr.val (wn rfl) rfl (fun _ _ h1 h2 => run_assign (h1.ev rfl)) ?_
  refine Tr.val (wn rfl) rfl (fun _ _ h1 h2 => run_assign (h1.ev rfl)) ?_
  refine Tr.nil (Tr.normThen ?_)
  refine Tr.ret ?_
  obtain rfl := Option.some.inj H
  exact Tr.out (m := [(.slice Ay101_0 (y101.1).length cy101_0), (.int .i64 y101.2)]) [] (res_tmp rfl (res_tmp rfl res_nil)) (fun W hW => ⟨(Ay101_0, cy101_0), rfl, hgy101_0, HF.lowE leB (hW.pick (ks := [3]) (by decide) (pk_cons rfl pk_nil)) ⟨ow_any _ _ _ _ tr_TRect, trivial⟩⟩)

theorem F_etchhouseref1_BoundsOf_ok (N : Nat) {w : Bs} (p0 : (List TRect)) (Ap0_0 : Option Addr) (cp0_0 : Nat) (hp0_0 : Sl w.R w.W fl_TRect Ap0_0 cp0_0 p0) (r : TRect) (H : F_etchhouseref1_BoundsOf N p0 = some r) (hE : HF w w.W E0) : Calls Tryz.prog 54 [(.slice Ap0_0 (p0).length cp0_0)].toArray w.W fun e W' => e = .returned (.agg #[(.int .i64 r.X0), (.int .i64 r.Y0), (.int .i64 r.X1), (.int .i64 r.Y1)]) ∧ HF w W' E0 := by
  unfold F_etchhouseref1_BoundsOf at H
  have leB := Bs.Le.refl w
  refine Tr.enter (n := 51) Tryz.func54 rfl rfl rfl hE ?_
  refine Tr.seq ?_
  refine Tr.region ?_
  refine Tr.alloc 1 (wn rfl) rfl ze_28 fun b100 => ?_
  refine Tr.nil (Tr.normThen ?_)
  refine Tr.seq ?_
  refine Tr.region ?_
  refine Tr.val (wn rfl) rfl (fun _ _ h1 h2 => run_move (h1.ev rfl)) ?_
  obtain ⟨x101, hx101, H⟩ := bnd H
  obtain ⟨hx1010, hx1011, hx1012⟩ := idx_some hx101
  refine Tr.val (wn rfl) rfl (fun _ _ h1 h2 => run_indexAddr el_22 (h1.ev rfl) hp0_0.form (h1.ev rfl) hx1010 hx1011) ?_
  refine Tr.val (wn rfl) rfl (fun _ _ h1 h2 => run_loadN (cs := [(.int .i64 x101.X0), (.int .i64 x101.Y0), (.int .i64 x101.X1), (.int .i64 x101.Y1)]) ag_28 sz_28 (h1.ev rfl) (CellsAt.take (rdF ef_TRect hp0_0 hx1012 h2) 4) rfl) ?_
  refine Tr.alloc 2 (wn rfl) rfl ze_28 fun b102 => ?_
  refine Tr.store 2 (cs := [(.int .i64 x101.X0), (.int .i64 x101.Y0), (.int .i64 x101.X1), (.int .i64 x101.Y1)]) [(.int .i64 x101.X0), (.int .i64 x101.Y0), (.int .i64 x101.X1), (.int .i64 x101.Y1)] (wn rfl) rfl rfl rfl rfl sz_28 rfl rfl rfl ?_
  refine Tr.nil (Tr.normThen ?_)
  refine Tr.seq ?_
  refine Tr.seq ?_
  refine Tr.region ?_
  refine Tr.val (wn rfl) rfl (fun _ _ h1 h2 => run_assign (h1.ev rfl)) ?_
  refine Tr.nil (Tr.normThen ?_)
  refine Tr.block ?_
  refine Tr.loop (σ := Int × Int × Int × Int × Int) (fun m w s => F_etchhouseref1_BoundsOf_L1 p0 m s.1 s.2.1 s.2.2.1 s.2.2.2.1 s.2.2.2.2 = some r) (fun s => [(0, (.slice Ap0_0 (p0).length cp0_0)), (2, (.pointer (some ⟨b100, 0, none⟩))), (3, (.pointer (some ⟨b102, 0, none⟩))), (4, (.int .i64 s.2.2.2.2))]) (fun s => [(1, bx b100 #[(.int .i64 0), (.int .i64 0), (.int .i64 0), (.int .i64 0)] 28), (2, bx b102 #[(.int .i64 s.1), (.int .i64 s.2.1), (.int .i64 s.2.2.1), (.int .i64 s.2.2.2.1)] 28)]) N (x101.X0, x101.Y0, x101.X1, x101.Y1, 0) H (.cons rfl (.cons rfl (.cons rfl (.cons rfl .nil)))) (.cons rfl (.cons rfl .nil)) (fun _ _ h => noSome (h)) ?_
  intro w leF_etchhouseref1_BoundsOf_L1 mF_etchhouseref1_BoundsOf_L1 s hs
  obtain ⟨x128, x129, x130, x131, x132⟩ := s
  have H := hs
  replace H : F_etchhouseref1_BoundsOf_L1 p0 (mF_etchhouseref1_BoundsOf_L1 + 1) x128 x129 x130 x131 x132 = some r := H
  replace hp0_0 := hp0_0.leR leF_etchhouseref1_BoundsOf_L1
  replace leB := leB.trans leF_etchhouseref1_BoundsOf_L1
  rw [F_etchhouseref1_BoundsOf_L1.eq_2] at H
  show Tr _ _ (LF [(0, (.slice Ap0_0 (p0).length cp0_0)), (2, (.pointer (some ⟨b100, 0, none⟩))), (3, (.pointer (some ⟨b102, 0, none⟩))), (4, (.int .i64 x132))]) (LE [(1, bx b100 #[(.int .i64 0), (.int .i64 0), (.int .i64 0), (.int .i64 0)] 28), (2, bx b102 #[(.int .i64 x128), (.int .i64 x129), (.int .i64 x130), (.int .i64 x131)] 28)]) _
  refine Tr.seq ?_
  refine Tr.seq ?_
  refine Tr.region ?_
  refine Tr.val (wn rfl) rfl (fun _ _ h1 h2 => run_move (h1.ev rfl)) ?_
  refine Tr.val (wn rfl) rfl (fun _ _ h1 h2 => run_move (h1.ev rfl)) ?_
  refine Tr.val (wn rfl) rfl (fun _ _ h1 h2 => run_len un_22 (h1.ev rfl)) ?_
  refine Tr.val (wn rfl) rfl (fun _ _ h1 h2 => run_lss (h1.ev rfl) (h1.ev rfl)) ?_
  refine Tr.nil (Tr.normThen ?_)
  refine Tr.cond rfl H (fun H => ?_) (fun H => ?_)
  · refine Tr.skip (Tr.normThen ?_)
    refine Tr.seq ?_
    refine Tr.block ?_
    refine Tr.drawC 38 [(33, fun x => x = b102), (35, fun x => x = b102), (37, fun x => x = b102)] [] (by kernel_rfl) (by kernel_rfl) fun sz133 hlosz133 hEsz133 => ?_
    refine Dr.quiet 0 [(14, (.pointer (some ⟨b102, 0, none⟩)))] (by kernel_rfl) rfl rfl (by kernel_rfl) ?_ rfl rfl ?_
    · refine Tq.val (wn rfl) rfl (fun _ _ h1 h2 => run_fieldAddr fo_28_0 (h1.ev rfl)) ?_
      exact Tq.fin (.cons rfl .nil)
    refine Dr.quiet 1 [(15, (.int .i64 x128))] (by kernel_rfl) rfl rfl (by kernel_rfl) ?_ rfl rfl ?_
    · refine Tq.val (wn rfl) rfl (fun _ _ h1 h2 => run_load1 ag_3 (h1.ev rfl) (rdb h2 (vs := [(.int .i64 x128), (.int .i64 x129), (.int .i64 x130), (.int .i64 x131)]) (k := 2) rfl 0) rfl) ?_
      exact Tq.fin (.cons rfl .nil)
    refine Dr.quiet 2 [(16, (.slice Ap0_0 (p0).length cp0_0))] (by kernel_rfl) rfl rfl (by kernel_rfl) ?_ rfl rfl ?_
    · refine Tq.val (wn rfl) rfl (fun _ _ h1 h2 => run_move (h1.ev rfl)) ?_
      exact Tq.fin (.cons rfl .nil)
    refine Dr.quiet 3 [(17, (.int .i64 x132))] (by kernel_rfl) rfl rfl (by kernel_rfl) ?_ rfl rfl ?_
    · refine Tq.val (wn rfl) rfl (fun _ _ h1 h2 => run_move (h1.ev rfl)) ?_
      exact Tq.fin (.cons rfl .nil)
    obtain ⟨x134, hx134, H⟩ := bnd H
    obtain ⟨hx1340, hx1341, hx1342⟩ := idx_some hx134
    refine Dr.quiet 4 [(18, (.pointer (some ⟨adB Ap0_0, adO Ap0_0 + (x132).toNat * 4, none⟩)))] (by kernel_rfl) rfl rfl (by kernel_rfl) ?_ rfl rfl ?_
    · refine Tq.val (wn rfl) rfl (fun _ _ h1 h2 => run_indexAddr el_22 (h1.ev rfl) hp0_0.form (h1.ev rfl) hx1340 hx1341) ?_
      exact Tq.fin (.cons rfl .nil)
    refine Dr.quiet 5 [(19, (.pointer (some ⟨adB Ap0_0, adO Ap0_0 + (x132).toNat * 4 + 0, none⟩)))] (by kernel_rfl) rfl rfl (by kernel_rfl) ?_ rfl rfl ?_
    · refine Tq.val (wn rfl) rfl (fun _ _ h1 h2 => run_fieldAddr fo_28_0 (h1.ev rfl)) ?_
      exact Tq.fin (.cons rfl .nil)
    refine Dr.quiet 6 [(20, (.int .i64 x134.X0))] (by kernel_rfl) rfl rfl (by kernel_rfl) ?_ rfl rfl ?_
    · refine Tq.val (wn rfl) rfl (fun _ _ h1 h2 => run_load1 ag_3 (h1.ev rfl) (CellsAt.drop (rdF ef_TRect hp0_0 hx1342 h2) 0) rfl) ?_
      exact Tq.fin (.cons rfl .nil)
    refine Dr.quiet 7 [(21, (.int .i64 (min x128 x134.X0)))] (by kernel_rfl) rfl rfl (by kernel_rfl) ?_ rfl rfl ?_
    · refine Tq.val (wn rfl) rfl (fun _ _ h1 h2 => run_min (h1.ev rfl) (h1.ev rfl) _) ?_
      exact Tq.fin (.cons rfl .nil)
    refine Dr.quiet 8 [(22, (.pointer (some ⟨b102, 1, none⟩)))] (by kernel_rfl) rfl rfl (by kernel_rfl) ?_ rfl rfl ?_
    · refine Tq.val (wn rfl) rfl (fun _ _ h1 h2 => run_fieldAddr fo_28_1 (h1.ev rfl)) ?_
      exact Tq.fin (.cons rfl .nil)
    refine Dr.quiet 9 [(23, (.int .i64 x129))] (by kernel_rfl) rfl rfl (by kernel_rfl) ?_ rfl rfl ?_
    · refine Tq.val (wn rfl) rfl (fun _ _ h1 h2 => run_load1 ag_3 (h1.ev rfl) (rdb h2 (vs := [(.int .i64 x128), (.int .i64 x129), (.int .i64 x130), (.int .i64 x131)]) (k := 2) rfl 1) rfl) ?_
      exact Tq.fin (.cons rfl .nil)
    refine Dr.quietP 10 (by kernel_rfl) rfl (wn rfl) rfl (by kernel_rfl) (fun _ _ h1 => run_move (h1.ev rfl)) rfl ?_
    refine Dr.quietP 11 (by kernel_rfl) rfl (wn rfl) rfl (by kernel_rfl) (fun _ _ h1 => run_move (h1.ev rfl)) rfl ?_
    obtain ⟨x135, hx135, H⟩ := bnd H
    obtain ⟨hx1350, hx1351, hx1352⟩ := idx_some hx135
    refine Dr.quietP 12 (by kernel_rfl) rfl (wn rfl) rfl (by kernel_rfl) (fun _ _ h1 => run_indexAddr el_22 (h1.ev rfl) hp0_0.form (h1.ev rfl) hx1350 hx1351) rfl ?_
    refine Dr.quietP 13 (by kernel_rfl) rfl (wn rfl) rfl (by kernel_rfl) (fun _ _ h1 => run_fieldAddr fo_28_1 (h1.ev rfl)) rfl ?_
    refine Dr.quietZ 14 [(28, (.int .i64 x135.Y0))] [33] false (by kernel_rfl) rfl rfl (by kernel_rfl) (fun W W' h2 hsW hk => HF.keepZ (le := []) (ks := [(2, fun x => x = b102)]) (s0 := sz133) false h2 hk (fun h => absurd h (by decide)) .nil (fun b hb => hb.elim (fun ⟨p, hp, hf, hb⟩ => by simp only [List.mem_cons, List.not_mem_nil, or_false] at hp; rcases hp with rfl | rfl | rfl; exact .inl ⟨_, List.mem_cons_self, hb⟩; exact absurd hf (by simp); exact absurd hf (by simp)) (fun hb => absurd hb.1 (by decide))) (List.forall_mem_cons.2 ⟨fun b hb => hb, (fun _ h => nomatch h)⟩) rfl) ?_ rfl rfl ?_
    · refine Tq.val (wn rfl) rfl (fun _ _ h1 h2 => run_load1 ag_3 (h1.ev rfl) (CellsAt.drop (rdF ef_TRect hp0_0 hx1352 h2) 1) rfl) ?_
      exact Tq.fin (.cons rfl .nil)
    refine Dr.quietP 15 (by kernel_rfl) rfl (wn rfl) rfl (by kernel_rfl) (fun _ _ h1 => run_min (h1.ev rfl) (h1.ev rfl) _) rfl ?_
    refine Dr.quiet 16 [(30, (.pointer (some ⟨b102, 2, none⟩)))] (by kernel_rfl) rfl rfl (by kernel_rfl) ?_ rfl rfl ?_
    · refine Tq.val (wn rfl) rfl (fun _ _ h1 h2 => run_fieldAddr fo_28_2 (h1.ev rfl)) ?_
      exact Tq.fin (.cons rfl .nil)
    refine Dr.quiet 17 [(31, (.int .i64 x130))] (by kernel_rfl) rfl rfl (by kernel_rfl) ?_ rfl rfl ?_
    · refine Tq.val (wn rfl) rfl (fun _ _ h1 h2 => run_load1 ag_3 (h1.ev rfl) (rdb h2 (vs := [(.int .i64 x128), (.int .i64 x129), (.int .i64 x130), (.int .i64 x131)]) (k := 2) rfl 2) rfl) ?_
      exact Tq.fin (.cons rfl .nil)
    refine Dr.quietP 18 (by kernel_rfl) rfl (wn rfl) rfl (by kernel_rfl) (fun _ _ h1 => run_move (h1.ev rfl)) rfl ?_
    refine Dr.quietP 19 (by kernel_rfl) rfl (wn rfl) rfl (by kernel_rfl) (fun _ _ h1 => run_move (h1.ev rfl)) rfl ?_
    obtain ⟨x136, hx136, H⟩ := bnd H
    obtain ⟨hx1360, hx1361, hx1362⟩ := idx_some hx136
    refine Dr.quietP 20 (by kernel_rfl) rfl (wn rfl) rfl (by kernel_rfl) (fun _ _ h1 => run_indexAddr el_22 (h1.ev rfl) hp0_0.form (h1.ev rfl) hx1360 hx1361) rfl ?_
    refine Dr.quietP 21 (by kernel_rfl) rfl (wn rfl) rfl (by kernel_rfl) (fun _ _ h1 => run_fieldAddr fo_28_2 (h1.ev rfl)) rfl ?_
    refine Dr.quietZ 22 [(36, (.int .i64 x136.X1))] [33, 35] false (by kernel_rfl) rfl rfl (by kernel_rfl) (fun W W' h2 hsW hk => HF.keepZ (le := []) (ks := [(2, fun x => x = b102), (2, fun x => x = b102)]) (s0 := sz133) false h2 hk (fun h => absurd h (by decide)) .nil (fun b hb => hb.elim (fun ⟨p, hp, hf, hb⟩ => by simp only [List.mem_cons, List.not_mem_nil, or_false] at hp; rcases hp with rfl | rfl | rfl; exact .inl ⟨_, List.mem_cons_self, hb⟩; exact .inl ⟨_, (List.mem_cons_of_mem _ List.mem_cons_self), hb⟩; exact absurd hf (by simp)) (fun hb => absurd hb.1 (by decide))) (List.forall_mem_cons.2 ⟨fun b hb => hb, (List.forall_mem_cons.2 ⟨fun b hb => hb, (fun _ h => nomatch h)⟩)⟩) rfl) ?_ rfl rfl ?_
    · refine Tq.val (wn rfl) rfl (fun _ _ h1 h2 => run_load1 ag_3 (h1.ev rfl) (CellsAt.drop (rdF ef_TRect hp0_0 hx1362 h2) 2) rfl) ?_
      exact Tq.fin (.cons rfl .nil)
    refine Dr.quietP 23 (by kernel_rfl) rfl (wn rfl) rfl (by kernel_rfl) (fun _ _ h1 => run_max (h1.ev rfl) (h1.ev rfl) _) rfl ?_
    refine Dr.quiet 24 [(38, (.pointer (some ⟨b102, 3, none⟩)))] (by kernel_rfl) rfl rfl (by kernel_rfl) ?_ rfl rfl ?_
    · refine Tq.val (wn rfl) rfl (fun _ _ h1 h2 => run_fieldAddr fo_28_3 (h1.ev rfl)) ?_
      exact Tq.fin (.cons rfl .nil)
    refine Dr.quiet 25 [(39, (.int .i64 x131))] (by kernel_rfl) rfl rfl (by kernel_rfl) ?_ rfl rfl ?_
    · refine Tq.val (wn rfl) rfl (fun _ _ h1 h2 => run_load1 ag_3 (h1.ev rfl) (rdb h2 (vs := [(.int .i64 x128), (.int .i64 x129), (.int .i64 x130), (.int .i64 x131)]) (k := 2) rfl 3) rfl) ?_
      exact Tq.fin (.cons rfl .nil)
    refine Dr.quietP 26 (by kernel_rfl) rfl (wn rfl) rfl (by kernel_rfl) (fun _ _ h1 => run_move (h1.ev rfl)) rfl ?_
    refine Dr.quietP 27 (by kernel_rfl) rfl (wn rfl) rfl (by kernel_rfl) (fun _ _ h1 => run_move (h1.ev rfl)) rfl ?_
    obtain ⟨x137, hx137, H⟩ := bnd H
    obtain ⟨hx1370, hx1371, hx1372⟩ := idx_some hx137
    refine Dr.quietP 28 (by kernel_rfl) rfl (wn rfl) rfl (by kernel_rfl) (fun _ _ h1 => run_indexAddr el_22 (h1.ev rfl) hp0_0.form (h1.ev rfl) hx1370 hx1371) rfl ?_
    refine Dr.quietP 29 (by kernel_rfl) rfl (wn rfl) rfl (by kernel_rfl) (fun _ _ h1 => run_fieldAddr fo_28_3 (h1.ev rfl)) rfl ?_
    refine Dr.quietZ 30 [(44, (.int .i64 x137.Y1))] [33, 35, 37] false (by kernel_rfl) rfl rfl (by kernel_rfl) (fun W W' h2 hsW hk => HF.keepZ (le := []) (ks := [(2, fun x => x = b102), (2, fun x => x = b102), (2, fun x => x = b102)]) (s0 := sz133) false h2 hk (fun h => absurd h (by decide)) .nil (fun b hb => hb.elim (fun ⟨p, hp, hf, hb⟩ => by simp only [List.mem_cons, List.not_mem_nil, or_false] at hp; rcases hp with rfl | rfl | rfl; exact .inl ⟨_, List.mem_cons_self, hb⟩; exact .inl ⟨_, (List.mem_cons_of_mem _ List.mem_cons_self), hb⟩; exact .inl ⟨_, (List.mem_cons_of_mem _ (List.mem_cons_of_mem _ List.mem_cons_self)), hb⟩) (fun hb => absurd hb.1 (by decide))) (List.forall_mem_cons.2 ⟨fun b hb => hb, (List.forall_mem_cons.2 ⟨fun b hb => hb, (List.forall_mem_cons.2 ⟨fun b hb => hb, (fun _ h => nomatch h)⟩)⟩)⟩) rfl) ?_ rfl rfl ?_
    · refine Tq.val (wn rfl) rfl (fun _ _ h1 h2 => run_load1 ag_3 (h1.ev rfl) (CellsAt.drop (rdF ef_TRect hp0_0 hx1372 h2) 3) rfl) ?_
      exact Tq.fin (.cons rfl .nil)
    refine Dr.quietP 31 (by kernel_rfl) rfl (wn rfl) rfl (by kernel_rfl) (fun _ _ h1 => run_max (h1.ev rfl) (h1.ev rfl) _) rfl ?_
    refine Dr.quiet 32 [(46, (.pointer (some ⟨b102, 0, none⟩)))] (by kernel_rfl) rfl rfl (by kernel_rfl) ?_ rfl rfl ?_
    · refine Tq.val (wn rfl) rfl (fun _ _ h1 h2 => run_fieldAddr fo_28_0 (h1.ev rfl)) ?_
      exact Tq.fin (.cons rfl .nil)
    refine Dr.one 33 (by kernel_rfl) ?_
    refine St.store 33 2 (cs := [(.int .i64 (min x128 x134.X0))]) [(.int .i64 (min x128 x134.X0)), (.int .i64 x129), (.int .i64 x130), (.int .i64 x131)] rfl (wn rfl) (.inl ⟨_, List.mem_cons_self, rfl, rfl⟩) rfl rfl rfl rfl sz_3 rfl rfl rfl ?_
    refine Dr.quiet 34 [(47, (.pointer (some ⟨b102, 1, none⟩)))] (by kernel_rfl) rfl rfl (by kernel_rfl) ?_ rfl rfl ?_
    · refine Tq.val (wn rfl) rfl (fun _ _ h1 h2 => run_fieldAddr fo_28_1 (h1.ev rfl)) ?_
      exact Tq.fin (.cons rfl .nil)
    refine Dr.one 35 (by kernel_rfl) ?_
    refine St.store 35 2 (cs := [(.int .i64 (min x129 x135.Y0))]) [(.int .i64 (min x128 x134.X0)), (.int .i64 (min x129 x135.Y0)), (.int .i64 x130), (.int .i64 x131)] rfl (wn rfl) (.inl ⟨_, (List.mem_cons_of_mem _ List.mem_cons_self), rfl, rfl⟩) rfl rfl rfl rfl sz_3 rfl rfl rfl ?_
    refine Dr.quiet 36 [(48, (.pointer (some ⟨b102, 2, none⟩)))] (by kernel_rfl) rfl rfl (by kernel_rfl) ?_ rfl rfl ?_
    · refine Tq.val (wn rfl) rfl (fun _ _ h1 h2 => run_fieldAddr fo_28_2 (h1.ev rfl)) ?_
      exact Tq.fin (.cons rfl .nil)
    refine Dr.one 37 (by kernel_rfl) ?_
    refine St.store 37 2 (cs := [(.int .i64 (max x130 x136.X1))]) [(.int .i64 (min x128 x134.X0)), (.int .i64 (min x129 x135.Y0)), (.int .i64 (max x130 x136.X1)), (.int .i64 x131)] rfl (wn rfl) (.inl ⟨_, (List.mem_cons_of_mem _ (List.mem_cons_of_mem _ List.mem_cons_self)), rfl, rfl⟩) rfl rfl rfl rfl sz_3 rfl rfl rfl ?_
    refine Dr.tail (by kernel_rfl) ?_
    refine Tr.val (wn rfl) rfl (fun _ _ h1 h2 => run_fieldAddr fo_28_3 (h1.ev rfl)) ?_
    refine Tr.store 2 (cs := [(.int .i64 (max x131 x137.Y1))]) [(.int .i64 (min x128 x134.X0)), (.int .i64 (min x129 x135.Y0)), (.int .i64 (max x130 x136.X1)), (.int .i64 (max x131 x137.Y1))] (wn rfl) rfl rfl rfl rfl sz_3 rfl rfl rfl ?_
    refine Tr.nil (Tr.normBlock (Tr.normThen ?_))
    refine Tr.region ?_
    refine Tr.val (wn rfl) rfl (fun _ _ h1 h2 => run_move (h1.ev rfl)) ?_
    refine Tr.val (wn rfl) rfl (fun _ _ h1 h2 => run_add (h1.ev rfl) (h1.ev rfl)) ?_
    refine Tr.val (wn rfl) rfl (fun _ _ h1 h2 => run_assign (h1.ev rfl)) ?_
    refine Tr.nil ?_
    exact Tr.backThen leF_etchhouseref1_BoundsOf_L1 ((min x128 x134.X0), (min x129 x135.Y0), (max x130 x136.X1), (max x131 x137.Y1), (w64 (x132 + 1))) H (.cons rfl (.cons rfl (.cons rfl (.cons rfl .nil)))) (.cons rfl (.cons rfl .nil))
  · refine Tr.exit (Tr.exitThen (Tr.exitThen (Tr.exitBlock (Tr.normThen ?_))))
    refine Tr.seq ?_
    refine Tr.region ?_
    refine Tr.val (wn rfl) rfl (fun _ _ h1 h2 => run_loadN (cs := [(.int .i64 x128), (.int .i64 x129), (.int .i64 x130), (.int .i64 x131)]) ag_28 sz_28 (h1.ev rfl) (CellsAt.take (rdb h2 (vs := [(.int .i64 x128), (.int .i64 x129), (.int .i64 x130), (.int .i64 x131)]) (k := 2) rfl 0) 4) rfl) ?_
    refine Tr.store 1 (cs := [(.int .i64 x128), (.int .i64 x129), (.int .i64 x130), (.int .i64 x131)]) [(.int .i64 x128), (.int .i64 x129), (.int .i64 x130), (.int .i64 x131)] (wn rfl) rfl rfl rfl rfl sz_28 rfl rfl rfl ?_
    refine Tr.nil (Tr.normThen ?_)
    refine Tr.ret ?_
    obtain rfl := Option.some.inj H
    exact Tr.out (m := [(.agg #[(.int .i64 x128), (.int .i64 x129), (.int .i64 x130), (.int .i64 x131)])]) [1] (res_cell rfl rfl ag_28 sz_28 res_nil) (fun W hW => ⟨rfl, hW.low leB⟩)

theorem F_etchhouseref1_inside_ok (N : Nat) {w : Bs} (p0 : (List TSpan)) (Ap0_0 : Option Addr) (cp0_0 : Nat) (hp0_0 : Sl w.R w.W fl_TSpan Ap0_0 cp0_0 p0) (p1 : Int) (r : Bool) (H : F_etchhouseref1_inside N p0 p1 = some r) (hE : HF w w.W E0) : Calls Tryz.prog 117 [(.slice Ap0_0 (p0).length cp0_0), (.int .i64 p1)].toArray w.W fun e W' => e = .returned (.bool r) ∧ HF w W' E0 := by
  unfold F_etchhouseref1_inside at H
  have leB := Bs.Le.refl w
  refine Tr.enter (n := 28) Tryz.func117 rfl rfl rfl hE ?_
  refine Tr.seq ?_
  refine Tr.region ?_
  refine Tr.val (wn rfl) rfl (fun _ _ h1 h2 => run_assign (h1.ev rfl)) ?_
  refine Tr.nil (Tr.normThen ?_)
  refine Tr.seq ?_
  refine Tr.seq ?_
  refine Tr.region ?_
  refine Tr.val (wn rfl) rfl (fun _ _ h1 h2 => run_assign (h1.ev rfl)) ?_
  refine Tr.nil (Tr.normThen ?_)
  refine Tr.block ?_
  refine Tr.loop (σ := Int) (fun m w s => F_etchhouseref1_inside_L1 p0 p1 m s = some r) (fun s => [(0, (.slice Ap0_0 (p0).length cp0_0)), (1, (.int .i64 p1)), (5, (.int .i64 s))]) (fun s => []) N 0 H (.cons rfl (.cons rfl (.cons rfl .nil))) .nil (fun _ _ h => noSome (h)) ?_
  intro w leF_etchhouseref1_inside_L1 mF_etchhouseref1_inside_L1 x111 hs
  have H := hs
  replace H : F_etchhouseref1_inside_L1 p0 p1 (mF_etchhouseref1_inside_L1 + 1) x111 = some r := H
  replace hp0_0 := hp0_0.leR leF_etchhouseref1_inside_L1
  replace leB := leB.trans leF_etchhouseref1_inside_L1
  rw [F_etchhouseref1_inside_L1.eq_2] at H
  show Tr _ _ (LF [(0, (.slice Ap0_0 (p0).length cp0_0)), (1, (.int .i64 p1)), (5, (.int .i64 x111))]) (LE []) _
  refine Tr.seq ?_
  refine Tr.seq ?_
  refine Tr.region ?_
  refine Tr.val (wn rfl) rfl (fun _ _ h1 h2 => run_move (h1.ev rfl)) ?_
  refine Tr.val (wn rfl) rfl (fun _ _ h1 h2 => run_move (h1.ev rfl)) ?_
  refine Tr.val (wn rfl) rfl (fun _ _ h1 h2 => run_len un_109 (h1.ev rfl)) ?_
  refine Tr.val (wn rfl) rfl (fun _ _ h1 h2 => run_lss (h1.ev rfl) (h1.ev rfl)) ?_
  refine Tr.nil (Tr.normThen ?_)
  refine Tr.cond rfl H (fun H => ?_) (fun H => ?_)
  · refine Tr.skip (Tr.normThen ?_)
    refine Tr.seq ?_
    refine Tr.block ?_
    refine Tr.seq ?_
    refine Tr.region ?_
    refine Tr.val (wn rfl) rfl (fun _ _ h1 h2 => run_move (h1.ev rfl)) ?_
    refine Tr.val (wn rfl) rfl (fun _ _ h1 h2 => run_move (h1.ev rfl)) ?_
    obtain ⟨x112, hx112, H⟩ := bnd H
    obtain ⟨hx1120, hx1121, hx1122⟩ := idx_some hx112
    refine Tr.val (wn rfl) rfl (fun _ _ h1 h2 => run_indexAddr el_109 (h1.ev rfl) hp0_0.form (h1.ev rfl) hx1120 hx1121) ?_
    refine Tr.val (wn rfl) rfl (fun _ _ h1 h2 => run_fieldAddr fo_140_0 (h1.ev rfl)) ?_
    refine Tr.val (wn rfl) rfl (fun _ _ h1 h2 => run_load1 ag_3 (h1.ev rfl) (CellsAt.drop (rdF ef_TSpan hp0_0 hx1122 h2) 0) rfl) ?_
    refine Tr.val (wn rfl) rfl (fun _ _ h1 h2 => run_move (h1.ev rfl)) ?_
    refine Tr.val (wn rfl) rfl (fun _ _ h1 h2 => run_leq (h1.ev rfl) (h1.ev rfl)) ?_
    refine Tr.val (wn rfl) rfl (fun _ _ h1 h2 => run_move (h1.ev rfl)) ?_
    obtain ⟨g114, hg114, H⟩ := bnd H
    refine Tr.mid0 8 [(0, (.slice Ap0_0 (p0).length cp0_0)), (1, (.int .i64 p1)), (5, (.int .i64 x111)), (27, (.bool g114))] [] ?_ ?_
    · cases hg115 : (decide (x112.from_ ≤ p1))
      · rw [hg115] at hg114
        rw [if_neg (by decide)] at hg114
        have H := hg114
        obtain rfl := Option.some.inj H
        refine Tr.pass rfl rfl rfl rfl rfl (by decide) ?_
        refine Tr.pass rfl rfl rfl rfl rfl (by decide) ?_
        refine Tr.pass rfl rfl rfl rfl rfl (by decide) ?_
        refine Tr.pass rfl rfl rfl rfl rfl (by decide) ?_
        refine Tr.pass rfl rfl rfl rfl rfl (by decide) ?_
        refine Tr.pass rfl rfl rfl rfl rfl (by decide) ?_
        refine Tr.pass rfl rfl rfl rfl rfl (by decide) ?_
        refine Tr.val (wn rfl) rfl (fun _ _ h1 h2 => run_pickF (h1.ev rfl) (h1.ev rfl)) ?_
        exact Tr.nil (Tr.fin0 (.cons rfl (.cons rfl (.cons rfl (.cons rfl .nil)))) .nil)
      · rw [hg115] at hg114
        rw [if_pos rfl] at hg114
        have H := hg114
        refine Tr.val (wg rfl rfl rfl) rfl (fun _ _ h1 h2 => run_move (h1.ev rfl)) ?_
        refine Tr.val (wg rfl rfl rfl) rfl (fun _ _ h1 h2 => run_move (h1.ev rfl)) ?_
        refine Tr.val (wg rfl rfl rfl) rfl (fun _ _ h1 h2 => run_move (h1.ev rfl)) ?_
        obtain ⟨x115, hx115, H⟩ := bnd H
        obtain ⟨hx1150, hx1151, hx1152⟩ := idx_some hx115
        refine Tr.val (wg rfl rfl rfl) rfl (fun _ _ h1 h2 => run_indexAddr el_109 (h1.ev rfl) hp0_0.form (h1.ev rfl) hx1150 hx1151) ?_
        refine Tr.val (wg rfl rfl rfl) rfl (fun _ _ h1 h2 => run_fieldAddr fo_140_1 (h1.ev rfl)) ?_
        refine Tr.val (wg rfl rfl rfl) rfl (fun _ _ h1 h2 => run_load1 ag_3 (h1.ev rfl) (CellsAt.drop (rdF ef_TSpan hp0_0 hx1152 h2) 1) rfl) ?_
        refine Tr.val (wg rfl rfl rfl) rfl (fun _ _ h1 h2 => run_lss (h1.ev rfl) (h1.ev rfl)) ?_
        refine Tr.val (wn rfl) rfl (fun _ _ h1 h2 => run_pickT (h1.ev rfl) (h1.ev rfl)) ?_
        obtain rfl := Option.some.inj H
        exact Tr.nil (Tr.fin0 (.cons rfl (.cons rfl (.cons rfl (.cons rfl .nil)))) .nil)
    · show Tr _ _ (LF [(0, (.slice Ap0_0 (p0).length cp0_0)), (1, (.int .i64 p1)), (5, (.int .i64 x111)), (27, (.bool g114))]) (LE []) _
      refine Tr.nil (Tr.normThen ?_)
      refine Tr.cond rfl H (fun H => ?_) (fun H => ?_)
      · refine Tr.seq ?_
        refine Tr.region ?_
        refine Tr.val (wn rfl) rfl (fun _ _ h1 h2 => run_assign (h1.ev rfl)) ?_
        refine Tr.nil (Tr.normThen ?_)
        refine Tr.ret (Tr.retBlock (Tr.retThen (Tr.retThen (Tr.retBlock (Tr.retThen ?_)))))
        obtain rfl := Option.some.inj H
        exact Tr.out (m := [(.bool true)]) [] (res_tmp rfl res_nil) (fun W hW => ⟨rfl, hW.low leB⟩)
      · refine Tr.skip (Tr.normBlock (Tr.normThen ?_))
        refine Tr.region ?_
        refine Tr.val (wn rfl) rfl (fun _ _ h1 h2 => run_move (h1.ev rfl)) ?_
        refine Tr.val (wn rfl) rfl (fun _ _ h1 h2 => run_add (h1.ev rfl) (h1.ev rfl)) ?_
        refine Tr.val (wn rfl) rfl (fun _ _ h1 h2 => run_assign (h1.ev rfl)) ?_
        refine Tr.nil ?_
        exact Tr.backThen leF_etchhouseref1_inside_L1 (w64 (x111 + 1)) H (.cons rfl (.cons rfl (.cons rfl .nil))) .nil
  · refine Tr.exit (Tr.exitThen (Tr.exitThen (Tr.exitBlock (Tr.normThen ?_))))
    refine Tr.seq ?_
    refine Tr.region ?_
    refine Tr.val (wn rfl) rfl (fun _ _ h1 h2 => run_assign (h1.ev rfl)) ?_
    refine Tr.nil (Tr.normThen ?_)
    refine Tr.ret ?_
    obtain rfl := Option.some.inj H
    exact Tr.out (m := [(.bool false)]) [] (res_tmp rfl res_nil) (fun W hW => ⟨rfl, hW.low leB⟩)

theorem F_etchhouseref1_mixed_ok (N : Nat) {w : Bs} (p0 : (List TSpan)) (Ap0_0 : Option Addr) (cp0_0 : Nat) (hp0_0 : Sl w.R w.W fl_TSpan Ap0_0 cp0_0 p0) (p1 : (List TSpan)) (Ap1_0 : Option Addr) (cp1_0 : Nat) (hp1_0 : Sl w.R w.W fl_TSpan Ap1_0 cp1_0 p1) (p2 : Int) (r : (List TSpan)) (H : F_etchhouseref1_mixed N p0 p1 p2 = some r) (hE : HF w w.W (LEn [emp])) : Calls Tryz.prog 96 [(.slice Ap0_0 (p0).length cp0_0), (.slice Ap1_0 (p1).length cp1_0), (.int .i64 p2)].toArray w.W fun e W' => ∃ u : (Option Addr × Nat), e = .returned (.slice u.1 (r).length u.2) ∧ (SlF u.1 (r).length u.2) ∧ HF w W' (LEn [ow u.1 u.2 140 fl_TSpan r]) := by
  unfold F_etchhouseref1_mixed at H
  have leB := Bs.Le.refl w
  refine Tr.enter (n := 114) Tryz.func96 rfl rfl rfl hE ?_
  refine Tr.seq ?_
  refine Tr.region ?_
  refine Tr.val (wn rfl) rfl (fun _ _ h1 h2 => run_assign (h1.ev rfl)) ?_
  refine Tr.nilOwn 1 140 fl_TSpan ?_
  show Tr _ _ (uf _ 6 (.slice none (([] : List TSpan)).length 0)) _ _
  refine Tr.nil (Tr.normThen ?_)
  refine Tr.seq ?_
  refine Tr.region ?_
  refine Tr.val (wn rfl) rfl (fun _ _ h1 h2 => run_assign (h1.ev rfl)) ?_
  refine Tr.nilOwn 2 3 fl_i64 ?_
  show Tr _ _ (uf _ 7 (.slice none (([] : List Int)).length 0)) _ _
  refine Tr.nil (Tr.normThen ?_)
  refine Tr.seq ?_
  refine Tr.seq ?_
  refine Tr.region ?_
  refine Tr.val (wn rfl) rfl (fun _ _ h1 h2 => run_assign (h1.ev rfl)) ?_
  refine Tr.nil (Tr.normThen ?_)
  refine Tr.block ?_
  refine Tr.freeze 2 rfl fun w le125 hz124 => ?_
  replace hp0_0 := hp0_0.leR le125
  replace hp1_0 := hp1_0.leR le125
  replace leB := leB.trans le125
  refine Tr.loop (σ := (List Int) × Int × (Option Addr) × Nat) (fun m w s => F_etchhouseref1_mixed_L1 N p0 p1 p2 m s.1 s.2.1 = some r ∧ Sl w.O w.W fl_i64 s.2.2.1 s.2.2.2 s.1) (fun s => [(0, (.slice Ap0_0 (p0).length cp0_0)), (1, (.slice Ap1_0 (p1).length cp1_0)), (2, (.int .i64 p2)), (7, (.slice s.2.2.1 (s.1).length s.2.2.2)), (8, (.int .i64 s.2.1))]) (fun s => []) N (([] : List Int), 0, none, 0) ⟨H, hz124⟩ (.cons rfl (.cons rfl (.cons rfl (.cons rfl (.cons rfl .nil))))) .nil (fun _ _ h => noSome (h.1)) ?_
  intro w leF_etchhouseref1_mixed_L1 mF_etchhouseref1_mixed_L1 s hs
  obtain ⟨l122, x123, Al122, cl122⟩ := s
  obtain ⟨H, hl122⟩ := hs
  replace H : F_etchhouseref1_mixed_L1 N p0 p1 p2 (mF_etchhouseref1_mixed_L1 + 1) l122 x123 = some r := H
  replace hp0_0 := hp0_0.leR leF_etchhouseref1_mixed_L1
  replace hp1_0 := hp1_0.leR leF_etchhouseref1_mixed_L1
  replace leB := leB.trans leF_etchhouseref1_mixed_L1
  replace hl122 : Sl w.O w.W fl_i64 Al122 cl122 l122 := hl122
  rw [F_etchhouseref1_mixed_L1.eq_2] at H
  show Tr _ _ (LF [(0, (.slice Ap0_0 (p0).length cp0_0)), (1, (.slice Ap1_0 (p1).length cp1_0)), (2, (.int .i64 p2)), (7, (.slice Al122 (l122).length cl122)), (8, (.int .i64 x123))]) (LE []) _
  refine Tr.seq ?_
  refine Tr.seq ?_
  refine Tr.region ?_
  refine Tr.val (wn rfl) rfl (fun _ _ h1 h2 => run_move (h1.ev rfl)) ?_
  refine Tr.val (wn rfl) rfl (fun _ _ h1 h2 => run_move (h1.ev rfl)) ?_
  refine Tr.val (wn rfl) rfl (fun _ _ h1 h2 => run_len un_109 (h1.ev rfl)) ?_
  refine Tr.val (wn rfl) rfl (fun _ _ h1 h2 => run_lss (h1.ev rfl) (h1.ev rfl)) ?_
  refine Tr.nil (Tr.normThen ?_)
  refine Tr.cond rfl H (fun H => ?_) (fun H => ?_)
  · refine Tr.skip (Tr.normThen ?_)
    refine Tr.seq ?_
    refine Tr.block ?_
    refine Tr.drawC 12 [] [] (by kernel_rfl) (by kernel_rfl) fun sz126 hlosz126 hEsz126 => ?_
    refine Dr.quiet 0 [(20, (.slice Al122 (l122).length cl122))] (by kernel_rfl) rfl rfl (by kernel_rfl) ?_ rfl rfl ?_
    · refine Tq.val (wn rfl) rfl (fun _ _ h1 h2 => run_move (h1.ev rfl)) ?_
      exact Tq.fin (.cons rfl .nil)
    refine Dr.quiet 1 [(21, (.slice Ap0_0 (p0).length cp0_0))] (by kernel_rfl) rfl rfl (by kernel_rfl) ?_ rfl rfl ?_
    · refine Tq.val (wn rfl) rfl (fun _ _ h1 h2 => run_move (h1.ev rfl)) ?_
      exact Tq.fin (.cons rfl .nil)
    refine Dr.quiet 2 [(22, (.int .i64 x123))] (by kernel_rfl) rfl rfl (by kernel_rfl) ?_ rfl rfl ?_
    · refine Tq.val (wn rfl) rfl (fun _ _ h1 h2 => run_move (h1.ev rfl)) ?_
      exact Tq.fin (.cons rfl .nil)
    obtain ⟨x127, hx127, H⟩ := bnd H
    obtain ⟨hx1270, hx1271, hx1272⟩ := idx_some hx127
    refine Dr.quiet 3 [(23, (.pointer (some ⟨adB Ap0_0, adO Ap0_0 + (x123).toNat * 2, none⟩)))] (by kernel_rfl) rfl rfl (by kernel_rfl) ?_ rfl rfl ?_
    · refine Tq.val (wn rfl) rfl (fun _ _ h1 h2 => run_indexAddr el_109 (h1.ev rfl) hp0_0.form (h1.ev rfl) hx1270 hx1271) ?_
      exact Tq.fin (.cons rfl .nil)
    refine Dr.quiet 4 [(24, (.pointer (some ⟨adB Ap0_0, adO Ap0_0 + (x123).toNat * 2 + 0, none⟩)))] (by kernel_rfl) rfl rfl (by kernel_rfl) ?_ rfl rfl ?_
    · refine Tq.val (wn rfl) rfl (fun _ _ h1 h2 => run_fieldAddr fo_140_0 (h1.ev rfl)) ?_
      exact Tq.fin (.cons rfl .nil)
    refine Dr.quiet 5 [(25, (.int .i64 x127.from_))] (by kernel_rfl) rfl rfl (by kernel_rfl) ?_ rfl rfl ?_
    · refine Tq.val (wn rfl) rfl (fun _ _ h1 h2 => run_load1 ag_3 (h1.ev rfl) (CellsAt.drop (rdF ef_TSpan hp0_0 hx1272 h2) 0) rfl) ?_
      exact Tq.fin (.cons rfl .nil)
    refine Dr.quiet 7 [(27, (.slice Ap0_0 (p0).length cp0_0))] (by kernel_rfl) rfl rfl (by kernel_rfl) ?_ rfl rfl ?_
    · refine Tq.val (wn rfl) rfl (fun _ _ h1 h2 => run_move (h1.ev rfl)) ?_
      exact Tq.fin (.cons rfl .nil)
    refine Dr.quiet 8 [(28, (.int .i64 x123))] (by kernel_rfl) rfl rfl (by kernel_rfl) ?_ rfl rfl ?_
    · refine Tq.val (wn rfl) rfl (fun _ _ h1 h2 => run_move (h1.ev rfl)) ?_
      exact Tq.fin (.cons rfl .nil)
    obtain ⟨x128, hx128, H⟩ := bnd H
    obtain ⟨hx1280, hx1281, hx1282⟩ := idx_some hx128
    refine Dr.quiet 9 [(29, (.pointer (some ⟨adB Ap0_0, adO Ap0_0 + (x123).toNat * 2, none⟩)))] (by kernel_rfl) rfl rfl (by kernel_rfl) ?_ rfl rfl ?_
    · refine Tq.val (wn rfl) rfl (fun _ _ h1 h2 => run_indexAddr el_109 (h1.ev rfl) hp0_0.form (h1.ev rfl) hx1280 hx1281) ?_
      exact Tq.fin (.cons rfl .nil)
    refine Dr.quiet 10 [(30, (.pointer (some ⟨adB Ap0_0, adO Ap0_0 + (x123).toNat * 2 + 1, none⟩)))] (by kernel_rfl) rfl rfl (by kernel_rfl) ?_ rfl rfl ?_
    · refine Tq.val (wn rfl) rfl (fun _ _ h1 h2 => run_fieldAddr fo_140_1 (h1.ev rfl)) ?_
      exact Tq.fin (.cons rfl .nil)
    refine Dr.quiet 11 [(31, (.int .i64 x128.to_))] (by kernel_rfl) rfl rfl (by kernel_rfl) ?_ rfl rfl ?_
    · refine Tq.val (wn rfl) rfl (fun _ _ h1 h2 => run_load1 ag_3 (h1.ev rfl) (CellsAt.drop (rdF ef_TSpan hp0_0 hx1282 h2) 1) rfl) ?_
      exact Tq.fin (.cons rfl .nil)
    obtain ⟨y129, hy129, H⟩ := bnd H
    refine Dr.one 6 (by kernel_rfl) ?_
    refine St.callG 6 [] [] (U := (Option Addr × Nat)) (fun u => (.slice u.1 (y129).length u.2)) (fun O W u => Sl O W fl_i64 u.1 u.2 y129) (fun u => []) rfl pk_nil (fun _ => rfl) (insS_no rfl) rfl (wn rfl) rfl Tryz.call86 (evl_cons rfl (evl_cons rfl evl_nil)) (fun W hW hp hE => F_etchhouseref1_put_ok N l122 Al122 cl122 (hl122.extO (hW.extS hp)) x127.from_ y129 hy129 hE) ?_
    intro w u le130 hu hsy129
    obtain ⟨Ay129_0, cy129_0⟩ := u
    have gy129_0 := hu
    replace hp0_0 := hp0_0.leR le130
    replace hp1_0 := hp1_0.leR le130
    replace hl122 := hl122.le le130
    replace leB := leB.trans le130
    replace leF_etchhouseref1_mixed_L1 := leF_etchhouseref1_mixed_L1.trans le130
    have hgy129_0 : Sl w.O w.W fl_i64 Ay129_0 cy129_0 y129 := gy129_0
    show Dr _ _ _ _ _ _ _ _ _ (uf _ 26 (.slice Ay129_0 (y129).length cy129_0)) (_)
    refine Dr.tail (by kernel_rfl) ?_
    obtain ⟨y131, hy131, H⟩ := bnd H
    refine Tr.callG [] [] (U := (Option Addr × Nat)) (fun u => (.slice u.1 (y131).length u.2)) (fun O W u => Sl O W fl_i64 u.1 u.2 y131) (fun u => []) rfl pk_nil (fun _ => rfl) (wn rfl) rfl Tryz.call86 (evl_cons rfl (evl_cons rfl evl_nil)) (fun W hW hp hE => F_etchhouseref1_put_ok N y129 Ay129_0 cy129_0 (hgy129_0.extO (hW.extS hp)) x128.to_ y131 hy131 hE) ?_
    intro w u le132 hu
    obtain ⟨Ay131_0, cy131_0⟩ := u
    have gy131_0 := hu
    replace hp0_0 := hp0_0.leR le132
    replace hp1_0 := hp1_0.leR le132
    replace hl122 := hl122.le le132
    replace hgy129_0 := hgy129_0.le le132
    replace leB := leB.trans le132
    replace leF_etchhouseref1_mixed_L1 := leF_etchhouseref1_mixed_L1.trans le132
    have hgy131_0 : Sl w.O w.W fl_i64 Ay131_0 cy131_0 y131 := gy131_0 --@phi
    show Tr _ _ (uf _ 32 (.slice Ay131_0 (y131).length cy131_0)) (_) _
    refine Tr.val (wn rfl) rfl (fun _ _ h1 h2 => run_assign (h1.ev rfl)) ?_
    refine Tr.nil (Tr.normBlock (Tr.normThen ?_))
    refine Tr.region ?_
    refine Tr.val (wn rfl) rfl (fun _ _ h1 h2 => run_move (h1.ev rfl)) ?_
    refine Tr.val (wn rfl) rfl (fun _ _ h1 h2 => run_add (h1.ev rfl) (h1.ev rfl)) ?_
    refine Tr.val (wn rfl) rfl (fun _ _ h1 h2 => run_assign (h1.ev rfl)) ?_
    refine Tr.nil ?_
    exact Tr.backThen leF_etchhouseref1_mixed_L1 (y131, (w64 (x123 + 1)), Ay131_0, cy131_0) ⟨H, hgy131_0⟩ (.cons rfl (.cons rfl (.cons rfl (.cons rfl (.cons rfl .nil))))) .nil
  · refine Tr.exit (Tr.exitThen (Tr.exitThen (Tr.exitBlock (Tr.normThen ?_))))
    refine Tr.seq ?_
    refine Tr.seq ?_
    refine Tr.region ?_
    refine Tr.val (wn rfl) rfl (fun _ _ h1 h2 => run_assign (h1.ev rfl)) ?_
    refine Tr.nil (Tr.normThen ?_)
    refine Tr.block ?_
    refine Tr.loop (σ := (List Int) × Int × (Option Addr) × Nat) (fun m w s => F_etchhouseref1_mixed_L2 N p0 p1 p2 m s.1 s.2.1 = some r ∧ Sl w.O w.W fl_i64 s.2.2.1 s.2.2.2 s.1) (fun s => [(0, (.slice Ap0_0 (p0).length cp0_0)), (1, (.slice Ap1_0 (p1).length cp1_0)), (2, (.int .i64 p2)), (7, (.slice s.2.2.1 (s.1).length s.2.2.2)), (9, (.int .i64 s.2.1))]) (fun s => []) N (l122, 0, Al122, cl122) ⟨H, hl122⟩ (.cons rfl (.cons rfl (.cons rfl (.cons rfl (.cons rfl .nil))))) .nil (fun _ _ h => noSome (h.1)) ?_
    intro w leF_etchhouseref1_mixed_L2 mF_etchhouseref1_mixed_L2 s hs
    obtain ⟨l153, x154, Al153, cl153⟩ := s
    obtain ⟨H, hl153⟩ := hs
    replace H : F_etchhouseref1_mixed_L2 N p0 p1 p2 (mF_etchhouseref1_mixed_L2 + 1) l153 x154 = some r := H
    replace hp0_0 := hp0_0.leR leF_etchhouseref1_mixed_L2
    replace hp1_0 := hp1_0.leR leF_etchhouseref1_mixed_L2
    replace leB := leB.trans leF_etchhouseref1_mixed_L2
    replace leF_etchhouseref1_mixed_L1 := leF_etchhouseref1_mixed_L1.trans leF_etchhouseref1_mixed_L2
    replace hl153 : Sl w.O w.W fl_i64 Al153 cl153 l153 := hl153
    rw [F_etchhouseref1_mixed_L2.eq_2] at H
    show Tr _ _ (LF [(0, (.slice Ap0_0 (p0).length cp0_0)), (1, (.slice Ap1_0 (p1).length cp1_0)), (2, (.int .i64 p2)), (7, (.slice Al153 (l153).length cl153)), (9, (.int .i64 x154))]) (LE []) _
    refine Tr.seq ?_
    refine Tr.seq ?_
    refine Tr.region ?_
    refine Tr.val (wn rfl) rfl (fun _ _ h1 h2 => run_move (h1.ev rfl)) ?_
    refine Tr.val (wn rfl) rfl (fun _ _ h1 h2 => run_move (h1.ev rfl)) ?_
    refine Tr.val (wn rfl) rfl (fun _ _ h1 h2 => run_len un_109 (h1.ev rfl)) ?_
    refine Tr.val (wn rfl) rfl (fun _ _ h1 h2 => run_lss (h1.ev rfl) (h1.ev rfl)) ?_
    refine Tr.nil (Tr.normThen ?_)
    refine Tr.cond rfl H (fun H => ?_) (fun H => ?_)
    · refine Tr.skip (Tr.normThen ?_)
      refine Tr.seq ?_
      refine Tr.block ?_
      refine Tr.drawC 12 [] [] (by kernel_rfl) (by kernel_rfl) fun sz155 hlosz155 hEsz155 => ?_
      refine Dr.quiet 0 [(39, (.slice Al153 (l153).length cl153))] (by kernel_rfl) rfl rfl (by kernel_rfl) ?_ rfl rfl ?_
      · refine Tq.val (wn rfl) rfl (fun _ _ h1 h2 => run_move (h1.ev rfl)) ?_
        exact Tq.fin (.cons rfl .nil)
      refine Dr.quiet 1 [(40, (.slice Ap1_0 (p1).length cp1_0))] (by kernel_rfl) rfl rfl (by kernel_rfl) ?_ rfl rfl ?_
      · refine Tq.val (wn rfl) rfl (fun _ _ h1 h2 => run_move (h1.ev rfl)) ?_
        exact Tq.fin (.cons rfl .nil)
      refine Dr.quiet 2 [(41, (.int .i64 x154))] (by kernel_rfl) rfl rfl (by kernel_rfl) ?_ rfl rfl ?_
      · refine Tq.val (wn rfl) rfl (fun _ _ h1 h2 => run_move (h1.ev rfl)) ?_
        exact Tq.fin (.cons rfl .nil)
      obtain ⟨x156, hx156, H⟩ := bnd H
      obtain ⟨hx1560, hx1561, hx1562⟩ := idx_some hx156
      refine Dr.quiet 3 [(42, (.pointer (some ⟨adB Ap1_0, adO Ap1_0 + (x154).toNat * 2, none⟩)))] (by kernel_rfl) rfl rfl (by kernel_rfl) ?_ rfl rfl ?_
      · refine Tq.val (wn rfl) rfl (fun _ _ h1 h2 => run_indexAddr el_109 (h1.ev rfl) hp1_0.form (h1.ev rfl) hx1560 hx1561) ?_
        exact Tq.fin (.cons rfl .nil)
      refine Dr.quiet 4 [(43, (.pointer (some ⟨adB Ap1_0, adO Ap1_0 + (x154).toNat * 2 + 0, none⟩)))] (by kernel_rfl) rfl rfl (by kernel_rfl) ?_ rfl rfl ?_
      · refine Tq.val (wn rfl) rfl (fun _ _ h1 h2 => run_fieldAddr fo_140_0 (h1.ev rfl)) ?_
        exact Tq.fin (.cons rfl .nil)
      refine Dr.quiet 5 [(44, (.int .i64 x156.from_))] (by kernel_rfl) rfl rfl (by kernel_rfl) ?_ rfl rfl ?_
      · refine Tq.val (wn rfl) rfl (fun _ _ h1 h2 => run_load1 ag_3 (h1.ev rfl) (CellsAt.drop (rdF ef_TSpan hp1_0 hx1562 h2) 0) rfl) ?_
        exact Tq.fin (.cons rfl .nil)
      refine Dr.quiet 7 [(46, (.slice Ap1_0 (p1).length cp1_0))] (by kernel_rfl) rfl rfl (by kernel_rfl) ?_ rfl rfl ?_
      · refine Tq.val (wn rfl) rfl (fun _ _ h1 h2 => run_move (h1.ev rfl)) ?_
        exact Tq.fin (.cons rfl .nil)
      refine Dr.quiet 8 [(47, (.int .i64 x154))] (by kernel_rfl) rfl rfl (by kernel_rfl) ?_ rfl rfl ?_
      · refine Tq.val (wn rfl) rfl (fun _ _ h1 h2 => run_move (h1.ev rfl)) ?_
        exact Tq.fin (.cons rfl .nil)
      obtain ⟨x157, hx157, H⟩ := bnd H
      obtain ⟨hx1570, hx1571, hx1572⟩ := idx_some hx157
      refine Dr.quiet 9 [(48, (.pointer (some ⟨adB Ap1_0, adO Ap1_0 + (x154).toNat * 2, none⟩)))] (by kernel_rfl) rfl rfl (by kernel_rfl) ?_ rfl rfl ?_
      · refine Tq.val (wn rfl) rfl (fun _ _ h1 h2 => run_indexAddr el_109 (h1.ev rfl) hp1_0.form (h1.ev rfl) hx1570 hx1571) ?_
        exact Tq.fin (.cons rfl .nil)
      refine Dr.quiet 10 [(49, (.pointer (some ⟨adB Ap1_0, adO Ap1_0 + (x154).toNat * 2 + 1, none⟩)))] (by kernel_rfl) rfl rfl (by kernel_rfl) ?_ rfl rfl ?_
      · refine Tq.val (wn rfl) rfl (fun _ _ h1 h2 => run_fieldAddr fo_140_1 (h1.ev rfl)) ?_
        exact Tq.fin (.cons rfl .nil)
      refine Dr.quiet 11 [(50, (.int .i64 x157.to_))] (by kernel_rfl) rfl rfl (by kernel_rfl) ?_ rfl rfl ?_
      · refine Tq.val (wn rfl) rfl (fun _ _ h1 h2 => run_load1 ag_3 (h1.ev rfl) (CellsAt.drop (rdF ef_TSpan hp1_0 hx1572 h2) 1) rfl) ?_
        exact Tq.fin (.cons rfl .nil)
      obtain ⟨y158, hy158, H⟩ := bnd H
      refine Dr.one 6 (by kernel_rfl) ?_
      refine St.callG 6 [] [] (U := (Option Addr × Nat)) (fun u => (.slice u.1 (y158).length u.2)) (fun O W u => Sl O W fl_i64 u.1 u.2 y158) (fun u => []) rfl pk_nil (fun _ => rfl) (insS_no rfl) rfl (wn rfl) rfl Tryz.call86 (evl_cons rfl (evl_cons rfl evl_nil)) (fun W hW hp hE => F_etchhouseref1_put_ok N l153 Al153 cl153 (hl153.extO (hW.extS hp)) x156.from_ y158 hy158 hE) ?_
      intro w u le159 hu hsy158
      obtain ⟨Ay158_0, cy158_0⟩ := u
      have gy158_0 := hu
      replace hp0_0 := hp0_0.leR le159
      replace hp1_0 := hp1_0.leR le159
      replace hl153 := hl153.le le159
      replace leB := leB.trans le159
      replace leF_etchhouseref1_mixed_L1 := leF_etchhouseref1_mixed_L1.trans le159
      replace leF_etchhouseref1_mixed_L2 := leF_etchhouseref1_mixed_L2.trans le159
      have hgy158_0 : Sl w.O w.W fl_i64 Ay158_0 cy158_0 y158 := gy158_0
      show Dr _ _ _ _ _ _ _ _ _ (uf _ 45 (.slice Ay158_0 (y158).length cy158_0)) (_)
      refine Dr.tail (by kernel_rfl) ?_
      obtain ⟨y160, hy160, H⟩ := bnd H
      refine Tr.callG [] [] (U := (Option Addr × Nat)) (fun u => (.slice u.1 (y160).length u.2)) (fun O W u => Sl O W fl_i64 u.1 u.2 y160) (fun u => []) rfl pk_nil (fun _ => rfl) (wn rfl) rfl Tryz.call86 (evl_cons rfl (evl_cons rfl evl_nil)) (fun W hW hp hE => F_etchhouseref1_put_ok N y158 Ay158_0 cy158_0 (hgy158_0.extO (hW.extS hp)) x157.to_ y160 hy160 hE) ?_
      intro w u le161 hu
      obtain ⟨Ay160_0, cy160_0⟩ := u
      have gy160_0 := hu
      replace hp0_0 := hp0_0.leR le161
      replace hp1_0 := hp1_0.leR le161
      replace hl153 := hl153.le le161
      replace hgy158_0 := hgy158_0.le le161
      replace leB := leB.trans le161
      replace leF_etchhouseref1_mixed_L1 := leF_etchhouseref1_mixed_L1.trans le161
      replace leF_etchhouseref1_mixed_L2 := leF_etchhouseref1_mixed_L2.trans le161
      have hgy160_0 : Sl w.O w.W fl_i64 Ay160_0 cy160_0 y160 := gy160_0 --@phi
      show Tr _ _ (uf _ 51 (.slice Ay160_0 (y160).length cy160_0)) (_) _
      refine Tr.val (wn rfl) rfl (fun _ _ h1 h2 => run_assign (h1.ev rfl)) ?_
      refine Tr.nil (Tr.normBlock (Tr.normThen ?_))
      refine Tr.region ?_
      refine Tr.val (wn rfl) rfl (fun _ _ h1 h2 => run_move (h1.ev rfl)) ?_
      refine Tr.val (wn rfl) rfl (fun _ _ h1 h2 => run_add (h1.ev rfl) (h1.ev rfl)) ?_
      refine Tr.val (wn rfl) rfl (fun _ _ h1 h2 => run_assign (h1.ev rfl)) ?_
      refine Tr.nil ?_
      exact Tr.backThen leF_etchhouseref1_mixed_L2 (y160, (w64 (x154 + 1)), Ay160_0, cy160_0) ⟨H, hgy160_0⟩ (.cons rfl (.cons rfl (.cons rfl (.cons rfl (.cons rfl .nil))))) .nil
    · refine Tr.exit (Tr.exitThen (Tr.exitThen (Tr.exitBlock (Tr.normThen ?_))))
      refine Tr.seq ?_
      refine Tr.region ?_
      refine Tr.val (wn rfl) rfl (fun _ _ h1 h2 => run_assign (h1.ev rfl)) ?_
      refine Tr.nilOwn 3 140 fl_TSpan ?_
      show Tr _ _ (uf _ 10 (.slice none (([] : List TSpan)).length 0)) _ _
      refine Tr.nil (Tr.normThen ?_)
      refine Tr.seq ?_
      refine Tr.seq ?_
      refine Tr.region ?_
      refine Tr.val (wn rfl) rfl (fun _ _ h1 h2 => run_assign (h1.ev rfl)) ?_
      refine Tr.nil (Tr.normThen ?_)
      refine Tr.block ?_
      refine Tr.ren 3 9 rfl rfl rfl ?_
      refine Tr.loop (σ := (List TSpan) × Int × (Option Addr) × Nat) (fun m w s => F_etchhouseref1_mixed_L3 N p0 p1 p2 l153 m s.1 s.2.1 = some r ∧ SlF s.2.2.1 (s.1).length s.2.2.2) (fun s => [(0, (.slice Ap0_0 (p0).length cp0_0)), (1, (.slice Ap1_0 (p1).length cp1_0)), (2, (.int .i64 p2)), (7, (.slice Al153 (l153).length cl153)), (10, (.slice s.2.2.1 (s.1).length s.2.2.2)), (11, (.int .i64 s.2.1))]) (fun s => [(9, ow s.2.2.1 s.2.2.2 140 fl_TSpan s.1)]) N (([] : List TSpan), 1, none, 0) ⟨H, slf_nil⟩ (.cons rfl (.cons rfl (.cons rfl (.cons rfl (.cons rfl (.cons rfl .nil)))))) (.cons rfl .nil) (fun _ _ h => noSome (h.1)) ?_
      intro w leF_etchhouseref1_mixed_L3 mF_etchhouseref1_mixed_L3 s hs
      obtain ⟨l184, x185, Al184, cl184⟩ := s
      obtain ⟨H, hl184⟩ := hs
      replace H : F_etchhouseref1_mixed_L3 N p0 p1 p2 l153 (mF_etchhouseref1_mixed_L3 + 1) l184 x185 = some r := H
      replace hp0_0 := hp0_0.leR leF_etchhouseref1_mixed_L3
      replace hp1_0 := hp1_0.leR leF_etchhouseref1_mixed_L3
      replace hl153 := hl153.le leF_etchhouseref1_mixed_L3
      replace leB := leB.trans leF_etchhouseref1_mixed_L3
      replace leF_etchhouseref1_mixed_L1 := leF_etchhouseref1_mixed_L1.trans leF_etchhouseref1_mixed_L3
      replace leF_etchhouseref1_mixed_L2 := leF_etchhouseref1_mixed_L2.trans leF_etchhouseref1_mixed_L3
      replace hl184 : SlF Al184 (l184).length cl184 := hl184
      rw [F_etchhouseref1_mixed_L3.eq_2] at H
      show Tr _ _ (LF [(0, (.slice Ap0_0 (p0).length cp0_0)), (1, (.slice Ap1_0 (p1).length cp1_0)), (2, (.int .i64 p2)), (7, (.slice Al153 (l153).length cl153)), (10, (.slice Al184 (l184).length cl184)), (11, (.int .i64 x185))]) (LE [(9, ow Al184 cl184 140 fl_TSpan l184)]) _
      refine Tr.seq ?_
      refine Tr.seq ?_
      refine Tr.region ?_
      refine Tr.val (wn rfl) rfl (fun _ _ h1 h2 => run_move (h1.ev rfl)) ?_
      refine Tr.val (wn rfl) rfl (fun _ _ h1 h2 => run_move (h1.ev rfl)) ?_
      refine Tr.val (wn rfl) rfl (fun _ _ h1 h2 => run_len un_75 (h1.ev rfl)) ?_
      refine Tr.val (wn rfl) rfl (fun _ _ h1 h2 => run_lss (h1.ev rfl) (h1.ev rfl)) ?_
      refine Tr.nil (Tr.normThen ?_)
      refine Tr.cond rfl H (fun H => ?_) (fun H => ?_)
      · refine Tr.skip (Tr.normThen ?_)
        refine Tr.seq ?_
        refine Tr.block ?_
        refine Tr.seq ?_
        refine Tr.draw (by kernel_rfl) (by kernel_rfl) ?_
        refine Tq.val (wn rfl) rfl (fun _ _ h1 h2 => run_move (h1.ev rfl)) ?_
        refine Tq.val (wn rfl) rfl (fun _ _ h1 h2 => run_move (h1.ev rfl)) ?_
        refine Tq.val (wn rfl) rfl (fun _ _ h1 h2 => run_move (h1.ev rfl)) ?_
        refine Tq.val (wn rfl) rfl (fun _ _ h1 h2 => run_sub (h1.ev rfl) (h1.ev rfl)) ?_
        obtain ⟨x186, hx186, H⟩ := bnd H
        obtain ⟨hx1860, hx1861, hx1862⟩ := idx_some hx186
        refine Tq.val (wn rfl) rfl (fun _ _ h1 h2 => run_indexAddr el_75 (h1.ev rfl) hl153.form (h1.ev rfl) hx1860 hx1861) ?_
        refine Tq.val (wn rfl) rfl (fun _ _ h1 h2 => run_load1 ag_3 (h1.ev rfl) (rdF ef_i64 (hl153.rl) hx1862 h2) rfl) ?_
        obtain ⟨y187, hy187, H⟩ := bnd H
        refine Tq.call0 (r := (.bool y187)) (wn rfl) rfl Tryz.call117 (evl_cons rfl (evl_cons rfl evl_nil)) (fun W hW => F_etchhouseref1_inside_ok N p0 Ap0_0 cp0_0 (hp0_0.ext hW.extAll) x186 y187 hy187 (HF.start _)) ?_
        refine Tq.val (wn rfl) rfl (fun _ _ h1 h2 => run_move (h1.ev rfl)) ?_
        refine Tq.val (wn rfl) rfl (fun _ _ h1 h2 => run_move (h1.ev rfl)) ?_
        refine Tq.val (wn rfl) rfl (fun _ _ h1 h2 => run_move (h1.ev rfl)) ?_
        refine Tq.val (wn rfl) rfl (fun _ _ h1 h2 => run_sub (h1.ev rfl) (h1.ev rfl)) ?_
        obtain ⟨x188, hx188, H⟩ := bnd H
        obtain ⟨hx1880, hx1881, hx1882⟩ := idx_some hx188
        refine Tq.val (wn rfl) rfl (fun _ _ h1 h2 => run_indexAddr el_75 (h1.ev rfl) hl153.form (h1.ev rfl) hx1880 hx1881) ?_
        refine Tq.val (wn rfl) rfl (fun _ _ h1 h2 => run_load1 ag_3 (h1.ev rfl) (rdF ef_i64 (hl153.rl) hx1882 h2) rfl) ?_
        obtain ⟨y189, hy189, H⟩ := bnd H
        refine Tq.call0 (r := (.bool y189)) (wn rfl) rfl Tryz.call117 (evl_cons rfl (evl_cons rfl evl_nil)) (fun W hW => F_etchhouseref1_inside_ok N p1 Ap1_0 cp1_0 (hp1_0.ext hW.extAll) x188 y189 hy189 (HF.start _)) ?_
        refine Tq.val (wn rfl) rfl (fun _ _ h1 h2 => run_assign (h1.ev rfl)) ?_
        refine Tq.val (wn rfl) rfl (fun _ _ h1 h2 => run_assign (h1.ev rfl)) ?_
        refine Tq.nil (Tr.normThen ?_)
        refine Tr.seq ?_
        refine Tr.region ?_
        refine Tr.val (wn rfl) rfl (fun _ _ h1 h2 => run_move (h1.ev rfl)) ?_
        refine Tr.val (wn rfl) rfl (fun _ _ h1 h2 => run_eql (h1.ev rfl) (h1.ev rfl)) ?_
        refine Tr.val (wn rfl) rfl (fun _ _ h1 h2 => run_move (h1.ev rfl)) ?_
        refine Tr.mid0 5 [(0, (.slice Ap0_0 (p0).length cp0_0)), (1, (.slice Ap1_0 (p1).length cp1_0)), (2, (.int .i64 p2)), (7, (.slice Al153 (l153).length cl153)), (10, (.slice Al184 (l184).length cl184)), (11, (.int .i64 x185)), (12, (.bool y187)), (13, (.bool y189)), (79, (.bool ((p2 == 1) && (y187 || y189))))] [(9, ow Al184 cl184 140 fl_TSpan l184)] ?_ ?_
        · cases hg193 : (p2 == 1)
          · refine Tr.pass rfl rfl rfl rfl rfl (by decide) ?_
            refine Tr.pass rfl rfl rfl rfl rfl (by decide) ?_
            refine Tr.passU rfl rfl rfl rfl (by decide) ?_
            refine Tr.pass rfl rfl rfl rfl rfl (by decide) ?_
            refine Tr.val (wn rfl) rfl (fun _ _ h1 h2 => run_pickF (h1.ev rfl) (h1.ev rfl)) ?_
            exact Tr.nil (Tr.fin0 (.cons rfl (.cons rfl (.cons rfl (.cons rfl (.cons rfl (.cons rfl (.cons rfl (.cons rfl (.cons rfl .nil))))))))) (.cons rfl .nil))
          · refine Tr.val (wg rfl rfl rfl) rfl (fun _ _ h1 h2 => run_move (h1.ev rfl)) ?_
            refine Tr.val (wg rfl rfl rfl) rfl (fun _ _ h1 h2 => run_move (h1.ev rfl)) ?_
            refine Tr.mid0 2 [(0, (.slice Ap0_0 (p0).length cp0_0)), (1, (.slice Ap1_0 (p1).length cp1_0)), (2, (.int .i64 p2)), (7, (.slice Al153 (l153).length cl153)), (10, (.slice Al184 (l184).length cl184)), (11, (.int .i64 x185)), (12, (.bool y187)), (13, (.bool y189)), (74, (.bool true)), (78, (.bool (y187 || y189)))] [(9, ow Al184 cl184 140 fl_TSpan l184)] ?_ ?_
            · cases hg189 : y187
              · refine Tr.val (wg rfl rfl rfl) rfl (fun _ _ h1 h2 => run_move (h1.ev rfl)) ?_
                refine Tr.val (wg rfl rfl rfl) rfl (fun _ _ h1 h2 => run_pickF (h1.ev rfl) (h1.ev rfl)) ?_
                exact Tr.nil (Tr.fin0 (.cons rfl (.cons rfl (.cons rfl (.cons rfl (.cons rfl (.cons rfl (.cons rfl (.cons rfl (.cons rfl (.cons rfl .nil)))))))))) (.cons rfl .nil))
              · refine Tr.pass rfl rfl rfl rfl rfl (by decide) ?_
                refine Tr.val (wg rfl rfl rfl) rfl (fun _ _ h1 h2 => run_pickT (h1.ev rfl) (h1.ev rfl)) ?_
                exact Tr.nil (Tr.fin0 (.cons rfl (.cons rfl (.cons rfl (.cons rfl (.cons rfl (.cons rfl (.cons rfl (.cons rfl (.cons rfl (.cons rfl .nil)))))))))) (.cons rfl .nil))
            · show Tr _ _ (LF [(0, (.slice Ap0_0 (p0).length cp0_0)), (1, (.slice Ap1_0 (p1).length cp1_0)), (2, (.int .i64 p2)), (7, (.slice Al153 (l153).length cl153)), (10, (.slice Al184 (l184).length cl184)), (11, (.int .i64 x185)), (12, (.bool y187)), (13, (.bool y189)), (74, (.bool true)), (78, (.bool (y187 || y189)))]) (LE [(9, ow Al184 cl184 140 fl_TSpan l184)]) _
              refine Tr.val (wn rfl) rfl (fun _ _ h1 h2 => run_pickT (h1.ev rfl) (h1.ev rfl)) ?_
              exact Tr.nil (Tr.fin0 (.cons rfl (.cons rfl (.cons rfl (.cons rfl (.cons rfl (.cons rfl (.cons rfl (.cons rfl (.cons rfl .nil))))))))) (.cons rfl .nil))
        · show Tr _ _ (LF [(0, (.slice Ap0_0 (p0).length cp0_0)), (1, (.slice Ap1_0 (p1).length cp1_0)), (2, (.int .i64 p2)), (7, (.slice Al153 (l153).length cl153)), (10, (.slice Al184 (l184).length cl184)), (11, (.int .i64 x185)), (12, (.bool y187)), (13, (.bool y189)), (79, (.bool ((p2 == 1) && (y187 || y189))))]) (LE [(9, ow Al184 cl184 140 fl_TSpan l184)]) _
          refine Tr.val (wn rfl) rfl (fun _ _ h1 h2 => run_move (h1.ev rfl)) ?_
          refine Tr.mid0 9 [(0, (.slice Ap0_0 (p0).length cp0_0)), (1, (.slice Ap1_0 (p1).length cp1_0)), (2, (.int .i64 p2)), (7, (.slice Al153 (l153).length cl153)), (10, (.slice Al184 (l184).length cl184)), (11, (.int .i64 x185)), (12, (.bool y187)), (13, (.bool y189)), (89, (.bool (((p2 == 1) && (y187 || y189)) || (((p2 == 2) && y187) && y189))))] [(9, ow Al184 cl184 140 fl_TSpan l184)] ?_ ?_
          · cases hg193 : ((p2 == 1) && (y187 || y189))
            · refine Tr.val (wg rfl rfl rfl) rfl (fun _ _ h1 h2 => run_move (h1.ev rfl)) ?_
              refine Tr.val (wg rfl rfl rfl) rfl (fun _ _ h1 h2 => run_eql (h1.ev rfl) (h1.ev rfl)) ?_
              refine Tr.val (wg rfl rfl rfl) rfl (fun _ _ h1 h2 => run_move (h1.ev rfl)) ?_
              refine Tr.mid0 2 [(0, (.slice Ap0_0 (p0).length cp0_0)), (1, (.slice Ap1_0 (p1).length cp1_0)), (2, (.int .i64 p2)), (7, (.slice Al153 (l153).length cl153)), (10, (.slice Al184 (l184).length cl184)), (11, (.int .i64 x185)), (12, (.bool y187)), (13, (.bool y189)), (80, (.bool false)), (85, (.bool ((p2 == 2) && y187)))] [(9, ow Al184 cl184 140 fl_TSpan l184)] ?_ ?_
              · cases hg189 : (p2 == 2)
                · refine Tr.pass rfl rfl rfl rfl rfl (by decide) ?_
                  refine Tr.val (wg rfl rfl rfl) rfl (fun _ _ h1 h2 => run_pickF (h1.ev rfl) (h1.ev rfl)) ?_
                  exact Tr.nil (Tr.fin0 (.cons rfl (.cons rfl (.cons rfl (.cons rfl (.cons rfl (.cons rfl (.cons rfl (.cons rfl (.cons rfl (.cons rfl .nil)))))))))) (.cons rfl .nil))
                · refine Tr.val (wg rfl rfl rfl) rfl (fun _ _ h1 h2 => run_move (h1.ev rfl)) ?_
                  refine Tr.val (wg rfl rfl rfl) rfl (fun _ _ h1 h2 => run_pickT (h1.ev rfl) (h1.ev rfl)) ?_
                  exact Tr.nil (Tr.fin0 (.cons rfl (.cons rfl (.cons rfl (.cons rfl (.cons rfl (.cons rfl (.cons rfl (.cons rfl (.cons rfl (.cons rfl .nil)))))))))) (.cons rfl .nil))
              · show Tr _ _ (LF [(0, (.slice Ap0_0 (p0).length cp0_0)), (1, (.slice Ap1_0 (p1).length cp1_0)), (2, (.int .i64 p2)), (7, (.slice Al153 (l153).length cl153)), (10, (.slice Al184 (l184).length cl184)), (11, (.int .i64 x185)), (12, (.bool y187)), (13, (.bool y189)), (80, (.bool false)), (85, (.bool ((p2 == 2) && y187)))]) (LE [(9, ow Al184 cl184 140 fl_TSpan l184)]) _
                refine Tr.val (wg rfl rfl rfl) rfl (fun _ _ h1 h2 => run_move (h1.ev rfl)) ?_
                refine Tr.mid0 2 [(0, (.slice Ap0_0 (p0).length cp0_0)), (1, (.slice Ap1_0 (p1).length cp1_0)), (2, (.int .i64 p2)), (7, (.slice Al153 (l153).length cl153)), (10, (.slice Al184 (l184).length cl184)), (11, (.int .i64 x185)), (12, (.bool y187)), (13, (.bool y189)), (80, (.bool false)), (88, (.bool (((p2 == 2) && y187) && y189)))] [(9, ow Al184 cl184 140 fl_TSpan l184)] ?_ ?_
                · cases hg189 : ((p2 == 2) && y187)
                  · refine Tr.pass rfl rfl rfl rfl rfl (by decide) ?_
                    refine Tr.val (wg rfl rfl rfl) rfl (fun _ _ h1 h2 => run_pickF (h1.ev rfl) (h1.ev rfl)) ?_
                    exact Tr.nil (Tr.fin0 (.cons rfl (.cons rfl (.cons rfl (.cons rfl (.cons rfl (.cons rfl (.cons rfl (.cons rfl (.cons rfl (.cons rfl .nil)))))))))) (.cons rfl .nil))
                  · refine Tr.val (wg rfl rfl rfl) rfl (fun _ _ h1 h2 => run_move (h1.ev rfl)) ?_
                    refine Tr.val (wg rfl rfl rfl) rfl (fun _ _ h1 h2 => run_pickT (h1.ev rfl) (h1.ev rfl)) ?_
                    exact Tr.nil (Tr.fin0 (.cons rfl (.cons rfl (.cons rfl (.cons rfl (.cons rfl (.cons rfl (.cons rfl (.cons rfl (.cons rfl (.cons rfl .nil)))))))))) (.cons rfl .nil))
                · show Tr _ _ (LF [(0, (.slice Ap0_0 (p0).length cp0_0)), (1, (.slice Ap1_0 (p1).length cp1_0)), (2, (.int .i64 p2)), (7, (.slice Al153 (l153).length cl153)), (10, (.slice Al184 (l184).length cl184)), (11, (.int .i64 x185)), (12, (.bool y187)), (13, (.bool y189)), (80, (.bool false)), (88, (.bool (((p2 == 2) && y187) && y189)))]) (LE [(9, ow Al184 cl184 140 fl_TSpan l184)]) _
                  refine Tr.val (wn rfl) rfl (fun _ _ h1 h2 => run_pickF (h1.ev rfl) (h1.ev rfl)) ?_
                  exact Tr.nil (Tr.fin0 (.cons rfl (.cons rfl (.cons rfl (.cons rfl (.cons rfl (.cons rfl (.cons rfl (.cons rfl (.cons rfl .nil))))))))) (.cons rfl .nil))
            · refine Tr.pass rfl rfl rfl rfl rfl (by decide) ?_
              refine Tr.pass rfl rfl rfl rfl rfl (by decide) ?_
              refine Tr.pass rfl rfl rfl rfl rfl (by decide) ?_
              refine Tr.passU rfl rfl rfl rfl (by decide) ?_
              refine Tr.pass rfl rfl rfl rfl rfl (by decide) ?_
              refine Tr.pass rfl rfl rfl rfl rfl (by decide) ?_
              refine Tr.passU rfl rfl rfl rfl (by decide) ?_
              refine Tr.pass rfl rfl rfl rfl rfl (by decide) ?_
              refine Tr.val (wn rfl) rfl (fun _ _ h1 h2 => run_pickT (h1.ev rfl) (h1.ev rfl)) ?_
              exact Tr.nil (Tr.fin0 (.cons rfl (.cons rfl (.cons rfl (.cons rfl (.cons rfl (.cons rfl (.cons rfl (.cons rfl (.cons rfl .nil))))))))) (.cons rfl .nil))
          · show Tr _ _ (LF [(0, (.slice Ap0_0 (p0).length cp0_0)), (1, (.slice Ap1_0 (p1).length cp1_0)), (2, (.int .i64 p2)), (7, (.slice Al153 (l153).length cl153)), (10, (.slice Al184 (l184).length cl184)), (11, (.int .i64 x185)), (12, (.bool y187)), (13, (.bool y189)), (89, (.bool (((p2 == 1) && (y187 || y189)) || (((p2 == 2) && y187) && y189))))]) (LE [(9, ow Al184 cl184 140 fl_TSpan l184)]) _
            refine Tr.val (wn rfl) rfl (fun _ _ h1 h2 => run_move (h1.ev rfl)) ?_
            refine Tr.mid0 10 [(0, (.slice Ap0_0 (p0).length cp0_0)), (1, (.slice Ap1_0 (p1).length cp1_0)), (2, (.int .i64 p2)), (7, (.slice Al153 (l153).length cl153)), (10, (.slice Al184 (l184).length cl184)), (11, (.int .i64 x185)), (100, (.bool ((((p2 == 1) && (y187 || y189)) || (((p2 == 2) && y187) && y189)) || (((p2 == 3) && y187) && (!y189)))))] [(9, ow Al184 cl184 140 fl_TSpan l184)] ?_ ?_
            · cases hg193 : (((p2 == 1) && (y187 || y189)) || (((p2 == 2) && y187) && y189))
              · refine Tr.val (wg rfl rfl rfl) rfl (fun _ _ h1 h2 => run_move (h1.ev rfl)) ?_
                refine Tr.val (wg rfl rfl rfl) rfl (fun _ _ h1 h2 => run_eql (h1.ev rfl) (h1.ev rfl)) ?_
                refine Tr.val (wg rfl rfl rfl) rfl (fun _ _ h1 h2 => run_move (h1.ev rfl)) ?_
                refine Tr.mid0 2 [(0, (.slice Ap0_0 (p0).length cp0_0)), (1, (.slice Ap1_0 (p1).length cp1_0)), (2, (.int .i64 p2)), (7, (.slice Al153 (l153).length cl153)), (10, (.slice Al184 (l184).length cl184)), (11, (.int .i64 x185)), (13, (.bool y189)), (90, (.bool false)), (95, (.bool ((p2 == 3) && y187)))] [(9, ow Al184 cl184 140 fl_TSpan l184)] ?_ ?_
                · cases hg189 : (p2 == 3)
                  · refine Tr.pass rfl rfl rfl rfl rfl (by decide) ?_
                    refine Tr.val (wg rfl rfl rfl) rfl (fun _ _ h1 h2 => run_pickF (h1.ev rfl) (h1.ev rfl)) ?_
                    exact Tr.nil (Tr.fin0 (.cons rfl (.cons rfl (.cons rfl (.cons rfl (.cons rfl (.cons rfl (.cons rfl (.cons rfl (.cons rfl .nil))))))))) (.cons rfl .nil))
                  · refine Tr.val (wg rfl rfl rfl) rfl (fun _ _ h1 h2 => run_move (h1.ev rfl)) ?_
                    refine Tr.val (wg rfl rfl rfl) rfl (fun _ _ h1 h2 => run_pickT (h1.ev rfl) (h1.ev rfl)) ?_
                    exact Tr.nil (Tr.fin0 (.cons rfl (.cons rfl (.cons rfl (.cons rfl (.cons rfl (.cons rfl (.cons rfl (.cons rfl (.cons rfl .nil))))))))) (.cons rfl .nil))
                · show Tr _ _ (LF [(0, (.slice Ap0_0 (p0).length cp0_0)), (1, (.slice Ap1_0 (p1).length cp1_0)), (2, (.int .i64 p2)), (7, (.slice Al153 (l153).length cl153)), (10, (.slice Al184 (l184).length cl184)), (11, (.int .i64 x185)), (13, (.bool y189)), (90, (.bool false)), (95, (.bool ((p2 == 3) && y187)))]) (LE [(9, ow Al184 cl184 140 fl_TSpan l184)]) _
                  refine Tr.val (wg rfl rfl rfl) rfl (fun _ _ h1 h2 => run_move (h1.ev rfl)) ?_
                  refine Tr.mid0 3 [(0, (.slice Ap0_0 (p0).length cp0_0)), (1, (.slice Ap1_0 (p1).length cp1_0)), (2, (.int .i64 p2)), (7, (.slice Al153 (l153).length cl153)), (10, (.slice Al184 (l184).length cl184)), (11, (.int .i64 x185)), (90, (.bool false)), (99, (.bool (((p2 == 3) && y187) && (!y189))))] [(9, ow Al184 cl184 140 fl_TSpan l184)] ?_ ?_
                  · cases hg189 : ((p2 == 3) && y187)
                    · refine Tr.pass rfl rfl rfl rfl rfl (by decide) ?_
                      refine Tr.pass rfl rfl rfl rfl rfl (by decide) ?_
                      refine Tr.val (wg rfl rfl rfl) rfl (fun _ _ h1 h2 => run_pickF (h1.ev rfl) (h1.ev rfl)) ?_
                      exact Tr.nil (Tr.fin0 (.cons rfl (.cons rfl (.cons rfl (.cons rfl (.cons rfl (.cons rfl (.cons rfl (.cons rfl .nil)))))))) (.cons rfl .nil))
                    · refine Tr.val (wg rfl rfl rfl) rfl (fun _ _ h1 h2 => run_move (h1.ev rfl)) ?_
                      refine Tr.val (wg rfl rfl rfl) rfl (fun _ _ h1 h2 => run_not (h1.ev rfl)) ?_
                      refine Tr.val (wg rfl rfl rfl) rfl (fun _ _ h1 h2 => run_pickT (h1.ev rfl) (h1.ev rfl)) ?_
                      exact Tr.nil (Tr.fin0 (.cons rfl (.cons rfl (.cons rfl (.cons rfl (.cons rfl (.cons rfl (.cons rfl (.cons rfl .nil)))))))) (.cons rfl .nil))
                  · show Tr _ _ (LF [(0, (.slice Ap0_0 (p0).length cp0_0)), (1, (.slice Ap1_0 (p1).length cp1_0)), (2, (.int .i64 p2)), (7, (.slice Al153 (l153).length cl153)), (10, (.slice Al184 (l184).length cl184)), (11, (.int .i64 x185)), (90, (.bool false)), (99, (.bool (((p2 == 3) && y187) && (!y189))))]) (LE [(9, ow Al184 cl184 140 fl_TSpan l184)]) _
                    refine Tr.val (wn rfl) rfl (fun _ _ h1 h2 => run_pickF (h1.ev rfl) (h1.ev rfl)) ?_
                    exact Tr.nil (Tr.fin0 (.cons rfl (.cons rfl (.cons rfl (.cons rfl (.cons rfl (.cons rfl (.cons rfl .nil))))))) (.cons rfl .nil))
              · refine Tr.pass rfl rfl rfl rfl rfl (by decide) ?_
                refine Tr.pass rfl rfl rfl rfl rfl (by decide) ?_
                refine Tr.pass rfl rfl rfl rfl rfl (by decide) ?_
                refine Tr.passU rfl rfl rfl rfl (by decide) ?_
                refine Tr.pass rfl rfl rfl rfl rfl (by decide) ?_
                refine Tr.pass rfl rfl rfl rfl rfl (by decide) ?_
                refine Tr.passU rfl rfl rfl rfl (by decide) ?_
                refine Tr.passU rfl rfl rfl rfl (by decide) ?_
                refine Tr.pass rfl rfl rfl rfl rfl (by decide) ?_
                refine Tr.val (wn rfl) rfl (fun _ _ h1 h2 => run_pickT (h1.ev rfl) (h1.ev rfl)) ?_
                exact Tr.nil (Tr.fin0 (.cons rfl (.cons rfl (.cons rfl (.cons rfl (.cons rfl (.cons rfl (.cons rfl .nil))))))) (.cons rfl .nil))
            · show Tr _ _ (LF [(0, (.slice Ap0_0 (p0).length cp0_0)), (1, (.slice Ap1_0 (p1).length cp1_0)), (2, (.int .i64 p2)), (7, (.slice Al153 (l153).length cl153)), (10, (.slice Al184 (l184).length cl184)), (11, (.int .i64 x185)), (100, (.bool ((((p2 == 1) && (y187 || y189)) || (((p2 == 2) && y187) && y189)) || (((p2 == 3) && y187) && (!y189)))))]) (LE [(9, ow Al184 cl184 140 fl_TSpan l184)]) _
              refine Tr.nil (Tr.normThen ?_)
              refine Tr.cond rfl H (fun H => ?_) (fun H => ?_)
              · refine Tr.drawTail 11 (by kernel_rfl) (by kernel_rfl) ?_
                refine Tq.val (wn rfl) rfl (fun _ _ h1 h2 => run_move (h1.ev rfl)) ?_
                refine Tq.val (wn rfl) rfl (fun _ _ h1 h2 => run_move (h1.ev rfl)) ?_
                refine Tq.val (wn rfl) rfl (fun _ _ h1 h2 => run_move (h1.ev rfl)) ?_
                refine Tq.val (wn rfl) rfl (fun _ _ h1 h2 => run_sub (h1.ev rfl) (h1.ev rfl)) ?_
                obtain ⟨x190, hx190, H⟩ := bnd H
                obtain ⟨hx1900, hx1901, hx1902⟩ := idx_some hx190
                refine Tq.val (wn rfl) rfl (fun _ _ h1 h2 => run_indexAddr el_75 (h1.ev rfl) hl153.form (h1.ev rfl) hx1900 hx1901) ?_
                refine Tq.val (wn rfl) rfl (fun _ _ h1 h2 => run_load1 ag_3 (h1.ev rfl) (rdF ef_i64 (hl153.rl) hx1902 h2) rfl) ?_
                refine Tq.val (wn rfl) rfl (fun _ _ h1 h2 => run_move (h1.ev rfl)) ?_
                refine Tq.val (wn rfl) rfl (fun _ _ h1 h2 => run_move (h1.ev rfl)) ?_
                obtain ⟨x191, hx191, H⟩ := bnd H
                obtain ⟨hx1910, hx1911, hx1912⟩ := idx_some hx191
                refine Tq.val (wn rfl) rfl (fun _ _ h1 h2 => run_indexAddr el_75 (h1.ev rfl) hl153.form (h1.ev rfl) hx1910 hx1911) ?_
                refine Tq.val (wn rfl) rfl (fun _ _ h1 h2 => run_load1 ag_3 (h1.ev rfl) (rdF ef_i64 (hl153.rl) hx1912 h2) rfl) ?_
                refine Tq.build (vs := [(0, (.int .i64 x190)), (1, (.int .i64 x191))]) (cs := [(.int .i64 x190), (.int .i64 x191)]) (wn rfl) rfl (evs_cons rfl (evs_cons rfl evs_nil)) (by kernel_rfl) ?_
                refine Tq.nil ?_
                obtain ⟨y192, hy192, H⟩ := bnd H
                refine Tr.callM [10] [emp] (U := (Option Addr × Nat)) (fun u => (.slice u.1 (y192).length u.2)) (fun u => SlF u.1 (y192).length u.2) (fun u => [ow u.1 u.2 140 fl_TSpan y192]) rfl (pk_cons rfl pk_nil) (fun _ => rfl) (wn rfl) rfl Tryz.call115 (evl_cons rfl (evl_cons rfl evl_nil)) (fun W hW hp hE => F_etchhouseref1_joined_ok N l184 Al184 cl184 (hW.slS (k := 9) rfl hp rfl) (TSpan.mk x190 x191) y192 hy192 hE) ?_
                intro u hu
                obtain ⟨Ay192_0, cy192_0⟩ := u
                have gy192_0 := hu
                have hgy192_0 : SlF Ay192_0 (y192).length cy192_0 := gy192_0 --@phi
                show Tr _ _ (uf _ 112 (.slice Ay192_0 (y192).length cy192_0)) (up _ 10 (ow Ay192_0 cy192_0 140 fl_TSpan y192)) _
                refine Tr.val (wn rfl) rfl (fun _ _ h1 h2 => run_assign (h1.ev rfl)) ?_
                refine Tr.nil (Tr.normBlock (Tr.normThen ?_))
                refine Tr.region ?_
                refine Tr.val (wn rfl) rfl (fun _ _ h1 h2 => run_move (h1.ev rfl)) ?_
                refine Tr.val (wn rfl) rfl (fun _ _ h1 h2 => run_add (h1.ev rfl) (h1.ev rfl)) ?_
                refine Tr.val (wn rfl) rfl (fun _ _ h1 h2 => run_assign (h1.ev rfl)) ?_
                refine Tr.nil ?_
                refine Tr.dropK 9 ?_
                refine Tr.ren 10 9 rfl rfl rfl ?_
                exact Tr.backThen leF_etchhouseref1_mixed_L3 (y192, (w64 (x185 + 1)), Ay192_0, cy192_0) ⟨H, hgy192_0⟩ (.cons rfl (.cons rfl (.cons rfl (.cons rfl (.cons rfl (.cons rfl .nil)))))) (.cons rfl .nil)
              · refine Tr.skip (Tr.normBlock (Tr.normThen ?_))
                refine Tr.region ?_
                refine Tr.val (wn rfl) rfl (fun _ _ h1 h2 => run_move (h1.ev rfl)) ?_
                refine Tr.val (wn rfl) rfl (fun _ _ h1 h2 => run_add (h1.ev rfl) (h1.ev rfl)) ?_
                refine Tr.val (wn rfl) rfl (fun _ _ h1 h2 => run_assign (h1.ev rfl)) ?_
                refine Tr.nil ?_
                exact Tr.backThen leF_etchhouseref1_mixed_L3 (l184, (w64 (x185 + 1)), Al184, cl184) ⟨H, hl184⟩ (.cons rfl (.cons rfl (.cons rfl (.cons rfl (.cons rfl (.cons rfl .nil)))))) (.cons rfl .nil)
      · refine Tr.exit (Tr.exitThen (Tr.exitThen (Tr.exitBlock (Tr.normThen ?_))))
        refine Tr.seq ?_
        refine Tr.region ?_
        refine Tr.val (wn rfl) rfl (fun _ _ h1 h2 => run_move (h1.ev rfl)) ?_
        refine Tr.val (wn rfl) rfl (fun _ _ h1 h2 => run_assign (h1.ev rfl)) ?_
        refine Tr.nil (Tr.normThen ?_)
        refine Tr.ret ?_
        obtain rfl := Option.some.inj H
        exact Tr.out (m := [(.slice Al184 (l184).length cl184)]) [] (res_tmp rfl res_nil) (fun W hW => ⟨(Al184, cl184), rfl, hl184, HF.lowE leB (hW.pick (ks := [9]) (by decide) (pk_cons rfl pk_nil)) ⟨ow_any _ _ _ _ tr_TSpan, trivial⟩⟩)

theorem F_etchhouseref1_combined_ok (N : Nat) {w : Bs} (p0 : (List TRect)) (Ap0_0 : Option Addr) (cp0_0 : Nat) (hp0_0 : Sl w.R w.W fl_TRect Ap0_0 cp0_0 p0) (p1 : (List TRect)) (Ap1_0 : Option Addr) (cp1_0 : Nat) (hp1_0 : Sl w.R w.W fl_TRect Ap1_0 cp1_0 p1) (p2 : Int) (r : (List TRect)) (H : F_etchhouseref1_combined N p0 p1 p2 = some r) (hE : HF w w.W (LEn [emp])) : Calls Tryz.prog 52 [(.slice Ap0_0 (p0).length cp0_0), (.slice Ap1_0 (p1).length cp1_0), (.int .i64 p2)].toArray w.W fun e W' => ∃ u : (Option Addr × Nat), e = .returned (.slice u.1 (r).length u.2) ∧ (SlF u.1 (r).length u.2) ∧ HF w W' (LEn [ow u.1 u.2 28 fl_TRect r]) := by
  unfold F_etchhouseref1_combined at H
  have leB := Bs.Le.refl w
  refine Tr.enter (n := 55) Tryz.func52 rfl rfl rfl hE ?_
  refine Tr.seq ?_
  refine Tr.region ?_
  refine Tr.val (wn rfl) rfl (fun _ _ h1 h2 => run_assign (h1.ev rfl)) ?_
  refine Tr.nilOwn 1 28 fl_TRect ?_
  show Tr _ _ (uf _ 6 (.slice none (([] : List TRect)).length 0)) _ _
  refine Tr.nil (Tr.normThen ?_)
  refine Tr.seq ?_
  refine Tr.region ?_
  refine Tr.val (wn rfl) rfl (fun _ _ h1 h2 => run_assign (h1.ev rfl)) ?_
  refine Tr.nilOwn 2 28 fl_TRect ?_
  show Tr _ _ (uf _ 7 (.slice none (([] : List TRect)).length 0)) _ _
  refine Tr.nil (Tr.normThen ?_)
  refine Tr.seq ?_
  refine Tr.region ?_
  refine Tr.val (wn rfl) rfl (fun _ _ h1 h2 => run_move (h1.ev rfl)) ?_
  refine Tr.val (wn rfl) rfl (fun _ _ h1 h2 => run_move (h1.ev rfl)) ?_
  obtain ⟨l100, hl100, H⟩ := bnd H
  refine Tr.appendS 2 (t := fl_TRect) (l := ([] : List TRect)) (l2 := p0) (wn rfl) rfl rfl rfl rfl (apT tr_TRect (fun W hW => (Sl.inB hp0_0 hW))) un_22 sz_28 zl_28 (by decide) by_28 rfl hl100 fun Al100 cl100 hAl100 => ?_
  refine Tr.val (wn rfl) rfl (fun _ _ h1 h2 => run_assign (h1.ev rfl)) ?_
  refine Tr.nil (Tr.normThen ?_)
  refine Tr.seq ?_
  refine Tr.region ?_
  refine Tr.val (wn rfl) rfl (fun _ _ h1 h2 => run_move (h1.ev rfl)) ?_
  refine Tr.val (wn rfl) rfl (fun _ _ h1 h2 => run_move (h1.ev rfl)) ?_
  obtain ⟨l101, hl101, H⟩ := bnd H
  refine Tr.appendS 2 (t := fl_TRect) (l := l100) (l2 := p1) (wn rfl) rfl rfl rfl rfl (apT tr_TRect (fun W hW => (Sl.inB hp1_0 hW))) un_22 sz_28 zl_28 (by decide) by_28 rfl hl101 fun Al101 cl101 hAl101 => ?_
  refine Tr.val (wn rfl) rfl (fun _ _ h1 h2 => run_assign (h1.ev rfl)) ?_
  refine Tr.nil (Tr.normThen ?_)
  refine Tr.seq ?_
  refine Tr.region ?_
  refine Tr.val (wn rfl) rfl (fun _ _ h1 h2 => run_move (h1.ev rfl)) ?_
  obtain ⟨y102, hy102, H⟩ := bnd H
  refine Tr.callG [] [] (U := (Option Addr × Nat)) (fun u => (.slice u.1 (y102).length u.2)) (fun O W u => Sl O W fl_i64 u.1 u.2 y102) (fun u => []) rfl pk_nil (fun _ => rfl) (wn rfl) rfl Tryz.call93 (evl_cons rfl evl_nil) (fun W hW hp hE => F_etchhouseref1_heights_ok N l101 Al101 cl101 (hW.slS (k := 2) rfl hp rfl) y102 hy102 hE) ?_
  intro w u le103 hu
  obtain ⟨Ay102_0, cy102_0⟩ := u
  have gy102_0 := hu
  replace hp0_0 := hp0_0.leR le103
  replace hp1_0 := hp1_0.leR le103
  replace leB := leB.trans le103
  have hgy102_0 : Sl w.O w.W fl_i64 Ay102_0 cy102_0 y102 := gy102_0 --@phi
  show Tr _ _ (uf _ 18 (.slice Ay102_0 (y102).length cy102_0)) (_) _
  refine Tr.val (wn rfl) rfl (fun _ _ h1 h2 => run_assign (h1.ev rfl)) ?_
  refine Tr.nil (Tr.normThen ?_)
  refine Tr.seq ?_
  refine Tr.region ?_
  refine Tr.val (wn rfl) rfl (fun _ _ h1 h2 => run_assign (h1.ev rfl)) ?_
  refine Tr.nilOwn 3 112 fl_Tetchhouseref1Band ?_
  show Tr _ _ (uf _ 9 (.slice none (([] : List Tetchhouseref1Band)).length 0)) _ _
  refine Tr.nil (Tr.normThen ?_)
  refine Tr.seq ?_
  refine Tr.seq ?_
  refine Tr.region ?_
  refine Tr.val (wn rfl) rfl (fun _ _ h1 h2 => run_assign (h1.ev rfl)) ?_
  refine Tr.nil (Tr.normThen ?_)
  refine Tr.block ?_
  refine Tr.loop (σ := (List Tetchhouseref1Band) × Int × (Option Addr) × Nat) (fun m w s => F_etchhouseref1_combined_L1 N p0 p1 p2 y102 m s.1 s.2.1 = some r ∧ SlF s.2.2.1 (s.1).length s.2.2.2) (fun s => [(0, (.slice Ap0_0 (p0).length cp0_0)), (1, (.slice Ap1_0 (p1).length cp1_0)), (2, (.int .i64 p2)), (8, (.slice Ay102_0 (y102).length cy102_0)), (9, (.slice s.2.2.1 (s.1).length s.2.2.2)), (10, (.int .i64 s.2.1))]) (fun s => [(3, ow s.2.2.1 s.2.2.2 112 fl_Tetchhouseref1Band s.1)]) N (([] : List Tetchhouseref1Band), 1, none, 0) ⟨H, slf_nil⟩ (.cons rfl (.cons rfl (.cons rfl (.cons rfl (.cons rfl (.cons rfl .nil)))))) (.cons rfl .nil) (fun _ _ h => noSome (h.1)) ?_
  intro w leF_etchhouseref1_combined_L1 mF_etchhouseref1_combined_L1 s hs
  obtain ⟨l140, x141, Al140, cl140⟩ := s
  obtain ⟨H, hl140⟩ := hs
  replace H : F_etchhouseref1_combined_L1 N p0 p1 p2 y102 (mF_etchhouseref1_combined_L1 + 1) l140 x141 = some r := H
  replace hp0_0 := hp0_0.leR leF_etchhouseref1_combined_L1
  replace hp1_0 := hp1_0.leR leF_etchhouseref1_combined_L1
  replace hgy102_0 := hgy102_0.le leF_etchhouseref1_combined_L1
  replace leB := leB.trans leF_etchhouseref1_combined_L1
  replace hl140 : SlF Al140 (l140).length cl140 := hl140
  rw [F_etchhouseref1_combined_L1.eq_2] at H
  show Tr _ _ (LF [(0, (.slice Ap0_0 (p0).length cp0_0)), (1, (.slice Ap1_0 (p1).length cp1_0)), (2, (.int .i64 p2)), (8, (.slice Ay102_0 (y102).length cy102_0)), (9, (.slice Al140 (l140).length cl140)), (10, (.int .i64 x141))]) (LE [(3, ow Al140 cl140 112 fl_Tetchhouseref1Band l140)]) _
  refine Tr.seq ?_
  refine Tr.seq ?_
  refine Tr.region ?_
  refine Tr.val (wn rfl) rfl (fun _ _ h1 h2 => run_move (h1.ev rfl)) ?_
  refine Tr.val (wn rfl) rfl (fun _ _ h1 h2 => run_move (h1.ev rfl)) ?_
  refine Tr.val (wn rfl) rfl (fun _ _ h1 h2 => run_len un_75 (h1.ev rfl)) ?_
  refine Tr.val (wn rfl) rfl (fun _ _ h1 h2 => run_lss (h1.ev rfl) (h1.ev rfl)) ?_
  refine Tr.nil (Tr.normThen ?_)
  refine Tr.cond rfl H (fun H => ?_) (fun H => ?_)
  · refine Tr.skip (Tr.normThen ?_)
    refine Tr.seq ?_
    refine Tr.block ?_
    refine Tr.drawC 27 [] [] (by kernel_rfl) (by kernel_rfl) fun sz142 hlosz142 hEsz142 => ?_
    refine Dr.quiet 0 [(25, (.slice Al140 (l140).length cl140))] (by kernel_rfl) rfl rfl (by kernel_rfl) ?_ rfl rfl ?_
    · refine Tq.val (wn rfl) rfl (fun _ _ h1 h2 => run_move (h1.ev rfl)) ?_
      exact Tq.fin (.cons rfl .nil)
    refine Dr.quiet 1 [(26, (.slice Ay102_0 (y102).length cy102_0))] (by kernel_rfl) rfl rfl (by kernel_rfl) ?_ rfl rfl ?_
    · refine Tq.val (wn rfl) rfl (fun _ _ h1 h2 => run_move (h1.ev rfl)) ?_
      exact Tq.fin (.cons rfl .nil)
    refine Dr.quiet 2 [(27, (.int .i64 x141))] (by kernel_rfl) rfl rfl (by kernel_rfl) ?_ rfl rfl ?_
    · refine Tq.val (wn rfl) rfl (fun _ _ h1 h2 => run_move (h1.ev rfl)) ?_
      exact Tq.fin (.cons rfl .nil)
    refine Dr.quiet 3 [(28, (.int .i64 (w64 (x141 - 1))))] (by kernel_rfl) rfl rfl (by kernel_rfl) ?_ rfl rfl ?_
    · refine Tq.val (wn rfl) rfl (fun _ _ h1 h2 => run_sub (h1.ev rfl) (h1.ev rfl)) ?_
      exact Tq.fin (.cons rfl .nil)
    obtain ⟨x143, hx143, H⟩ := bnd H
    obtain ⟨hx1430, hx1431, hx1432⟩ := idx_some hx143
    refine Dr.quiet 4 [(29, (.pointer (some ⟨adB Ay102_0, adO Ay102_0 + ((w64 (x141 - 1))).toNat * 1, none⟩)))] (by kernel_rfl) rfl rfl (by kernel_rfl) ?_ rfl rfl ?_
    · refine Tq.val (wn rfl) rfl (fun _ _ h1 h2 => run_indexAddr el_75 (h1.ev rfl) hgy102_0.form (h1.ev rfl) hx1430 hx1431) ?_
      exact Tq.fin (.cons rfl .nil)
    refine Dr.quiet 5 [(30, (.int .i64 x143))] (by kernel_rfl) rfl rfl (by kernel_rfl) ?_ rfl rfl ?_
    · refine Tq.val (wn rfl) rfl (fun _ _ h1 h2 => run_load1 ag_3 (h1.ev rfl) (rdF ef_i64 (hgy102_0.rl) hx1432 h2) rfl) ?_
      exact Tq.fin (.cons rfl .nil)
    refine Dr.quiet 6 [(31, (.slice Ay102_0 (y102).length cy102_0))] (by kernel_rfl) rfl rfl (by kernel_rfl) ?_ rfl rfl ?_
    · refine Tq.val (wn rfl) rfl (fun _ _ h1 h2 => run_move (h1.ev rfl)) ?_
      exact Tq.fin (.cons rfl .nil)
    refine Dr.quiet 7 [(32, (.int .i64 x141))] (by kernel_rfl) rfl rfl (by kernel_rfl) ?_ rfl rfl ?_
    · refine Tq.val (wn rfl) rfl (fun _ _ h1 h2 => run_move (h1.ev rfl)) ?_
      exact Tq.fin (.cons rfl .nil)
    obtain ⟨x144, hx144, H⟩ := bnd H
    obtain ⟨hx1440, hx1441, hx1442⟩ := idx_some hx144
    refine Dr.quiet 8 [(33, (.pointer (some ⟨adB Ay102_0, adO Ay102_0 + (x141).toNat * 1, none⟩)))] (by kernel_rfl) rfl rfl (by kernel_rfl) ?_ rfl rfl ?_
    · refine Tq.val (wn rfl) rfl (fun _ _ h1 h2 => run_indexAddr el_75 (h1.ev rfl) hgy102_0.form (h1.ev rfl) hx1440 hx1441) ?_
      exact Tq.fin (.cons rfl .nil)
    refine Dr.quiet 9 [(34, (.int .i64 x144))] (by kernel_rfl) rfl rfl (by kernel_rfl) ?_ rfl rfl ?_
    · refine Tq.val (wn rfl) rfl (fun _ _ h1 h2 => run_load1 ag_3 (h1.ev rfl) (rdF ef_i64 (hgy102_0.rl) hx1442 h2) rfl) ?_
      exact Tq.fin (.cons rfl .nil)
    refine Dr.quiet 10 [(35, (.slice Ap0_0 (p0).length cp0_0))] (by kernel_rfl) rfl rfl (by kernel_rfl) ?_ rfl rfl ?_
    · refine Tq.val (wn rfl) rfl (fun _ _ h1 h2 => run_move (h1.ev rfl)) ?_
      exact Tq.fin (.cons rfl .nil)
    refine Dr.quiet 11 [(36, (.slice Ay102_0 (y102).length cy102_0))] (by kernel_rfl) rfl rfl (by kernel_rfl) ?_ rfl rfl ?_
    · refine Tq.val (wn rfl) rfl (fun _ _ h1 h2 => run_move (h1.ev rfl)) ?_
      exact Tq.fin (.cons rfl .nil)
    refine Dr.quiet 12 [(37, (.int .i64 x141))] (by kernel_rfl) rfl rfl (by kernel_rfl) ?_ rfl rfl ?_
    · refine Tq.val (wn rfl) rfl (fun _ _ h1 h2 => run_move (h1.ev rfl)) ?_
      exact Tq.fin (.cons rfl .nil)
    refine Dr.quiet 13 [(38, (.int .i64 (w64 (x141 - 1))))] (by kernel_rfl) rfl rfl (by kernel_rfl) ?_ rfl rfl ?_
    · refine Tq.val (wn rfl) rfl (fun _ _ h1 h2 => run_sub (h1.ev rfl) (h1.ev rfl)) ?_
      exact Tq.fin (.cons rfl .nil)
    obtain ⟨x145, hx145, H⟩ := bnd H
    obtain ⟨hx1450, hx1451, hx1452⟩ := idx_some hx145
    refine Dr.quiet 14 [(39, (.pointer (some ⟨adB Ay102_0, adO Ay102_0 + ((w64 (x141 - 1))).toNat * 1, none⟩)))] (by kernel_rfl) rfl rfl (by kernel_rfl) ?_ rfl rfl ?_
    · refine Tq.val (wn rfl) rfl (fun _ _ h1 h2 => run_indexAddr el_75 (h1.ev rfl) hgy102_0.form (h1.ev rfl) hx1450 hx1451) ?_
      exact Tq.fin (.cons rfl .nil)
    refine Dr.quiet 15 [(40, (.int .i64 x145))] (by kernel_rfl) rfl rfl (by kernel_rfl) ?_ rfl rfl ?_
    · refine Tq.val (wn rfl) rfl (fun _ _ h1 h2 => run_load1 ag_3 (h1.ev rfl) (rdF ef_i64 (hgy102_0.rl) hx1452 h2) rfl) ?_
      exact Tq.fin (.cons rfl .nil)
    refine Dr.quiet 17 [(42, (.slice Ap1_0 (p1).length cp1_0))] (by kernel_rfl) rfl rfl (by kernel_rfl) ?_ rfl rfl ?_
    · refine Tq.val (wn rfl) rfl (fun _ _ h1 h2 => run_move (h1.ev rfl)) ?_
      exact Tq.fin (.cons rfl .nil)
    refine Dr.quiet 18 [(43, (.slice Ay102_0 (y102).length cy102_0))] (by kernel_rfl) rfl rfl (by kernel_rfl) ?_ rfl rfl ?_
    · refine Tq.val (wn rfl) rfl (fun _ _ h1 h2 => run_move (h1.ev rfl)) ?_
      exact Tq.fin (.cons rfl .nil)
    refine Dr.quiet 19 [(44, (.int .i64 x141))] (by kernel_rfl) rfl rfl (by kernel_rfl) ?_ rfl rfl ?_
    · refine Tq.val (wn rfl) rfl (fun _ _ h1 h2 => run_move (h1.ev rfl)) ?_
      exact Tq.fin (.cons rfl .nil)
    refine Dr.quiet 20 [(45, (.int .i64 (w64 (x141 - 1))))] (by kernel_rfl) rfl rfl (by kernel_rfl) ?_ rfl rfl ?_
    · refine Tq.val (wn rfl) rfl (fun _ _ h1 h2 => run_sub (h1.ev rfl) (h1.ev rfl)) ?_
      exact Tq.fin (.cons rfl .nil)
    obtain ⟨x146, hx146, H⟩ := bnd H
    obtain ⟨hx1460, hx1461, hx1462⟩ := idx_some hx146
    refine Dr.quiet 21 [(46, (.pointer (some ⟨adB Ay102_0, adO Ay102_0 + ((w64 (x141 - 1))).toNat * 1, none⟩)))] (by kernel_rfl) rfl rfl (by kernel_rfl) ?_ rfl rfl ?_
    · refine Tq.val (wn rfl) rfl (fun _ _ h1 h2 => run_indexAddr el_75 (h1.ev rfl) hgy102_0.form (h1.ev rfl) hx1460 hx1461) ?_
      exact Tq.fin (.cons rfl .nil)
    refine Dr.quiet 22 [(47, (.int .i64 x146))] (by kernel_rfl) rfl rfl (by kernel_rfl) ?_ rfl rfl ?_
    · refine Tq.val (wn rfl) rfl (fun _ _ h1 h2 => run_load1 ag_3 (h1.ev rfl) (rdF ef_i64 (hgy102_0.rl) hx1462 h2) rfl) ?_
      exact Tq.fin (.cons rfl .nil)
    refine Dr.quiet 24 [(49, (.int .i64 p2))] (by kernel_rfl) rfl rfl (by kernel_rfl) ?_ rfl rfl ?_
    · refine Tq.val (wn rfl) rfl (fun _ _ h1 h2 => run_move (h1.ev rfl)) ?_
      exact Tq.fin (.cons rfl .nil)
    obtain ⟨y147, hy147, H⟩ := bnd H
    refine Dr.one 16 (by kernel_rfl) ?_
    refine St.callM 16 [10] [emp] (U := (Option Addr × Nat)) (fun u => (.slice u.1 (y147).length u.2)) (fun u => SlF u.1 (y147).length u.2) (fun u => [ow u.1 u.2 140 fl_TSpan y147]) rfl (pk_cons rfl pk_nil) (fun _ => rfl) (insS_no rfl) rfl (wn rfl) rfl Tryz.call94 (evl_cons rfl (evl_cons rfl evl_nil)) (fun W hW hp hE => F_etchhouseref1_row_ok N p0 Ap0_0 cp0_0 (hp0_0.ext (hW.extS hp)) x145 y147 hy147 hE) ?_
    intro u hu hsy147
    obtain ⟨Ay147_0, cy147_0⟩ := u
    have gy147_0 := hu
    have hgy147_0 : SlF Ay147_0 (y147).length cy147_0 := gy147_0
    show Dr _ _ _ _ _ _ _ _ _ (uf _ 41 (.slice Ay147_0 (y147).length cy147_0)) (up _ 10 (ow Ay147_0 cy147_0 140 fl_TSpan y147))
    obtain ⟨y149, hy149, H⟩ := bnd H
    refine Dr.one 23 (by kernel_rfl) ?_
    refine St.callM 23 [11] [emp] (U := (Option Addr × Nat)) (fun u => (.slice u.1 (y149).length u.2)) (fun u => SlF u.1 (y149).length u.2) (fun u => [ow u.1 u.2 140 fl_TSpan y149]) rfl (pk_cons rfl pk_nil) (fun _ => rfl) (insS_no rfl) rfl (wn rfl) rfl Tryz.call94 (evl_cons rfl (evl_cons rfl evl_nil)) (fun W hW hp hE => F_etchhouseref1_row_ok N p1 Ap1_0 cp1_0 (hp1_0.ext (hW.extS hp)) x146 y149 hy149 hE) ?_
    intro u hu hsy149
    obtain ⟨Ay149_0, cy149_0⟩ := u
    have gy149_0 := hu
    have hgy149_0 : SlF Ay149_0 (y149).length cy149_0 := gy149_0
    show Dr _ _ _ _ _ _ _ _ _ (uf _ 48 (.slice Ay149_0 (y149).length cy149_0)) (up _ 11 (ow Ay149_0 cy149_0 140 fl_TSpan y149))
    obtain ⟨y151, hy151, H⟩ := bnd H
    refine Dr.one 25 (by kernel_rfl) ?_
    refine St.callM 25 [12] [emp] (U := (Option Addr × Nat)) (fun u => (.slice u.1 (y151).length u.2)) (fun u => SlF u.1 (y151).length u.2) (fun u => [ow u.1 u.2 140 fl_TSpan y151]) rfl (pk_cons rfl pk_nil) (fun _ => rfl) (insS_no rfl) rfl (wn rfl) rfl Tryz.call96 (evl_cons rfl (evl_cons rfl (evl_cons rfl evl_nil))) (fun W hW hp hE => F_etchhouseref1_mixed_ok N y147 Ay147_0 cy147_0 (hW.slS (k := 10) rfl hp rfl) y149 Ay149_0 cy149_0 (hW.slS (k := 11) rfl hp rfl) p2 y151 hy151 hE) ?_
    intro u hu hsy151
    obtain ⟨Ay151_0, cy151_0⟩ := u
    have gy151_0 := hu
    have hgy151_0 : SlF Ay151_0 (y151).length cy151_0 := gy151_0
    show Dr _ _ _ _ _ _ _ _ _ (uf _ 50 (.slice Ay151_0 (y151).length cy151_0)) (up _ 12 (ow Ay151_0 cy151_0 140 fl_TSpan y151))
    refine Dr.quiet 26 [(51, (.agg #[(.int .i64 x143), (.int .i64 x144), (.slice Ay151_0 (y151).length cy151_0)]))] (by kernel_rfl) rfl rfl (by kernel_rfl) ?_ rfl rfl ?_
    · refine Tq.build (vs := [(0, (.int .i64 x143)), (1, (.int .i64 x144)), (2, (.slice Ay151_0 (y151).length cy151_0))]) (cs := [(.int .i64 x143), (.int .i64 x144), (.slice Ay151_0 (y151).length cy151_0)]) (wn rfl) rfl (evs_cons rfl (evs_cons rfl (evs_cons rfl evs_nil))) (by kernel_rfl) ?_
      exact Tq.fin (.cons rfl .nil)
    refine Dr.tail (by kernel_rfl) ?_
    refine Tr.freeze 12 rfl fun w le154 hz153 => ?_
    replace hp0_0 := hp0_0.leR le154
    replace hp1_0 := hp1_0.leR le154
    replace hgy102_0 := hgy102_0.le le154
    replace leB := leB.trans le154
    replace leF_etchhouseref1_combined_L1 := leF_etchhouseref1_combined_L1.trans le154
    obtain ⟨y155, hy155, H⟩ := bnd H
    refine Tr.callG [3] [ow Al140 cl140 112 fl_Tetchhouseref1Band l140] (U := (Option Addr × Nat)) (fun u => (.slice u.1 (y155).length u.2)) (fun O W u => SlF u.1 (y155).length u.2) (fun u => [ow u.1 u.2 112 fl_Tetchhouseref1Band y155]) rfl (pk_cons rfl pk_nil) (fun _ => rfl) (wn rfl) rfl Tryz.call87 (evl_cons rfl (evl_cons rfl evl_nil)) (fun W hW hp hE => F_etchhouseref1_stacked_ok N l140 Al140 cl140 (Tetchhouseref1Band.mk x143 x144 y151) Ay151_0 cy151_0 (hz153.extO (hW.extS hp)) y155 hy155 hE) ?_
    intro w u le156 hu
    obtain ⟨Ay155_0, cy155_0⟩ := u
    have gy155_0 := hu
    replace hp0_0 := hp0_0.leR le156
    replace hp1_0 := hp1_0.leR le156
    replace hgy102_0 := hgy102_0.le le156
    replace hz153 := hz153.le le156
    replace leB := leB.trans le156
    replace leF_etchhouseref1_combined_L1 := leF_etchhouseref1_combined_L1.trans le156
    have hgy155_0 : SlF Ay155_0 (y155).length cy155_0 := gy155_0 --@phi
    show Tr _ _ (uf _ 52 (.slice Ay155_0 (y155).length cy155_0)) (up _ 3 (ow Ay155_0 cy155_0 112 fl_Tetchhouseref1Band y155)) _
    refine Tr.val (wn rfl) rfl (fun _ _ h1 h2 => run_assign (h1.ev rfl)) ?_
    refine Tr.nil (Tr.normBlock (Tr.normThen ?_))
    refine Tr.region ?_
    refine Tr.val (wn rfl) rfl (fun _ _ h1 h2 => run_move (h1.ev rfl)) ?_
    refine Tr.val (wn rfl) rfl (fun _ _ h1 h2 => run_add (h1.ev rfl) (h1.ev rfl)) ?_
    refine Tr.val (wn rfl) rfl (fun _ _ h1 h2 => run_assign (h1.ev rfl)) ?_
    refine Tr.nil ?_
    exact Tr.backThen leF_etchhouseref1_combined_L1 (y155, (w64 (x141 + 1)), Ay155_0, cy155_0) ⟨H, hgy155_0⟩ (.cons rfl (.cons rfl (.cons rfl (.cons rfl (.cons rfl (.cons rfl .nil)))))) (.cons rfl .nil)
  · refine Tr.exit (Tr.exitThen (Tr.exitThen (Tr.exitBlock (Tr.normThen ?_))))
    refine Tr.seq ?_
    refine Tr.region ?_
    refine Tr.val (wn rfl) rfl (fun _ _ h1 h2 => run_move (h1.ev rfl)) ?_
    obtain ⟨y157, hy157, H⟩ := bnd H
    refine Tr.callM [13] [emp] (U := (Option Addr × Nat)) (fun u => (.slice u.1 (y157).length u.2)) (fun u => SlF u.1 (y157).length u.2) (fun u => [ow u.1 u.2 28 fl_TRect y157]) rfl (pk_cons rfl pk_nil) (fun _ => rfl) (wn rfl) rfl Tryz.call89 (evl_cons rfl evl_nil) (fun W hW hp hE => F_etchhouseref1_told_ok N l140 Al140 cl140 (hW.slS (k := 3) rfl hp rfl) y157 hy157 hE) ?_
    intro u hu
    obtain ⟨Ay157_0, cy157_0⟩ := u
    have gy157_0 := hu
    have hgy157_0 : SlF Ay157_0 (y157).length cy157_0 := gy157_0 --@phi
    show Tr _ _ (uf _ 54 (.slice Ay157_0 (y157).length cy157_0)) (up _ 13 (ow Ay157_0 cy157_0 28 fl_TRect y157)) _
    refine Tr.val (wn rfl) rfl (fun _ _ h1 h2 => run_assign (h1.ev rfl)) ?_
    refine Tr.nil (Tr.normThen ?_)
    refine Tr.ret ?_
    obtain rfl := Option.some.inj H
    exact Tr.out (m := [(.slice Ay157_0 (y157).length cy157_0)]) [] (res_tmp rfl res_nil) (fun W hW => ⟨(Ay157_0, cy157_0), rfl, hgy157_0, HF.lowE leB (hW.pick (ks := [13]) (by decide) (pk_cons rfl pk_nil)) ⟨ow_any _ _ _ _ tr_TRect, trivial⟩⟩)

theorem F_etchhouseref1_shrinkOf_ok (N : Nat) {w : Bs} (p0 : (List TRect)) (Ap0_0 : Option Addr) (cp0_0 : Nat) (hp0_0 : Sl w.R w.W fl_TRect Ap0_0 cp0_0 p0) (p1 : Int) (r : ((List TRect) × Int)) (H : F_etchhouseref1_shrinkOf N p0 p1 = some r) (hE : HF w w.W (LEn [])) : Calls Tryz.prog 26 [(.slice Ap0_0 (p0).length cp0_0), (.int .i64 p1)].toArray w.W fun e W' => ∃ (w' : Bs) (u : (Option Addr × Nat)), w.Le w' ∧ e = .returned (.tuple #[(.slice u.1 (r.1).length u.2), (.int .i64 r.2)]) ∧ (Sl w'.O w'.W fl_TRect u.1 u.2 r.1) ∧ HF w' W' (LEn []) := by
  unfold F_etchhouseref1_shrinkOf at H
  have leB := Bs.Le.refl w
  refine Tr.enter (n := 26) Tryz.func26 rfl rfl rfl hE ?_
  refine Tr.seq ?_
  refine Tr.region ?_
  refine Tr.val (wn rfl) rfl (fun _ _ h1 h2 => run_assign (h1.ev rfl)) ?_
  refine Tr.nilOwn 1 28 fl_TRect ?_
  show Tr _ _ (uf _ 4 (.slice none (([] : List TRect)).length 0)) _ _
  refine Tr.val (wn rfl) rfl (fun _ _ h1 h2 => run_assign (h1.ev rfl)) ?_
  refine Tr.nil (Tr.normThen ?_)
  refine Tr.seq ?_
  refine Tr.seq ?_
  refine Tr.region ?_
  refine Tr.val (wn rfl) rfl (fun _ _ h1 h2 => run_move (h1.ev rfl)) ?_
  refine Tr.val (wn rfl) rfl (fun _ _ h1 h2 => run_len un_22 (h1.ev rfl)) ?_
  refine Tr.val (wn rfl) rfl (fun _ _ h1 h2 => run_eql (h1.ev rfl) (h1.ev rfl)) ?_
  refine Tr.nil (Tr.normThen ?_)
  refine Tr.cond rfl H (fun H => ?_) (fun H => ?_)
  · refine Tr.seq ?_
    refine Tr.region ?_
    refine Tr.val (wn rfl) rfl (fun _ _ h1 h2 => run_assign (h1.ev rfl)) ?_
    refine Tr.nilOwn 2 28 fl_TRect ?_
    show Tr _ _ (uf _ 4 (.slice none (([] : List TRect)).length 0)) _ _
    refine Tr.val (wn rfl) rfl (fun _ _ h1 h2 => run_assign (h1.ev rfl)) ?_
    refine Tr.nil (Tr.normThen ?_)
    refine Tr.ret (Tr.retThen ?_)
    obtain rfl := Option.some.inj H
    refine Tr.freeze 2 rfl fun w le101 hz100 => ?_
    replace hp0_0 := hp0_0.leR le101
    replace leB := leB.trans le101
    exact Tr.out (m := [(.slice none (([] : List TRect)).length 0), (.int .i64 0)]) [] (res_tmp rfl (res_tmp rfl res_nil)) (fun W hW => ⟨w, (none, 0), leB, rfl, hz100, hW.pick (ks := []) (by decide) pk_nil⟩)
  · refine Tr.skip (Tr.normThen ?_)
    refine Tr.seq ?_
    refine Tr.region ?_
    refine Tr.val (wn rfl) rfl (fun _ _ h1 h2 => run_move (h1.ev rfl)) ?_
    obtain ⟨y102, hy102, H⟩ := bnd H
    refine Tr.call0 (r := (.agg #[(.int .i64 y102.X0), (.int .i64 y102.Y0), (.int .i64 y102.X1), (.int .i64 y102.Y1)])) (wn rfl) rfl Tryz.call54 (evl_cons rfl evl_nil) (fun W hW => F_etchhouseref1_BoundsOf_ok N p0 Ap0_0 cp0_0 (hp0_0.ext hW.extAll) y102 hy102 (HF.start _)) ?_
    refine Tr.val (wn rfl) rfl (fun _ _ h1 h2 => run_move (h1.ev rfl)) ?_
    obtain ⟨y103, hy103, H⟩ := bnd H
    refine Tr.call0 (r := (.agg #[(.int .i64 y103.X0), (.int .i64 y103.Y0), (.int .i64 y103.X1), (.int .i64 y103.Y1)])) (wn rfl) rfl Tryz.call53 (evl_cons rfl (evl_cons rfl evl_nil)) (fun W hW => F_etchhouseref1_wider_ok y102 p1 y103 hy103 (HF.start _)) ?_
    refine Tr.buildSlice 3 (e := 28) (vs := [(0, (.agg #[(.int .i64 y103.X0), (.int .i64 y103.Y0), (.int .i64 y103.X1), (.int .i64 y103.Y1)]))]) (cs := [(.int .i64 y103.X0), (.int .i64 y103.Y0), (.int .i64 y103.X1), (.int .i64 y103.Y1)]) (wn rfl) rfl (evs_cons rfl evs_nil) (by kernel_rfl) fun b104 => ?_
    refine Tr.val (wn rfl) rfl (fun _ _ h1 h2 => run_move (h1.ev rfl)) ?_
    refine Tr.own 3 fl_TRect [y103] (css := [[(.int .i64 y103.X0), (.int .i64 y103.Y0), (.int .i64 y103.X1), (.int .i64 y103.Y1)]]) rfl (.cons ⟨(), trivial, rfl⟩ .nil) rfl (by decide) (lit_max rfl) ?_
    obtain ⟨y105, hy105, H⟩ := bnd H
    refine Tr.callM [4] [emp] (U := (Option Addr × Nat)) (fun u => (.slice u.1 (y105).length u.2)) (fun u => SlF u.1 (y105).length u.2) (fun u => [ow u.1 u.2 28 fl_TRect y105]) rfl (pk_cons rfl pk_nil) (fun _ => rfl) (wn rfl) rfl Tryz.call52 (evl_cons rfl (evl_cons rfl (evl_cons rfl evl_nil))) (fun W hW hp hE => F_etchhouseref1_combined_ok N [y103] (some ⟨b104, 0, none⟩) 1 (hW.slS (k := 3) rfl hp rfl) p0 Ap0_0 cp0_0 (hp0_0.ext (hW.extS hp)) 3 y105 hy105 hE) ?_
    intro u hu
    obtain ⟨Ay105_0, cy105_0⟩ := u
    have gy105_0 := hu
    have hgy105_0 : SlF Ay105_0 (y105).length cy105_0 := gy105_0 --@phi
    show Tr _ _ (uf _ 16 (.slice Ay105_0 (y105).length cy105_0)) (up _ 4 (ow Ay105_0 cy105_0 28 fl_TRect y105)) _
    refine Tr.val (wn rfl) rfl (fun _ _ h1 h2 => run_assign (h1.ev rfl)) ?_
    refine Tr.nil (Tr.normThen ?_)
    refine Tr.seq ?_
    refine Tr.region ?_
    refine Tr.val (wn rfl) rfl (fun _ _ h1 h2 => run_move (h1.ev rfl)) ?_
    refine Tr.val (wn rfl) rfl (fun _ _ h1 h2 => run_move (h1.ev rfl)) ?_
    refine Tr.val (wn rfl) rfl (fun _ _ h1 h2 => run_move (h1.ev rfl)) ?_
    obtain ⟨y107, hy107, H⟩ := bnd H
    refine Tr.callM [5] [emp] (U := (Option Addr × Nat)) (fun u => (.slice u.1 (y107).length u.2)) (fun u => SlF u.1 (y107).length u.2) (fun u => [ow u.1 u.2 28 fl_TRect y107]) rfl (pk_cons rfl pk_nil) (fun _ => rfl) (wn rfl) rfl Tryz.call48 (evl_cons rfl (evl_cons rfl evl_nil)) (fun W hW hp hE => F_etchhouseref1_grown_ok N y105 Ay105_0 cy105_0 (hW.slS (k := 4) rfl hp rfl) p1 y107 hy107 hE) ?_
    intro u hu
    obtain ⟨Ay107_0, cy107_0⟩ := u
    have gy107_0 := hu
    have hgy107_0 : SlF Ay107_0 (y107).length cy107_0 := gy107_0 --@phi
    show Tr _ _ (uf _ 20 (.slice Ay107_0 (y107).length cy107_0)) (up _ 5 (ow Ay107_0 cy107_0 28 fl_TRect y107)) _
    obtain ⟨y109, hy109, H⟩ := bnd H
    refine Tr.callM [6] [emp] (U := (Option Addr × Nat)) (fun u => (.slice u.1 (y109).length u.2)) (fun u => SlF u.1 (y109).length u.2) (fun u => [ow u.1 u.2 28 fl_TRect y109]) rfl (pk_cons rfl pk_nil) (fun _ => rfl) (wn rfl) rfl Tryz.call50 (evl_cons rfl evl_nil) (fun W hW hp hE => F_etchhouseref1_Canonical_ok N y107 Ay107_0 cy107_0 (hW.slS (k := 5) rfl hp rfl) y109 hy109 hE) ?_
    intro u hu
    obtain ⟨Ay109_0, cy109_0⟩ := u
    have gy109_0 := hu
    have hgy109_0 : SlF Ay109_0 (y109).length cy109_0 := gy109_0 --@phi
    show Tr _ _ (uf _ 21 (.slice Ay109_0 (y109).length cy109_0)) (up _ 6 (ow Ay109_0 cy109_0 28 fl_TRect y109)) _
    obtain ⟨y111, hy111, H⟩ := bnd H
    refine Tr.callM [7] [emp] (U := (Option Addr × Nat)) (fun u => (.slice u.1 (y111).length u.2)) (fun u => SlF u.1 (y111).length u.2) (fun u => [ow u.1 u.2 28 fl_TRect y111]) rfl (pk_cons rfl pk_nil) (fun _ => rfl) (wn rfl) rfl Tryz.call52 (evl_cons rfl (evl_cons rfl (evl_cons rfl evl_nil))) (fun W hW hp hE => F_etchhouseref1_combined_ok N p0 Ap0_0 cp0_0 (hp0_0.ext (hW.extS hp)) y109 Ay109_0 cy109_0 (hW.slS (k := 6) rfl hp rfl) 3 y111 hy111 hE) ?_
    intro u hu
    obtain ⟨Ay111_0, cy111_0⟩ := u
    have gy111_0 := hu
    have hgy111_0 : SlF Ay111_0 (y111).length cy111_0 := gy111_0 --@phi
    show Tr _ _ (uf _ 22 (.slice Ay111_0 (y111).length cy111_0)) (up _ 7 (ow Ay111_0 cy111_0 28 fl_TRect y111)) _
    refine Tr.freeze 7 rfl fun w le114 hz113 => ?_
    replace hp0_0 := hp0_0.leR le114
    replace leB := leB.trans le114
    obtain ⟨y115, hy115, H⟩ := bnd H
    refine Tr.callG [] [] (U := (Option Addr × Nat)) (fun u => (.tuple #[(.slice u.1 (y115.1).length u.2), (.int .i64 y115.2)])) (fun O W u => Sl O W fl_TRect u.1 u.2 y115.1) (fun u => []) rfl pk_nil (fun _ => rfl) (wn rfl) rfl Tryz.call40 (evl_cons rfl evl_nil) (fun W hW hp hE => F_etchhouseref1_limited_ok y111 Ay111_0 cy111_0 (hz113.extO (hW.extS hp)) y115 hy115 hE) ?_
    intro w u le116 hu
    obtain ⟨Ay115_0, cy115_0⟩ := u
    have gy115_0 := hu
    replace hp0_0 := hp0_0.leR le116
    replace hz113 := hz113.le le116
    replace leB := leB.trans le116
    have hgy115_0 : Sl w.O w.W fl_TRect Ay115_0 cy115_0 y115.1 := gy115_0 --@phi
    show Tr _ _ (uf _ 23 (.tuple #[(.slice Ay115_0 (y115.1).length cy115_0), (.int .i64 y115.2)])) (_) _
    refine Tr.val (wn rfl) rfl (fun _ _ h1 h2 => run_extract (h1.ev rfl) rfl) ?_
    refine Tr.val (wn rfl) rfl (fun _ _ h1 h2 => run_extract (h1.ev rfl) rfl) ?_
    refine Tr.val (wn rfl) rfl (fun _ _ h1 h2 => run_assign (h1.ev rfl)) ?_
    refine Tr.val (wn rfl) rfl (fun _ _ h1 h2 => run_assign (h1.ev rfl)) ?_
    refine Tr.nil (Tr.normThen ?_)
    refine Tr.ret ?_
    obtain rfl := Option.some.inj H
    exact Tr.out (m := [(.slice Ay115_0 (y115.1).length cy115_0), (.int .i64 y115.2)]) [] (res_tmp rfl (res_tmp rfl res_nil)) (fun W hW => ⟨w, (Ay115_0, cy115_0), leB, rfl, hgy115_0, hW.pick (ks := []) (by decide) pk_nil⟩)

theorem F_etchhouseref1_Shrink_ok (N : Nat) {w : Bs} (p0 : (List TRect)) (Ap0_0 : Option Addr) (cp0_0 : Nat) (hp0_0 : Sl w.R w.W fl_TRect Ap0_0 cp0_0 p0) (p1 : Int) (r : ((List TRect) × Int)) (H : F_etchhouseref1_Shrink N p0 p1 = some r) (hE : HF w w.W (LEn [])) : Calls Tryz.prog 9 [(.slice Ap0_0 (p0).length cp0_0), (.int .i64 p1)].toArray w.W fun e W' => ∃ (w' : Bs) (u : (Option Addr × Nat)), w.Le w' ∧ e = .returned (.tuple #[(.slice u.1 (r.1).length u.2), (.int .i64 r.2)]) ∧ (Sl w'.O w'.W fl_TRect u.1 u.2 r.1) ∧ HF w' W' (LEn []) := by
  unfold F_etchhouseref1_Shrink at H
  have leB := Bs.Le.refl w
  refine Tr.enter (n := 18) Tryz.func9 rfl rfl rfl hE ?_
  refine Tr.seq ?_
  refine Tr.region ?_
  refine Tr.val (wn rfl) rfl (fun _ _ h1 h2 => run_assign (h1.ev rfl)) ?_
  refine Tr.nilOwn 1 28 fl_TRect ?_
  show Tr _ _ (uf _ 4 (.slice none (([] : List TRect)).length 0)) _ _
  refine Tr.val (wn rfl) rfl (fun _ _ h1 h2 => run_assign (h1.ev rfl)) ?_
  refine Tr.nil (Tr.normThen ?_)
  refine Tr.seq ?_
  refine Tr.seq ?_
  refine Tr.region ?_
  refine Tr.val (wn rfl) rfl (fun _ _ h1 h2 => run_move (h1.ev rfl)) ?_
  refine Tr.val (wn rfl) rfl (fun _ _ h1 h2 => run_move (h1.ev rfl)) ?_
  obtain ⟨y100, hy100, H⟩ := bnd H
  refine Tr.call0 (r := (.int .i64 y100)) (wn rfl) rfl Tryz.call23 (evl_cons rfl (evl_cons rfl evl_nil)) (fun W hW => F_etchhouseref1_checkGrow_ok N p0 Ap0_0 cp0_0 (hp0_0.ext hW.extAll) p1 y100 hy100 (HF.start _)) ?_
  refine Tr.val (wn rfl) rfl (fun _ _ h1 h2 => run_assign (h1.ev rfl)) ?_
  refine Tr.nil (Tr.normThen ?_)
  refine Tr.seq ?_
  refine Tr.region ?_
  refine Tr.val (wn rfl) rfl (fun _ _ h1 h2 => run_move (h1.ev rfl)) ?_
  refine Tr.val (wn rfl) rfl (fun _ _ h1 h2 => run_neq (h1.ev rfl) (h1.ev rfl)) ?_
  refine Tr.nil (Tr.normThen ?_)
  refine Tr.cond rfl H (fun H => ?_) (fun H => ?_)
  · refine Tr.seq ?_
    refine Tr.region ?_
    refine Tr.val (wn rfl) rfl (fun _ _ h1 h2 => run_move (h1.ev rfl)) ?_
    refine Tr.val (wn rfl) rfl (fun _ _ h1 h2 => run_assign (h1.ev rfl)) ?_
    refine Tr.nilOwn 2 28 fl_TRect ?_
    show Tr _ _ (uf _ 4 (.slice none (([] : List TRect)).length 0)) _ _
    refine Tr.val (wn rfl) rfl (fun _ _ h1 h2 => run_assign (h1.ev rfl)) ?_
    refine Tr.nil (Tr.normThen ?_)
    refine Tr.ret (Tr.retThen ?_)
    obtain rfl := Option.some.inj H
    refine Tr.freeze 2 rfl fun w le102 hz101 => ?_
    replace hp0_0 := hp0_0.leR le102
    replace leB := leB.trans le102
    exact Tr.out (m := [(.slice none (([] : List TRect)).length 0), (.int .i64 y100)]) [] (res_tmp rfl (res_tmp rfl res_nil)) (fun W hW => ⟨w, (none, 0), leB, rfl, hz101, hW.pick (ks := []) (by decide) pk_nil⟩)
  · refine Tr.skip (Tr.normThen ?_)
    refine Tr.seq ?_
    refine Tr.region ?_
    refine Tr.val (wn rfl) rfl (fun _ _ h1 h2 => run_move (h1.ev rfl)) ?_
    refine Tr.val (wn rfl) rfl (fun _ _ h1 h2 => run_move (h1.ev rfl)) ?_
    obtain ⟨y103, hy103, H⟩ := bnd H
    refine Tr.callG [] [] (U := (Option Addr × Nat)) (fun u => (.tuple #[(.slice u.1 (y103.1).length u.2), (.int .i64 y103.2)])) (fun O W u => Sl O W fl_TRect u.1 u.2 y103.1) (fun u => []) rfl pk_nil (fun _ => rfl) (wn rfl) rfl Tryz.call26 (evl_cons rfl (evl_cons rfl evl_nil)) (fun W hW hp hE => F_etchhouseref1_shrinkOf_ok N p0 Ap0_0 cp0_0 (hp0_0.ext (hW.extS hp)) p1 y103 hy103 hE) ?_
    intro w u le104 hu
    obtain ⟨Ay103_0, cy103_0⟩ := u
    have gy103_0 := hu
    replace hp0_0 := hp0_0.leR le104
    replace leB := leB.trans le104
    have hgy103_0 : Sl w.O w.W fl_TRect Ay103_0 cy103_0 y103.1 := gy103_0 --@phi
    show Tr _ _ (uf _ 15 (.tuple #[(.slice Ay103_0 (y103.1).length cy103_0), (.int .i64 y103.2)])) (_) _
    refine Tr.val (wn rfl) rfl (fun _ _ h1 h2 => run_extract (h1.ev rfl) rfl) ?_
    refine Tr.val (wn rfl) rfl (fun _ _ h1 h2 => run_extract (h1.ev rfl) rfl) ?_
    refine Tr.val (wn rfl) rfl (fun _ _ h1 h2 => run_assign (h1.ev rfl)) ?_
    refine Tr.val (wn rfl) rfl (fun _ _ h1 h2 => run_assign (h1.ev rfl)) ?_
    refine Tr.nil (Tr.normThen ?_)
    refine Tr.ret ?_
    obtain rfl := Option.some.inj H
    exact Tr.out (m := [(.slice Ay103_0 (y103.1).length cy103_0), (.int .i64 y103.2)]) [] (res_tmp rfl (res_tmp rfl res_nil)) (fun W hW => ⟨w, (Ay103_0, cy103_0), leB, rfl, hgy103_0, hW.pick (ks := []) (by decide) pk_nil⟩)

theorem F_shape_Opened_ok (N : Nat) {w : Bs} (p0 : (List TRect)) (Ap0_0 : Option Addr) (cp0_0 : Nat) (hp0_0 : Sl w.R w.W fl_TRect Ap0_0 cp0_0 p0) (p1 : Int) (r : ((List TRect) × Int)) (H : F_shape_Opened N p0 p1 = some r) (hE : HF w w.W (LEn [emp])) : Calls Tryz.prog 10 [(.slice Ap0_0 (p0).length cp0_0), (.int .i64 p1)].toArray w.W fun e W' => ∃ u : (Option Addr × Nat), e = .returned (.tuple #[(.slice u.1 (r.1).length u.2), (.int .i64 r.2)]) ∧ (SlF u.1 (r.1).length u.2) ∧ HF w W' (LEn [ow u.1 u.2 28 fl_TRect r.1]) := by
  unfold F_shape_Opened at H
  have leB := Bs.Le.refl w
  refine Tr.enter (n := 12) Tryz.func10 rfl rfl rfl hE ?_
  refine Tr.seq ?_
  refine Tr.region ?_
  refine Tr.val (wn rfl) rfl (fun _ _ h1 h2 => run_assign (h1.ev rfl)) ?_
  refine Tr.nilOwn 1 28 fl_TRect ?_
  show Tr _ _ (uf _ 4 (.slice none (([] : List TRect)).length 0)) _ _
  refine Tr.val (wn rfl) rfl (fun _ _ h1 h2 => run_assign (h1.ev rfl)) ?_
  refine Tr.nil (Tr.normThen ?_)
  refine Tr.seq ?_
  refine Tr.region ?_
  refine Tr.val (wn rfl) rfl (fun _ _ h1 h2 => run_move (h1.ev rfl)) ?_
  refine Tr.val (wn rfl) rfl (fun _ _ h1 h2 => run_move (h1.ev rfl)) ?_
  refine Tr.buildSlice 2 (e := 42) (vs := [(0, (.func (.func 25) #[] #[])), (1, (.func (.func 22) #[] #[]))]) (cs := [(.func (.func 25) #[] #[]), (.func (.func 22) #[] #[])]) (wn rfl) rfl (evs_cons rfl (evs_cons rfl evs_nil)) (by kernel_rfl) fun b100 => ?_
  refine Tr.own 2 fl_func [25, 22] (css := [[(.func (.func 25) #[] #[])], [(.func (.func 22) #[] #[])]]) rfl (.cons ⟨(), trivial, rfl⟩ (.cons ⟨(), trivial, rfl⟩ .nil)) rfl (by decide) (lit_max rfl) ?_
  obtain ⟨y101, hy101, H⟩ := bnd H
  refine Tr.callM [3] [emp] (U := (Option Addr × Nat)) (fun u => (.tuple #[(.slice u.1 (y101.1).length u.2), (.int .i64 y101.2)])) (fun u => SlF u.1 (y101.1).length u.2) (fun u => [ow u.1 u.2 28 fl_TRect y101.1]) rfl (pk_cons rfl pk_nil) (fun _ => rfl) (wn rfl) rfl Tryz.call21 (evl_cons rfl (evl_cons rfl (evl_cons rfl evl_nil))) (fun W hW hp hE => F_shape_steps_ok N p0 Ap0_0 cp0_0 (hp0_0.ext (hW.extS hp)) p1 [25, 22] (some ⟨b100, 0, none⟩) 2 (hW.slS (k := 2) rfl hp rfl) y101 hy101 hE) ?_
  intro u hu
  obtain ⟨Ay101_0, cy101_0⟩ := u
  have gy101_0 := hu
  have hgy101_0 : SlF Ay101_0 (y101.1).length cy101_0 := gy101_0 --@phi
  show Tr _ _ (uf _ 9 (.tuple #[(.slice Ay101_0 (y101.1).length cy101_0), (.int .i64 y101.2)])) (up _ 3 (ow Ay101_0 cy101_0 28 fl_TRect y101.1)) _
  refine Tr.val (wn rfl) rfl (fun _ _ h1 h2 => run_extract (h1.ev rfl) rfl) ?_
  refine Tr.val (wn rfl) rfl (fun _ _ h1 h2 => run_extract (h1.ev rfl) rfl) ?_
  refine Tr.val (wn rfl) rfl (fun _ _ h1 h2 => run_assign (h1.ev rfl)) ?_
  refine Tr.val (wn rfl) rfl (fun _ _ h1 h2 => run_assign (h1.ev rfl)) ?_
  refine Tr.nil (Tr.normThen ?_)
  refine Tr.ret ?_
  obtain rfl := Option.some.inj H
  exact Tr.out (m := [(.slice Ay101_0 (y101.1).length cy101_0), (.int .i64 y101.2)]) [] (res_tmp rfl (res_tmp rfl res_nil)) (fun W hW => ⟨(Ay101_0, cy101_0), rfl, hgy101_0, HF.lowE leB (hW.pick (ks := [3]) (by decide) (pk_cons rfl pk_nil)) ⟨ow_any _ _ _ _ tr_TRect, trivial⟩⟩)

theorem F_etchhouseref1_Opened_ok (N : Nat) {w : Bs} (p0 : (List TRect)) (Ap0_0 : Option Addr) (cp0_0 : Nat) (hp0_0 : Sl w.R w.W fl_TRect Ap0_0 cp0_0 p0) (p1 : Int) (r : ((List TRect) × Int)) (H : F_etchhouseref1_Opened N p0 p1 = some r) (hE : HF w w.W (LEn [])) : Calls Tryz.prog 11 [(.slice Ap0_0 (p0).length cp0_0), (.int .i64 p1)].toArray w.W fun e W' => ∃ (w' : Bs) (u : (Option Addr × Nat)), w.Le w' ∧ e = .returned (.tuple #[(.slice u.1 (r.1).length u.2), (.int .i64 r.2)]) ∧ (Sl w'.O w'.W fl_TRect u.1 u.2 r.1) ∧ HF w' W' (LEn []) := by
  unfold F_etchhouseref1_Opened at H
  have leB := Bs.Le.refl w
  refine Tr.enter (n := 29) Tryz.func11 rfl rfl rfl hE ?_
  refine Tr.seq ?_
  refine Tr.region ?_
  refine Tr.val (wn rfl) rfl (fun _ _ h1 h2 => run_assign (h1.ev rfl)) ?_
  refine Tr.nilOwn 1 28 fl_TRect ?_
  show Tr _ _ (uf _ 4 (.slice none (([] : List TRect)).length 0)) _ _
  refine Tr.val (wn rfl) rfl (fun _ _ h1 h2 => run_assign (h1.ev rfl)) ?_
  refine Tr.nil (Tr.normThen ?_)
  refine Tr.seq ?_
  refine Tr.seq ?_
  refine Tr.region ?_
  refine Tr.val (wn rfl) rfl (fun _ _ h1 h2 => run_move (h1.ev rfl)) ?_
  refine Tr.val (wn rfl) rfl (fun _ _ h1 h2 => run_move (h1.ev rfl)) ?_
  obtain ⟨y100, hy100, H⟩ := bnd H
  refine Tr.call0 (r := (.int .i64 y100)) (wn rfl) rfl Tryz.call23 (evl_cons rfl (evl_cons rfl evl_nil)) (fun W hW => F_etchhouseref1_checkGrow_ok N p0 Ap0_0 cp0_0 (hp0_0.ext hW.extAll) p1 y100 hy100 (HF.start _)) ?_
  refine Tr.val (wn rfl) rfl (fun _ _ h1 h2 => run_assign (h1.ev rfl)) ?_
  refine Tr.nil (Tr.normThen ?_)
  refine Tr.seq ?_
  refine Tr.region ?_
  refine Tr.val (wn rfl) rfl (fun _ _ h1 h2 => run_move (h1.ev rfl)) ?_
  refine Tr.val (wn rfl) rfl (fun _ _ h1 h2 => run_neq (h1.ev rfl) (h1.ev rfl)) ?_
  refine Tr.nil (Tr.normThen ?_)
  refine Tr.cond rfl H (fun H => ?_) (fun H => ?_)
  · refine Tr.seq ?_
    refine Tr.region ?_
    refine Tr.val (wn rfl) rfl (fun _ _ h1 h2 => run_move (h1.ev rfl)) ?_
    refine Tr.val (wn rfl) rfl (fun _ _ h1 h2 => run_assign (h1.ev rfl)) ?_
    refine Tr.nilOwn 2 28 fl_TRect ?_
    show Tr _ _ (uf _ 4 (.slice none (([] : List TRect)).length 0)) _ _
    refine Tr.val (wn rfl) rfl (fun _ _ h1 h2 => run_assign (h1.ev rfl)) ?_
    refine Tr.nil (Tr.normThen ?_)
    refine Tr.ret (Tr.retThen ?_)
    obtain rfl := Option.some.inj H
    refine Tr.freeze 2 rfl fun w le102 hz101 => ?_
    replace hp0_0 := hp0_0.leR le102
    replace leB := leB.trans le102
    exact Tr.out (m := [(.slice none (([] : List TRect)).length 0), (.int .i64 y100)]) [] (res_tmp rfl (res_tmp rfl res_nil)) (fun W hW => ⟨w, (none, 0), leB, rfl, hz101, hW.pick (ks := []) (by decide) pk_nil⟩)
  · refine Tr.skip (Tr.normThen ?_)
    refine Tr.seq ?_
    refine Tr.region ?_
    refine Tr.val (wn rfl) rfl (fun _ _ h1 h2 => run_move (h1.ev rfl)) ?_
    refine Tr.val (wn rfl) rfl (fun _ _ h1 h2 => run_move (h1.ev rfl)) ?_
    obtain ⟨y103, hy103, H⟩ := bnd H
    refine Tr.callG [] [] (U := (Option Addr × Nat)) (fun u => (.tuple #[(.slice u.1 (y103.1).length u.2), (.int .i64 y103.2)])) (fun O W u => Sl O W fl_TRect u.1 u.2 y103.1) (fun u => []) rfl pk_nil (fun _ => rfl) (wn rfl) rfl Tryz.call26 (evl_cons rfl (evl_cons rfl evl_nil)) (fun W hW hp hE => F_etchhouseref1_shrinkOf_ok N p0 Ap0_0 cp0_0 (hp0_0.ext (hW.extS hp)) p1 y103 hy103 hE) ?_
    intro w u le104 hu
    obtain ⟨Ay103_0, cy103_0⟩ := u
    have gy103_0 := hu
    replace hp0_0 := hp0_0.leR le104
    replace leB := leB.trans le104
    have hgy103_0 : Sl w.O w.W fl_TRect Ay103_0 cy103_0 y103.1 := gy103_0 --@phi
    show Tr _ _ (uf _ 18 (.tuple #[(.slice Ay103_0 (y103.1).length cy103_0), (.int .i64 y103.2)])) (_) _
    refine Tr.val (wn rfl) rfl (fun _ _ h1 h2 => run_move (h1.ev rfl)) ?_
    refine Tr.val (wn rfl) rfl (fun _ _ h1 h2 => run_extract (h1.ev rfl) rfl) ?_
    refine Tr.val (wn rfl) rfl (fun _ _ h1 h2 => run_extract (h1.ev rfl) rfl) ?_
    refine Tr.val (wn rfl) rfl (fun _ _ h1 h2 => run_assign (h1.ev rfl)) ?_
    refine Tr.val (wn rfl) rfl (fun _ _ h1 h2 => run_assign (h1.ev rfl)) ?_
    refine Tr.nil (Tr.normThen ?_)
    refine Tr.seq ?_
    refine Tr.seq ?_
    refine Tr.region ?_
    refine Tr.val (wn rfl) rfl (fun _ _ h1 h2 => run_move (h1.ev rfl)) ?_
    refine Tr.val (wn rfl) rfl (fun _ _ h1 h2 => run_neq (h1.ev rfl) (h1.ev rfl)) ?_
    refine Tr.nil (Tr.normThen ?_)
    refine Tr.cond rfl H (fun H => ?_) (fun H => ?_)
    · refine Tr.seq ?_
      refine Tr.region ?_
      refine Tr.val (wn rfl) rfl (fun _ _ h1 h2 => run_move (h1.ev rfl)) ?_
      refine Tr.val (wn rfl) rfl (fun _ _ h1 h2 => run_assign (h1.ev rfl)) ?_
      refine Tr.nilOwn 3 28 fl_TRect ?_
      show Tr _ _ (uf _ 4 (.slice none (([] : List TRect)).length 0)) _ _
      refine Tr.val (wn rfl) rfl (fun _ _ h1 h2 => run_assign (h1.ev rfl)) ?_
      refine Tr.nil (Tr.normThen ?_)
      refine Tr.ret (Tr.retThen ?_)
      obtain rfl := Option.some.inj H
      refine Tr.freeze 3 rfl fun w le106 hz105 => ?_
      replace hp0_0 := hp0_0.leR le106
      replace hgy103_0 := hgy103_0.le le106
      replace leB := leB.trans le106
      exact Tr.out (m := [(.slice none (([] : List TRect)).length 0), (.int .i64 y103.2)]) [] (res_tmp rfl (res_tmp rfl res_nil)) (fun W hW => ⟨w, (none, 0), leB, rfl, hz105, hW.pick (ks := []) (by decide) pk_nil⟩)
    · refine Tr.skip (Tr.normThen ?_)
      refine Tr.seq ?_
      refine Tr.region ?_
      refine Tr.val (wn rfl) rfl (fun _ _ h1 h2 => run_move (h1.ev rfl)) ?_
      refine Tr.val (wn rfl) rfl (fun _ _ h1 h2 => run_move (h1.ev rfl)) ?_
      obtain ⟨y107, hy107, H⟩ := bnd H
      refine Tr.callG [] [] (U := (Option Addr × Nat)) (fun u => (.tuple #[(.slice u.1 (y107.1).length u.2), (.int .i64 y107.2)])) (fun O W u => Sl O W fl_TRect u.1 u.2 y107.1) (fun u => []) rfl pk_nil (fun _ => rfl) (wn rfl) rfl Tryz.call24 (evl_cons rfl (evl_cons rfl evl_nil)) (fun W hW hp hE => F_etchhouseref1_growOf_ok N y103.1 Ay103_0 cy103_0 (hgy103_0.rl.ext (hW.extS hp)) p1 y107 hy107 hE) ?_
      intro w u le108 hu
      obtain ⟨Ay107_0, cy107_0⟩ := u
      have gy107_0 := hu
      replace hp0_0 := hp0_0.leR le108
      replace hgy103_0 := hgy103_0.le le108
      replace leB := leB.trans le108
      have hgy107_0 : Sl w.O w.W fl_TRect Ay107_0 cy107_0 y107.1 := gy107_0 --@phi
      show Tr _ _ (uf _ 26 (.tuple #[(.slice Ay107_0 (y107.1).length cy107_0), (.int .i64 y107.2)])) (_) _
      refine Tr.val (wn rfl) rfl (fun _ _ h1 h2 => run_extract (h1.ev rfl) rfl) ?_
      refine Tr.val (wn rfl) rfl (fun _ _ h1 h2 => run_extract (h1.ev rfl) rfl) ?_
      refine Tr.val (wn rfl) rfl (fun _ _ h1 h2 => run_assign (h1.ev rfl)) ?_
      refine Tr.val (wn rfl) rfl (fun _ _ h1 h2 => run_assign (h1.ev rfl)) ?_
      refine Tr.nil (Tr.normThen ?_)
      refine Tr.ret ?_
      obtain rfl := Option.some.inj H
      exact Tr.out (m := [(.slice Ay107_0 (y107.1).length cy107_0), (.int .i64 y107.2)]) [] (res_tmp rfl (res_tmp rfl res_nil)) (fun W hW => ⟨w, (Ay107_0, cy107_0), leB, rfl, hgy107_0, hW.pick (ks := []) (by decide) pk_nil⟩)

end Go.Proofs.YtnlhigfglfahiaaGreat
