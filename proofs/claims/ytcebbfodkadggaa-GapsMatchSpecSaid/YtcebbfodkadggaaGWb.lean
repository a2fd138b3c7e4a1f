/- The walks: each function computes its plain function. -/
import Derived.Test.YtcebbfodkadggaaGWa
namespace Go.Proofs.Ytcebbfodkadggaa
open Go.RowKit
set_option maxRecDepth 100000
set_option maxHeartbeats 1000000
theorem F_shape_GapOf_ok {w : Bs} (p0 : (List TRect)) (Ap0_0 : Option Addr) (cp0_0 : Nat) (hp0_0 : Sl w.R w.W fl_TRect Ap0_0 cp0_0 p0) (p1 : (List TRect)) (Ap1_0 : Option Addr) (cp1_0 : Nat) (hp1_0 : Sl w.R w.W fl_TRect Ap1_0 cp1_0 p1) (r : TGap) (H : F_shape_GapOf p0 p1 = some r) (hE : HF w w.W E0) : Calls Try.prog 74 [(.slice Ap0_0 (p0).length cp0_0), (.slice Ap1_0 (p1).length cp1_0)].toArray w.W fun e W' => e = .returned (.agg #[(.int .i64 r.A), (.int .i64 r.B), (.int .i64 r.Distance), (.int .i64 r.From.X), (.int .i64 r.From.Y), (.int .i64 r.To.X), (.int .i64 r.To.Y)]) ∧ HF w W' E0 := by
  unfold F_shape_GapOf at H
  have leB := Bs.Le.refl w
  refine Tr.enter (n := 129) Try.func74 rfl rfl rfl hE ?_
  refine Tr.seq ?_
  refine Tr.region ?_
  refine Tr.alloc 1 (wn rfl) rfl ze_58 fun b100 => ?_
  refine Tr.nil (Tr.normThen ?_)
  refine Tr.seq ?_
  refine Tr.region ?_
  refine Tr.val (wn rfl) rfl (fun _ _ h1 h2 => run_assign (h1.ev rfl)) ?_
  refine Tr.nil (Tr.normThen ?_)
  refine Tr.seq ?_
  refine Tr.seq ?_
  refine Tr.region ?_
  refine Tr.val (wn rfl) rfl (fun _ _ h1 h2 => run_move (h1.ev rfl)) ?_
  refine Tr.val (wn rfl) rfl (fun _ _ h1 h2 => run_len un_22 (h1.ev rfl)) ?_
  refine Tr.val (wn rfl) rfl (fun _ _ h1 h2 => run_move (h1.ev rfl)) ?_
  refine Tr.nil (Tr.normThen ?_)
  refine Tr.block ?_
  refine Tr.loop (σ := (List TRect) × Nat × Int) (fun m w s => m = s.1.length + 1 ∧ s.1 = List.drop s.2.1 p0 ∧ s.2.1 ≤ p0.length ∧ F_shape_GapOf_L3 p0 p1 s.1 s.2.1 s.2.2 = some r) (fun s => [(0, (.slice Ap0_0 (p0).length cp0_0)), (1, (.slice Ap1_0 (p1).length cp1_0)), (4, (.pointer (some ⟨b100, 0, none⟩))), (5, (.int .i64 s.2.2)), (22, (.slice Ap0_0 (p0).length cp0_0)), (23, (.int .i64 (p0.length : Int))), (24, (.int .i64 (s.2.1 : Int)))]) (fun s => [(1, bx b100 #[(.int .i64 0), (.int .i64 0), (.int .i64 0), (.int .i64 0), (.int .i64 0), (.int .i64 0), (.int .i64 0)] 58)]) (p0.length + 1) (p0, 0, (-1)) ⟨rfl, rfl, Nat.zero_le _, H⟩ (.cons rfl (.cons rfl (.cons rfl (.cons rfl (.cons rfl (.cons rfl (.cons rfl .nil))))))) (.cons rfl .nil) (fun _ _ h => absurd h.1 (by simp)) ?_
  intro w leF_shape_GapOf_L3 m s hs
  obtain ⟨restF_shape_GapOf_L3, iF_shape_GapOf_L3, x141⟩ := s
  obtain ⟨hmF_shape_GapOf_L3, hdF_shape_GapOf_L3, hiF_shape_GapOf_L3, H⟩ := hs
  replace hdF_shape_GapOf_L3 : restF_shape_GapOf_L3 = List.drop iF_shape_GapOf_L3 p0 := hdF_shape_GapOf_L3
  replace H : F_shape_GapOf_L3 p0 p1 restF_shape_GapOf_L3 iF_shape_GapOf_L3 x141 = some r := H
  replace hmF_shape_GapOf_L3 : m + 1 = restF_shape_GapOf_L3.length + 1 := hmF_shape_GapOf_L3
  replace hp0_0 := hp0_0.leR leF_shape_GapOf_L3
  replace hp1_0 := hp1_0.leR leF_shape_GapOf_L3
  replace leB := leB.trans leF_shape_GapOf_L3
  obtain rfl : m = restF_shape_GapOf_L3.length := by omega
  clear hmF_shape_GapOf_L3
  show Tr _ _ (LF [(0, (.slice Ap0_0 (p0).length cp0_0)), (1, (.slice Ap1_0 (p1).length cp1_0)), (4, (.pointer (some ⟨b100, 0, none⟩))), (5, (.int .i64 x141)), (22, (.slice Ap0_0 (p0).length cp0_0)), (23, (.int .i64 (p0.length : Int))), (24, (.int .i64 (iF_shape_GapOf_L3 : Int)))]) (LE [(1, bx b100 #[(.int .i64 0), (.int .i64 0), (.int .i64 0), (.int .i64 0), (.int .i64 0), (.int .i64 0), (.int .i64 0)] 58)]) _
  cases restF_shape_GapOf_L3 with
  | nil =>
    rw [F_shape_GapOf_L3.eq_1] at H
    refine Tr.seq ?_
    refine Tr.region ?_
    refine Tr.val (wn rfl) rfl (fun _ _ h1 h2 => run_lss (h1.ev rfl) (h1.ev rfl)) ?_
    refine Tr.nil (Tr.normThen ?_)
    refine Tr.seq ?_
    refine Tr.condF rfl (range_nil hdF_shape_GapOf_L3) ?_
    refine Tr.exit (Tr.exitThen (Tr.exitThen (Tr.exitBlock (Tr.normThen ?_))))
    refine Tr.seq ?_
    refine Tr.region ?_
    refine Tr.val (wn rfl) rfl (fun _ _ h1 h2 => run_move (h1.ev rfl)) ?_
    refine Tr.val (wn rfl) rfl (fun _ _ h1 h2 => run_sub (h1.ev rfl) (h1.ev rfl)) ?_
    refine Tr.build (vs := [(2, (.int .i64 (w64 (x141 - 1))))]) (cs := [(.int .i64 0), (.int .i64 0), (.int .i64 (w64 (x141 - 1))), (.int .i64 0), (.int .i64 0), (.int .i64 0), (.int .i64 0)]) (wn rfl) rfl (evs_cons rfl evs_nil) (by kernel_rfl) ?_
    refine Tr.alloc 10 (wn rfl) rfl ze_58 fun b142 => ?_
    refine Tr.store 10 (cs := [(.int .i64 0), (.int .i64 0), (.int .i64 (w64 (x141 - 1))), (.int .i64 0), (.int .i64 0), (.int .i64 0), (.int .i64 0)]) [(.int .i64 0), (.int .i64 0), (.int .i64 (w64 (x141 - 1))), (.int .i64 0), (.int .i64 0), (.int .i64 0), (.int .i64 0)] (wn rfl) rfl rfl rfl rfl sz_58 rfl rfl rfl ?_
    refine Tr.nil (Tr.normThen ?_)
    refine Tr.seq ?_
    refine Tr.region ?_
    refine Tr.val (wn rfl) rfl (fun _ _ h1 h2 => run_assign (h1.ev rfl)) ?_
    refine Tr.nil (Tr.normThen ?_)
    refine Tr.seq ?_
    refine Tr.seq ?_
    refine Tr.region ?_
    refine Tr.val (wn rfl) rfl (fun _ _ h1 h2 => run_move (h1.ev rfl)) ?_
    refine Tr.val (wn rfl) rfl (fun _ _ h1 h2 => run_len un_22 (h1.ev rfl)) ?_
    refine Tr.val (wn rfl) rfl (fun _ _ h1 h2 => run_move (h1.ev rfl)) ?_
    refine Tr.nil (Tr.normThen ?_)
    refine Tr.block ?_
    refine Tr.loop (σ := (List TRect) × Nat × Int × Int × Bool) (fun m w s => m = s.1.length + 1 ∧ s.1 = List.drop s.2.1 p0 ∧ s.2.1 ≤ p0.length ∧ F_shape_GapOf_L6 p1 x141 s.1 s.2.1 s.2.2.1 s.2.2.2.1 s.2.2.2.2 = some r) (fun s => [(1, (.slice Ap1_0 (p1).length cp1_0)), (4, (.pointer (some ⟨b100, 0, none⟩))), (5, (.int .i64 x141)), (11, (.pointer (some ⟨b142, 0, none⟩))), (12, (.bool s.2.2.2.2)), (50, (.slice Ap0_0 (p0).length cp0_0)), (51, (.int .i64 (p0.length : Int))), (52, (.int .i64 (s.2.1 : Int)))]) (fun s => [(1, bx b100 #[(.int .i64 0), (.int .i64 0), (.int .i64 0), (.int .i64 0), (.int .i64 0), (.int .i64 0), (.int .i64 0)] 58), (10, bx b142 #[(.int .i64 0), (.int .i64 0), (.int .i64 (w64 (x141 - 1))), (.int .i64 s.2.2.1), (.int .i64 s.2.2.2.1), (.int .i64 0), (.int .i64 0)] 58)]) (p0.length + 1) (p0, 0, 0, 0, false) ⟨rfl, rfl, Nat.zero_le _, H⟩ (.cons rfl (.cons rfl (.cons rfl (.cons rfl (.cons rfl (.cons rfl (.cons rfl (.cons rfl .nil)))))))) (.cons rfl (.cons rfl .nil)) (fun _ _ h => absurd h.1 (by simp)) ?_
    intro w leF_shape_GapOf_L6 m s hs
    obtain ⟨restF_shape_GapOf_L6, iF_shape_GapOf_L6, x259, x260, x261⟩ := s
    obtain ⟨hmF_shape_GapOf_L6, hdF_shape_GapOf_L6, hiF_shape_GapOf_L6, H⟩ := hs
    replace hdF_shape_GapOf_L6 : restF_shape_GapOf_L6 = List.drop iF_shape_GapOf_L6 p0 := hdF_shape_GapOf_L6
    replace H : F_shape_GapOf_L6 p1 x141 restF_shape_GapOf_L6 iF_shape_GapOf_L6 x259 x260 x261 = some r := H
    replace hmF_shape_GapOf_L6 : m + 1 = restF_shape_GapOf_L6.length + 1 := hmF_shape_GapOf_L6
    replace hp1_0 := hp1_0.leR leF_shape_GapOf_L6
    replace hp0_0 := hp0_0.leR leF_shape_GapOf_L6
    replace leB := leB.trans leF_shape_GapOf_L6
    replace leF_shape_GapOf_L3 := leF_shape_GapOf_L3.trans leF_shape_GapOf_L6
    obtain rfl : m = restF_shape_GapOf_L6.length := by omega
    clear hmF_shape_GapOf_L6
    show Tr _ _ (LF [(1, (.slice Ap1_0 (p1).length cp1_0)), (4, (.pointer (some ⟨b100, 0, none⟩))), (5, (.int .i64 x141)), (11, (.pointer (some ⟨b142, 0, none⟩))), (12, (.bool x261)), (50, (.slice Ap0_0 (p0).length cp0_0)), (51, (.int .i64 (p0.length : Int))), (52, (.int .i64 (iF_shape_GapOf_L6 : Int)))]) (LE [(1, bx b100 #[(.int .i64 0), (.int .i64 0), (.int .i64 0), (.int .i64 0), (.int .i64 0), (.int .i64 0), (.int .i64 0)] 58), (10, bx b142 #[(.int .i64 0), (.int .i64 0), (.int .i64 (w64 (x141 - 1))), (.int .i64 x259), (.int .i64 x260), (.int .i64 0), (.int .i64 0)] 58)]) _
    cases restF_shape_GapOf_L6 with
    | nil =>
      rw [F_shape_GapOf_L6.eq_1] at H
      refine Tr.seq ?_
      refine Tr.region ?_
      refine Tr.val (wn rfl) rfl (fun _ _ h1 h2 => run_lss (h1.ev rfl) (h1.ev rfl)) ?_
      refine Tr.nil (Tr.normThen ?_)
      refine Tr.seq ?_
      refine Tr.condF rfl (range_nil hdF_shape_GapOf_L6) ?_
      refine Tr.exit (Tr.exitThen (Tr.exitThen (Tr.exitBlock (Tr.normThen ?_))))
      refine Tr.seq ?_
      refine Tr.region ?_
      refine Tr.val (wn rfl) rfl (fun _ _ h1 h2 => run_fieldAddr fo_58_3 (h1.ev rfl)) ?_
      refine Tr.val (wn rfl) rfl (fun _ _ h1 h2 => run_fieldAddr fo_35_0 (h1.ev rfl)) ?_
      refine Tr.val (wn rfl) rfl (fun _ _ h1 h2 => run_load1 ag_3 (h1.ev rfl) (rdb h2 (vs := [(.int .i64 0), (.int .i64 0), (.int .i64 (w64 (x141 - 1))), (.int .i64 x259), (.int .i64 x260), (.int .i64 0), (.int .i64 0)]) (k := 10) rfl 3) rfl) ?_
      refine Tr.val (wn rfl) rfl (fun _ _ h1 h2 => run_fieldAddr fo_58_3 (h1.ev rfl)) ?_
      refine Tr.val (wn rfl) rfl (fun _ _ h1 h2 => run_fieldAddr fo_35_1 (h1.ev rfl)) ?_
      refine Tr.val (wn rfl) rfl (fun _ _ h1 h2 => run_load1 ag_3 (h1.ev rfl) (rdb h2 (vs := [(.int .i64 0), (.int .i64 0), (.int .i64 (w64 (x141 - 1))), (.int .i64 x259), (.int .i64 x260), (.int .i64 0), (.int .i64 0)]) (k := 10) rfl 4) rfl) ?_
      refine Tr.val (wn rfl) rfl (fun _ _ h1 h2 => run_fieldAddr fo_58_3 (h1.ev rfl)) ?_
      refine Tr.val (wn rfl) rfl (fun _ _ h1 h2 => run_fieldAddr fo_35_0 (h1.ev rfl)) ?_
      refine Tr.val (wn rfl) rfl (fun _ _ h1 h2 => run_load1 ag_3 (h1.ev rfl) (rdb h2 (vs := [(.int .i64 0), (.int .i64 0), (.int .i64 (w64 (x141 - 1))), (.int .i64 x259), (.int .i64 x260), (.int .i64 0), (.int .i64 0)]) (k := 10) rfl 3) rfl) ?_
      refine Tr.val (wn rfl) rfl (fun _ _ h1 h2 => run_add (h1.ev rfl) (h1.ev rfl)) ?_
      refine Tr.val (wn rfl) rfl (fun _ _ h1 h2 => run_fieldAddr fo_58_3 (h1.ev rfl)) ?_
      refine Tr.val (wn rfl) rfl (fun _ _ h1 h2 => run_fieldAddr fo_35_1 (h1.ev rfl)) ?_
      refine Tr.val (wn rfl) rfl (fun _ _ h1 h2 => run_load1 ag_3 (h1.ev rfl) (rdb h2 (vs := [(.int .i64 0), (.int .i64 0), (.int .i64 (w64 (x141 - 1))), (.int .i64 x259), (.int .i64 x260), (.int .i64 0), (.int .i64 0)]) (k := 10) rfl 4) rfl) ?_
      refine Tr.val (wn rfl) rfl (fun _ _ h1 h2 => run_add (h1.ev rfl) (h1.ev rfl)) ?_
      refine Tr.build (vs := [(0, (.int .i64 x259)), (1, (.int .i64 x260)), (2, (.int .i64 (w64 (x259 + 1)))), (3, (.int .i64 (w64 (x260 + 1))))]) (cs := [(.int .i64 x259), (.int .i64 x260), (.int .i64 (w64 (x259 + 1))), (.int .i64 (w64 (x260 + 1)))]) (wn rfl) rfl (evs_cons rfl (evs_cons rfl (evs_cons rfl (evs_cons rfl evs_nil)))) (by kernel_rfl) ?_
      refine Tr.alloc 25 (wn rfl) rfl ze_29 fun b262 => ?_
      refine Tr.store 25 (cs := [(.int .i64 x259), (.int .i64 x260), (.int .i64 (w64 (x259 + 1))), (.int .i64 (w64 (x260 + 1)))]) [(.int .i64 x259), (.int .i64 x260), (.int .i64 (w64 (x259 + 1))), (.int .i64 (w64 (x260 + 1)))] (wn rfl) rfl rfl rfl rfl sz_29 rfl rfl rfl ?_
      refine Tr.nil (Tr.normThen ?_)
      refine Tr.seq ?_
      refine Tr.region ?_
      refine Tr.val (wn rfl) rfl (fun _ _ h1 h2 => run_assign (h1.ev rfl)) ?_
      refine Tr.nil (Tr.normThen ?_)
      refine Tr.seq ?_
      refine Tr.seq ?_
      refine Tr.region ?_
      refine Tr.val (wn rfl) rfl (fun _ _ h1 h2 => run_move (h1.ev rfl)) ?_
      refine Tr.val (wn rfl) rfl (fun _ _ h1 h2 => run_len un_22 (h1.ev rfl)) ?_
      refine Tr.val (wn rfl) rfl (fun _ _ h1 h2 => run_move (h1.ev rfl)) ?_
      refine Tr.nil (Tr.normThen ?_)
      refine Tr.block ?_
      refine Tr.loop (σ := (List TRect) × Nat × Int × Int × Bool) (fun m w s => m = s.1.length + 1 ∧ s.1 = List.drop s.2.1 p1 ∧ s.2.1 ≤ p1.length ∧ F_shape_GapOf_L7 x141 x259 x260 s.1 s.2.1 s.2.2.1 s.2.2.2.1 s.2.2.2.2 = some r) (fun s => [(4, (.pointer (some ⟨b100, 0, none⟩))), (5, (.int .i64 x141)), (11, (.pointer (some ⟨b142, 0, none⟩))), (12, (.bool s.2.2.2.2)), (18, (.pointer (some ⟨b262, 0, none⟩))), (100, (.slice Ap1_0 (p1).length cp1_0)), (101, (.int .i64 (p1.length : Int))), (102, (.int .i64 (s.2.1 : Int)))]) (fun s => [(1, bx b100 #[(.int .i64 0), (.int .i64 0), (.int .i64 0), (.int .i64 0), (.int .i64 0), (.int .i64 0), (.int .i64 0)] 58), (10, bx b142 #[(.int .i64 0), (.int .i64 0), (.int .i64 (w64 (x141 - 1))), (.int .i64 x259), (.int .i64 x260), (.int .i64 s.2.2.1), (.int .i64 s.2.2.2.1)] 58), (25, bx b262 #[(.int .i64 x259), (.int .i64 x260), (.int .i64 (w64 (x259 + 1))), (.int .i64 (w64 (x260 + 1)))] 29)]) (p1.length + 1) (p1, 0, 0, 0, false) ⟨rfl, rfl, Nat.zero_le _, H⟩ (.cons rfl (.cons rfl (.cons rfl (.cons rfl (.cons rfl (.cons rfl (.cons rfl (.cons rfl .nil)))))))) (.cons rfl (.cons rfl (.cons rfl .nil))) (fun _ _ h => absurd h.1 (by simp)) ?_
      intro w leF_shape_GapOf_L7 m s hs
      obtain ⟨restF_shape_GapOf_L7, iF_shape_GapOf_L7, x299, x300, x301⟩ := s
      obtain ⟨hmF_shape_GapOf_L7, hdF_shape_GapOf_L7, hiF_shape_GapOf_L7, H⟩ := hs
      replace hdF_shape_GapOf_L7 : restF_shape_GapOf_L7 = List.drop iF_shape_GapOf_L7 p1 := hdF_shape_GapOf_L7
      replace H : F_shape_GapOf_L7 x141 x259 x260 restF_shape_GapOf_L7 iF_shape_GapOf_L7 x299 x300 x301 = some r := H
      replace hmF_shape_GapOf_L7 : m + 1 = restF_shape_GapOf_L7.length + 1 := hmF_shape_GapOf_L7
      replace hp1_0 := hp1_0.leR leF_shape_GapOf_L7
      replace leB := leB.trans leF_shape_GapOf_L7
      replace leF_shape_GapOf_L3 := leF_shape_GapOf_L3.trans leF_shape_GapOf_L7
      replace leF_shape_GapOf_L6 := leF_shape_GapOf_L6.trans leF_shape_GapOf_L7
      obtain rfl : m = restF_shape_GapOf_L7.length := by omega
      clear hmF_shape_GapOf_L7
      show Tr _ _ (LF [(4, (.pointer (some ⟨b100, 0, none⟩))), (5, (.int .i64 x141)), (11, (.pointer (some ⟨b142, 0, none⟩))), (12, (.bool x301)), (18, (.pointer (some ⟨b262, 0, none⟩))), (100, (.slice Ap1_0 (p1).length cp1_0)), (101, (.int .i64 (p1.length : Int))), (102, (.int .i64 (iF_shape_GapOf_L7 : Int)))]) (LE [(1, bx b100 #[(.int .i64 0), (.int .i64 0), (.int .i64 0), (.int .i64 0), (.int .i64 0), (.int .i64 0), (.int .i64 0)] 58), (10, bx b142 #[(.int .i64 0), (.int .i64 0), (.int .i64 (w64 (x141 - 1))), (.int .i64 x259), (.int .i64 x260), (.int .i64 x299), (.int .i64 x300)] 58), (25, bx b262 #[(.int .i64 x259), (.int .i64 x260), (.int .i64 (w64 (x259 + 1))), (.int .i64 (w64 (x260 + 1)))] 29)]) _
      cases restF_shape_GapOf_L7 with
      | nil =>
        rw [F_shape_GapOf_L7.eq_1] at H
        refine Tr.seq ?_
        refine Tr.region ?_
        refine Tr.val (wn rfl) rfl (fun _ _ h1 h2 => run_lss (h1.ev rfl) (h1.ev rfl)) ?_
        refine Tr.nil (Tr.normThen ?_)
        refine Tr.seq ?_
        refine Tr.condF rfl (range_nil hdF_shape_GapOf_L7) ?_
        refine Tr.exit (Tr.exitThen (Tr.exitThen (Tr.exitBlock (Tr.normThen ?_))))
        refine Tr.seq ?_
        refine Tr.region ?_
        refine Tr.val (wn rfl) rfl (fun _ _ h1 h2 => run_loadN (cs := [(.int .i64 0), (.int .i64 0), (.int .i64 (w64 (x141 - 1))), (.int .i64 x259), (.int .i64 x260), (.int .i64 x299), (.int .i64 x300)]) ag_58 sz_58 (h1.ev rfl) (CellsAt.take (rdb h2 (vs := [(.int .i64 0), (.int .i64 0), (.int .i64 (w64 (x141 - 1))), (.int .i64 x259), (.int .i64 x260), (.int .i64 x299), (.int .i64 x300)]) (k := 10) rfl 0) 7) rfl) ?_
        refine Tr.store 1 (cs := [(.int .i64 0), (.int .i64 0), (.int .i64 (w64 (x141 - 1))), (.int .i64 x259), (.int .i64 x260), (.int .i64 x299), (.int .i64 x300)]) [(.int .i64 0), (.int .i64 0), (.int .i64 (w64 (x141 - 1))), (.int .i64 x259), (.int .i64 x260), (.int .i64 x299), (.int .i64 x300)] (wn rfl) rfl rfl rfl rfl sz_58 rfl rfl rfl ?_
        refine Tr.nil (Tr.normThen ?_)
        refine Tr.ret ?_
        obtain rfl := Option.some.inj H
        exact Tr.out (m := [(.agg #[(.int .i64 0), (.int .i64 0), (.int .i64 (w64 (x141 - 1))), (.int .i64 x259), (.int .i64 x260), (.int .i64 x299), (.int .i64 x300)])]) [1] (res_cell rfl rfl ag_58 sz_58 res_nil) (fun W hW => ⟨rfl, hW.low leB⟩)
      | cons xF_shape_GapOf_L7 restF_shape_GapOf_L7 =>
        rw [F_shape_GapOf_L7.eq_2] at H
        refine Tr.seq ?_
        refine Tr.region ?_
        refine Tr.val (wn rfl) rfl (fun _ _ h1 h2 => run_lss (h1.ev rfl) (h1.ev rfl)) ?_
        refine Tr.nil (Tr.normThen ?_)
        refine Tr.seq ?_
        refine Tr.condT rfl (range_on hdF_shape_GapOf_L7) ?_
        refine Tr.skip (Tr.normThen ?_)
        refine Tr.seq ?_
        refine Tr.block ?_
        refine Tr.seq ?_
        refine Tr.region ?_
        refine Tr.val (wn rfl) rfl (fun _ _ h1 h2 => run_indexAddr el_22 (h1.ev rfl) hp1_0.form (h1.ev rfl) (Int.natCast_nonneg _) (range_lt hdF_shape_GapOf_L7)) ?_
        refine Tr.val (wn rfl) rfl (fun _ _ h1 h2 => run_loadN (cs := [(.int .i64 xF_shape_GapOf_L7.X0), (.int .i64 xF_shape_GapOf_L7.Y0), (.int .i64 xF_shape_GapOf_L7.X1), (.int .i64 xF_shape_GapOf_L7.Y1)]) ag_29 sz_29 (h1.ev rfl) (CellsAt.take (rdF ef_TRect hp1_0 (range_at hdF_shape_GapOf_L7) h2) 4) rfl) ?_
        refine Tr.alloc 30 (wn rfl) rfl ze_29 fun b302 => ?_
        refine Tr.store 30 (cs := [(.int .i64 xF_shape_GapOf_L7.X0), (.int .i64 xF_shape_GapOf_L7.Y0), (.int .i64 xF_shape_GapOf_L7.X1), (.int .i64 xF_shape_GapOf_L7.Y1)]) [(.int .i64 xF_shape_GapOf_L7.X0), (.int .i64 xF_shape_GapOf_L7.Y0), (.int .i64 xF_shape_GapOf_L7.X1), (.int .i64 xF_shape_GapOf_L7.Y1)] (wn rfl) rfl rfl rfl rfl sz_29 rfl rfl rfl ?_
        refine Tr.nil (Tr.normThen ?_)
        refine Tr.seq ?_
        refine Tr.region ?_
        refine Tr.val (wn rfl) rfl (fun _ _ h1 h2 => run_loadN (cs := [(.int .i64 xF_shape_GapOf_L7.X0), (.int .i64 xF_shape_GapOf_L7.Y0), (.int .i64 xF_shape_GapOf_L7.X1), (.int .i64 xF_shape_GapOf_L7.Y1)]) ag_29 sz_29 (h1.ev rfl) (CellsAt.take (rdb h2 (vs := [(.int .i64 xF_shape_GapOf_L7.X0), (.int .i64 xF_shape_GapOf_L7.Y0), (.int .i64 xF_shape_GapOf_L7.X1), (.int .i64 xF_shape_GapOf_L7.Y1)]) (k := 30) rfl 0) 4) rfl) ?_
        refine Tr.val (wn rfl) rfl (fun _ _ h1 h2 => run_loadN (cs := [(.int .i64 x259), (.int .i64 x260), (.int .i64 (w64 (x259 + 1))), (.int .i64 (w64 (x260 + 1)))]) ag_29 sz_29 (h1.ev rfl) (CellsAt.take (rdb h2 (vs := [(.int .i64 x259), (.int .i64 x260), (.int .i64 (w64 (x259 + 1))), (.int .i64 (w64 (x260 + 1)))]) (k := 25) rfl 0) 4) rfl) ?_
        refine Tr.val (wn rfl) rfl (fun _ _ h1 h2 => run_move (h1.ev rfl)) ?_
        obtain ⟨y303, hy303, H⟩ := bnd H
        refine Tr.call0 (r := (.agg #[(.int .i64 y303.X), (.int .i64 y303.Y)])) (wn rfl) rfl Try.call103 (evl_cons rfl (evl_cons rfl (evl_cons rfl evl_nil))) (fun W hW => F_shape_near_ok xF_shape_GapOf_L7 (TRect.mk x259 x260 (w64 (x259 + 1)) (w64 (x260 + 1))) x141 y303 hy303 (HF.start _)) ?_
        refine Tr.alloc 31 (wn rfl) rfl ze_35 fun b304 => ?_
        refine Tr.store 31 (cs := [(.int .i64 y303.X), (.int .i64 y303.Y)]) [(.int .i64 y303.X), (.int .i64 y303.Y)] (wn rfl) rfl rfl rfl rfl sz_35 rfl rfl rfl ?_
        refine Tr.nil (Tr.normThen ?_)
        refine Tr.seq ?_
        refine Tr.region ?_
        refine Tr.val (wn rfl) rfl (fun _ _ h1 h2 => run_loadN (cs := [(.int .i64 xF_shape_GapOf_L7.X0), (.int .i64 xF_shape_GapOf_L7.Y0), (.int .i64 xF_shape_GapOf_L7.X1), (.int .i64 xF_shape_GapOf_L7.Y1)]) ag_29 sz_29 (h1.ev rfl) (CellsAt.take (rdb h2 (vs := [(.int .i64 xF_shape_GapOf_L7.X0), (.int .i64 xF_shape_GapOf_L7.Y0), (.int .i64 xF_shape_GapOf_L7.X1), (.int .i64 xF_shape_GapOf_L7.Y1)]) (k := 30) rfl 0) 4) rfl) ?_
        refine Tr.val (wn rfl) rfl (fun _ _ h1 h2 => run_loadN (cs := [(.int .i64 x259), (.int .i64 x260), (.int .i64 (w64 (x259 + 1))), (.int .i64 (w64 (x260 + 1)))]) ag_29 sz_29 (h1.ev rfl) (CellsAt.take (rdb h2 (vs := [(.int .i64 x259), (.int .i64 x260), (.int .i64 (w64 (x259 + 1))), (.int .i64 (w64 (x260 + 1)))]) (k := 25) rfl 0) 4) rfl) ?_
        obtain ⟨y305, hy305, H⟩ := bnd H
        refine Tr.call0 (r := (.int .i64 y305)) (wn rfl) rfl Try.call102 (evl_cons rfl (evl_cons rfl evl_nil)) (fun W hW => F_shape_Far_ok xF_shape_GapOf_L7 (TRect.mk x259 x260 (w64 (x259 + 1)) (w64 (x260 + 1))) y305 hy305 (HF.start _)) ?_
        refine Tr.val (wn rfl) rfl (fun _ _ h1 h2 => run_move (h1.ev rfl)) ?_
        refine Tr.val (wn rfl) rfl (fun _ _ h1 h2 => run_eql (h1.ev rfl) (h1.ev rfl)) ?_
        refine Tr.val (wn rfl) rfl (fun _ _ h1 h2 => run_move (h1.ev rfl)) ?_
        obtain ⟨g309, hg309, H⟩ := bnd H
        refine Tr.mid0 9 [(4, (.pointer (some ⟨b100, 0, none⟩))), (5, (.int .i64 x141)), (11, (.pointer (some ⟨b142, 0, none⟩))), (12, (.bool x301)), (18, (.pointer (some ⟨b262, 0, none⟩))), (21, (.pointer (some ⟨b304, 0, none⟩))), (100, (.slice Ap1_0 (p1).length cp1_0)), (101, (.int .i64 (p1.length : Int))), (102, (.int .i64 (iF_shape_GapOf_L7 : Int))), (124, (.bool g309))] [(1, bx b100 #[(.int .i64 0), (.int .i64 0), (.int .i64 0), (.int .i64 0), (.int .i64 0), (.int .i64 0), (.int .i64 0)] 58), (10, bx b142 #[(.int .i64 0), (.int .i64 0), (.int .i64 (w64 (x141 - 1))), (.int .i64 x259), (.int .i64 x260), (.int .i64 x299), (.int .i64 x300)] 58), (25, bx b262 #[(.int .i64 x259), (.int .i64 x260), (.int .i64 (w64 (x259 + 1))), (.int .i64 (w64 (x260 + 1)))] 29), (30, bx b302 #[(.int .i64 xF_shape_GapOf_L7.X0), (.int .i64 xF_shape_GapOf_L7.Y0), (.int .i64 xF_shape_GapOf_L7.X1), (.int .i64 xF_shape_GapOf_L7.Y1)] 29), (31, bx b304 #[(.int .i64 y303.X), (.int .i64 y303.Y)] 35)] ?_ ?_
        · cases hg312 : (y305 == x141)
          · rw [hg312] at hg309
            rw [if_neg (by decide)] at hg309
            have H := hg309
            obtain rfl := Option.some.inj H
            refine Tr.pass rfl rfl rfl rfl rfl (by decide) ?_
            refine Tr.pass rfl rfl rfl rfl rfl (by decide) ?_
            refine Tr.pass rfl rfl rfl rfl rfl (by decide) ?_
            refine Tr.passU rfl rfl rfl rfl (by decide) ?_
            refine Tr.passU rfl rfl rfl rfl (by decide) ?_
            refine Tr.passU rfl rfl rfl rfl (by decide) ?_
            refine Tr.passU rfl rfl rfl rfl (by decide) ?_
            refine Tr.pass rfl rfl rfl rfl rfl (by decide) ?_
            refine Tr.val (wn rfl) rfl (fun _ _ h1 h2 => run_pickF (h1.ev rfl) (h1.ev rfl)) ?_
            exact Tr.nil (Tr.fin0 (.cons rfl (.cons rfl (.cons rfl (.cons rfl (.cons rfl (.cons rfl (.cons rfl (.cons rfl (.cons rfl (.cons rfl .nil)))))))))) (.cons rfl (.cons rfl (.cons rfl (.cons rfl (.cons rfl .nil))))))
          · rw [hg312] at hg309
            rw [if_pos rfl] at hg309
            have H := hg309
            refine Tr.val (wg rfl rfl rfl) rfl (fun _ _ h1 h2 => run_move (h1.ev rfl)) ?_
            refine Tr.val (wg rfl rfl rfl) rfl (fun _ _ h1 h2 => run_not (h1.ev rfl)) ?_
            refine Tr.val (wg rfl rfl rfl) rfl (fun _ _ h1 h2 => run_move (h1.ev rfl)) ?_
            obtain ⟨g311, hg311, H⟩ := bnd H
            refine Tr.mid0 5 [(4, (.pointer (some ⟨b100, 0, none⟩))), (5, (.int .i64 x141)), (11, (.pointer (some ⟨b142, 0, none⟩))), (12, (.bool x301)), (18, (.pointer (some ⟨b262, 0, none⟩))), (21, (.pointer (some ⟨b304, 0, none⟩))), (100, (.slice Ap1_0 (p1).length cp1_0)), (101, (.int .i64 (p1.length : Int))), (102, (.int .i64 (iF_shape_GapOf_L7 : Int))), (115, (.bool true)), (123, (.bool g311))] [(1, bx b100 #[(.int .i64 0), (.int .i64 0), (.int .i64 0), (.int .i64 0), (.int .i64 0), (.int .i64 0), (.int .i64 0)] 58), (10, bx b142 #[(.int .i64 0), (.int .i64 0), (.int .i64 (w64 (x141 - 1))), (.int .i64 x259), (.int .i64 x260), (.int .i64 x299), (.int .i64 x300)] 58), (25, bx b262 #[(.int .i64 x259), (.int .i64 x260), (.int .i64 (w64 (x259 + 1))), (.int .i64 (w64 (x260 + 1)))] 29), (30, bx b302 #[(.int .i64 xF_shape_GapOf_L7.X0), (.int .i64 xF_shape_GapOf_L7.Y0), (.int .i64 xF_shape_GapOf_L7.X1), (.int .i64 xF_shape_GapOf_L7.Y1)] 29), (31, bx b304 #[(.int .i64 y303.X), (.int .i64 y303.Y)] 35)] ?_ ?_
            · cases hg312 : (!x301)
              · rw [hg312] at hg311
                rw [if_neg (by decide)] at hg311
                have H := hg311
                refine Tr.val (wg rfl rfl rfl) rfl (fun _ _ h1 h2 => run_loadN (cs := [(.int .i64 y303.X), (.int .i64 y303.Y)]) ag_35 sz_35 (h1.ev rfl) (CellsAt.take (rdb h2 (vs := [(.int .i64 y303.X), (.int .i64 y303.Y)]) (k := 31) rfl 0) 2) rfl) ?_
                refine Tr.val (wg rfl rfl rfl) rfl (fun _ _ h1 h2 => run_fieldAddr fo_58_4 (h1.ev rfl)) ?_
                refine Tr.val (wg rfl rfl rfl) rfl (fun _ _ h1 h2 => run_loadN (cs := [(.int .i64 x299), (.int .i64 x300)]) ag_35 sz_35 (h1.ev rfl) (CellsAt.take (rdb h2 (vs := [(.int .i64 0), (.int .i64 0), (.int .i64 (w64 (x141 - 1))), (.int .i64 x259), (.int .i64 x260), (.int .i64 x299), (.int .i64 x300)]) (k := 10) rfl 5) 2) rfl) ?_
                obtain ⟨y312, hy312, H⟩ := bnd H
                refine Tr.call0 (r := (.bool y312)) (wg rfl rfl rfl) rfl Try.call104 (evl_cons rfl (evl_cons rfl evl_nil)) (fun W hW => F_shape_less_ok y303 (TPoint.mk x299 x300) y312 hy312 (HF.start _)) ?_
                refine Tr.val (wg rfl rfl rfl) rfl (fun _ _ h1 h2 => run_pickF (h1.ev rfl) (h1.ev rfl)) ?_
                obtain rfl := Option.some.inj H
                exact Tr.nil (Tr.fin0 (.cons rfl (.cons rfl (.cons rfl (.cons rfl (.cons rfl (.cons rfl (.cons rfl (.cons rfl (.cons rfl (.cons rfl (.cons rfl .nil))))))))))) (.cons rfl (.cons rfl (.cons rfl (.cons rfl (.cons rfl .nil))))))
              · rw [hg312] at hg311
                rw [if_pos rfl] at hg311
                have H := hg311
                obtain rfl := Option.some.inj H
                refine Tr.pass rfl rfl rfl rfl rfl (by decide) ?_
                refine Tr.pass rfl rfl rfl rfl rfl (by decide) ?_
                refine Tr.pass rfl rfl rfl rfl rfl (by decide) ?_
                refine Tr.pass rfl rfl rfl rfl rfl (by decide) ?_
                refine Tr.val (wg rfl rfl rfl) rfl (fun _ _ h1 h2 => run_pickT (h1.ev rfl) (h1.ev rfl)) ?_
                exact Tr.nil (Tr.fin0 (.cons rfl (.cons rfl (.cons rfl (.cons rfl (.cons rfl (.cons rfl (.cons rfl (.cons rfl (.cons rfl (.cons rfl (.cons rfl .nil))))))))))) (.cons rfl (.cons rfl (.cons rfl (.cons rfl (.cons rfl .nil))))))
            · show Tr _ _ (LF [(4, (.pointer (some ⟨b100, 0, none⟩))), (5, (.int .i64 x141)), (11, (.pointer (some ⟨b142, 0, none⟩))), (12, (.bool x301)), (18, (.pointer (some ⟨b262, 0, none⟩))), (21, (.pointer (some ⟨b304, 0, none⟩))), (100, (.slice Ap1_0 (p1).length cp1_0)), (101, (.int .i64 (p1.length : Int))), (102, (.int .i64 (iF_shape_GapOf_L7 : Int))), (115, (.bool true)), (123, (.bool g311))]) (LE [(1, bx b100 #[(.int .i64 0), (.int .i64 0), (.int .i64 0), (.int .i64 0), (.int .i64 0), (.int .i64 0), (.int .i64 0)] 58), (10, bx b142 #[(.int .i64 0), (.int .i64 0), (.int .i64 (w64 (x141 - 1))), (.int .i64 x259), (.int .i64 x260), (.int .i64 x299), (.int .i64 x300)] 58), (25, bx b262 #[(.int .i64 x259), (.int .i64 x260), (.int .i64 (w64 (x259 + 1))), (.int .i64 (w64 (x260 + 1)))] 29), (30, bx b302 #[(.int .i64 xF_shape_GapOf_L7.X0), (.int .i64 xF_shape_GapOf_L7.Y0), (.int .i64 xF_shape_GapOf_L7.X1), (.int .i64 xF_shape_GapOf_L7.Y1)] 29), (31, bx b304 #[(.int .i64 y303.X), (.int .i64 y303.Y)] 35)]) _
              refine Tr.val (wn rfl) rfl (fun _ _ h1 h2 => run_pickT (h1.ev rfl) (h1.ev rfl)) ?_
              obtain rfl := Option.some.inj H
              exact Tr.nil (Tr.fin0 (.cons rfl (.cons rfl (.cons rfl (.cons rfl (.cons rfl (.cons rfl (.cons rfl (.cons rfl (.cons rfl (.cons rfl .nil)))))))))) (.cons rfl (.cons rfl (.cons rfl (.cons rfl (.cons rfl .nil))))))
        · show Tr _ _ (LF [(4, (.pointer (some ⟨b100, 0, none⟩))), (5, (.int .i64 x141)), (11, (.pointer (some ⟨b142, 0, none⟩))), (12, (.bool x301)), (18, (.pointer (some ⟨b262, 0, none⟩))), (21, (.pointer (some ⟨b304, 0, none⟩))), (100, (.slice Ap1_0 (p1).length cp1_0)), (101, (.int .i64 (p1.length : Int))), (102, (.int .i64 (iF_shape_GapOf_L7 : Int))), (124, (.bool g309))]) (LE [(1, bx b100 #[(.int .i64 0), (.int .i64 0), (.int .i64 0), (.int .i64 0), (.int .i64 0), (.int .i64 0), (.int .i64 0)] 58), (10, bx b142 #[(.int .i64 0), (.int .i64 0), (.int .i64 (w64 (x141 - 1))), (.int .i64 x259), (.int .i64 x260), (.int .i64 x299), (.int .i64 x300)] 58), (25, bx b262 #[(.int .i64 x259), (.int .i64 x260), (.int .i64 (w64 (x259 + 1))), (.int .i64 (w64 (x260 + 1)))] 29), (30, bx b302 #[(.int .i64 xF_shape_GapOf_L7.X0), (.int .i64 xF_shape_GapOf_L7.Y0), (.int .i64 xF_shape_GapOf_L7.X1), (.int .i64 xF_shape_GapOf_L7.Y1)] 29), (31, bx b304 #[(.int .i64 y303.X), (.int .i64 y303.Y)] 35)]) _
          refine Tr.nil (Tr.normThen ?_)
          refine Tr.cond rfl H (fun H => ?_) (fun H => ?_)
          · refine Tr.region ?_
            refine Tr.val (wn rfl) rfl (fun _ _ h1 h2 => run_loadN (cs := [(.int .i64 y303.X), (.int .i64 y303.Y)]) ag_35 sz_35 (h1.ev rfl) (CellsAt.take (rdb h2 (vs := [(.int .i64 y303.X), (.int .i64 y303.Y)]) (k := 31) rfl 0) 2) rfl) ?_
            refine Tr.val (wn rfl) rfl (fun _ _ h1 h2 => run_fieldAddr fo_58_4 (h1.ev rfl)) ?_
            refine Tr.store 10 (cs := [(.int .i64 y303.X), (.int .i64 y303.Y)]) [(.int .i64 0), (.int .i64 0), (.int .i64 (w64 (x141 - 1))), (.int .i64 x259), (.int .i64 x260), (.int .i64 y303.X), (.int .i64 y303.Y)] (wn rfl) rfl rfl rfl rfl sz_35 rfl rfl rfl ?_
            refine Tr.val (wn rfl) rfl (fun _ _ h1 h2 => run_assign (h1.ev rfl)) ?_
            refine Tr.nil (Tr.normBlock (Tr.normThen ?_))
            refine Tr.region ?_
            refine Tr.val (wn rfl) rfl (fun _ _ h1 h2 => run_add (h1.ev rfl) (h1.ev rfl)) ?_
            refine Tr.val (wn rfl) rfl (fun _ _ h1 h2 => run_move (h1.ev rfl)) ?_
            refine Tr.nil ?_
            exact Tr.backThen leF_shape_GapOf_L7 (restF_shape_GapOf_L7, (iF_shape_GapOf_L7 + 1), y303.X, y303.Y, true) ⟨rfl, range_tl hdF_shape_GapOf_L7, range_lt hdF_shape_GapOf_L7, H⟩ (.cons rfl (.cons rfl (.cons rfl (.cons rfl (.cons rfl (.cons rfl (.cons rfl (.cons (congrArg (fun z => some (Value.int .i64 z)) (range_up hdF_shape_GapOf_L7 hp1_0.form)) .nil)))))))) (.cons rfl (.cons rfl (.cons rfl .nil)))
          · refine Tr.skip (Tr.normBlock (Tr.normThen ?_))
            refine Tr.region ?_
            refine Tr.val (wn rfl) rfl (fun _ _ h1 h2 => run_add (h1.ev rfl) (h1.ev rfl)) ?_
            refine Tr.val (wn rfl) rfl (fun _ _ h1 h2 => run_move (h1.ev rfl)) ?_
            refine Tr.nil ?_
            exact Tr.backThen leF_shape_GapOf_L7 (restF_shape_GapOf_L7, (iF_shape_GapOf_L7 + 1), x299, x300, x301) ⟨rfl, range_tl hdF_shape_GapOf_L7, range_lt hdF_shape_GapOf_L7, H⟩ (.cons rfl (.cons rfl (.cons rfl (.cons rfl (.cons rfl (.cons rfl (.cons rfl (.cons (congrArg (fun z => some (Value.int .i64 z)) (range_up hdF_shape_GapOf_L7 hp1_0.form)) .nil)))))))) (.cons rfl (.cons rfl (.cons rfl .nil)))
    | cons xF_shape_GapOf_L6 restF_shape_GapOf_L6 =>
      rw [F_shape_GapOf_L6.eq_2] at H
      refine Tr.seq ?_
      refine Tr.region ?_
      refine Tr.val (wn rfl) rfl (fun _ _ h1 h2 => run_lss (h1.ev rfl) (h1.ev rfl)) ?_
      refine Tr.nil (Tr.normThen ?_)
      refine Tr.seq ?_
      refine Tr.condT rfl (range_on hdF_shape_GapOf_L6) ?_
      refine Tr.skip (Tr.normThen ?_)
      refine Tr.seq ?_
      refine Tr.block ?_
      refine Tr.seq ?_
      refine Tr.region ?_
      refine Tr.val (wn rfl) rfl (fun _ _ h1 h2 => run_indexAddr el_22 (h1.ev rfl) hp0_0.form (h1.ev rfl) (Int.natCast_nonneg _) (range_lt hdF_shape_GapOf_L6)) ?_
      refine Tr.val (wn rfl) rfl (fun _ _ h1 h2 => run_loadN (cs := [(.int .i64 xF_shape_GapOf_L6.X0), (.int .i64 xF_shape_GapOf_L6.Y0), (.int .i64 xF_shape_GapOf_L6.X1), (.int .i64 xF_shape_GapOf_L6.Y1)]) ag_29 sz_29 (h1.ev rfl) (CellsAt.take (rdF ef_TRect hp0_0 (range_at hdF_shape_GapOf_L6) h2) 4) rfl) ?_
      refine Tr.alloc 32 (wn rfl) rfl ze_29 fun b313 => ?_
      refine Tr.store 32 (cs := [(.int .i64 xF_shape_GapOf_L6.X0), (.int .i64 xF_shape_GapOf_L6.Y0), (.int .i64 xF_shape_GapOf_L6.X1), (.int .i64 xF_shape_GapOf_L6.Y1)]) [(.int .i64 xF_shape_GapOf_L6.X0), (.int .i64 xF_shape_GapOf_L6.Y0), (.int .i64 xF_shape_GapOf_L6.X1), (.int .i64 xF_shape_GapOf_L6.Y1)] (wn rfl) rfl rfl rfl rfl sz_29 rfl rfl rfl ?_
      refine Tr.nil (Tr.normThen ?_)
      refine Tr.seq ?_
      refine Tr.region ?_
      refine Tr.val (wn rfl) rfl (fun _ _ h1 h2 => run_move (h1.ev rfl)) ?_
      refine Tr.val (wn rfl) rfl (fun _ _ h1 h2 => run_len un_22 (h1.ev rfl)) ?_
      refine Tr.val (wn rfl) rfl (fun _ _ h1 h2 => run_move (h1.ev rfl)) ?_
      refine Tr.nil (Tr.normThen ?_)
      refine Tr.block ?_
      refine Tr.loop (σ := (List TRect) × Nat × Int × Int × Bool) (fun m w s => m = s.1.length + 1 ∧ s.1 = List.drop s.2.1 p1 ∧ s.2.1 ≤ p1.length ∧ F_shape_GapOf_L8 x141 (F_shape_GapOf_L6 p1 x141 restF_shape_GapOf_L6 (iF_shape_GapOf_L6 + 1)) xF_shape_GapOf_L6 s.1 s.2.1 s.2.2.1 s.2.2.2.1 s.2.2.2.2 = some r) (fun s => [(1, (.slice Ap1_0 (p1).length cp1_0)), (4, (.pointer (some ⟨b100, 0, none⟩))), (5, (.int .i64 x141)), (11, (.pointer (some ⟨b142, 0, none⟩))), (12, (.bool s.2.2.2.2)), (14, (.pointer (some ⟨b313, 0, none⟩))), (50, (.slice Ap0_0 (p0).length cp0_0)), (51, (.int .i64 (p0.length : Int))), (52, (.int .i64 (iF_shape_GapOf_L6 : Int))), (56, (.slice Ap1_0 (p1).length cp1_0)), (57, (.int .i64 (p1.length : Int))), (58, (.int .i64 (s.2.1 : Int)))]) (fun s => [(1, bx b100 #[(.int .i64 0), (.int .i64 0), (.int .i64 0), (.int .i64 0), (.int .i64 0), (.int .i64 0), (.int .i64 0)] 58), (10, bx b142 #[(.int .i64 0), (.int .i64 0), (.int .i64 (w64 (x141 - 1))), (.int .i64 s.2.2.1), (.int .i64 s.2.2.2.1), (.int .i64 0), (.int .i64 0)] 58), (32, bx b313 #[(.int .i64 xF_shape_GapOf_L6.X0), (.int .i64 xF_shape_GapOf_L6.Y0), (.int .i64 xF_shape_GapOf_L6.X1), (.int .i64 xF_shape_GapOf_L6.Y1)] 29)]) (p1.length + 1) (p1, 0, x259, x260, x261) ⟨rfl, rfl, Nat.zero_le _, H⟩ (.cons rfl (.cons rfl (.cons rfl (.cons rfl (.cons rfl (.cons rfl (.cons rfl (.cons rfl (.cons rfl (.cons rfl (.cons rfl (.cons rfl .nil)))))))))))) (.cons rfl (.cons rfl (.cons rfl .nil))) (fun _ _ h => absurd h.1 (by simp)) ?_
      intro w leF_shape_GapOf_L8 m s hs
      obtain ⟨restF_shape_GapOf_L8, iF_shape_GapOf_L8, x350, x351, x352⟩ := s
      obtain ⟨hmF_shape_GapOf_L8, hdF_shape_GapOf_L8, hiF_shape_GapOf_L8, H⟩ := hs
      replace hdF_shape_GapOf_L8 : restF_shape_GapOf_L8 = List.drop iF_shape_GapOf_L8 p1 := hdF_shape_GapOf_L8
      replace H : F_shape_GapOf_L8 x141 (F_shape_GapOf_L6 p1 x141 restF_shape_GapOf_L6 (iF_shape_GapOf_L6 + 1)) xF_shape_GapOf_L6 restF_shape_GapOf_L8 iF_shape_GapOf_L8 x350 x351 x352 = some r := H
      replace hmF_shape_GapOf_L8 : m + 1 = restF_shape_GapOf_L8.length + 1 := hmF_shape_GapOf_L8
      replace hp1_0 := hp1_0.leR leF_shape_GapOf_L8
      replace hp0_0 := hp0_0.leR leF_shape_GapOf_L8
      replace leB := leB.trans leF_shape_GapOf_L8
      replace leF_shape_GapOf_L3 := leF_shape_GapOf_L3.trans leF_shape_GapOf_L8
      replace leF_shape_GapOf_L6 := leF_shape_GapOf_L6.trans leF_shape_GapOf_L8
      obtain rfl : m = restF_shape_GapOf_L8.length := by omega
      clear hmF_shape_GapOf_L8
      show Tr _ _ (LF [(1, (.slice Ap1_0 (p1).length cp1_0)), (4, (.pointer (some ⟨b100, 0, none⟩))), (5, (.int .i64 x141)), (11, (.pointer (some ⟨b142, 0, none⟩))), (12, (.bool x352)), (14, (.pointer (some ⟨b313, 0, none⟩))), (50, (.slice Ap0_0 (p0).length cp0_0)), (51, (.int .i64 (p0.length : Int))), (52, (.int .i64 (iF_shape_GapOf_L6 : Int))), (56, (.slice Ap1_0 (p1).length cp1_0)), (57, (.int .i64 (p1.length : Int))), (58, (.int .i64 (iF_shape_GapOf_L8 : Int)))]) (LE [(1, bx b100 #[(.int .i64 0), (.int .i64 0), (.int .i64 0), (.int .i64 0), (.int .i64 0), (.int .i64 0), (.int .i64 0)] 58), (10, bx b142 #[(.int .i64 0), (.int .i64 0), (.int .i64 (w64 (x141 - 1))), (.int .i64 x350), (.int .i64 x351), (.int .i64 0), (.int .i64 0)] 58), (32, bx b313 #[(.int .i64 xF_shape_GapOf_L6.X0), (.int .i64 xF_shape_GapOf_L6.Y0), (.int .i64 xF_shape_GapOf_L6.X1), (.int .i64 xF_shape_GapOf_L6.Y1)] 29)]) _
      cases restF_shape_GapOf_L8 with
      | nil =>
        rw [F_shape_GapOf_L8.eq_1] at H
        refine Tr.seq ?_
        refine Tr.region ?_
        refine Tr.val (wn rfl) rfl (fun _ _ h1 h2 => run_lss (h1.ev rfl) (h1.ev rfl)) ?_
        refine Tr.nil (Tr.normThen ?_)
        refine Tr.seq ?_
        refine Tr.condF rfl (range_nil hdF_shape_GapOf_L8) ?_
        refine Tr.exit (Tr.exitThen (Tr.exitThen (Tr.exitBlock (Tr.normBlock (Tr.normThen ?_)))))
        refine Tr.region ?_
        refine Tr.val (wn rfl) rfl (fun _ _ h1 h2 => run_add (h1.ev rfl) (h1.ev rfl)) ?_
        refine Tr.val (wn rfl) rfl (fun _ _ h1 h2 => run_move (h1.ev rfl)) ?_
        refine Tr.nil ?_
        exact Tr.backThen leF_shape_GapOf_L6 (restF_shape_GapOf_L6, (iF_shape_GapOf_L6 + 1), x350, x351, x352) ⟨rfl, range_tl hdF_shape_GapOf_L6, range_lt hdF_shape_GapOf_L6, H⟩ (.cons rfl (.cons rfl (.cons rfl (.cons rfl (.cons rfl (.cons rfl (.cons rfl (.cons (congrArg (fun z => some (Value.int .i64 z)) (range_up hdF_shape_GapOf_L6 hp0_0.form)) .nil)))))))) (.cons rfl (.cons rfl .nil))
      | cons xF_shape_GapOf_L8 restF_shape_GapOf_L8 =>
        rw [F_shape_GapOf_L8.eq_2] at H
        refine Tr.seq ?_
        refine Tr.region ?_
        refine Tr.val (wn rfl) rfl (fun _ _ h1 h2 => run_lss (h1.ev rfl) (h1.ev rfl)) ?_
        refine Tr.nil (Tr.normThen ?_)
        refine Tr.seq ?_
        refine Tr.condT rfl (range_on hdF_shape_GapOf_L8) ?_
        refine Tr.skip (Tr.normThen ?_)
        refine Tr.seq ?_
        refine Tr.block ?_
        refine Tr.seq ?_
        refine Tr.region ?_
        refine Tr.val (wn rfl) rfl (fun _ _ h1 h2 => run_indexAddr el_22 (h1.ev rfl) hp1_0.form (h1.ev rfl) (Int.natCast_nonneg _) (range_lt hdF_shape_GapOf_L8)) ?_
        refine Tr.val (wn rfl) rfl (fun _ _ h1 h2 => run_loadN (cs := [(.int .i64 xF_shape_GapOf_L8.X0), (.int .i64 xF_shape_GapOf_L8.Y0), (.int .i64 xF_shape_GapOf_L8.X1), (.int .i64 xF_shape_GapOf_L8.Y1)]) ag_29 sz_29 (h1.ev rfl) (CellsAt.take (rdF ef_TRect hp1_0 (range_at hdF_shape_GapOf_L8) h2) 4) rfl) ?_
        refine Tr.alloc 37 (wn rfl) rfl ze_29 fun b353 => ?_
        refine Tr.store 37 (cs := [(.int .i64 xF_shape_GapOf_L8.X0), (.int .i64 xF_shape_GapOf_L8.Y0), (.int .i64 xF_shape_GapOf_L8.X1), (.int .i64 xF_shape_GapOf_L8.Y1)]) [(.int .i64 xF_shape_GapOf_L8.X0), (.int .i64 xF_shape_GapOf_L8.Y0), (.int .i64 xF_shape_GapOf_L8.X1), (.int .i64 xF_shape_GapOf_L8.Y1)] (wn rfl) rfl rfl rfl rfl sz_29 rfl rfl rfl ?_
        refine Tr.nil (Tr.normThen ?_)
        refine Tr.seq ?_
        refine Tr.region ?_
        refine Tr.val (wn rfl) rfl (fun _ _ h1 h2 => run_loadN (cs := [(.int .i64 xF_shape_GapOf_L6.X0), (.int .i64 xF_shape_GapOf_L6.Y0), (.int .i64 xF_shape_GapOf_L6.X1), (.int .i64 xF_shape_GapOf_L6.Y1)]) ag_29 sz_29 (h1.ev rfl) (CellsAt.take (rdb h2 (vs := [(.int .i64 xF_shape_GapOf_L6.X0), (.int .i64 xF_shape_GapOf_L6.Y0), (.int .i64 xF_shape_GapOf_L6.X1), (.int .i64 xF_shape_GapOf_L6.Y1)]) (k := 32) rfl 0) 4) rfl) ?_
        refine Tr.val (wn rfl) rfl (fun _ _ h1 h2 => run_loadN (cs := [(.int .i64 xF_shape_GapOf_L8.X0), (.int .i64 xF_shape_GapOf_L8.Y0), (.int .i64 xF_shape_GapOf_L8.X1), (.int .i64 xF_shape_GapOf_L8.Y1)]) ag_29 sz_29 (h1.ev rfl) (CellsAt.take (rdb h2 (vs := [(.int .i64 xF_shape_GapOf_L8.X0), (.int .i64 xF_shape_GapOf_L8.Y0), (.int .i64 xF_shape_GapOf_L8.X1), (.int .i64 xF_shape_GapOf_L8.Y1)]) (k := 37) rfl 0) 4) rfl) ?_
        refine Tr.val (wn rfl) rfl (fun _ _ h1 h2 => run_move (h1.ev rfl)) ?_
        obtain ⟨y354, hy354, H⟩ := bnd H
        refine Tr.call0 (r := (.agg #[(.int .i64 y354.X), (.int .i64 y354.Y)])) (wn rfl) rfl Try.call103 (evl_cons rfl (evl_cons rfl (evl_cons rfl evl_nil))) (fun W hW => F_shape_near_ok xF_shape_GapOf_L6 xF_shape_GapOf_L8 x141 y354 hy354 (HF.start _)) ?_
        refine Tr.alloc 38 (wn rfl) rfl ze_35 fun b355 => ?_
        refine Tr.store 38 (cs := [(.int .i64 y354.X), (.int .i64 y354.Y)]) [(.int .i64 y354.X), (.int .i64 y354.Y)] (wn rfl) rfl rfl rfl rfl sz_35 rfl rfl rfl ?_
        refine Tr.nil (Tr.normThen ?_)
        refine Tr.seq ?_
        refine Tr.region ?_
        refine Tr.val (wn rfl) rfl (fun _ _ h1 h2 => run_loadN (cs := [(.int .i64 xF_shape_GapOf_L6.X0), (.int .i64 xF_shape_GapOf_L6.Y0), (.int .i64 xF_shape_GapOf_L6.X1), (.int .i64 xF_shape_GapOf_L6.Y1)]) ag_29 sz_29 (h1.ev rfl) (CellsAt.take (rdb h2 (vs := [(.int .i64 xF_shape_GapOf_L6.X0), (.int .i64 xF_shape_GapOf_L6.Y0), (.int .i64 xF_shape_GapOf_L6.X1), (.int .i64 xF_shape_GapOf_L6.Y1)]) (k := 32) rfl 0) 4) rfl) ?_
        refine Tr.val (wn rfl) rfl (fun _ _ h1 h2 => run_loadN (cs := [(.int .i64 xF_shape_GapOf_L8.X0), (.int .i64 xF_shape_GapOf_L8.Y0), (.int .i64 xF_shape_GapOf_L8.X1), (.int .i64 xF_shape_GapOf_L8.Y1)]) ag_29 sz_29 (h1.ev rfl) (CellsAt.take (rdb h2 (vs := [(.int .i64 xF_shape_GapOf_L8.X0), (.int .i64 xF_shape_GapOf_L8.Y0), (.int .i64 xF_shape_GapOf_L8.X1), (.int .i64 xF_shape_GapOf_L8.Y1)]) (k := 37) rfl 0) 4) rfl) ?_
        obtain ⟨y356, hy356, H⟩ := bnd H
        refine Tr.call0 (r := (.int .i64 y356)) (wn rfl) rfl Try.call102 (evl_cons rfl (evl_cons rfl evl_nil)) (fun W hW => F_shape_Far_ok xF_shape_GapOf_L6 xF_shape_GapOf_L8 y356 hy356 (HF.start _)) ?_
        refine Tr.val (wn rfl) rfl (fun _ _ h1 h2 => run_move (h1.ev rfl)) ?_
        refine Tr.val (wn rfl) rfl (fun _ _ h1 h2 => run_eql (h1.ev rfl) (h1.ev rfl)) ?_
        refine Tr.val (wn rfl) rfl (fun _ _ h1 h2 => run_move (h1.ev rfl)) ?_
        obtain ⟨g360, hg360, H⟩ := bnd H
        refine Tr.mid0 9 [(1, (.slice Ap1_0 (p1).length cp1_0)), (4, (.pointer (some ⟨b100, 0, none⟩))), (5, (.int .i64 x141)), (11, (.pointer (some ⟨b142, 0, none⟩))), (12, (.bool x352)), (14, (.pointer (some ⟨b313, 0, none⟩))), (17, (.pointer (some ⟨b355, 0, none⟩))), (50, (.slice Ap0_0 (p0).length cp0_0)), (51, (.int .i64 (p0.length : Int))), (52, (.int .i64 (iF_shape_GapOf_L6 : Int))), (56, (.slice Ap1_0 (p1).length cp1_0)), (57, (.int .i64 (p1.length : Int))), (58, (.int .i64 (iF_shape_GapOf_L8 : Int))), (80, (.bool g360))] [(1, bx b100 #[(.int .i64 0), (.int .i64 0), (.int .i64 0), (.int .i64 0), (.int .i64 0), (.int .i64 0), (.int .i64 0)] 58), (10, bx b142 #[(.int .i64 0), (.int .i64 0), (.int .i64 (w64 (x141 - 1))), (.int .i64 x350), (.int .i64 x351), (.int .i64 0), (.int .i64 0)] 58), (32, bx b313 #[(.int .i64 xF_shape_GapOf_L6.X0), (.int .i64 xF_shape_GapOf_L6.Y0), (.int .i64 xF_shape_GapOf_L6.X1), (.int .i64 xF_shape_GapOf_L6.Y1)] 29), (37, bx b353 #[(.int .i64 xF_shape_GapOf_L8.X0), (.int .i64 xF_shape_GapOf_L8.Y0), (.int .i64 xF_shape_GapOf_L8.X1), (.int .i64 xF_shape_GapOf_L8.Y1)] 29), (38, bx b355 #[(.int .i64 y354.X), (.int .i64 y354.Y)] 35)] ?_ ?_
        · cases hg363 : (y356 == x141)
          · rw [hg363] at hg360
            rw [if_neg (by decide)] at hg360
            have H := hg360
            obtain rfl := Option.some.inj H
            refine Tr.pass rfl rfl rfl rfl rfl (by decide) ?_
            refine Tr.pass rfl rfl rfl rfl rfl (by decide) ?_
            refine Tr.pass rfl rfl rfl rfl rfl (by decide) ?_
            refine Tr.passU rfl rfl rfl rfl (by decide) ?_
            refine Tr.passU rfl rfl rfl rfl (by decide) ?_
            refine Tr.passU rfl rfl rfl rfl (by decide) ?_
            refine Tr.passU rfl rfl rfl rfl (by decide) ?_
            refine Tr.pass rfl rfl rfl rfl rfl (by decide) ?_
            refine Tr.val (wn rfl) rfl (fun _ _ h1 h2 => run_pickF (h1.ev rfl) (h1.ev rfl)) ?_
            exact Tr.nil (Tr.fin0 (.cons rfl (.cons rfl (.cons rfl (.cons rfl (.cons rfl (.cons rfl (.cons rfl (.cons rfl (.cons rfl (.cons rfl (.cons rfl (.cons rfl (.cons rfl (.cons rfl .nil)))))))))))))) (.cons rfl (.cons rfl (.cons rfl (.cons rfl (.cons rfl .nil))))))
          · rw [hg363] at hg360
            rw [if_pos rfl] at hg360
            have H := hg360
            refine Tr.val (wg rfl rfl rfl) rfl (fun _ _ h1 h2 => run_move (h1.ev rfl)) ?_
            refine Tr.val (wg rfl rfl rfl) rfl (fun _ _ h1 h2 => run_not (h1.ev rfl)) ?_
            refine Tr.val (wg rfl rfl rfl) rfl (fun _ _ h1 h2 => run_move (h1.ev rfl)) ?_
            obtain ⟨g362, hg362, H⟩ := bnd H
            refine Tr.mid0 5 [(1, (.slice Ap1_0 (p1).length cp1_0)), (4, (.pointer (some ⟨b100, 0, none⟩))), (5, (.int .i64 x141)), (11, (.pointer (some ⟨b142, 0, none⟩))), (12, (.bool x352)), (14, (.pointer (some ⟨b313, 0, none⟩))), (17, (.pointer (some ⟨b355, 0, none⟩))), (50, (.slice Ap0_0 (p0).length cp0_0)), (51, (.int .i64 (p0.length : Int))), (52, (.int .i64 (iF_shape_GapOf_L6 : Int))), (56, (.slice Ap1_0 (p1).length cp1_0)), (57, (.int .i64 (p1.length : Int))), (58, (.int .i64 (iF_shape_GapOf_L8 : Int))), (71, (.bool true)), (79, (.bool g362))] [(1, bx b100 #[(.int .i64 0), (.int .i64 0), (.int .i64 0), (.int .i64 0), (.int .i64 0), (.int .i64 0), (.int .i64 0)] 58), (10, bx b142 #[(.int .i64 0), (.int .i64 0), (.int .i64 (w64 (x141 - 1))), (.int .i64 x350), (.int .i64 x351), (.int .i64 0), (.int .i64 0)] 58), (32, bx b313 #[(.int .i64 xF_shape_GapOf_L6.X0), (.int .i64 xF_shape_GapOf_L6.Y0), (.int .i64 xF_shape_GapOf_L6.X1), (.int .i64 xF_shape_GapOf_L6.Y1)] 29), (37, bx b353 #[(.int .i64 xF_shape_GapOf_L8.X0), (.int .i64 xF_shape_GapOf_L8.Y0), (.int .i64 xF_shape_GapOf_L8.X1), (.int .i64 xF_shape_GapOf_L8.Y1)] 29), (38, bx b355 #[(.int .i64 y354.X), (.int .i64 y354.Y)] 35)] ?_ ?_
            · cases hg363 : (!x352)
              · rw [hg363] at hg362
                rw [if_neg (by decide)] at hg362
                have H := hg362
                refine Tr.val (wg rfl rfl rfl) rfl (fun _ _ h1 h2 => run_loadN (cs := [(.int .i64 y354.X), (.int .i64 y354.Y)]) ag_35 sz_35 (h1.ev rfl) (CellsAt.take (rdb h2 (vs := [(.int .i64 y354.X), (.int .i64 y354.Y)]) (k := 38) rfl 0) 2) rfl) ?_
                refine Tr.val (wg rfl rfl rfl) rfl (fun _ _ h1 h2 => run_fieldAddr fo_58_3 (h1.ev rfl)) ?_
                refine Tr.val (wg rfl rfl rfl) rfl (fun _ _ h1 h2 => run_loadN (cs := [(.int .i64 x350), (.int .i64 x351)]) ag_35 sz_35 (h1.ev rfl) (CellsAt.take (rdb h2 (vs := [(.int .i64 0), (.int .i64 0), (.int .i64 (w64 (x141 - 1))), (.int .i64 x350), (.int .i64 x351), (.int .i64 0), (.int .i64 0)]) (k := 10) rfl 3) 2) rfl) ?_
                obtain ⟨y363, hy363, H⟩ := bnd H
                refine Tr.call0 (r := (.bool y363)) (wg rfl rfl rfl) rfl Try.call104 (evl_cons rfl (evl_cons rfl evl_nil)) (fun W hW => F_shape_less_ok y354 (TPoint.mk x350 x351) y363 hy363 (HF.start _)) ?_
                refine Tr.val (wg rfl rfl rfl) rfl (fun _ _ h1 h2 => run_pickF (h1.ev rfl) (h1.ev rfl)) ?_
                obtain rfl := Option.some.inj H
                exact Tr.nil (Tr.fin0 (.cons rfl (.cons rfl (.cons rfl (.cons rfl (.cons rfl (.cons rfl (.cons rfl (.cons rfl (.cons rfl (.cons rfl (.cons rfl (.cons rfl (.cons rfl (.cons rfl (.cons rfl .nil))))))))))))))) (.cons rfl (.cons rfl (.cons rfl (.cons rfl (.cons rfl .nil))))))
              · rw [hg363] at hg362
                rw [if_pos rfl] at hg362
                have H := hg362
                obtain rfl := Option.some.inj H
                refine Tr.pass rfl rfl rfl rfl rfl (by decide) ?_
                refine Tr.pass rfl rfl rfl rfl rfl (by decide) ?_
                refine Tr.pass rfl rfl rfl rfl rfl (by decide) ?_
                refine Tr.pass rfl rfl rfl rfl rfl (by decide) ?_
                refine Tr.val (wg rfl rfl rfl) rfl (fun _ _ h1 h2 => run_pickT (h1.ev rfl) (h1.ev rfl)) ?_
                exact Tr.nil (Tr.fin0 (.cons rfl (.cons rfl (.cons rfl (.cons rfl (.cons rfl (.cons rfl (.cons rfl (.cons rfl (.cons rfl (.cons rfl (.cons rfl (.cons rfl (.cons rfl (.cons rfl (.cons rfl .nil))))))))))))))) (.cons rfl (.cons rfl (.cons rfl (.cons rfl (.cons rfl .nil))))))
            · show Tr _ _ (LF [(1, (.slice Ap1_0 (p1).length cp1_0)), (4, (.pointer (some ⟨b100, 0, none⟩))), (5, (.int .i64 x141)), (11, (.pointer (some ⟨b142, 0, none⟩))), (12, (.bool x352)), (14, (.pointer (some ⟨b313, 0, none⟩))), (17, (.pointer (some ⟨b355, 0, none⟩))), (50, (.slice Ap0_0 (p0).length cp0_0)), (51, (.int .i64 (p0.length : Int))), (52, (.int .i64 (iF_shape_GapOf_L6 : Int))), (56, (.slice Ap1_0 (p1).length cp1_0)), (57, (.int .i64 (p1.length : Int))), (58, (.int .i64 (iF_shape_GapOf_L8 : Int))), (71, (.bool true)), (79, (.bool g362))]) (LE [(1, bx b100 #[(.int .i64 0), (.int .i64 0), (.int .i64 0), (.int .i64 0), (.int .i64 0), (.int .i64 0), (.int .i64 0)] 58), (10, bx b142 #[(.int .i64 0), (.int .i64 0), (.int .i64 (w64 (x141 - 1))), (.int .i64 x350), (.int .i64 x351), (.int .i64 0), (.int .i64 0)] 58), (32, bx b313 #[(.int .i64 xF_shape_GapOf_L6.X0), (.int .i64 xF_shape_GapOf_L6.Y0), (.int .i64 xF_shape_GapOf_L6.X1), (.int .i64 xF_shape_GapOf_L6.Y1)] 29), (37, bx b353 #[(.int .i64 xF_shape_GapOf_L8.X0), (.int .i64 xF_shape_GapOf_L8.Y0), (.int .i64 xF_shape_GapOf_L8.X1), (.int .i64 xF_shape_GapOf_L8.Y1)] 29), (38, bx b355 #[(.int .i64 y354.X), (.int .i64 y354.Y)] 35)]) _
              refine Tr.val (wn rfl) rfl (fun _ _ h1 h2 => run_pickT (h1.ev rfl) (h1.ev rfl)) ?_
              obtain rfl := Option.some.inj H
              exact Tr.nil (Tr.fin0 (.cons rfl (.cons rfl (.cons rfl (.cons rfl (.cons rfl (.cons rfl (.cons rfl (.cons rfl (.cons rfl (.cons rfl (.cons rfl (.cons rfl (.cons rfl (.cons rfl .nil)))))))))))))) (.cons rfl (.cons rfl (.cons rfl (.cons rfl (.cons rfl .nil))))))
        · show Tr _ _ (LF [(1, (.slice Ap1_0 (p1).length cp1_0)), (4, (.pointer (some ⟨b100, 0, none⟩))), (5, (.int .i64 x141)), (11, (.pointer (some ⟨b142, 0, none⟩))), (12, (.bool x352)), (14, (.pointer (some ⟨b313, 0, none⟩))), (17, (.pointer (some ⟨b355, 0, none⟩))), (50, (.slice Ap0_0 (p0).length cp0_0)), (51, (.int .i64 (p0.length : Int))), (52, (.int .i64 (iF_shape_GapOf_L6 : Int))), (56, (.slice Ap1_0 (p1).length cp1_0)), (57, (.int .i64 (p1.length : Int))), (58, (.int .i64 (iF_shape_GapOf_L8 : Int))), (80, (.bool g360))]) (LE [(1, bx b100 #[(.int .i64 0), (.int .i64 0), (.int .i64 0), (.int .i64 0), (.int .i64 0), (.int .i64 0), (.int .i64 0)] 58), (10, bx b142 #[(.int .i64 0), (.int .i64 0), (.int .i64 (w64 (x141 - 1))), (.int .i64 x350), (.int .i64 x351), (.int .i64 0), (.int .i64 0)] 58), (32, bx b313 #[(.int .i64 xF_shape_GapOf_L6.X0), (.int .i64 xF_shape_GapOf_L6.Y0), (.int .i64 xF_shape_GapOf_L6.X1), (.int .i64 xF_shape_GapOf_L6.Y1)] 29), (37, bx b353 #[(.int .i64 xF_shape_GapOf_L8.X0), (.int .i64 xF_shape_GapOf_L8.Y0), (.int .i64 xF_shape_GapOf_L8.X1), (.int .i64 xF_shape_GapOf_L8.Y1)] 29), (38, bx b355 #[(.int .i64 y354.X), (.int .i64 y354.Y)] 35)]) _
          refine Tr.nil (Tr.normThen ?_)
          refine Tr.cond rfl H (fun H => ?_) (fun H => ?_)
          · refine Tr.region ?_
            refine Tr.val (wn rfl) rfl (fun _ _ h1 h2 => run_loadN (cs := [(.int .i64 y354.X), (.int .i64 y354.Y)]) ag_35 sz_35 (h1.ev rfl) (CellsAt.take (rdb h2 (vs := [(.int .i64 y354.X), (.int .i64 y354.Y)]) (k := 38) rfl 0) 2) rfl) ?_
            refine Tr.val (wn rfl) rfl (fun _ _ h1 h2 => run_fieldAddr fo_58_3 (h1.ev rfl)) ?_
            refine Tr.store 10 (cs := [(.int .i64 y354.X), (.int .i64 y354.Y)]) [(.int .i64 0), (.int .i64 0), (.int .i64 (w64 (x141 - 1))), (.int .i64 y354.X), (.int .i64 y354.Y), (.int .i64 0), (.int .i64 0)] (wn rfl) rfl rfl rfl rfl sz_35 rfl rfl rfl ?_
            refine Tr.val (wn rfl) rfl (fun _ _ h1 h2 => run_assign (h1.ev rfl)) ?_
            refine Tr.nil (Tr.normBlock (Tr.normThen ?_))
            refine Tr.region ?_
            refine Tr.val (wn rfl) rfl (fun _ _ h1 h2 => run_add (h1.ev rfl) (h1.ev rfl)) ?_
            refine Tr.val (wn rfl) rfl (fun _ _ h1 h2 => run_move (h1.ev rfl)) ?_
            refine Tr.nil ?_
            exact Tr.backThen leF_shape_GapOf_L8 (restF_shape_GapOf_L8, (iF_shape_GapOf_L8 + 1), y354.X, y354.Y, true) ⟨rfl, range_tl hdF_shape_GapOf_L8, range_lt hdF_shape_GapOf_L8, H⟩ (.cons rfl (.cons rfl (.cons rfl (.cons rfl (.cons rfl (.cons rfl (.cons rfl (.cons rfl (.cons rfl (.cons rfl (.cons rfl (.cons (congrArg (fun z => some (Value.int .i64 z)) (range_up hdF_shape_GapOf_L8 hp1_0.form)) .nil)))))))))))) (.cons rfl (.cons rfl (.cons rfl .nil)))
          · refine Tr.skip (Tr.normBlock (Tr.normThen ?_))
            refine Tr.region ?_
            refine Tr.val (wn rfl) rfl (fun _ _ h1 h2 => run_add (h1.ev rfl) (h1.ev rfl)) ?_
            refine Tr.val (wn rfl) rfl (fun _ _ h1 h2 => run_move (h1.ev rfl)) ?_
            refine Tr.nil ?_
            exact Tr.backThen leF_shape_GapOf_L8 (restF_shape_GapOf_L8, (iF_shape_GapOf_L8 + 1), x350, x351, x352) ⟨rfl, range_tl hdF_shape_GapOf_L8, range_lt hdF_shape_GapOf_L8, H⟩ (.cons rfl (.cons rfl (.cons rfl (.cons rfl (.cons rfl (.cons rfl (.cons rfl (.cons rfl (.cons rfl (.cons rfl (.cons rfl (.cons (congrArg (fun z => some (Value.int .i64 z)) (range_up hdF_shape_GapOf_L8 hp1_0.form)) .nil)))))))))))) (.cons rfl (.cons rfl (.cons rfl .nil)))
  | cons xF_shape_GapOf_L3 restF_shape_GapOf_L3 =>
    rw [F_shape_GapOf_L3.eq_2] at H
    refine Tr.seq ?_
    refine Tr.region ?_
    refine Tr.val (wn rfl) rfl (fun _ _ h1 h2 => run_lss (h1.ev rfl) (h1.ev rfl)) ?_
    refine Tr.nil (Tr.normThen ?_)
    refine Tr.seq ?_
    refine Tr.condT rfl (range_on hdF_shape_GapOf_L3) ?_
    refine Tr.skip (Tr.normThen ?_)
    refine Tr.seq ?_
    refine Tr.block ?_
    refine Tr.seq ?_
    refine Tr.region ?_
    refine Tr.val (wn rfl) rfl (fun _ _ h1 h2 => run_indexAddr el_22 (h1.ev rfl) hp0_0.form (h1.ev rfl) (Int.natCast_nonneg _) (range_lt hdF_shape_GapOf_L3)) ?_
    refine Tr.val (wn rfl) rfl (fun _ _ h1 h2 => run_loadN (cs := [(.int .i64 xF_shape_GapOf_L3.X0), (.int .i64 xF_shape_GapOf_L3.Y0), (.int .i64 xF_shape_GapOf_L3.X1), (.int .i64 xF_shape_GapOf_L3.Y1)]) ag_29 sz_29 (h1.ev rfl) (CellsAt.take (rdF ef_TRect hp0_0 (range_at hdF_shape_GapOf_L3) h2) 4) rfl) ?_
    refine Tr.alloc 39 (wn rfl) rfl ze_29 fun b364 => ?_
    refine Tr.store 39 (cs := [(.int .i64 xF_shape_GapOf_L3.X0), (.int .i64 xF_shape_GapOf_L3.Y0), (.int .i64 xF_shape_GapOf_L3.X1), (.int .i64 xF_shape_GapOf_L3.Y1)]) [(.int .i64 xF_shape_GapOf_L3.X0), (.int .i64 xF_shape_GapOf_L3.Y0), (.int .i64 xF_shape_GapOf_L3.X1), (.int .i64 xF_shape_GapOf_L3.Y1)] (wn rfl) rfl rfl rfl rfl sz_29 rfl rfl rfl ?_
    refine Tr.nil (Tr.normThen ?_)
    refine Tr.seq ?_
    refine Tr.region ?_
    refine Tr.val (wn rfl) rfl (fun _ _ h1 h2 => run_move (h1.ev rfl)) ?_
    refine Tr.val (wn rfl) rfl (fun _ _ h1 h2 => run_len un_22 (h1.ev rfl)) ?_
    refine Tr.val (wn rfl) rfl (fun _ _ h1 h2 => run_move (h1.ev rfl)) ?_
    refine Tr.nil (Tr.normThen ?_)
    refine Tr.block ?_
    refine Tr.loop (σ := (List TRect) × Nat × Int) (fun m w s => m = s.1.length + 1 ∧ s.1 = List.drop s.2.1 p1 ∧ s.2.1 ≤ p1.length ∧ F_shape_GapOf_L9 (F_shape_GapOf_L3 p0 p1 restF_shape_GapOf_L3 (iF_shape_GapOf_L3 + 1)) xF_shape_GapOf_L3 s.1 s.2.1 s.2.2 = some r) (fun s => [(0, (.slice Ap0_0 (p0).length cp0_0)), (1, (.slice Ap1_0 (p1).length cp1_0)), (4, (.pointer (some ⟨b100, 0, none⟩))), (5, (.int .i64 s.2.2)), (7, (.pointer (some ⟨b364, 0, none⟩))), (22, (.slice Ap0_0 (p0).length cp0_0)), (23, (.int .i64 (p0.length : Int))), (24, (.int .i64 (iF_shape_GapOf_L3 : Int))), (28, (.slice Ap1_0 (p1).length cp1_0)), (29, (.int .i64 (p1.length : Int))), (30, (.int .i64 (s.2.1 : Int)))]) (fun s => [(1, bx b100 #[(.int .i64 0), (.int .i64 0), (.int .i64 0), (.int .i64 0), (.int .i64 0), (.int .i64 0), (.int .i64 0)] 58), (39, bx b364 #[(.int .i64 xF_shape_GapOf_L3.X0), (.int .i64 xF_shape_GapOf_L3.Y0), (.int .i64 xF_shape_GapOf_L3.X1), (.int .i64 xF_shape_GapOf_L3.Y1)] 29)]) (p1.length + 1) (p1, 0, x141) ⟨rfl, rfl, Nat.zero_le _, H⟩ (.cons rfl (.cons rfl (.cons rfl (.cons rfl (.cons rfl (.cons rfl (.cons rfl (.cons rfl (.cons rfl (.cons rfl (.cons rfl .nil))))))))))) (.cons rfl (.cons rfl .nil)) (fun _ _ h => absurd h.1 (by simp)) ?_
    intro w leF_shape_GapOf_L9 m s hs
    obtain ⟨restF_shape_GapOf_L9, iF_shape_GapOf_L9, x377⟩ := s
    obtain ⟨hmF_shape_GapOf_L9, hdF_shape_GapOf_L9, hiF_shape_GapOf_L9, H⟩ := hs
    replace hdF_shape_GapOf_L9 : restF_shape_GapOf_L9 = List.drop iF_shape_GapOf_L9 p1 := hdF_shape_GapOf_L9
    replace H : F_shape_GapOf_L9 (F_shape_GapOf_L3 p0 p1 restF_shape_GapOf_L3 (iF_shape_GapOf_L3 + 1)) xF_shape_GapOf_L3 restF_shape_GapOf_L9 iF_shape_GapOf_L9 x377 = some r := H
    replace hmF_shape_GapOf_L9 : m + 1 = restF_shape_GapOf_L9.length + 1 := hmF_shape_GapOf_L9
    replace hp0_0 := hp0_0.leR leF_shape_GapOf_L9
    replace hp1_0 := hp1_0.leR leF_shape_GapOf_L9
    replace leB := leB.trans leF_shape_GapOf_L9
    replace leF_shape_GapOf_L3 := leF_shape_GapOf_L3.trans leF_shape_GapOf_L9
    obtain rfl : m = restF_shape_GapOf_L9.length := by omega
    clear hmF_shape_GapOf_L9
    show Tr _ _ (LF [(0, (.slice Ap0_0 (p0).length cp0_0)), (1, (.slice Ap1_0 (p1).length cp1_0)), (4, (.pointer (some ⟨b100, 0, none⟩))), (5, (.int .i64 x377)), (7, (.pointer (some ⟨b364, 0, none⟩))), (22, (.slice Ap0_0 (p0).length cp0_0)), (23, (.int .i64 (p0.length : Int))), (24, (.int .i64 (iF_shape_GapOf_L3 : Int))), (28, (.slice Ap1_0 (p1).length cp1_0)), (29, (.int .i64 (p1.length : Int))), (30, (.int .i64 (iF_shape_GapOf_L9 : Int)))]) (LE [(1, bx b100 #[(.int .i64 0), (.int .i64 0), (.int .i64 0), (.int .i64 0), (.int .i64 0), (.int .i64 0), (.int .i64 0)] 58), (39, bx b364 #[(.int .i64 xF_shape_GapOf_L3.X0), (.int .i64 xF_shape_GapOf_L3.Y0), (.int .i64 xF_shape_GapOf_L3.X1), (.int .i64 xF_shape_GapOf_L3.Y1)] 29)]) _
    cases restF_shape_GapOf_L9 with
    | nil =>
      rw [F_shape_GapOf_L9.eq_1] at H
      refine Tr.seq ?_
      refine Tr.region ?_
      refine Tr.val (wn rfl) rfl (fun _ _ h1 h2 => run_lss (h1.ev rfl) (h1.ev rfl)) ?_
      refine Tr.nil (Tr.normThen ?_)
      refine Tr.seq ?_
      refine Tr.condF rfl (range_nil hdF_shape_GapOf_L9) ?_
      refine Tr.exit (Tr.exitThen (Tr.exitThen (Tr.exitBlock (Tr.normBlock (Tr.normThen ?_)))))
      refine Tr.region ?_
      refine Tr.val (wn rfl) rfl (fun _ _ h1 h2 => run_add (h1.ev rfl) (h1.ev rfl)) ?_
      refine Tr.val (wn rfl) rfl (fun _ _ h1 h2 => run_move (h1.ev rfl)) ?_
      refine Tr.nil ?_
      exact Tr.backThen leF_shape_GapOf_L3 (restF_shape_GapOf_L3, (iF_shape_GapOf_L3 + 1), x377) ⟨rfl, range_tl hdF_shape_GapOf_L3, range_lt hdF_shape_GapOf_L3, H⟩ (.cons rfl (.cons rfl (.cons rfl (.cons rfl (.cons rfl (.cons rfl (.cons (congrArg (fun z => some (Value.int .i64 z)) (range_up hdF_shape_GapOf_L3 hp0_0.form)) .nil))))))) (.cons rfl .nil)
    | cons xF_shape_GapOf_L9 restF_shape_GapOf_L9 =>
      rw [F_shape_GapOf_L9.eq_2] at H
      refine Tr.seq ?_
      refine Tr.region ?_
      refine Tr.val (wn rfl) rfl (fun _ _ h1 h2 => run_lss (h1.ev rfl) (h1.ev rfl)) ?_
      refine Tr.nil (Tr.normThen ?_)
      refine Tr.seq ?_
      refine Tr.condT rfl (range_on hdF_shape_GapOf_L9) ?_
      refine Tr.skip (Tr.normThen ?_)
      refine Tr.seq ?_
      refine Tr.block ?_
      refine Tr.seq ?_
      refine Tr.region ?_
      refine Tr.val (wn rfl) rfl (fun _ _ h1 h2 => run_indexAddr el_22 (h1.ev rfl) hp1_0.form (h1.ev rfl) (Int.natCast_nonneg _) (range_lt hdF_shape_GapOf_L9)) ?_
      refine Tr.val (wn rfl) rfl (fun _ _ h1 h2 => run_loadN (cs := [(.int .i64 xF_shape_GapOf_L9.X0), (.int .i64 xF_shape_GapOf_L9.Y0), (.int .i64 xF_shape_GapOf_L9.X1), (.int .i64 xF_shape_GapOf_L9.Y1)]) ag_29 sz_29 (h1.ev rfl) (CellsAt.take (rdF ef_TRect hp1_0 (range_at hdF_shape_GapOf_L9) h2) 4) rfl) ?_
      refine Tr.alloc 42 (wn rfl) rfl ze_29 fun b378 => ?_
      refine Tr.store 42 (cs := [(.int .i64 xF_shape_GapOf_L9.X0), (.int .i64 xF_shape_GapOf_L9.Y0), (.int .i64 xF_shape_GapOf_L9.X1), (.int .i64 xF_shape_GapOf_L9.Y1)]) [(.int .i64 xF_shape_GapOf_L9.X0), (.int .i64 xF_shape_GapOf_L9.Y0), (.int .i64 xF_shape_GapOf_L9.X1), (.int .i64 xF_shape_GapOf_L9.Y1)] (wn rfl) rfl rfl rfl rfl sz_29 rfl rfl rfl ?_
      refine Tr.nil (Tr.normThen ?_)
      refine Tr.seq ?_
      refine Tr.region ?_
      refine Tr.val (wn rfl) rfl (fun _ _ h1 h2 => run_loadN (cs := [(.int .i64 xF_shape_GapOf_L3.X0), (.int .i64 xF_shape_GapOf_L3.Y0), (.int .i64 xF_shape_GapOf_L3.X1), (.int .i64 xF_shape_GapOf_L3.Y1)]) ag_29 sz_29 (h1.ev rfl) (CellsAt.take (rdb h2 (vs := [(.int .i64 xF_shape_GapOf_L3.X0), (.int .i64 xF_shape_GapOf_L3.Y0), (.int .i64 xF_shape_GapOf_L3.X1), (.int .i64 xF_shape_GapOf_L3.Y1)]) (k := 39) rfl 0) 4) rfl) ?_
      refine Tr.val (wn rfl) rfl (fun _ _ h1 h2 => run_loadN (cs := [(.int .i64 xF_shape_GapOf_L9.X0), (.int .i64 xF_shape_GapOf_L9.Y0), (.int .i64 xF_shape_GapOf_L9.X1), (.int .i64 xF_shape_GapOf_L9.Y1)]) ag_29 sz_29 (h1.ev rfl) (CellsAt.take (rdb h2 (vs := [(.int .i64 xF_shape_GapOf_L9.X0), (.int .i64 xF_shape_GapOf_L9.Y0), (.int .i64 xF_shape_GapOf_L9.X1), (.int .i64 xF_shape_GapOf_L9.Y1)]) (k := 42) rfl 0) 4) rfl) ?_
      obtain ⟨y379, hy379, H⟩ := bnd H
      refine Tr.call0 (r := (.int .i64 y379)) (wn rfl) rfl Try.call102 (evl_cons rfl (evl_cons rfl evl_nil)) (fun W hW => F_shape_Far_ok xF_shape_GapOf_L3 xF_shape_GapOf_L9 y379 hy379 (HF.start _)) ?_
      refine Tr.val (wn rfl) rfl (fun _ _ h1 h2 => run_assign (h1.ev rfl)) ?_
      refine Tr.nil (Tr.normThen ?_)
      refine Tr.seq ?_
      refine Tr.region ?_
      refine Tr.val (wn rfl) rfl (fun _ _ h1 h2 => run_move (h1.ev rfl)) ?_
      refine Tr.val (wn rfl) rfl (fun _ _ h1 h2 => run_lss (h1.ev rfl) (h1.ev rfl)) ?_
      refine Tr.val (wn rfl) rfl (fun _ _ h1 h2 => run_move (h1.ev rfl)) ?_
      refine Tr.mid0 4 [(0, (.slice Ap0_0 (p0).length cp0_0)), (1, (.slice Ap1_0 (p1).length cp1_0)), (4, (.pointer (some ⟨b100, 0, none⟩))), (5, (.int .i64 x377)), (7, (.pointer (some ⟨b364, 0, none⟩))), (10, (.int .i64 y379)), (22, (.slice Ap0_0 (p0).length cp0_0)), (23, (.int .i64 (p0.length : Int))), (24, (.int .i64 (iF_shape_GapOf_L3 : Int))), (28, (.slice Ap1_0 (p1).length cp1_0)), (29, (.int .i64 (p1.length : Int))), (30, (.int .i64 (iF_shape_GapOf_L9 : Int))), (43, (.bool ((decide (x377 < 0)) || (decide (y379 < x377)))))] [(1, bx b100 #[(.int .i64 0), (.int .i64 0), (.int .i64 0), (.int .i64 0), (.int .i64 0), (.int .i64 0), (.int .i64 0)] 58), (39, bx b364 #[(.int .i64 xF_shape_GapOf_L3.X0), (.int .i64 xF_shape_GapOf_L3.Y0), (.int .i64 xF_shape_GapOf_L3.X1), (.int .i64 xF_shape_GapOf_L3.Y1)] 29), (42, bx b378 #[(.int .i64 xF_shape_GapOf_L9.X0), (.int .i64 xF_shape_GapOf_L9.Y0), (.int .i64 xF_shape_GapOf_L9.X1), (.int .i64 xF_shape_GapOf_L9.Y1)] 29)] ?_ ?_
      · cases hg379 : (decide (x377 < 0))
        · refine Tr.val (wg rfl rfl rfl) rfl (fun _ _ h1 h2 => run_move (h1.ev rfl)) ?_
          refine Tr.val (wg rfl rfl rfl) rfl (fun _ _ h1 h2 => run_move (h1.ev rfl)) ?_
          refine Tr.val (wg rfl rfl rfl) rfl (fun _ _ h1 h2 => run_lss (h1.ev rfl) (h1.ev rfl)) ?_
          refine Tr.val (wn rfl) rfl (fun _ _ h1 h2 => run_pickF (h1.ev rfl) (h1.ev rfl)) ?_
          exact Tr.nil (Tr.fin0 (.cons rfl (.cons rfl (.cons rfl (.cons rfl (.cons rfl (.cons rfl (.cons rfl (.cons rfl (.cons rfl (.cons rfl (.cons rfl (.cons rfl (.cons rfl .nil))))))))))))) (.cons rfl (.cons rfl (.cons rfl .nil))))
        · refine Tr.pass rfl rfl rfl rfl rfl (by decide) ?_
          refine Tr.pass rfl rfl rfl rfl rfl (by decide) ?_
          refine Tr.pass rfl rfl rfl rfl rfl (by decide) ?_
          refine Tr.val (wn rfl) rfl (fun _ _ h1 h2 => run_pickT (h1.ev rfl) (h1.ev rfl)) ?_
          exact Tr.nil (Tr.fin0 (.cons rfl (.cons rfl (.cons rfl (.cons rfl (.cons rfl (.cons rfl (.cons rfl (.cons rfl (.cons rfl (.cons rfl (.cons rfl (.cons rfl (.cons rfl .nil))))))))))))) (.cons rfl (.cons rfl (.cons rfl .nil))))
      · show Tr _ _ (LF [(0, (.slice Ap0_0 (p0).length cp0_0)), (1, (.slice Ap1_0 (p1).length cp1_0)), (4, (.pointer (some ⟨b100, 0, none⟩))), (5, (.int .i64 x377)), (7, (.pointer (some ⟨b364, 0, none⟩))), (10, (.int .i64 y379)), (22, (.slice Ap0_0 (p0).length cp0_0)), (23, (.int .i64 (p0.length : Int))), (24, (.int .i64 (iF_shape_GapOf_L3 : Int))), (28, (.slice Ap1_0 (p1).length cp1_0)), (29, (.int .i64 (p1.length : Int))), (30, (.int .i64 (iF_shape_GapOf_L9 : Int))), (43, (.bool ((decide (x377 < 0)) || (decide (y379 < x377)))))]) (LE [(1, bx b100 #[(.int .i64 0), (.int .i64 0), (.int .i64 0), (.int .i64 0), (.int .i64 0), (.int .i64 0), (.int .i64 0)] 58), (39, bx b364 #[(.int .i64 xF_shape_GapOf_L3.X0), (.int .i64 xF_shape_GapOf_L3.Y0), (.int .i64 xF_shape_GapOf_L3.X1), (.int .i64 xF_shape_GapOf_L3.Y1)] 29), (42, bx b378 #[(.int .i64 xF_shape_GapOf_L9.X0), (.int .i64 xF_shape_GapOf_L9.Y0), (.int .i64 xF_shape_GapOf_L9.X1), (.int .i64 xF_shape_GapOf_L9.Y1)] 29)]) _
        refine Tr.nil (Tr.normThen ?_)
        refine Tr.cond rfl H (fun H => ?_) (fun H => ?_)
        · refine Tr.region ?_
          refine Tr.val (wn rfl) rfl (fun _ _ h1 h2 => run_move (h1.ev rfl)) ?_
          refine Tr.val (wn rfl) rfl (fun _ _ h1 h2 => run_assign (h1.ev rfl)) ?_
          refine Tr.nil (Tr.normBlock (Tr.normThen ?_))
          refine Tr.region ?_
          refine Tr.val (wn rfl) rfl (fun _ _ h1 h2 => run_add (h1.ev rfl) (h1.ev rfl)) ?_
          refine Tr.val (wn rfl) rfl (fun _ _ h1 h2 => run_move (h1.ev rfl)) ?_
          refine Tr.nil ?_
          exact Tr.backThen leF_shape_GapOf_L9 (restF_shape_GapOf_L9, (iF_shape_GapOf_L9 + 1), y379) ⟨rfl, range_tl hdF_shape_GapOf_L9, range_lt hdF_shape_GapOf_L9, H⟩ (.cons rfl (.cons rfl (.cons rfl (.cons rfl (.cons rfl (.cons rfl (.cons rfl (.cons rfl (.cons rfl (.cons rfl (.cons (congrArg (fun z => some (Value.int .i64 z)) (range_up hdF_shape_GapOf_L9 hp1_0.form)) .nil))))))))))) (.cons rfl (.cons rfl .nil))
        · refine Tr.skip (Tr.normBlock (Tr.normThen ?_))
          refine Tr.region ?_
          refine Tr.val (wn rfl) rfl (fun _ _ h1 h2 => run_add (h1.ev rfl) (h1.ev rfl)) ?_
          refine Tr.val (wn rfl) rfl (fun _ _ h1 h2 => run_move (h1.ev rfl)) ?_
          refine Tr.nil ?_
          exact Tr.backThen leF_shape_GapOf_L9 (restF_shape_GapOf_L9, (iF_shape_GapOf_L9 + 1), x377) ⟨rfl, range_tl hdF_shape_GapOf_L9, range_lt hdF_shape_GapOf_L9, H⟩ (.cons rfl (.cons rfl (.cons rfl (.cons rfl (.cons rfl (.cons rfl (.cons rfl (.cons rfl (.cons rfl (.cons rfl (.cons (congrArg (fun z => some (Value.int .i64 z)) (range_up hdF_shape_GapOf_L9 hp1_0.form)) .nil))))))))))) (.cons rfl (.cons rfl .nil))

theorem F_shape_Gaps_ok (N : Nat) {w : Bs} (p0 : (List (List TRect))) (Ap0_0 : Option Addr) (cp0_0 : Nat) (hp0_0 : Sl w.R w.W fl_LTRect Ap0_0 cp0_0 p0) (p1 : Int) (r : ((List TGap) × Int)) (H : F_shape_Gaps N p0 p1 = some r) (hE : HF w w.W (LEn [emp])) : Calls Try.prog 37 [(.slice Ap0_0 (p0).length cp0_0), (.int .i64 p1)].toArray w.W fun e W' => ∃ u : (Option Addr × Nat), e = .returned (.tuple #[(.slice u.1 (r.1).length u.2), (.int .i64 r.2)]) ∧ (SlF u.1 (r.1).length u.2) ∧ HF w W' (LEn [ow u.1 u.2 58 fl_TGap r.1]) := by
  unfold F_shape_Gaps at H
  have leB := Bs.Le.refl w
  refine Tr.enter (n := 99) Try.func37 rfl rfl rfl hE ?_
  refine Tr.seq ?_
  refine Tr.region ?_
  refine Tr.val (wn rfl) rfl (fun _ _ h1 h2 => run_assign (h1.ev rfl)) ?_
  refine Tr.nilOwn 1 58 fl_TGap ?_
  show Tr _ _ (uf _ 4 (.slice none (([] : List TGap)).length 0)) _ _
  refine Tr.val (wn rfl) rfl (fun _ _ h1 h2 => run_assign (h1.ev rfl)) ?_
  refine Tr.nil (Tr.normThen ?_)
  refine Tr.seq ?_
  refine Tr.region ?_
  refine Tr.val (wn rfl) rfl (fun _ _ h1 h2 => run_assign (h1.ev rfl)) ?_
  refine Tr.nil (Tr.normThen ?_)
  refine Tr.seq ?_
  refine Tr.seq ?_
  refine Tr.region ?_
  refine Tr.val (wn rfl) rfl (fun _ _ h1 h2 => run_move (h1.ev rfl)) ?_
  refine Tr.val (wn rfl) rfl (fun _ _ h1 h2 => run_len un_52 (h1.ev rfl)) ?_
  refine Tr.val (wn rfl) rfl (fun _ _ h1 h2 => run_move (h1.ev rfl)) ?_
  refine Tr.nil (Tr.normThen ?_)
  refine Tr.block ?_
  refine Tr.loop (σ := (List (List TRect)) × Nat × Int) (fun m w s => m = s.1.length + 1 ∧ s.1 = List.drop s.2.1 p0 ∧ s.2.1 ≤ p0.length ∧ F_shape_Gaps_L1 N p0 p1 s.1 s.2.1 s.2.2 = some r) (fun s => [(0, (.slice Ap0_0 (p0).length cp0_0)), (1, (.int .i64 p1)), (6, (.int .i64 s.2.2)), (17, (.slice Ap0_0 (p0).length cp0_0)), (18, (.int .i64 (p0.length : Int))), (19, (.int .i64 (s.2.1 : Int)))]) (fun s => []) (p0.length + 1) (p0, 0, 0) ⟨rfl, rfl, Nat.zero_le _, H⟩ (.cons rfl (.cons rfl (.cons rfl (.cons rfl (.cons rfl (.cons rfl .nil)))))) .nil (fun _ _ h => absurd h.1 (by simp)) ?_
  intro w leF_shape_Gaps_L1 m s hs
  obtain ⟨restF_shape_Gaps_L1, iF_shape_Gaps_L1, x110⟩ := s
  obtain ⟨hmF_shape_Gaps_L1, hdF_shape_Gaps_L1, hiF_shape_Gaps_L1, H⟩ := hs
  replace hdF_shape_Gaps_L1 : restF_shape_Gaps_L1 = List.drop iF_shape_Gaps_L1 p0 := hdF_shape_Gaps_L1
  replace H : F_shape_Gaps_L1 N p0 p1 restF_shape_Gaps_L1 iF_shape_Gaps_L1 x110 = some r := H
  replace hmF_shape_Gaps_L1 : m + 1 = restF_shape_Gaps_L1.length + 1 := hmF_shape_Gaps_L1
  replace hp0_0 := hp0_0.leR leF_shape_Gaps_L1
  replace leB := leB.trans leF_shape_Gaps_L1
  obtain rfl : m = restF_shape_Gaps_L1.length := by omega
  clear hmF_shape_Gaps_L1
  show Tr _ _ (LF [(0, (.slice Ap0_0 (p0).length cp0_0)), (1, (.int .i64 p1)), (6, (.int .i64 x110)), (17, (.slice Ap0_0 (p0).length cp0_0)), (18, (.int .i64 (p0.length : Int))), (19, (.int .i64 (iF_shape_Gaps_L1 : Int)))]) (LE []) _
  cases restF_shape_Gaps_L1 with
  | nil =>
    rw [F_shape_Gaps_L1.eq_1] at H
    refine Tr.seq ?_
    refine Tr.region ?_
    refine Tr.val (wn rfl) rfl (fun _ _ h1 h2 => run_lss (h1.ev rfl) (h1.ev rfl)) ?_
    refine Tr.nil (Tr.normThen ?_)
    refine Tr.seq ?_
    refine Tr.condF rfl (range_nil hdF_shape_Gaps_L1) ?_
    refine Tr.exit (Tr.exitThen (Tr.exitThen (Tr.exitBlock (Tr.normThen ?_))))
    refine Tr.seq ?_
    refine Tr.seq ?_
    refine Tr.region ?_
    refine Tr.val (wn rfl) rfl (fun _ _ h1 h2 => run_move (h1.ev rfl)) ?_
    refine Tr.val (wn rfl) rfl (fun _ _ h1 h2 => run_len un_52 (h1.ev rfl)) ?_
    refine Tr.val (wn rfl) rfl (fun _ _ h1 h2 => run_gtr (h1.ev rfl) (h1.ev rfl)) ?_
    refine Tr.val (wn rfl) rfl (fun _ _ h1 h2 => run_move (h1.ev rfl)) ?_
    refine Tr.mid0 3 [(0, (.slice Ap0_0 (p0).length cp0_0)), (1, (.int .i64 p1)), (34, (.bool ((decide (2000 < (p0.length : Int))) || (decide (2000 < x110)))))] [] ?_ ?_
    · cases hg252 : (decide (2000 < (p0.length : Int)))
      · refine Tr.val (wg rfl rfl rfl) rfl (fun _ _ h1 h2 => run_move (h1.ev rfl)) ?_
        refine Tr.val (wg rfl rfl rfl) rfl (fun _ _ h1 h2 => run_gtr (h1.ev rfl) (h1.ev rfl)) ?_
        refine Tr.val (wn rfl) rfl (fun _ _ h1 h2 => run_pickF (h1.ev rfl) (h1.ev rfl)) ?_
        exact Tr.nil (Tr.fin0 (.cons rfl (.cons rfl (.cons rfl .nil))) .nil)
      · refine Tr.pass rfl rfl rfl rfl rfl (by decide) ?_
        refine Tr.pass rfl rfl rfl rfl rfl (by decide) ?_
        refine Tr.val (wn rfl) rfl (fun _ _ h1 h2 => run_pickT (h1.ev rfl) (h1.ev rfl)) ?_
        exact Tr.nil (Tr.fin0 (.cons rfl (.cons rfl (.cons rfl .nil))) .nil)
    · show Tr _ _ (LF [(0, (.slice Ap0_0 (p0).length cp0_0)), (1, (.int .i64 p1)), (34, (.bool ((decide (2000 < (p0.length : Int))) || (decide (2000 < x110)))))]) (LE []) _
      refine Tr.nil (Tr.normThen ?_)
      refine Tr.cond rfl H (fun H => ?_) (fun H => ?_)
      · refine Tr.seq ?_
        refine Tr.region ?_
        refine Tr.val (wn rfl) rfl (fun _ _ h1 h2 => run_assign (h1.ev rfl)) ?_
        refine Tr.nilOwn 2 58 fl_TGap ?_
        show Tr _ _ (uf _ 4 (.slice none (([] : List TGap)).length 0)) _ _
        refine Tr.val (wn rfl) rfl (fun _ _ h1 h2 => run_assign (h1.ev rfl)) ?_
        refine Tr.nil (Tr.normThen ?_)
        refine Tr.ret (Tr.retThen ?_)
        obtain rfl := Option.some.inj H
        exact Tr.out (m := [(.slice none (([] : List TGap)).length 0), (.int .i64 2)]) [] (res_tmp rfl (res_tmp rfl res_nil)) (fun W hW => ⟨(none, 0), rfl, slf_nil, HF.lowE leB (hW.pick (ks := [2]) (by decide) (pk_cons rfl pk_nil)) ⟨ow_any _ _ _ _ tr_TGap, trivial⟩⟩)
      · refine Tr.skip (Tr.normThen ?_)
        refine Tr.seq ?_
        refine Tr.seq ?_
        refine Tr.region ?_
        refine Tr.val (wn rfl) rfl (fun _ _ h1 h2 => run_move (h1.ev rfl)) ?_
        refine Tr.val (wn rfl) rfl (fun _ _ h1 h2 => run_len un_52 (h1.ev rfl)) ?_
        refine Tr.val (wn rfl) rfl (fun _ _ h1 h2 => run_move (h1.ev rfl)) ?_
        refine Tr.nil (Tr.normThen ?_)
        refine Tr.block ?_
        refine Tr.loop (σ := (List (List TRect)) × Nat) (fun m w s => m = s.1.length + 1 ∧ s.1 = List.drop s.2 p0 ∧ s.2 ≤ p0.length ∧ F_shape_Gaps_L2 N p0 p1 s.1 s.2 = some r) (fun s => [(0, (.slice Ap0_0 (p0).length cp0_0)), (1, (.int .i64 p1)), (35, (.slice Ap0_0 (p0).length cp0_0)), (36, (.int .i64 (p0.length : Int))), (37, (.int .i64 (s.2 : Int)))]) (fun s => []) (p0.length + 1) (p0, 0) ⟨rfl, rfl, Nat.zero_le _, H⟩ (.cons rfl (.cons rfl (.cons rfl (.cons rfl (.cons rfl .nil))))) .nil (fun _ _ h => absurd h.1 (by simp)) ?_
        intro w leF_shape_Gaps_L2 m s hs
        obtain ⟨restF_shape_Gaps_L2, iF_shape_Gaps_L2⟩ := s
        obtain ⟨hmF_shape_Gaps_L2, hdF_shape_Gaps_L2, hiF_shape_Gaps_L2, H⟩ := hs
        replace hdF_shape_Gaps_L2 : restF_shape_Gaps_L2 = List.drop iF_shape_Gaps_L2 p0 := hdF_shape_Gaps_L2
        replace H : F_shape_Gaps_L2 N p0 p1 restF_shape_Gaps_L2 iF_shape_Gaps_L2 = some r := H
        replace hmF_shape_Gaps_L2 : m + 1 = restF_shape_Gaps_L2.length + 1 := hmF_shape_Gaps_L2
        replace hp0_0 := hp0_0.leR leF_shape_Gaps_L2
        replace leB := leB.trans leF_shape_Gaps_L2
        replace leF_shape_Gaps_L1 := leF_shape_Gaps_L1.trans leF_shape_Gaps_L2
        obtain rfl : m = restF_shape_Gaps_L2.length := by omega
        clear hmF_shape_Gaps_L2
        show Tr _ _ (LF [(0, (.slice Ap0_0 (p0).length cp0_0)), (1, (.int .i64 p1)), (35, (.slice Ap0_0 (p0).length cp0_0)), (36, (.int .i64 (p0.length : Int))), (37, (.int .i64 (iF_shape_Gaps_L2 : Int)))]) (LE []) _
        cases restF_shape_Gaps_L2 with
        | nil =>
          rw [F_shape_Gaps_L2.eq_1] at H
          refine Tr.seq ?_
          refine Tr.region ?_
          refine Tr.val (wn rfl) rfl (fun _ _ h1 h2 => run_lss (h1.ev rfl) (h1.ev rfl)) ?_
          refine Tr.nil (Tr.normThen ?_)
          refine Tr.seq ?_
          refine Tr.condF rfl (range_nil hdF_shape_Gaps_L2) ?_
          refine Tr.exit (Tr.exitThen (Tr.exitThen (Tr.exitBlock (Tr.normThen ?_))))
          refine Tr.seq ?_
          refine Tr.seq ?_
          refine Tr.region ?_
          refine Tr.val (wn rfl) rfl (fun _ _ h1 h2 => run_move (h1.ev rfl)) ?_
          obtain ⟨y115, hy115, H⟩ := bnd H
          refine Tr.call0 (r := (.bool y115)) (wn rfl) rfl Try.call67 (evl_cons rfl (evl_cons rfl (evl_cons rfl evl_nil))) (fun W hW => F_shape_within_ok p1 0 100000 y115 hy115 (HF.start _)) ?_
          refine Tr.val (wn rfl) rfl (fun _ _ h1 h2 => run_not (h1.ev rfl)) ?_
          refine Tr.nil (Tr.normThen ?_)
          refine Tr.cond rfl H (fun H => ?_) (fun H => ?_)
          · refine Tr.seq ?_
            refine Tr.region ?_
            refine Tr.val (wn rfl) rfl (fun _ _ h1 h2 => run_assign (h1.ev rfl)) ?_
            refine Tr.nilOwn 4 58 fl_TGap ?_
            show Tr _ _ (uf _ 4 (.slice none (([] : List TGap)).length 0)) _ _
            refine Tr.val (wn rfl) rfl (fun _ _ h1 h2 => run_assign (h1.ev rfl)) ?_
            refine Tr.nil (Tr.normThen ?_)
            refine Tr.ret (Tr.retThen ?_)
            obtain rfl := Option.some.inj H
            exact Tr.out (m := [(.slice none (([] : List TGap)).length 0), (.int .i64 1)]) [] (res_tmp rfl (res_tmp rfl res_nil)) (fun W hW => ⟨(none, 0), rfl, slf_nil, HF.lowE leB (hW.pick (ks := [4]) (by decide) (pk_cons rfl pk_nil)) ⟨ow_any _ _ _ _ tr_TGap, trivial⟩⟩)
          · refine Tr.skip (Tr.normThen ?_)
            refine Tr.seq ?_
            refine Tr.region ?_
            refine Tr.val (wn rfl) rfl (fun _ _ h1 h2 => run_assign (h1.ev rfl)) ?_
            refine Tr.nilOwn 5 58 fl_TGap ?_
            show Tr _ _ (uf _ 12 (.slice none (([] : List TGap)).length 0)) _ _
            refine Tr.nil (Tr.normThen ?_)
            refine Tr.seq ?_
            refine Tr.seq ?_
            refine Tr.region ?_
            refine Tr.val (wn rfl) rfl (fun _ _ h1 h2 => run_move (h1.ev rfl)) ?_
            refine Tr.val (wn rfl) rfl (fun _ _ h1 h2 => run_len un_52 (h1.ev rfl)) ?_
            refine Tr.val (wn rfl) rfl (fun _ _ h1 h2 => run_move (h1.ev rfl)) ?_
            refine Tr.nil (Tr.normThen ?_)
            refine Tr.block ?_
            refine Tr.loop (σ := (List (List TRect)) × Nat × (List TGap) × (Option Addr) × Nat) (fun m w s => m = s.1.length + 1 ∧ s.1 = List.drop s.2.1 p0 ∧ s.2.1 ≤ p0.length ∧ F_shape_Gaps_L5 N p0 p1 s.1 s.2.1 s.2.2.1 = some r ∧ SlF s.2.2.2.1 (s.2.2.1).length s.2.2.2.2) (fun s => [(0, (.slice Ap0_0 (p0).length cp0_0)), (1, (.int .i64 p1)), (12, (.slice s.2.2.2.1 (s.2.2.1).length s.2.2.2.2)), (50, (.slice Ap0_0 (p0).length cp0_0)), (51, (.int .i64 (p0.length : Int))), (52, (.int .i64 (s.2.1 : Int)))]) (fun s => [(5, ow s.2.2.2.1 s.2.2.2.2 58 fl_TGap s.2.2.1)]) (p0.length + 1) (p0, 0, ([] : List TGap), none, 0) ⟨rfl, rfl, Nat.zero_le _, H, slf_nil⟩ (.cons rfl (.cons rfl (.cons rfl (.cons rfl (.cons rfl (.cons rfl .nil)))))) (.cons rfl .nil) (fun _ _ h => absurd h.1 (by simp)) ?_
            intro w leF_shape_Gaps_L5 m s hs
            obtain ⟨restF_shape_Gaps_L5, iF_shape_Gaps_L5, l208, Al208, cl208⟩ := s
            obtain ⟨hmF_shape_Gaps_L5, hdF_shape_Gaps_L5, hiF_shape_Gaps_L5, H, hl208⟩ := hs
            replace hdF_shape_Gaps_L5 : restF_shape_Gaps_L5 = List.drop iF_shape_Gaps_L5 p0 := hdF_shape_Gaps_L5
            replace H : F_shape_Gaps_L5 N p0 p1 restF_shape_Gaps_L5 iF_shape_Gaps_L5 l208 = some r := H
            replace hmF_shape_Gaps_L5 : m + 1 = restF_shape_Gaps_L5.length + 1 := hmF_shape_Gaps_L5
            replace hp0_0 := hp0_0.leR leF_shape_Gaps_L5
            replace leB := leB.trans leF_shape_Gaps_L5
            replace leF_shape_Gaps_L1 := leF_shape_Gaps_L1.trans leF_shape_Gaps_L5
            replace leF_shape_Gaps_L2 := leF_shape_Gaps_L2.trans leF_shape_Gaps_L5
            replace hl208 : SlF Al208 (l208).length cl208 := hl208
            obtain rfl : m = restF_shape_Gaps_L5.length := by omega
            clear hmF_shape_Gaps_L5
            show Tr _ _ (LF [(0, (.slice Ap0_0 (p0).length cp0_0)), (1, (.int .i64 p1)), (12, (.slice Al208 (l208).length cl208)), (50, (.slice Ap0_0 (p0).length cp0_0)), (51, (.int .i64 (p0.length : Int))), (52, (.int .i64 (iF_shape_Gaps_L5 : Int)))]) (LE [(5, ow Al208 cl208 58 fl_TGap l208)]) _
            cases restF_shape_Gaps_L5 with
            | nil =>
              rw [F_shape_Gaps_L5.eq_1] at H
              refine Tr.seq ?_
              refine Tr.region ?_
              refine Tr.val (wn rfl) rfl (fun _ _ h1 h2 => run_lss (h1.ev rfl) (h1.ev rfl)) ?_
              refine Tr.nil (Tr.normThen ?_)
              refine Tr.seq ?_
              refine Tr.condF rfl (range_nil hdF_shape_Gaps_L5) ?_
              refine Tr.exit (Tr.exitThen (Tr.exitThen (Tr.exitBlock (Tr.normThen ?_))))
              refine Tr.seq ?_
              refine Tr.region ?_
              refine Tr.val (wn rfl) rfl (fun _ _ h1 h2 => run_move (h1.ev rfl)) ?_
              refine Tr.val (wn rfl) rfl (fun _ _ h1 h2 => run_assign (h1.ev rfl)) ?_
              refine Tr.val (wn rfl) rfl (fun _ _ h1 h2 => run_assign (h1.ev rfl)) ?_
              refine Tr.nil (Tr.normThen ?_)
              refine Tr.ret ?_
              obtain rfl := Option.some.inj H
              exact Tr.out (m := [(.slice Al208 (l208).length cl208), (.int .i64 0)]) [] (res_tmp rfl (res_tmp rfl res_nil)) (fun W hW => ⟨(Al208, cl208), rfl, hl208, HF.lowE leB (hW.pick (ks := [5]) (by decide) (pk_cons rfl pk_nil)) ⟨ow_any _ _ _ _ tr_TGap, trivial⟩⟩)
            | cons xF_shape_Gaps_L5 restF_shape_Gaps_L5 =>
              rw [F_shape_Gaps_L5.eq_2] at H
              refine Tr.seq ?_
              refine Tr.region ?_
              refine Tr.val (wn rfl) rfl (fun _ _ h1 h2 => run_lss (h1.ev rfl) (h1.ev rfl)) ?_
              refine Tr.nil (Tr.normThen ?_)
              refine Tr.seq ?_
              refine Tr.condT rfl (range_on hdF_shape_Gaps_L5) ?_
              refine Tr.skip (Tr.normThen ?_)
              refine Tr.seq ?_
              refine Tr.block ?_
              refine Tr.seq ?_
              refine Tr.region ?_
              refine Tr.val (wn rfl) rfl (fun _ _ h1 h2 => run_move (h1.ev rfl)) ?_
              obtain ⟨u209, hRu209, hoku209, hcu209⟩ := (hp0_0).el (range_at hdF_shape_Gaps_L5)
              obtain ⟨Au209_0, cu209_0⟩ := u209
              have hoku209_0 := hoku209
              replace hoku209_0 : Sl w.R w.W fl_TRect Au209_0 cu209_0 xF_shape_Gaps_L5 := hoku209_0
              refine Tr.val (wn rfl) rfl (fun _ _ h1 h2 => run_indexAddr el_52 (h1.ev rfl) hp0_0.form (h1.ev rfl) (Int.natCast_nonneg _) (range_lt hdF_shape_Gaps_L5)) ?_
              refine Tr.val (wn rfl) rfl (fun _ _ h1 h2 => run_load1 ag_22 (h1.ev rfl) (rdR hRu209 hcu209 h2) rfl) ?_
              refine Tr.val (wn rfl) rfl (fun _ _ h1 h2 => run_assign (h1.ev rfl)) ?_
              refine Tr.val (wn rfl) rfl (fun _ _ h1 h2 => run_assign (h1.ev rfl)) ?_
              refine Tr.nil (Tr.normThen ?_)
              refine Tr.seq ?_
              refine Tr.region ?_
              refine Tr.val (wn rfl) rfl (fun _ _ h1 h2 => run_move (h1.ev rfl)) ?_
              refine Tr.val (wn rfl) rfl (fun _ _ h1 h2 => run_add (h1.ev rfl) (h1.ev rfl)) ?_
              refine Tr.val (wn rfl) rfl (fun _ _ h1 h2 => run_assign (h1.ev rfl)) ?_
              refine Tr.nil (Tr.normThen ?_)
              refine Tr.block ?_
              refine Tr.loop (σ := (List TGap) × Int × (Option Addr) × Nat) (fun m w s => F_shape_Gaps_L6 p0 p1 (F_shape_Gaps_L5 N p0 p1 restF_shape_Gaps_L5 (iF_shape_Gaps_L5 + 1)) xF_shape_Gaps_L5 iF_shape_Gaps_L5 m s.1 s.2.1 = some r ∧ SlF s.2.2.1 (s.1).length s.2.2.2) (fun s => [(0, (.slice Ap0_0 (p0).length cp0_0)), (1, (.int .i64 p1)), (12, (.slice s.2.2.1 (s.1).length s.2.2.2)), (13, (.int .i64 (iF_shape_Gaps_L5 : Int))), (14, (.slice Au209_0 (xF_shape_Gaps_L5).length cu209_0)), (15, (.int .i64 s.2.1)), (50, (.slice Ap0_0 (p0).length cp0_0)), (51, (.int .i64 (p0.length : Int))), (52, (.int .i64 (iF_shape_Gaps_L5 : Int)))]) (fun s => [(5, ow s.2.2.1 s.2.2.2 58 fl_TGap s.1)]) N (l208, (w64 ((iF_shape_Gaps_L5 : Int) + 1)), Al208, cl208) ⟨H, hl208⟩ (.cons rfl (.cons rfl (.cons rfl (.cons rfl (.cons rfl (.cons rfl (.cons rfl (.cons rfl (.cons rfl .nil))))))))) (.cons rfl .nil) (fun _ _ h => noSome (h.1)) ?_
              intro w leF_shape_Gaps_L6 mF_shape_Gaps_L6 s hs
              obtain ⟨l238, x239, Al238, cl238⟩ := s
              obtain ⟨H, hl238⟩ := hs
              replace H : F_shape_Gaps_L6 p0 p1 (F_shape_Gaps_L5 N p0 p1 restF_shape_Gaps_L5 (iF_shape_Gaps_L5 + 1)) xF_shape_Gaps_L5 iF_shape_Gaps_L5 (mF_shape_Gaps_L6 + 1) l238 x239 = some r := H
              replace hp0_0 := hp0_0.leR leF_shape_Gaps_L6
              replace hoku209_0 := hoku209_0.leR leF_shape_Gaps_L6
              replace leB := leB.trans leF_shape_Gaps_L6
              replace leF_shape_Gaps_L1 := leF_shape_Gaps_L1.trans leF_shape_Gaps_L6
              replace leF_shape_Gaps_L2 := leF_shape_Gaps_L2.trans leF_shape_Gaps_L6
              replace leF_shape_Gaps_L5 := leF_shape_Gaps_L5.trans leF_shape_Gaps_L6
              replace hl238 : SlF Al238 (l238).length cl238 := hl238
              rw [F_shape_Gaps_L6.eq_2] at H
              show Tr _ _ (LF [(0, (.slice Ap0_0 (p0).length cp0_0)), (1, (.int .i64 p1)), (12, (.slice Al238 (l238).length cl238)), (13, (.int .i64 (iF_shape_Gaps_L5 : Int))), (14, (.slice Au209_0 (xF_shape_Gaps_L5).length cu209_0)), (15, (.int .i64 x239)), (50, (.slice Ap0_0 (p0).length cp0_0)), (51, (.int .i64 (p0.length : Int))), (52, (.int .i64 (iF_shape_Gaps_L5 : Int)))]) (LE [(5, ow Al238 cl238 58 fl_TGap l238)]) _
              refine Tr.seq ?_
              refine Tr.seq ?_
              refine Tr.region ?_
              refine Tr.val (wn rfl) rfl (fun _ _ h1 h2 => run_move (h1.ev rfl)) ?_
              refine Tr.val (wn rfl) rfl (fun _ _ h1 h2 => run_move (h1.ev rfl)) ?_
              refine Tr.val (wn rfl) rfl (fun _ _ h1 h2 => run_len un_52 (h1.ev rfl)) ?_
              refine Tr.val (wn rfl) rfl (fun _ _ h1 h2 => run_lss (h1.ev rfl) (h1.ev rfl)) ?_
              refine Tr.nil (Tr.normThen ?_)
              refine Tr.cond rfl H (fun H => ?_) (fun H => ?_)
              · refine Tr.skip (Tr.normThen ?_)
                refine Tr.seq ?_
                refine Tr.block ?_
                refine Tr.seq ?_
                refine Tr.seq ?_
                refine Tr.region ?_
                refine Tr.val (wn rfl) rfl (fun _ _ h1 h2 => run_move (h1.ev rfl)) ?_
                refine Tr.val (wn rfl) rfl (fun _ _ h1 h2 => run_len un_22 (h1.ev rfl)) ?_
                refine Tr.val (wn rfl) rfl (fun _ _ h1 h2 => run_eql (h1.ev rfl) (h1.ev rfl)) ?_
                refine Tr.val (wn rfl) rfl (fun _ _ h1 h2 => run_move (h1.ev rfl)) ?_
                obtain ⟨g242, hg242, H⟩ := bnd H
                refine Tr.mid0 7 [(0, (.slice Ap0_0 (p0).length cp0_0)), (1, (.int .i64 p1)), (12, (.slice Al238 (l238).length cl238)), (13, (.int .i64 (iF_shape_Gaps_L5 : Int))), (14, (.slice Au209_0 (xF_shape_Gaps_L5).length cu209_0)), (15, (.int .i64 x239)), (50, (.slice Ap0_0 (p0).length cp0_0)), (51, (.int .i64 (p0.length : Int))), (52, (.int .i64 (iF_shape_Gaps_L5 : Int))), (75, (.bool g242))] [(5, ow Al238 cl238 58 fl_TGap l238)] ?_ ?_
                · cases hg250 : ((xF_shape_Gaps_L5.length : Int) == 0)
                  · rw [hg250] at hg242
                    rw [if_neg (by decide)] at hg242
                    have H := hg242
                    refine Tr.val (wg rfl rfl rfl) rfl (fun _ _ h1 h2 => run_move (h1.ev rfl)) ?_
                    refine Tr.val (wg rfl rfl rfl) rfl (fun _ _ h1 h2 => run_move (h1.ev rfl)) ?_
                    obtain ⟨x243, hx243, H⟩ := bnd H
                    obtain ⟨hx2430, hx2431, hx2432⟩ := idx_some hx243
                    obtain ⟨u244, hRu244, hoku244, hcu244⟩ := (hp0_0).el hx2432
                    obtain ⟨Au244_0, cu244_0⟩ := u244
                    have hoku244_0 := hoku244
                    replace hoku244_0 : Sl w.R w.W fl_TRect Au244_0 cu244_0 x243 := hoku244_0
                    refine Tr.val (wg rfl rfl rfl) rfl (fun _ _ h1 h2 => run_indexAddr el_52 (h1.ev rfl) hp0_0.form (h1.ev rfl) hx2430 hx2431) ?_
                    refine Tr.val (wg rfl rfl rfl) rfl (fun _ _ h1 h2 => run_load1 ag_22 (h1.ev rfl) (rdR hRu244 hcu244 h2) rfl) ?_
                    refine Tr.val (wg rfl rfl rfl) rfl (fun _ _ h1 h2 => run_len un_22 (h1.ev rfl)) ?_
                    refine Tr.val (wg rfl rfl rfl) rfl (fun _ _ h1 h2 => run_eql (h1.ev rfl) (h1.ev rfl)) ?_
                    refine Tr.val (wn rfl) rfl (fun _ _ h1 h2 => run_pickF (h1.ev rfl) (h1.ev rfl)) ?_
                    obtain rfl := Option.some.inj H
                    exact Tr.nil (Tr.fin0 (.cons rfl (.cons rfl (.cons rfl (.cons rfl (.cons rfl (.cons rfl (.cons rfl (.cons rfl (.cons rfl (.cons rfl .nil)))))))))) (.cons rfl .nil))
                  · rw [hg250] at hg242
                    rw [if_pos rfl] at hg242
                    have H := hg242
                    obtain rfl := Option.some.inj H
                    refine Tr.pass rfl rfl rfl rfl rfl (by decide) ?_
                    refine Tr.pass rfl rfl rfl rfl rfl (by decide) ?_
                    refine Tr.pass rfl rfl rfl rfl rfl (by decide) ?_
                    refine Tr.pass rfl rfl rfl rfl rfl (by decide) ?_
                    refine Tr.pass rfl rfl rfl rfl rfl (by decide) ?_
                    refine Tr.pass rfl rfl rfl rfl rfl (by decide) ?_
                    refine Tr.val (wn rfl) rfl (fun _ _ h1 h2 => run_pickT (h1.ev rfl) (h1.ev rfl)) ?_
                    exact Tr.nil (Tr.fin0 (.cons rfl (.cons rfl (.cons rfl (.cons rfl (.cons rfl (.cons rfl (.cons rfl (.cons rfl (.cons rfl (.cons rfl .nil)))))))))) (.cons rfl .nil))
                · show Tr _ _ (LF [(0, (.slice Ap0_0 (p0).length cp0_0)), (1, (.int .i64 p1)), (12, (.slice Al238 (l238).length cl238)), (13, (.int .i64 (iF_shape_Gaps_L5 : Int))), (14, (.slice Au209_0 (xF_shape_Gaps_L5).length cu209_0)), (15, (.int .i64 x239)), (50, (.slice Ap0_0 (p0).length cp0_0)), (51, (.int .i64 (p0.length : Int))), (52, (.int .i64 (iF_shape_Gaps_L5 : Int))), (75, (.bool g242))]) (LE [(5, ow Al238 cl238 58 fl_TGap l238)]) _
                  refine Tr.nil (Tr.normThen ?_)
                  refine Tr.cond rfl H (fun H => ?_) (fun H => ?_)
                  · refine Tr.exit (Tr.exitThen (Tr.exitBlock (Tr.normThen ?_)))
                    refine Tr.region ?_
                    refine Tr.val (wn rfl) rfl (fun _ _ h1 h2 => run_move (h1.ev rfl)) ?_
                    refine Tr.val (wn rfl) rfl (fun _ _ h1 h2 => run_add (h1.ev rfl) (h1.ev rfl)) ?_
                    refine Tr.val (wn rfl) rfl (fun _ _ h1 h2 => run_assign (h1.ev rfl)) ?_
                    refine Tr.nil ?_
                    exact Tr.backThen leF_shape_Gaps_L6 (l238, (w64 (x239 + 1)), Al238, cl238) ⟨H, hl238⟩ (.cons rfl (.cons rfl (.cons rfl (.cons rfl (.cons rfl (.cons rfl (.cons rfl (.cons rfl (.cons rfl .nil))))))))) (.cons rfl .nil)
                  · refine Tr.skip (Tr.normThen ?_)
                    refine Tr.seq ?_
                    refine Tr.region ?_
                    refine Tr.val (wn rfl) rfl (fun _ _ h1 h2 => run_move (h1.ev rfl)) ?_
                    refine Tr.val (wn rfl) rfl (fun _ _ h1 h2 => run_move (h1.ev rfl)) ?_
                    refine Tr.val (wn rfl) rfl (fun _ _ h1 h2 => run_move (h1.ev rfl)) ?_
                    obtain ⟨x245, hx245, H⟩ := bnd H
                    obtain ⟨hx2450, hx2451, hx2452⟩ := idx_some hx245
                    obtain ⟨u246, hRu246, hoku246, hcu246⟩ := (hp0_0).el hx2452
                    obtain ⟨Au246_0, cu246_0⟩ := u246
                    have hoku246_0 := hoku246
                    replace hoku246_0 : Sl w.R w.W fl_TRect Au246_0 cu246_0 x245 := hoku246_0
                    refine Tr.val (wn rfl) rfl (fun _ _ h1 h2 => run_indexAddr el_52 (h1.ev rfl) hp0_0.form (h1.ev rfl) hx2450 hx2451) ?_
                    refine Tr.val (wn rfl) rfl (fun _ _ h1 h2 => run_load1 ag_22 (h1.ev rfl) (rdR hRu246 hcu246 h2) rfl) ?_
                    obtain ⟨y247, hy247, H⟩ := bnd H
                    refine Tr.call0 (r := (.agg #[(.int .i64 y247.A), (.int .i64 y247.B), (.int .i64 y247.Distance), (.int .i64 y247.From.X), (.int .i64 y247.From.Y), (.int .i64 y247.To.X), (.int .i64 y247.To.Y)])) (wn rfl) rfl Try.call74 (evl_cons rfl (evl_cons rfl evl_nil)) (fun W hW => F_shape_GapOf_ok xF_shape_Gaps_L5 Au209_0 cu209_0 (hoku209_0.ext hW.extAll) x245 Au246_0 cu246_0 (hoku246_0.ext hW.extAll) y247 hy247 (HF.start _)) ?_
                    refine Tr.alloc 30 (wn rfl) rfl ze_58 fun b248 => ?_
                    refine Tr.store 30 (cs := [(.int .i64 y247.A), (.int .i64 y247.B), (.int .i64 y247.Distance), (.int .i64 y247.From.X), (.int .i64 y247.From.Y), (.int .i64 y247.To.X), (.int .i64 y247.To.Y)]) [(.int .i64 y247.A), (.int .i64 y247.B), (.int .i64 y247.Distance), (.int .i64 y247.From.X), (.int .i64 y247.From.Y), (.int .i64 y247.To.X), (.int .i64 y247.To.Y)] (wn rfl) rfl rfl rfl rfl sz_58 rfl rfl rfl ?_
                    refine Tr.nil (Tr.normThen ?_)
                    refine Tr.seq ?_
                    refine Tr.seq ?_
                    refine Tr.region ?_
                    refine Tr.val (wn rfl) rfl (fun _ _ h1 h2 => run_fieldAddr fo_58_2 (h1.ev rfl)) ?_
                    refine Tr.val (wn rfl) rfl (fun _ _ h1 h2 => run_load1 ag_3 (h1.ev rfl) (rdb h2 (vs := [(.int .i64 y247.A), (.int .i64 y247.B), (.int .i64 y247.Distance), (.int .i64 y247.From.X), (.int .i64 y247.From.Y), (.int .i64 y247.To.X), (.int .i64 y247.To.Y)]) (k := 30) rfl 2) rfl) ?_
                    refine Tr.val (wn rfl) rfl (fun _ _ h1 h2 => run_lss (h1.ev rfl) (h1.ev rfl)) ?_
                    refine Tr.nil (Tr.normThen ?_)
                    refine Tr.cond rfl H (fun H => ?_) (fun H => ?_)
                    · refine Tr.seq ?_
                      refine Tr.region ?_
                      refine Tr.val (wn rfl) rfl (fun _ _ h1 h2 => run_assign (h1.ev rfl)) ?_
                      refine Tr.nilOwn 31 58 fl_TGap ?_
                      show Tr _ _ (uf _ 4 (.slice none (([] : List TGap)).length 0)) _ _
                      refine Tr.val (wn rfl) rfl (fun _ _ h1 h2 => run_assign (h1.ev rfl)) ?_
                      refine Tr.nil (Tr.normThen ?_)
                      refine Tr.ret (Tr.retThen (Tr.retBlock (Tr.retThen (Tr.retThen (Tr.retBlock (Tr.retBlock (Tr.retThen (Tr.retThen (Tr.retBlock (Tr.retThen ?_))))))))))
                      obtain rfl := Option.some.inj H
                      exact Tr.out (m := [(.slice none (([] : List TGap)).length 0), (.int .i64 12)]) [] (res_tmp rfl (res_tmp rfl res_nil)) (fun W hW => ⟨(none, 0), rfl, slf_nil, HF.lowE leB (hW.pick (ks := [31]) (by decide) (pk_cons rfl pk_nil)) ⟨ow_any _ _ _ _ tr_TGap, trivial⟩⟩)
                    · refine Tr.skip (Tr.normThen ?_)
                      refine Tr.seq ?_
                      refine Tr.region ?_
                      refine Tr.val (wn rfl) rfl (fun _ _ h1 h2 => run_move (h1.ev rfl)) ?_
                      refine Tr.val (wn rfl) rfl (fun _ _ h1 h2 => run_move (h1.ev rfl)) ?_
                      refine Tr.val (wn rfl) rfl (fun _ _ h1 h2 => run_fieldAddr fo_58_0 (h1.ev rfl)) ?_
                      refine Tr.store 30 (cs := [(.int .i64 (iF_shape_Gaps_L5 : Int))]) [(.int .i64 (iF_shape_Gaps_L5 : Int)), (.int .i64 y247.B), (.int .i64 y247.Distance), (.int .i64 y247.From.X), (.int .i64 y247.From.Y), (.int .i64 y247.To.X), (.int .i64 y247.To.Y)] (wn rfl) rfl rfl rfl rfl sz_3 rfl rfl rfl ?_
                      refine Tr.val (wn rfl) rfl (fun _ _ h1 h2 => run_fieldAddr fo_58_1 (h1.ev rfl)) ?_
                      refine Tr.store 30 (cs := [(.int .i64 x239)]) [(.int .i64 (iF_shape_Gaps_L5 : Int)), (.int .i64 x239), (.int .i64 y247.Distance), (.int .i64 y247.From.X), (.int .i64 y247.From.Y), (.int .i64 y247.To.X), (.int .i64 y247.To.Y)] (wn rfl) rfl rfl rfl rfl sz_3 rfl rfl rfl ?_
                      refine Tr.nil (Tr.normThen ?_)
                      refine Tr.seq ?_
                      refine Tr.region ?_
                      refine Tr.val (wn rfl) rfl (fun _ _ h1 h2 => run_fieldAddr fo_58_2 (h1.ev rfl)) ?_
                      refine Tr.val (wn rfl) rfl (fun _ _ h1 h2 => run_load1 ag_3 (h1.ev rfl) (rdb h2 (vs := [(.int .i64 (iF_shape_Gaps_L5 : Int)), (.int .i64 x239), (.int .i64 y247.Distance), (.int .i64 y247.From.X), (.int .i64 y247.From.Y), (.int .i64 y247.To.X), (.int .i64 y247.To.Y)]) (k := 30) rfl 2) rfl) ?_
                      refine Tr.val (wn rfl) rfl (fun _ _ h1 h2 => run_move (h1.ev rfl)) ?_
                      refine Tr.val (wn rfl) rfl (fun _ _ h1 h2 => run_lss (h1.ev rfl) (h1.ev rfl)) ?_
                      refine Tr.nil (Tr.normThen ?_)
                      refine Tr.cond rfl H (fun H => ?_) (fun H => ?_)
                      · refine Tr.region ?_
                        refine Tr.val (wn rfl) rfl (fun _ _ h1 h2 => run_move (h1.ev rfl)) ?_
                        refine Tr.val (wn rfl) rfl (fun _ _ h1 h2 => run_loadN (cs := [(.int .i64 (iF_shape_Gaps_L5 : Int)), (.int .i64 x239), (.int .i64 y247.Distance), (.int .i64 y247.From.X), (.int .i64 y247.From.Y), (.int .i64 y247.To.X), (.int .i64 y247.To.Y)]) ag_58 sz_58 (h1.ev rfl) (CellsAt.take (rdb h2 (vs := [(.int .i64 (iF_shape_Gaps_L5 : Int)), (.int .i64 x239), (.int .i64 y247.Distance), (.int .i64 y247.From.X), (.int .i64 y247.From.Y), (.int .i64 y247.To.X), (.int .i64 y247.To.Y)]) (k := 30) rfl 0) 7) rfl) ?_
                        refine Tr.buildSlice 32 (e := 58) (vs := [(0, (.agg #[(.int .i64 (iF_shape_Gaps_L5 : Int)), (.int .i64 x239), (.int .i64 y247.Distance), (.int .i64 y247.From.X), (.int .i64 y247.From.Y), (.int .i64 y247.To.X), (.int .i64 y247.To.Y)]))]) (cs := [(.int .i64 (iF_shape_Gaps_L5 : Int)), (.int .i64 x239), (.int .i64 y247.Distance), (.int .i64 y247.From.X), (.int .i64 y247.From.Y), (.int .i64 y247.To.X), (.int .i64 y247.To.Y)]) (wn rfl) rfl (evs_cons rfl evs_nil) (by kernel_rfl) fun b249 => ?_
                        obtain ⟨l250, hl250, H⟩ := bnd H
                        refine Tr.append 5 (t := fl_TGap) (l := l238) (l2 := [(TGap.mk (iF_shape_Gaps_L5 : Int) x239 y247.Distance y247.From y247.To)]) (wn rfl) rfl rfl rfl rfl (fun W hW => ⟨[[(.int .i64 (iF_shape_Gaps_L5 : Int)), (.int .i64 x239), (.int .i64 y247.Distance), (.int .i64 y247.From.X), (.int .i64 y247.From.Y), (.int .i64 y247.To.X), (.int .i64 y247.To.Y)]], (.cons ⟨(), trivial, rfl⟩ .nil), rdb hW (vs := [(.int .i64 (iF_shape_Gaps_L5 : Int)), (.int .i64 x239), (.int .i64 y247.Distance), (.int .i64 y247.From.X), (.int .i64 y247.From.Y), (.int .i64 y247.To.X), (.int .i64 y247.To.Y)]) (k := 32) rfl 0⟩) un_53 sz_58 zl_58 (by decide) by_58 rfl hl250 fun Al250 cl250 hAl250 => ?_
                        refine Tr.val (wn rfl) rfl (fun _ _ h1 h2 => run_assign (h1.ev rfl)) ?_
                        refine Tr.nil (Tr.normBlock (Tr.normThen ?_))
                        refine Tr.region ?_
                        refine Tr.val (wn rfl) rfl (fun _ _ h1 h2 => run_move (h1.ev rfl)) ?_
                        refine Tr.val (wn rfl) rfl (fun _ _ h1 h2 => run_add (h1.ev rfl) (h1.ev rfl)) ?_
                        refine Tr.val (wn rfl) rfl (fun _ _ h1 h2 => run_assign (h1.ev rfl)) ?_
                        refine Tr.nil ?_
                        exact Tr.backThen leF_shape_Gaps_L6 (l250, (w64 (x239 + 1)), Al250, cl250) ⟨H, hAl250⟩ (.cons rfl (.cons rfl (.cons rfl (.cons rfl (.cons rfl (.cons rfl (.cons rfl (.cons rfl (.cons rfl .nil))))))))) (.cons rfl .nil)
                      · refine Tr.skip (Tr.normBlock (Tr.normThen ?_))
                        refine Tr.region ?_
                        refine Tr.val (wn rfl) rfl (fun _ _ h1 h2 => run_move (h1.ev rfl)) ?_
                        refine Tr.val (wn rfl) rfl (fun _ _ h1 h2 => run_add (h1.ev rfl) (h1.ev rfl)) ?_
                        refine Tr.val (wn rfl) rfl (fun _ _ h1 h2 => run_assign (h1.ev rfl)) ?_
                        refine Tr.nil ?_
                        exact Tr.backThen leF_shape_Gaps_L6 (l238, (w64 (x239 + 1)), Al238, cl238) ⟨H, hl238⟩ (.cons rfl (.cons rfl (.cons rfl (.cons rfl (.cons rfl (.cons rfl (.cons rfl (.cons rfl (.cons rfl .nil))))))))) (.cons rfl .nil)
              · refine Tr.exit (Tr.exitThen (Tr.exitThen (Tr.exitBlock (Tr.normBlock (Tr.normThen ?_)))))
                refine Tr.region ?_
                refine Tr.val (wn rfl) rfl (fun _ _ h1 h2 => run_add (h1.ev rfl) (h1.ev rfl)) ?_
                refine Tr.val (wn rfl) rfl (fun _ _ h1 h2 => run_move (h1.ev rfl)) ?_
                refine Tr.nil ?_
                exact Tr.backThen leF_shape_Gaps_L5 (restF_shape_Gaps_L5, (iF_shape_Gaps_L5 + 1), l238, Al238, cl238) ⟨rfl, range_tl hdF_shape_Gaps_L5, range_lt hdF_shape_Gaps_L5, H, hl238⟩ (.cons rfl (.cons rfl (.cons rfl (.cons rfl (.cons rfl (.cons (congrArg (fun z => some (Value.int .i64 z)) (range_up hdF_shape_Gaps_L5 hp0_0.form)) .nil)))))) (.cons rfl .nil)
        | cons xF_shape_Gaps_L2 restF_shape_Gaps_L2 =>
          rw [F_shape_Gaps_L2.eq_2] at H
          refine Tr.seq ?_
          refine Tr.region ?_
          refine Tr.val (wn rfl) rfl (fun _ _ h1 h2 => run_lss (h1.ev rfl) (h1.ev rfl)) ?_
          refine Tr.nil (Tr.normThen ?_)
          refine Tr.seq ?_
          refine Tr.condT rfl (range_on hdF_shape_Gaps_L2) ?_
          refine Tr.skip (Tr.normThen ?_)
          refine Tr.seq ?_
          refine Tr.block ?_
          refine Tr.seq ?_
          refine Tr.region ?_
          obtain ⟨u251, hRu251, hoku251, hcu251⟩ := (hp0_0).el (range_at hdF_shape_Gaps_L2)
          obtain ⟨Au251_0, cu251_0⟩ := u251
          have hoku251_0 := hoku251
          replace hoku251_0 : Sl w.R w.W fl_TRect Au251_0 cu251_0 xF_shape_Gaps_L2 := hoku251_0
          refine Tr.val (wn rfl) rfl (fun _ _ h1 h2 => run_indexAddr el_52 (h1.ev rfl) hp0_0.form (h1.ev rfl) (Int.natCast_nonneg _) (range_lt hdF_shape_Gaps_L2)) ?_
          refine Tr.val (wn rfl) rfl (fun _ _ h1 h2 => run_load1 ag_22 (h1.ev rfl) (rdR hRu251 hcu251 h2) rfl) ?_
          refine Tr.val (wn rfl) rfl (fun _ _ h1 h2 => run_assign (h1.ev rfl)) ?_
          refine Tr.nil (Tr.normThen ?_)
          refine Tr.seq ?_
          refine Tr.region ?_
          refine Tr.val (wn rfl) rfl (fun _ _ h1 h2 => run_move (h1.ev rfl)) ?_
          obtain ⟨y252, hy252, H⟩ := bnd H
          refine Tr.call0 (r := (.int .i64 y252)) (wn rfl) rfl Try.call17 (evl_cons rfl evl_nil) (fun W hW => F_shape_CheckRegion_ok N xF_shape_Gaps_L2 Au251_0 cu251_0 (hoku251_0.ext hW.extAll) y252 hy252 (HF.start _)) ?_
          refine Tr.val (wn rfl) rfl (fun _ _ h1 h2 => run_assign (h1.ev rfl)) ?_
          refine Tr.nil (Tr.normThen ?_)
          refine Tr.seq ?_
          refine Tr.region ?_
          refine Tr.val (wn rfl) rfl (fun _ _ h1 h2 => run_move (h1.ev rfl)) ?_
          refine Tr.val (wn rfl) rfl (fun _ _ h1 h2 => run_neq (h1.ev rfl) (h1.ev rfl)) ?_
          refine Tr.nil (Tr.normThen ?_)
          refine Tr.cond rfl H (fun H => ?_) (fun H => ?_)
          · refine Tr.seq ?_
            refine Tr.region ?_
            refine Tr.val (wn rfl) rfl (fun _ _ h1 h2 => run_move (h1.ev rfl)) ?_
            refine Tr.val (wn rfl) rfl (fun _ _ h1 h2 => run_assign (h1.ev rfl)) ?_
            refine Tr.nilOwn 33 58 fl_TGap ?_
            show Tr _ _ (uf _ 4 (.slice none (([] : List TGap)).length 0)) _ _
            refine Tr.val (wn rfl) rfl (fun _ _ h1 h2 => run_assign (h1.ev rfl)) ?_
            refine Tr.nil (Tr.normThen ?_)
            refine Tr.ret (Tr.retBlock (Tr.retThen (Tr.retThen (Tr.retBlock (Tr.retThen ?_)))))
            obtain rfl := Option.some.inj H
            exact Tr.out (m := [(.slice none (([] : List TGap)).length 0), (.int .i64 y252)]) [] (res_tmp rfl (res_tmp rfl res_nil)) (fun W hW => ⟨(none, 0), rfl, slf_nil, HF.lowE leB (hW.pick (ks := [33]) (by decide) (pk_cons rfl pk_nil)) ⟨ow_any _ _ _ _ tr_TGap, trivial⟩⟩)
          · refine Tr.skip (Tr.normBlock (Tr.normThen ?_))
            refine Tr.region ?_
            refine Tr.val (wn rfl) rfl (fun _ _ h1 h2 => run_add (h1.ev rfl) (h1.ev rfl)) ?_
            refine Tr.val (wn rfl) rfl (fun _ _ h1 h2 => run_move (h1.ev rfl)) ?_
            refine Tr.nil ?_
            exact Tr.backThen leF_shape_Gaps_L2 (restF_shape_Gaps_L2, (iF_shape_Gaps_L2 + 1)) ⟨rfl, range_tl hdF_shape_Gaps_L2, range_lt hdF_shape_Gaps_L2, H⟩ (.cons rfl (.cons rfl (.cons rfl (.cons rfl (.cons (congrArg (fun z => some (Value.int .i64 z)) (range_up hdF_shape_Gaps_L2 hp0_0.form)) .nil))))) .nil
  | cons xF_shape_Gaps_L1 restF_shape_Gaps_L1 =>
    rw [F_shape_Gaps_L1.eq_2] at H
    refine Tr.seq ?_
    refine Tr.region ?_
    refine Tr.val (wn rfl) rfl (fun _ _ h1 h2 => run_lss (h1.ev rfl) (h1.ev rfl)) ?_
    refine Tr.nil (Tr.normThen ?_)
    refine Tr.seq ?_
    refine Tr.condT rfl (range_on hdF_shape_Gaps_L1) ?_
    refine Tr.skip (Tr.normThen ?_)
    refine Tr.seq ?_
    refine Tr.block ?_
    refine Tr.seq ?_
    refine Tr.region ?_
    obtain ⟨u253, hRu253, hoku253, hcu253⟩ := (hp0_0).el (range_at hdF_shape_Gaps_L1)
    obtain ⟨Au253_0, cu253_0⟩ := u253
    have hoku253_0 := hoku253
    replace hoku253_0 : Sl w.R w.W fl_TRect Au253_0 cu253_0 xF_shape_Gaps_L1 := hoku253_0
    refine Tr.val (wn rfl) rfl (fun _ _ h1 h2 => run_indexAddr el_52 (h1.ev rfl) hp0_0.form (h1.ev rfl) (Int.natCast_nonneg _) (range_lt hdF_shape_Gaps_L1)) ?_
    refine Tr.val (wn rfl) rfl (fun _ _ h1 h2 => run_load1 ag_22 (h1.ev rfl) (rdR hRu253 hcu253 h2) rfl) ?_
    refine Tr.val (wn rfl) rfl (fun _ _ h1 h2 => run_assign (h1.ev rfl)) ?_
    refine Tr.nil (Tr.normThen ?_)
    refine Tr.region ?_
    refine Tr.val (wn rfl) rfl (fun _ _ h1 h2 => run_move (h1.ev rfl)) ?_
    refine Tr.val (wn rfl) rfl (fun _ _ h1 h2 => run_move (h1.ev rfl)) ?_
    refine Tr.val (wn rfl) rfl (fun _ _ h1 h2 => run_len un_22 (h1.ev rfl)) ?_
    refine Tr.val (wn rfl) rfl (fun _ _ h1 h2 => run_add (h1.ev rfl) (h1.ev rfl)) ?_
    refine Tr.val (wn rfl) rfl (fun _ _ h1 h2 => run_assign (h1.ev rfl)) ?_
    refine Tr.nil (Tr.normBlock (Tr.normThen ?_))
    refine Tr.region ?_
    refine Tr.val (wn rfl) rfl (fun _ _ h1 h2 => run_add (h1.ev rfl) (h1.ev rfl)) ?_
    refine Tr.val (wn rfl) rfl (fun _ _ h1 h2 => run_move (h1.ev rfl)) ?_
    refine Tr.nil ?_
    exact Tr.backThen leF_shape_Gaps_L1 (restF_shape_Gaps_L1, (iF_shape_Gaps_L1 + 1), (w64 (x110 + (xF_shape_Gaps_L1.length : Int)))) ⟨rfl, range_tl hdF_shape_Gaps_L1, range_lt hdF_shape_Gaps_L1, H⟩ (.cons rfl (.cons rfl (.cons rfl (.cons rfl (.cons rfl (.cons (congrArg (fun z => some (Value.int .i64 z)) (range_up hdF_shape_Gaps_L1 hp0_0.form)) .nil)))))) .nil

theorem F_etchhouseref1_within_ok {w : Bs} (p0 : Int) (p1 : Int) (p2 : Int) (r : Bool) (H : F_etchhouseref1_within p0 p1 p2 = some r) (hE : HF w w.W E0) : Calls Try.prog 68 [(.int .i64 p0), (.int .i64 p1), (.int .i64 p2)].toArray w.W fun e W' => e = .returned (.bool r) ∧ HF w W' E0 := by
  unfold F_etchhouseref1_within at H
  have leB := Bs.Le.refl w
  refine Tr.enter (n := 15) Try.func68 rfl rfl rfl hE ?_
  refine Tr.seq ?_
  refine Tr.region ?_
  refine Tr.val (wn rfl) rfl (fun _ _ h1 h2 => run_assign (h1.ev rfl)) ?_
  refine Tr.nil (Tr.normThen ?_)
  refine Tr.seq ?_
  refine Tr.region ?_
  refine Tr.val (wn rfl) rfl (fun _ _ h1 h2 => run_move (h1.ev rfl)) ?_
  refine Tr.val (wn rfl) rfl (fun _ _ h1 h2 => run_move (h1.ev rfl)) ?_
  refine Tr.val (wn rfl) rfl (fun _ _ h1 h2 => run_geq (h1.ev rfl) (h1.ev rfl)) ?_
  refine Tr.val (wn rfl) rfl (fun _ _ h1 h2 => run_move (h1.ev rfl)) ?_
  refine Tr.mid0 4 [(14, (.bool ((decide (p1 ≤ p0)) && (decide (p0 ≤ p2)))))] [] ?_ ?_
  · cases hg99 : (decide (p1 ≤ p0))
    · refine Tr.pass rfl rfl rfl rfl rfl (by decide) ?_
      refine Tr.pass rfl rfl rfl rfl rfl (by decide) ?_
      refine Tr.pass rfl rfl rfl rfl rfl (by decide) ?_
      refine Tr.val (wn rfl) rfl (fun _ _ h1 h2 => run_pickF (h1.ev rfl) (h1.ev rfl)) ?_
      exact Tr.nil (Tr.fin0 (.cons rfl .nil) .nil)
    · refine Tr.val (wg rfl rfl rfl) rfl (fun _ _ h1 h2 => run_move (h1.ev rfl)) ?_
      refine Tr.val (wg rfl rfl rfl) rfl (fun _ _ h1 h2 => run_move (h1.ev rfl)) ?_
      refine Tr.val (wg rfl rfl rfl) rfl (fun _ _ h1 h2 => run_leq (h1.ev rfl) (h1.ev rfl)) ?_
      refine Tr.val (wn rfl) rfl (fun _ _ h1 h2 => run_pickT (h1.ev rfl) (h1.ev rfl)) ?_
      exact Tr.nil (Tr.fin0 (.cons rfl .nil) .nil)
  · show Tr _ _ (LF [(14, (.bool ((decide (p1 ≤ p0)) && (decide (p0 ≤ p2)))))]) (LE []) _
    refine Tr.val (wn rfl) rfl (fun _ _ h1 h2 => run_assign (h1.ev rfl)) ?_
    refine Tr.nil (Tr.normThen ?_)
    refine Tr.ret ?_
    obtain rfl := Option.some.inj H
    exact Tr.out (m := [(.bool ((decide (p1 ≤ p0)) && (decide (p0 ≤ p2))))]) [] (res_tmp rfl res_nil) (fun W hW => ⟨rfl, hW.low leB⟩)

theorem F_etchhouseref1_At_ok {w : Bs} (p0 : Int) (r : Bool) (H : F_etchhouseref1_At p0 = some r) (hE : HF w w.W E0) : Calls Try.prog 55 [(.int .i64 p0)].toArray w.W fun e W' => e = .returned (.bool r) ∧ HF w W' E0 := by
  unfold F_etchhouseref1_At at H
  have leB := Bs.Le.refl w
  refine Tr.enter (n := 5) Try.func55 rfl rfl rfl hE ?_
  refine Tr.seq ?_
  refine Tr.region ?_
  refine Tr.val (wn rfl) rfl (fun _ _ h1 h2 => run_assign (h1.ev rfl)) ?_
  refine Tr.nil (Tr.normThen ?_)
  refine Tr.seq ?_
  refine Tr.region ?_
  refine Tr.val (wn rfl) rfl (fun _ _ h1 h2 => run_move (h1.ev rfl)) ?_
  obtain ⟨y100, hy100, H⟩ := bnd H
  refine Tr.call0 (r := (.bool y100)) (wn rfl) rfl Try.call68 (evl_cons rfl (evl_cons rfl (evl_cons rfl evl_nil))) (fun W hW => F_etchhouseref1_within_ok p0 (-1000000) 1000000 y100 hy100 (HF.start _)) ?_
  refine Tr.val (wn rfl) rfl (fun _ _ h1 h2 => run_assign (h1.ev rfl)) ?_
  refine Tr.nil (Tr.normThen ?_)
  refine Tr.ret ?_
  obtain rfl := Option.some.inj H
  exact Tr.out (m := [(.bool y100)]) [] (res_tmp rfl res_nil) (fun W hW => ⟨rfl, hW.low leB⟩)

theorem F_etchhouseref1_CheckRects_ok (N : Nat) {w : Bs} (p0 : (List TRect)) (Ap0_0 : Option Addr) (cp0_0 : Nat) (hp0_0 : Sl w.R w.W fl_TRect Ap0_0 cp0_0 p0) (r : Int) (H : F_etchhouseref1_CheckRects N p0 = some r) (hE : HF w w.W E0) : Calls Try.prog 16 [(.slice Ap0_0 (p0).length cp0_0)].toArray w.W fun e W' => e = .returned (.int .i64 r) ∧ HF w W' E0 := by
  unfold F_etchhouseref1_CheckRects at H
  have leB := Bs.Le.refl w
  refine Tr.enter (n := 52) Try.func16 rfl rfl rfl hE ?_
  refine Tr.seq ?_
  refine Tr.region ?_
  refine Tr.val (wn rfl) rfl (fun _ _ h1 h2 => run_assign (h1.ev rfl)) ?_
  refine Tr.nil (Tr.normThen ?_)
  refine Tr.seq ?_
  refine Tr.seq ?_
  refine Tr.region ?_
  refine Tr.val (wn rfl) rfl (fun _ _ h1 h2 => run_move (h1.ev rfl)) ?_
  refine Tr.val (wn rfl) rfl (fun _ _ h1 h2 => run_len un_22 (h1.ev rfl)) ?_
  refine Tr.val (wn rfl) rfl (fun _ _ h1 h2 => run_gtr (h1.ev rfl) (h1.ev rfl)) ?_
  refine Tr.nil (Tr.normThen ?_)
  refine Tr.cond rfl H (fun H => ?_) (fun H => ?_)
  · refine Tr.seq ?_
    refine Tr.region ?_
    refine Tr.val (wn rfl) rfl (fun _ _ h1 h2 => run_assign (h1.ev rfl)) ?_
    refine Tr.nil (Tr.normThen ?_)
    refine Tr.ret (Tr.retThen ?_)
    obtain rfl := Option.some.inj H
    exact Tr.out (m := [(.int .i64 2)]) [] (res_tmp rfl res_nil) (fun W hW => ⟨rfl, hW.low leB⟩)
  · refine Tr.skip (Tr.normThen ?_)
    refine Tr.seq ?_
    refine Tr.seq ?_
    refine Tr.region ?_
    refine Tr.val (wn rfl) rfl (fun _ _ h1 h2 => run_assign (h1.ev rfl)) ?_
    refine Tr.nil (Tr.normThen ?_)
    refine Tr.block ?_
    refine Tr.loop (σ := Int) (fun m w s => F_etchhouseref1_CheckRects_L1 p0 m s = some r) (fun s => [(0, (.slice Ap0_0 (p0).length cp0_0)), (3, (.int .i64 s))]) (fun s => []) N 0 H (.cons rfl (.cons rfl .nil)) .nil (fun _ _ h => noSome (h)) ?_
    intro w leF_etchhouseref1_CheckRects_L1 mF_etchhouseref1_CheckRects_L1 x127 hs
    have H := hs
    replace H : F_etchhouseref1_CheckRects_L1 p0 (mF_etchhouseref1_CheckRects_L1 + 1) x127 = some r := H
    replace hp0_0 := hp0_0.leR leF_etchhouseref1_CheckRects_L1
    replace leB := leB.trans leF_etchhouseref1_CheckRects_L1
    rw [F_etchhouseref1_CheckRects_L1.eq_2] at H
    show Tr _ _ (LF [(0, (.slice Ap0_0 (p0).length cp0_0)), (3, (.int .i64 x127))]) (LE []) _
    refine Tr.seq ?_
    refine Tr.seq ?_
    refine Tr.region ?_
    refine Tr.val (wn rfl) rfl (fun _ _ h1 h2 => run_move (h1.ev rfl)) ?_
    refine Tr.val (wn rfl) rfl (fun _ _ h1 h2 => run_move (h1.ev rfl)) ?_
    refine Tr.val (wn rfl) rfl (fun _ _ h1 h2 => run_len un_22 (h1.ev rfl)) ?_
    refine Tr.val (wn rfl) rfl (fun _ _ h1 h2 => run_lss (h1.ev rfl) (h1.ev rfl)) ?_
    refine Tr.nil (Tr.normThen ?_)
    refine Tr.cond rfl H (fun H => ?_) (fun H => ?_)
    · refine Tr.skip (Tr.normThen ?_)
      refine Tr.seq ?_
      refine Tr.block ?_
      refine Tr.seq ?_
      refine Tr.region ?_
      refine Tr.val (wn rfl) rfl (fun _ _ h1 h2 => run_move (h1.ev rfl)) ?_
      refine Tr.val (wn rfl) rfl (fun _ _ h1 h2 => run_move (h1.ev rfl)) ?_
      obtain ⟨x128, hx128, H⟩ := bnd H
      obtain ⟨hx1280, hx1281, hx1282⟩ := idx_some hx128
      refine Tr.val (wn rfl) rfl (fun _ _ h1 h2 => run_indexAddr el_22 (h1.ev rfl) hp0_0.form (h1.ev rfl) hx1280 hx1281) ?_
      refine Tr.val (wn rfl) rfl (fun _ _ h1 h2 => run_loadN (cs := [(.int .i64 x128.X0), (.int .i64 x128.Y0), (.int .i64 x128.X1), (.int .i64 x128.Y1)]) ag_29 sz_29 (h1.ev rfl) (CellsAt.take (rdF ef_TRect hp0_0 hx1282 h2) 4) rfl) ?_
      refine Tr.alloc 3 (wn rfl) rfl ze_29 fun b129 => ?_
      refine Tr.store 3 (cs := [(.int .i64 x128.X0), (.int .i64 x128.Y0), (.int .i64 x128.X1), (.int .i64 x128.Y1)]) [(.int .i64 x128.X0), (.int .i64 x128.Y0), (.int .i64 x128.X1), (.int .i64 x128.Y1)] (wn rfl) rfl rfl rfl rfl sz_29 rfl rfl rfl ?_
      refine Tr.nil (Tr.normThen ?_)
      refine Tr.seq ?_
      refine Tr.seq ?_
      refine Tr.region ?_
      refine Tr.val (wn rfl) rfl (fun _ _ h1 h2 => run_fieldAddr fo_29_0 (h1.ev rfl)) ?_
      refine Tr.val (wn rfl) rfl (fun _ _ h1 h2 => run_load1 ag_3 (h1.ev rfl) (rdb h2 (vs := [(.int .i64 x128.X0), (.int .i64 x128.Y0), (.int .i64 x128.X1), (.int .i64 x128.Y1)]) (k := 3) rfl 0) rfl) ?_
      obtain ⟨y130, hy130, H⟩ := bnd H
      refine Tr.call0 (r := (.bool y130)) (wn rfl) rfl Try.call55 (evl_cons rfl evl_nil) (fun W hW => F_etchhouseref1_At_ok x128.X0 y130 hy130 (HF.start _)) ?_
      refine Tr.val (wn rfl) rfl (fun _ _ h1 h2 => run_not (h1.ev rfl)) ?_
      refine Tr.val (wn rfl) rfl (fun _ _ h1 h2 => run_move (h1.ev rfl)) ?_
      obtain ⟨g132, hg132, H⟩ := bnd H
      refine Tr.mid0 5 [(0, (.slice Ap0_0 (p0).length cp0_0)), (3, (.int .i64 x127)), (4, (.pointer (some ⟨b129, 0, none⟩))), (27, (.bool g132))] [(3, bx b129 #[(.int .i64 x128.X0), (.int .i64 x128.Y0), (.int .i64 x128.X1), (.int .i64 x128.Y1)] 29)] ?_ ?_
      · cases hg139 : (!y130)
        · rw [hg139] at hg132
          rw [if_neg (by decide)] at hg132
          have H := hg132
          refine Tr.val (wg rfl rfl rfl) rfl (fun _ _ h1 h2 => run_fieldAddr fo_29_1 (h1.ev rfl)) ?_
          refine Tr.val (wg rfl rfl rfl) rfl (fun _ _ h1 h2 => run_load1 ag_3 (h1.ev rfl) (rdb h2 (vs := [(.int .i64 x128.X0), (.int .i64 x128.Y0), (.int .i64 x128.X1), (.int .i64 x128.Y1)]) (k := 3) rfl 1) rfl) ?_
          obtain ⟨y133, hy133, H⟩ := bnd H
          refine Tr.call0 (r := (.bool y133)) (wg rfl rfl rfl) rfl Try.call55 (evl_cons rfl evl_nil) (fun W hW => F_etchhouseref1_At_ok x128.Y0 y133 hy133 (HF.start _)) ?_
          refine Tr.val (wg rfl rfl rfl) rfl (fun _ _ h1 h2 => run_not (h1.ev rfl)) ?_
          refine Tr.val (wn rfl) rfl (fun _ _ h1 h2 => run_pickF (h1.ev rfl) (h1.ev rfl)) ?_
          obtain rfl := Option.some.inj H
          exact Tr.nil (Tr.fin0 (.cons rfl (.cons rfl (.cons rfl (.cons rfl .nil)))) (.cons rfl .nil))
        · rw [hg139] at hg132
          rw [if_pos rfl] at hg132
          have H := hg132
          obtain rfl := Option.some.inj H
          refine Tr.pass rfl rfl rfl rfl rfl (by decide) ?_
          refine Tr.pass rfl rfl rfl rfl rfl (by decide) ?_
          refine Tr.pass rfl rfl rfl rfl rfl (by decide) ?_
          refine Tr.pass rfl rfl rfl rfl rfl (by decide) ?_
          refine Tr.val (wn rfl) rfl (fun _ _ h1 h2 => run_pickT (h1.ev rfl) (h1.ev rfl)) ?_
          exact Tr.nil (Tr.fin0 (.cons rfl (.cons rfl (.cons rfl (.cons rfl .nil)))) (.cons rfl .nil))
      · show Tr _ _ (LF [(0, (.slice Ap0_0 (p0).length cp0_0)), (3, (.int .i64 x127)), (4, (.pointer (some ⟨b129, 0, none⟩))), (27, (.bool g132))]) (LE [(3, bx b129 #[(.int .i64 x128.X0), (.int .i64 x128.Y0), (.int .i64 x128.X1), (.int .i64 x128.Y1)] 29)]) _
        refine Tr.val (wn rfl) rfl (fun _ _ h1 h2 => run_move (h1.ev rfl)) ?_
        obtain ⟨g135, hg135, H⟩ := bnd H
        refine Tr.mid0 5 [(0, (.slice Ap0_0 (p0).length cp0_0)), (3, (.int .i64 x127)), (4, (.pointer (some ⟨b129, 0, none⟩))), (33, (.bool g135))] [(3, bx b129 #[(.int .i64 x128.X0), (.int .i64 x128.Y0), (.int .i64 x128.X1), (.int .i64 x128.Y1)] 29)] ?_ ?_
        · cases hg139 : g132
          · rw [hg139] at hg135
            rw [if_neg (by decide)] at hg135
            have H := hg135
            refine Tr.val (wg rfl rfl rfl) rfl (fun _ _ h1 h2 => run_fieldAddr fo_29_2 (h1.ev rfl)) ?_
            refine Tr.val (wg rfl rfl rfl) rfl (fun _ _ h1 h2 => run_load1 ag_3 (h1.ev rfl) (rdb h2 (vs := [(.int .i64 x128.X0), (.int .i64 x128.Y0), (.int .i64 x128.X1), (.int .i64 x128.Y1)]) (k := 3) rfl 2) rfl) ?_
            obtain ⟨y136, hy136, H⟩ := bnd H
            refine Tr.call0 (r := (.bool y136)) (wg rfl rfl rfl) rfl Try.call55 (evl_cons rfl evl_nil) (fun W hW => F_etchhouseref1_At_ok x128.X1 y136 hy136 (HF.start _)) ?_
            refine Tr.val (wg rfl rfl rfl) rfl (fun _ _ h1 h2 => run_not (h1.ev rfl)) ?_
            refine Tr.val (wn rfl) rfl (fun _ _ h1 h2 => run_pickF (h1.ev rfl) (h1.ev rfl)) ?_
            obtain rfl := Option.some.inj H
            exact Tr.nil (Tr.fin0 (.cons rfl (.cons rfl (.cons rfl (.cons rfl .nil)))) (.cons rfl .nil))
          · rw [hg139] at hg135
            rw [if_pos rfl] at hg135
            have H := hg135
            obtain rfl := Option.some.inj H
            refine Tr.pass rfl rfl rfl rfl rfl (by decide) ?_
            refine Tr.pass rfl rfl rfl rfl rfl (by decide) ?_
            refine Tr.pass rfl rfl rfl rfl rfl (by decide) ?_
            refine Tr.pass rfl rfl rfl rfl rfl (by decide) ?_
            refine Tr.val (wn rfl) rfl (fun _ _ h1 h2 => run_pickT (h1.ev rfl) (h1.ev rfl)) ?_
            exact Tr.nil (Tr.fin0 (.cons rfl (.cons rfl (.cons rfl (.cons rfl .nil)))) (.cons rfl .nil))
        · show Tr _ _ (LF [(0, (.slice Ap0_0 (p0).length cp0_0)), (3, (.int .i64 x127)), (4, (.pointer (some ⟨b129, 0, none⟩))), (33, (.bool g135))]) (LE [(3, bx b129 #[(.int .i64 x128.X0), (.int .i64 x128.Y0), (.int .i64 x128.X1), (.int .i64 x128.Y1)] 29)]) _
          refine Tr.val (wn rfl) rfl (fun _ _ h1 h2 => run_move (h1.ev rfl)) ?_
          obtain ⟨g138, hg138, H⟩ := bnd H
          refine Tr.mid0 5 [(0, (.slice Ap0_0 (p0).length cp0_0)), (3, (.int .i64 x127)), (4, (.pointer (some ⟨b129, 0, none⟩))), (39, (.bool g138))] [(3, bx b129 #[(.int .i64 x128.X0), (.int .i64 x128.Y0), (.int .i64 x128.X1), (.int .i64 x128.Y1)] 29)] ?_ ?_
          · cases hg139 : g135
            · rw [hg139] at hg138
              rw [if_neg (by decide)] at hg138
              have H := hg138
              refine Tr.val (wg rfl rfl rfl) rfl (fun _ _ h1 h2 => run_fieldAddr fo_29_3 (h1.ev rfl)) ?_
              refine Tr.val (wg rfl rfl rfl) rfl (fun _ _ h1 h2 => run_load1 ag_3 (h1.ev rfl) (rdb h2 (vs := [(.int .i64 x128.X0), (.int .i64 x128.Y0), (.int .i64 x128.X1), (.int .i64 x128.Y1)]) (k := 3) rfl 3) rfl) ?_
              obtain ⟨y139, hy139, H⟩ := bnd H
              refine Tr.call0 (r := (.bool y139)) (wg rfl rfl rfl) rfl Try.call55 (evl_cons rfl evl_nil) (fun W hW => F_etchhouseref1_At_ok x128.Y1 y139 hy139 (HF.start _)) ?_
              refine Tr.val (wg rfl rfl rfl) rfl (fun _ _ h1 h2 => run_not (h1.ev rfl)) ?_
              refine Tr.val (wn rfl) rfl (fun _ _ h1 h2 => run_pickF (h1.ev rfl) (h1.ev rfl)) ?_
              obtain rfl := Option.some.inj H
              exact Tr.nil (Tr.fin0 (.cons rfl (.cons rfl (.cons rfl (.cons rfl .nil)))) (.cons rfl .nil))
            · rw [hg139] at hg138
              rw [if_pos rfl] at hg138
              have H := hg138
              obtain rfl := Option.some.inj H
              refine Tr.pass rfl rfl rfl rfl rfl (by decide) ?_
              refine Tr.pass rfl rfl rfl rfl rfl (by decide) ?_
              refine Tr.pass rfl rfl rfl rfl rfl (by decide) ?_
              refine Tr.pass rfl rfl rfl rfl rfl (by decide) ?_
              refine Tr.val (wn rfl) rfl (fun _ _ h1 h2 => run_pickT (h1.ev rfl) (h1.ev rfl)) ?_
              exact Tr.nil (Tr.fin0 (.cons rfl (.cons rfl (.cons rfl (.cons rfl .nil)))) (.cons rfl .nil))
          · show Tr _ _ (LF [(0, (.slice Ap0_0 (p0).length cp0_0)), (3, (.int .i64 x127)), (4, (.pointer (some ⟨b129, 0, none⟩))), (39, (.bool g138))]) (LE [(3, bx b129 #[(.int .i64 x128.X0), (.int .i64 x128.Y0), (.int .i64 x128.X1), (.int .i64 x128.Y1)] 29)]) _
            refine Tr.nil (Tr.normThen ?_)
            refine Tr.cond rfl H (fun H => ?_) (fun H => ?_)
            · refine Tr.seq ?_
              refine Tr.region ?_
              refine Tr.val (wn rfl) rfl (fun _ _ h1 h2 => run_assign (h1.ev rfl)) ?_
              refine Tr.nil (Tr.normThen ?_)
              refine Tr.ret (Tr.retThen (Tr.retBlock (Tr.retThen (Tr.retThen (Tr.retBlock (Tr.retThen ?_))))))
              obtain rfl := Option.some.inj H
              exact Tr.out (m := [(.int .i64 1)]) [] (res_tmp rfl res_nil) (fun W hW => ⟨rfl, hW.low leB⟩)
            · refine Tr.skip (Tr.normThen ?_)
              refine Tr.seq ?_
              refine Tr.region ?_
              refine Tr.val (wn rfl) rfl (fun _ _ h1 h2 => run_fieldAddr fo_29_2 (h1.ev rfl)) ?_
              refine Tr.val (wn rfl) rfl (fun _ _ h1 h2 => run_load1 ag_3 (h1.ev rfl) (rdb h2 (vs := [(.int .i64 x128.X0), (.int .i64 x128.Y0), (.int .i64 x128.X1), (.int .i64 x128.Y1)]) (k := 3) rfl 2) rfl) ?_
              refine Tr.val (wn rfl) rfl (fun _ _ h1 h2 => run_fieldAddr fo_29_0 (h1.ev rfl)) ?_
              refine Tr.val (wn rfl) rfl (fun _ _ h1 h2 => run_load1 ag_3 (h1.ev rfl) (rdb h2 (vs := [(.int .i64 x128.X0), (.int .i64 x128.Y0), (.int .i64 x128.X1), (.int .i64 x128.Y1)]) (k := 3) rfl 0) rfl) ?_
              refine Tr.val (wn rfl) rfl (fun _ _ h1 h2 => run_leq (h1.ev rfl) (h1.ev rfl)) ?_
              refine Tr.val (wn rfl) rfl (fun _ _ h1 h2 => run_move (h1.ev rfl)) ?_
              refine Tr.mid0 6 [(0, (.slice Ap0_0 (p0).length cp0_0)), (3, (.int .i64 x127)), (51, (.bool ((decide (x128.X1 ≤ x128.X0)) || (decide (x128.Y1 ≤ x128.Y0)))))] [(3, bx b129 #[(.int .i64 x128.X0), (.int .i64 x128.Y0), (.int .i64 x128.X1), (.int .i64 x128.Y1)] 29)] ?_ ?_
              · cases hg139 : (decide (x128.X1 ≤ x128.X0))
                · refine Tr.val (wg rfl rfl rfl) rfl (fun _ _ h1 h2 => run_fieldAddr fo_29_3 (h1.ev rfl)) ?_
                  refine Tr.val (wg rfl rfl rfl) rfl (fun _ _ h1 h2 => run_load1 ag_3 (h1.ev rfl) (rdb h2 (vs := [(.int .i64 x128.X0), (.int .i64 x128.Y0), (.int .i64 x128.X1), (.int .i64 x128.Y1)]) (k := 3) rfl 3) rfl) ?_
                  refine Tr.val (wg rfl rfl rfl) rfl (fun _ _ h1 h2 => run_fieldAddr fo_29_1 (h1.ev rfl)) ?_
                  refine Tr.val (wg rfl rfl rfl) rfl (fun _ _ h1 h2 => run_load1 ag_3 (h1.ev rfl) (rdb h2 (vs := [(.int .i64 x128.X0), (.int .i64 x128.Y0), (.int .i64 x128.X1), (.int .i64 x128.Y1)]) (k := 3) rfl 1) rfl) ?_
                  refine Tr.val (wg rfl rfl rfl) rfl (fun _ _ h1 h2 => run_leq (h1.ev rfl) (h1.ev rfl)) ?_
                  refine Tr.val (wn rfl) rfl (fun _ _ h1 h2 => run_pickF (h1.ev rfl) (h1.ev rfl)) ?_
                  exact Tr.nil (Tr.fin0 (.cons rfl (.cons rfl (.cons rfl .nil))) (.cons rfl .nil))
                · refine Tr.pass rfl rfl rfl rfl rfl (by decide) ?_
                  refine Tr.pass rfl rfl rfl rfl rfl (by decide) ?_
                  refine Tr.pass rfl rfl rfl rfl rfl (by decide) ?_
                  refine Tr.pass rfl rfl rfl rfl rfl (by decide) ?_
                  refine Tr.pass rfl rfl rfl rfl rfl (by decide) ?_
                  refine Tr.val (wn rfl) rfl (fun _ _ h1 h2 => run_pickT (h1.ev rfl) (h1.ev rfl)) ?_
                  exact Tr.nil (Tr.fin0 (.cons rfl (.cons rfl (.cons rfl .nil))) (.cons rfl .nil))
              · show Tr _ _ (LF [(0, (.slice Ap0_0 (p0).length cp0_0)), (3, (.int .i64 x127)), (51, (.bool ((decide (x128.X1 ≤ x128.X0)) || (decide (x128.Y1 ≤ x128.Y0)))))]) (LE [(3, bx b129 #[(.int .i64 x128.X0), (.int .i64 x128.Y0), (.int .i64 x128.X1), (.int .i64 x128.Y1)] 29)]) _
                refine Tr.nil (Tr.normThen ?_)
                refine Tr.cond rfl H (fun H => ?_) (fun H => ?_)
                · refine Tr.seq ?_
                  refine Tr.region ?_
                  refine Tr.val (wn rfl) rfl (fun _ _ h1 h2 => run_assign (h1.ev rfl)) ?_
                  refine Tr.nil (Tr.normThen ?_)
                  refine Tr.ret (Tr.retBlock (Tr.retThen (Tr.retThen (Tr.retBlock (Tr.retThen ?_)))))
                  obtain rfl := Option.some.inj H
                  exact Tr.out (m := [(.int .i64 13)]) [] (res_tmp rfl res_nil) (fun W hW => ⟨rfl, hW.low leB⟩)
                · refine Tr.skip (Tr.normBlock (Tr.normThen ?_))
                  refine Tr.region ?_
                  refine Tr.val (wn rfl) rfl (fun _ _ h1 h2 => run_move (h1.ev rfl)) ?_
                  refine Tr.val (wn rfl) rfl (fun _ _ h1 h2 => run_add (h1.ev rfl) (h1.ev rfl)) ?_
                  refine Tr.val (wn rfl) rfl (fun _ _ h1 h2 => run_assign (h1.ev rfl)) ?_
                  refine Tr.nil ?_
                  exact Tr.backThen leF_etchhouseref1_CheckRects_L1 (w64 (x127 + 1)) H (.cons rfl (.cons rfl .nil)) .nil
    · refine Tr.exit (Tr.exitThen (Tr.exitThen (Tr.exitBlock (Tr.normThen ?_))))
      refine Tr.seq ?_
      refine Tr.region ?_
      refine Tr.val (wn rfl) rfl (fun _ _ h1 h2 => run_assign (h1.ev rfl)) ?_
      refine Tr.nil (Tr.normThen ?_)
      refine Tr.ret ?_
      obtain rfl := Option.some.inj H
      exact Tr.out (m := [(.int .i64 0)]) [] (res_tmp rfl res_nil) (fun W hW => ⟨rfl, hW.low leB⟩)

theorem F_etchhouseref1_before_ok {w : Bs} (p0 : TRect) (p1 : TRect) (r : Bool) (H : F_etchhouseref1_before p0 p1 = some r) (hE : HF w w.W E0) : Calls Try.prog 57 [(.agg #[(.int .i64 p0.X0), (.int .i64 p0.Y0), (.int .i64 p0.X1), (.int .i64 p0.Y1)]), (.agg #[(.int .i64 p1.X0), (.int .i64 p1.Y0), (.int .i64 p1.X1), (.int .i64 p1.Y1)])].toArray w.W fun e W' => e = .returned (.bool r) ∧ HF w W' E0 := by
  unfold F_etchhouseref1_before at H
  have leB := Bs.Le.refl w
  refine Tr.enter (n := 24) Try.func57 rfl rfl rfl hE ?_
  refine Tr.seq ?_
  refine Tr.region ?_
  refine Tr.box 1 (cs := [(.int .i64 p0.X0), (.int .i64 p0.Y0), (.int .i64 p0.X1), (.int .i64 p0.Y1)]) (wn rfl) rfl rfl rfl fun b100 => ?_
  refine Tr.box 2 (cs := [(.int .i64 p1.X0), (.int .i64 p1.Y0), (.int .i64 p1.X1), (.int .i64 p1.Y1)]) (wn rfl) rfl rfl rfl fun b101 => ?_
  refine Tr.val (wn rfl) rfl (fun _ _ h1 h2 => run_assign (h1.ev rfl)) ?_
  refine Tr.nil (Tr.normThen ?_)
  refine Tr.seq ?_
  refine Tr.region ?_
  refine Tr.val (wn rfl) rfl (fun _ _ h1 h2 => run_fieldAddr fo_29_1 (h1.ev rfl)) ?_
  refine Tr.val (wn rfl) rfl (fun _ _ h1 h2 => run_load1 ag_3 (h1.ev rfl) (rdb h2 (vs := [(.int .i64 p0.X0), (.int .i64 p0.Y0), (.int .i64 p0.X1), (.int .i64 p0.Y1)]) (k := 1) rfl 1) rfl) ?_
  refine Tr.val (wn rfl) rfl (fun _ _ h1 h2 => run_fieldAddr fo_29_1 (h1.ev rfl)) ?_
  refine Tr.val (wn rfl) rfl (fun _ _ h1 h2 => run_load1 ag_3 (h1.ev rfl) (rdb h2 (vs := [(.int .i64 p1.X0), (.int .i64 p1.Y0), (.int .i64 p1.X1), (.int .i64 p1.Y1)]) (k := 2) rfl 1) rfl) ?_
  refine Tr.val (wn rfl) rfl (fun _ _ h1 h2 => run_lss (h1.ev rfl) (h1.ev rfl)) ?_
  refine Tr.val (wn rfl) rfl (fun _ _ h1 h2 => run_move (h1.ev rfl)) ?_
  refine Tr.mid0 13 [(23, (.bool ((decide (p0.Y0 < p1.Y0)) || ((p0.Y0 == p1.Y0) && (decide (p0.X0 < p1.X0))))))] [(1, bx b100 #[(.int .i64 p0.X0), (.int .i64 p0.Y0), (.int .i64 p0.X1), (.int .i64 p0.Y1)] 29), (2, bx b101 #[(.int .i64 p1.X0), (.int .i64 p1.Y0), (.int .i64 p1.X1), (.int .i64 p1.Y1)] 29)] ?_ ?_
  · cases hg101 : (decide (p0.Y0 < p1.Y0))
    · refine Tr.val (wg rfl rfl rfl) rfl (fun _ _ h1 h2 => run_fieldAddr fo_29_1 (h1.ev rfl)) ?_
      refine Tr.val (wg rfl rfl rfl) rfl (fun _ _ h1 h2 => run_load1 ag_3 (h1.ev rfl) (rdb h2 (vs := [(.int .i64 p0.X0), (.int .i64 p0.Y0), (.int .i64 p0.X1), (.int .i64 p0.Y1)]) (k := 1) rfl 1) rfl) ?_
      refine Tr.val (wg rfl rfl rfl) rfl (fun _ _ h1 h2 => run_fieldAddr fo_29_1 (h1.ev rfl)) ?_
      refine Tr.val (wg rfl rfl rfl) rfl (fun _ _ h1 h2 => run_load1 ag_3 (h1.ev rfl) (rdb h2 (vs := [(.int .i64 p1.X0), (.int .i64 p1.Y0), (.int .i64 p1.X1), (.int .i64 p1.Y1)]) (k := 2) rfl 1) rfl) ?_
      refine Tr.val (wg rfl rfl rfl) rfl (fun _ _ h1 h2 => run_eql (h1.ev rfl) (h1.ev rfl)) ?_
      refine Tr.val (wg rfl rfl rfl) rfl (fun _ _ h1 h2 => run_move (h1.ev rfl)) ?_
      refine Tr.mid0 6 [(10, (.bool false)), (22, (.bool ((p0.Y0 == p1.Y0) && (decide (p0.X0 < p1.X0)))))] [(1, bx b100 #[(.int .i64 p0.X0), (.int .i64 p0.Y0), (.int .i64 p0.X1), (.int .i64 p0.Y1)] 29), (2, bx b101 #[(.int .i64 p1.X0), (.int .i64 p1.Y0), (.int .i64 p1.X1), (.int .i64 p1.Y1)] 29)] ?_ ?_
      · cases hg101 : (p0.Y0 == p1.Y0)
        · refine Tr.pass rfl rfl rfl rfl rfl (by decide) ?_
          refine Tr.pass rfl rfl rfl rfl rfl (by decide) ?_
          refine Tr.pass rfl rfl rfl rfl rfl (by decide) ?_
          refine Tr.pass rfl rfl rfl rfl rfl (by decide) ?_
          refine Tr.pass rfl rfl rfl rfl rfl (by decide) ?_
          refine Tr.val (wg rfl rfl rfl) rfl (fun _ _ h1 h2 => run_pickF (h1.ev rfl) (h1.ev rfl)) ?_
          exact Tr.nil (Tr.fin0 (.cons rfl (.cons rfl .nil)) (.cons rfl (.cons rfl .nil)))
        · refine Tr.val (wg rfl rfl rfl) rfl (fun _ _ h1 h2 => run_fieldAddr fo_29_0 (h1.ev rfl)) ?_
          refine Tr.val (wg rfl rfl rfl) rfl (fun _ _ h1 h2 => run_load1 ag_3 (h1.ev rfl) (rdb h2 (vs := [(.int .i64 p0.X0), (.int .i64 p0.Y0), (.int .i64 p0.X1), (.int .i64 p0.Y1)]) (k := 1) rfl 0) rfl) ?_
          refine Tr.val (wg rfl rfl rfl) rfl (fun _ _ h1 h2 => run_fieldAddr fo_29_0 (h1.ev rfl)) ?_
          refine Tr.val (wg rfl rfl rfl) rfl (fun _ _ h1 h2 => run_load1 ag_3 (h1.ev rfl) (rdb h2 (vs := [(.int .i64 p1.X0), (.int .i64 p1.Y0), (.int .i64 p1.X1), (.int .i64 p1.Y1)]) (k := 2) rfl 0) rfl) ?_
          refine Tr.val (wg rfl rfl rfl) rfl (fun _ _ h1 h2 => run_lss (h1.ev rfl) (h1.ev rfl)) ?_
          refine Tr.val (wg rfl rfl rfl) rfl (fun _ _ h1 h2 => run_pickT (h1.ev rfl) (h1.ev rfl)) ?_
          exact Tr.nil (Tr.fin0 (.cons rfl (.cons rfl .nil)) (.cons rfl (.cons rfl .nil)))
      · show Tr _ _ (LF [(10, (.bool false)), (22, (.bool ((p0.Y0 == p1.Y0) && (decide (p0.X0 < p1.X0)))))]) (LE [(1, bx b100 #[(.int .i64 p0.X0), (.int .i64 p0.Y0), (.int .i64 p0.X1), (.int .i64 p0.Y1)] 29), (2, bx b101 #[(.int .i64 p1.X0), (.int .i64 p1.Y0), (.int .i64 p1.X1), (.int .i64 p1.Y1)] 29)]) _
        refine Tr.val (wn rfl) rfl (fun _ _ h1 h2 => run_pickF (h1.ev rfl) (h1.ev rfl)) ?_
        exact Tr.nil (Tr.fin0 (.cons rfl .nil) (.cons rfl (.cons rfl .nil)))
    · refine Tr.pass rfl rfl rfl rfl rfl (by decide) ?_
      refine Tr.pass rfl rfl rfl rfl rfl (by decide) ?_
      refine Tr.pass rfl rfl rfl rfl rfl (by decide) ?_
      refine Tr.pass rfl rfl rfl rfl rfl (by decide) ?_
      refine Tr.pass rfl rfl rfl rfl rfl (by decide) ?_
      refine Tr.pass rfl rfl rfl rfl rfl (by decide) ?_
      refine Tr.passU rfl rfl rfl rfl (by decide) ?_
      refine Tr.passU rfl rfl rfl rfl (by decide) ?_
      refine Tr.passU rfl rfl rfl rfl (by decide) ?_
      refine Tr.passU rfl rfl rfl rfl (by decide) ?_
      refine Tr.passU rfl rfl rfl rfl (by decide) ?_
      refine Tr.pass rfl rfl rfl rfl rfl (by decide) ?_
      refine Tr.val (wn rfl) rfl (fun _ _ h1 h2 => run_pickT (h1.ev rfl) (h1.ev rfl)) ?_
      exact Tr.nil (Tr.fin0 (.cons rfl .nil) (.cons rfl (.cons rfl .nil)))
  · show Tr _ _ (LF [(23, (.bool ((decide (p0.Y0 < p1.Y0)) || ((p0.Y0 == p1.Y0) && (decide (p0.X0 < p1.X0))))))]) (LE [(1, bx b100 #[(.int .i64 p0.X0), (.int .i64 p0.Y0), (.int .i64 p0.X1), (.int .i64 p0.Y1)] 29), (2, bx b101 #[(.int .i64 p1.X0), (.int .i64 p1.Y0), (.int .i64 p1.X1), (.int .i64 p1.Y1)] 29)]) _
    refine Tr.val (wn rfl) rfl (fun _ _ h1 h2 => run_assign (h1.ev rfl)) ?_
    refine Tr.nil (Tr.normThen ?_)
    refine Tr.ret ?_
    obtain rfl := Option.some.inj H
    exact Tr.out (m := [(.bool ((decide (p0.Y0 < p1.Y0)) || ((p0.Y0 == p1.Y0) && (decide (p0.X0 < p1.X0)))))]) [] (res_tmp rfl res_nil) (fun W hW => ⟨rfl, hW.low leB⟩)

theorem F_etchhouseref1_put_ok (N : Nat) {w : Bs} (p0 : (List Int)) (Ap0_0 : Option Addr) (cp0_0 : Nat) (hp0_0 : Sl w.O w.W fl_i64 Ap0_0 cp0_0 p0) (p1 : Int) (r : (List Int)) (H : F_etchhouseref1_put N p0 p1 = some r) (hE : HF w w.W (LEn [])) : Calls Try.prog 118 [(.slice Ap0_0 (p0).length cp0_0), (.int .i64 p1)].toArray w.W fun e W' => ∃ (w' : Bs) (u : (Option Addr × Nat)), w.Le w' ∧ e = .returned (.slice u.1 (r).length u.2) ∧ (Sl w'.O w'.W fl_i64 u.1 u.2 r) ∧ HF w' W' (LEn []) := by
  unfold F_etchhouseref1_put at H
  have leB := Bs.Le.refl w
  refine Tr.enter (n := 54) Try.func118 rfl rfl rfl hE ?_
  refine Tr.seq ?_
  refine Tr.region ?_
  refine Tr.val (wn rfl) rfl (fun _ _ h1 h2 => run_assign (h1.ev rfl)) ?_
  refine Tr.nilOwn 1 3 fl_i64 ?_
  show Tr _ _ (uf _ 4 (.slice none (([] : List Int)).length 0)) _ _
  refine Tr.nil (Tr.normThen ?_)
  refine Tr.seq ?_
  refine Tr.region ?_
  refine Tr.val (wn rfl) rfl (fun _ _ h1 h2 => run_move (h1.ev rfl)) ?_
  refine Tr.val (wn rfl) rfl (fun _ _ h1 h2 => run_len un_89 (h1.ev rfl)) ?_
  refine Tr.val (wn rfl) rfl (fun _ _ h1 h2 => run_assign (h1.ev rfl)) ?_
  refine Tr.val (wn rfl) rfl (fun _ _ h1 h2 => run_assign (h1.ev rfl)) ?_
  refine Tr.nil (Tr.normThen ?_)
  refine Tr.seq ?_
  refine Tr.block ?_
  refine Tr.loop (σ := Int × Int) (fun m w s => F_etchhouseref1_put_L1 p0 p1 m s.1 s.2 = some r) (fun s => [(0, (.slice Ap0_0 (p0).length cp0_0)), (1, (.int .i64 p1)), (5, (.int .i64 s.1)), (6, (.int .i64 s.2))]) (fun s => []) N (0, (p0.length : Int)) H (.cons rfl (.cons rfl (.cons rfl (.cons rfl .nil)))) .nil (fun _ _ h => noSome (h)) ?_
  intro w leF_etchhouseref1_put_L1 mF_etchhouseref1_put_L1 s hs
  obtain ⟨x108, x109⟩ := s
  have H := hs
  replace H : F_etchhouseref1_put_L1 p0 p1 (mF_etchhouseref1_put_L1 + 1) x108 x109 = some r := H
  replace hp0_0 := hp0_0.le leF_etchhouseref1_put_L1
  replace leB := leB.trans leF_etchhouseref1_put_L1
  rw [F_etchhouseref1_put_L1.eq_2] at H
  show Tr _ _ (LF [(0, (.slice Ap0_0 (p0).length cp0_0)), (1, (.int .i64 p1)), (5, (.int .i64 x108)), (6, (.int .i64 x109))]) (LE []) _
  refine Tr.seq ?_
  refine Tr.seq ?_
  refine Tr.region ?_
  refine Tr.val (wn rfl) rfl (fun _ _ h1 h2 => run_move (h1.ev rfl)) ?_
  refine Tr.val (wn rfl) rfl (fun _ _ h1 h2 => run_move (h1.ev rfl)) ?_
  refine Tr.val (wn rfl) rfl (fun _ _ h1 h2 => run_lss (h1.ev rfl) (h1.ev rfl)) ?_
  refine Tr.nil (Tr.normThen ?_)
  refine Tr.cond rfl H (fun H => ?_) (fun H => ?_)
  · refine Tr.skip (Tr.normThen ?_)
    refine Tr.block ?_
    refine Tr.seq ?_
    refine Tr.region ?_
    refine Tr.val (wn rfl) rfl (fun _ _ h1 h2 => run_move (h1.ev rfl)) ?_
    refine Tr.val (wn rfl) rfl (fun _ _ h1 h2 => run_move (h1.ev rfl)) ?_
    refine Tr.val (wn rfl) rfl (fun _ _ h1 h2 => run_add (h1.ev rfl) (h1.ev rfl)) ?_
    refine Tr.val (wn rfl) rfl (fun _ _ h1 h2 => run_quo (h1.ev rfl) (h1.ev rfl) (by decide)) ?_
    refine Tr.val (wn rfl) rfl (fun _ _ h1 h2 => run_assign (h1.ev rfl)) ?_
    refine Tr.nil (Tr.normThen ?_)
    refine Tr.seq ?_
    refine Tr.region ?_
    refine Tr.val (wn rfl) rfl (fun _ _ h1 h2 => run_move (h1.ev rfl)) ?_
    refine Tr.val (wn rfl) rfl (fun _ _ h1 h2 => run_move (h1.ev rfl)) ?_
    obtain ⟨x110, hx110, H⟩ := bnd H
    obtain ⟨hx1100, hx1101, hx1102⟩ := idx_some hx110
    refine Tr.val (wn rfl) rfl (fun _ _ h1 h2 => run_indexAddr el_89 (h1.ev rfl) hp0_0.form (h1.ev rfl) hx1100 hx1101) ?_
    refine Tr.val (wn rfl) rfl (fun _ _ h1 h2 => run_load1 ag_3 (h1.ev rfl) (rdF ef_i64 (hp0_0.rl) hx1102 h2) rfl) ?_
    refine Tr.val (wn rfl) rfl (fun _ _ h1 h2 => run_move (h1.ev rfl)) ?_
    refine Tr.val (wn rfl) rfl (fun _ _ h1 h2 => run_lss (h1.ev rfl) (h1.ev rfl)) ?_
    refine Tr.nil (Tr.normThen ?_)
    refine Tr.cond rfl H (fun H => ?_) (fun H => ?_)
    · refine Tr.region ?_
      refine Tr.val (wn rfl) rfl (fun _ _ h1 h2 => run_move (h1.ev rfl)) ?_
      refine Tr.val (wn rfl) rfl (fun _ _ h1 h2 => run_add (h1.ev rfl) (h1.ev rfl)) ?_
      refine Tr.val (wn rfl) rfl (fun _ _ h1 h2 => run_assign (h1.ev rfl)) ?_
      refine Tr.nil (Tr.normBlock ?_)
      exact Tr.backThen leF_etchhouseref1_put_L1 ((w64 ((w64 (Int.tdiv (w64 (x108 + x109)) 2)) + 1)), x109) H (.cons rfl (.cons rfl (.cons rfl (.cons rfl .nil)))) .nil
    · refine Tr.region ?_
      refine Tr.val (wn rfl) rfl (fun _ _ h1 h2 => run_move (h1.ev rfl)) ?_
      refine Tr.val (wn rfl) rfl (fun _ _ h1 h2 => run_assign (h1.ev rfl)) ?_
      refine Tr.nil (Tr.normBlock ?_)
      exact Tr.backThen leF_etchhouseref1_put_L1 (x108, (w64 (Int.tdiv (w64 (x108 + x109)) 2))) H (.cons rfl (.cons rfl (.cons rfl (.cons rfl .nil)))) .nil
  · refine Tr.exit (Tr.exitThen (Tr.exitThen (Tr.exitBlock (Tr.normThen ?_))))
    refine Tr.seq ?_
    refine Tr.seq ?_
    refine Tr.region ?_
    refine Tr.val (wn rfl) rfl (fun _ _ h1 h2 => run_move (h1.ev rfl)) ?_
    refine Tr.val (wn rfl) rfl (fun _ _ h1 h2 => run_move (h1.ev rfl)) ?_
    refine Tr.val (wn rfl) rfl (fun _ _ h1 h2 => run_len un_89 (h1.ev rfl)) ?_
    refine Tr.val (wn rfl) rfl (fun _ _ h1 h2 => run_lss (h1.ev rfl) (h1.ev rfl)) ?_
    refine Tr.val (wn rfl) rfl (fun _ _ h1 h2 => run_move (h1.ev rfl)) ?_
    obtain ⟨g112, hg112, H⟩ := bnd H
    refine Tr.mid0 7 [(0, (.slice Ap0_0 (p0).length cp0_0)), (1, (.int .i64 p1)), (5, (.int .i64 x108)), (38, (.bool g112))] [] ?_ ?_
    · cases hg121 : (decide (x108 < (p0.length : Int)))
      · rw [hg121] at hg112
        rw [if_neg (by decide)] at hg112
        have H := hg112
        obtain rfl := Option.some.inj H
        refine Tr.pass rfl rfl rfl rfl rfl (by decide) ?_
        refine Tr.pass rfl rfl rfl rfl rfl (by decide) ?_
        refine Tr.pass rfl rfl rfl rfl rfl (by decide) ?_
        refine Tr.pass rfl rfl rfl rfl rfl (by decide) ?_
        refine Tr.pass rfl rfl rfl rfl rfl (by decide) ?_
        refine Tr.pass rfl rfl rfl rfl rfl (by decide) ?_
        refine Tr.val (wn rfl) rfl (fun _ _ h1 h2 => run_pickF (h1.ev rfl) (h1.ev rfl)) ?_
        exact Tr.nil (Tr.fin0 (.cons rfl (.cons rfl (.cons rfl (.cons rfl .nil)))) .nil)
      · rw [hg121] at hg112
        rw [if_pos rfl] at hg112
        have H := hg112
        refine Tr.val (wg rfl rfl rfl) rfl (fun _ _ h1 h2 => run_move (h1.ev rfl)) ?_
        refine Tr.val (wg rfl rfl rfl) rfl (fun _ _ h1 h2 => run_move (h1.ev rfl)) ?_
        obtain ⟨x113, hx113, H⟩ := bnd H
        obtain ⟨hx1130, hx1131, hx1132⟩ := idx_some hx113
        refine Tr.val (wg rfl rfl rfl) rfl (fun _ _ h1 h2 => run_indexAddr el_89 (h1.ev rfl) hp0_0.form (h1.ev rfl) hx1130 hx1131) ?_
        refine Tr.val (wg rfl rfl rfl) rfl (fun _ _ h1 h2 => run_load1 ag_3 (h1.ev rfl) (rdF ef_i64 (hp0_0.rl) hx1132 h2) rfl) ?_
        refine Tr.val (wg rfl rfl rfl) rfl (fun _ _ h1 h2 => run_move (h1.ev rfl)) ?_
        refine Tr.val (wg rfl rfl rfl) rfl (fun _ _ h1 h2 => run_eql (h1.ev rfl) (h1.ev rfl)) ?_
        refine Tr.val (wn rfl) rfl (fun _ _ h1 h2 => run_pickT (h1.ev rfl) (h1.ev rfl)) ?_
        obtain rfl := Option.some.inj H
        exact Tr.nil (Tr.fin0 (.cons rfl (.cons rfl (.cons rfl (.cons rfl .nil)))) .nil)
    · show Tr _ _ (LF [(0, (.slice Ap0_0 (p0).length cp0_0)), (1, (.int .i64 p1)), (5, (.int .i64 x108)), (38, (.bool g112))]) (LE []) _
      refine Tr.nil (Tr.normThen ?_)
      refine Tr.cond rfl H (fun H => ?_) (fun H => ?_)
      · refine Tr.seq ?_
        refine Tr.region ?_
        refine Tr.val (wn rfl) rfl (fun _ _ h1 h2 => run_move (h1.ev rfl)) ?_
        refine Tr.val (wn rfl) rfl (fun _ _ h1 h2 => run_assign (h1.ev rfl)) ?_
        refine Tr.nil (Tr.normThen ?_)
        refine Tr.ret (Tr.retThen ?_)
        obtain rfl := Option.some.inj H
        exact Tr.out (m := [(.slice Ap0_0 (p0).length cp0_0)]) [] (res_tmp rfl res_nil) (fun W hW => ⟨w, (Ap0_0, cp0_0), leB, rfl, hp0_0, hW.pick (ks := []) (by decide) pk_nil⟩)
      · refine Tr.skip (Tr.normThen ?_)
        refine Tr.seq ?_
        refine Tr.region ?_
        refine Tr.val (wn rfl) rfl (fun _ _ h1 h2 => run_assign (h1.ev rfl)) ?_
        refine Tr.nilOwn 2 3 fl_i64 ?_
        show Tr _ _ (uf _ 8 (.slice none (([] : List Int)).length 0)) _ _
        refine Tr.nil (Tr.normThen ?_)
        refine Tr.seq ?_
        refine Tr.region ?_
        refine Tr.val (wn rfl) rfl (fun _ _ h1 h2 => run_move (h1.ev rfl)) ?_
        refine Tr.val (wn rfl) rfl (fun _ _ h1 h2 => run_move (h1.ev rfl)) ?_
        refine Tr.val (wn rfl) rfl (fun _ _ h1 h2 => run_move (h1.ev rfl)) ?_
        obtain ⟨l114, hl114, H⟩ := bnd H
        refine Tr.val (wn rfl) rfl (fun _ _ h1 h2 => run_pre el_89 (h1.ev rfl) hp0_0.form (h1.ev rfl) hl114) ?_
        obtain ⟨l115, hl115, H⟩ := bnd H
        refine Tr.appendS 2 (t := fl_i64) (l := ([] : List Int)) (l2 := l114) (wn rfl) rfl rfl rfl rfl (apT tr_i64 (fun W hW => (Sl.pre (Sl.inB (hp0_0.rl) hW) hl114))) un_89 sz_3 zl_3 (by decide) by_3 rfl hl115 fun Al115 cl115 hAl115 => ?_
        refine Tr.val (wn rfl) rfl (fun _ _ h1 h2 => run_assign (h1.ev rfl)) ?_
        refine Tr.nil (Tr.normThen ?_)
        refine Tr.seq ?_
        refine Tr.region ?_
        refine Tr.val (wn rfl) rfl (fun _ _ h1 h2 => run_move (h1.ev rfl)) ?_
        refine Tr.val (wn rfl) rfl (fun _ _ h1 h2 => run_move (h1.ev rfl)) ?_
        refine Tr.buildSlice 3 (e := 3) (vs := [(0, (.int .i64 p1))]) (cs := [(.int .i64 p1)]) (wn rfl) rfl (evs_cons rfl evs_nil) (by kernel_rfl) fun b116 => ?_
        obtain ⟨l117, hl117, H⟩ := bnd H
        refine Tr.append 2 (t := fl_i64) (l := l115) (l2 := [p1]) (wn rfl) rfl rfl rfl rfl (fun W hW => ⟨[[(.int .i64 p1)]], (.cons ⟨(), trivial, rfl⟩ .nil), rdb hW (vs := [(.int .i64 p1)]) (k := 3) rfl 0⟩) un_89 sz_3 zl_3 (by decide) by_3 rfl hl117 fun Al117 cl117 hAl117 => ?_
        refine Tr.val (wn rfl) rfl (fun _ _ h1 h2 => run_assign (h1.ev rfl)) ?_
        refine Tr.nil (Tr.normThen ?_)
        refine Tr.seq ?_
        refine Tr.region ?_
        refine Tr.val (wn rfl) rfl (fun _ _ h1 h2 => run_move (h1.ev rfl)) ?_
        refine Tr.val (wn rfl) rfl (fun _ _ h1 h2 => run_move (h1.ev rfl)) ?_
        refine Tr.val (wn rfl) rfl (fun _ _ h1 h2 => run_move (h1.ev rfl)) ?_
        obtain ⟨l118, hl118, H⟩ := bnd H
        refine Tr.val (wn rfl) rfl (fun _ _ h1 h2 => run_cutL el_89 (h1.ev rfl) hp0_0.form (h1.ev rfl) hl118) ?_
        obtain ⟨l119, hl119, H⟩ := bnd H
        refine Tr.appendS 2 (t := fl_i64) (l := l117) (l2 := l118) (wn rfl) rfl rfl rfl rfl (apT tr_i64 (fun W hW => (Sl.cut (Sl.inB (hp0_0.rl) hW) hl118))) un_89 sz_3 zl_3 (by decide) by_3 rfl hl119 fun Al119 cl119 hAl119 => ?_
        refine Tr.val (wn rfl) rfl (fun _ _ h1 h2 => run_assign (h1.ev rfl)) ?_
        refine Tr.nil (Tr.normThen ?_)
        refine Tr.ret ?_
        obtain rfl := Option.some.inj H
        refine Tr.freeze 2 rfl fun w le121 hz120 => ?_
        replace hp0_0 := hp0_0.le le121
        replace leB := leB.trans le121
        replace leF_etchhouseref1_put_L1 := leF_etchhouseref1_put_L1.trans le121
        exact Tr.out (m := [(.slice Al119 (l119).length cl119)]) [] (res_tmp rfl res_nil) (fun W hW => ⟨w, (Al119, cl119), leB, rfl, hz120, hW.pick (ks := []) (by decide) pk_nil⟩)

theorem F_etchhouseref1_heights_ok (N : Nat) {w : Bs} (p0 : (List TRect)) (Ap0_0 : Option Addr) (cp0_0 : Nat) (hp0_0 : Sl w.R w.W fl_TRect Ap0_0 cp0_0 p0) (r : (List Int)) (H : F_etchhouseref1_heights N p0 = some r) (hE : HF w w.W (LEn [])) : Calls Try.prog 93 [(.slice Ap0_0 (p0).length cp0_0)].toArray w.W fun e W' => ∃ (w' : Bs) (u : (Option Addr × Nat)), w.Le w' ∧ e = .returned (.slice u.1 (r).length u.2) ∧ (Sl w'.O w'.W fl_i64 u.1 u.2 r) ∧ HF w' W' (LEn []) := by
  unfold F_etchhouseref1_heights at H
  have leB := Bs.Le.refl w
  refine Tr.enter (n := 25) Try.func93 rfl rfl rfl hE ?_
  refine Tr.seq ?_
  refine Tr.region ?_
  refine Tr.val (wn rfl) rfl (fun _ _ h1 h2 => run_assign (h1.ev rfl)) ?_
  refine Tr.nilOwn 1 3 fl_i64 ?_
  show Tr _ _ (uf _ 2 (.slice none (([] : List Int)).length 0)) _ _
  refine Tr.nil (Tr.normThen ?_)
  refine Tr.seq ?_
  refine Tr.region ?_
  refine Tr.val (wn rfl) rfl (fun _ _ h1 h2 => run_assign (h1.ev rfl)) ?_
  refine Tr.nilOwn 2 3 fl_i64 ?_
  show Tr _ _ (uf _ 3 (.slice none (([] : List Int)).length 0)) _ _
  refine Tr.nil (Tr.normThen ?_)
  refine Tr.seq ?_
  refine Tr.seq ?_
  refine Tr.region ?_
  refine Tr.val (wn rfl) rfl (fun _ _ h1 h2 => run_assign (h1.ev rfl)) ?_
  refine Tr.nil (Tr.normThen ?_)
  refine Tr.block ?_
  refine Tr.freeze 2 rfl fun w le125 hz124 => ?_
  replace hp0_0 := hp0_0.leR le125
  replace leB := leB.trans le125
  refine Tr.loop (σ := (List Int) × Int × (Option Addr) × Nat) (fun m w s => F_etchhouseref1_heights_L1 N p0 m s.1 s.2.1 = some r ∧ Sl w.O w.W fl_i64 s.2.2.1 s.2.2.2 s.1) (fun s => [(0, (.slice Ap0_0 (p0).length cp0_0)), (3, (.slice s.2.2.1 (s.1).length s.2.2.2)), (4, (.int .i64 s.2.1))]) (fun s => []) N (([] : List Int), 0, none, 0) ⟨H, hz124⟩ (.cons rfl (.cons rfl (.cons rfl .nil))) .nil (fun _ _ h => noSome (h.1)) ?_
  intro w leF_etchhouseref1_heights_L1 mF_etchhouseref1_heights_L1 s hs
  obtain ⟨l122, x123, Al122, cl122⟩ := s
  obtain ⟨H, hl122⟩ := hs
  replace H : F_etchhouseref1_heights_L1 N p0 (mF_etchhouseref1_heights_L1 + 1) l122 x123 = some r := H
  replace hp0_0 := hp0_0.leR leF_etchhouseref1_heights_L1
  replace leB := leB.trans leF_etchhouseref1_heights_L1
  replace hl122 : Sl w.O w.W fl_i64 Al122 cl122 l122 := hl122
  rw [F_etchhouseref1_heights_L1.eq_2] at H
  show Tr _ _ (LF [(0, (.slice Ap0_0 (p0).length cp0_0)), (3, (.slice Al122 (l122).length cl122)), (4, (.int .i64 x123))]) (LE []) _
  refine Tr.seq ?_
  refine Tr.seq ?_
  refine Tr.region ?_
  refine Tr.val (wn rfl) rfl (fun _ _ h1 h2 => run_move (h1.ev rfl)) ?_
  refine Tr.val (wn rfl) rfl (fun _ _ h1 h2 => run_move (h1.ev rfl)) ?_
  refine Tr.val (wn rfl) rfl (fun _ _ h1 h2 => run_len un_22 (h1.ev rfl)) ?_
  refine Tr.val (wn rfl) rfl (fun _ _ h1 h2 => run_lss (h1.ev rfl) (h1.ev rfl)) ?_
  refine Tr.nil (Tr.normThen ?_)
  refine Tr.cond rfl H (fun H => ?_) (fun H => ?_)
  · refine Tr.skip (Tr.normThen ?_)
    refine Tr.seq ?_
    refine Tr.block ?_
    refine Tr.drawC 12 [] [] (by kernel_rfl) (by kernel_rfl) fun sz126 hlosz126 hEsz126 => ?_
    refine Dr.quiet 0 [(11, (.slice Al122 (l122).length cl122))] (by kernel_rfl) rfl rfl (by kernel_rfl) ?_ rfl rfl ?_
    · refine Tq.val (wn rfl) rfl (fun _ _ h1 h2 => run_move (h1.ev rfl)) ?_
      exact Tq.fin (.cons rfl .nil)
    refine Dr.quiet 1 [(12, (.slice Ap0_0 (p0).length cp0_0))] (by kernel_rfl) rfl rfl (by kernel_rfl) ?_ rfl rfl ?_
    · refine Tq.val (wn rfl) rfl (fun _ _ h1 h2 => run_move (h1.ev rfl)) ?_
      exact Tq.fin (.cons rfl .nil)
    refine Dr.quiet 2 [(13, (.int .i64 x123))] (by kernel_rfl) rfl rfl (by kernel_rfl) ?_ rfl rfl ?_
    · refine Tq.val (wn rfl) rfl (fun _ _ h1 h2 => run_move (h1.ev rfl)) ?_
      exact Tq.fin (.cons rfl .nil)
    obtain ⟨x127, hx127, H⟩ := bnd H
    obtain ⟨hx1270, hx1271, hx1272⟩ := idx_some hx127
    refine Dr.quiet 3 [(14, (.pointer (some ⟨adB Ap0_0, adO Ap0_0 + (x123).toNat * 4, none⟩)))] (by kernel_rfl) rfl rfl (by kernel_rfl) ?_ rfl rfl ?_
    · refine Tq.val (wn rfl) rfl (fun _ _ h1 h2 => run_indexAddr el_22 (h1.ev rfl) hp0_0.form (h1.ev rfl) hx1270 hx1271) ?_
      exact Tq.fin (.cons rfl .nil)
    refine Dr.quiet 4 [(15, (.pointer (some ⟨adB Ap0_0, adO Ap0_0 + (x123).toNat * 4 + 1, none⟩)))] (by kernel_rfl) rfl rfl (by kernel_rfl) ?_ rfl rfl ?_
    · refine Tq.val (wn rfl) rfl (fun _ _ h1 h2 => run_fieldAddr fo_29_1 (h1.ev rfl)) ?_
      exact Tq.fin (.cons rfl .nil)
    refine Dr.quiet 5 [(16, (.int .i64 x127.Y0))] (by kernel_rfl) rfl rfl (by kernel_rfl) ?_ rfl rfl ?_
    · refine Tq.val (wn rfl) rfl (fun _ _ h1 h2 => run_load1 ag_3 (h1.ev rfl) (CellsAt.drop (rdF ef_TRect hp0_0 hx1272 h2) 1) rfl) ?_
      exact Tq.fin (.cons rfl .nil)
    refine Dr.quiet 7 [(18, (.slice Ap0_0 (p0).length cp0_0))] (by kernel_rfl) rfl rfl (by kernel_rfl) ?_ rfl rfl ?_
    · refine Tq.val (wn rfl) rfl (fun _ _ h1 h2 => run_move (h1.ev rfl)) ?_
      exact Tq.fin (.cons rfl .nil)
    refine Dr.quiet 8 [(19, (.int .i64 x123))] (by kernel_rfl) rfl rfl (by kernel_rfl) ?_ rfl rfl ?_
    · refine Tq.val (wn rfl) rfl (fun _ _ h1 h2 => run_move (h1.ev rfl)) ?_
      exact Tq.fin (.cons rfl .nil)
    obtain ⟨x128, hx128, H⟩ := bnd H
    obtain ⟨hx1280, hx1281, hx1282⟩ := idx_some hx128
    refine Dr.quiet 9 [(20, (.pointer (some ⟨adB Ap0_0, adO Ap0_0 + (x123).toNat * 4, none⟩)))] (by kernel_rfl) rfl rfl (by kernel_rfl) ?_ rfl rfl ?_
    · refine Tq.val (wn rfl) rfl (fun _ _ h1 h2 => run_indexAddr el_22 (h1.ev rfl) hp0_0.form (h1.ev rfl) hx1280 hx1281) ?_
      exact Tq.fin (.cons rfl .nil)
    refine Dr.quiet 10 [(21, (.pointer (some ⟨adB Ap0_0, adO Ap0_0 + (x123).toNat * 4 + 3, none⟩)))] (by kernel_rfl) rfl rfl (by kernel_rfl) ?_ rfl rfl ?_
    · refine Tq.val (wn rfl) rfl (fun _ _ h1 h2 => run_fieldAddr fo_29_3 (h1.ev rfl)) ?_
      exact Tq.fin (.cons rfl .nil)
    refine Dr.quiet 11 [(22, (.int .i64 x128.Y1))] (by kernel_rfl) rfl rfl (by kernel_rfl) ?_ rfl rfl ?_
    · refine Tq.val (wn rfl) rfl (fun _ _ h1 h2 => run_load1 ag_3 (h1.ev rfl) (CellsAt.drop (rdF ef_TRect hp0_0 hx1282 h2) 3) rfl) ?_
      exact Tq.fin (.cons rfl .nil)
    obtain ⟨y129, hy129, H⟩ := bnd H
    refine Dr.one 6 (by kernel_rfl) ?_
    refine St.callG 6 [] [] (U := (Option Addr × Nat)) (fun u => (.slice u.1 (y129).length u.2)) (fun O W u => Sl O W fl_i64 u.1 u.2 y129) (fun u => []) rfl pk_nil (fun _ => rfl) (insS_no rfl) rfl (wn rfl) rfl Try.call118 (evl_cons rfl (evl_cons rfl evl_nil)) (fun W hW hp hE => F_etchhouseref1_put_ok N l122 Al122 cl122 (hl122.extO (hW.extS hp)) x127.Y0 y129 hy129 hE) ?_
    intro w u le130 hu hsy129
    obtain ⟨Ay129_0, cy129_0⟩ := u
    have gy129_0 := hu
    replace hp0_0 := hp0_0.leR le130
    replace hl122 := hl122.le le130
    replace leB := leB.trans le130
    replace leF_etchhouseref1_heights_L1 := leF_etchhouseref1_heights_L1.trans le130
    have hgy129_0 : Sl w.O w.W fl_i64 Ay129_0 cy129_0 y129 := gy129_0
    show Dr _ _ _ _ _ _ _ _ _ (uf _ 17 (.slice Ay129_0 (y129).length cy129_0)) (_)
    refine Dr.tail (by kernel_rfl) ?_
    obtain ⟨y131, hy131, H⟩ := bnd H
    refine Tr.callG [] [] (U := (Option Addr × Nat)) (fun u => (.slice u.1 (y131).length u.2)) (fun O W u => Sl O W fl_i64 u.1 u.2 y131) (fun u => []) rfl pk_nil (fun _ => rfl) (wn rfl) rfl Try.call118 (evl_cons rfl (evl_cons rfl evl_nil)) (fun W hW hp hE => F_etchhouseref1_put_ok N y129 Ay129_0 cy129_0 (hgy129_0.extO (hW.extS hp)) x128.Y1 y131 hy131 hE) ?_
    intro w u le132 hu
    obtain ⟨Ay131_0, cy131_0⟩ := u
    have gy131_0 := hu
    replace hp0_0 := hp0_0.leR le132
    replace hl122 := hl122.le le132
    replace hgy129_0 := hgy129_0.le le132
    replace leB := leB.trans le132
    replace leF_etchhouseref1_heights_L1 := leF_etchhouseref1_heights_L1.trans le132
    have hgy131_0 : Sl w.O w.W fl_i64 Ay131_0 cy131_0 y131 := gy131_0 --@phi
    show Tr _ _ (uf _ 23 (.slice Ay131_0 (y131).length cy131_0)) (_) _
    refine Tr.val (wn rfl) rfl (fun _ _ h1 h2 => run_assign (h1.ev rfl)) ?_
    refine Tr.nil (Tr.normBlock (Tr.normThen ?_))
    refine Tr.region ?_
    refine Tr.val (wn rfl) rfl (fun _ _ h1 h2 => run_move (h1.ev rfl)) ?_
    refine Tr.val (wn rfl) rfl (fun _ _ h1 h2 => run_add (h1.ev rfl) (h1.ev rfl)) ?_
    refine Tr.val (wn rfl) rfl (fun _ _ h1 h2 => run_assign (h1.ev rfl)) ?_
    refine Tr.nil ?_
    exact Tr.backThen leF_etchhouseref1_heights_L1 (y131, (w64 (x123 + 1)), Ay131_0, cy131_0) ⟨H, hgy131_0⟩ (.cons rfl (.cons rfl (.cons rfl .nil))) .nil
  · refine Tr.exit (Tr.exitThen (Tr.exitThen (Tr.exitBlock (Tr.normThen ?_))))
    refine Tr.seq ?_
    refine Tr.region ?_
    refine Tr.val (wn rfl) rfl (fun _ _ h1 h2 => run_move (h1.ev rfl)) ?_
    refine Tr.val (wn rfl) rfl (fun _ _ h1 h2 => run_assign (h1.ev rfl)) ?_
    refine Tr.nil (Tr.normThen ?_)
    refine Tr.ret ?_
    obtain rfl := Option.some.inj H
    exact Tr.out (m := [(.slice Al122 (l122).length cl122)]) [] (res_tmp rfl res_nil) (fun W hW => ⟨w, (Al122, cl122), leB, rfl, hl122, hW.pick (ks := []) (by decide) pk_nil⟩)

theorem F_etchhouseref1_joined_ok (N : Nat) {w : Bs} (p0 : (List TSpan)) (Ap0_0 : Option Addr) (cp0_0 : Nat) (hp0_0 : Sl w.R w.W fl_TSpan Ap0_0 cp0_0 p0) (p1 : TSpan) (r : (List TSpan)) (H : F_etchhouseref1_joined N p0 p1 = some r) (hE : HF w w.W (LEn [emp])) : Calls Try.prog 120 [(.slice Ap0_0 (p0).length cp0_0), (.agg #[(.int .i64 p1.from_), (.int .i64 p1.to_)])].toArray w.W fun e W' => ∃ u : (Option Addr × Nat), e = .returned (.slice u.1 (r).length u.2) ∧ (SlF u.1 (r).length u.2) ∧ HF w W' (LEn [ow u.1 u.2 124 fl_TSpan r]) := by
  unfold F_etchhouseref1_joined at H
  have leB := Bs.Le.refl w
  refine Tr.enter (n := 73) Try.func120 rfl rfl rfl hE ?_
  refine Tr.seq ?_
  refine Tr.region ?_
  refine Tr.box 1 (cs := [(.int .i64 p1.from_), (.int .i64 p1.to_)]) (wn rfl) rfl rfl rfl fun b100 => ?_
  refine Tr.val (wn rfl) rfl (fun _ _ h1 h2 => run_assign (h1.ev rfl)) ?_
  refine Tr.nilOwn 2 124 fl_TSpan ?_
  show Tr _ _ (uf _ 4 (.slice none (([] : List TSpan)).length 0)) _ _
  refine Tr.nil (Tr.normThen ?_)
  refine Tr.seq ?_
  refine Tr.region ?_
  refine Tr.val (wn rfl) rfl (fun _ _ h1 h2 => run_assign (h1.ev rfl)) ?_
  refine Tr.nilOwn 3 124 fl_TSpan ?_
  show Tr _ _ (uf _ 5 (.slice none (([] : List TSpan)).length 0)) _ _
  refine Tr.nil (Tr.normThen ?_)
  refine Tr.seq ?_
  refine Tr.region ?_
  refine Tr.val (wn rfl) rfl (fun _ _ h1 h2 => run_assign (h1.ev rfl)) ?_
  refine Tr.nil (Tr.normThen ?_)
  refine Tr.seq ?_
  refine Tr.block ?_
  refine Tr.loop (σ := (List TSpan) × Int × (Option Addr) × Nat) (fun m w s => F_etchhouseref1_joined_L1 N p0 p1 m s.1 s.2.1 = some r ∧ SlF s.2.2.1 (s.1).length s.2.2.2) (fun s => [(0, (.slice Ap0_0 (p0).length cp0_0)), (3, (.pointer (some ⟨b100, 0, none⟩))), (5, (.slice s.2.2.1 (s.1).length s.2.2.2)), (6, (.int .i64 s.2.1))]) (fun s => [(1, bx b100 #[(.int .i64 p1.from_), (.int .i64 p1.to_)] 124), (3, ow s.2.2.1 s.2.2.2 124 fl_TSpan s.1)]) N (([] : List TSpan), 0, none, 0) ⟨H, slf_nil⟩ (.cons rfl (.cons rfl (.cons rfl (.cons rfl .nil)))) (.cons rfl (.cons rfl .nil)) (fun _ _ h => noSome (h.1)) ?_
  intro w leF_etchhouseref1_joined_L1 mF_etchhouseref1_joined_L1 s hs
  obtain ⟨l119, x120, Al119, cl119⟩ := s
  obtain ⟨H, hl119⟩ := hs
  replace H : F_etchhouseref1_joined_L1 N p0 p1 (mF_etchhouseref1_joined_L1 + 1) l119 x120 = some r := H
  replace hp0_0 := hp0_0.leR leF_etchhouseref1_joined_L1
  replace leB := leB.trans leF_etchhouseref1_joined_L1
  replace hl119 : SlF Al119 (l119).length cl119 := hl119
  rw [F_etchhouseref1_joined_L1.eq_2] at H
  show Tr _ _ (LF [(0, (.slice Ap0_0 (p0).length cp0_0)), (3, (.pointer (some ⟨b100, 0, none⟩))), (5, (.slice Al119 (l119).length cl119)), (6, (.int .i64 x120))]) (LE [(1, bx b100 #[(.int .i64 p1.from_), (.int .i64 p1.to_)] 124), (3, ow Al119 cl119 124 fl_TSpan l119)]) _
  refine Tr.seq ?_
  refine Tr.seq ?_
  refine Tr.draw (by kernel_rfl) (by kernel_rfl) ?_
  refine Tq.val (wn rfl) rfl (fun _ _ h1 h2 => run_move (h1.ev rfl)) ?_
  refine Tq.val (wn rfl) rfl (fun _ _ h1 h2 => run_move (h1.ev rfl)) ?_
  refine Tq.val (wn rfl) rfl (fun _ _ h1 h2 => run_len un_100 (h1.ev rfl)) ?_
  refine Tq.val (wn rfl) rfl (fun _ _ h1 h2 => run_lss (h1.ev rfl) (h1.ev rfl)) ?_
  refine Tq.val (wn rfl) rfl (fun _ _ h1 h2 => run_move (h1.ev rfl)) ?_
  obtain ⟨g122, hg122, H⟩ := bnd H
  refine Tq.mid 9 [(0, (.slice Ap0_0 (p0).length cp0_0)), (3, (.pointer (some ⟨b100, 0, none⟩))), (5, (.slice Al119 (l119).length cl119)), (6, (.int .i64 x120)), (20, (.bool g122))] ?_ ?_
  · cases hg160 : (decide (x120 < (p0.length : Int)))
    · rw [hg160] at hg122
      rw [if_neg (by decide)] at hg122
      have H := hg122
      obtain rfl := Option.some.inj H
      refine Tq.pass rfl rfl rfl rfl rfl (by decide) ?_
      refine Tq.pass rfl rfl rfl rfl rfl (by decide) ?_
      refine Tq.pass rfl rfl rfl rfl rfl (by decide) ?_
      refine Tq.pass rfl rfl rfl rfl rfl (by decide) ?_
      refine Tq.pass rfl rfl rfl rfl rfl (by decide) ?_
      refine Tq.pass rfl rfl rfl rfl rfl (by decide) ?_
      refine Tq.pass rfl rfl rfl rfl rfl (by decide) ?_
      refine Tq.pass rfl rfl rfl rfl rfl (by decide) ?_
      refine Tq.val (wn rfl) rfl (fun _ _ h1 h2 => run_pickF (h1.ev rfl) (h1.ev rfl)) ?_
      exact Tq.fin (.cons rfl (.cons rfl (.cons rfl (.cons rfl (.cons rfl .nil)))))
    · rw [hg160] at hg122
      rw [if_pos rfl] at hg122
      have H := hg122
      refine Tq.val (wg rfl rfl rfl) rfl (fun _ _ h1 h2 => run_move (h1.ev rfl)) ?_
      refine Tq.val (wg rfl rfl rfl) rfl (fun _ _ h1 h2 => run_move (h1.ev rfl)) ?_
      obtain ⟨x123, hx123, H⟩ := bnd H
      obtain ⟨hx1230, hx1231, hx1232⟩ := idx_some hx123
      refine Tq.val (wg rfl rfl rfl) rfl (fun _ _ h1 h2 => run_indexAddr el_100 (h1.ev rfl) hp0_0.form (h1.ev rfl) hx1230 hx1231) ?_
      refine Tq.val (wg rfl rfl rfl) rfl (fun _ _ h1 h2 => run_fieldAddr fo_124_1 (h1.ev rfl)) ?_
      refine Tq.val (wg rfl rfl rfl) rfl (fun _ _ h1 h2 => run_load1 ag_3 (h1.ev rfl) (CellsAt.drop (rdF ef_TSpan hp0_0 hx1232 h2) 1) rfl) ?_
      refine Tq.val (wg rfl rfl rfl) rfl (fun _ _ h1 h2 => run_fieldAddr fo_124_0 (h1.ev rfl)) ?_
      refine Tq.val (wg rfl rfl rfl) rfl (fun _ _ h1 h2 => run_load1 ag_3 (h1.ev rfl) (rdb h2 (vs := [(.int .i64 p1.from_), (.int .i64 p1.to_)]) (k := 1) rfl 0) rfl) ?_
      refine Tq.val (wg rfl rfl rfl) rfl (fun _ _ h1 h2 => run_lss (h1.ev rfl) (h1.ev rfl)) ?_
      refine Tq.val (wn rfl) rfl (fun _ _ h1 h2 => run_pickT (h1.ev rfl) (h1.ev rfl)) ?_
      obtain rfl := Option.some.inj H
      exact Tq.fin (.cons rfl (.cons rfl (.cons rfl (.cons rfl (.cons rfl .nil)))))
  · refine Tq.nil (Tr.normThen ?_)
    refine Tr.cond rfl H (fun H => ?_) (fun H => ?_)
    · refine Tr.skip (Tr.normThen ?_)
      refine Tr.block ?_
      refine Tr.seq ?_
      refine Tr.region ?_
      refine Tr.val (wn rfl) rfl (fun _ _ h1 h2 => run_move (h1.ev rfl)) ?_
      refine Tr.val (wn rfl) rfl (fun _ _ h1 h2 => run_move (h1.ev rfl)) ?_
      refine Tr.val (wn rfl) rfl (fun _ _ h1 h2 => run_move (h1.ev rfl)) ?_
      obtain ⟨x124, hx124, H⟩ := bnd H
      obtain ⟨hx1240, hx1241, hx1242⟩ := idx_some hx124
      refine Tr.val (wn rfl) rfl (fun _ _ h1 h2 => run_indexAddr el_100 (h1.ev rfl) hp0_0.form (h1.ev rfl) hx1240 hx1241) ?_
      refine Tr.val (wn rfl) rfl (fun _ _ h1 h2 => run_loadN (cs := [(.int .i64 x124.from_), (.int .i64 x124.to_)]) ag_124 sz_124 (h1.ev rfl) (CellsAt.take (rdF ef_TSpan hp0_0 hx1242 h2) 2) rfl) ?_
      refine Tr.buildSlice 6 (e := 124) (vs := [(0, (.agg #[(.int .i64 x124.from_), (.int .i64 x124.to_)]))]) (cs := [(.int .i64 x124.from_), (.int .i64 x124.to_)]) (wn rfl) rfl (evs_cons rfl evs_nil) (by kernel_rfl) fun b125 => ?_
      obtain ⟨l126, hl126, H⟩ := bnd H
      refine Tr.append 3 (t := fl_TSpan) (l := l119) (l2 := [x124]) (wn rfl) rfl rfl rfl rfl (fun W hW => ⟨[[(.int .i64 x124.from_), (.int .i64 x124.to_)]], (.cons ⟨(), trivial, rfl⟩ .nil), rdb hW (vs := [(.int .i64 x124.from_), (.int .i64 x124.to_)]) (k := 6) rfl 0⟩) un_100 sz_124 zl_124 (by decide) by_124 rfl hl126 fun Al126 cl126 hAl126 => ?_
      refine Tr.val (wn rfl) rfl (fun _ _ h1 h2 => run_assign (h1.ev rfl)) ?_
      refine Tr.nil (Tr.normThen ?_)
      refine Tr.region ?_
      refine Tr.val (wn rfl) rfl (fun _ _ h1 h2 => run_move (h1.ev rfl)) ?_
      refine Tr.val (wn rfl) rfl (fun _ _ h1 h2 => run_add (h1.ev rfl) (h1.ev rfl)) ?_
      refine Tr.val (wn rfl) rfl (fun _ _ h1 h2 => run_assign (h1.ev rfl)) ?_
      refine Tr.nil (Tr.normBlock ?_)
      exact Tr.backThen leF_etchhouseref1_joined_L1 (l126, (w64 (x120 + 1)), Al126, cl126) ⟨H, hAl126⟩ (.cons rfl (.cons rfl (.cons rfl (.cons rfl .nil)))) (.cons rfl (.cons rfl .nil))
    · refine Tr.exit (Tr.exitThen (Tr.exitThen (Tr.exitBlock (Tr.normThen ?_))))
      refine Tr.seq ?_
      refine Tr.block ?_
      refine Tr.loop (σ := Int × Int × Int) (fun m w s => F_etchhouseref1_joined_L2 p0 l119 m s.1 s.2.1 s.2.2 = some r) (fun s => [(0, (.slice Ap0_0 (p0).length cp0_0)), (3, (.pointer (some ⟨b100, 0, none⟩))), (5, (.slice Al119 (l119).length cl119)), (6, (.int .i64 s.2.2))]) (fun s => [(1, bx b100 #[(.int .i64 s.1), (.int .i64 s.2.1)] 124), (3, ow Al119 cl119 124 fl_TSpan l119)]) N (p1.from_, p1.to_, x120) H (.cons rfl (.cons rfl (.cons rfl (.cons rfl .nil)))) (.cons rfl (.cons rfl .nil)) (fun _ _ h => noSome (h)) ?_
      intro w leF_etchhouseref1_joined_L2 mF_etchhouseref1_joined_L2 s hs
      obtain ⟨x148, x149, x150⟩ := s
      have H := hs
      replace H : F_etchhouseref1_joined_L2 p0 l119 (mF_etchhouseref1_joined_L2 + 1) x148 x149 x150 = some r := H
      replace hp0_0 := hp0_0.leR leF_etchhouseref1_joined_L2
      replace leB := leB.trans leF_etchhouseref1_joined_L2
      replace leF_etchhouseref1_joined_L1 := leF_etchhouseref1_joined_L1.trans leF_etchhouseref1_joined_L2
      rw [F_etchhouseref1_joined_L2.eq_2] at H
      show Tr _ _ (LF [(0, (.slice Ap0_0 (p0).length cp0_0)), (3, (.pointer (some ⟨b100, 0, none⟩))), (5, (.slice Al119 (l119).length cl119)), (6, (.int .i64 x150))]) (LE [(1, bx b100 #[(.int .i64 x148), (.int .i64 x149)] 124), (3, ow Al119 cl119 124 fl_TSpan l119)]) _
      refine Tr.seq ?_
      refine Tr.seq ?_
      refine Tr.draw (by kernel_rfl) (by kernel_rfl) ?_
      refine Tq.val (wn rfl) rfl (fun _ _ h1 h2 => run_move (h1.ev rfl)) ?_
      refine Tq.val (wn rfl) rfl (fun _ _ h1 h2 => run_move (h1.ev rfl)) ?_
      refine Tq.val (wn rfl) rfl (fun _ _ h1 h2 => run_len un_100 (h1.ev rfl)) ?_
      refine Tq.val (wn rfl) rfl (fun _ _ h1 h2 => run_lss (h1.ev rfl) (h1.ev rfl)) ?_
      refine Tq.val (wn rfl) rfl (fun _ _ h1 h2 => run_move (h1.ev rfl)) ?_
      obtain ⟨g152, hg152, H⟩ := bnd H
      refine Tq.mid 9 [(0, (.slice Ap0_0 (p0).length cp0_0)), (3, (.pointer (some ⟨b100, 0, none⟩))), (5, (.slice Al119 (l119).length cl119)), (6, (.int .i64 x150)), (43, (.bool g152))] ?_ ?_
      · cases hg160 : (decide (x150 < (p0.length : Int)))
        · rw [hg160] at hg152
          rw [if_neg (by decide)] at hg152
          have H := hg152
          obtain rfl := Option.some.inj H
          refine Tq.pass rfl rfl rfl rfl rfl (by decide) ?_
          refine Tq.pass rfl rfl rfl rfl rfl (by decide) ?_
          refine Tq.pass rfl rfl rfl rfl rfl (by decide) ?_
          refine Tq.pass rfl rfl rfl rfl rfl (by decide) ?_
          refine Tq.pass rfl rfl rfl rfl rfl (by decide) ?_
          refine Tq.pass rfl rfl rfl rfl rfl (by decide) ?_
          refine Tq.pass rfl rfl rfl rfl rfl (by decide) ?_
          refine Tq.pass rfl rfl rfl rfl rfl (by decide) ?_
          refine Tq.val (wn rfl) rfl (fun _ _ h1 h2 => run_pickF (h1.ev rfl) (h1.ev rfl)) ?_
          exact Tq.fin (.cons rfl (.cons rfl (.cons rfl (.cons rfl (.cons rfl .nil)))))
        · rw [hg160] at hg152
          rw [if_pos rfl] at hg152
          have H := hg152
          refine Tq.val (wg rfl rfl rfl) rfl (fun _ _ h1 h2 => run_move (h1.ev rfl)) ?_
          refine Tq.val (wg rfl rfl rfl) rfl (fun _ _ h1 h2 => run_move (h1.ev rfl)) ?_
          obtain ⟨x153, hx153, H⟩ := bnd H
          obtain ⟨hx1530, hx1531, hx1532⟩ := idx_some hx153
          refine Tq.val (wg rfl rfl rfl) rfl (fun _ _ h1 h2 => run_indexAddr el_100 (h1.ev rfl) hp0_0.form (h1.ev rfl) hx1530 hx1531) ?_
          refine Tq.val (wg rfl rfl rfl) rfl (fun _ _ h1 h2 => run_fieldAddr fo_124_0 (h1.ev rfl)) ?_
          refine Tq.val (wg rfl rfl rfl) rfl (fun _ _ h1 h2 => run_load1 ag_3 (h1.ev rfl) (CellsAt.drop (rdF ef_TSpan hp0_0 hx1532 h2) 0) rfl) ?_
          refine Tq.val (wg rfl rfl rfl) rfl (fun _ _ h1 h2 => run_fieldAddr fo_124_1 (h1.ev rfl)) ?_
          refine Tq.val (wg rfl rfl rfl) rfl (fun _ _ h1 h2 => run_load1 ag_3 (h1.ev rfl) (rdb h2 (vs := [(.int .i64 x148), (.int .i64 x149)]) (k := 1) rfl 1) rfl) ?_
          refine Tq.val (wg rfl rfl rfl) rfl (fun _ _ h1 h2 => run_leq (h1.ev rfl) (h1.ev rfl)) ?_
          refine Tq.val (wn rfl) rfl (fun _ _ h1 h2 => run_pickT (h1.ev rfl) (h1.ev rfl)) ?_
          obtain rfl := Option.some.inj H
          exact Tq.fin (.cons rfl (.cons rfl (.cons rfl (.cons rfl (.cons rfl .nil)))))
      · refine Tq.nil (Tr.normThen ?_)
        refine Tr.cond rfl H (fun H => ?_) (fun H => ?_)
        · refine Tr.skip (Tr.normThen ?_)
          refine Tr.block ?_
          refine Tr.seq ?_
          refine Tr.drawC 18 [(17, fun x => x = b100)] [] (by kernel_rfl) (by kernel_rfl) fun sz154 hlosz154 hEsz154 => ?_
          refine Dr.quiet 0 [(44, (.pointer (some ⟨b100, 0, none⟩)))] (by kernel_rfl) rfl rfl (by kernel_rfl) ?_ rfl rfl ?_
          · refine Tq.val (wn rfl) rfl (fun _ _ h1 h2 => run_fieldAddr fo_124_0 (h1.ev rfl)) ?_
            exact Tq.fin (.cons rfl .nil)
          refine Dr.quiet 1 [(45, (.int .i64 x148))] (by kernel_rfl) rfl rfl (by kernel_rfl) ?_ rfl rfl ?_
          · refine Tq.val (wn rfl) rfl (fun _ _ h1 h2 => run_load1 ag_3 (h1.ev rfl) (rdb h2 (vs := [(.int .i64 x148), (.int .i64 x149)]) (k := 1) rfl 0) rfl) ?_
            exact Tq.fin (.cons rfl .nil)
          refine Dr.quiet 2 [(46, (.slice Ap0_0 (p0).length cp0_0))] (by kernel_rfl) rfl rfl (by kernel_rfl) ?_ rfl rfl ?_
          · refine Tq.val (wn rfl) rfl (fun _ _ h1 h2 => run_move (h1.ev rfl)) ?_
            exact Tq.fin (.cons rfl .nil)
          refine Dr.quiet 3 [(47, (.int .i64 x150))] (by kernel_rfl) rfl rfl (by kernel_rfl) ?_ rfl rfl ?_
          · refine Tq.val (wn rfl) rfl (fun _ _ h1 h2 => run_move (h1.ev rfl)) ?_
            exact Tq.fin (.cons rfl .nil)
          obtain ⟨x155, hx155, H⟩ := bnd H
          obtain ⟨hx1550, hx1551, hx1552⟩ := idx_some hx155
          refine Dr.quiet 4 [(48, (.pointer (some ⟨adB Ap0_0, adO Ap0_0 + (x150).toNat * 2, none⟩)))] (by kernel_rfl) rfl rfl (by kernel_rfl) ?_ rfl rfl ?_
          · refine Tq.val (wn rfl) rfl (fun _ _ h1 h2 => run_indexAddr el_100 (h1.ev rfl) hp0_0.form (h1.ev rfl) hx1550 hx1551) ?_
            exact Tq.fin (.cons rfl .nil)
          refine Dr.quiet 5 [(49, (.pointer (some ⟨adB Ap0_0, adO Ap0_0 + (x150).toNat * 2 + 0, none⟩)))] (by kernel_rfl) rfl rfl (by kernel_rfl) ?_ rfl rfl ?_
          · refine Tq.val (wn rfl) rfl (fun _ _ h1 h2 => run_fieldAddr fo_124_0 (h1.ev rfl)) ?_
            exact Tq.fin (.cons rfl .nil)
          refine Dr.quiet 6 [(50, (.int .i64 x155.from_))] (by kernel_rfl) rfl rfl (by kernel_rfl) ?_ rfl rfl ?_
          · refine Tq.val (wn rfl) rfl (fun _ _ h1 h2 => run_load1 ag_3 (h1.ev rfl) (CellsAt.drop (rdF ef_TSpan hp0_0 hx1552 h2) 0) rfl) ?_
            exact Tq.fin (.cons rfl .nil)
          refine Dr.quiet 7 [(51, (.int .i64 (min x148 x155.from_)))] (by kernel_rfl) rfl rfl (by kernel_rfl) ?_ rfl rfl ?_
          · refine Tq.val (wn rfl) rfl (fun _ _ h1 h2 => run_min (h1.ev rfl) (h1.ev rfl) _) ?_
            exact Tq.fin (.cons rfl .nil)
          refine Dr.quiet 8 [(52, (.pointer (some ⟨b100, 1, none⟩)))] (by kernel_rfl) rfl rfl (by kernel_rfl) ?_ rfl rfl ?_
          · refine Tq.val (wn rfl) rfl (fun _ _ h1 h2 => run_fieldAddr fo_124_1 (h1.ev rfl)) ?_
            exact Tq.fin (.cons rfl .nil)
          refine Dr.quiet 9 [(53, (.int .i64 x149))] (by kernel_rfl) rfl rfl (by kernel_rfl) ?_ rfl rfl ?_
          · refine Tq.val (wn rfl) rfl (fun _ _ h1 h2 => run_load1 ag_3 (h1.ev rfl) (rdb h2 (vs := [(.int .i64 x148), (.int .i64 x149)]) (k := 1) rfl 1) rfl) ?_
            exact Tq.fin (.cons rfl .nil)
          refine Dr.quietP 10 (by kernel_rfl) rfl (wn rfl) rfl (by kernel_rfl) (fun _ _ h1 => run_move (h1.ev rfl)) rfl ?_
          refine Dr.quietP 11 (by kernel_rfl) rfl (wn rfl) rfl (by kernel_rfl) (fun _ _ h1 => run_move (h1.ev rfl)) rfl ?_
          obtain ⟨x156, hx156, H⟩ := bnd H
          obtain ⟨hx1560, hx1561, hx1562⟩ := idx_some hx156
          refine Dr.quietP 12 (by kernel_rfl) rfl (wn rfl) rfl (by kernel_rfl) (fun _ _ h1 => run_indexAddr el_100 (h1.ev rfl) hp0_0.form (h1.ev rfl) hx1560 hx1561) rfl ?_
          refine Dr.quietP 13 (by kernel_rfl) rfl (wn rfl) rfl (by kernel_rfl) (fun _ _ h1 => run_fieldAddr fo_124_1 (h1.ev rfl)) rfl ?_
          refine Dr.quietZ 14 [(58, (.int .i64 x156.to_))] [17] false (by kernel_rfl) rfl rfl (by kernel_rfl) (fun W W' h2 hsW hk => HF.keepZ (le := []) (ks := [(1, fun x => x = b100)]) (s0 := sz154) false h2 hk (fun h => absurd h (by decide)) .nil (fun b hb => hb.elim (fun ⟨p, hp, hf, hb⟩ => by simp only [List.mem_cons, List.not_mem_nil, or_false] at hp; rcases hp with rfl; exact .inl ⟨_, List.mem_cons_self, hb⟩) (fun hb => absurd hb.1 (by decide))) (List.forall_mem_cons.2 ⟨fun b hb => hb, (fun _ h => nomatch h)⟩) rfl) ?_ rfl rfl ?_
          · refine Tq.val (wn rfl) rfl (fun _ _ h1 h2 => run_load1 ag_3 (h1.ev rfl) (CellsAt.drop (rdF ef_TSpan hp0_0 hx1562 h2) 1) rfl) ?_
            exact Tq.fin (.cons rfl .nil)
          refine Dr.quietP 15 (by kernel_rfl) rfl (wn rfl) rfl (by kernel_rfl) (fun _ _ h1 => run_max (h1.ev rfl) (h1.ev rfl) _) rfl ?_
          refine Dr.quiet 16 [(60, (.pointer (some ⟨b100, 0, none⟩)))] (by kernel_rfl) rfl rfl (by kernel_rfl) ?_ rfl rfl ?_
          · refine Tq.val (wn rfl) rfl (fun _ _ h1 h2 => run_fieldAddr fo_124_0 (h1.ev rfl)) ?_
            exact Tq.fin (.cons rfl .nil)
          refine Dr.one 17 (by kernel_rfl) ?_
          refine St.store 17 1 (cs := [(.int .i64 (min x148 x155.from_))]) [(.int .i64 (min x148 x155.from_)), (.int .i64 x149)] rfl (wn rfl) (.inl ⟨_, List.mem_cons_self, rfl, rfl⟩) rfl rfl rfl rfl sz_3 rfl rfl rfl ?_
          refine Dr.tail (by kernel_rfl) ?_
          refine Tr.val (wn rfl) rfl (fun _ _ h1 h2 => run_fieldAddr fo_124_1 (h1.ev rfl)) ?_
          refine Tr.store 1 (cs := [(.int .i64 (max x149 x156.to_))]) [(.int .i64 (min x148 x155.from_)), (.int .i64 (max x149 x156.to_))] (wn rfl) rfl rfl rfl rfl sz_3 rfl rfl rfl ?_
          refine Tr.nil (Tr.normThen ?_)
          refine Tr.region ?_
          refine Tr.val (wn rfl) rfl (fun _ _ h1 h2 => run_move (h1.ev rfl)) ?_
          refine Tr.val (wn rfl) rfl (fun _ _ h1 h2 => run_add (h1.ev rfl) (h1.ev rfl)) ?_
          refine Tr.val (wn rfl) rfl (fun _ _ h1 h2 => run_assign (h1.ev rfl)) ?_
          refine Tr.nil (Tr.normBlock ?_)
          exact Tr.backThen leF_etchhouseref1_joined_L2 ((min x148 x155.from_), (max x149 x156.to_), (w64 (x150 + 1))) H (.cons rfl (.cons rfl (.cons rfl (.cons rfl .nil)))) (.cons rfl (.cons rfl .nil))
        · refine Tr.exit (Tr.exitThen (Tr.exitThen (Tr.exitBlock (Tr.normThen ?_))))
          refine Tr.seq ?_
          refine Tr.region ?_
          refine Tr.val (wn rfl) rfl (fun _ _ h1 h2 => run_move (h1.ev rfl)) ?_
          refine Tr.val (wn rfl) rfl (fun _ _ h1 h2 => run_loadN (cs := [(.int .i64 x148), (.int .i64 x149)]) ag_124 sz_124 (h1.ev rfl) (CellsAt.take (rdb h2 (vs := [(.int .i64 x148), (.int .i64 x149)]) (k := 1) rfl 0) 2) rfl) ?_
          refine Tr.buildSlice 7 (e := 124) (vs := [(0, (.agg #[(.int .i64 x148), (.int .i64 x149)]))]) (cs := [(.int .i64 x148), (.int .i64 x149)]) (wn rfl) rfl (evs_cons rfl evs_nil) (by kernel_rfl) fun b157 => ?_
          obtain ⟨l158, hl158, H⟩ := bnd H
          refine Tr.append 3 (t := fl_TSpan) (l := l119) (l2 := [(TSpan.mk x148 x149)]) (wn rfl) rfl rfl rfl rfl (fun W hW => ⟨[[(.int .i64 x148), (.int .i64 x149)]], (.cons ⟨(), trivial, rfl⟩ .nil), rdb hW (vs := [(.int .i64 x148), (.int .i64 x149)]) (k := 7) rfl 0⟩) un_100 sz_124 zl_124 (by decide) by_124 rfl hl158 fun Al158 cl158 hAl158 => ?_
          refine Tr.val (wn rfl) rfl (fun _ _ h1 h2 => run_assign (h1.ev rfl)) ?_
          refine Tr.nil (Tr.normThen ?_)
          refine Tr.seq ?_
          refine Tr.region ?_
          refine Tr.val (wn rfl) rfl (fun _ _ h1 h2 => run_move (h1.ev rfl)) ?_
          refine Tr.val (wn rfl) rfl (fun _ _ h1 h2 => run_move (h1.ev rfl)) ?_
          refine Tr.val (wn rfl) rfl (fun _ _ h1 h2 => run_move (h1.ev rfl)) ?_
          obtain ⟨l159, hl159, H⟩ := bnd H
          refine Tr.val (wn rfl) rfl (fun _ _ h1 h2 => run_cutL el_100 (h1.ev rfl) hp0_0.form (h1.ev rfl) hl159) ?_
          obtain ⟨l160, hl160, H⟩ := bnd H
          refine Tr.appendS 3 (t := fl_TSpan) (l := l158) (l2 := l159) (wn rfl) rfl rfl rfl rfl (apT tr_TSpan (fun W hW => (Sl.cut (Sl.inB hp0_0 hW) hl159))) un_100 sz_124 zl_124 (by decide) by_124 rfl hl160 fun Al160 cl160 hAl160 => ?_
          refine Tr.val (wn rfl) rfl (fun _ _ h1 h2 => run_assign (h1.ev rfl)) ?_
          refine Tr.nil (Tr.normThen ?_)
          refine Tr.ret ?_
          obtain rfl := Option.some.inj H
          exact Tr.out (m := [(.slice Al160 (l160).length cl160)]) [] (res_tmp rfl res_nil) (fun W hW => ⟨(Al160, cl160), rfl, hAl160, HF.lowE leB (hW.pick (ks := [3]) (by decide) (pk_cons rfl pk_nil)) ⟨ow_any _ _ _ _ tr_TSpan, trivial⟩⟩)

theorem F_etchhouseref1_row_ok (N : Nat) {w : Bs} (p0 : (List TRect)) (Ap0_0 : Option Addr) (cp0_0 : Nat) (hp0_0 : Sl w.R w.W fl_TRect Ap0_0 cp0_0 p0) (p1 : Int) (r : (List TSpan)) (H : F_etchhouseref1_row N p0 p1 = some r) (hE : HF w w.W (LEn [emp])) : Calls Try.prog 95 [(.slice Ap0_0 (p0).length cp0_0), (.int .i64 p1)].toArray w.W fun e W' => ∃ u : (Option Addr × Nat), e = .returned (.slice u.1 (r).length u.2) ∧ (SlF u.1 (r).length u.2) ∧ HF w W' (LEn [ow u.1 u.2 124 fl_TSpan r]) := by
  unfold F_etchhouseref1_row at H
  have leB := Bs.Le.refl w
  refine Tr.enter (n := 43) Try.func95 rfl rfl rfl hE ?_
  refine Tr.seq ?_
  refine Tr.region ?_
  refine Tr.val (wn rfl) rfl (fun _ _ h1 h2 => run_assign (h1.ev rfl)) ?_
  refine Tr.nilOwn 1 124 fl_TSpan ?_
  show Tr _ _ (uf _ 4 (.slice none (([] : List TSpan)).length 0)) _ _
  refine Tr.nil (Tr.normThen ?_)
  refine Tr.seq ?_
  refine Tr.region ?_
  refine Tr.val (wn rfl) rfl (fun _ _ h1 h2 => run_assign (h1.ev rfl)) ?_
  refine Tr.nilOwn 2 124 fl_TSpan ?_
  show Tr _ _ (uf _ 5 (.slice none (([] : List TSpan)).length 0)) _ _
  refine Tr.nil (Tr.normThen ?_)
  refine Tr.seq ?_
  refine Tr.seq ?_
  refine Tr.region ?_
  refine Tr.val (wn rfl) rfl (fun _ _ h1 h2 => run_assign (h1.ev rfl)) ?_
  refine Tr.nil (Tr.normThen ?_)
  refine Tr.block ?_
  refine Tr.ren 2 8 rfl rfl rfl ?_
  refine Tr.loop (σ := (List TSpan) × Int × (Option Addr) × Nat) (fun m w s => F_etchhouseref1_row_L1 N p0 p1 m s.1 s.2.1 = some r ∧ SlF s.2.2.1 (s.1).length s.2.2.2) (fun s => [(0, (.slice Ap0_0 (p0).length cp0_0)), (1, (.int .i64 p1)), (5, (.slice s.2.2.1 (s.1).length s.2.2.2)), (6, (.int .i64 s.2.1))]) (fun s => [(8, ow s.2.2.1 s.2.2.2 124 fl_TSpan s.1)]) N (([] : List TSpan), 0, none, 0) ⟨H, slf_nil⟩ (.cons rfl (.cons rfl (.cons rfl (.cons rfl .nil)))) (.cons rfl .nil) (fun _ _ h => noSome (h.1)) ?_
  intro w leF_etchhouseref1_row_L1 mF_etchhouseref1_row_L1 s hs
  obtain ⟨l122, x123, Al122, cl122⟩ := s
  obtain ⟨H, hl122⟩ := hs
  replace H : F_etchhouseref1_row_L1 N p0 p1 (mF_etchhouseref1_row_L1 + 1) l122 x123 = some r := H
  replace hp0_0 := hp0_0.leR leF_etchhouseref1_row_L1
  replace leB := leB.trans leF_etchhouseref1_row_L1
  replace hl122 : SlF Al122 (l122).length cl122 := hl122
  rw [F_etchhouseref1_row_L1.eq_2] at H
  show Tr _ _ (LF [(0, (.slice Ap0_0 (p0).length cp0_0)), (1, (.int .i64 p1)), (5, (.slice Al122 (l122).length cl122)), (6, (.int .i64 x123))]) (LE [(8, ow Al122 cl122 124 fl_TSpan l122)]) _
  refine Tr.seq ?_
  refine Tr.seq ?_
  refine Tr.region ?_
  refine Tr.val (wn rfl) rfl (fun _ _ h1 h2 => run_move (h1.ev rfl)) ?_
  refine Tr.val (wn rfl) rfl (fun _ _ h1 h2 => run_move (h1.ev rfl)) ?_
  refine Tr.val (wn rfl) rfl (fun _ _ h1 h2 => run_len un_22 (h1.ev rfl)) ?_
  refine Tr.val (wn rfl) rfl (fun _ _ h1 h2 => run_lss (h1.ev rfl) (h1.ev rfl)) ?_
  refine Tr.nil (Tr.normThen ?_)
  refine Tr.cond rfl H (fun H => ?_) (fun H => ?_)
  · refine Tr.skip (Tr.normThen ?_)
    refine Tr.seq ?_
    refine Tr.block ?_
    refine Tr.seq ?_
    refine Tr.region ?_
    refine Tr.val (wn rfl) rfl (fun _ _ h1 h2 => run_move (h1.ev rfl)) ?_
    refine Tr.val (wn rfl) rfl (fun _ _ h1 h2 => run_move (h1.ev rfl)) ?_
    obtain ⟨x124, hx124, H⟩ := bnd H
    obtain ⟨hx1240, hx1241, hx1242⟩ := idx_some hx124
    refine Tr.val (wn rfl) rfl (fun _ _ h1 h2 => run_indexAddr el_22 (h1.ev rfl) hp0_0.form (h1.ev rfl) hx1240 hx1241) ?_
    refine Tr.val (wn rfl) rfl (fun _ _ h1 h2 => run_fieldAddr fo_29_1 (h1.ev rfl)) ?_
    refine Tr.val (wn rfl) rfl (fun _ _ h1 h2 => run_load1 ag_3 (h1.ev rfl) (CellsAt.drop (rdF ef_TRect hp0_0 hx1242 h2) 1) rfl) ?_
    refine Tr.val (wn rfl) rfl (fun _ _ h1 h2 => run_move (h1.ev rfl)) ?_
    refine Tr.val (wn rfl) rfl (fun _ _ h1 h2 => run_leq (h1.ev rfl) (h1.ev rfl)) ?_
    refine Tr.val (wn rfl) rfl (fun _ _ h1 h2 => run_move (h1.ev rfl)) ?_
    obtain ⟨g126, hg126, H⟩ := bnd H
    refine Tr.mid0 8 [(0, (.slice Ap0_0 (p0).length cp0_0)), (1, (.int .i64 p1)), (5, (.slice Al122 (l122).length cl122)), (6, (.int .i64 x123)), (28, (.bool g126))] [(8, ow Al122 cl122 124 fl_TSpan l122)] ?_ ?_
    · cases hg131 : (decide (x124.Y0 ≤ p1))
      · rw [hg131] at hg126
        rw [if_neg (by decide)] at hg126
        have H := hg126
        obtain rfl := Option.some.inj H
        refine Tr.pass rfl rfl rfl rfl rfl (by decide) ?_
        refine Tr.pass rfl rfl rfl rfl rfl (by decide) ?_
        refine Tr.pass rfl rfl rfl rfl rfl (by decide) ?_
        refine Tr.pass rfl rfl rfl rfl rfl (by decide) ?_
        refine Tr.pass rfl rfl rfl rfl rfl (by decide) ?_
        refine Tr.pass rfl rfl rfl rfl rfl (by decide) ?_
        refine Tr.pass rfl rfl rfl rfl rfl (by decide) ?_
        refine Tr.val (wn rfl) rfl (fun _ _ h1 h2 => run_pickF (h1.ev rfl) (h1.ev rfl)) ?_
        exact Tr.nil (Tr.fin0 (.cons rfl (.cons rfl (.cons rfl (.cons rfl (.cons rfl .nil))))) (.cons rfl .nil))
      · rw [hg131] at hg126
        rw [if_pos rfl] at hg126
        have H := hg126
        refine Tr.val (wg rfl rfl rfl) rfl (fun _ _ h1 h2 => run_move (h1.ev rfl)) ?_
        refine Tr.val (wg rfl rfl rfl) rfl (fun _ _ h1 h2 => run_move (h1.ev rfl)) ?_
        refine Tr.val (wg rfl rfl rfl) rfl (fun _ _ h1 h2 => run_move (h1.ev rfl)) ?_
        obtain ⟨x127, hx127, H⟩ := bnd H
        obtain ⟨hx1270, hx1271, hx1272⟩ := idx_some hx127
        refine Tr.val (wg rfl rfl rfl) rfl (fun _ _ h1 h2 => run_indexAddr el_22 (h1.ev rfl) hp0_0.form (h1.ev rfl) hx1270 hx1271) ?_
        refine Tr.val (wg rfl rfl rfl) rfl (fun _ _ h1 h2 => run_fieldAddr fo_29_3 (h1.ev rfl)) ?_
        refine Tr.val (wg rfl rfl rfl) rfl (fun _ _ h1 h2 => run_load1 ag_3 (h1.ev rfl) (CellsAt.drop (rdF ef_TRect hp0_0 hx1272 h2) 3) rfl) ?_
        refine Tr.val (wg rfl rfl rfl) rfl (fun _ _ h1 h2 => run_lss (h1.ev rfl) (h1.ev rfl)) ?_
        refine Tr.val (wn rfl) rfl (fun _ _ h1 h2 => run_pickT (h1.ev rfl) (h1.ev rfl)) ?_
        obtain rfl := Option.some.inj H
        exact Tr.nil (Tr.fin0 (.cons rfl (.cons rfl (.cons rfl (.cons rfl (.cons rfl .nil))))) (.cons rfl .nil))
    · show Tr _ _ (LF [(0, (.slice Ap0_0 (p0).length cp0_0)), (1, (.int .i64 p1)), (5, (.slice Al122 (l122).length cl122)), (6, (.int .i64 x123)), (28, (.bool g126))]) (LE [(8, ow Al122 cl122 124 fl_TSpan l122)]) _
      refine Tr.nil (Tr.normThen ?_)
      refine Tr.cond rfl H (fun H => ?_) (fun H => ?_)
      · refine Tr.drawTail 12 (by kernel_rfl) (by kernel_rfl) ?_
        refine Tq.val (wn rfl) rfl (fun _ _ h1 h2 => run_move (h1.ev rfl)) ?_
        refine Tq.val (wn rfl) rfl (fun _ _ h1 h2 => run_move (h1.ev rfl)) ?_
        refine Tq.val (wn rfl) rfl (fun _ _ h1 h2 => run_move (h1.ev rfl)) ?_
        obtain ⟨x128, hx128, H⟩ := bnd H
        obtain ⟨hx1280, hx1281, hx1282⟩ := idx_some hx128
        refine Tq.val (wn rfl) rfl (fun _ _ h1 h2 => run_indexAddr el_22 (h1.ev rfl) hp0_0.form (h1.ev rfl) hx1280 hx1281) ?_
        refine Tq.val (wn rfl) rfl (fun _ _ h1 h2 => run_fieldAddr fo_29_0 (h1.ev rfl)) ?_
        refine Tq.val (wn rfl) rfl (fun _ _ h1 h2 => run_load1 ag_3 (h1.ev rfl) (CellsAt.drop (rdF ef_TRect hp0_0 hx1282 h2) 0) rfl) ?_
        refine Tq.val (wn rfl) rfl (fun _ _ h1 h2 => run_move (h1.ev rfl)) ?_
        refine Tq.val (wn rfl) rfl (fun _ _ h1 h2 => run_move (h1.ev rfl)) ?_
        obtain ⟨x129, hx129, H⟩ := bnd H
        obtain ⟨hx1290, hx1291, hx1292⟩ := idx_some hx129
        refine Tq.val (wn rfl) rfl (fun _ _ h1 h2 => run_indexAddr el_22 (h1.ev rfl) hp0_0.form (h1.ev rfl) hx1290 hx1291) ?_
        refine Tq.val (wn rfl) rfl (fun _ _ h1 h2 => run_fieldAddr fo_29_2 (h1.ev rfl)) ?_
        refine Tq.val (wn rfl) rfl (fun _ _ h1 h2 => run_load1 ag_3 (h1.ev rfl) (CellsAt.drop (rdF ef_TRect hp0_0 hx1292 h2) 2) rfl) ?_
        refine Tq.build (vs := [(0, (.int .i64 x128.X0)), (1, (.int .i64 x129.X1))]) (cs := [(.int .i64 x128.X0), (.int .i64 x129.X1)]) (wn rfl) rfl (evs_cons rfl (evs_cons rfl evs_nil)) (by kernel_rfl) ?_
        refine Tq.nil ?_
        obtain ⟨y130, hy130, H⟩ := bnd H
        refine Tr.callM [9] [emp] (U := (Option Addr × Nat)) (fun u => (.slice u.1 (y130).length u.2)) (fun u => SlF u.1 (y130).length u.2) (fun u => [ow u.1 u.2 124 fl_TSpan y130]) rfl (pk_cons rfl pk_nil) (fun _ => rfl) (wn rfl) rfl Try.call120 (evl_cons rfl (evl_cons rfl evl_nil)) (fun W hW hp hE => F_etchhouseref1_joined_ok N l122 Al122 cl122 (hW.slS (k := 8) rfl hp rfl) (TSpan.mk x128.X0 x129.X1) y130 hy130 hE) ?_
        intro u hu
        obtain ⟨Ay130_0, cy130_0⟩ := u
        have gy130_0 := hu
        have hgy130_0 : SlF Ay130_0 (y130).length cy130_0 := gy130_0 --@phi
        show Tr _ _ (uf _ 41 (.slice Ay130_0 (y130).length cy130_0)) (up _ 9 (ow Ay130_0 cy130_0 124 fl_TSpan y130)) _
        refine Tr.val (wn rfl) rfl (fun _ _ h1 h2 => run_assign (h1.ev rfl)) ?_
        refine Tr.nil (Tr.normBlock (Tr.normThen ?_))
        refine Tr.region ?_
        refine Tr.val (wn rfl) rfl (fun _ _ h1 h2 => run_move (h1.ev rfl)) ?_
        refine Tr.val (wn rfl) rfl (fun _ _ h1 h2 => run_add (h1.ev rfl) (h1.ev rfl)) ?_
        refine Tr.val (wn rfl) rfl (fun _ _ h1 h2 => run_assign (h1.ev rfl)) ?_
        refine Tr.nil ?_
        refine Tr.dropK 8 ?_
        refine Tr.ren 9 8 rfl rfl rfl ?_
        exact Tr.backThen leF_etchhouseref1_row_L1 (y130, (w64 (x123 + 1)), Ay130_0, cy130_0) ⟨H, hgy130_0⟩ (.cons rfl (.cons rfl (.cons rfl (.cons rfl .nil)))) (.cons rfl .nil)
      · refine Tr.skip (Tr.normBlock (Tr.normThen ?_))
        refine Tr.region ?_
        refine Tr.val (wn rfl) rfl (fun _ _ h1 h2 => run_move (h1.ev rfl)) ?_
        refine Tr.val (wn rfl) rfl (fun _ _ h1 h2 => run_add (h1.ev rfl) (h1.ev rfl)) ?_
        refine Tr.val (wn rfl) rfl (fun _ _ h1 h2 => run_assign (h1.ev rfl)) ?_
        refine Tr.nil ?_
        exact Tr.backThen leF_etchhouseref1_row_L1 (l122, (w64 (x123 + 1)), Al122, cl122) ⟨H, hl122⟩ (.cons rfl (.cons rfl (.cons rfl (.cons rfl .nil)))) (.cons rfl .nil)
  · refine Tr.exit (Tr.exitThen (Tr.exitThen (Tr.exitBlock (Tr.normThen ?_))))
    refine Tr.seq ?_
    refine Tr.region ?_
    refine Tr.val (wn rfl) rfl (fun _ _ h1 h2 => run_move (h1.ev rfl)) ?_
    refine Tr.val (wn rfl) rfl (fun _ _ h1 h2 => run_assign (h1.ev rfl)) ?_
    refine Tr.nil (Tr.normThen ?_)
    refine Tr.ret ?_
    obtain rfl := Option.some.inj H
    exact Tr.out (m := [(.slice Al122 (l122).length cl122)]) [] (res_tmp rfl res_nil) (fun W hW => ⟨(Al122, cl122), rfl, hl122, HF.lowE leB (hW.pick (ks := [8]) (by decide) (pk_cons rfl pk_nil)) ⟨ow_any _ _ _ _ tr_TSpan, trivial⟩⟩)

theorem F_etchhouseref1_sameSpans_ok (N : Nat) {w : Bs} (p0 : (List TSpan)) (Ap0_0 : Option Addr) (cp0_0 : Nat) (hp0_0 : Sl w.R w.W fl_TSpan Ap0_0 cp0_0 p0) (p1 : (List TSpan)) (Ap1_0 : Option Addr) (cp1_0 : Nat) (hp1_0 : Sl w.R w.W fl_TSpan Ap1_0 cp1_0 p1) (r : Bool) (H : F_etchhouseref1_sameSpans N p0 p1 = some r) (hE : HF w w.W E0) : Calls Try.prog 119 [(.slice Ap0_0 (p0).length cp0_0), (.slice Ap1_0 (p1).length cp1_0)].toArray w.W fun e W' => e = .returned (.bool r) ∧ HF w W' E0 := by
  unfold F_etchhouseref1_sameSpans at H
  have leB := Bs.Le.refl w
  refine Tr.enter (n := 26) Try.func119 rfl rfl rfl hE ?_
  refine Tr.seq ?_
  refine Tr.region ?_
  refine Tr.val (wn rfl) rfl (fun _ _ h1 h2 => run_assign (h1.ev rfl)) ?_
  refine Tr.nil (Tr.normThen ?_)
  refine Tr.seq ?_
  refine Tr.seq ?_
  refine Tr.region ?_
  refine Tr.val (wn rfl) rfl (fun _ _ h1 h2 => run_move (h1.ev rfl)) ?_
  refine Tr.val (wn rfl) rfl (fun _ _ h1 h2 => run_len un_100 (h1.ev rfl)) ?_
  refine Tr.val (wn rfl) rfl (fun _ _ h1 h2 => run_move (h1.ev rfl)) ?_
  refine Tr.val (wn rfl) rfl (fun _ _ h1 h2 => run_len un_100 (h1.ev rfl)) ?_
  refine Tr.val (wn rfl) rfl (fun _ _ h1 h2 => run_neq (h1.ev rfl) (h1.ev rfl)) ?_
  refine Tr.nil (Tr.normThen ?_)
  refine Tr.cond rfl H (fun H => ?_) (fun H => ?_)
  · refine Tr.seq ?_
    refine Tr.region ?_
    refine Tr.val (wn rfl) rfl (fun _ _ h1 h2 => run_assign (h1.ev rfl)) ?_
    refine Tr.nil (Tr.normThen ?_)
    refine Tr.ret (Tr.retThen ?_)
    obtain rfl := Option.some.inj H
    exact Tr.out (m := [(.bool false)]) [] (res_tmp rfl res_nil) (fun W hW => ⟨rfl, hW.low leB⟩)
  · refine Tr.skip (Tr.normThen ?_)
    refine Tr.seq ?_
    refine Tr.seq ?_
    refine Tr.region ?_
    refine Tr.val (wn rfl) rfl (fun _ _ h1 h2 => run_assign (h1.ev rfl)) ?_
    refine Tr.nil (Tr.normThen ?_)
    refine Tr.block ?_
    refine Tr.loop (σ := Int) (fun m w s => F_etchhouseref1_sameSpans_L1 p0 p1 m s = some r) (fun s => [(0, (.slice Ap0_0 (p0).length cp0_0)), (1, (.slice Ap1_0 (p1).length cp1_0)), (5, (.int .i64 s))]) (fun s => []) N 0 H (.cons rfl (.cons rfl (.cons rfl .nil))) .nil (fun _ _ h => noSome (h)) ?_
    intro w leF_etchhouseref1_sameSpans_L1 mF_etchhouseref1_sameSpans_L1 x107 hs
    have H := hs
    replace H : F_etchhouseref1_sameSpans_L1 p0 p1 (mF_etchhouseref1_sameSpans_L1 + 1) x107 = some r := H
    replace hp0_0 := hp0_0.leR leF_etchhouseref1_sameSpans_L1
    replace hp1_0 := hp1_0.leR leF_etchhouseref1_sameSpans_L1
    replace leB := leB.trans leF_etchhouseref1_sameSpans_L1
    rw [F_etchhouseref1_sameSpans_L1.eq_2] at H
    show Tr _ _ (LF [(0, (.slice Ap0_0 (p0).length cp0_0)), (1, (.slice Ap1_0 (p1).length cp1_0)), (5, (.int .i64 x107))]) (LE []) _
    refine Tr.seq ?_
    refine Tr.seq ?_
    refine Tr.region ?_
    refine Tr.val (wn rfl) rfl (fun _ _ h1 h2 => run_move (h1.ev rfl)) ?_
    refine Tr.val (wn rfl) rfl (fun _ _ h1 h2 => run_move (h1.ev rfl)) ?_
    refine Tr.val (wn rfl) rfl (fun _ _ h1 h2 => run_len un_100 (h1.ev rfl)) ?_
    refine Tr.val (wn rfl) rfl (fun _ _ h1 h2 => run_lss (h1.ev rfl) (h1.ev rfl)) ?_
    refine Tr.nil (Tr.normThen ?_)
    refine Tr.cond rfl H (fun H => ?_) (fun H => ?_)
    · refine Tr.skip (Tr.normThen ?_)
      refine Tr.seq ?_
      refine Tr.block ?_
      refine Tr.seq ?_
      refine Tr.draw (by kernel_rfl) (by kernel_rfl) ?_
      refine Tq.val (wn rfl) rfl (fun _ _ h1 h2 => run_move (h1.ev rfl)) ?_
      refine Tq.val (wn rfl) rfl (fun _ _ h1 h2 => run_move (h1.ev rfl)) ?_
      obtain ⟨x108, hx108, H⟩ := bnd H
      obtain ⟨hx1080, hx1081, hx1082⟩ := idx_some hx108
      refine Tq.val (wn rfl) rfl (fun _ _ h1 h2 => run_indexAddr el_100 (h1.ev rfl) hp0_0.form (h1.ev rfl) hx1080 hx1081) ?_
      refine Tq.val (wn rfl) rfl (fun _ _ h1 h2 => run_loadN (cs := [(.int .i64 x108.from_), (.int .i64 x108.to_)]) ag_124 sz_124 (h1.ev rfl) (CellsAt.take (rdF ef_TSpan hp0_0 hx1082 h2) 2) rfl) ?_
      refine Tq.val (wn rfl) rfl (fun _ _ h1 h2 => run_move (h1.ev rfl)) ?_
      refine Tq.val (wn rfl) rfl (fun _ _ h1 h2 => run_move (h1.ev rfl)) ?_
      obtain ⟨x109, hx109, H⟩ := bnd H
      obtain ⟨hx1090, hx1091, hx1092⟩ := idx_some hx109
      refine Tq.val (wn rfl) rfl (fun _ _ h1 h2 => run_indexAddr el_100 (h1.ev rfl) hp1_0.form (h1.ev rfl) hx1090 hx1091) ?_
      refine Tq.val (wn rfl) rfl (fun _ _ h1 h2 => run_loadN (cs := [(.int .i64 x109.from_), (.int .i64 x109.to_)]) ag_124 sz_124 (h1.ev rfl) (CellsAt.take (rdF ef_TSpan hp1_0 hx1092 h2) 2) rfl) ?_
      refine Tq.val (wn rfl) rfl (fun _ _ h1 h2 => run_neq_124 x108 x109 (h1.ev rfl) (h1.ev rfl)) ?_
      refine Tq.nil (Tr.normThen ?_)
      refine Tr.cond rfl H (fun H => ?_) (fun H => ?_)
      · refine Tr.seq ?_
        refine Tr.region ?_
        refine Tr.val (wn rfl) rfl (fun _ _ h1 h2 => run_assign (h1.ev rfl)) ?_
        refine Tr.nil (Tr.normThen ?_)
        refine Tr.ret (Tr.retBlock (Tr.retThen (Tr.retThen (Tr.retBlock (Tr.retThen ?_)))))
        obtain rfl := Option.some.inj H
        exact Tr.out (m := [(.bool false)]) [] (res_tmp rfl res_nil) (fun W hW => ⟨rfl, hW.low leB⟩)
      · refine Tr.skip (Tr.normBlock (Tr.normThen ?_))
        refine Tr.region ?_
        refine Tr.val (wn rfl) rfl (fun _ _ h1 h2 => run_move (h1.ev rfl)) ?_
        refine Tr.val (wn rfl) rfl (fun _ _ h1 h2 => run_add (h1.ev rfl) (h1.ev rfl)) ?_
        refine Tr.val (wn rfl) rfl (fun _ _ h1 h2 => run_assign (h1.ev rfl)) ?_
        refine Tr.nil ?_
        exact Tr.backThen leF_etchhouseref1_sameSpans_L1 (w64 (x107 + 1)) H (.cons rfl (.cons rfl (.cons rfl .nil))) .nil
    · refine Tr.exit (Tr.exitThen (Tr.exitThen (Tr.exitBlock (Tr.normThen ?_))))
      refine Tr.seq ?_
      refine Tr.region ?_
      refine Tr.val (wn rfl) rfl (fun _ _ h1 h2 => run_assign (h1.ev rfl)) ?_
      refine Tr.nil (Tr.normThen ?_)
      refine Tr.ret ?_
      obtain rfl := Option.some.inj H
      exact Tr.out (m := [(.bool true)]) [] (res_tmp rfl res_nil) (fun W hW => ⟨rfl, hW.low leB⟩)

theorem F_etchhouseref1_stacked_ok (N : Nat) {w : Bs} (p0 : (List Tetchhouseref1Band)) (Ap0_0 : Option Addr) (cp0_0 : Nat) (p1 : Tetchhouseref1Band) (Ap1_0 : Option Addr) (cp1_0 : Nat) (hp1_0 : Sl w.O w.W fl_TSpan Ap1_0 cp1_0 p1.spans) (r : (List Tetchhouseref1Band)) (H : F_etchhouseref1_stacked N p0 p1 = some r) (hE : HF w w.W (LEn [ow Ap0_0 cp0_0 103 fl_Tetchhouseref1Band p0])) : Calls Try.prog 94 [(.slice Ap0_0 (p0).length cp0_0), (.agg #[(.int .i64 p1.from_), (.int .i64 p1.to_), (.slice Ap1_0 (p1.spans).length cp1_0)])].toArray w.W fun e W' => ∃ (w' : Bs) (u : (Option Addr × Nat)), w.Le w' ∧ e = .returned (.slice u.1 (r).length u.2) ∧ (SlF u.1 (r).length u.2) ∧ HF w' W' (LEn [ow u.1 u.2 103 fl_Tetchhouseref1Band r]) := by
  unfold F_etchhouseref1_stacked at H
  have hfhp0_0 := (hE.sl (k := 0) rfl).form
  have leB := Bs.Le.refl w
  refine Tr.enter (n := 49) Try.func94 rfl rfl rfl hE ?_
  refine Tr.seq ?_
  refine Tr.region ?_
  refine Tr.box 1 (cs := [(.int .i64 p1.from_), (.int .i64 p1.to_), (.slice Ap1_0 (p1.spans).length cp1_0)]) (wn rfl) rfl rfl rfl fun b100 => ?_
  refine Tr.val (wn rfl) rfl (fun _ _ h1 h2 => run_assign (h1.ev rfl)) ?_
  refine Tr.nilOwn 2 103 fl_Tetchhouseref1Band ?_
  show Tr _ _ (uf _ 4 (.slice none (([] : List Tetchhouseref1Band)).length 0)) _ _
  refine Tr.nil (Tr.normThen ?_)
  refine Tr.seq ?_
  refine Tr.seq ?_
  refine Tr.region ?_
  refine Tr.val (wn rfl) rfl (fun _ _ h1 h2 => run_fieldAddr fo_103_2 (h1.ev rfl)) ?_
  refine Tr.val (wn rfl) rfl (fun _ _ h1 h2 => run_load1 ag_100 (h1.ev rfl) (rdb h2 (vs := [(.int .i64 p1.from_), (.int .i64 p1.to_), (.slice Ap1_0 (p1.spans).length cp1_0)]) (k := 1) rfl 2) rfl) ?_
  refine Tr.val (wn rfl) rfl (fun _ _ h1 h2 => run_len un_100 (h1.ev rfl)) ?_
  refine Tr.val (wn rfl) rfl (fun _ _ h1 h2 => run_eql (h1.ev rfl) (h1.ev rfl)) ?_
  refine Tr.nil (Tr.normThen ?_)
  refine Tr.cond rfl H (fun H => ?_) (fun H => ?_)
  · refine Tr.seq ?_
    refine Tr.region ?_
    refine Tr.val (wn rfl) rfl (fun _ _ h1 h2 => run_move (h1.ev rfl)) ?_
    refine Tr.val (wn rfl) rfl (fun _ _ h1 h2 => run_assign (h1.ev rfl)) ?_
    refine Tr.nil (Tr.normThen ?_)
    refine Tr.ret (Tr.retThen ?_)
    obtain rfl := Option.some.inj H
    exact Tr.out (m := [(.slice Ap0_0 (p0).length cp0_0)]) [] (res_tmp rfl res_nil) (fun W hW => ⟨w, (Ap0_0, cp0_0), leB, rfl, hfhp0_0, hW.pick (ks := [0]) (by decide) (pk_cons rfl pk_nil)⟩)
  · refine Tr.skip (Tr.normThen ?_)
    refine Tr.seq ?_
    refine Tr.seq ?_
    refine Tr.region ?_
    refine Tr.val (wn rfl) rfl (fun _ _ h1 h2 => run_move (h1.ev rfl)) ?_
    refine Tr.val (wn rfl) rfl (fun _ _ h1 h2 => run_len un_98 (h1.ev rfl)) ?_
    refine Tr.val (wn rfl) rfl (fun _ _ h1 h2 => run_assign (h1.ev rfl)) ?_
    refine Tr.nil (Tr.normThen ?_)
    refine Tr.seq ?_
    refine Tr.draw (by kernel_rfl) (by kernel_rfl) ?_
    refine Tq.val (wn rfl) rfl (fun _ _ h1 h2 => run_move (h1.ev rfl)) ?_
    refine Tq.val (wn rfl) rfl (fun _ _ h1 h2 => run_gtr (h1.ev rfl) (h1.ev rfl)) ?_
    refine Tq.val (wn rfl) rfl (fun _ _ h1 h2 => run_move (h1.ev rfl)) ?_
    obtain ⟨g102, hg102, H⟩ := bnd H
    refine Tq.mid 10 [(0, (.slice Ap0_0 (p0).length cp0_0)), (3, (.pointer (some ⟨b100, 0, none⟩))), (5, (.int .i64 (p0.length : Int))), (25, (.bool g102))] ?_ ?_
    · cases hg114 : (decide (0 < (p0.length : Int)))
      · rw [hg114] at hg102
        rw [if_neg (by decide)] at hg102
        have H := hg102
        obtain rfl := Option.some.inj H
        refine Tq.pass rfl rfl rfl rfl rfl (by decide) ?_
        refine Tq.pass rfl rfl rfl rfl rfl (by decide) ?_
        refine Tq.pass rfl rfl rfl rfl rfl (by decide) ?_
        refine Tq.pass rfl rfl rfl rfl rfl (by decide) ?_
        refine Tq.pass rfl rfl rfl rfl rfl (by decide) ?_
        refine Tq.pass rfl rfl rfl rfl rfl (by decide) ?_
        refine Tq.pass rfl rfl rfl rfl rfl (by decide) ?_
        refine Tq.pass rfl rfl rfl rfl rfl (by decide) ?_
        refine Tq.pass rfl rfl rfl rfl rfl (by decide) ?_
        refine Tq.val (wn rfl) rfl (fun _ _ h1 h2 => run_pickF (h1.ev rfl) (h1.ev rfl)) ?_
        exact Tq.fin (.cons rfl (.cons rfl (.cons rfl (.cons rfl .nil))))
      · rw [hg114] at hg102
        rw [if_pos rfl] at hg102
        have H := hg102
        refine Tq.val (wg rfl rfl rfl) rfl (fun _ _ h1 h2 => run_move (h1.ev rfl)) ?_
        refine Tq.val (wg rfl rfl rfl) rfl (fun _ _ h1 h2 => run_move (h1.ev rfl)) ?_
        refine Tq.val (wg rfl rfl rfl) rfl (fun _ _ h1 h2 => run_sub (h1.ev rfl) (h1.ev rfl)) ?_
        obtain ⟨x103, hx103, H⟩ := bnd H
        obtain ⟨hx1030, hx1031, hx1032⟩ := idx_some hx103
        refine Tq.val (wg rfl rfl rfl) rfl (fun _ _ h1 h2 => run_indexAddr el_98 (h1.ev rfl) hfhp0_0 (h1.ev rfl) hx1030 hx1031) ?_
        refine Tq.val (wg rfl rfl rfl) rfl (fun _ _ h1 h2 => run_fieldAddr fo_103_1 (h1.ev rfl)) ?_
        refine Tq.val (wg rfl rfl rfl) rfl (fun _ _ h1 h2 => (HF.atN (k := 0) h2 rfl hx1032).elim fun u hu => run_load1 ag_3 (h1.ev rfl) (hu.2.drop 1) rfl) ?_
        refine Tq.val (wg rfl rfl rfl) rfl (fun _ _ h1 h2 => run_fieldAddr fo_103_0 (h1.ev rfl)) ?_
        refine Tq.val (wg rfl rfl rfl) rfl (fun _ _ h1 h2 => run_load1 ag_3 (h1.ev rfl) (rdb h2 (vs := [(.int .i64 p1.from_), (.int .i64 p1.to_), (.slice Ap1_0 (p1.spans).length cp1_0)]) (k := 1) rfl 0) rfl) ?_
        refine Tq.val (wg rfl rfl rfl) rfl (fun _ _ h1 h2 => run_eql (h1.ev rfl) (h1.ev rfl)) ?_
        refine Tq.val (wn rfl) rfl (fun _ _ h1 h2 => run_pickT (h1.ev rfl) (h1.ev rfl)) ?_
        obtain rfl := Option.some.inj H
        exact Tq.fin (.cons rfl (.cons rfl (.cons rfl (.cons rfl .nil))))
    · refine Tq.val (wn rfl) rfl (fun _ _ h1 h2 => run_move (h1.ev rfl)) ?_
      obtain ⟨g107, hg107, H⟩ := bnd H
      refine Tq.mid 10 [(0, (.slice Ap0_0 (p0).length cp0_0)), (3, (.pointer (some ⟨b100, 0, none⟩))), (5, (.int .i64 (p0.length : Int))), (36, (.bool g107))] ?_ ?_
      · cases hg114 : g102
        · rw [hg114] at hg107
          rw [if_neg (by decide)] at hg107
          have H := hg107
          obtain rfl := Option.some.inj H
          refine Tq.pass rfl rfl rfl rfl rfl (by decide) ?_
          refine Tq.pass rfl rfl rfl rfl rfl (by decide) ?_
          refine Tq.pass rfl rfl rfl rfl rfl (by decide) ?_
          refine Tq.pass rfl rfl rfl rfl rfl (by decide) ?_
          refine Tq.pass rfl rfl rfl rfl rfl (by decide) ?_
          refine Tq.pass rfl rfl rfl rfl rfl (by decide) ?_
          refine Tq.pass rfl rfl rfl rfl rfl (by decide) ?_
          refine Tq.pass rfl rfl rfl rfl rfl (by decide) ?_
          refine Tq.pass rfl rfl rfl rfl rfl (by decide) ?_
          refine Tq.val (wn rfl) rfl (fun _ _ h1 h2 => run_pickF (h1.ev rfl) (h1.ev rfl)) ?_
          exact Tq.fin (.cons rfl (.cons rfl (.cons rfl (.cons rfl .nil))))
        · rw [hg114] at hg107
          rw [if_pos rfl] at hg107
          have H := hg107
          refine Tq.val (wg rfl rfl rfl) rfl (fun _ _ h1 h2 => run_move (h1.ev rfl)) ?_
          refine Tq.val (wg rfl rfl rfl) rfl (fun _ _ h1 h2 => run_move (h1.ev rfl)) ?_
          refine Tq.val (wg rfl rfl rfl) rfl (fun _ _ h1 h2 => run_sub (h1.ev rfl) (h1.ev rfl)) ?_
          obtain ⟨x108, hx108, H⟩ := bnd H
          obtain ⟨hx1080, hx1081, hx1082⟩ := idx_some hx108
          refine Tq.val (wg rfl rfl rfl) rfl (fun _ _ h1 h2 => run_indexAddr el_98 (h1.ev rfl) hfhp0_0 (h1.ev rfl) hx1080 hx1081) ?_
          refine Tq.val (wg rfl rfl rfl) rfl (fun _ _ h1 h2 => run_fieldAddr fo_103_2 (h1.ev rfl)) ?_
          refine Tq.valE (U := (fl_Tetchhouseref1Band).Ad) (fun u => (fl_Tetchhouseref1Band).ok w.O w.W u x108) (fun u => (.slice u.1 (x108.spans).length u.2)) (wg rfl rfl rfl) rfl (ldN (κ := 0) (t := fl_Tetchhouseref1Band) (V := fun u => (.slice u.1 (x108.spans).length u.2)) rfl hx1082 (fun _ _ u h1 hc => run_load1 ag_100 (h1.ev rfl) (hc.drop 2) rfl)) ?_
          intro u109 hoku109
          obtain ⟨Au109_0, cu109_0⟩ := u109
          have hoku109_0 := hoku109
          replace hoku109_0 : Sl w.O w.W fl_TSpan Au109_0 cu109_0 x108.spans := hoku109_0
          show Tq _ _ _ _ (uf _ 32 (.slice Au109_0 (x108.spans).length cu109_0)) _ _ _
          refine Tq.val (wg rfl rfl rfl) rfl (fun _ _ h1 h2 => run_fieldAddr fo_103_2 (h1.ev rfl)) ?_
          refine Tq.val (wg rfl rfl rfl) rfl (fun _ _ h1 h2 => run_load1 ag_100 (h1.ev rfl) (rdb h2 (vs := [(.int .i64 p1.from_), (.int .i64 p1.to_), (.slice Ap1_0 (p1.spans).length cp1_0)]) (k := 1) rfl 2) rfl) ?_
          obtain ⟨y110, hy110, H⟩ := bnd H
          refine Tq.call0 (r := (.bool y110)) (wg rfl rfl rfl) rfl Try.call119 (evl_cons rfl (evl_cons rfl evl_nil)) (fun W hW => F_etchhouseref1_sameSpans_ok N x108.spans Au109_0 cu109_0 (hoku109_0.rl.ext hW.extAll) p1.spans Ap1_0 cp1_0 (hp1_0.rl.ext hW.extAll) y110 hy110 (HF.start _)) ?_
          refine Tq.val (wn rfl) rfl (fun _ _ h1 h2 => run_pickT (h1.ev rfl) (h1.ev rfl)) ?_
          obtain rfl := Option.some.inj H
          exact Tq.fin (.cons rfl (.cons rfl (.cons rfl (.cons rfl .nil))))
      · refine Tq.nil (Tr.normThen ?_)
        refine Tr.cond rfl H (fun H => ?_) (fun H => ?_)
        · refine Tr.seq ?_
          refine Tr.region ?_
          refine Tr.val (wn rfl) rfl (fun _ _ h1 h2 => run_move (h1.ev rfl)) ?_
          refine Tr.val (wn rfl) rfl (fun _ _ h1 h2 => run_move (h1.ev rfl)) ?_
          refine Tr.val (wn rfl) rfl (fun _ _ h1 h2 => run_sub (h1.ev rfl) (h1.ev rfl)) ?_
          refine Tr.val (wn rfl) rfl (fun _ _ h1 h2 => run_fieldAddr fo_103_1 (h1.ev rfl)) ?_
          refine Tr.val (wn rfl) rfl (fun _ _ h1 h2 => run_load1 ag_3 (h1.ev rfl) (rdb h2 (vs := [(.int .i64 p1.from_), (.int .i64 p1.to_), (.slice Ap1_0 (p1.spans).length cp1_0)]) (k := 1) rfl 1) rfl) ?_
          obtain ⟨x111, hx111, H⟩ := bnd H
          obtain ⟨hx1110, hx1111, hx1112⟩ := idx_some hx111
          refine Tr.val (wn rfl) rfl (fun _ _ h1 h2 => run_indexAddr el_98 (h1.ev rfl) hfhp0_0 (h1.ev rfl) hx1110 hx1111) ?_
          refine Tr.val (wn rfl) rfl (fun _ _ h1 h2 => run_fieldAddr fo_103_1 (h1.ev rfl)) ?_
          obtain ⟨l112, hl112, H⟩ := bnd H
          have hnl112 := sets_len hl112
          refine Tr.storeEl 0 (t := fl_Tetchhouseref1Band) (l := p0) (i := (w64 ((p0.length : Int) - 1))) (fo := 1) (cs := [(.int .i64 p1.to_)]) (Tetchhouseref1Band.mk x111.from_ p1.to_ x111.spans) (wn rfl) rfl rfl rfl rfl rfl hx1112 sz_3 rfl (fun u hu => ⟨u, hu, rfl⟩) rfl hl112 ?_
          have hfl112 : SlF Ap0_0 (l112).length cp0_0 := by rw [hnl112]; exact hfhp0_0
          have hsl112 := hnl112.trans rfl
          refine Tr.sel (lf := [(0, (.slice Ap0_0 (l112).length cp0_0)), (3, (.pointer (some ⟨b100, 0, none⟩))), (5, (.int .i64 (p0.length : Int))), (36, (.bool g107)), (37, (.slice Ap0_0 (l112).length cp0_0)), (38, (.int .i64 (p0.length : Int))), (39, (.int .i64 (w64 ((p0.length : Int) - 1)))), (40, (.pointer (some ⟨b100, 1, none⟩))), (41, (.int .i64 p1.to_))]) (le := [(0, ow Ap0_0 cp0_0 103 fl_Tetchhouseref1Band l112), (1, bx b100 #[(.int .i64 p1.from_), (.int .i64 p1.to_), (.slice Ap1_0 (p1.spans).length cp1_0)] 103), (2, ow none 0 103 fl_Tetchhouseref1Band ([] : List Tetchhouseref1Band))]) (.cons (slenV rfl (by rw [hnl112])) (.cons rfl (.cons rfl (.cons rfl (.cons (slenV rfl (by rw [hnl112])) (.cons rfl (.cons rfl (.cons rfl (.cons rfl .nil))))))))) (.cons rfl (.cons rfl (.cons rfl .nil))) ?_
          refine Tr.nil (Tr.normThen ?_)
          refine Tr.seq ?_
          refine Tr.region ?_
          refine Tr.val (wn rfl) rfl (fun _ _ h1 h2 => run_move (h1.ev rfl)) ?_
          refine Tr.val (wn rfl) rfl (fun _ _ h1 h2 => run_assign (h1.ev rfl)) ?_
          refine Tr.nil (Tr.normThen ?_)
          refine Tr.ret (Tr.retThen ?_)
          obtain rfl := Option.some.inj H
          exact Tr.out (m := [(.slice Ap0_0 (l112).length cp0_0)]) [] (res_tmp rfl res_nil) (fun W hW => ⟨w, (Ap0_0, cp0_0), leB, rfl, hfl112, hW.pick (ks := [0]) (by decide) (pk_cons rfl pk_nil)⟩)
        · refine Tr.skip (Tr.normThen ?_)
          refine Tr.seq ?_
          refine Tr.region ?_
          refine Tr.val (wn rfl) rfl (fun _ _ h1 h2 => run_move (h1.ev rfl)) ?_
          refine Tr.val (wn rfl) rfl (fun _ _ h1 h2 => run_loadN (cs := [(.int .i64 p1.from_), (.int .i64 p1.to_), (.slice Ap1_0 (p1.spans).length cp1_0)]) ag_103 sz_103 (h1.ev rfl) (CellsAt.take (rdb h2 (vs := [(.int .i64 p1.from_), (.int .i64 p1.to_), (.slice Ap1_0 (p1.spans).length cp1_0)]) (k := 1) rfl 0) 3) rfl) ?_
          refine Tr.buildSlice 3 (e := 103) (vs := [(0, (.agg #[(.int .i64 p1.from_), (.int .i64 p1.to_), (.slice Ap1_0 (p1.spans).length cp1_0)]))]) (cs := [(.int .i64 p1.from_), (.int .i64 p1.to_), (.slice Ap1_0 (p1.spans).length cp1_0)]) (wn rfl) rfl (evs_cons rfl evs_nil) (by kernel_rfl) fun b113 => ?_
          obtain ⟨l114, hl114, H⟩ := bnd H
          refine Tr.append 0 (t := fl_Tetchhouseref1Band) (l := p0) (l2 := [p1]) (wn rfl) rfl rfl rfl rfl (fun W hW => ⟨[[(.int .i64 p1.from_), (.int .i64 p1.to_), (.slice Ap1_0 (p1.spans).length cp1_0)]], (.cons ⟨(Ap1_0, cp1_0), hp1_0, rfl⟩ .nil), rdb hW (vs := [(.int .i64 p1.from_), (.int .i64 p1.to_), (.slice Ap1_0 (p1.spans).length cp1_0)]) (k := 3) rfl 0⟩) un_98 sz_103 zl_103 (by decide) by_103 rfl hl114 fun Al114 cl114 hAl114 => ?_
          refine Tr.val (wn rfl) rfl (fun _ _ h1 h2 => run_assign (h1.ev rfl)) ?_
          refine Tr.nil (Tr.normThen ?_)
          refine Tr.ret ?_
          obtain rfl := Option.some.inj H
          exact Tr.out (m := [(.slice Al114 (l114).length cl114)]) [] (res_tmp rfl res_nil) (fun W hW => ⟨w, (Al114, cl114), leB, rfl, hAl114, hW.pick (ks := [0]) (by decide) (pk_cons rfl pk_nil)⟩)

theorem F_etchhouseref1_told_ok (N : Nat) {w : Bs} (p0 : (List Tetchhouseref1Band)) (Ap0_0 : Option Addr) (cp0_0 : Nat) (hp0_0 : Sl w.R w.W fl_Tetchhouseref1Band Ap0_0 cp0_0 p0) (r : (List TRect)) (H : F_etchhouseref1_told N p0 = some r) (hE : HF w w.W (LEn [emp])) : Calls Try.prog 96 [(.slice Ap0_0 (p0).length cp0_0)].toArray w.W fun e W' => ∃ u : (Option Addr × Nat), e = .returned (.slice u.1 (r).length u.2) ∧ (SlF u.1 (r).length u.2) ∧ HF w W' (LEn [ow u.1 u.2 29 fl_TRect r]) := by
  unfold F_etchhouseref1_told at H
  have leB := Bs.Le.refl w
  refine Tr.enter (n := 55) Try.func96 rfl rfl rfl hE ?_
  refine Tr.seq ?_
  refine Tr.region ?_
  refine Tr.val (wn rfl) rfl (fun _ _ h1 h2 => run_assign (h1.ev rfl)) ?_
  refine Tr.nilOwn 1 29 fl_TRect ?_
  show Tr _ _ (uf _ 2 (.slice none (([] : List TRect)).length 0)) _ _
  refine Tr.nil (Tr.normThen ?_)
  refine Tr.seq ?_
  refine Tr.region ?_
  refine Tr.val (wn rfl) rfl (fun _ _ h1 h2 => run_assign (h1.ev rfl)) ?_
  refine Tr.nilOwn 2 29 fl_TRect ?_
  show Tr _ _ (uf _ 3 (.slice none (([] : List TRect)).length 0)) _ _
  refine Tr.nil (Tr.normThen ?_)
  refine Tr.seq ?_
  refine Tr.seq ?_
  refine Tr.region ?_
  refine Tr.val (wn rfl) rfl (fun _ _ h1 h2 => run_assign (h1.ev rfl)) ?_
  refine Tr.nil (Tr.normThen ?_)
  refine Tr.block ?_
  refine Tr.loop (σ := (List TRect) × Int × (Option Addr) × Nat) (fun m w s => F_etchhouseref1_told_L3 N p0 m s.1 s.2.1 = some r ∧ SlF s.2.2.1 (s.1).length s.2.2.2) (fun s => [(0, (.slice Ap0_0 (p0).length cp0_0)), (3, (.slice s.2.2.1 (s.1).length s.2.2.2)), (4, (.int .i64 s.2.1))]) (fun s => [(2, ow s.2.2.1 s.2.2.2 29 fl_TRect s.1)]) N (([] : List TRect), 0, none, 0) ⟨H, slf_nil⟩ (.cons rfl (.cons rfl (.cons rfl .nil))) (.cons rfl .nil) (fun _ _ h => noSome (h.1)) ?_
  intro w leF_etchhouseref1_told_L3 mF_etchhouseref1_told_L3 s hs
  obtain ⟨l206, x207, Al206, cl206⟩ := s
  obtain ⟨H, hl206⟩ := hs
  replace H : F_etchhouseref1_told_L3 N p0 (mF_etchhouseref1_told_L3 + 1) l206 x207 = some r := H
  replace hp0_0 := hp0_0.leR leF_etchhouseref1_told_L3
  replace leB := leB.trans leF_etchhouseref1_told_L3
  replace hl206 : SlF Al206 (l206).length cl206 := hl206
  rw [F_etchhouseref1_told_L3.eq_2] at H
  show Tr _ _ (LF [(0, (.slice Ap0_0 (p0).length cp0_0)), (3, (.slice Al206 (l206).length cl206)), (4, (.int .i64 x207))]) (LE [(2, ow Al206 cl206 29 fl_TRect l206)]) _
  refine Tr.seq ?_
  refine Tr.seq ?_
  refine Tr.region ?_
  refine Tr.val (wn rfl) rfl (fun _ _ h1 h2 => run_move (h1.ev rfl)) ?_
  refine Tr.val (wn rfl) rfl (fun _ _ h1 h2 => run_move (h1.ev rfl)) ?_
  refine Tr.val (wn rfl) rfl (fun _ _ h1 h2 => run_len un_98 (h1.ev rfl)) ?_
  refine Tr.val (wn rfl) rfl (fun _ _ h1 h2 => run_lss (h1.ev rfl) (h1.ev rfl)) ?_
  refine Tr.nil (Tr.normThen ?_)
  refine Tr.cond rfl H (fun H => ?_) (fun H => ?_)
  · refine Tr.skip (Tr.normThen ?_)
    refine Tr.seq ?_
    refine Tr.block ?_
    refine Tr.seq ?_
    refine Tr.region ?_
    refine Tr.val (wn rfl) rfl (fun _ _ h1 h2 => run_assign (h1.ev rfl)) ?_
    refine Tr.nil (Tr.normThen ?_)
    refine Tr.block ?_
    refine Tr.loop (σ := (List TRect) × Int × (Option Addr) × Nat) (fun m w s => F_etchhouseref1_told_L4 p0 x207 (F_etchhouseref1_told_L3 N p0 mF_etchhouseref1_told_L3) m s.1 s.2.1 = some r ∧ SlF s.2.2.1 (s.1).length s.2.2.2) (fun s => [(0, (.slice Ap0_0 (p0).length cp0_0)), (3, (.slice s.2.2.1 (s.1).length s.2.2.2)), (4, (.int .i64 x207)), (5, (.int .i64 s.2.1))]) (fun s => [(2, ow s.2.2.1 s.2.2.2 29 fl_TRect s.1)]) N (l206, 0, Al206, cl206) ⟨H, hl206⟩ (.cons rfl (.cons rfl (.cons rfl (.cons rfl .nil)))) (.cons rfl .nil) (fun _ _ h => noSome (h.1)) ?_
    intro w leF_etchhouseref1_told_L4 mF_etchhouseref1_told_L4 s hs
    obtain ⟨l242, x243, Al242, cl242⟩ := s
    obtain ⟨H, hl242⟩ := hs
    replace H : F_etchhouseref1_told_L4 p0 x207 (F_etchhouseref1_told_L3 N p0 mF_etchhouseref1_told_L3) (mF_etchhouseref1_told_L4 + 1) l242 x243 = some r := H
    replace hp0_0 := hp0_0.leR leF_etchhouseref1_told_L4
    replace leB := leB.trans leF_etchhouseref1_told_L4
    replace leF_etchhouseref1_told_L3 := leF_etchhouseref1_told_L3.trans leF_etchhouseref1_told_L4
    replace hl242 : SlF Al242 (l242).length cl242 := hl242
    rw [F_etchhouseref1_told_L4.eq_2] at H
    show Tr _ _ (LF [(0, (.slice Ap0_0 (p0).length cp0_0)), (3, (.slice Al242 (l242).length cl242)), (4, (.int .i64 x207)), (5, (.int .i64 x243))]) (LE [(2, ow Al242 cl242 29 fl_TRect l242)]) _
    refine Tr.seq ?_
    refine Tr.seq ?_
    refine Tr.region ?_
    refine Tr.val (wn rfl) rfl (fun _ _ h1 h2 => run_move (h1.ev rfl)) ?_
    refine Tr.val (wn rfl) rfl (fun _ _ h1 h2 => run_move (h1.ev rfl)) ?_
    refine Tr.val (wn rfl) rfl (fun _ _ h1 h2 => run_move (h1.ev rfl)) ?_
    obtain ⟨x244, hx244, H⟩ := bnd H
    obtain ⟨hx2440, hx2441, hx2442⟩ := idx_some hx244
    obtain ⟨u245, hRu245, hoku245, hcu245⟩ := (hp0_0).el hx2442
    obtain ⟨Au245_0, cu245_0⟩ := u245
    have hoku245_0 := hoku245
    replace hoku245_0 : Sl w.R w.W fl_TSpan Au245_0 cu245_0 x244.spans := hoku245_0
    refine Tr.val (wn rfl) rfl (fun _ _ h1 h2 => run_indexAddr el_98 (h1.ev rfl) hp0_0.form (h1.ev rfl) hx2440 hx2441) ?_
    refine Tr.val (wn rfl) rfl (fun _ _ h1 h2 => run_fieldAddr fo_103_2 (h1.ev rfl)) ?_
    refine Tr.val (wn rfl) rfl (fun _ _ h1 h2 => run_load1 ag_100 (h1.ev rfl) (CellsAt.drop (rdR hRu245 hcu245 h2) 2) rfl) ?_
    refine Tr.val (wn rfl) rfl (fun _ _ h1 h2 => run_len un_100 (h1.ev rfl)) ?_
    refine Tr.val (wn rfl) rfl (fun _ _ h1 h2 => run_lss (h1.ev rfl) (h1.ev rfl)) ?_
    refine Tr.nil (Tr.normThen ?_)
    refine Tr.cond rfl H (fun H => ?_) (fun H => ?_)
    · refine Tr.skip (Tr.normThen ?_)
      refine Tr.seq ?_
      refine Tr.block ?_
      obtain ⟨x247, hx247, H⟩ := bnd H
      obtain ⟨hx2470, hx2471, hx2472⟩ := idx_some hx247
      obtain ⟨u248, hRu248, hoku248, hcu248⟩ := (hp0_0).el hx2472
      obtain ⟨Au248_0, cu248_0⟩ := u248
      obtain ⟨x249, hx249, H⟩ := bnd H
      obtain ⟨hx2490, hx2491, hx2492⟩ := idx_some hx249
      obtain ⟨x250, hx250, H⟩ := bnd H
      obtain ⟨hx2500, hx2501, hx2502⟩ := idx_some hx250
      obtain ⟨u251, hRu251, hoku251, hcu251⟩ := (hp0_0).el hx2502
      obtain ⟨Au251_0, cu251_0⟩ := u251
      obtain ⟨x252, hx252, H⟩ := bnd H
      obtain ⟨hx2520, hx2521, hx2522⟩ := idx_some hx252
      obtain ⟨u253, hRu253, hoku253, hcu253⟩ := (hp0_0).el hx2522
      obtain ⟨Au253_0, cu253_0⟩ := u253
      obtain ⟨x254, hx254, H⟩ := bnd H
      obtain ⟨hx2540, hx2541, hx2542⟩ := idx_some hx254
      obtain ⟨x255, hx255, H⟩ := bnd H
      obtain ⟨hx2550, hx2551, hx2552⟩ := idx_some hx255
      obtain ⟨u256, hRu256, hoku256, hcu256⟩ := (hp0_0).el hx2552
      obtain ⟨Au256_0, cu256_0⟩ := u256
      refine Tr.drawF 31 [(30, .makeFunc (.func 0) #[] #[.tmp 51])] [(30, ⟨52, 11, (.func (.func 0) #[] #[(.agg #[(.int .i64 x249.from_), (.int .i64 x250.from_), (.int .i64 x254.to_), (.int .i64 x255.to_)])]), fun b => .slice (some ⟨b, 0, none⟩) 1 1, fun b => bx b #[(.int .i64 x249.from_), (.int .i64 x250.from_), (.int .i64 x254.to_), (.int .i64 x255.to_)] 29⟩)] [(0, (.slice Ap0_0 (p0).length cp0_0)), (3, (.slice Al242 (l242).length cl242)), (4, (.int .i64 x207)), (5, (.int .i64 x243)), (12, (.int .i64 x243)), (13, (.slice Ap0_0 (p0).length cp0_0)), (14, (.int .i64 x207)), (15, (.pointer (some ⟨adB Ap0_0, adO Ap0_0 + (x207).toNat * 3, none⟩))), (16, (.pointer (some ⟨adB Ap0_0, adO Ap0_0 + (x207).toNat * 3 + 2, none⟩))), (17, (.slice Au245_0 (x244.spans).length cu245_0)), (18, (.int .i64 (x244.spans.length : Int))), (19, (.bool (decide (x243 < (x244.spans.length : Int))))), (22, (.slice Al242 (l242).length cl242)), (23, (.slice Ap0_0 (p0).length cp0_0)), (24, (.int .i64 x207)), (25, (.pointer (some ⟨adB Ap0_0, adO Ap0_0 + (x207).toNat * 3, none⟩))), (26, (.pointer (some ⟨adB Ap0_0, adO Ap0_0 + (x207).toNat * 3 + 2, none⟩))), (27, (.slice Au248_0 (x247.spans).length cu248_0)), (28, (.int .i64 x243)), (29, (.pointer (some ⟨adB Au248_0, adO Au248_0 + (x243).toNat * 2, none⟩))), (30, (.pointer (some ⟨adB Au248_0, adO Au248_0 + (x243).toNat * 2 + 0, none⟩))), (31, (.int .i64 x249.from_)), (32, (.slice Ap0_0 (p0).length cp0_0)), (33, (.int .i64 x207)), (34, (.pointer (some ⟨adB Ap0_0, adO Ap0_0 + (x207).toNat * 3, none⟩))), (35, (.pointer (some ⟨adB Ap0_0, adO Ap0_0 + (x207).toNat * 3 + 0, none⟩))), (36, (.int .i64 x250.from_)), (37, (.slice Ap0_0 (p0).length cp0_0)), (38, (.int .i64 x207)), (39, (.pointer (some ⟨adB Ap0_0, adO Ap0_0 + (x207).toNat * 3, none⟩))), (40, (.pointer (some ⟨adB Ap0_0, adO Ap0_0 + (x207).toNat * 3 + 2, none⟩))), (41, (.slice Au253_0 (x252.spans).length cu253_0)), (42, (.int .i64 x243)), (43, (.pointer (some ⟨adB Au253_0, adO Au253_0 + (x243).toNat * 2, none⟩))), (44, (.pointer (some ⟨adB Au253_0, adO Au253_0 + (x243).toNat * 2 + 1, none⟩))), (45, (.int .i64 x254.to_)), (46, (.slice Ap0_0 (p0).length cp0_0)), (47, (.int .i64 x207)), (48, (.pointer (some ⟨adB Ap0_0, adO Ap0_0 + (x207).toNat * 3, none⟩))), (49, (.pointer (some ⟨adB Ap0_0, adO Ap0_0 + (x207).toNat * 3 + 1, none⟩))), (50, (.int .i64 x255.to_)), (51, (.agg #[(.int .i64 x249.from_), (.int .i64 x250.from_), (.int .i64 x254.to_), (.int .i64 x255.to_)])), (52, (.func (.func 0) #[] #[(.agg #[(.int .i64 x249.from_), (.int .i64 x250.from_), (.int .i64 x254.to_), (.int .i64 x255.to_)])]))] (by kernel_rfl) (by kernel_rfl) (by kernel_rfl) (by kernel_rfl) (by kernel_rfl) (by kernel_rfl) (by kernel_rfl) (fall_cons (fr_lit (vs := [(0, (.agg #[(.int .i64 x249.from_), (.int .i64 x250.from_), (.int .i64 x254.to_), (.int .i64 x255.to_)]))]) rfl rfl rfl (by kernel_rfl)) fall_nil) (fall_cons rfl fall_nil) (fall_cons rfl fall_nil) ?_ ?_
      · refine Tq.val (wn rfl) rfl (fun _ _ h1 h2 => run_move (h1.ev rfl)) ?_
        refine Tq.val (wn rfl) rfl (fun _ _ h1 h2 => run_move (h1.ev rfl)) ?_
        refine Tq.val (wn rfl) rfl (fun _ _ h1 h2 => run_move (h1.ev rfl)) ?_
        have hoku248_0 := hoku248
        replace hoku248_0 : Sl w.R w.W fl_TSpan Au248_0 cu248_0 x247.spans := hoku248_0
        refine Tq.val (wn rfl) rfl (fun _ _ h1 h2 => run_indexAddr el_98 (h1.ev rfl) hp0_0.form (h1.ev rfl) hx2470 hx2471) ?_
        refine Tq.val (wn rfl) rfl (fun _ _ h1 h2 => run_fieldAddr fo_103_2 (h1.ev rfl)) ?_
        refine Tq.val (wn rfl) rfl (fun _ _ h1 h2 => run_load1 ag_100 (h1.ev rfl) (CellsAt.drop (rdR hRu248 hcu248 h2) 2) rfl) ?_
        refine Tq.val (wn rfl) rfl (fun _ _ h1 h2 => run_move (h1.ev rfl)) ?_
        refine Tq.val (wn rfl) rfl (fun _ _ h1 h2 => run_indexAddr el_100 (h1.ev rfl) hoku248_0.form (h1.ev rfl) hx2490 hx2491) ?_
        refine Tq.val (wn rfl) rfl (fun _ _ h1 h2 => run_fieldAddr fo_124_0 (h1.ev rfl)) ?_
        refine Tq.val (wn rfl) rfl (fun _ _ h1 h2 => run_load1 ag_3 (h1.ev rfl) (CellsAt.drop (rdF ef_TSpan hoku248_0 hx2492 h2) 0) rfl) ?_
        refine Tq.val (wn rfl) rfl (fun _ _ h1 h2 => run_move (h1.ev rfl)) ?_
        refine Tq.val (wn rfl) rfl (fun _ _ h1 h2 => run_move (h1.ev rfl)) ?_
        have hoku251_0 := hoku251
        replace hoku251_0 : Sl w.R w.W fl_TSpan Au251_0 cu251_0 x250.spans := hoku251_0
        refine Tq.val (wn rfl) rfl (fun _ _ h1 h2 => run_indexAddr el_98 (h1.ev rfl) hp0_0.form (h1.ev rfl) hx2500 hx2501) ?_
        refine Tq.val (wn rfl) rfl (fun _ _ h1 h2 => run_fieldAddr fo_103_0 (h1.ev rfl)) ?_
        refine Tq.val (wn rfl) rfl (fun _ _ h1 h2 => run_load1 ag_3 (h1.ev rfl) (CellsAt.drop (rdR hRu251 hcu251 h2) 0) rfl) ?_
        refine Tq.val (wn rfl) rfl (fun _ _ h1 h2 => run_move (h1.ev rfl)) ?_
        refine Tq.val (wn rfl) rfl (fun _ _ h1 h2 => run_move (h1.ev rfl)) ?_
        have hoku253_0 := hoku253
        replace hoku253_0 : Sl w.R w.W fl_TSpan Au253_0 cu253_0 x252.spans := hoku253_0
        refine Tq.val (wn rfl) rfl (fun _ _ h1 h2 => run_indexAddr el_98 (h1.ev rfl) hp0_0.form (h1.ev rfl) hx2520 hx2521) ?_
        refine Tq.val (wn rfl) rfl (fun _ _ h1 h2 => run_fieldAddr fo_103_2 (h1.ev rfl)) ?_
        refine Tq.val (wn rfl) rfl (fun _ _ h1 h2 => run_load1 ag_100 (h1.ev rfl) (CellsAt.drop (rdR hRu253 hcu253 h2) 2) rfl) ?_
        refine Tq.val (wn rfl) rfl (fun _ _ h1 h2 => run_move (h1.ev rfl)) ?_
        refine Tq.val (wn rfl) rfl (fun _ _ h1 h2 => run_indexAddr el_100 (h1.ev rfl) hoku253_0.form (h1.ev rfl) hx2540 hx2541) ?_
        refine Tq.val (wn rfl) rfl (fun _ _ h1 h2 => run_fieldAddr fo_124_1 (h1.ev rfl)) ?_
        refine Tq.val (wn rfl) rfl (fun _ _ h1 h2 => run_load1 ag_3 (h1.ev rfl) (CellsAt.drop (rdF ef_TSpan hoku253_0 hx2542 h2) 1) rfl) ?_
        refine Tq.val (wn rfl) rfl (fun _ _ h1 h2 => run_move (h1.ev rfl)) ?_
        refine Tq.val (wn rfl) rfl (fun _ _ h1 h2 => run_move (h1.ev rfl)) ?_
        have hoku256_0 := hoku256
        replace hoku256_0 : Sl w.R w.W fl_TSpan Au256_0 cu256_0 x255.spans := hoku256_0
        refine Tq.val (wn rfl) rfl (fun _ _ h1 h2 => run_indexAddr el_98 (h1.ev rfl) hp0_0.form (h1.ev rfl) hx2550 hx2551) ?_
        refine Tq.val (wn rfl) rfl (fun _ _ h1 h2 => run_fieldAddr fo_103_1 (h1.ev rfl)) ?_
        refine Tq.val (wn rfl) rfl (fun _ _ h1 h2 => run_load1 ag_3 (h1.ev rfl) (CellsAt.drop (rdR hRu256 hcu256 h2) 1) rfl) ?_
        refine Tq.build (vs := [(0, (.int .i64 x249.from_)), (1, (.int .i64 x250.from_)), (2, (.int .i64 x254.to_)), (3, (.int .i64 x255.to_))]) (cs := [(.int .i64 x249.from_), (.int .i64 x250.from_), (.int .i64 x254.to_), (.int .i64 x255.to_)]) (wn rfl) rfl (evs_cons rfl (evs_cons rfl (evs_cons rfl (evs_cons rfl evs_nil)))) (by kernel_rfl) ?_
        refine Tq.mkFunc (vs := [(.agg #[(.int .i64 x249.from_), (.int .i64 x250.from_), (.int .i64 x254.to_), (.int .i64 x255.to_)])]) (wn rfl) rfl (evl_cons rfl evl_nil) ?_
        exact Tq.fin (.cons rfl (.cons rfl (.cons rfl (.cons rfl (.cons rfl (.cons rfl (.cons rfl (.cons rfl (.cons rfl (.cons rfl (.cons rfl (.cons rfl (.cons rfl (.cons rfl (.cons rfl (.cons rfl (.cons rfl (.cons rfl (.cons rfl (.cons rfl (.cons rfl (.cons rfl (.cons rfl (.cons rfl (.cons rfl (.cons rfl (.cons rfl (.cons rfl (.cons rfl (.cons rfl (.cons rfl (.cons rfl (.cons rfl (.cons rfl (.cons rfl (.cons rfl (.cons rfl (.cons rfl (.cons rfl (.cons rfl (.cons rfl (.cons rfl (.cons rfl .nil)))))))))))))))))))))))))))))))))))))))))))
      · intro bs246
        refine Tr.sel (lf := [(0, (.slice Ap0_0 (p0).length cp0_0)), (4, (.int .i64 x207)), (5, (.int .i64 x243)), (22, (.slice Al242 (l242).length cl242)), (52, (.slice (some ⟨(bs246 30), 0, none⟩) 1 1))]) (le := [(2, ow Al242 cl242 29 fl_TRect l242), (11, bx (bs246 30) #[(.int .i64 x249.from_), (.int .i64 x250.from_), (.int .i64 x254.to_), (.int .i64 x255.to_)] 29)]) (.cons rfl (.cons rfl (.cons rfl (.cons rfl (.cons rfl .nil))))) (.cons rfl (.cons rfl .nil)) ?_
        obtain ⟨l257, hl257, H⟩ := bnd H
        refine Tr.append 2 (t := fl_TRect) (l := l242) (l2 := [(TRect.mk x249.from_ x250.from_ x254.to_ x255.to_)]) (wn rfl) rfl rfl rfl rfl (fun W hW => ⟨[[(.int .i64 x249.from_), (.int .i64 x250.from_), (.int .i64 x254.to_), (.int .i64 x255.to_)]], (.cons ⟨(), trivial, rfl⟩ .nil), rdb hW (vs := [(.int .i64 x249.from_), (.int .i64 x250.from_), (.int .i64 x254.to_), (.int .i64 x255.to_)]) (k := 11) rfl 0⟩) un_22 sz_29 zl_29 (by decide) by_29 rfl hl257 fun Al257 cl257 hAl257 => ?_
        refine Tr.val (wn rfl) rfl (fun _ _ h1 h2 => run_assign (h1.ev rfl)) ?_
        refine Tr.nil (Tr.normBlock (Tr.normThen ?_))
        refine Tr.region ?_
        refine Tr.val (wn rfl) rfl (fun _ _ h1 h2 => run_move (h1.ev rfl)) ?_
        refine Tr.val (wn rfl) rfl (fun _ _ h1 h2 => run_add (h1.ev rfl) (h1.ev rfl)) ?_
        refine Tr.val (wn rfl) rfl (fun _ _ h1 h2 => run_assign (h1.ev rfl)) ?_
        refine Tr.nil ?_
        exact Tr.backThen leF_etchhouseref1_told_L4 (l257, (w64 (x243 + 1)), Al257, cl257) ⟨H, hAl257⟩ (.cons rfl (.cons rfl (.cons rfl (.cons rfl .nil)))) (.cons rfl .nil)
    · refine Tr.exit (Tr.exitThen (Tr.exitThen (Tr.exitBlock (Tr.normBlock (Tr.normThen ?_)))))
      refine Tr.region ?_
      refine Tr.val (wn rfl) rfl (fun _ _ h1 h2 => run_move (h1.ev rfl)) ?_
      refine Tr.val (wn rfl) rfl (fun _ _ h1 h2 => run_add (h1.ev rfl) (h1.ev rfl)) ?_
      refine Tr.val (wn rfl) rfl (fun _ _ h1 h2 => run_assign (h1.ev rfl)) ?_
      refine Tr.nil ?_
      exact Tr.backThen leF_etchhouseref1_told_L3 (l242, (w64 (x207 + 1)), Al242, cl242) ⟨H, hl242⟩ (.cons rfl (.cons rfl (.cons rfl .nil))) (.cons rfl .nil)
  · refine Tr.exit (Tr.exitThen (Tr.exitThen (Tr.exitBlock (Tr.normThen ?_))))
    refine Tr.seq ?_
    refine Tr.region ?_
    refine Tr.val (wn rfl) rfl (fun _ _ h1 h2 => run_move (h1.ev rfl)) ?_
    refine Tr.val (wn rfl) rfl (fun _ _ h1 h2 => run_assign (h1.ev rfl)) ?_
    refine Tr.nil (Tr.normThen ?_)
    refine Tr.ret ?_
    obtain rfl := Option.some.inj H
    exact Tr.out (m := [(.slice Al206 (l206).length cl206)]) [] (res_tmp rfl res_nil) (fun W hW => ⟨(Al206, cl206), rfl, hl206, HF.lowE leB (hW.pick (ks := [2]) (by decide) (pk_cons rfl pk_nil)) ⟨ow_any _ _ _ _ tr_TRect, trivial⟩⟩)

end Go.Proofs.Ytcebbfodkadggaa
