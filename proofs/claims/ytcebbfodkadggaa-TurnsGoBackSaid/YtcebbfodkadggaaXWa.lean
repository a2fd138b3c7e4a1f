/- The walks: each function computes its plain function. -/
import Derived.Test.YtcebbfodkadggaaXF
namespace Go.Proofs.Ytcebbfodkadggaa
open Go.RowKit
set_option maxRecDepth 100000
set_option maxHeartbeats 1000000
theorem F_shape_within_ok {w : Bs} (p0 : Int) (p1 : Int) (p2 : Int) (r : Bool) (H : F_shape_within p0 p1 p2 = some r) (hE : HF w w.W E0) : Calls Try.prog 67 [(.int .i64 p0), (.int .i64 p1), (.int .i64 p2)].toArray w.W fun e W' => e = .returned (.bool r) ∧ HF w W' E0 := by
  unfold F_shape_within at H
  have leB := Bs.Le.refl w
  refine Tr.enter (n := 15) Try.func67 rfl rfl rfl hE ?_
  refine Tr.seq ?_
  refine Tr.region ?_
  refine Tr.val (wn rfl) rfl (fun _ _ h1 h2 => run_assign (h1.ev rfl)) ?_
  refine Tr.nil (Tr.normThen ?_)
  refine Tr.seq ?_
  refine Tr.region ?_
  refine Tr.val (wn rfl) rfl (fun _ _ h1 h2 => run_move (h1.ev rfl)) ?_
  refine Tr.val (wn rfl) rfl (fun _ _ h1 h2 => run_move (h1.ev rfl)) ?_
  refine Tr.val (wn rfl) rfl (fun _ _ h1 h2 => run_geq (h1.ev rfl) (h1.ev rfl)) ?_
  refine Tr.val (wn rfl) rfl (fun _ _ h1 h2 => run_move (h1.ev rfl)) ?_
  refine Tr.mid0 4 [(14, (.bool ((decide (p1 ≤ p0)) && (decide (p0 ≤ p2)))))] [] ?_ ?_
  · cases hg99 : (decide (p1 ≤ p0))
    · refine Tr.pass rfl rfl rfl rfl rfl (by decide) ?_
      refine Tr.pass rfl rfl rfl rfl rfl (by decide) ?_
      refine Tr.pass rfl rfl rfl rfl rfl (by decide) ?_
      refine Tr.val (wn rfl) rfl (fun _ _ h1 h2 => run_pickF (h1.ev rfl) (h1.ev rfl)) ?_
      exact Tr.nil (Tr.fin0 (.cons rfl .nil) .nil)
    · refine Tr.val (wg rfl rfl rfl) rfl (fun _ _ h1 h2 => run_move (h1.ev rfl)) ?_
      refine Tr.val (wg rfl rfl rfl) rfl (fun _ _ h1 h2 => run_move (h1.ev rfl)) ?_
      refine Tr.val (wg rfl rfl rfl) rfl (fun _ _ h1 h2 => run_leq (h1.ev rfl) (h1.ev rfl)) ?_
      refine Tr.val (wn rfl) rfl (fun _ _ h1 h2 => run_pickT (h1.ev rfl) (h1.ev rfl)) ?_
      exact Tr.nil (Tr.fin0 (.cons rfl .nil) .nil)
  · show Tr _ _ (LF [(14, (.bool ((decide (p1 ≤ p0)) && (decide (p0 ≤ p2)))))]) (LE []) _
    refine Tr.val (wn rfl) rfl (fun _ _ h1 h2 => run_assign (h1.ev rfl)) ?_
    refine Tr.nil (Tr.normThen ?_)
    refine Tr.ret ?_
    obtain rfl := Option.some.inj H
    exact Tr.out (m := [(.bool ((decide (p1 ≤ p0)) && (decide (p0 ≤ p2))))]) [] (res_tmp rfl res_nil) (fun W hW => ⟨rfl, hW.low leB⟩)

theorem F_shape_IsAt_ok {w : Bs} (p0 : Int) (r : Bool) (H : F_shape_IsAt p0 = some r) (hE : HF w w.W E0) : Calls Try.prog 97 [(.int .i64 p0)].toArray w.W fun e W' => e = .returned (.bool r) ∧ HF w W' E0 := by
  unfold F_shape_IsAt at H
  have leB := Bs.Le.refl w
  refine Tr.enter (n := 5) Try.func97 rfl rfl rfl hE ?_
  refine Tr.seq ?_
  refine Tr.region ?_
  refine Tr.val (wn rfl) rfl (fun _ _ h1 h2 => run_assign (h1.ev rfl)) ?_
  refine Tr.nil (Tr.normThen ?_)
  refine Tr.seq ?_
  refine Tr.region ?_
  refine Tr.val (wn rfl) rfl (fun _ _ h1 h2 => run_move (h1.ev rfl)) ?_
  obtain ⟨y100, hy100, H⟩ := bnd H
  refine Tr.call0 (r := (.bool y100)) (wn rfl) rfl Try.call67 (evl_cons rfl (evl_cons rfl (evl_cons rfl evl_nil))) (fun W hW => F_shape_within_ok p0 (-1000000) 1000000 y100 hy100 (HF.start _)) ?_
  refine Tr.val (wn rfl) rfl (fun _ _ h1 h2 => run_assign (h1.ev rfl)) ?_
  refine Tr.nil (Tr.normThen ?_)
  refine Tr.ret ?_
  obtain rfl := Option.some.inj H
  exact Tr.out (m := [(.bool y100)]) [] (res_tmp rfl res_nil) (fun W hW => ⟨rfl, hW.low leB⟩)

theorem F_shape_IsPoint_ok {w : Bs} (p0 : TPoint) (r : Bool) (H : F_shape_IsPoint p0 = some r) (hE : HF w w.W E0) : Calls Try.prog 59 [(.agg #[(.int .i64 p0.X), (.int .i64 p0.Y)])].toArray w.W fun e W' => e = .returned (.bool r) ∧ HF w W' E0 := by
  unfold F_shape_IsPoint at H
  have leB := Bs.Le.refl w
  refine Tr.enter (n := 11) Try.func59 rfl rfl rfl hE ?_
  refine Tr.seq ?_
  refine Tr.region ?_
  refine Tr.box 1 (cs := [(.int .i64 p0.X), (.int .i64 p0.Y)]) (wn rfl) rfl rfl rfl fun b100 => ?_
  refine Tr.val (wn rfl) rfl (fun _ _ h1 h2 => run_assign (h1.ev rfl)) ?_
  refine Tr.nil (Tr.normThen ?_)
  refine Tr.seq ?_
  refine Tr.region ?_
  refine Tr.val (wn rfl) rfl (fun _ _ h1 h2 => run_fieldAddr fo_35_0 (h1.ev rfl)) ?_
  refine Tr.val (wn rfl) rfl (fun _ _ h1 h2 => run_load1 ag_3 (h1.ev rfl) (rdb h2 (vs := [(.int .i64 p0.X), (.int .i64 p0.Y)]) (k := 1) rfl 0) rfl) ?_
  obtain ⟨y101, hy101, H⟩ := bnd H
  refine Tr.call0 (r := (.bool y101)) (wn rfl) rfl Try.call97 (evl_cons rfl evl_nil) (fun W hW => F_shape_IsAt_ok p0.X y101 hy101 (HF.start _)) ?_
  refine Tr.val (wn rfl) rfl (fun _ _ h1 h2 => run_move (h1.ev rfl)) ?_
  obtain ⟨g103, hg103, H⟩ := bnd H
  refine Tr.mid0 4 [(10, (.bool g103))] [(1, bx b100 #[(.int .i64 p0.X), (.int .i64 p0.Y)] 35)] ?_ ?_
  · cases hg104 : y101
    · rw [hg104] at hg103
      rw [if_neg (by decide)] at hg103
      have H := hg103
      obtain rfl := Option.some.inj H
      refine Tr.pass rfl rfl rfl rfl rfl (by decide) ?_
      refine Tr.pass rfl rfl rfl rfl rfl (by decide) ?_
      refine Tr.pass rfl rfl rfl rfl rfl (by decide) ?_
      refine Tr.val (wn rfl) rfl (fun _ _ h1 h2 => run_pickF (h1.ev rfl) (h1.ev rfl)) ?_
      exact Tr.nil (Tr.fin0 (.cons rfl .nil) (.cons rfl .nil))
    · rw [hg104] at hg103
      rw [if_pos rfl] at hg103
      have H := hg103
      refine Tr.val (wg rfl rfl rfl) rfl (fun _ _ h1 h2 => run_fieldAddr fo_35_1 (h1.ev rfl)) ?_
      refine Tr.val (wg rfl rfl rfl) rfl (fun _ _ h1 h2 => run_load1 ag_3 (h1.ev rfl) (rdb h2 (vs := [(.int .i64 p0.X), (.int .i64 p0.Y)]) (k := 1) rfl 1) rfl) ?_
      obtain ⟨y104, hy104, H⟩ := bnd H
      refine Tr.call0 (r := (.bool y104)) (wg rfl rfl rfl) rfl Try.call97 (evl_cons rfl evl_nil) (fun W hW => F_shape_IsAt_ok p0.Y y104 hy104 (HF.start _)) ?_
      refine Tr.val (wn rfl) rfl (fun _ _ h1 h2 => run_pickT (h1.ev rfl) (h1.ev rfl)) ?_
      obtain rfl := Option.some.inj H
      exact Tr.nil (Tr.fin0 (.cons rfl .nil) (.cons rfl .nil))
  · show Tr _ _ (LF [(10, (.bool g103))]) (LE [(1, bx b100 #[(.int .i64 p0.X), (.int .i64 p0.Y)] 35)]) _
    refine Tr.val (wn rfl) rfl (fun _ _ h1 h2 => run_assign (h1.ev rfl)) ?_
    refine Tr.nil (Tr.normThen ?_)
    refine Tr.ret ?_
    obtain rfl := Option.some.inj H
    exact Tr.out (m := [(.bool g103)]) [] (res_tmp rfl res_nil) (fun W hW => ⟨rfl, hW.low leB⟩)

theorem F_shape_CheckTurn_ok {w : Bs} (p0 : TTurn) (r : Int) (H : F_shape_CheckTurn p0 = some r) (hE : HF w w.W E0) : Calls Try.prog 29 [(.agg #[(.bool p0.Flip), (.int .i64 p0.Quarters), (.int .i64 p0.At.X), (.int .i64 p0.At.Y)])].toArray w.W fun e W' => e = .returned (.int .i64 r) ∧ HF w W' E0 := by
  unfold F_shape_CheckTurn at H
  have leB := Bs.Le.refl w
  refine Tr.enter (n := 13) Try.func29 rfl rfl rfl hE ?_
  refine Tr.seq ?_
  refine Tr.region ?_
  refine Tr.box 1 (cs := [(.bool p0.Flip), (.int .i64 p0.Quarters), (.int .i64 p0.At.X), (.int .i64 p0.At.Y)]) (wn rfl) rfl rfl rfl fun b100 => ?_
  refine Tr.val (wn rfl) rfl (fun _ _ h1 h2 => run_assign (h1.ev rfl)) ?_
  refine Tr.nil (Tr.normThen ?_)
  refine Tr.seq ?_
  refine Tr.seq ?_
  refine Tr.region ?_
  refine Tr.val (wn rfl) rfl (fun _ _ h1 h2 => run_fieldAddr fo_42_1 (h1.ev rfl)) ?_
  refine Tr.val (wn rfl) rfl (fun _ _ h1 h2 => run_load1 ag_3 (h1.ev rfl) (rdb h2 (vs := [(.bool p0.Flip), (.int .i64 p0.Quarters), (.int .i64 p0.At.X), (.int .i64 p0.At.Y)]) (k := 1) rfl 1) rfl) ?_
  obtain ⟨y101, hy101, H⟩ := bnd H
  refine Tr.call0 (r := (.bool y101)) (wn rfl) rfl Try.call67 (evl_cons rfl (evl_cons rfl (evl_cons rfl evl_nil))) (fun W hW => F_shape_within_ok p0.Quarters 0 3 y101 hy101 (HF.start _)) ?_
  refine Tr.val (wn rfl) rfl (fun _ _ h1 h2 => run_not (h1.ev rfl)) ?_
  refine Tr.val (wn rfl) rfl (fun _ _ h1 h2 => run_move (h1.ev rfl)) ?_
  obtain ⟨g103, hg103, H⟩ := bnd H
  refine Tr.mid0 5 [(12, (.bool g103))] [(1, bx b100 #[(.bool p0.Flip), (.int .i64 p0.Quarters), (.int .i64 p0.At.X), (.int .i64 p0.At.Y)] 42)] ?_ ?_
  · cases hg104 : (!y101)
    · rw [hg104] at hg103
      rw [if_neg (by decide)] at hg103
      have H := hg103
      refine Tr.val (wg rfl rfl rfl) rfl (fun _ _ h1 h2 => run_fieldAddr fo_42_2 (h1.ev rfl)) ?_
      refine Tr.val (wg rfl rfl rfl) rfl (fun _ _ h1 h2 => run_loadN (cs := [(.int .i64 p0.At.X), (.int .i64 p0.At.Y)]) ag_35 sz_35 (h1.ev rfl) (CellsAt.take (rdb h2 (vs := [(.bool p0.Flip), (.int .i64 p0.Quarters), (.int .i64 p0.At.X), (.int .i64 p0.At.Y)]) (k := 1) rfl 2) 2) rfl) ?_
      obtain ⟨y104, hy104, H⟩ := bnd H
      refine Tr.call0 (r := (.bool y104)) (wg rfl rfl rfl) rfl Try.call59 (evl_cons rfl evl_nil) (fun W hW => F_shape_IsPoint_ok p0.At y104 hy104 (HF.start _)) ?_
      refine Tr.val (wg rfl rfl rfl) rfl (fun _ _ h1 h2 => run_not (h1.ev rfl)) ?_
      refine Tr.val (wn rfl) rfl (fun _ _ h1 h2 => run_pickF (h1.ev rfl) (h1.ev rfl)) ?_
      obtain rfl := Option.some.inj H
      exact Tr.nil (Tr.fin0 (.cons rfl .nil) (.cons rfl .nil))
    · rw [hg104] at hg103
      rw [if_pos rfl] at hg103
      have H := hg103
      obtain rfl := Option.some.inj H
      refine Tr.pass rfl rfl rfl rfl rfl (by decide) ?_
      refine Tr.pass rfl rfl rfl rfl rfl (by decide) ?_
      refine Tr.pass rfl rfl rfl rfl rfl (by decide) ?_
      refine Tr.pass rfl rfl rfl rfl rfl (by decide) ?_
      refine Tr.val (wn rfl) rfl (fun _ _ h1 h2 => run_pickT (h1.ev rfl) (h1.ev rfl)) ?_
      exact Tr.nil (Tr.fin0 (.cons rfl .nil) (.cons rfl .nil))
  · show Tr _ _ (LF [(12, (.bool g103))]) (LE [(1, bx b100 #[(.bool p0.Flip), (.int .i64 p0.Quarters), (.int .i64 p0.At.X), (.int .i64 p0.At.Y)] 42)]) _
    refine Tr.nil (Tr.normThen ?_)
    refine Tr.cond rfl H (fun H => ?_) (fun H => ?_)
    · refine Tr.seq ?_
      refine Tr.region ?_
      refine Tr.val (wn rfl) rfl (fun _ _ h1 h2 => run_assign (h1.ev rfl)) ?_
      refine Tr.nil (Tr.normThen ?_)
      refine Tr.ret (Tr.retThen ?_)
      obtain rfl := Option.some.inj H
      exact Tr.out (m := [(.int .i64 1)]) [] (res_tmp rfl res_nil) (fun W hW => ⟨rfl, hW.low leB⟩)
    · refine Tr.skip (Tr.normThen ?_)
      refine Tr.seq ?_
      refine Tr.region ?_
      refine Tr.val (wn rfl) rfl (fun _ _ h1 h2 => run_assign (h1.ev rfl)) ?_
      refine Tr.nil (Tr.normThen ?_)
      refine Tr.ret ?_
      obtain rfl := Option.some.inj H
      exact Tr.out (m := [(.int .i64 0)]) [] (res_tmp rfl res_nil) (fun W hW => ⟨rfl, hW.low leB⟩)

theorem F_shape_TurnPoint_ok (N : Nat) {w : Bs} (p0 : TPoint) (p1 : TTurn) (r : TPoint) (H : F_shape_TurnPoint N p0 p1 = some r) (hE : HF w w.W E0) : Calls Try.prog 65 [(.agg #[(.int .i64 p0.X), (.int .i64 p0.Y)]), (.agg #[(.bool p1.Flip), (.int .i64 p1.Quarters), (.int .i64 p1.At.X), (.int .i64 p1.At.Y)])].toArray w.W fun e W' => e = .returned (.agg #[(.int .i64 r.X), (.int .i64 r.Y)]) ∧ HF w W' E0 := by
  unfold F_shape_TurnPoint at H
  have leB := Bs.Le.refl w
  refine Tr.enter (n := 36) Try.func65 rfl rfl rfl hE ?_
  refine Tr.seq ?_
  refine Tr.region ?_
  refine Tr.box 1 (cs := [(.int .i64 p0.X), (.int .i64 p0.Y)]) (wn rfl) rfl rfl rfl fun b100 => ?_
  refine Tr.box 2 (cs := [(.bool p1.Flip), (.int .i64 p1.Quarters), (.int .i64 p1.At.X), (.int .i64 p1.At.Y)]) (wn rfl) rfl rfl rfl fun b101 => ?_
  refine Tr.alloc 3 (wn rfl) rfl ze_35 fun b102 => ?_
  refine Tr.nil (Tr.normThen ?_)
  have leJ104 := Bs.Le.refl w
  refine Tr.cutJ (σ := Int) (fun w s => F_shape_TurnPoint_J2 N p0 p1 s = some r) (fun s => [(2, (.pointer (some ⟨b100, 0, none⟩))), (3, (.pointer (some ⟨b101, 0, none⟩))), (4, (.pointer (some ⟨b102, 0, none⟩)))]) (fun s => [(1, bx b100 #[(.int .i64 s), (.int .i64 p0.Y)] 35), (2, bx b101 #[(.bool p1.Flip), (.int .i64 p1.Quarters), (.int .i64 p1.At.X), (.int .i64 p1.At.Y)] 42), (3, bx b102 #[(.int .i64 0), (.int .i64 0)] 35)]) ?_ ?_
  · refine Tr.seq ?_
    refine Tr.region ?_
    refine Tr.val (wn rfl) rfl (fun _ _ h1 h2 => run_fieldAddr fo_42_0 (h1.ev rfl)) ?_
    refine Tr.val (wn rfl) rfl (fun _ _ h1 h2 => run_load1 ag_4 (h1.ev rfl) (rdb h2 (vs := [(.bool p1.Flip), (.int .i64 p1.Quarters), (.int .i64 p1.At.X), (.int .i64 p1.At.Y)]) (k := 2) rfl 0) rfl) ?_
    refine Tr.nil (Tr.normThen ?_)
    refine Tr.cond rfl H (fun H => ?_) (fun H => ?_)
    · refine Tr.region ?_
      refine Tr.val (wn rfl) rfl (fun _ _ h1 h2 => run_fieldAddr fo_35_0 (h1.ev rfl)) ?_
      refine Tr.val (wn rfl) rfl (fun _ _ h1 h2 => run_load1 ag_3 (h1.ev rfl) (rdb h2 (vs := [(.int .i64 p0.X), (.int .i64 p0.Y)]) (k := 1) rfl 0) rfl) ?_
      refine Tr.val (wn rfl) rfl (fun _ _ h1 h2 => run_neg (h1.ev rfl)) ?_
      refine Tr.val (wn rfl) rfl (fun _ _ h1 h2 => run_fieldAddr fo_35_0 (h1.ev rfl)) ?_
      refine Tr.store 1 (cs := [(.int .i64 (w64 (0 - p0.X)))]) [(.int .i64 (w64 (0 - p0.X))), (.int .i64 p0.Y)] (wn rfl) rfl rfl rfl rfl sz_3 rfl rfl rfl ?_
      refine Tr.nil ?_
      exact Tr.backThen leJ104 (w64 (0 - p0.X)) H (.cons rfl (.cons rfl (.cons rfl .nil))) (.cons rfl (.cons rfl (.cons rfl .nil)))
    · refine Tr.skip ?_
      exact Tr.backThen leJ104 p0.X H (.cons rfl (.cons rfl (.cons rfl .nil))) (.cons rfl (.cons rfl (.cons rfl .nil)))
  · intro w x103 hlJ105 hs
    have H := hs
    replace H : F_shape_TurnPoint_J2 N p0 p1 x103 = some r := H
    replace leB := leB.trans hlJ105
    unfold F_shape_TurnPoint_J2 at H
    show Tr _ _ (LF [(2, (.pointer (some ⟨b100, 0, none⟩))), (3, (.pointer (some ⟨b101, 0, none⟩))), (4, (.pointer (some ⟨b102, 0, none⟩)))]) (LE [(1, bx b100 #[(.int .i64 x103), (.int .i64 p0.Y)] 35), (2, bx b101 #[(.bool p1.Flip), (.int .i64 p1.Quarters), (.int .i64 p1.At.X), (.int .i64 p1.At.Y)] 42), (3, bx b102 #[(.int .i64 0), (.int .i64 0)] 35)]) _
    refine Tr.seq ?_
    refine Tr.seq ?_
    refine Tr.region ?_
    refine Tr.val (wn rfl) rfl (fun _ _ h1 h2 => run_fieldAddr fo_42_1 (h1.ev rfl)) ?_
    refine Tr.val (wn rfl) rfl (fun _ _ h1 h2 => run_load1 ag_3 (h1.ev rfl) (rdb h2 (vs := [(.bool p1.Flip), (.int .i64 p1.Quarters), (.int .i64 p1.At.X), (.int .i64 p1.At.Y)]) (k := 2) rfl 1) rfl) ?_
    refine Tr.val (wn rfl) rfl (fun _ _ h1 h2 => run_move (h1.ev rfl)) ?_
    refine Tr.nil (Tr.normThen ?_)
    refine Tr.block ?_
    refine Tr.loop (σ := Int × Int × Int) (fun m w s => F_shape_TurnPoint_L1 p1 m s.1 s.2.1 s.2.2 = some r) (fun s => [(2, (.pointer (some ⟨b100, 0, none⟩))), (3, (.pointer (some ⟨b101, 0, none⟩))), (4, (.pointer (some ⟨b102, 0, none⟩))), (12, (.int .i64 p1.Quarters)), (13, (.int .i64 s.2.2))]) (fun s => [(1, bx b100 #[(.int .i64 s.1), (.int .i64 s.2.1)] 35), (2, bx b101 #[(.bool p1.Flip), (.int .i64 p1.Quarters), (.int .i64 p1.At.X), (.int .i64 p1.At.Y)] 42), (3, bx b102 #[(.int .i64 0), (.int .i64 0)] 35)]) N (x103, p0.Y, 0) H (.cons rfl (.cons rfl (.cons rfl (.cons rfl (.cons rfl .nil))))) (.cons rfl (.cons rfl (.cons rfl .nil))) (fun _ _ h => noSome (h)) ?_
    intro w leF_shape_TurnPoint_L1 mF_shape_TurnPoint_L1 s hs
    obtain ⟨x115, x116, x117⟩ := s
    have H := hs
    replace H : F_shape_TurnPoint_L1 p1 (mF_shape_TurnPoint_L1 + 1) x115 x116 x117 = some r := H
    replace leB := leB.trans leF_shape_TurnPoint_L1
    rw [F_shape_TurnPoint_L1.eq_2] at H
    show Tr _ _ (LF [(2, (.pointer (some ⟨b100, 0, none⟩))), (3, (.pointer (some ⟨b101, 0, none⟩))), (4, (.pointer (some ⟨b102, 0, none⟩))), (12, (.int .i64 p1.Quarters)), (13, (.int .i64 x117))]) (LE [(1, bx b100 #[(.int .i64 x115), (.int .i64 x116)] 35), (2, bx b101 #[(.bool p1.Flip), (.int .i64 p1.Quarters), (.int .i64 p1.At.X), (.int .i64 p1.At.Y)] 42), (3, bx b102 #[(.int .i64 0), (.int .i64 0)] 35)]) _
    refine Tr.seq ?_
    refine Tr.region ?_
    refine Tr.val (wn rfl) rfl (fun _ _ h1 h2 => run_lss (h1.ev rfl) (h1.ev rfl)) ?_
    refine Tr.nil (Tr.normThen ?_)
    refine Tr.seq ?_
    refine Tr.cond rfl H (fun H => ?_) (fun H => ?_)
    · refine Tr.skip (Tr.normThen ?_)
      refine Tr.seq ?_
      refine Tr.block ?_
      refine Tr.region ?_
      refine Tr.val (wn rfl) rfl (fun _ _ h1 h2 => run_fieldAddr fo_35_1 (h1.ev rfl)) ?_
      refine Tr.val (wn rfl) rfl (fun _ _ h1 h2 => run_load1 ag_3 (h1.ev rfl) (rdb h2 (vs := [(.int .i64 x115), (.int .i64 x116)]) (k := 1) rfl 1) rfl) ?_
      refine Tr.val (wn rfl) rfl (fun _ _ h1 h2 => run_neg (h1.ev rfl)) ?_
      refine Tr.val (wn rfl) rfl (fun _ _ h1 h2 => run_fieldAddr fo_35_0 (h1.ev rfl)) ?_
      refine Tr.val (wn rfl) rfl (fun _ _ h1 h2 => run_load1 ag_3 (h1.ev rfl) (rdb h2 (vs := [(.int .i64 x115), (.int .i64 x116)]) (k := 1) rfl 0) rfl) ?_
      refine Tr.val (wn rfl) rfl (fun _ _ h1 h2 => run_fieldAddr fo_35_0 (h1.ev rfl)) ?_
      refine Tr.store 1 (cs := [(.int .i64 (w64 (0 - x116)))]) [(.int .i64 (w64 (0 - x116))), (.int .i64 x116)] (wn rfl) rfl rfl rfl rfl sz_3 rfl rfl rfl ?_
      refine Tr.val (wn rfl) rfl (fun _ _ h1 h2 => run_fieldAddr fo_35_1 (h1.ev rfl)) ?_
      refine Tr.store 1 (cs := [(.int .i64 x115)]) [(.int .i64 (w64 (0 - x116))), (.int .i64 x115)] (wn rfl) rfl rfl rfl rfl sz_3 rfl rfl rfl ?_
      refine Tr.nil (Tr.normBlock (Tr.normThen ?_))
      refine Tr.region ?_
      refine Tr.val (wn rfl) rfl (fun _ _ h1 h2 => run_add (h1.ev rfl) (h1.ev rfl)) ?_
      refine Tr.val (wn rfl) rfl (fun _ _ h1 h2 => run_move (h1.ev rfl)) ?_
      refine Tr.nil ?_
      exact Tr.backThen leF_shape_TurnPoint_L1 ((w64 (0 - x116)), x115, (w64 (x117 + 1))) H (.cons rfl (.cons rfl (.cons rfl (.cons rfl (.cons rfl .nil))))) (.cons rfl (.cons rfl (.cons rfl .nil)))
    · refine Tr.exit (Tr.exitThen (Tr.exitThen (Tr.exitBlock (Tr.normThen ?_))))
      refine Tr.seq ?_
      refine Tr.region ?_
      refine Tr.val (wn rfl) rfl (fun _ _ h1 h2 => run_fieldAddr fo_35_0 (h1.ev rfl)) ?_
      refine Tr.val (wn rfl) rfl (fun _ _ h1 h2 => run_load1 ag_3 (h1.ev rfl) (rdb h2 (vs := [(.int .i64 x115), (.int .i64 x116)]) (k := 1) rfl 0) rfl) ?_
      refine Tr.val (wn rfl) rfl (fun _ _ h1 h2 => run_fieldAddr fo_42_2 (h1.ev rfl)) ?_
      refine Tr.val (wn rfl) rfl (fun _ _ h1 h2 => run_fieldAddr fo_35_0 (h1.ev rfl)) ?_
      refine Tr.val (wn rfl) rfl (fun _ _ h1 h2 => run_load1 ag_3 (h1.ev rfl) (rdb h2 (vs := [(.bool p1.Flip), (.int .i64 p1.Quarters), (.int .i64 p1.At.X), (.int .i64 p1.At.Y)]) (k := 2) rfl 2) rfl) ?_
      refine Tr.val (wn rfl) rfl (fun _ _ h1 h2 => run_add (h1.ev rfl) (h1.ev rfl)) ?_
      refine Tr.val (wn rfl) rfl (fun _ _ h1 h2 => run_fieldAddr fo_35_1 (h1.ev rfl)) ?_
      refine Tr.val (wn rfl) rfl (fun _ _ h1 h2 => run_load1 ag_3 (h1.ev rfl) (rdb h2 (vs := [(.int .i64 x115), (.int .i64 x116)]) (k := 1) rfl 1) rfl) ?_
      refine Tr.val (wn rfl) rfl (fun _ _ h1 h2 => run_fieldAddr fo_42_2 (h1.ev rfl)) ?_
      refine Tr.val (wn rfl) rfl (fun _ _ h1 h2 => run_fieldAddr fo_35_1 (h1.ev rfl)) ?_
      refine Tr.val (wn rfl) rfl (fun _ _ h1 h2 => run_load1 ag_3 (h1.ev rfl) (rdb h2 (vs := [(.bool p1.Flip), (.int .i64 p1.Quarters), (.int .i64 p1.At.X), (.int .i64 p1.At.Y)]) (k := 2) rfl 3) rfl) ?_
      refine Tr.val (wn rfl) rfl (fun _ _ h1 h2 => run_add (h1.ev rfl) (h1.ev rfl)) ?_
      refine Tr.build (vs := [(0, (.int .i64 (w64 (x115 + p1.At.X)))), (1, (.int .i64 (w64 (x116 + p1.At.Y))))]) (cs := [(.int .i64 (w64 (x115 + p1.At.X))), (.int .i64 (w64 (x116 + p1.At.Y)))]) (wn rfl) rfl (evs_cons rfl (evs_cons rfl evs_nil)) (by kernel_rfl) ?_
      refine Tr.store 3 (cs := [(.int .i64 (w64 (x115 + p1.At.X))), (.int .i64 (w64 (x116 + p1.At.Y)))]) [(.int .i64 (w64 (x115 + p1.At.X))), (.int .i64 (w64 (x116 + p1.At.Y)))] (wn rfl) rfl rfl rfl rfl sz_35 rfl rfl rfl ?_
      refine Tr.nil (Tr.normThen ?_)
      refine Tr.ret ?_
      obtain rfl := Option.some.inj H
      exact Tr.out (m := [(.agg #[(.int .i64 (w64 (x115 + p1.At.X))), (.int .i64 (w64 (x116 + p1.At.Y)))])]) [3] (res_cell rfl rfl ag_35 sz_35 res_nil) (fun W hW => ⟨rfl, hW.low leB⟩)

theorem F_shape_Turned_ok (N : Nat) {w : Bs} (p0 : TPoint) (p1 : TTurn) (r : (TPoint × Int)) (H : F_shape_Turned N p0 p1 = some r) (hE : HF w w.W E0) : Calls Try.prog 27 [(.agg #[(.int .i64 p0.X), (.int .i64 p0.Y)]), (.agg #[(.bool p1.Flip), (.int .i64 p1.Quarters), (.int .i64 p1.At.X), (.int .i64 p1.At.Y)])].toArray w.W fun e W' => e = .returned (.tuple #[(.agg #[(.int .i64 r.1.X), (.int .i64 r.1.Y)]), (.int .i64 r.2)]) ∧ HF w W' E0 := by
  unfold F_shape_Turned at H
  have leB := Bs.Le.refl w
  refine Tr.enter (n := 25) Try.func27 rfl rfl rfl hE ?_
  refine Tr.seq ?_
  refine Tr.region ?_
  refine Tr.box 1 (cs := [(.int .i64 p0.X), (.int .i64 p0.Y)]) (wn rfl) rfl rfl rfl fun b100 => ?_
  refine Tr.box 2 (cs := [(.bool p1.Flip), (.int .i64 p1.Quarters), (.int .i64 p1.At.X), (.int .i64 p1.At.Y)]) (wn rfl) rfl rfl rfl fun b101 => ?_
  refine Tr.alloc 3 (wn rfl) rfl ze_35 fun b102 => ?_
  refine Tr.val (wn rfl) rfl (fun _ _ h1 h2 => run_assign (h1.ev rfl)) ?_
  refine Tr.nil (Tr.normThen ?_)
  refine Tr.seq ?_
  refine Tr.seq ?_
  refine Tr.region ?_
  refine Tr.val (wn rfl) rfl (fun _ _ h1 h2 => run_loadN (cs := [(.bool p1.Flip), (.int .i64 p1.Quarters), (.int .i64 p1.At.X), (.int .i64 p1.At.Y)]) ag_42 sz_42 (h1.ev rfl) (CellsAt.take (rdb h2 (vs := [(.bool p1.Flip), (.int .i64 p1.Quarters), (.int .i64 p1.At.X), (.int .i64 p1.At.Y)]) (k := 2) rfl 0) 4) rfl) ?_
  obtain ⟨y103, hy103, H⟩ := bnd H
  refine Tr.call0 (r := (.int .i64 y103)) (wn rfl) rfl Try.call29 (evl_cons rfl evl_nil) (fun W hW => F_shape_CheckTurn_ok p1 y103 hy103 (HF.start _)) ?_
  refine Tr.val (wn rfl) rfl (fun _ _ h1 h2 => run_assign (h1.ev rfl)) ?_
  refine Tr.nil (Tr.normThen ?_)
  refine Tr.seq ?_
  refine Tr.region ?_
  refine Tr.val (wn rfl) rfl (fun _ _ h1 h2 => run_move (h1.ev rfl)) ?_
  refine Tr.val (wn rfl) rfl (fun _ _ h1 h2 => run_neq (h1.ev rfl) (h1.ev rfl)) ?_
  refine Tr.nil (Tr.normThen ?_)
  refine Tr.cond rfl H (fun H => ?_) (fun H => ?_)
  · refine Tr.seq ?_
    refine Tr.region ?_
    refine Tr.build (vs := []) (cs := [(.int .i64 0), (.int .i64 0)]) (wn rfl) rfl evs_nil (by kernel_rfl) ?_
    refine Tr.val (wn rfl) rfl (fun _ _ h1 h2 => run_move (h1.ev rfl)) ?_
    refine Tr.store 3 (cs := [(.int .i64 0), (.int .i64 0)]) [(.int .i64 0), (.int .i64 0)] (wn rfl) rfl rfl rfl rfl sz_35 rfl rfl rfl ?_
    refine Tr.val (wn rfl) rfl (fun _ _ h1 h2 => run_assign (h1.ev rfl)) ?_
    refine Tr.nil (Tr.normThen ?_)
    refine Tr.ret (Tr.retThen ?_)
    obtain rfl := Option.some.inj H
    exact Tr.out (m := [(.agg #[(.int .i64 0), (.int .i64 0)]), (.int .i64 y103)]) [3] (res_cell rfl rfl ag_35 sz_35 (res_tmp rfl res_nil)) (fun W hW => ⟨rfl, hW.low leB⟩)
  · refine Tr.skip (Tr.normThen ?_)
    refine Tr.seq ?_
    refine Tr.seq ?_
    refine Tr.region ?_
    refine Tr.val (wn rfl) rfl (fun _ _ h1 h2 => run_loadN (cs := [(.int .i64 p0.X), (.int .i64 p0.Y)]) ag_35 sz_35 (h1.ev rfl) (CellsAt.take (rdb h2 (vs := [(.int .i64 p0.X), (.int .i64 p0.Y)]) (k := 1) rfl 0) 2) rfl) ?_
    obtain ⟨y104, hy104, H⟩ := bnd H
    refine Tr.call0 (r := (.bool y104)) (wn rfl) rfl Try.call59 (evl_cons rfl evl_nil) (fun W hW => F_shape_IsPoint_ok p0 y104 hy104 (HF.start _)) ?_
    refine Tr.val (wn rfl) rfl (fun _ _ h1 h2 => run_not (h1.ev rfl)) ?_
    refine Tr.nil (Tr.normThen ?_)
    refine Tr.cond rfl H (fun H => ?_) (fun H => ?_)
    · refine Tr.seq ?_
      refine Tr.region ?_
      refine Tr.build (vs := []) (cs := [(.int .i64 0), (.int .i64 0)]) (wn rfl) rfl evs_nil (by kernel_rfl) ?_
      refine Tr.store 3 (cs := [(.int .i64 0), (.int .i64 0)]) [(.int .i64 0), (.int .i64 0)] (wn rfl) rfl rfl rfl rfl sz_35 rfl rfl rfl ?_
      refine Tr.val (wn rfl) rfl (fun _ _ h1 h2 => run_assign (h1.ev rfl)) ?_
      refine Tr.nil (Tr.normThen ?_)
      refine Tr.ret (Tr.retThen ?_)
      obtain rfl := Option.some.inj H
      exact Tr.out (m := [(.agg #[(.int .i64 0), (.int .i64 0)]), (.int .i64 1)]) [3] (res_cell rfl rfl ag_35 sz_35 (res_tmp rfl res_nil)) (fun W hW => ⟨rfl, hW.low leB⟩)
    · refine Tr.skip (Tr.normThen ?_)
      refine Tr.seq ?_
      refine Tr.region ?_
      refine Tr.val (wn rfl) rfl (fun _ _ h1 h2 => run_loadN (cs := [(.int .i64 p0.X), (.int .i64 p0.Y)]) ag_35 sz_35 (h1.ev rfl) (CellsAt.take (rdb h2 (vs := [(.int .i64 p0.X), (.int .i64 p0.Y)]) (k := 1) rfl 0) 2) rfl) ?_
      refine Tr.val (wn rfl) rfl (fun _ _ h1 h2 => run_loadN (cs := [(.bool p1.Flip), (.int .i64 p1.Quarters), (.int .i64 p1.At.X), (.int .i64 p1.At.Y)]) ag_42 sz_42 (h1.ev rfl) (CellsAt.take (rdb h2 (vs := [(.bool p1.Flip), (.int .i64 p1.Quarters), (.int .i64 p1.At.X), (.int .i64 p1.At.Y)]) (k := 2) rfl 0) 4) rfl) ?_
      obtain ⟨y105, hy105, H⟩ := bnd H
      refine Tr.call0 (r := (.agg #[(.int .i64 y105.X), (.int .i64 y105.Y)])) (wn rfl) rfl Try.call65 (evl_cons rfl (evl_cons rfl evl_nil)) (fun W hW => F_shape_TurnPoint_ok N p0 p1 y105 hy105 (HF.start _)) ?_
      refine Tr.store 1 (cs := [(.int .i64 y105.X), (.int .i64 y105.Y)]) [(.int .i64 y105.X), (.int .i64 y105.Y)] (wn rfl) rfl rfl rfl rfl sz_35 rfl rfl rfl ?_
      refine Tr.nil (Tr.normThen ?_)
      refine Tr.seq ?_
      refine Tr.seq ?_
      refine Tr.region ?_
      refine Tr.val (wn rfl) rfl (fun _ _ h1 h2 => run_loadN (cs := [(.int .i64 y105.X), (.int .i64 y105.Y)]) ag_35 sz_35 (h1.ev rfl) (CellsAt.take (rdb h2 (vs := [(.int .i64 y105.X), (.int .i64 y105.Y)]) (k := 1) rfl 0) 2) rfl) ?_
      obtain ⟨y106, hy106, H⟩ := bnd H
      refine Tr.call0 (r := (.bool y106)) (wn rfl) rfl Try.call59 (evl_cons rfl evl_nil) (fun W hW => F_shape_IsPoint_ok y105 y106 hy106 (HF.start _)) ?_
      refine Tr.val (wn rfl) rfl (fun _ _ h1 h2 => run_not (h1.ev rfl)) ?_
      refine Tr.nil (Tr.normThen ?_)
      refine Tr.cond rfl H (fun H => ?_) (fun H => ?_)
      · refine Tr.seq ?_
        refine Tr.region ?_
        refine Tr.build (vs := []) (cs := [(.int .i64 0), (.int .i64 0)]) (wn rfl) rfl evs_nil (by kernel_rfl) ?_
        refine Tr.store 3 (cs := [(.int .i64 0), (.int .i64 0)]) [(.int .i64 0), (.int .i64 0)] (wn rfl) rfl rfl rfl rfl sz_35 rfl rfl rfl ?_
        refine Tr.val (wn rfl) rfl (fun _ _ h1 h2 => run_assign (h1.ev rfl)) ?_
        refine Tr.nil (Tr.normThen ?_)
        refine Tr.ret (Tr.retThen ?_)
        obtain rfl := Option.some.inj H
        exact Tr.out (m := [(.agg #[(.int .i64 0), (.int .i64 0)]), (.int .i64 1)]) [3] (res_cell rfl rfl ag_35 sz_35 (res_tmp rfl res_nil)) (fun W hW => ⟨rfl, hW.low leB⟩)
      · refine Tr.skip (Tr.normThen ?_)
        refine Tr.seq ?_
        refine Tr.region ?_
        refine Tr.val (wn rfl) rfl (fun _ _ h1 h2 => run_loadN (cs := [(.int .i64 y105.X), (.int .i64 y105.Y)]) ag_35 sz_35 (h1.ev rfl) (CellsAt.take (rdb h2 (vs := [(.int .i64 y105.X), (.int .i64 y105.Y)]) (k := 1) rfl 0) 2) rfl) ?_
        refine Tr.store 3 (cs := [(.int .i64 y105.X), (.int .i64 y105.Y)]) [(.int .i64 y105.X), (.int .i64 y105.Y)] (wn rfl) rfl rfl rfl rfl sz_35 rfl rfl rfl ?_
        refine Tr.val (wn rfl) rfl (fun _ _ h1 h2 => run_assign (h1.ev rfl)) ?_
        refine Tr.nil (Tr.normThen ?_)
        refine Tr.ret ?_
        obtain rfl := Option.some.inj H
        exact Tr.out (m := [(.agg #[(.int .i64 y105.X), (.int .i64 y105.Y)]), (.int .i64 0)]) [3] (res_cell rfl rfl ag_35 sz_35 (res_tmp rfl res_nil)) (fun W hW => ⟨rfl, hW.low leB⟩)

theorem F_etchhouseref1_within_ok {w : Bs} (p0 : Int) (p1 : Int) (p2 : Int) (r : Bool) (H : F_etchhouseref1_within p0 p1 p2 = some r) (hE : HF w w.W E0) : Calls Try.prog 68 [(.int .i64 p0), (.int .i64 p1), (.int .i64 p2)].toArray w.W fun e W' => e = .returned (.bool r) ∧ HF w W' E0 := by
  unfold F_etchhouseref1_within at H
  have leB := Bs.Le.refl w
  refine Tr.enter (n := 15) Try.func68 rfl rfl rfl hE ?_
  refine Tr.seq ?_
  refine Tr.region ?_
  refine Tr.val (wn rfl) rfl (fun _ _ h1 h2 => run_assign (h1.ev rfl)) ?_
  refine Tr.nil (Tr.normThen ?_)
  refine Tr.seq ?_
  refine Tr.region ?_
  refine Tr.val (wn rfl) rfl (fun _ _ h1 h2 => run_move (h1.ev rfl)) ?_
  refine Tr.val (wn rfl) rfl (fun _ _ h1 h2 => run_move (h1.ev rfl)) ?_
  refine Tr.val (wn rfl) rfl (fun _ _ h1 h2 => run_geq (h1.ev rfl) (h1.ev rfl)) ?_
  refine Tr.val (wn rfl) rfl (fun _ _ h1 h2 => run_move (h1.ev rfl)) ?_
  refine Tr.mid0 4 [(14, (.bool ((decide (p1 ≤ p0)) && (decide (p0 ≤ p2)))))] [] ?_ ?_
  · cases hg99 : (decide (p1 ≤ p0))
    · refine Tr.pass rfl rfl rfl rfl rfl (by decide) ?_
      refine Tr.pass rfl rfl rfl rfl rfl (by decide) ?_
      refine Tr.pass rfl rfl rfl rfl rfl (by decide) ?_
      refine Tr.val (wn rfl) rfl (fun _ _ h1 h2 => run_pickF (h1.ev rfl) (h1.ev rfl)) ?_
      exact Tr.nil (Tr.fin0 (.cons rfl .nil) .nil)
    · refine Tr.val (wg rfl rfl rfl) rfl (fun _ _ h1 h2 => run_move (h1.ev rfl)) ?_
      refine Tr.val (wg rfl rfl rfl) rfl (fun _ _ h1 h2 => run_move (h1.ev rfl)) ?_
      refine Tr.val (wg rfl rfl rfl) rfl (fun _ _ h1 h2 => run_leq (h1.ev rfl) (h1.ev rfl)) ?_
      refine Tr.val (wn rfl) rfl (fun _ _ h1 h2 => run_pickT (h1.ev rfl) (h1.ev rfl)) ?_
      exact Tr.nil (Tr.fin0 (.cons rfl .nil) .nil)
  · show Tr _ _ (LF [(14, (.bool ((decide (p1 ≤ p0)) && (decide (p0 ≤ p2)))))]) (LE []) _
    refine Tr.val (wn rfl) rfl (fun _ _ h1 h2 => run_assign (h1.ev rfl)) ?_
    refine Tr.nil (Tr.normThen ?_)
    refine Tr.ret ?_
    obtain rfl := Option.some.inj H
    exact Tr.out (m := [(.bool ((decide (p1 ≤ p0)) && (decide (p0 ≤ p2))))]) [] (res_tmp rfl res_nil) (fun W hW => ⟨rfl, hW.low leB⟩)

theorem F_etchhouseref1_At_ok {w : Bs} (p0 : Int) (r : Bool) (H : F_etchhouseref1_At p0 = some r) (hE : HF w w.W E0) : Calls Try.prog 55 [(.int .i64 p0)].toArray w.W fun e W' => e = .returned (.bool r) ∧ HF w W' E0 := by
  unfold F_etchhouseref1_At at H
  have leB := Bs.Le.refl w
  refine Tr.enter (n := 5) Try.func55 rfl rfl rfl hE ?_
  refine Tr.seq ?_
  refine Tr.region ?_
  refine Tr.val (wn rfl) rfl (fun _ _ h1 h2 => run_assign (h1.ev rfl)) ?_
  refine Tr.nil (Tr.normThen ?_)
  refine Tr.seq ?_
  refine Tr.region ?_
  refine Tr.val (wn rfl) rfl (fun _ _ h1 h2 => run_move (h1.ev rfl)) ?_
  obtain ⟨y100, hy100, H⟩ := bnd H
  refine Tr.call0 (r := (.bool y100)) (wn rfl) rfl Try.call68 (evl_cons rfl (evl_cons rfl (evl_cons rfl evl_nil))) (fun W hW => F_etchhouseref1_within_ok p0 (-1000000) 1000000 y100 hy100 (HF.start _)) ?_
  refine Tr.val (wn rfl) rfl (fun _ _ h1 h2 => run_assign (h1.ev rfl)) ?_
  refine Tr.nil (Tr.normThen ?_)
  refine Tr.ret ?_
  obtain rfl := Option.some.inj H
  exact Tr.out (m := [(.bool y100)]) [] (res_tmp rfl res_nil) (fun W hW => ⟨rfl, hW.low leB⟩)

theorem F_etchhouseref1_IsPoint_ok {w : Bs} (p0 : TPoint) (r : Bool) (H : F_etchhouseref1_IsPoint p0 = some r) (hE : HF w w.W E0) : Calls Try.prog 61 [(.agg #[(.int .i64 p0.X), (.int .i64 p0.Y)])].toArray w.W fun e W' => e = .returned (.bool r) ∧ HF w W' E0 := by
  unfold F_etchhouseref1_IsPoint at H
  have leB := Bs.Le.refl w
  refine Tr.enter (n := 11) Try.func61 rfl rfl rfl hE ?_
  refine Tr.seq ?_
  refine Tr.region ?_
  refine Tr.box 1 (cs := [(.int .i64 p0.X), (.int .i64 p0.Y)]) (wn rfl) rfl rfl rfl fun b100 => ?_
  refine Tr.val (wn rfl) rfl (fun _ _ h1 h2 => run_assign (h1.ev rfl)) ?_
  refine Tr.nil (Tr.normThen ?_)
  refine Tr.seq ?_
  refine Tr.region ?_
  refine Tr.val (wn rfl) rfl (fun _ _ h1 h2 => run_fieldAddr fo_35_0 (h1.ev rfl)) ?_
  refine Tr.val (wn rfl) rfl (fun _ _ h1 h2 => run_load1 ag_3 (h1.ev rfl) (rdb h2 (vs := [(.int .i64 p0.X), (.int .i64 p0.Y)]) (k := 1) rfl 0) rfl) ?_
  obtain ⟨y101, hy101, H⟩ := bnd H
  refine Tr.call0 (r := (.bool y101)) (wn rfl) rfl Try.call55 (evl_cons rfl evl_nil) (fun W hW => F_etchhouseref1_At_ok p0.X y101 hy101 (HF.start _)) ?_
  refine Tr.val (wn rfl) rfl (fun _ _ h1 h2 => run_move (h1.ev rfl)) ?_
  obtain ⟨g103, hg103, H⟩ := bnd H
  refine Tr.mid0 4 [(10, (.bool g103))] [(1, bx b100 #[(.int .i64 p0.X), (.int .i64 p0.Y)] 35)] ?_ ?_
  · cases hg104 : y101
    · rw [hg104] at hg103
      rw [if_neg (by decide)] at hg103
      have H := hg103
      obtain rfl := Option.some.inj H
      refine Tr.pass rfl rfl rfl rfl rfl (by decide) ?_
      refine Tr.pass rfl rfl rfl rfl rfl (by decide) ?_
      refine Tr.pass rfl rfl rfl rfl rfl (by decide) ?_
      refine Tr.val (wn rfl) rfl (fun _ _ h1 h2 => run_pickF (h1.ev rfl) (h1.ev rfl)) ?_
      exact Tr.nil (Tr.fin0 (.cons rfl .nil) (.cons rfl .nil))
    · rw [hg104] at hg103
      rw [if_pos rfl] at hg103
      have H := hg103
      refine Tr.val (wg rfl rfl rfl) rfl (fun _ _ h1 h2 => run_fieldAddr fo_35_1 (h1.ev rfl)) ?_
      refine Tr.val (wg rfl rfl rfl) rfl (fun _ _ h1 h2 => run_load1 ag_3 (h1.ev rfl) (rdb h2 (vs := [(.int .i64 p0.X), (.int .i64 p0.Y)]) (k := 1) rfl 1) rfl) ?_
      obtain ⟨y104, hy104, H⟩ := bnd H
      refine Tr.call0 (r := (.bool y104)) (wg rfl rfl rfl) rfl Try.call55 (evl_cons rfl evl_nil) (fun W hW => F_etchhouseref1_At_ok p0.Y y104 hy104 (HF.start _)) ?_
      refine Tr.val (wn rfl) rfl (fun _ _ h1 h2 => run_pickT (h1.ev rfl) (h1.ev rfl)) ?_
      obtain rfl := Option.some.inj H
      exact Tr.nil (Tr.fin0 (.cons rfl .nil) (.cons rfl .nil))
  · show Tr _ _ (LF [(10, (.bool g103))]) (LE [(1, bx b100 #[(.int .i64 p0.X), (.int .i64 p0.Y)] 35)]) _
    refine Tr.val (wn rfl) rfl (fun _ _ h1 h2 => run_assign (h1.ev rfl)) ?_
    refine Tr.nil (Tr.normThen ?_)
    refine Tr.ret ?_
    obtain rfl := Option.some.inj H
    exact Tr.out (m := [(.bool g103)]) [] (res_tmp rfl res_nil) (fun W hW => ⟨rfl, hW.low leB⟩)

theorem F_etchhouseref1_CheckTurn_ok {w : Bs} (p0 : TTurn) (r : Int) (H : F_etchhouseref1_CheckTurn p0 = some r) (hE : HF w w.W E0) : Calls Try.prog 30 [(.agg #[(.bool p0.Flip), (.int .i64 p0.Quarters), (.int .i64 p0.At.X), (.int .i64 p0.At.Y)])].toArray w.W fun e W' => e = .returned (.int .i64 r) ∧ HF w W' E0 := by
  unfold F_etchhouseref1_CheckTurn at H
  have leB := Bs.Le.refl w
  refine Tr.enter (n := 13) Try.func30 rfl rfl rfl hE ?_
  refine Tr.seq ?_
  refine Tr.region ?_
  refine Tr.box 1 (cs := [(.bool p0.Flip), (.int .i64 p0.Quarters), (.int .i64 p0.At.X), (.int .i64 p0.At.Y)]) (wn rfl) rfl rfl rfl fun b100 => ?_
  refine Tr.val (wn rfl) rfl (fun _ _ h1 h2 => run_assign (h1.ev rfl)) ?_
  refine Tr.nil (Tr.normThen ?_)
  refine Tr.seq ?_
  refine Tr.seq ?_
  refine Tr.region ?_
  refine Tr.val (wn rfl) rfl (fun _ _ h1 h2 => run_fieldAddr fo_42_1 (h1.ev rfl)) ?_
  refine Tr.val (wn rfl) rfl (fun _ _ h1 h2 => run_load1 ag_3 (h1.ev rfl) (rdb h2 (vs := [(.bool p0.Flip), (.int .i64 p0.Quarters), (.int .i64 p0.At.X), (.int .i64 p0.At.Y)]) (k := 1) rfl 1) rfl) ?_
  obtain ⟨y101, hy101, H⟩ := bnd H
  refine Tr.call0 (r := (.bool y101)) (wn rfl) rfl Try.call68 (evl_cons rfl (evl_cons rfl (evl_cons rfl evl_nil))) (fun W hW => F_etchhouseref1_within_ok p0.Quarters 0 3 y101 hy101 (HF.start _)) ?_
  refine Tr.val (wn rfl) rfl (fun _ _ h1 h2 => run_not (h1.ev rfl)) ?_
  refine Tr.val (wn rfl) rfl (fun _ _ h1 h2 => run_move (h1.ev rfl)) ?_
  obtain ⟨g103, hg103, H⟩ := bnd H
  refine Tr.mid0 5 [(12, (.bool g103))] [(1, bx b100 #[(.bool p0.Flip), (.int .i64 p0.Quarters), (.int .i64 p0.At.X), (.int .i64 p0.At.Y)] 42)] ?_ ?_
  · cases hg104 : (!y101)
    · rw [hg104] at hg103
      rw [if_neg (by decide)] at hg103
      have H := hg103
      refine Tr.val (wg rfl rfl rfl) rfl (fun _ _ h1 h2 => run_fieldAddr fo_42_2 (h1.ev rfl)) ?_
      refine Tr.val (wg rfl rfl rfl) rfl (fun _ _ h1 h2 => run_loadN (cs := [(.int .i64 p0.At.X), (.int .i64 p0.At.Y)]) ag_35 sz_35 (h1.ev rfl) (CellsAt.take (rdb h2 (vs := [(.bool p0.Flip), (.int .i64 p0.Quarters), (.int .i64 p0.At.X), (.int .i64 p0.At.Y)]) (k := 1) rfl 2) 2) rfl) ?_
      obtain ⟨y104, hy104, H⟩ := bnd H
      refine Tr.call0 (r := (.bool y104)) (wg rfl rfl rfl) rfl Try.call61 (evl_cons rfl evl_nil) (fun W hW => F_etchhouseref1_IsPoint_ok p0.At y104 hy104 (HF.start _)) ?_
      refine Tr.val (wg rfl rfl rfl) rfl (fun _ _ h1 h2 => run_not (h1.ev rfl)) ?_
      refine Tr.val (wn rfl) rfl (fun _ _ h1 h2 => run_pickF (h1.ev rfl) (h1.ev rfl)) ?_
      obtain rfl := Option.some.inj H
      exact Tr.nil (Tr.fin0 (.cons rfl .nil) (.cons rfl .nil))
    · rw [hg104] at hg103
      rw [if_pos rfl] at hg103
      have H := hg103
      obtain rfl := Option.some.inj H
      refine Tr.pass rfl rfl rfl rfl rfl (by decide) ?_
      refine Tr.pass rfl rfl rfl rfl rfl (by decide) ?_
      refine Tr.pass rfl rfl rfl rfl rfl (by decide) ?_
      refine Tr.pass rfl rfl rfl rfl rfl (by decide) ?_
      refine Tr.val (wn rfl) rfl (fun _ _ h1 h2 => run_pickT (h1.ev rfl) (h1.ev rfl)) ?_
      exact Tr.nil (Tr.fin0 (.cons rfl .nil) (.cons rfl .nil))
  · show Tr _ _ (LF [(12, (.bool g103))]) (LE [(1, bx b100 #[(.bool p0.Flip), (.int .i64 p0.Quarters), (.int .i64 p0.At.X), (.int .i64 p0.At.Y)] 42)]) _
    refine Tr.nil (Tr.normThen ?_)
    refine Tr.cond rfl H (fun H => ?_) (fun H => ?_)
    · refine Tr.seq ?_
      refine Tr.region ?_
      refine Tr.val (wn rfl) rfl (fun _ _ h1 h2 => run_assign (h1.ev rfl)) ?_
      refine Tr.nil (Tr.normThen ?_)
      refine Tr.ret (Tr.retThen ?_)
      obtain rfl := Option.some.inj H
      exact Tr.out (m := [(.int .i64 1)]) [] (res_tmp rfl res_nil) (fun W hW => ⟨rfl, hW.low leB⟩)
    · refine Tr.skip (Tr.normThen ?_)
      refine Tr.seq ?_
      refine Tr.region ?_
      refine Tr.val (wn rfl) rfl (fun _ _ h1 h2 => run_assign (h1.ev rfl)) ?_
      refine Tr.nil (Tr.normThen ?_)
      refine Tr.ret ?_
      obtain rfl := Option.some.inj H
      exact Tr.out (m := [(.int .i64 0)]) [] (res_tmp rfl res_nil) (fun W hW => ⟨rfl, hW.low leB⟩)

theorem F_etchhouseref1_around_ok (N : Nat) {w : Bs} (p0 : TPoint) (p1 : TTurn) (r : TPoint) (H : F_etchhouseref1_around N p0 p1 = some r) (hE : HF w w.W E0) : Calls Try.prog 70 [(.agg #[(.int .i64 p0.X), (.int .i64 p0.Y)]), (.agg #[(.bool p1.Flip), (.int .i64 p1.Quarters), (.int .i64 p1.At.X), (.int .i64 p1.At.Y)])].toArray w.W fun e W' => e = .returned (.agg #[(.int .i64 r.X), (.int .i64 r.Y)]) ∧ HF w W' E0 := by
  unfold F_etchhouseref1_around at H
  have leB := Bs.Le.refl w
  refine Tr.enter (n := 23) Try.func70 rfl rfl rfl hE ?_
  refine Tr.seq ?_
  refine Tr.region ?_
  refine Tr.box 1 (cs := [(.int .i64 p0.X), (.int .i64 p0.Y)]) (wn rfl) rfl rfl rfl fun b100 => ?_
  refine Tr.box 2 (cs := [(.bool p1.Flip), (.int .i64 p1.Quarters), (.int .i64 p1.At.X), (.int .i64 p1.At.Y)]) (wn rfl) rfl rfl rfl fun b101 => ?_
  refine Tr.alloc 3 (wn rfl) rfl ze_35 fun b102 => ?_
  refine Tr.nil (Tr.normThen ?_)
  have leJ104 := Bs.Le.refl w
  refine Tr.cutJ (σ := Int) (fun w s => F_etchhouseref1_around_J2 N p0 p1 s = some r) (fun s => [(2, (.pointer (some ⟨b100, 0, none⟩))), (3, (.pointer (some ⟨b101, 0, none⟩))), (4, (.pointer (some ⟨b102, 0, none⟩)))]) (fun s => [(1, bx b100 #[(.int .i64 s), (.int .i64 p0.Y)] 35), (2, bx b101 #[(.bool p1.Flip), (.int .i64 p1.Quarters), (.int .i64 p1.At.X), (.int .i64 p1.At.Y)] 42), (3, bx b102 #[(.int .i64 0), (.int .i64 0)] 35)]) ?_ ?_
  · refine Tr.seq ?_
    refine Tr.region ?_
    refine Tr.val (wn rfl) rfl (fun _ _ h1 h2 => run_fieldAddr fo_42_0 (h1.ev rfl)) ?_
    refine Tr.val (wn rfl) rfl (fun _ _ h1 h2 => run_load1 ag_4 (h1.ev rfl) (rdb h2 (vs := [(.bool p1.Flip), (.int .i64 p1.Quarters), (.int .i64 p1.At.X), (.int .i64 p1.At.Y)]) (k := 2) rfl 0) rfl) ?_
    refine Tr.nil (Tr.normThen ?_)
    refine Tr.cond rfl H (fun H => ?_) (fun H => ?_)
    · refine Tr.region ?_
      refine Tr.val (wn rfl) rfl (fun _ _ h1 h2 => run_fieldAddr fo_35_0 (h1.ev rfl)) ?_
      refine Tr.val (wn rfl) rfl (fun _ _ h1 h2 => run_load1 ag_3 (h1.ev rfl) (rdb h2 (vs := [(.int .i64 p0.X), (.int .i64 p0.Y)]) (k := 1) rfl 0) rfl) ?_
      refine Tr.val (wn rfl) rfl (fun _ _ h1 h2 => run_neg (h1.ev rfl)) ?_
      refine Tr.val (wn rfl) rfl (fun _ _ h1 h2 => run_fieldAddr fo_35_0 (h1.ev rfl)) ?_
      refine Tr.store 1 (cs := [(.int .i64 (w64 (0 - p0.X)))]) [(.int .i64 (w64 (0 - p0.X))), (.int .i64 p0.Y)] (wn rfl) rfl rfl rfl rfl sz_3 rfl rfl rfl ?_
      refine Tr.nil ?_
      exact Tr.backThen leJ104 (w64 (0 - p0.X)) H (.cons rfl (.cons rfl (.cons rfl .nil))) (.cons rfl (.cons rfl (.cons rfl .nil)))
    · refine Tr.skip ?_
      exact Tr.backThen leJ104 p0.X H (.cons rfl (.cons rfl (.cons rfl .nil))) (.cons rfl (.cons rfl (.cons rfl .nil)))
  · intro w x103 hlJ105 hs
    have H := hs
    replace H : F_etchhouseref1_around_J2 N p0 p1 x103 = some r := H
    replace leB := leB.trans hlJ105
    unfold F_etchhouseref1_around_J2 at H
    show Tr _ _ (LF [(2, (.pointer (some ⟨b100, 0, none⟩))), (3, (.pointer (some ⟨b101, 0, none⟩))), (4, (.pointer (some ⟨b102, 0, none⟩)))]) (LE [(1, bx b100 #[(.int .i64 x103), (.int .i64 p0.Y)] 35), (2, bx b101 #[(.bool p1.Flip), (.int .i64 p1.Quarters), (.int .i64 p1.At.X), (.int .i64 p1.At.Y)] 42), (3, bx b102 #[(.int .i64 0), (.int .i64 0)] 35)]) _
    refine Tr.seq ?_
    refine Tr.seq ?_
    refine Tr.region ?_
    refine Tr.val (wn rfl) rfl (fun _ _ h1 h2 => run_fieldAddr fo_42_1 (h1.ev rfl)) ?_
    refine Tr.val (wn rfl) rfl (fun _ _ h1 h2 => run_load1 ag_3 (h1.ev rfl) (rdb h2 (vs := [(.bool p1.Flip), (.int .i64 p1.Quarters), (.int .i64 p1.At.X), (.int .i64 p1.At.Y)]) (k := 2) rfl 1) rfl) ?_
    refine Tr.val (wn rfl) rfl (fun _ _ h1 h2 => run_move (h1.ev rfl)) ?_
    refine Tr.nil (Tr.normThen ?_)
    refine Tr.block ?_
    refine Tr.loop (σ := Int × Int × Int) (fun m w s => F_etchhouseref1_around_L1 p1 m s.1 s.2.1 s.2.2 = some r) (fun s => [(2, (.pointer (some ⟨b100, 0, none⟩))), (4, (.pointer (some ⟨b102, 0, none⟩))), (12, (.int .i64 p1.Quarters)), (13, (.int .i64 s.2.2))]) (fun s => [(1, bx b100 #[(.int .i64 s.1), (.int .i64 s.2.1)] 35), (3, bx b102 #[(.int .i64 0), (.int .i64 0)] 35)]) N (x103, p0.Y, 0) H (.cons rfl (.cons rfl (.cons rfl (.cons rfl .nil)))) (.cons rfl (.cons rfl .nil)) (fun _ _ h => noSome (h)) ?_
    intro w leF_etchhouseref1_around_L1 mF_etchhouseref1_around_L1 s hs
    obtain ⟨x115, x116, x117⟩ := s
    have H := hs
    replace H : F_etchhouseref1_around_L1 p1 (mF_etchhouseref1_around_L1 + 1) x115 x116 x117 = some r := H
    replace leB := leB.trans leF_etchhouseref1_around_L1
    rw [F_etchhouseref1_around_L1.eq_2] at H
    show Tr _ _ (LF [(2, (.pointer (some ⟨b100, 0, none⟩))), (4, (.pointer (some ⟨b102, 0, none⟩))), (12, (.int .i64 p1.Quarters)), (13, (.int .i64 x117))]) (LE [(1, bx b100 #[(.int .i64 x115), (.int .i64 x116)] 35), (3, bx b102 #[(.int .i64 0), (.int .i64 0)] 35)]) _
    refine Tr.seq ?_
    refine Tr.region ?_
    refine Tr.val (wn rfl) rfl (fun _ _ h1 h2 => run_lss (h1.ev rfl) (h1.ev rfl)) ?_
    refine Tr.nil (Tr.normThen ?_)
    refine Tr.seq ?_
    refine Tr.cond rfl H (fun H => ?_) (fun H => ?_)
    · refine Tr.skip (Tr.normThen ?_)
      refine Tr.seq ?_
      refine Tr.block ?_
      refine Tr.region ?_
      refine Tr.val (wn rfl) rfl (fun _ _ h1 h2 => run_fieldAddr fo_35_1 (h1.ev rfl)) ?_
      refine Tr.val (wn rfl) rfl (fun _ _ h1 h2 => run_load1 ag_3 (h1.ev rfl) (rdb h2 (vs := [(.int .i64 x115), (.int .i64 x116)]) (k := 1) rfl 1) rfl) ?_
      refine Tr.val (wn rfl) rfl (fun _ _ h1 h2 => run_neg (h1.ev rfl)) ?_
      refine Tr.val (wn rfl) rfl (fun _ _ h1 h2 => run_fieldAddr fo_35_0 (h1.ev rfl)) ?_
      refine Tr.val (wn rfl) rfl (fun _ _ h1 h2 => run_load1 ag_3 (h1.ev rfl) (rdb h2 (vs := [(.int .i64 x115), (.int .i64 x116)]) (k := 1) rfl 0) rfl) ?_
      refine Tr.build (vs := [(0, (.int .i64 (w64 (0 - x116)))), (1, (.int .i64 x115))]) (cs := [(.int .i64 (w64 (0 - x116))), (.int .i64 x115)]) (wn rfl) rfl (evs_cons rfl (evs_cons rfl evs_nil)) (by kernel_rfl) ?_
      refine Tr.store 1 (cs := [(.int .i64 (w64 (0 - x116))), (.int .i64 x115)]) [(.int .i64 (w64 (0 - x116))), (.int .i64 x115)] (wn rfl) rfl rfl rfl rfl sz_35 rfl rfl rfl ?_
      refine Tr.nil (Tr.normBlock (Tr.normThen ?_))
      refine Tr.region ?_
      refine Tr.val (wn rfl) rfl (fun _ _ h1 h2 => run_add (h1.ev rfl) (h1.ev rfl)) ?_
      refine Tr.val (wn rfl) rfl (fun _ _ h1 h2 => run_move (h1.ev rfl)) ?_
      refine Tr.nil ?_
      exact Tr.backThen leF_etchhouseref1_around_L1 ((w64 (0 - x116)), x115, (w64 (x117 + 1))) H (.cons rfl (.cons rfl (.cons rfl (.cons rfl .nil)))) (.cons rfl (.cons rfl .nil))
    · refine Tr.exit (Tr.exitThen (Tr.exitThen (Tr.exitBlock (Tr.normThen ?_))))
      refine Tr.seq ?_
      refine Tr.region ?_
      refine Tr.val (wn rfl) rfl (fun _ _ h1 h2 => run_loadN (cs := [(.int .i64 x115), (.int .i64 x116)]) ag_35 sz_35 (h1.ev rfl) (CellsAt.take (rdb h2 (vs := [(.int .i64 x115), (.int .i64 x116)]) (k := 1) rfl 0) 2) rfl) ?_
      refine Tr.store 3 (cs := [(.int .i64 x115), (.int .i64 x116)]) [(.int .i64 x115), (.int .i64 x116)] (wn rfl) rfl rfl rfl rfl sz_35 rfl rfl rfl ?_
      refine Tr.nil (Tr.normThen ?_)
      refine Tr.ret ?_
      obtain rfl := Option.some.inj H
      exact Tr.out (m := [(.agg #[(.int .i64 x115), (.int .i64 x116)])]) [3] (res_cell rfl rfl ag_35 sz_35 res_nil) (fun W hW => ⟨rfl, hW.low leB⟩)

theorem F_etchhouseref1_TurnPoint_ok (N : Nat) {w : Bs} (p0 : TPoint) (p1 : TTurn) (r : TPoint) (H : F_etchhouseref1_TurnPoint N p0 p1 = some r) (hE : HF w w.W E0) : Calls Try.prog 66 [(.agg #[(.int .i64 p0.X), (.int .i64 p0.Y)]), (.agg #[(.bool p1.Flip), (.int .i64 p1.Quarters), (.int .i64 p1.At.X), (.int .i64 p1.At.Y)])].toArray w.W fun e W' => e = .returned (.agg #[(.int .i64 r.X), (.int .i64 r.Y)]) ∧ HF w W' E0 := by
  unfold F_etchhouseref1_TurnPoint at H
  have leB := Bs.Le.refl w
  refine Tr.enter (n := 21) Try.func66 rfl rfl rfl hE ?_
  refine Tr.seq ?_
  refine Tr.region ?_
  refine Tr.box 1 (cs := [(.int .i64 p0.X), (.int .i64 p0.Y)]) (wn rfl) rfl rfl rfl fun b100 => ?_
  refine Tr.box 2 (cs := [(.bool p1.Flip), (.int .i64 p1.Quarters), (.int .i64 p1.At.X), (.int .i64 p1.At.Y)]) (wn rfl) rfl rfl rfl fun b101 => ?_
  refine Tr.alloc 3 (wn rfl) rfl ze_35 fun b102 => ?_
  refine Tr.nil (Tr.normThen ?_)
  refine Tr.seq ?_
  refine Tr.region ?_
  refine Tr.val (wn rfl) rfl (fun _ _ h1 h2 => run_loadN (cs := [(.int .i64 p0.X), (.int .i64 p0.Y)]) ag_35 sz_35 (h1.ev rfl) (CellsAt.take (rdb h2 (vs := [(.int .i64 p0.X), (.int .i64 p0.Y)]) (k := 1) rfl 0) 2) rfl) ?_
  refine Tr.val (wn rfl) rfl (fun _ _ h1 h2 => run_loadN (cs := [(.bool p1.Flip), (.int .i64 p1.Quarters), (.int .i64 p1.At.X), (.int .i64 p1.At.Y)]) ag_42 sz_42 (h1.ev rfl) (CellsAt.take (rdb h2 (vs := [(.bool p1.Flip), (.int .i64 p1.Quarters), (.int .i64 p1.At.X), (.int .i64 p1.At.Y)]) (k := 2) rfl 0) 4) rfl) ?_
  obtain ⟨y103, hy103, H⟩ := bnd H
  refine Tr.call0 (r := (.agg #[(.int .i64 y103.X), (.int .i64 y103.Y)])) (wn rfl) rfl Try.call70 (evl_cons rfl (evl_cons rfl evl_nil)) (fun W hW => F_etchhouseref1_around_ok N p0 p1 y103 hy103 (HF.start _)) ?_
  refine Tr.store 1 (cs := [(.int .i64 y103.X), (.int .i64 y103.Y)]) [(.int .i64 y103.X), (.int .i64 y103.Y)] (wn rfl) rfl rfl rfl rfl sz_35 rfl rfl rfl ?_
  refine Tr.nil (Tr.normThen ?_)
  refine Tr.seq ?_
  refine Tr.region ?_
  refine Tr.val (wn rfl) rfl (fun _ _ h1 h2 => run_fieldAddr fo_35_0 (h1.ev rfl)) ?_
  refine Tr.val (wn rfl) rfl (fun _ _ h1 h2 => run_load1 ag_3 (h1.ev rfl) (rdb h2 (vs := [(.int .i64 y103.X), (.int .i64 y103.Y)]) (k := 1) rfl 0) rfl) ?_
  refine Tr.val (wn rfl) rfl (fun _ _ h1 h2 => run_fieldAddr fo_42_2 (h1.ev rfl)) ?_
  refine Tr.val (wn rfl) rfl (fun _ _ h1 h2 => run_fieldAddr fo_35_0 (h1.ev rfl)) ?_
  refine Tr.val (wn rfl) rfl (fun _ _ h1 h2 => run_load1 ag_3 (h1.ev rfl) (rdb h2 (vs := [(.bool p1.Flip), (.int .i64 p1.Quarters), (.int .i64 p1.At.X), (.int .i64 p1.At.Y)]) (k := 2) rfl 2) rfl) ?_
  refine Tr.val (wn rfl) rfl (fun _ _ h1 h2 => run_add (h1.ev rfl) (h1.ev rfl)) ?_
  refine Tr.val (wn rfl) rfl (fun _ _ h1 h2 => run_fieldAddr fo_35_1 (h1.ev rfl)) ?_
  refine Tr.val (wn rfl) rfl (fun _ _ h1 h2 => run_load1 ag_3 (h1.ev rfl) (rdb h2 (vs := [(.int .i64 y103.X), (.int .i64 y103.Y)]) (k := 1) rfl 1) rfl) ?_
  refine Tr.val (wn rfl) rfl (fun _ _ h1 h2 => run_fieldAddr fo_42_2 (h1.ev rfl)) ?_
  refine Tr.val (wn rfl) rfl (fun _ _ h1 h2 => run_fieldAddr fo_35_1 (h1.ev rfl)) ?_
  refine Tr.val (wn rfl) rfl (fun _ _ h1 h2 => run_load1 ag_3 (h1.ev rfl) (rdb h2 (vs := [(.bool p1.Flip), (.int .i64 p1.Quarters), (.int .i64 p1.At.X), (.int .i64 p1.At.Y)]) (k := 2) rfl 3) rfl) ?_
  refine Tr.val (wn rfl) rfl (fun _ _ h1 h2 => run_add (h1.ev rfl) (h1.ev rfl)) ?_
  refine Tr.build (vs := [(0, (.int .i64 (w64 (y103.X + p1.At.X)))), (1, (.int .i64 (w64 (y103.Y + p1.At.Y))))]) (cs := [(.int .i64 (w64 (y103.X + p1.At.X))), (.int .i64 (w64 (y103.Y + p1.At.Y)))]) (wn rfl) rfl (evs_cons rfl (evs_cons rfl evs_nil)) (by kernel_rfl) ?_
  refine Tr.store 3 (cs := [(.int .i64 (w64 (y103.X + p1.At.X))), (.int .i64 (w64 (y103.Y + p1.At.Y)))]) [(.int .i64 (w64 (y103.X + p1.At.X))), (.int .i64 (w64 (y103.Y + p1.At.Y)))] (wn rfl) rfl rfl rfl rfl sz_35 rfl rfl rfl ?_
  refine Tr.nil (Tr.normThen ?_)
  refine Tr.ret ?_
  obtain rfl := Option.some.inj H
  exact Tr.out (m := [(.agg #[(.int .i64 (w64 (y103.X + p1.At.X))), (.int .i64 (w64 (y103.Y + p1.At.Y)))])]) [3] (res_cell rfl rfl ag_35 sz_35 res_nil) (fun W hW => ⟨rfl, hW.low leB⟩)

theorem F_etchhouseref1_Turned_ok (N : Nat) {w : Bs} (p0 : TPoint) (p1 : TTurn) (r : (TPoint × Int)) (H : F_etchhouseref1_Turned N p0 p1 = some r) (hE : HF w w.W E0) : Calls Try.prog 28 [(.agg #[(.int .i64 p0.X), (.int .i64 p0.Y)]), (.agg #[(.bool p1.Flip), (.int .i64 p1.Quarters), (.int .i64 p1.At.X), (.int .i64 p1.At.Y)])].toArray w.W fun e W' => e = .returned (.tuple #[(.agg #[(.int .i64 r.1.X), (.int .i64 r.1.Y)]), (.int .i64 r.2)]) ∧ HF w W' E0 := by
  unfold F_etchhouseref1_Turned at H
  have leB := Bs.Le.refl w
  refine Tr.enter (n := 26) Try.func28 rfl rfl rfl hE ?_
  refine Tr.seq ?_
  refine Tr.region ?_
  refine Tr.box 1 (cs := [(.int .i64 p0.X), (.int .i64 p0.Y)]) (wn rfl) rfl rfl rfl fun b100 => ?_
  refine Tr.box 2 (cs := [(.bool p1.Flip), (.int .i64 p1.Quarters), (.int .i64 p1.At.X), (.int .i64 p1.At.Y)]) (wn rfl) rfl rfl rfl fun b101 => ?_
  refine Tr.alloc 3 (wn rfl) rfl ze_35 fun b102 => ?_
  refine Tr.val (wn rfl) rfl (fun _ _ h1 h2 => run_assign (h1.ev rfl)) ?_
  refine Tr.nil (Tr.normThen ?_)
  refine Tr.seq ?_
  refine Tr.seq ?_
  refine Tr.region ?_
  refine Tr.val (wn rfl) rfl (fun _ _ h1 h2 => run_loadN (cs := [(.bool p1.Flip), (.int .i64 p1.Quarters), (.int .i64 p1.At.X), (.int .i64 p1.At.Y)]) ag_42 sz_42 (h1.ev rfl) (CellsAt.take (rdb h2 (vs := [(.bool p1.Flip), (.int .i64 p1.Quarters), (.int .i64 p1.At.X), (.int .i64 p1.At.Y)]) (k := 2) rfl 0) 4) rfl) ?_
  obtain ⟨y103, hy103, H⟩ := bnd H
  refine Tr.call0 (r := (.int .i64 y103)) (wn rfl) rfl Try.call30 (evl_cons rfl evl_nil) (fun W hW => F_etchhouseref1_CheckTurn_ok p1 y103 hy103 (HF.start _)) ?_
  refine Tr.val (wn rfl) rfl (fun _ _ h1 h2 => run_assign (h1.ev rfl)) ?_
  refine Tr.nil (Tr.normThen ?_)
  refine Tr.seq ?_
  refine Tr.region ?_
  refine Tr.val (wn rfl) rfl (fun _ _ h1 h2 => run_move (h1.ev rfl)) ?_
  refine Tr.val (wn rfl) rfl (fun _ _ h1 h2 => run_neq (h1.ev rfl) (h1.ev rfl)) ?_
  refine Tr.nil (Tr.normThen ?_)
  refine Tr.cond rfl H (fun H => ?_) (fun H => ?_)
  · refine Tr.seq ?_
    refine Tr.region ?_
    refine Tr.build (vs := []) (cs := [(.int .i64 0), (.int .i64 0)]) (wn rfl) rfl evs_nil (by kernel_rfl) ?_
    refine Tr.val (wn rfl) rfl (fun _ _ h1 h2 => run_move (h1.ev rfl)) ?_
    refine Tr.store 3 (cs := [(.int .i64 0), (.int .i64 0)]) [(.int .i64 0), (.int .i64 0)] (wn rfl) rfl rfl rfl rfl sz_35 rfl rfl rfl ?_
    refine Tr.val (wn rfl) rfl (fun _ _ h1 h2 => run_assign (h1.ev rfl)) ?_
    refine Tr.nil (Tr.normThen ?_)
    refine Tr.ret (Tr.retThen ?_)
    obtain rfl := Option.some.inj H
    exact Tr.out (m := [(.agg #[(.int .i64 0), (.int .i64 0)]), (.int .i64 y103)]) [3] (res_cell rfl rfl ag_35 sz_35 (res_tmp rfl res_nil)) (fun W hW => ⟨rfl, hW.low leB⟩)
  · refine Tr.skip (Tr.normThen ?_)
    refine Tr.seq ?_
    refine Tr.seq ?_
    refine Tr.region ?_
    refine Tr.val (wn rfl) rfl (fun _ _ h1 h2 => run_loadN (cs := [(.int .i64 p0.X), (.int .i64 p0.Y)]) ag_35 sz_35 (h1.ev rfl) (CellsAt.take (rdb h2 (vs := [(.int .i64 p0.X), (.int .i64 p0.Y)]) (k := 1) rfl 0) 2) rfl) ?_
    obtain ⟨y104, hy104, H⟩ := bnd H
    refine Tr.call0 (r := (.bool y104)) (wn rfl) rfl Try.call61 (evl_cons rfl evl_nil) (fun W hW => F_etchhouseref1_IsPoint_ok p0 y104 hy104 (HF.start _)) ?_
    refine Tr.val (wn rfl) rfl (fun _ _ h1 h2 => run_not (h1.ev rfl)) ?_
    refine Tr.nil (Tr.normThen ?_)
    refine Tr.cond rfl H (fun H => ?_) (fun H => ?_)
    · refine Tr.seq ?_
      refine Tr.region ?_
      refine Tr.build (vs := []) (cs := [(.int .i64 0), (.int .i64 0)]) (wn rfl) rfl evs_nil (by kernel_rfl) ?_
      refine Tr.store 3 (cs := [(.int .i64 0), (.int .i64 0)]) [(.int .i64 0), (.int .i64 0)] (wn rfl) rfl rfl rfl rfl sz_35 rfl rfl rfl ?_
      refine Tr.val (wn rfl) rfl (fun _ _ h1 h2 => run_assign (h1.ev rfl)) ?_
      refine Tr.nil (Tr.normThen ?_)
      refine Tr.ret (Tr.retThen ?_)
      obtain rfl := Option.some.inj H
      exact Tr.out (m := [(.agg #[(.int .i64 0), (.int .i64 0)]), (.int .i64 1)]) [3] (res_cell rfl rfl ag_35 sz_35 (res_tmp rfl res_nil)) (fun W hW => ⟨rfl, hW.low leB⟩)
    · refine Tr.skip (Tr.normThen ?_)
      refine Tr.seq ?_
      refine Tr.region ?_
      refine Tr.val (wn rfl) rfl (fun _ _ h1 h2 => run_loadN (cs := [(.int .i64 p0.X), (.int .i64 p0.Y)]) ag_35 sz_35 (h1.ev rfl) (CellsAt.take (rdb h2 (vs := [(.int .i64 p0.X), (.int .i64 p0.Y)]) (k := 1) rfl 0) 2) rfl) ?_
      refine Tr.val (wn rfl) rfl (fun _ _ h1 h2 => run_loadN (cs := [(.bool p1.Flip), (.int .i64 p1.Quarters), (.int .i64 p1.At.X), (.int .i64 p1.At.Y)]) ag_42 sz_42 (h1.ev rfl) (CellsAt.take (rdb h2 (vs := [(.bool p1.Flip), (.int .i64 p1.Quarters), (.int .i64 p1.At.X), (.int .i64 p1.At.Y)]) (k := 2) rfl 0) 4) rfl) ?_
      obtain ⟨y105, hy105, H⟩ := bnd H
      refine Tr.call0 (r := (.agg #[(.int .i64 y105.X), (.int .i64 y105.Y)])) (wn rfl) rfl Try.call66 (evl_cons rfl (evl_cons rfl evl_nil)) (fun W hW => F_etchhouseref1_TurnPoint_ok N p0 p1 y105 hy105 (HF.start _)) ?_
      refine Tr.alloc 4 (wn rfl) rfl ze_35 fun b106 => ?_
      refine Tr.store 4 (cs := [(.int .i64 y105.X), (.int .i64 y105.Y)]) [(.int .i64 y105.X), (.int .i64 y105.Y)] (wn rfl) rfl rfl rfl rfl sz_35 rfl rfl rfl ?_
      refine Tr.nil (Tr.normThen ?_)
      refine Tr.seq ?_
      refine Tr.seq ?_
      refine Tr.region ?_
      refine Tr.val (wn rfl) rfl (fun _ _ h1 h2 => run_loadN (cs := [(.int .i64 y105.X), (.int .i64 y105.Y)]) ag_35 sz_35 (h1.ev rfl) (CellsAt.take (rdb h2 (vs := [(.int .i64 y105.X), (.int .i64 y105.Y)]) (k := 4) rfl 0) 2) rfl) ?_
      obtain ⟨y107, hy107, H⟩ := bnd H
      refine Tr.call0 (r := (.bool y107)) (wn rfl) rfl Try.call61 (evl_cons rfl evl_nil) (fun W hW => F_etchhouseref1_IsPoint_ok y105 y107 hy107 (HF.start _)) ?_
      refine Tr.val (wn rfl) rfl (fun _ _ h1 h2 => run_not (h1.ev rfl)) ?_
      refine Tr.nil (Tr.normThen ?_)
      refine Tr.cond rfl H (fun H => ?_) (fun H => ?_)
      · refine Tr.seq ?_
        refine Tr.region ?_
        refine Tr.build (vs := []) (cs := [(.int .i64 0), (.int .i64 0)]) (wn rfl) rfl evs_nil (by kernel_rfl) ?_
        refine Tr.store 3 (cs := [(.int .i64 0), (.int .i64 0)]) [(.int .i64 0), (.int .i64 0)] (wn rfl) rfl rfl rfl rfl sz_35 rfl rfl rfl ?_
        refine Tr.val (wn rfl) rfl (fun _ _ h1 h2 => run_assign (h1.ev rfl)) ?_
        refine Tr.nil (Tr.normThen ?_)
        refine Tr.ret (Tr.retThen ?_)
        obtain rfl := Option.some.inj H
        exact Tr.out (m := [(.agg #[(.int .i64 0), (.int .i64 0)]), (.int .i64 1)]) [3] (res_cell rfl rfl ag_35 sz_35 (res_tmp rfl res_nil)) (fun W hW => ⟨rfl, hW.low leB⟩)
      · refine Tr.skip (Tr.normThen ?_)
        refine Tr.seq ?_
        refine Tr.region ?_
        refine Tr.val (wn rfl) rfl (fun _ _ h1 h2 => run_loadN (cs := [(.int .i64 y105.X), (.int .i64 y105.Y)]) ag_35 sz_35 (h1.ev rfl) (CellsAt.take (rdb h2 (vs := [(.int .i64 y105.X), (.int .i64 y105.Y)]) (k := 4) rfl 0) 2) rfl) ?_
        refine Tr.store 3 (cs := [(.int .i64 y105.X), (.int .i64 y105.Y)]) [(.int .i64 y105.X), (.int .i64 y105.Y)] (wn rfl) rfl rfl rfl rfl sz_35 rfl rfl rfl ?_
        refine Tr.val (wn rfl) rfl (fun _ _ h1 h2 => run_assign (h1.ev rfl)) ?_
        refine Tr.nil (Tr.normThen ?_)
        refine Tr.ret ?_
        obtain rfl := Option.some.inj H
        exact Tr.out (m := [(.agg #[(.int .i64 y105.X), (.int .i64 y105.Y)]), (.int .i64 0)]) [3] (res_cell rfl rfl ag_35 sz_35 (res_tmp rfl res_nil)) (fun W hW => ⟨rfl, hW.low leB⟩)

theorem F_shape_Then_ok (N : Nat) {w : Bs} (p0 : TTurn) (p1 : TTurn) (r : (TTurn × Int)) (H : F_shape_Then N p0 p1 = some r) (hE : HF w w.W E0) : Calls Try.prog 31 [(.agg #[(.bool p0.Flip), (.int .i64 p0.Quarters), (.int .i64 p0.At.X), (.int .i64 p0.At.Y)]), (.agg #[(.bool p1.Flip), (.int .i64 p1.Quarters), (.int .i64 p1.At.X), (.int .i64 p1.At.Y)])].toArray w.W fun e W' => e = .returned (.tuple #[(.agg #[(.bool r.1.Flip), (.int .i64 r.1.Quarters), (.int .i64 r.1.At.X), (.int .i64 r.1.At.Y)]), (.int .i64 r.2)]) ∧ HF w W' E0 := by
  unfold F_shape_Then at H
  have leB := Bs.Le.refl w
  refine Tr.enter (n := 49) Try.func31 rfl rfl rfl hE ?_
  refine Tr.seq ?_
  refine Tr.region ?_
  refine Tr.box 1 (cs := [(.bool p0.Flip), (.int .i64 p0.Quarters), (.int .i64 p0.At.X), (.int .i64 p0.At.Y)]) (wn rfl) rfl rfl rfl fun b100 => ?_
  refine Tr.box 2 (cs := [(.bool p1.Flip), (.int .i64 p1.Quarters), (.int .i64 p1.At.X), (.int .i64 p1.At.Y)]) (wn rfl) rfl rfl rfl fun b101 => ?_
  refine Tr.alloc 3 (wn rfl) rfl ze_42 fun b102 => ?_
  refine Tr.val (wn rfl) rfl (fun _ _ h1 h2 => run_assign (h1.ev rfl)) ?_
  refine Tr.nil (Tr.normThen ?_)
  refine Tr.seq ?_
  refine Tr.seq ?_
  refine Tr.region ?_
  refine Tr.val (wn rfl) rfl (fun _ _ h1 h2 => run_loadN (cs := [(.bool p0.Flip), (.int .i64 p0.Quarters), (.int .i64 p0.At.X), (.int .i64 p0.At.Y)]) ag_42 sz_42 (h1.ev rfl) (CellsAt.take (rdb h2 (vs := [(.bool p0.Flip), (.int .i64 p0.Quarters), (.int .i64 p0.At.X), (.int .i64 p0.At.Y)]) (k := 1) rfl 0) 4) rfl) ?_
  obtain ⟨y103, hy103, H⟩ := bnd H
  refine Tr.call0 (r := (.int .i64 y103)) (wn rfl) rfl Try.call29 (evl_cons rfl evl_nil) (fun W hW => F_shape_CheckTurn_ok p0 y103 hy103 (HF.start _)) ?_
  refine Tr.val (wn rfl) rfl (fun _ _ h1 h2 => run_assign (h1.ev rfl)) ?_
  refine Tr.nil (Tr.normThen ?_)
  refine Tr.seq ?_
  refine Tr.region ?_
  refine Tr.val (wn rfl) rfl (fun _ _ h1 h2 => run_move (h1.ev rfl)) ?_
  refine Tr.val (wn rfl) rfl (fun _ _ h1 h2 => run_neq (h1.ev rfl) (h1.ev rfl)) ?_
  refine Tr.nil (Tr.normThen ?_)
  refine Tr.cond rfl H (fun H => ?_) (fun H => ?_)
  · refine Tr.seq ?_
    refine Tr.region ?_
    refine Tr.build (vs := []) (cs := [(.bool false), (.int .i64 0), (.int .i64 0), (.int .i64 0)]) (wn rfl) rfl evs_nil (by kernel_rfl) ?_
    refine Tr.val (wn rfl) rfl (fun _ _ h1 h2 => run_move (h1.ev rfl)) ?_
    refine Tr.store 3 (cs := [(.bool false), (.int .i64 0), (.int .i64 0), (.int .i64 0)]) [(.bool false), (.int .i64 0), (.int .i64 0), (.int .i64 0)] (wn rfl) rfl rfl rfl rfl sz_42 rfl rfl rfl ?_
    refine Tr.val (wn rfl) rfl (fun _ _ h1 h2 => run_assign (h1.ev rfl)) ?_
    refine Tr.nil (Tr.normThen ?_)
    refine Tr.ret (Tr.retThen ?_)
    obtain rfl := Option.some.inj H
    exact Tr.out (m := [(.agg #[(.bool false), (.int .i64 0), (.int .i64 0), (.int .i64 0)]), (.int .i64 y103)]) [3] (res_cell rfl rfl ag_42 sz_42 (res_tmp rfl res_nil)) (fun W hW => ⟨rfl, hW.low leB⟩)
  · refine Tr.skip (Tr.normThen ?_)
    refine Tr.seq ?_
    refine Tr.seq ?_
    refine Tr.region ?_
    refine Tr.val (wn rfl) rfl (fun _ _ h1 h2 => run_loadN (cs := [(.bool p1.Flip), (.int .i64 p1.Quarters), (.int .i64 p1.At.X), (.int .i64 p1.At.Y)]) ag_42 sz_42 (h1.ev rfl) (CellsAt.take (rdb h2 (vs := [(.bool p1.Flip), (.int .i64 p1.Quarters), (.int .i64 p1.At.X), (.int .i64 p1.At.Y)]) (k := 2) rfl 0) 4) rfl) ?_
    obtain ⟨y104, hy104, H⟩ := bnd H
    refine Tr.call0 (r := (.int .i64 y104)) (wn rfl) rfl Try.call29 (evl_cons rfl evl_nil) (fun W hW => F_shape_CheckTurn_ok p1 y104 hy104 (HF.start _)) ?_
    refine Tr.val (wn rfl) rfl (fun _ _ h1 h2 => run_assign (h1.ev rfl)) ?_
    refine Tr.nil (Tr.normThen ?_)
    refine Tr.seq ?_
    refine Tr.region ?_
    refine Tr.val (wn rfl) rfl (fun _ _ h1 h2 => run_move (h1.ev rfl)) ?_
    refine Tr.val (wn rfl) rfl (fun _ _ h1 h2 => run_neq (h1.ev rfl) (h1.ev rfl)) ?_
    refine Tr.nil (Tr.normThen ?_)
    refine Tr.cond rfl H (fun H => ?_) (fun H => ?_)
    · refine Tr.seq ?_
      refine Tr.region ?_
      refine Tr.build (vs := []) (cs := [(.bool false), (.int .i64 0), (.int .i64 0), (.int .i64 0)]) (wn rfl) rfl evs_nil (by kernel_rfl) ?_
      refine Tr.val (wn rfl) rfl (fun _ _ h1 h2 => run_move (h1.ev rfl)) ?_
      refine Tr.store 3 (cs := [(.bool false), (.int .i64 0), (.int .i64 0), (.int .i64 0)]) [(.bool false), (.int .i64 0), (.int .i64 0), (.int .i64 0)] (wn rfl) rfl rfl rfl rfl sz_42 rfl rfl rfl ?_
      refine Tr.val (wn rfl) rfl (fun _ _ h1 h2 => run_assign (h1.ev rfl)) ?_
      refine Tr.nil (Tr.normThen ?_)
      refine Tr.ret (Tr.retThen ?_)
      obtain rfl := Option.some.inj H
      exact Tr.out (m := [(.agg #[(.bool false), (.int .i64 0), (.int .i64 0), (.int .i64 0)]), (.int .i64 y104)]) [3] (res_cell rfl rfl ag_42 sz_42 (res_tmp rfl res_nil)) (fun W hW => ⟨rfl, hW.low leB⟩)
    · refine Tr.skip (Tr.normThen ?_)
      refine Tr.seq ?_
      refine Tr.region ?_
      refine Tr.val (wn rfl) rfl (fun _ _ h1 h2 => run_fieldAddr fo_42_1 (h1.ev rfl)) ?_
      refine Tr.val (wn rfl) rfl (fun _ _ h1 h2 => run_load1 ag_3 (h1.ev rfl) (rdb h2 (vs := [(.bool p0.Flip), (.int .i64 p0.Quarters), (.int .i64 p0.At.X), (.int .i64 p0.At.Y)]) (k := 1) rfl 1) rfl) ?_
      refine Tr.val (wn rfl) rfl (fun _ _ h1 h2 => run_assign (h1.ev rfl)) ?_
      refine Tr.nil (Tr.normThen ?_)
      have leJ106 := Bs.Le.refl w
      refine Tr.cutJ (σ := Int) (fun w s => F_shape_Then_J1 N p0 p1 s = some r) (fun s => [(2, (.pointer (some ⟨b100, 0, none⟩))), (3, (.pointer (some ⟨b101, 0, none⟩))), (4, (.pointer (some ⟨b102, 0, none⟩))), (8, (.int .i64 s))]) (fun s => [(1, bx b100 #[(.bool p0.Flip), (.int .i64 p0.Quarters), (.int .i64 p0.At.X), (.int .i64 p0.At.Y)] 42), (2, bx b101 #[(.bool p1.Flip), (.int .i64 p1.Quarters), (.int .i64 p1.At.X), (.int .i64 p1.At.Y)] 42), (3, bx b102 #[(.bool false), (.int .i64 0), (.int .i64 0), (.int .i64 0)] 42)]) ?_ ?_
      · refine Tr.seq ?_
        refine Tr.region ?_
        refine Tr.val (wn rfl) rfl (fun _ _ h1 h2 => run_fieldAddr fo_42_0 (h1.ev rfl)) ?_
        refine Tr.val (wn rfl) rfl (fun _ _ h1 h2 => run_load1 ag_4 (h1.ev rfl) (rdb h2 (vs := [(.bool p1.Flip), (.int .i64 p1.Quarters), (.int .i64 p1.At.X), (.int .i64 p1.At.Y)]) (k := 2) rfl 0) rfl) ?_
        refine Tr.nil (Tr.normThen ?_)
        refine Tr.cond rfl H (fun H => ?_) (fun H => ?_)
        · refine Tr.region ?_
          refine Tr.val (wn rfl) rfl (fun _ _ h1 h2 => run_move (h1.ev rfl)) ?_
          refine Tr.val (wn rfl) rfl (fun _ _ h1 h2 => run_sub (h1.ev rfl) (h1.ev rfl)) ?_
          refine Tr.val (wn rfl) rfl (fun _ _ h1 h2 => run_assign (h1.ev rfl)) ?_
          refine Tr.nil ?_
          exact Tr.backThen leJ106 (w64 (4 - p0.Quarters)) H (.cons rfl (.cons rfl (.cons rfl (.cons rfl .nil)))) (.cons rfl (.cons rfl (.cons rfl .nil)))
        · refine Tr.skip ?_
          exact Tr.backThen leJ106 p0.Quarters H (.cons rfl (.cons rfl (.cons rfl (.cons rfl .nil)))) (.cons rfl (.cons rfl (.cons rfl .nil)))
      · intro w x105 hlJ107 hs
        have H := hs
        replace H : F_shape_Then_J1 N p0 p1 x105 = some r := H
        replace leB := leB.trans hlJ107
        unfold F_shape_Then_J1 at H
        show Tr _ _ (LF [(2, (.pointer (some ⟨b100, 0, none⟩))), (3, (.pointer (some ⟨b101, 0, none⟩))), (4, (.pointer (some ⟨b102, 0, none⟩))), (8, (.int .i64 x105))]) (LE [(1, bx b100 #[(.bool p0.Flip), (.int .i64 p0.Quarters), (.int .i64 p0.At.X), (.int .i64 p0.At.Y)] 42), (2, bx b101 #[(.bool p1.Flip), (.int .i64 p1.Quarters), (.int .i64 p1.At.X), (.int .i64 p1.At.Y)] 42), (3, bx b102 #[(.bool false), (.int .i64 0), (.int .i64 0), (.int .i64 0)] 42)]) _
        refine Tr.seq ?_
        obtain ⟨y109, hy109, H⟩ := bnd H
        refine Tr.drawF 16 [(15, .makeFunc (.func 0) #[] #[])] [(15, ⟨9, 4, (.func (.func 0) #[] #[]), fun b => .pointer (some ⟨b, 0, none⟩), fun b => bx b #[(.bool false), (.int .i64 0), (.int .i64 0), (.int .i64 0)] 42⟩)] [(2, (.pointer (some ⟨b100, 0, none⟩))), (3, (.pointer (some ⟨b101, 0, none⟩))), (4, (.pointer (some ⟨b102, 0, none⟩))), (8, (.int .i64 x105)), (9, (.func (.func 0) #[] #[])), (28, (.pointer (some ⟨b100, 0, none⟩))), (29, (.bool p0.Flip)), (30, (.pointer (some ⟨b101, 0, none⟩))), (31, (.bool p1.Flip)), (32, (.bool (p0.Flip != p1.Flip))), (33, (.int .i64 x105)), (34, (.pointer (some ⟨b101, 1, none⟩))), (35, (.int .i64 p1.Quarters)), (36, (.int .i64 (w64 (x105 + p1.Quarters)))), (37, (.int .i64 (Int.tmod (w64 (x105 + p1.Quarters)) 4))), (38, (.pointer (some ⟨b100, 2, none⟩))), (39, (.agg #[(.int .i64 p0.At.X), (.int .i64 p0.At.Y)])), (40, (.agg #[(.bool p1.Flip), (.int .i64 p1.Quarters), (.int .i64 p1.At.X), (.int .i64 p1.At.Y)])), (41, (.agg #[(.int .i64 y109.X), (.int .i64 y109.Y)])), (42, (.agg #[(.bool (p0.Flip != p1.Flip)), (.int .i64 (Int.tmod (w64 (x105 + p1.Quarters)) 4)), (.int .i64 y109.X), (.int .i64 y109.Y)]))] (by kernel_rfl) (by kernel_rfl) (by kernel_rfl) (by kernel_rfl) (by kernel_rfl) (by kernel_rfl) (by kernel_rfl) (fall_cons (fr_alloc rfl rfl ze_42) fall_nil) (fall_cons rfl fall_nil) (fall_cons rfl fall_nil) ?_ ?_
        · refine Tq.val (wn rfl) rfl (fun _ _ h1 h2 => run_fieldAddr fo_42_0 (h1.ev rfl)) ?_
          refine Tq.val (wn rfl) rfl (fun _ _ h1 h2 => run_load1 ag_4 (h1.ev rfl) (rdb h2 (vs := [(.bool p0.Flip), (.int .i64 p0.Quarters), (.int .i64 p0.At.X), (.int .i64 p0.At.Y)]) (k := 1) rfl 0) rfl) ?_
          refine Tq.val (wn rfl) rfl (fun _ _ h1 h2 => run_fieldAddr fo_42_0 (h1.ev rfl)) ?_
          refine Tq.val (wn rfl) rfl (fun _ _ h1 h2 => run_load1 ag_4 (h1.ev rfl) (rdb h2 (vs := [(.bool p1.Flip), (.int .i64 p1.Quarters), (.int .i64 p1.At.X), (.int .i64 p1.At.Y)]) (k := 2) rfl 0) rfl) ?_
          refine Tq.val (wn rfl) rfl (fun _ _ h1 h2 => run_neqB un_4 (h1.ev rfl) (h1.ev rfl)) ?_
          refine Tq.val (wn rfl) rfl (fun _ _ h1 h2 => run_move (h1.ev rfl)) ?_
          refine Tq.val (wn rfl) rfl (fun _ _ h1 h2 => run_fieldAddr fo_42_1 (h1.ev rfl)) ?_
          refine Tq.val (wn rfl) rfl (fun _ _ h1 h2 => run_load1 ag_3 (h1.ev rfl) (rdb h2 (vs := [(.bool p1.Flip), (.int .i64 p1.Quarters), (.int .i64 p1.At.X), (.int .i64 p1.At.Y)]) (k := 2) rfl 1) rfl) ?_
          refine Tq.val (wn rfl) rfl (fun _ _ h1 h2 => run_add (h1.ev rfl) (h1.ev rfl)) ?_
          refine Tq.val (wn rfl) rfl (fun _ _ h1 h2 => run_rem (h1.ev rfl) (h1.ev rfl) (by decide)) ?_
          refine Tq.val (wn rfl) rfl (fun _ _ h1 h2 => run_fieldAddr fo_42_2 (h1.ev rfl)) ?_
          refine Tq.val (wn rfl) rfl (fun _ _ h1 h2 => run_loadN (cs := [(.int .i64 p0.At.X), (.int .i64 p0.At.Y)]) ag_35 sz_35 (h1.ev rfl) (CellsAt.take (rdb h2 (vs := [(.bool p0.Flip), (.int .i64 p0.Quarters), (.int .i64 p0.At.X), (.int .i64 p0.At.Y)]) (k := 1) rfl 2) 2) rfl) ?_
          refine Tq.val (wn rfl) rfl (fun _ _ h1 h2 => run_loadN (cs := [(.bool p1.Flip), (.int .i64 p1.Quarters), (.int .i64 p1.At.X), (.int .i64 p1.At.Y)]) ag_42 sz_42 (h1.ev rfl) (CellsAt.take (rdb h2 (vs := [(.bool p1.Flip), (.int .i64 p1.Quarters), (.int .i64 p1.At.X), (.int .i64 p1.At.Y)]) (k := 2) rfl 0) 4) rfl) ?_
          refine Tq.call0 (r := (.agg #[(.int .i64 y109.X), (.int .i64 y109.Y)])) (wn rfl) rfl Try.call65 (evl_cons rfl (evl_cons rfl evl_nil)) (fun W hW => F_shape_TurnPoint_ok N p0.At p1 y109 hy109 (HF.start _)) ?_
          refine Tq.build (vs := [(0, (.bool (p0.Flip != p1.Flip))), (1, (.int .i64 (Int.tmod (w64 (x105 + p1.Quarters)) 4))), (2, (.agg #[(.int .i64 y109.X), (.int .i64 y109.Y)]))]) (cs := [(.bool (p0.Flip != p1.Flip)), (.int .i64 (Int.tmod (w64 (x105 + p1.Quarters)) 4)), (.int .i64 y109.X), (.int .i64 y109.Y)]) (wn rfl) rfl (evs_cons rfl (evs_cons rfl (evs_cons rfl evs_nil))) (by kernel_rfl) ?_
          refine Tq.mkFunc (vs := []) (wn rfl) rfl evl_nil ?_
          exact Tq.fin (.cons rfl (.cons rfl (.cons rfl (.cons rfl (.cons rfl (.cons rfl (.cons rfl (.cons rfl (.cons rfl (.cons rfl (.cons rfl (.cons rfl (.cons rfl (.cons rfl (.cons rfl (.cons rfl (.cons rfl (.cons rfl (.cons rfl (.cons rfl .nil))))))))))))))))))))
        · intro bs108
          refine Tr.sel (lf := [(4, (.pointer (some ⟨b102, 0, none⟩))), (9, (.pointer (some ⟨(bs108 15), 0, none⟩))), (42, (.agg #[(.bool (p0.Flip != p1.Flip)), (.int .i64 (Int.tmod (w64 (x105 + p1.Quarters)) 4)), (.int .i64 y109.X), (.int .i64 y109.Y)]))]) (le := [(1, bx b100 #[(.bool p0.Flip), (.int .i64 p0.Quarters), (.int .i64 p0.At.X), (.int .i64 p0.At.Y)] 42), (2, bx b101 #[(.bool p1.Flip), (.int .i64 p1.Quarters), (.int .i64 p1.At.X), (.int .i64 p1.At.Y)] 42), (3, bx b102 #[(.bool false), (.int .i64 0), (.int .i64 0), (.int .i64 0)] 42), (4, bx (bs108 15) #[(.bool false), (.int .i64 0), (.int .i64 0), (.int .i64 0)] 42)]) (.cons rfl (.cons rfl (.cons rfl .nil))) (.cons rfl (.cons rfl (.cons rfl (.cons rfl .nil)))) ?_
          refine Tr.store 4 (cs := [(.bool (p0.Flip != p1.Flip)), (.int .i64 (Int.tmod (w64 (x105 + p1.Quarters)) 4)), (.int .i64 y109.X), (.int .i64 y109.Y)]) [(.bool (p0.Flip != p1.Flip)), (.int .i64 (Int.tmod (w64 (x105 + p1.Quarters)) 4)), (.int .i64 y109.X), (.int .i64 y109.Y)] (wn rfl) rfl rfl rfl rfl sz_42 rfl rfl rfl ?_
          refine Tr.nil (Tr.normThen ?_)
          refine Tr.seq ?_
          refine Tr.seq ?_
          refine Tr.region ?_
          refine Tr.val (wn rfl) rfl (fun _ _ h1 h2 => run_fieldAddr fo_42_2 (h1.ev rfl)) ?_
          refine Tr.val (wn rfl) rfl (fun _ _ h1 h2 => run_loadN (cs := [(.int .i64 y109.X), (.int .i64 y109.Y)]) ag_35 sz_35 (h1.ev rfl) (CellsAt.take (rdb h2 (vs := [(.bool (p0.Flip != p1.Flip)), (.int .i64 (Int.tmod (w64 (x105 + p1.Quarters)) 4)), (.int .i64 y109.X), (.int .i64 y109.Y)]) (k := 4) rfl 2) 2) rfl) ?_
          obtain ⟨y110, hy110, H⟩ := bnd H
          refine Tr.call0 (r := (.bool y110)) (wn rfl) rfl Try.call59 (evl_cons rfl evl_nil) (fun W hW => F_shape_IsPoint_ok y109 y110 hy110 (HF.start _)) ?_
          refine Tr.val (wn rfl) rfl (fun _ _ h1 h2 => run_not (h1.ev rfl)) ?_
          refine Tr.nil (Tr.normThen ?_)
          refine Tr.cond rfl H (fun H => ?_) (fun H => ?_)
          · refine Tr.seq ?_
            refine Tr.region ?_
            refine Tr.build (vs := []) (cs := [(.bool false), (.int .i64 0), (.int .i64 0), (.int .i64 0)]) (wn rfl) rfl evs_nil (by kernel_rfl) ?_
            refine Tr.store 3 (cs := [(.bool false), (.int .i64 0), (.int .i64 0), (.int .i64 0)]) [(.bool false), (.int .i64 0), (.int .i64 0), (.int .i64 0)] (wn rfl) rfl rfl rfl rfl sz_42 rfl rfl rfl ?_
            refine Tr.val (wn rfl) rfl (fun _ _ h1 h2 => run_assign (h1.ev rfl)) ?_
            refine Tr.nil (Tr.normThen ?_)
            refine Tr.ret (Tr.retThen ?_)
            obtain rfl := Option.some.inj H
            exact Tr.out (m := [(.agg #[(.bool false), (.int .i64 0), (.int .i64 0), (.int .i64 0)]), (.int .i64 1)]) [3] (res_cell rfl rfl ag_42 sz_42 (res_tmp rfl res_nil)) (fun W hW => ⟨rfl, hW.low leB⟩)
          · refine Tr.skip (Tr.normThen ?_)
            refine Tr.seq ?_
            refine Tr.region ?_
            refine Tr.val (wn rfl) rfl (fun _ _ h1 h2 => run_loadN (cs := [(.bool (p0.Flip != p1.Flip)), (.int .i64 (Int.tmod (w64 (x105 + p1.Quarters)) 4)), (.int .i64 y109.X), (.int .i64 y109.Y)]) ag_42 sz_42 (h1.ev rfl) (CellsAt.take (rdb h2 (vs := [(.bool (p0.Flip != p1.Flip)), (.int .i64 (Int.tmod (w64 (x105 + p1.Quarters)) 4)), (.int .i64 y109.X), (.int .i64 y109.Y)]) (k := 4) rfl 0) 4) rfl) ?_
            refine Tr.store 3 (cs := [(.bool (p0.Flip != p1.Flip)), (.int .i64 (Int.tmod (w64 (x105 + p1.Quarters)) 4)), (.int .i64 y109.X), (.int .i64 y109.Y)]) [(.bool (p0.Flip != p1.Flip)), (.int .i64 (Int.tmod (w64 (x105 + p1.Quarters)) 4)), (.int .i64 y109.X), (.int .i64 y109.Y)] (wn rfl) rfl rfl rfl rfl sz_42 rfl rfl rfl ?_
            refine Tr.val (wn rfl) rfl (fun _ _ h1 h2 => run_assign (h1.ev rfl)) ?_
            refine Tr.nil (Tr.normThen ?_)
            refine Tr.ret ?_
            obtain rfl := Option.some.inj H
            exact Tr.out (m := [(.agg #[(.bool (p0.Flip != p1.Flip)), (.int .i64 (Int.tmod (w64 (x105 + p1.Quarters)) 4)), (.int .i64 y109.X), (.int .i64 y109.Y)]), (.int .i64 0)]) [3] (res_cell rfl rfl ag_42 sz_42 (res_tmp rfl res_nil)) (fun W hW => ⟨rfl, hW.low leB⟩)

theorem F_etchhouseref1_ThenOf_ok (N : Nat) {w : Bs} (p0 : TTurn) (p1 : TTurn) (r : TTurn) (H : F_etchhouseref1_ThenOf N p0 p1 = some r) (hE : HF w w.W E0) : Calls Try.prog 69 [(.agg #[(.bool p0.Flip), (.int .i64 p0.Quarters), (.int .i64 p0.At.X), (.int .i64 p0.At.Y)]), (.agg #[(.bool p1.Flip), (.int .i64 p1.Quarters), (.int .i64 p1.At.X), (.int .i64 p1.At.Y)])].toArray w.W fun e W' => e = .returned (.agg #[(.bool r.Flip), (.int .i64 r.Quarters), (.int .i64 r.At.X), (.int .i64 r.At.Y)]) ∧ HF w W' E0 := by
  unfold F_etchhouseref1_ThenOf at H
  have leB := Bs.Le.refl w
  refine Tr.enter (n := 27) Try.func69 rfl rfl rfl hE ?_
  refine Tr.seq ?_
  refine Tr.region ?_
  refine Tr.box 1 (cs := [(.bool p0.Flip), (.int .i64 p0.Quarters), (.int .i64 p0.At.X), (.int .i64 p0.At.Y)]) (wn rfl) rfl rfl rfl fun b100 => ?_
  refine Tr.box 2 (cs := [(.bool p1.Flip), (.int .i64 p1.Quarters), (.int .i64 p1.At.X), (.int .i64 p1.At.Y)]) (wn rfl) rfl rfl rfl fun b101 => ?_
  refine Tr.alloc 3 (wn rfl) rfl ze_42 fun b102 => ?_
  refine Tr.nil (Tr.normThen ?_)
  refine Tr.seq ?_
  refine Tr.region ?_
  refine Tr.val (wn rfl) rfl (fun _ _ h1 h2 => run_fieldAddr fo_42_1 (h1.ev rfl)) ?_
  refine Tr.val (wn rfl) rfl (fun _ _ h1 h2 => run_load1 ag_3 (h1.ev rfl) (rdb h2 (vs := [(.bool p0.Flip), (.int .i64 p0.Quarters), (.int .i64 p0.At.X), (.int .i64 p0.At.Y)]) (k := 1) rfl 1) rfl) ?_
  refine Tr.val (wn rfl) rfl (fun _ _ h1 h2 => run_assign (h1.ev rfl)) ?_
  refine Tr.nil (Tr.normThen ?_)
  have leJ104 := Bs.Le.refl w
  refine Tr.cutJ (σ := Int) (fun w s => F_etchhouseref1_ThenOf_J1 N p0 p1 s = some r) (fun s => [(2, (.pointer (some ⟨b100, 0, none⟩))), (3, (.pointer (some ⟨b101, 0, none⟩))), (4, (.pointer (some ⟨b102, 0, none⟩))), (5, (.int .i64 s))]) (fun s => [(1, bx b100 #[(.bool p0.Flip), (.int .i64 p0.Quarters), (.int .i64 p0.At.X), (.int .i64 p0.At.Y)] 42), (2, bx b101 #[(.bool p1.Flip), (.int .i64 p1.Quarters), (.int .i64 p1.At.X), (.int .i64 p1.At.Y)] 42), (3, bx b102 #[(.bool false), (.int .i64 0), (.int .i64 0), (.int .i64 0)] 42)]) ?_ ?_
  · refine Tr.seq ?_
    refine Tr.region ?_
    refine Tr.val (wn rfl) rfl (fun _ _ h1 h2 => run_fieldAddr fo_42_0 (h1.ev rfl)) ?_
    refine Tr.val (wn rfl) rfl (fun _ _ h1 h2 => run_load1 ag_4 (h1.ev rfl) (rdb h2 (vs := [(.bool p1.Flip), (.int .i64 p1.Quarters), (.int .i64 p1.At.X), (.int .i64 p1.At.Y)]) (k := 2) rfl 0) rfl) ?_
    refine Tr.nil (Tr.normThen ?_)
    refine Tr.cond rfl H (fun H => ?_) (fun H => ?_)
    · refine Tr.region ?_
      refine Tr.val (wn rfl) rfl (fun _ _ h1 h2 => run_move (h1.ev rfl)) ?_
      refine Tr.val (wn rfl) rfl (fun _ _ h1 h2 => run_sub (h1.ev rfl) (h1.ev rfl)) ?_
      refine Tr.val (wn rfl) rfl (fun _ _ h1 h2 => run_assign (h1.ev rfl)) ?_
      refine Tr.nil ?_
      exact Tr.backThen leJ104 (w64 (4 - p0.Quarters)) H (.cons rfl (.cons rfl (.cons rfl (.cons rfl .nil)))) (.cons rfl (.cons rfl (.cons rfl .nil)))
    · refine Tr.skip ?_
      exact Tr.backThen leJ104 p0.Quarters H (.cons rfl (.cons rfl (.cons rfl (.cons rfl .nil)))) (.cons rfl (.cons rfl (.cons rfl .nil)))
  · intro w x103 hlJ105 hs
    have H := hs
    replace H : F_etchhouseref1_ThenOf_J1 N p0 p1 x103 = some r := H
    replace leB := leB.trans hlJ105
    unfold F_etchhouseref1_ThenOf_J1 at H
    show Tr _ _ (LF [(2, (.pointer (some ⟨b100, 0, none⟩))), (3, (.pointer (some ⟨b101, 0, none⟩))), (4, (.pointer (some ⟨b102, 0, none⟩))), (5, (.int .i64 x103))]) (LE [(1, bx b100 #[(.bool p0.Flip), (.int .i64 p0.Quarters), (.int .i64 p0.At.X), (.int .i64 p0.At.Y)] 42), (2, bx b101 #[(.bool p1.Flip), (.int .i64 p1.Quarters), (.int .i64 p1.At.X), (.int .i64 p1.At.Y)] 42), (3, bx b102 #[(.bool false), (.int .i64 0), (.int .i64 0), (.int .i64 0)] 42)]) _
    refine Tr.seq ?_
    refine Tr.drawTail 14 (by kernel_rfl) (by kernel_rfl) ?_
    refine Tq.val (wn rfl) rfl (fun _ _ h1 h2 => run_fieldAddr fo_42_0 (h1.ev rfl)) ?_
    refine Tq.val (wn rfl) rfl (fun _ _ h1 h2 => run_load1 ag_4 (h1.ev rfl) (rdb h2 (vs := [(.bool p0.Flip), (.int .i64 p0.Quarters), (.int .i64 p0.At.X), (.int .i64 p0.At.Y)]) (k := 1) rfl 0) rfl) ?_
    refine Tq.val (wn rfl) rfl (fun _ _ h1 h2 => run_fieldAddr fo_42_0 (h1.ev rfl)) ?_
    refine Tq.val (wn rfl) rfl (fun _ _ h1 h2 => run_load1 ag_4 (h1.ev rfl) (rdb h2 (vs := [(.bool p1.Flip), (.int .i64 p1.Quarters), (.int .i64 p1.At.X), (.int .i64 p1.At.Y)]) (k := 2) rfl 0) rfl) ?_
    refine Tq.val (wn rfl) rfl (fun _ _ h1 h2 => run_neqB un_4 (h1.ev rfl) (h1.ev rfl)) ?_
    refine Tq.val (wn rfl) rfl (fun _ _ h1 h2 => run_fieldAddr fo_42_1 (h1.ev rfl)) ?_
    refine Tq.val (wn rfl) rfl (fun _ _ h1 h2 => run_load1 ag_3 (h1.ev rfl) (rdb h2 (vs := [(.bool p1.Flip), (.int .i64 p1.Quarters), (.int .i64 p1.At.X), (.int .i64 p1.At.Y)]) (k := 2) rfl 1) rfl) ?_
    refine Tq.val (wn rfl) rfl (fun _ _ h1 h2 => run_move (h1.ev rfl)) ?_
    refine Tq.val (wn rfl) rfl (fun _ _ h1 h2 => run_add (h1.ev rfl) (h1.ev rfl)) ?_
    refine Tq.val (wn rfl) rfl (fun _ _ h1 h2 => run_rem (h1.ev rfl) (h1.ev rfl) (by decide)) ?_
    refine Tq.val (wn rfl) rfl (fun _ _ h1 h2 => run_fieldAddr fo_42_2 (h1.ev rfl)) ?_
    refine Tq.val (wn rfl) rfl (fun _ _ h1 h2 => run_loadN (cs := [(.int .i64 p0.At.X), (.int .i64 p0.At.Y)]) ag_35 sz_35 (h1.ev rfl) (CellsAt.take (rdb h2 (vs := [(.bool p0.Flip), (.int .i64 p0.Quarters), (.int .i64 p0.At.X), (.int .i64 p0.At.Y)]) (k := 1) rfl 2) 2) rfl) ?_
    refine Tq.val (wn rfl) rfl (fun _ _ h1 h2 => run_loadN (cs := [(.bool p1.Flip), (.int .i64 p1.Quarters), (.int .i64 p1.At.X), (.int .i64 p1.At.Y)]) ag_42 sz_42 (h1.ev rfl) (CellsAt.take (rdb h2 (vs := [(.bool p1.Flip), (.int .i64 p1.Quarters), (.int .i64 p1.At.X), (.int .i64 p1.At.Y)]) (k := 2) rfl 0) 4) rfl) ?_
    obtain ⟨y106, hy106, H⟩ := bnd H
    refine Tq.call0 (r := (.agg #[(.int .i64 y106.X), (.int .i64 y106.Y)])) (wn rfl) rfl Try.call66 (evl_cons rfl (evl_cons rfl evl_nil)) (fun W hW => F_etchhouseref1_TurnPoint_ok N p0.At p1 y106 hy106 (HF.start _)) ?_
    refine Tq.nil ?_
    refine Tr.build (vs := [(0, (.bool (p0.Flip != p1.Flip))), (1, (.int .i64 (Int.tmod (w64 (p1.Quarters + x103)) 4))), (2, (.agg #[(.int .i64 y106.X), (.int .i64 y106.Y)]))]) (cs := [(.bool (p0.Flip != p1.Flip)), (.int .i64 (Int.tmod (w64 (p1.Quarters + x103)) 4)), (.int .i64 y106.X), (.int .i64 y106.Y)]) (wn rfl) rfl (evs_cons rfl (evs_cons rfl (evs_cons rfl evs_nil))) (by kernel_rfl) ?_
    refine Tr.store 3 (cs := [(.bool (p0.Flip != p1.Flip)), (.int .i64 (Int.tmod (w64 (p1.Quarters + x103)) 4)), (.int .i64 y106.X), (.int .i64 y106.Y)]) [(.bool (p0.Flip != p1.Flip)), (.int .i64 (Int.tmod (w64 (p1.Quarters + x103)) 4)), (.int .i64 y106.X), (.int .i64 y106.Y)] (wn rfl) rfl rfl rfl rfl sz_42 rfl rfl rfl ?_
    refine Tr.nil (Tr.normThen ?_)
    refine Tr.ret ?_
    obtain rfl := Option.some.inj H
    exact Tr.out (m := [(.agg #[(.bool (p0.Flip != p1.Flip)), (.int .i64 (Int.tmod (w64 (p1.Quarters + x103)) 4)), (.int .i64 y106.X), (.int .i64 y106.Y)])]) [3] (res_cell rfl rfl ag_42 sz_42 res_nil) (fun W hW => ⟨rfl, hW.low leB⟩)

theorem F_etchhouseref1_Then_ok (N : Nat) {w : Bs} (p0 : TTurn) (p1 : TTurn) (r : (TTurn × Int)) (H : F_etchhouseref1_Then N p0 p1 = some r) (hE : HF w w.W E0) : Calls Try.prog 32 [(.agg #[(.bool p0.Flip), (.int .i64 p0.Quarters), (.int .i64 p0.At.X), (.int .i64 p0.At.Y)]), (.agg #[(.bool p1.Flip), (.int .i64 p1.Quarters), (.int .i64 p1.At.X), (.int .i64 p1.At.Y)])].toArray w.W fun e W' => e = .returned (.tuple #[(.agg #[(.bool r.1.Flip), (.int .i64 r.1.Quarters), (.int .i64 r.1.At.X), (.int .i64 r.1.At.Y)]), (.int .i64 r.2)]) ∧ HF w W' E0 := by
  unfold F_etchhouseref1_Then at H
  have leB := Bs.Le.refl w
  refine Tr.enter (n := 30) Try.func32 rfl rfl rfl hE ?_
  refine Tr.seq ?_
  refine Tr.region ?_
  refine Tr.box 1 (cs := [(.bool p0.Flip), (.int .i64 p0.Quarters), (.int .i64 p0.At.X), (.int .i64 p0.At.Y)]) (wn rfl) rfl rfl rfl fun b100 => ?_
  refine Tr.box 2 (cs := [(.bool p1.Flip), (.int .i64 p1.Quarters), (.int .i64 p1.At.X), (.int .i64 p1.At.Y)]) (wn rfl) rfl rfl rfl fun b101 => ?_
  refine Tr.alloc 3 (wn rfl) rfl ze_42 fun b102 => ?_
  refine Tr.val (wn rfl) rfl (fun _ _ h1 h2 => run_assign (h1.ev rfl)) ?_
  refine Tr.nil (Tr.normThen ?_)
  refine Tr.seq ?_
  refine Tr.seq ?_
  refine Tr.region ?_
  refine Tr.val (wn rfl) rfl (fun _ _ h1 h2 => run_loadN (cs := [(.bool p0.Flip), (.int .i64 p0.Quarters), (.int .i64 p0.At.X), (.int .i64 p0.At.Y)]) ag_42 sz_42 (h1.ev rfl) (CellsAt.take (rdb h2 (vs := [(.bool p0.Flip), (.int .i64 p0.Quarters), (.int .i64 p0.At.X), (.int .i64 p0.At.Y)]) (k := 1) rfl 0) 4) rfl) ?_
  obtain ⟨y103, hy103, H⟩ := bnd H
  refine Tr.call0 (r := (.int .i64 y103)) (wn rfl) rfl Try.call30 (evl_cons rfl evl_nil) (fun W hW => F_etchhouseref1_CheckTurn_ok p0 y103 hy103 (HF.start _)) ?_
  refine Tr.val (wn rfl) rfl (fun _ _ h1 h2 => run_assign (h1.ev rfl)) ?_
  refine Tr.nil (Tr.normThen ?_)
  refine Tr.seq ?_
  refine Tr.region ?_
  refine Tr.val (wn rfl) rfl (fun _ _ h1 h2 => run_move (h1.ev rfl)) ?_
  refine Tr.val (wn rfl) rfl (fun _ _ h1 h2 => run_neq (h1.ev rfl) (h1.ev rfl)) ?_
  refine Tr.nil (Tr.normThen ?_)
  refine Tr.cond rfl H (fun H => ?_) (fun H => ?_)
  · refine Tr.seq ?_
    refine Tr.region ?_
    refine Tr.build (vs := []) (cs := [(.bool false), (.int .i64 0), (.int .i64 0), (.int .i64 0)]) (wn rfl) rfl evs_nil (by kernel_rfl) ?_
    refine Tr.val (wn rfl) rfl (fun _ _ h1 h2 => run_move (h1.ev rfl)) ?_
    refine Tr.store 3 (cs := [(.bool false), (.int .i64 0), (.int .i64 0), (.int .i64 0)]) [(.bool false), (.int .i64 0), (.int .i64 0), (.int .i64 0)] (wn rfl) rfl rfl rfl rfl sz_42 rfl rfl rfl ?_
    refine Tr.val (wn rfl) rfl (fun _ _ h1 h2 => run_assign (h1.ev rfl)) ?_
    refine Tr.nil (Tr.normThen ?_)
    refine Tr.ret (Tr.retThen ?_)
    obtain rfl := Option.some.inj H
    exact Tr.out (m := [(.agg #[(.bool false), (.int .i64 0), (.int .i64 0), (.int .i64 0)]), (.int .i64 y103)]) [3] (res_cell rfl rfl ag_42 sz_42 (res_tmp rfl res_nil)) (fun W hW => ⟨rfl, hW.low leB⟩)
  · refine Tr.skip (Tr.normThen ?_)
    refine Tr.seq ?_
    refine Tr.seq ?_
    refine Tr.region ?_
    refine Tr.val (wn rfl) rfl (fun _ _ h1 h2 => run_loadN (cs := [(.bool p1.Flip), (.int .i64 p1.Quarters), (.int .i64 p1.At.X), (.int .i64 p1.At.Y)]) ag_42 sz_42 (h1.ev rfl) (CellsAt.take (rdb h2 (vs := [(.bool p1.Flip), (.int .i64 p1.Quarters), (.int .i64 p1.At.X), (.int .i64 p1.At.Y)]) (k := 2) rfl 0) 4) rfl) ?_
    obtain ⟨y104, hy104, H⟩ := bnd H
    refine Tr.call0 (r := (.int .i64 y104)) (wn rfl) rfl Try.call30 (evl_cons rfl evl_nil) (fun W hW => F_etchhouseref1_CheckTurn_ok p1 y104 hy104 (HF.start _)) ?_
    refine Tr.val (wn rfl) rfl (fun _ _ h1 h2 => run_assign (h1.ev rfl)) ?_
    refine Tr.nil (Tr.normThen ?_)
    refine Tr.seq ?_
    refine Tr.region ?_
    refine Tr.val (wn rfl) rfl (fun _ _ h1 h2 => run_move (h1.ev rfl)) ?_
    refine Tr.val (wn rfl) rfl (fun _ _ h1 h2 => run_neq (h1.ev rfl) (h1.ev rfl)) ?_
    refine Tr.nil (Tr.normThen ?_)
    refine Tr.cond rfl H (fun H => ?_) (fun H => ?_)
    · refine Tr.seq ?_
      refine Tr.region ?_
      refine Tr.build (vs := []) (cs := [(.bool false), (.int .i64 0), (.int .i64 0), (.int .i64 0)]) (wn rfl) rfl evs_nil (by kernel_rfl) ?_
      refine Tr.val (wn rfl) rfl (fun _ _ h1 h2 => run_move (h1.ev rfl)) ?_
      refine Tr.store 3 (cs := [(.bool false), (.int .i64 0), (.int .i64 0), (.int .i64 0)]) [(.bool false), (.int .i64 0), (.int .i64 0), (.int .i64 0)] (wn rfl) rfl rfl rfl rfl sz_42 rfl rfl rfl ?_
      refine Tr.val (wn rfl) rfl (fun _ _ h1 h2 => run_assign (h1.ev rfl)) ?_
      refine Tr.nil (Tr.normThen ?_)
      refine Tr.ret (Tr.retThen ?_)
      obtain rfl := Option.some.inj H
      exact Tr.out (m := [(.agg #[(.bool false), (.int .i64 0), (.int .i64 0), (.int .i64 0)]), (.int .i64 y104)]) [3] (res_cell rfl rfl ag_42 sz_42 (res_tmp rfl res_nil)) (fun W hW => ⟨rfl, hW.low leB⟩)
    · refine Tr.skip (Tr.normThen ?_)
      refine Tr.seq ?_
      refine Tr.region ?_
      refine Tr.val (wn rfl) rfl (fun _ _ h1 h2 => run_loadN (cs := [(.bool p0.Flip), (.int .i64 p0.Quarters), (.int .i64 p0.At.X), (.int .i64 p0.At.Y)]) ag_42 sz_42 (h1.ev rfl) (CellsAt.take (rdb h2 (vs := [(.bool p0.Flip), (.int .i64 p0.Quarters), (.int .i64 p0.At.X), (.int .i64 p0.At.Y)]) (k := 1) rfl 0) 4) rfl) ?_
      refine Tr.val (wn rfl) rfl (fun _ _ h1 h2 => run_loadN (cs := [(.bool p1.Flip), (.int .i64 p1.Quarters), (.int .i64 p1.At.X), (.int .i64 p1.At.Y)]) ag_42 sz_42 (h1.ev rfl) (CellsAt.take (rdb h2 (vs := [(.bool p1.Flip), (.int .i64 p1.Quarters), (.int .i64 p1.At.X), (.int .i64 p1.At.Y)]) (k := 2) rfl 0) 4) rfl) ?_
      obtain ⟨y105, hy105, H⟩ := bnd H
      refine Tr.call0 (r := (.agg #[(.bool y105.Flip), (.int .i64 y105.Quarters), (.int .i64 y105.At.X), (.int .i64 y105.At.Y)])) (wn rfl) rfl Try.call69 (evl_cons rfl (evl_cons rfl evl_nil)) (fun W hW => F_etchhouseref1_ThenOf_ok N p0 p1 y105 hy105 (HF.start _)) ?_
      refine Tr.alloc 4 (wn rfl) rfl ze_42 fun b106 => ?_
      refine Tr.store 4 (cs := [(.bool y105.Flip), (.int .i64 y105.Quarters), (.int .i64 y105.At.X), (.int .i64 y105.At.Y)]) [(.bool y105.Flip), (.int .i64 y105.Quarters), (.int .i64 y105.At.X), (.int .i64 y105.At.Y)] (wn rfl) rfl rfl rfl rfl sz_42 rfl rfl rfl ?_
      refine Tr.nil (Tr.normThen ?_)
      refine Tr.seq ?_
      refine Tr.seq ?_
      refine Tr.region ?_
      refine Tr.val (wn rfl) rfl (fun _ _ h1 h2 => run_fieldAddr fo_42_2 (h1.ev rfl)) ?_
      refine Tr.val (wn rfl) rfl (fun _ _ h1 h2 => run_loadN (cs := [(.int .i64 y105.At.X), (.int .i64 y105.At.Y)]) ag_35 sz_35 (h1.ev rfl) (CellsAt.take (rdb h2 (vs := [(.bool y105.Flip), (.int .i64 y105.Quarters), (.int .i64 y105.At.X), (.int .i64 y105.At.Y)]) (k := 4) rfl 2) 2) rfl) ?_
      obtain ⟨y107, hy107, H⟩ := bnd H
      refine Tr.call0 (r := (.bool y107)) (wn rfl) rfl Try.call61 (evl_cons rfl evl_nil) (fun W hW => F_etchhouseref1_IsPoint_ok y105.At y107 hy107 (HF.start _)) ?_
      refine Tr.val (wn rfl) rfl (fun _ _ h1 h2 => run_not (h1.ev rfl)) ?_
      refine Tr.nil (Tr.normThen ?_)
      refine Tr.cond rfl H (fun H => ?_) (fun H => ?_)
      · refine Tr.seq ?_
        refine Tr.region ?_
        refine Tr.build (vs := []) (cs := [(.bool false), (.int .i64 0), (.int .i64 0), (.int .i64 0)]) (wn rfl) rfl evs_nil (by kernel_rfl) ?_
        refine Tr.store 3 (cs := [(.bool false), (.int .i64 0), (.int .i64 0), (.int .i64 0)]) [(.bool false), (.int .i64 0), (.int .i64 0), (.int .i64 0)] (wn rfl) rfl rfl rfl rfl sz_42 rfl rfl rfl ?_
        refine Tr.val (wn rfl) rfl (fun _ _ h1 h2 => run_assign (h1.ev rfl)) ?_
        refine Tr.nil (Tr.normThen ?_)
        refine Tr.ret (Tr.retThen ?_)
        obtain rfl := Option.some.inj H
        exact Tr.out (m := [(.agg #[(.bool false), (.int .i64 0), (.int .i64 0), (.int .i64 0)]), (.int .i64 1)]) [3] (res_cell rfl rfl ag_42 sz_42 (res_tmp rfl res_nil)) (fun W hW => ⟨rfl, hW.low leB⟩)
      · refine Tr.skip (Tr.normThen ?_)
        refine Tr.seq ?_
        refine Tr.region ?_
        refine Tr.val (wn rfl) rfl (fun _ _ h1 h2 => run_loadN (cs := [(.bool y105.Flip), (.int .i64 y105.Quarters), (.int .i64 y105.At.X), (.int .i64 y105.At.Y)]) ag_42 sz_42 (h1.ev rfl) (CellsAt.take (rdb h2 (vs := [(.bool y105.Flip), (.int .i64 y105.Quarters), (.int .i64 y105.At.X), (.int .i64 y105.At.Y)]) (k := 4) rfl 0) 4) rfl) ?_
        refine Tr.store 3 (cs := [(.bool y105.Flip), (.int .i64 y105.Quarters), (.int .i64 y105.At.X), (.int .i64 y105.At.Y)]) [(.bool y105.Flip), (.int .i64 y105.Quarters), (.int .i64 y105.At.X), (.int .i64 y105.At.Y)] (wn rfl) rfl rfl rfl rfl sz_42 rfl rfl rfl ?_
        refine Tr.val (wn rfl) rfl (fun _ _ h1 h2 => run_assign (h1.ev rfl)) ?_
        refine Tr.nil (Tr.normThen ?_)
        refine Tr.ret ?_
        obtain rfl := Option.some.inj H
        exact Tr.out (m := [(.agg #[(.bool y105.Flip), (.int .i64 y105.Quarters), (.int .i64 y105.At.X), (.int .i64 y105.At.Y)]), (.int .i64 0)]) [3] (res_cell rfl rfl ag_42 sz_42 (res_tmp rfl res_nil)) (fun W hW => ⟨rfl, hW.low leB⟩)

theorem F_shape_Back_ok (N : Nat) {w : Bs} (p0 : TTurn) (r : (TTurn × Int)) (H : F_shape_Back N p0 = some r) (hE : HF w w.W E0) : Calls Try.prog 33 [(.agg #[(.bool p0.Flip), (.int .i64 p0.Quarters), (.int .i64 p0.At.X), (.int .i64 p0.At.Y)])].toArray w.W fun e W' => e = .returned (.tuple #[(.agg #[(.bool r.1.Flip), (.int .i64 r.1.Quarters), (.int .i64 r.1.At.X), (.int .i64 r.1.At.Y)]), (.int .i64 r.2)]) ∧ HF w W' E0 := by
  unfold F_shape_Back at H
  have leB := Bs.Le.refl w
  refine Tr.enter (n := 39) Try.func33 rfl rfl rfl hE ?_
  refine Tr.seq ?_
  refine Tr.region ?_
  refine Tr.box 1 (cs := [(.bool p0.Flip), (.int .i64 p0.Quarters), (.int .i64 p0.At.X), (.int .i64 p0.At.Y)]) (wn rfl) rfl rfl rfl fun b100 => ?_
  refine Tr.alloc 2 (wn rfl) rfl ze_42 fun b101 => ?_
  refine Tr.val (wn rfl) rfl (fun _ _ h1 h2 => run_assign (h1.ev rfl)) ?_
  refine Tr.nil (Tr.normThen ?_)
  refine Tr.seq ?_
  refine Tr.seq ?_
  refine Tr.region ?_
  refine Tr.val (wn rfl) rfl (fun _ _ h1 h2 => run_loadN (cs := [(.bool p0.Flip), (.int .i64 p0.Quarters), (.int .i64 p0.At.X), (.int .i64 p0.At.Y)]) ag_42 sz_42 (h1.ev rfl) (CellsAt.take (rdb h2 (vs := [(.bool p0.Flip), (.int .i64 p0.Quarters), (.int .i64 p0.At.X), (.int .i64 p0.At.Y)]) (k := 1) rfl 0) 4) rfl) ?_
  obtain ⟨y102, hy102, H⟩ := bnd H
  refine Tr.call0 (r := (.int .i64 y102)) (wn rfl) rfl Try.call29 (evl_cons rfl evl_nil) (fun W hW => F_shape_CheckTurn_ok p0 y102 hy102 (HF.start _)) ?_
  refine Tr.val (wn rfl) rfl (fun _ _ h1 h2 => run_assign (h1.ev rfl)) ?_
  refine Tr.nil (Tr.normThen ?_)
  refine Tr.seq ?_
  refine Tr.region ?_
  refine Tr.val (wn rfl) rfl (fun _ _ h1 h2 => run_move (h1.ev rfl)) ?_
  refine Tr.val (wn rfl) rfl (fun _ _ h1 h2 => run_neq (h1.ev rfl) (h1.ev rfl)) ?_
  refine Tr.nil (Tr.normThen ?_)
  refine Tr.cond rfl H (fun H => ?_) (fun H => ?_)
  · refine Tr.seq ?_
    refine Tr.region ?_
    refine Tr.build (vs := []) (cs := [(.bool false), (.int .i64 0), (.int .i64 0), (.int .i64 0)]) (wn rfl) rfl evs_nil (by kernel_rfl) ?_
    refine Tr.val (wn rfl) rfl (fun _ _ h1 h2 => run_move (h1.ev rfl)) ?_
    refine Tr.store 2 (cs := [(.bool false), (.int .i64 0), (.int .i64 0), (.int .i64 0)]) [(.bool false), (.int .i64 0), (.int .i64 0), (.int .i64 0)] (wn rfl) rfl rfl rfl rfl sz_42 rfl rfl rfl ?_
    refine Tr.val (wn rfl) rfl (fun _ _ h1 h2 => run_assign (h1.ev rfl)) ?_
    refine Tr.nil (Tr.normThen ?_)
    refine Tr.ret (Tr.retThen ?_)
    obtain rfl := Option.some.inj H
    exact Tr.out (m := [(.agg #[(.bool false), (.int .i64 0), (.int .i64 0), (.int .i64 0)]), (.int .i64 y102)]) [2] (res_cell rfl rfl ag_42 sz_42 (res_tmp rfl res_nil)) (fun W hW => ⟨rfl, hW.low leB⟩)
  · refine Tr.skip (Tr.normThen ?_)
    refine Tr.seq ?_
    refine Tr.region ?_
    refine Tr.val (wn rfl) rfl (fun _ _ h1 h2 => run_fieldAddr fo_42_0 (h1.ev rfl)) ?_
    refine Tr.val (wn rfl) rfl (fun _ _ h1 h2 => run_load1 ag_4 (h1.ev rfl) (rdb h2 (vs := [(.bool p0.Flip), (.int .i64 p0.Quarters), (.int .i64 p0.At.X), (.int .i64 p0.At.Y)]) (k := 1) rfl 0) rfl) ?_
    refine Tr.val (wn rfl) rfl (fun _ _ h1 h2 => run_fieldAddr fo_42_1 (h1.ev rfl)) ?_
    refine Tr.val (wn rfl) rfl (fun _ _ h1 h2 => run_load1 ag_3 (h1.ev rfl) (rdb h2 (vs := [(.bool p0.Flip), (.int .i64 p0.Quarters), (.int .i64 p0.At.X), (.int .i64 p0.At.Y)]) (k := 1) rfl 1) rfl) ?_
    refine Tr.build (vs := [(0, (.bool p0.Flip)), (1, (.int .i64 p0.Quarters))]) (cs := [(.bool p0.Flip), (.int .i64 p0.Quarters), (.int .i64 0), (.int .i64 0)]) (wn rfl) rfl (evs_cons rfl (evs_cons rfl evs_nil)) (by kernel_rfl) ?_
    refine Tr.alloc 3 (wn rfl) rfl ze_42 fun b103 => ?_
    refine Tr.store 3 (cs := [(.bool p0.Flip), (.int .i64 p0.Quarters), (.int .i64 0), (.int .i64 0)]) [(.bool p0.Flip), (.int .i64 p0.Quarters), (.int .i64 0), (.int .i64 0)] (wn rfl) rfl rfl rfl rfl sz_42 rfl rfl rfl ?_
    refine Tr.nil (Tr.normThen ?_)
    have leJ105 := Bs.Le.refl w
    refine Tr.cutJ (σ := Int) (fun w s => F_shape_Back_J1 N p0 s = some r) (fun s => [(1, (.pointer (some ⟨b100, 0, none⟩))), (2, (.pointer (some ⟨b101, 0, none⟩))), (5, (.pointer (some ⟨b103, 0, none⟩)))]) (fun s => [(1, bx b100 #[(.bool p0.Flip), (.int .i64 p0.Quarters), (.int .i64 p0.At.X), (.int .i64 p0.At.Y)] 42), (2, bx b101 #[(.bool false), (.int .i64 0), (.int .i64 0), (.int .i64 0)] 42), (3, bx b103 #[(.bool p0.Flip), (.int .i64 s), (.int .i64 0), (.int .i64 0)] 42)]) ?_ ?_
    · refine Tr.seq ?_
      refine Tr.region ?_
      refine Tr.val (wn rfl) rfl (fun _ _ h1 h2 => run_fieldAddr fo_42_0 (h1.ev rfl)) ?_
      refine Tr.val (wn rfl) rfl (fun _ _ h1 h2 => run_load1 ag_4 (h1.ev rfl) (rdb h2 (vs := [(.bool p0.Flip), (.int .i64 p0.Quarters), (.int .i64 p0.At.X), (.int .i64 p0.At.Y)]) (k := 1) rfl 0) rfl) ?_
      refine Tr.val (wn rfl) rfl (fun _ _ h1 h2 => run_not (h1.ev rfl)) ?_
      refine Tr.nil (Tr.normThen ?_)
      refine Tr.cond rfl H (fun H => ?_) (fun H => ?_)
      · refine Tr.region ?_
        refine Tr.val (wn rfl) rfl (fun _ _ h1 h2 => run_fieldAddr fo_42_1 (h1.ev rfl)) ?_
        refine Tr.val (wn rfl) rfl (fun _ _ h1 h2 => run_load1 ag_3 (h1.ev rfl) (rdb h2 (vs := [(.bool p0.Flip), (.int .i64 p0.Quarters), (.int .i64 p0.At.X), (.int .i64 p0.At.Y)]) (k := 1) rfl 1) rfl) ?_
        refine Tr.val (wn rfl) rfl (fun _ _ h1 h2 => run_sub (h1.ev rfl) (h1.ev rfl)) ?_
        refine Tr.val (wn rfl) rfl (fun _ _ h1 h2 => run_rem (h1.ev rfl) (h1.ev rfl) (by decide)) ?_
        refine Tr.val (wn rfl) rfl (fun _ _ h1 h2 => run_fieldAddr fo_42_1 (h1.ev rfl)) ?_
        refine Tr.store 3 (cs := [(.int .i64 (Int.tmod (w64 (4 - p0.Quarters)) 4))]) [(.bool p0.Flip), (.int .i64 (Int.tmod (w64 (4 - p0.Quarters)) 4)), (.int .i64 0), (.int .i64 0)] (wn rfl) rfl rfl rfl rfl sz_3 rfl rfl rfl ?_
        refine Tr.nil ?_
        exact Tr.backThen leJ105 (Int.tmod (w64 (4 - p0.Quarters)) 4) H (.cons rfl (.cons rfl (.cons rfl .nil))) (.cons rfl (.cons rfl (.cons rfl .nil)))
      · refine Tr.skip ?_
        exact Tr.backThen leJ105 p0.Quarters H (.cons rfl (.cons rfl (.cons rfl .nil))) (.cons rfl (.cons rfl (.cons rfl .nil)))
    · intro w x104 hlJ106 hs
      have H := hs
      replace H : F_shape_Back_J1 N p0 x104 = some r := H
      replace leB := leB.trans hlJ106
      unfold F_shape_Back_J1 at H
      show Tr _ _ (LF [(1, (.pointer (some ⟨b100, 0, none⟩))), (2, (.pointer (some ⟨b101, 0, none⟩))), (5, (.pointer (some ⟨b103, 0, none⟩)))]) (LE [(1, bx b100 #[(.bool p0.Flip), (.int .i64 p0.Quarters), (.int .i64 p0.At.X), (.int .i64 p0.At.Y)] 42), (2, bx b101 #[(.bool false), (.int .i64 0), (.int .i64 0), (.int .i64 0)] 42), (3, bx b103 #[(.bool p0.Flip), (.int .i64 x104), (.int .i64 0), (.int .i64 0)] 42)]) _
      refine Tr.seq ?_
      refine Tr.region ?_
      refine Tr.val (wn rfl) rfl (fun _ _ h1 h2 => run_fieldAddr fo_42_2 (h1.ev rfl)) ?_
      refine Tr.val (wn rfl) rfl (fun _ _ h1 h2 => run_loadN (cs := [(.int .i64 p0.At.X), (.int .i64 p0.At.Y)]) ag_35 sz_35 (h1.ev rfl) (CellsAt.take (rdb h2 (vs := [(.bool p0.Flip), (.int .i64 p0.Quarters), (.int .i64 p0.At.X), (.int .i64 p0.At.Y)]) (k := 1) rfl 2) 2) rfl) ?_
      refine Tr.val (wn rfl) rfl (fun _ _ h1 h2 => run_loadN (cs := [(.bool p0.Flip), (.int .i64 x104), (.int .i64 0), (.int .i64 0)]) ag_42 sz_42 (h1.ev rfl) (CellsAt.take (rdb h2 (vs := [(.bool p0.Flip), (.int .i64 x104), (.int .i64 0), (.int .i64 0)]) (k := 3) rfl 0) 4) rfl) ?_
      obtain ⟨y107, hy107, H⟩ := bnd H
      refine Tr.call0 (r := (.agg #[(.int .i64 y107.X), (.int .i64 y107.Y)])) (wn rfl) rfl Try.call65 (evl_cons rfl (evl_cons rfl evl_nil)) (fun W hW => F_shape_TurnPoint_ok N p0.At (TTurn.mk p0.Flip x104 (TPoint.mk 0 0)) y107 hy107 (HF.start _)) ?_
      refine Tr.alloc 4 (wn rfl) rfl ze_35 fun b108 => ?_
      refine Tr.store 4 (cs := [(.int .i64 y107.X), (.int .i64 y107.Y)]) [(.int .i64 y107.X), (.int .i64 y107.Y)] (wn rfl) rfl rfl rfl rfl sz_35 rfl rfl rfl ?_
      refine Tr.nil (Tr.normThen ?_)
      refine Tr.seq ?_
      refine Tr.region ?_
      refine Tr.val (wn rfl) rfl (fun _ _ h1 h2 => run_fieldAddr fo_35_0 (h1.ev rfl)) ?_
      refine Tr.val (wn rfl) rfl (fun _ _ h1 h2 => run_load1 ag_3 (h1.ev rfl) (rdb h2 (vs := [(.int .i64 y107.X), (.int .i64 y107.Y)]) (k := 4) rfl 0) rfl) ?_
      refine Tr.val (wn rfl) rfl (fun _ _ h1 h2 => run_neg (h1.ev rfl)) ?_
      refine Tr.val (wn rfl) rfl (fun _ _ h1 h2 => run_fieldAddr fo_35_1 (h1.ev rfl)) ?_
      refine Tr.val (wn rfl) rfl (fun _ _ h1 h2 => run_load1 ag_3 (h1.ev rfl) (rdb h2 (vs := [(.int .i64 y107.X), (.int .i64 y107.Y)]) (k := 4) rfl 1) rfl) ?_
      refine Tr.val (wn rfl) rfl (fun _ _ h1 h2 => run_neg (h1.ev rfl)) ?_
      refine Tr.build (vs := [(0, (.int .i64 (w64 (0 - y107.X)))), (1, (.int .i64 (w64 (0 - y107.Y))))]) (cs := [(.int .i64 (w64 (0 - y107.X))), (.int .i64 (w64 (0 - y107.Y)))]) (wn rfl) rfl (evs_cons rfl (evs_cons rfl evs_nil)) (by kernel_rfl) ?_
      refine Tr.val (wn rfl) rfl (fun _ _ h1 h2 => run_fieldAddr fo_42_2 (h1.ev rfl)) ?_
      refine Tr.store 3 (cs := [(.int .i64 (w64 (0 - y107.X))), (.int .i64 (w64 (0 - y107.Y)))]) [(.bool p0.Flip), (.int .i64 x104), (.int .i64 (w64 (0 - y107.X))), (.int .i64 (w64 (0 - y107.Y)))] (wn rfl) rfl rfl rfl rfl sz_35 rfl rfl rfl ?_
      refine Tr.nil (Tr.normThen ?_)
      refine Tr.seq ?_
      refine Tr.region ?_
      refine Tr.val (wn rfl) rfl (fun _ _ h1 h2 => run_loadN (cs := [(.bool p0.Flip), (.int .i64 x104), (.int .i64 (w64 (0 - y107.X))), (.int .i64 (w64 (0 - y107.Y)))]) ag_42 sz_42 (h1.ev rfl) (CellsAt.take (rdb h2 (vs := [(.bool p0.Flip), (.int .i64 x104), (.int .i64 (w64 (0 - y107.X))), (.int .i64 (w64 (0 - y107.Y)))]) (k := 3) rfl 0) 4) rfl) ?_
      refine Tr.store 2 (cs := [(.bool p0.Flip), (.int .i64 x104), (.int .i64 (w64 (0 - y107.X))), (.int .i64 (w64 (0 - y107.Y)))]) [(.bool p0.Flip), (.int .i64 x104), (.int .i64 (w64 (0 - y107.X))), (.int .i64 (w64 (0 - y107.Y)))] (wn rfl) rfl rfl rfl rfl sz_42 rfl rfl rfl ?_
      refine Tr.val (wn rfl) rfl (fun _ _ h1 h2 => run_assign (h1.ev rfl)) ?_
      refine Tr.nil (Tr.normThen ?_)
      refine Tr.ret ?_
      obtain rfl := Option.some.inj H
      exact Tr.out (m := [(.agg #[(.bool p0.Flip), (.int .i64 x104), (.int .i64 (w64 (0 - y107.X))), (.int .i64 (w64 (0 - y107.Y)))]), (.int .i64 0)]) [2] (res_cell rfl rfl ag_42 sz_42 (res_tmp rfl res_nil)) (fun W hW => ⟨rfl, hW.low leB⟩)

theorem F_etchhouseref1_Back_ok (N : Nat) {w : Bs} (p0 : TTurn) (r : (TTurn × Int)) (H : F_etchhouseref1_Back N p0 = some r) (hE : HF w w.W E0) : Calls Try.prog 34 [(.agg #[(.bool p0.Flip), (.int .i64 p0.Quarters), (.int .i64 p0.At.X), (.int .i64 p0.At.Y)])].toArray w.W fun e W' => e = .returned (.tuple #[(.agg #[(.bool r.1.Flip), (.int .i64 r.1.Quarters), (.int .i64 r.1.At.X), (.int .i64 r.1.At.Y)]), (.int .i64 r.2)]) ∧ HF w W' E0 := by
  unfold F_etchhouseref1_Back at H
  have leB := Bs.Le.refl w
  refine Tr.enter (n := 38) Try.func34 rfl rfl rfl hE ?_
  refine Tr.seq ?_
  refine Tr.region ?_
  refine Tr.box 1 (cs := [(.bool p0.Flip), (.int .i64 p0.Quarters), (.int .i64 p0.At.X), (.int .i64 p0.At.Y)]) (wn rfl) rfl rfl rfl fun b100 => ?_
  refine Tr.alloc 2 (wn rfl) rfl ze_42 fun b101 => ?_
  refine Tr.val (wn rfl) rfl (fun _ _ h1 h2 => run_assign (h1.ev rfl)) ?_
  refine Tr.nil (Tr.normThen ?_)
  refine Tr.seq ?_
  refine Tr.seq ?_
  refine Tr.region ?_
  refine Tr.val (wn rfl) rfl (fun _ _ h1 h2 => run_loadN (cs := [(.bool p0.Flip), (.int .i64 p0.Quarters), (.int .i64 p0.At.X), (.int .i64 p0.At.Y)]) ag_42 sz_42 (h1.ev rfl) (CellsAt.take (rdb h2 (vs := [(.bool p0.Flip), (.int .i64 p0.Quarters), (.int .i64 p0.At.X), (.int .i64 p0.At.Y)]) (k := 1) rfl 0) 4) rfl) ?_
  obtain ⟨y102, hy102, H⟩ := bnd H
  refine Tr.call0 (r := (.int .i64 y102)) (wn rfl) rfl Try.call30 (evl_cons rfl evl_nil) (fun W hW => F_etchhouseref1_CheckTurn_ok p0 y102 hy102 (HF.start _)) ?_
  refine Tr.val (wn rfl) rfl (fun _ _ h1 h2 => run_assign (h1.ev rfl)) ?_
  refine Tr.nil (Tr.normThen ?_)
  refine Tr.seq ?_
  refine Tr.region ?_
  refine Tr.val (wn rfl) rfl (fun _ _ h1 h2 => run_move (h1.ev rfl)) ?_
  refine Tr.val (wn rfl) rfl (fun _ _ h1 h2 => run_neq (h1.ev rfl) (h1.ev rfl)) ?_
  refine Tr.nil (Tr.normThen ?_)
  refine Tr.cond rfl H (fun H => ?_) (fun H => ?_)
  · refine Tr.seq ?_
    refine Tr.region ?_
    refine Tr.build (vs := []) (cs := [(.bool false), (.int .i64 0), (.int .i64 0), (.int .i64 0)]) (wn rfl) rfl evs_nil (by kernel_rfl) ?_
    refine Tr.val (wn rfl) rfl (fun _ _ h1 h2 => run_move (h1.ev rfl)) ?_
    refine Tr.store 2 (cs := [(.bool false), (.int .i64 0), (.int .i64 0), (.int .i64 0)]) [(.bool false), (.int .i64 0), (.int .i64 0), (.int .i64 0)] (wn rfl) rfl rfl rfl rfl sz_42 rfl rfl rfl ?_
    refine Tr.val (wn rfl) rfl (fun _ _ h1 h2 => run_assign (h1.ev rfl)) ?_
    refine Tr.nil (Tr.normThen ?_)
    refine Tr.ret (Tr.retThen ?_)
    obtain rfl := Option.some.inj H
    exact Tr.out (m := [(.agg #[(.bool false), (.int .i64 0), (.int .i64 0), (.int .i64 0)]), (.int .i64 y102)]) [2] (res_cell rfl rfl ag_42 sz_42 (res_tmp rfl res_nil)) (fun W hW => ⟨rfl, hW.low leB⟩)
  · refine Tr.skip (Tr.normThen ?_)
    refine Tr.seq ?_
    refine Tr.region ?_
    refine Tr.val (wn rfl) rfl (fun _ _ h1 h2 => run_fieldAddr fo_42_0 (h1.ev rfl)) ?_
    refine Tr.val (wn rfl) rfl (fun _ _ h1 h2 => run_load1 ag_4 (h1.ev rfl) (rdb h2 (vs := [(.bool p0.Flip), (.int .i64 p0.Quarters), (.int .i64 p0.At.X), (.int .i64 p0.At.Y)]) (k := 1) rfl 0) rfl) ?_
    refine Tr.val (wn rfl) rfl (fun _ _ h1 h2 => run_fieldAddr fo_42_1 (h1.ev rfl)) ?_
    refine Tr.val (wn rfl) rfl (fun _ _ h1 h2 => run_load1 ag_3 (h1.ev rfl) (rdb h2 (vs := [(.bool p0.Flip), (.int .i64 p0.Quarters), (.int .i64 p0.At.X), (.int .i64 p0.At.Y)]) (k := 1) rfl 1) rfl) ?_
    refine Tr.val (wn rfl) rfl (fun _ _ h1 h2 => run_sub (h1.ev rfl) (h1.ev rfl)) ?_
    refine Tr.val (wn rfl) rfl (fun _ _ h1 h2 => run_rem (h1.ev rfl) (h1.ev rfl) (by decide)) ?_
    refine Tr.build (vs := [(0, (.bool p0.Flip)), (1, (.int .i64 (Int.tmod (w64 (4 - p0.Quarters)) 4)))]) (cs := [(.bool p0.Flip), (.int .i64 (Int.tmod (w64 (4 - p0.Quarters)) 4)), (.int .i64 0), (.int .i64 0)]) (wn rfl) rfl (evs_cons rfl (evs_cons rfl evs_nil)) (by kernel_rfl) ?_
    refine Tr.alloc 3 (wn rfl) rfl ze_42 fun b103 => ?_
    refine Tr.store 3 (cs := [(.bool p0.Flip), (.int .i64 (Int.tmod (w64 (4 - p0.Quarters)) 4)), (.int .i64 0), (.int .i64 0)]) [(.bool p0.Flip), (.int .i64 (Int.tmod (w64 (4 - p0.Quarters)) 4)), (.int .i64 0), (.int .i64 0)] (wn rfl) rfl rfl rfl rfl sz_42 rfl rfl rfl ?_
    refine Tr.nil (Tr.normThen ?_)
    have leJ105 := Bs.Le.refl w
    refine Tr.cutJ (σ := Int) (fun w s => F_etchhouseref1_Back_J1 N p0 s = some r) (fun s => [(1, (.pointer (some ⟨b100, 0, none⟩))), (2, (.pointer (some ⟨b101, 0, none⟩))), (5, (.pointer (some ⟨b103, 0, none⟩)))]) (fun s => [(1, bx b100 #[(.bool p0.Flip), (.int .i64 p0.Quarters), (.int .i64 p0.At.X), (.int .i64 p0.At.Y)] 42), (2, bx b101 #[(.bool false), (.int .i64 0), (.int .i64 0), (.int .i64 0)] 42), (3, bx b103 #[(.bool p0.Flip), (.int .i64 s), (.int .i64 0), (.int .i64 0)] 42)]) ?_ ?_
    · refine Tr.seq ?_
      refine Tr.region ?_
      refine Tr.val (wn rfl) rfl (fun _ _ h1 h2 => run_fieldAddr fo_42_0 (h1.ev rfl)) ?_
      refine Tr.val (wn rfl) rfl (fun _ _ h1 h2 => run_load1 ag_4 (h1.ev rfl) (rdb h2 (vs := [(.bool p0.Flip), (.int .i64 p0.Quarters), (.int .i64 p0.At.X), (.int .i64 p0.At.Y)]) (k := 1) rfl 0) rfl) ?_
      refine Tr.nil (Tr.normThen ?_)
      refine Tr.cond rfl H (fun H => ?_) (fun H => ?_)
      · refine Tr.region ?_
        refine Tr.val (wn rfl) rfl (fun _ _ h1 h2 => run_fieldAddr fo_42_1 (h1.ev rfl)) ?_
        refine Tr.val (wn rfl) rfl (fun _ _ h1 h2 => run_load1 ag_3 (h1.ev rfl) (rdb h2 (vs := [(.bool p0.Flip), (.int .i64 p0.Quarters), (.int .i64 p0.At.X), (.int .i64 p0.At.Y)]) (k := 1) rfl 1) rfl) ?_
        refine Tr.val (wn rfl) rfl (fun _ _ h1 h2 => run_fieldAddr fo_42_1 (h1.ev rfl)) ?_
        refine Tr.store 3 (cs := [(.int .i64 p0.Quarters)]) [(.bool p0.Flip), (.int .i64 p0.Quarters), (.int .i64 0), (.int .i64 0)] (wn rfl) rfl rfl rfl rfl sz_3 rfl rfl rfl ?_
        refine Tr.nil ?_
        exact Tr.backThen leJ105 p0.Quarters H (.cons rfl (.cons rfl (.cons rfl .nil))) (.cons rfl (.cons rfl (.cons rfl .nil)))
      · refine Tr.skip ?_
        exact Tr.backThen leJ105 (Int.tmod (w64 (4 - p0.Quarters)) 4) H (.cons rfl (.cons rfl (.cons rfl .nil))) (.cons rfl (.cons rfl (.cons rfl .nil)))
    · intro w x104 hlJ106 hs
      have H := hs
      replace H : F_etchhouseref1_Back_J1 N p0 x104 = some r := H
      replace leB := leB.trans hlJ106
      unfold F_etchhouseref1_Back_J1 at H
      show Tr _ _ (LF [(1, (.pointer (some ⟨b100, 0, none⟩))), (2, (.pointer (some ⟨b101, 0, none⟩))), (5, (.pointer (some ⟨b103, 0, none⟩)))]) (LE [(1, bx b100 #[(.bool p0.Flip), (.int .i64 p0.Quarters), (.int .i64 p0.At.X), (.int .i64 p0.At.Y)] 42), (2, bx b101 #[(.bool false), (.int .i64 0), (.int .i64 0), (.int .i64 0)] 42), (3, bx b103 #[(.bool p0.Flip), (.int .i64 x104), (.int .i64 0), (.int .i64 0)] 42)]) _
      refine Tr.seq ?_
      refine Tr.region ?_
      refine Tr.val (wn rfl) rfl (fun _ _ h1 h2 => run_fieldAddr fo_42_2 (h1.ev rfl)) ?_
      refine Tr.val (wn rfl) rfl (fun _ _ h1 h2 => run_loadN (cs := [(.int .i64 p0.At.X), (.int .i64 p0.At.Y)]) ag_35 sz_35 (h1.ev rfl) (CellsAt.take (rdb h2 (vs := [(.bool p0.Flip), (.int .i64 p0.Quarters), (.int .i64 p0.At.X), (.int .i64 p0.At.Y)]) (k := 1) rfl 2) 2) rfl) ?_
      refine Tr.val (wn rfl) rfl (fun _ _ h1 h2 => run_loadN (cs := [(.bool p0.Flip), (.int .i64 x104), (.int .i64 0), (.int .i64 0)]) ag_42 sz_42 (h1.ev rfl) (CellsAt.take (rdb h2 (vs := [(.bool p0.Flip), (.int .i64 x104), (.int .i64 0), (.int .i64 0)]) (k := 3) rfl 0) 4) rfl) ?_
      obtain ⟨y107, hy107, H⟩ := bnd H
      refine Tr.call0 (r := (.agg #[(.int .i64 y107.X), (.int .i64 y107.Y)])) (wn rfl) rfl Try.call70 (evl_cons rfl (evl_cons rfl evl_nil)) (fun W hW => F_etchhouseref1_around_ok N p0.At (TTurn.mk p0.Flip x104 (TPoint.mk 0 0)) y107 hy107 (HF.start _)) ?_
      refine Tr.alloc 4 (wn rfl) rfl ze_35 fun b108 => ?_
      refine Tr.store 4 (cs := [(.int .i64 y107.X), (.int .i64 y107.Y)]) [(.int .i64 y107.X), (.int .i64 y107.Y)] (wn rfl) rfl rfl rfl rfl sz_35 rfl rfl rfl ?_
      refine Tr.nil (Tr.normThen ?_)
      refine Tr.seq ?_
      refine Tr.region ?_
      refine Tr.val (wn rfl) rfl (fun _ _ h1 h2 => run_fieldAddr fo_35_0 (h1.ev rfl)) ?_
      refine Tr.val (wn rfl) rfl (fun _ _ h1 h2 => run_load1 ag_3 (h1.ev rfl) (rdb h2 (vs := [(.int .i64 y107.X), (.int .i64 y107.Y)]) (k := 4) rfl 0) rfl) ?_
      refine Tr.val (wn rfl) rfl (fun _ _ h1 h2 => run_neg (h1.ev rfl)) ?_
      refine Tr.val (wn rfl) rfl (fun _ _ h1 h2 => run_fieldAddr fo_35_1 (h1.ev rfl)) ?_
      refine Tr.val (wn rfl) rfl (fun _ _ h1 h2 => run_load1 ag_3 (h1.ev rfl) (rdb h2 (vs := [(.int .i64 y107.X), (.int .i64 y107.Y)]) (k := 4) rfl 1) rfl) ?_
      refine Tr.val (wn rfl) rfl (fun _ _ h1 h2 => run_neg (h1.ev rfl)) ?_
      refine Tr.build (vs := [(0, (.int .i64 (w64 (0 - y107.X)))), (1, (.int .i64 (w64 (0 - y107.Y))))]) (cs := [(.int .i64 (w64 (0 - y107.X))), (.int .i64 (w64 (0 - y107.Y)))]) (wn rfl) rfl (evs_cons rfl (evs_cons rfl evs_nil)) (by kernel_rfl) ?_
      refine Tr.val (wn rfl) rfl (fun _ _ h1 h2 => run_fieldAddr fo_42_2 (h1.ev rfl)) ?_
      refine Tr.store 3 (cs := [(.int .i64 (w64 (0 - y107.X))), (.int .i64 (w64 (0 - y107.Y)))]) [(.bool p0.Flip), (.int .i64 x104), (.int .i64 (w64 (0 - y107.X))), (.int .i64 (w64 (0 - y107.Y)))] (wn rfl) rfl rfl rfl rfl sz_35 rfl rfl rfl ?_
      refine Tr.nil (Tr.normThen ?_)
      refine Tr.seq ?_
      refine Tr.region ?_
      refine Tr.val (wn rfl) rfl (fun _ _ h1 h2 => run_loadN (cs := [(.bool p0.Flip), (.int .i64 x104), (.int .i64 (w64 (0 - y107.X))), (.int .i64 (w64 (0 - y107.Y)))]) ag_42 sz_42 (h1.ev rfl) (CellsAt.take (rdb h2 (vs := [(.bool p0.Flip), (.int .i64 x104), (.int .i64 (w64 (0 - y107.X))), (.int .i64 (w64 (0 - y107.Y)))]) (k := 3) rfl 0) 4) rfl) ?_
      refine Tr.store 2 (cs := [(.bool p0.Flip), (.int .i64 x104), (.int .i64 (w64 (0 - y107.X))), (.int .i64 (w64 (0 - y107.Y)))]) [(.bool p0.Flip), (.int .i64 x104), (.int .i64 (w64 (0 - y107.X))), (.int .i64 (w64 (0 - y107.Y)))] (wn rfl) rfl rfl rfl rfl sz_42 rfl rfl rfl ?_
      refine Tr.val (wn rfl) rfl (fun _ _ h1 h2 => run_assign (h1.ev rfl)) ?_
      refine Tr.nil (Tr.normThen ?_)
      refine Tr.ret ?_
      obtain rfl := Option.some.inj H
      exact Tr.out (m := [(.agg #[(.bool p0.Flip), (.int .i64 x104), (.int .i64 (w64 (0 - y107.X))), (.int .i64 (w64 (0 - y107.Y)))]), (.int .i64 0)]) [2] (res_cell rfl rfl ag_42 sz_42 (res_tmp rfl res_nil)) (fun W hW => ⟨rfl, hW.low leB⟩)

theorem F_shape_isRect_ok {w : Bs} (p0 : TRect) (r : Bool) (H : F_shape_isRect p0 = some r) (hE : HF w w.W E0) : Calls Try.prog 54 [(.agg #[(.int .i64 p0.X0), (.int .i64 p0.Y0), (.int .i64 p0.X1), (.int .i64 p0.Y1)])].toArray w.W fun e W' => e = .returned (.bool r) ∧ HF w W' E0 := by
  unfold F_shape_isRect at H
  have leB := Bs.Le.refl w
  refine Tr.enter (n := 21) Try.func54 rfl rfl rfl hE ?_
  refine Tr.seq ?_
  refine Tr.region ?_
  refine Tr.box 1 (cs := [(.int .i64 p0.X0), (.int .i64 p0.Y0), (.int .i64 p0.X1), (.int .i64 p0.Y1)]) (wn rfl) rfl rfl rfl fun b100 => ?_
  refine Tr.val (wn rfl) rfl (fun _ _ h1 h2 => run_assign (h1.ev rfl)) ?_
  refine Tr.nil (Tr.normThen ?_)
  refine Tr.seq ?_
  refine Tr.region ?_
  refine Tr.val (wn rfl) rfl (fun _ _ h1 h2 => run_fieldAddr fo_29_0 (h1.ev rfl)) ?_
  refine Tr.val (wn rfl) rfl (fun _ _ h1 h2 => run_load1 ag_3 (h1.ev rfl) (rdb h2 (vs := [(.int .i64 p0.X0), (.int .i64 p0.Y0), (.int .i64 p0.X1), (.int .i64 p0.Y1)]) (k := 1) rfl 0) rfl) ?_
  obtain ⟨y101, hy101, H⟩ := bnd H
  refine Tr.call0 (r := (.bool y101)) (wn rfl) rfl Try.call97 (evl_cons rfl evl_nil) (fun W hW => F_shape_IsAt_ok p0.X0 y101 hy101 (HF.start _)) ?_
  refine Tr.val (wn rfl) rfl (fun _ _ h1 h2 => run_move (h1.ev rfl)) ?_
  obtain ⟨g103, hg103, H⟩ := bnd H
  refine Tr.mid0 4 [(1, (.pointer (some ⟨b100, 0, none⟩))), (10, (.bool g103))] [(1, bx b100 #[(.int .i64 p0.X0), (.int .i64 p0.Y0), (.int .i64 p0.X1), (.int .i64 p0.Y1)] 29)] ?_ ?_
  · cases hg110 : y101
    · rw [hg110] at hg103
      rw [if_neg (by decide)] at hg103
      have H := hg103
      obtain rfl := Option.some.inj H
      refine Tr.pass rfl rfl rfl rfl rfl (by decide) ?_
      refine Tr.pass rfl rfl rfl rfl rfl (by decide) ?_
      refine Tr.pass rfl rfl rfl rfl rfl (by decide) ?_
      refine Tr.val (wn rfl) rfl (fun _ _ h1 h2 => run_pickF (h1.ev rfl) (h1.ev rfl)) ?_
      exact Tr.nil (Tr.fin0 (.cons rfl (.cons rfl .nil)) (.cons rfl .nil))
    · rw [hg110] at hg103
      rw [if_pos rfl] at hg103
      have H := hg103
      refine Tr.val (wg rfl rfl rfl) rfl (fun _ _ h1 h2 => run_fieldAddr fo_29_1 (h1.ev rfl)) ?_
      refine Tr.val (wg rfl rfl rfl) rfl (fun _ _ h1 h2 => run_load1 ag_3 (h1.ev rfl) (rdb h2 (vs := [(.int .i64 p0.X0), (.int .i64 p0.Y0), (.int .i64 p0.X1), (.int .i64 p0.Y1)]) (k := 1) rfl 1) rfl) ?_
      obtain ⟨y104, hy104, H⟩ := bnd H
      refine Tr.call0 (r := (.bool y104)) (wg rfl rfl rfl) rfl Try.call97 (evl_cons rfl evl_nil) (fun W hW => F_shape_IsAt_ok p0.Y0 y104 hy104 (HF.start _)) ?_
      refine Tr.val (wn rfl) rfl (fun _ _ h1 h2 => run_pickT (h1.ev rfl) (h1.ev rfl)) ?_
      obtain rfl := Option.some.inj H
      exact Tr.nil (Tr.fin0 (.cons rfl (.cons rfl .nil)) (.cons rfl .nil))
  · show Tr _ _ (LF [(1, (.pointer (some ⟨b100, 0, none⟩))), (10, (.bool g103))]) (LE [(1, bx b100 #[(.int .i64 p0.X0), (.int .i64 p0.Y0), (.int .i64 p0.X1), (.int .i64 p0.Y1)] 29)]) _
    refine Tr.val (wn rfl) rfl (fun _ _ h1 h2 => run_move (h1.ev rfl)) ?_
    obtain ⟨g106, hg106, H⟩ := bnd H
    refine Tr.mid0 4 [(1, (.pointer (some ⟨b100, 0, none⟩))), (15, (.bool g106))] [(1, bx b100 #[(.int .i64 p0.X0), (.int .i64 p0.Y0), (.int .i64 p0.X1), (.int .i64 p0.Y1)] 29)] ?_ ?_
    · cases hg110 : g103
      · rw [hg110] at hg106
        rw [if_neg (by decide)] at hg106
        have H := hg106
        obtain rfl := Option.some.inj H
        refine Tr.pass rfl rfl rfl rfl rfl (by decide) ?_
        refine Tr.pass rfl rfl rfl rfl rfl (by decide) ?_
        refine Tr.pass rfl rfl rfl rfl rfl (by decide) ?_
        refine Tr.val (wn rfl) rfl (fun _ _ h1 h2 => run_pickF (h1.ev rfl) (h1.ev rfl)) ?_
        exact Tr.nil (Tr.fin0 (.cons rfl (.cons rfl .nil)) (.cons rfl .nil))
      · rw [hg110] at hg106
        rw [if_pos rfl] at hg106
        have H := hg106
        refine Tr.val (wg rfl rfl rfl) rfl (fun _ _ h1 h2 => run_fieldAddr fo_29_2 (h1.ev rfl)) ?_
        refine Tr.val (wg rfl rfl rfl) rfl (fun _ _ h1 h2 => run_load1 ag_3 (h1.ev rfl) (rdb h2 (vs := [(.int .i64 p0.X0), (.int .i64 p0.Y0), (.int .i64 p0.X1), (.int .i64 p0.Y1)]) (k := 1) rfl 2) rfl) ?_
        obtain ⟨y107, hy107, H⟩ := bnd H
        refine Tr.call0 (r := (.bool y107)) (wg rfl rfl rfl) rfl Try.call97 (evl_cons rfl evl_nil) (fun W hW => F_shape_IsAt_ok p0.X1 y107 hy107 (HF.start _)) ?_
        refine Tr.val (wn rfl) rfl (fun _ _ h1 h2 => run_pickT (h1.ev rfl) (h1.ev rfl)) ?_
        obtain rfl := Option.some.inj H
        exact Tr.nil (Tr.fin0 (.cons rfl (.cons rfl .nil)) (.cons rfl .nil))
    · show Tr _ _ (LF [(1, (.pointer (some ⟨b100, 0, none⟩))), (15, (.bool g106))]) (LE [(1, bx b100 #[(.int .i64 p0.X0), (.int .i64 p0.Y0), (.int .i64 p0.X1), (.int .i64 p0.Y1)] 29)]) _
      refine Tr.val (wn rfl) rfl (fun _ _ h1 h2 => run_move (h1.ev rfl)) ?_
      obtain ⟨g109, hg109, H⟩ := bnd H
      refine Tr.mid0 4 [(20, (.bool g109))] [(1, bx b100 #[(.int .i64 p0.X0), (.int .i64 p0.Y0), (.int .i64 p0.X1), (.int .i64 p0.Y1)] 29)] ?_ ?_
      · cases hg110 : g106
        · rw [hg110] at hg109
          rw [if_neg (by decide)] at hg109
          have H := hg109
          obtain rfl := Option.some.inj H
          refine Tr.pass rfl rfl rfl rfl rfl (by decide) ?_
          refine Tr.pass rfl rfl rfl rfl rfl (by decide) ?_
          refine Tr.pass rfl rfl rfl rfl rfl (by decide) ?_
          refine Tr.val (wn rfl) rfl (fun _ _ h1 h2 => run_pickF (h1.ev rfl) (h1.ev rfl)) ?_
          exact Tr.nil (Tr.fin0 (.cons rfl .nil) (.cons rfl .nil))
        · rw [hg110] at hg109
          rw [if_pos rfl] at hg109
          have H := hg109
          refine Tr.val (wg rfl rfl rfl) rfl (fun _ _ h1 h2 => run_fieldAddr fo_29_3 (h1.ev rfl)) ?_
          refine Tr.val (wg rfl rfl rfl) rfl (fun _ _ h1 h2 => run_load1 ag_3 (h1.ev rfl) (rdb h2 (vs := [(.int .i64 p0.X0), (.int .i64 p0.Y0), (.int .i64 p0.X1), (.int .i64 p0.Y1)]) (k := 1) rfl 3) rfl) ?_
          obtain ⟨y110, hy110, H⟩ := bnd H
          refine Tr.call0 (r := (.bool y110)) (wg rfl rfl rfl) rfl Try.call97 (evl_cons rfl evl_nil) (fun W hW => F_shape_IsAt_ok p0.Y1 y110 hy110 (HF.start _)) ?_
          refine Tr.val (wn rfl) rfl (fun _ _ h1 h2 => run_pickT (h1.ev rfl) (h1.ev rfl)) ?_
          obtain rfl := Option.some.inj H
          exact Tr.nil (Tr.fin0 (.cons rfl .nil) (.cons rfl .nil))
      · show Tr _ _ (LF [(20, (.bool g109))]) (LE [(1, bx b100 #[(.int .i64 p0.X0), (.int .i64 p0.Y0), (.int .i64 p0.X1), (.int .i64 p0.Y1)] 29)]) _
        refine Tr.val (wn rfl) rfl (fun _ _ h1 h2 => run_assign (h1.ev rfl)) ?_
        refine Tr.nil (Tr.normThen ?_)
        refine Tr.ret ?_
        obtain rfl := Option.some.inj H
        exact Tr.out (m := [(.bool g109)]) [] (res_tmp rfl res_nil) (fun W hW => ⟨rfl, hW.low leB⟩)

theorem F_shape_CheckRects_ok {w : Bs} (p0 : (List TRect)) (Ap0_0 : Option Addr) (cp0_0 : Nat) (hp0_0 : Sl w.R w.W fl_TRect Ap0_0 cp0_0 p0) (r : Int) (H : F_shape_CheckRects p0 = some r) (hE : HF w w.W E0) : Calls Try.prog 15 [(.slice Ap0_0 (p0).length cp0_0)].toArray w.W fun e W' => e = .returned (.int .i64 r) ∧ HF w W' E0 := by
  unfold F_shape_CheckRects at H
  have leB := Bs.Le.refl w
  refine Tr.enter (n := 30) Try.func15 rfl rfl rfl hE ?_
  refine Tr.seq ?_
  refine Tr.region ?_
  refine Tr.val (wn rfl) rfl (fun _ _ h1 h2 => run_assign (h1.ev rfl)) ?_
  refine Tr.nil (Tr.normThen ?_)
  refine Tr.seq ?_
  refine Tr.seq ?_
  refine Tr.region ?_
  refine Tr.val (wn rfl) rfl (fun _ _ h1 h2 => run_move (h1.ev rfl)) ?_
  refine Tr.val (wn rfl) rfl (fun _ _ h1 h2 => run_len un_22 (h1.ev rfl)) ?_
  refine Tr.val (wn rfl) rfl (fun _ _ h1 h2 => run_gtr (h1.ev rfl) (h1.ev rfl)) ?_
  refine Tr.nil (Tr.normThen ?_)
  refine Tr.cond rfl H (fun H => ?_) (fun H => ?_)
  · refine Tr.seq ?_
    refine Tr.region ?_
    refine Tr.val (wn rfl) rfl (fun _ _ h1 h2 => run_assign (h1.ev rfl)) ?_
    refine Tr.nil (Tr.normThen ?_)
    refine Tr.ret (Tr.retThen ?_)
    obtain rfl := Option.some.inj H
    exact Tr.out (m := [(.int .i64 2)]) [] (res_tmp rfl res_nil) (fun W hW => ⟨rfl, hW.low leB⟩)
  · refine Tr.skip (Tr.normThen ?_)
    refine Tr.seq ?_
    refine Tr.seq ?_
    refine Tr.region ?_
    refine Tr.val (wn rfl) rfl (fun _ _ h1 h2 => run_move (h1.ev rfl)) ?_
    refine Tr.val (wn rfl) rfl (fun _ _ h1 h2 => run_len un_22 (h1.ev rfl)) ?_
    refine Tr.val (wn rfl) rfl (fun _ _ h1 h2 => run_move (h1.ev rfl)) ?_
    refine Tr.nil (Tr.normThen ?_)
    refine Tr.block ?_
    refine Tr.loop (σ := (List TRect) × Nat) (fun m w s => m = s.1.length + 1 ∧ s.1 = List.drop s.2 p0 ∧ s.2 ≤ p0.length ∧ F_shape_CheckRects_L1 s.1 s.2 = some r) (fun s => [(8, (.slice Ap0_0 (p0).length cp0_0)), (9, (.int .i64 (p0.length : Int))), (10, (.int .i64 (s.2 : Int)))]) (fun s => []) (p0.length + 1) (p0, 0) ⟨rfl, rfl, Nat.zero_le _, H⟩ (.cons rfl (.cons rfl (.cons rfl .nil))) .nil (fun _ _ h => absurd h.1 (by simp)) ?_
    intro w leF_shape_CheckRects_L1 m s hs
    obtain ⟨restF_shape_CheckRects_L1, iF_shape_CheckRects_L1⟩ := s
    obtain ⟨hmF_shape_CheckRects_L1, hdF_shape_CheckRects_L1, hiF_shape_CheckRects_L1, H⟩ := hs
    replace hdF_shape_CheckRects_L1 : restF_shape_CheckRects_L1 = List.drop iF_shape_CheckRects_L1 p0 := hdF_shape_CheckRects_L1
    replace H : F_shape_CheckRects_L1 restF_shape_CheckRects_L1 iF_shape_CheckRects_L1 = some r := H
    replace hmF_shape_CheckRects_L1 : m + 1 = restF_shape_CheckRects_L1.length + 1 := hmF_shape_CheckRects_L1
    replace hp0_0 := hp0_0.leR leF_shape_CheckRects_L1
    replace leB := leB.trans leF_shape_CheckRects_L1
    obtain rfl : m = restF_shape_CheckRects_L1.length := by omega
    clear hmF_shape_CheckRects_L1
    show Tr _ _ (LF [(8, (.slice Ap0_0 (p0).length cp0_0)), (9, (.int .i64 (p0.length : Int))), (10, (.int .i64 (iF_shape_CheckRects_L1 : Int)))]) (LE []) _
    cases restF_shape_CheckRects_L1 with
    | nil =>
      rw [F_shape_CheckRects_L1.eq_1] at H
      refine Tr.seq ?_
      refine Tr.region ?_
      refine Tr.val (wn rfl) rfl (fun _ _ h1 h2 => run_lss (h1.ev rfl) (h1.ev rfl)) ?_
      refine Tr.nil (Tr.normThen ?_)
      refine Tr.seq ?_
      refine Tr.condF rfl (range_nil hdF_shape_CheckRects_L1) ?_
      refine Tr.exit (Tr.exitThen (Tr.exitThen (Tr.exitBlock (Tr.normThen ?_))))
      refine Tr.seq ?_
      refine Tr.region ?_
      refine Tr.val (wn rfl) rfl (fun _ _ h1 h2 => run_assign (h1.ev rfl)) ?_
      refine Tr.nil (Tr.normThen ?_)
      refine Tr.ret ?_
      obtain rfl := Option.some.inj H
      exact Tr.out (m := [(.int .i64 0)]) [] (res_tmp rfl res_nil) (fun W hW => ⟨rfl, hW.low leB⟩)
    | cons xF_shape_CheckRects_L1 restF_shape_CheckRects_L1 =>
      rw [F_shape_CheckRects_L1.eq_2] at H
      refine Tr.seq ?_
      refine Tr.region ?_
      refine Tr.val (wn rfl) rfl (fun _ _ h1 h2 => run_lss (h1.ev rfl) (h1.ev rfl)) ?_
      refine Tr.nil (Tr.normThen ?_)
      refine Tr.seq ?_
      refine Tr.condT rfl (range_on hdF_shape_CheckRects_L1) ?_
      refine Tr.skip (Tr.normThen ?_)
      refine Tr.seq ?_
      refine Tr.block ?_
      refine Tr.seq ?_
      refine Tr.region ?_
      refine Tr.val (wn rfl) rfl (fun _ _ h1 h2 => run_indexAddr el_22 (h1.ev rfl) hp0_0.form (h1.ev rfl) (Int.natCast_nonneg _) (range_lt hdF_shape_CheckRects_L1)) ?_
      refine Tr.val (wn rfl) rfl (fun _ _ h1 h2 => run_loadN (cs := [(.int .i64 xF_shape_CheckRects_L1.X0), (.int .i64 xF_shape_CheckRects_L1.Y0), (.int .i64 xF_shape_CheckRects_L1.X1), (.int .i64 xF_shape_CheckRects_L1.Y1)]) ag_29 sz_29 (h1.ev rfl) (CellsAt.take (rdF ef_TRect hp0_0 (range_at hdF_shape_CheckRects_L1) h2) 4) rfl) ?_
      refine Tr.alloc 2 (wn rfl) rfl ze_29 fun b104 => ?_
      refine Tr.store 2 (cs := [(.int .i64 xF_shape_CheckRects_L1.X0), (.int .i64 xF_shape_CheckRects_L1.Y0), (.int .i64 xF_shape_CheckRects_L1.X1), (.int .i64 xF_shape_CheckRects_L1.Y1)]) [(.int .i64 xF_shape_CheckRects_L1.X0), (.int .i64 xF_shape_CheckRects_L1.Y0), (.int .i64 xF_shape_CheckRects_L1.X1), (.int .i64 xF_shape_CheckRects_L1.Y1)] (wn rfl) rfl rfl rfl rfl sz_29 rfl rfl rfl ?_
      refine Tr.nil (Tr.normThen ?_)
      refine Tr.seq ?_
      refine Tr.seq ?_
      refine Tr.region ?_
      refine Tr.val (wn rfl) rfl (fun _ _ h1 h2 => run_loadN (cs := [(.int .i64 xF_shape_CheckRects_L1.X0), (.int .i64 xF_shape_CheckRects_L1.Y0), (.int .i64 xF_shape_CheckRects_L1.X1), (.int .i64 xF_shape_CheckRects_L1.Y1)]) ag_29 sz_29 (h1.ev rfl) (CellsAt.take (rdb h2 (vs := [(.int .i64 xF_shape_CheckRects_L1.X0), (.int .i64 xF_shape_CheckRects_L1.Y0), (.int .i64 xF_shape_CheckRects_L1.X1), (.int .i64 xF_shape_CheckRects_L1.Y1)]) (k := 2) rfl 0) 4) rfl) ?_
      obtain ⟨y105, hy105, H⟩ := bnd H
      refine Tr.call0 (r := (.bool y105)) (wn rfl) rfl Try.call54 (evl_cons rfl evl_nil) (fun W hW => F_shape_isRect_ok xF_shape_CheckRects_L1 y105 hy105 (HF.start _)) ?_
      refine Tr.val (wn rfl) rfl (fun _ _ h1 h2 => run_not (h1.ev rfl)) ?_
      refine Tr.nil (Tr.normThen ?_)
      refine Tr.cond rfl H (fun H => ?_) (fun H => ?_)
      · refine Tr.seq ?_
        refine Tr.region ?_
        refine Tr.val (wn rfl) rfl (fun _ _ h1 h2 => run_assign (h1.ev rfl)) ?_
        refine Tr.nil (Tr.normThen ?_)
        refine Tr.ret (Tr.retThen (Tr.retBlock (Tr.retThen (Tr.retThen (Tr.retBlock (Tr.retThen ?_))))))
        obtain rfl := Option.some.inj H
        exact Tr.out (m := [(.int .i64 1)]) [] (res_tmp rfl res_nil) (fun W hW => ⟨rfl, hW.low leB⟩)
      · refine Tr.skip (Tr.normThen ?_)
        refine Tr.seq ?_
        refine Tr.region ?_
        refine Tr.val (wn rfl) rfl (fun _ _ h1 h2 => run_fieldAddr fo_29_2 (h1.ev rfl)) ?_
        refine Tr.val (wn rfl) rfl (fun _ _ h1 h2 => run_load1 ag_3 (h1.ev rfl) (rdb h2 (vs := [(.int .i64 xF_shape_CheckRects_L1.X0), (.int .i64 xF_shape_CheckRects_L1.Y0), (.int .i64 xF_shape_CheckRects_L1.X1), (.int .i64 xF_shape_CheckRects_L1.Y1)]) (k := 2) rfl 2) rfl) ?_
        refine Tr.val (wn rfl) rfl (fun _ _ h1 h2 => run_fieldAddr fo_29_0 (h1.ev rfl)) ?_
        refine Tr.val (wn rfl) rfl (fun _ _ h1 h2 => run_load1 ag_3 (h1.ev rfl) (rdb h2 (vs := [(.int .i64 xF_shape_CheckRects_L1.X0), (.int .i64 xF_shape_CheckRects_L1.Y0), (.int .i64 xF_shape_CheckRects_L1.X1), (.int .i64 xF_shape_CheckRects_L1.Y1)]) (k := 2) rfl 0) rfl) ?_
        refine Tr.val (wn rfl) rfl (fun _ _ h1 h2 => run_leq (h1.ev rfl) (h1.ev rfl)) ?_
        refine Tr.val (wn rfl) rfl (fun _ _ h1 h2 => run_move (h1.ev rfl)) ?_
        refine Tr.mid0 6 [(8, (.slice Ap0_0 (p0).length cp0_0)), (9, (.int .i64 (p0.length : Int))), (10, (.int .i64 (iF_shape_CheckRects_L1 : Int))), (28, (.bool ((decide (xF_shape_CheckRects_L1.X1 ≤ xF_shape_CheckRects_L1.X0)) || (decide (xF_shape_CheckRects_L1.Y1 ≤ xF_shape_CheckRects_L1.Y0)))))] [(2, bx b104 #[(.int .i64 xF_shape_CheckRects_L1.X0), (.int .i64 xF_shape_CheckRects_L1.Y0), (.int .i64 xF_shape_CheckRects_L1.X1), (.int .i64 xF_shape_CheckRects_L1.Y1)] 29)] ?_ ?_
        · cases hg105 : (decide (xF_shape_CheckRects_L1.X1 ≤ xF_shape_CheckRects_L1.X0))
          · refine Tr.val (wg rfl rfl rfl) rfl (fun _ _ h1 h2 => run_fieldAddr fo_29_3 (h1.ev rfl)) ?_
            refine Tr.val (wg rfl rfl rfl) rfl (fun _ _ h1 h2 => run_load1 ag_3 (h1.ev rfl) (rdb h2 (vs := [(.int .i64 xF_shape_CheckRects_L1.X0), (.int .i64 xF_shape_CheckRects_L1.Y0), (.int .i64 xF_shape_CheckRects_L1.X1), (.int .i64 xF_shape_CheckRects_L1.Y1)]) (k := 2) rfl 3) rfl) ?_
            refine Tr.val (wg rfl rfl rfl) rfl (fun _ _ h1 h2 => run_fieldAddr fo_29_1 (h1.ev rfl)) ?_
            refine Tr.val (wg rfl rfl rfl) rfl (fun _ _ h1 h2 => run_load1 ag_3 (h1.ev rfl) (rdb h2 (vs := [(.int .i64 xF_shape_CheckRects_L1.X0), (.int .i64 xF_shape_CheckRects_L1.Y0), (.int .i64 xF_shape_CheckRects_L1.X1), (.int .i64 xF_shape_CheckRects_L1.Y1)]) (k := 2) rfl 1) rfl) ?_
            refine Tr.val (wg rfl rfl rfl) rfl (fun _ _ h1 h2 => run_leq (h1.ev rfl) (h1.ev rfl)) ?_
            refine Tr.val (wn rfl) rfl (fun _ _ h1 h2 => run_pickF (h1.ev rfl) (h1.ev rfl)) ?_
            exact Tr.nil (Tr.fin0 (.cons rfl (.cons rfl (.cons rfl (.cons rfl .nil)))) (.cons rfl .nil))
          · refine Tr.pass rfl rfl rfl rfl rfl (by decide) ?_
            refine Tr.pass rfl rfl rfl rfl rfl (by decide) ?_
            refine Tr.pass rfl rfl rfl rfl rfl (by decide) ?_
            refine Tr.pass rfl rfl rfl rfl rfl (by decide) ?_
            refine Tr.pass rfl rfl rfl rfl rfl (by decide) ?_
            refine Tr.val (wn rfl) rfl (fun _ _ h1 h2 => run_pickT (h1.ev rfl) (h1.ev rfl)) ?_
            exact Tr.nil (Tr.fin0 (.cons rfl (.cons rfl (.cons rfl (.cons rfl .nil)))) (.cons rfl .nil))
        · show Tr _ _ (LF [(8, (.slice Ap0_0 (p0).length cp0_0)), (9, (.int .i64 (p0.length : Int))), (10, (.int .i64 (iF_shape_CheckRects_L1 : Int))), (28, (.bool ((decide (xF_shape_CheckRects_L1.X1 ≤ xF_shape_CheckRects_L1.X0)) || (decide (xF_shape_CheckRects_L1.Y1 ≤ xF_shape_CheckRects_L1.Y0)))))]) (LE [(2, bx b104 #[(.int .i64 xF_shape_CheckRects_L1.X0), (.int .i64 xF_shape_CheckRects_L1.Y0), (.int .i64 xF_shape_CheckRects_L1.X1), (.int .i64 xF_shape_CheckRects_L1.Y1)] 29)]) _
          refine Tr.nil (Tr.normThen ?_)
          refine Tr.cond rfl H (fun H => ?_) (fun H => ?_)
          · refine Tr.seq ?_
            refine Tr.region ?_
            refine Tr.val (wn rfl) rfl (fun _ _ h1 h2 => run_assign (h1.ev rfl)) ?_
            refine Tr.nil (Tr.normThen ?_)
            refine Tr.ret (Tr.retBlock (Tr.retThen (Tr.retThen (Tr.retBlock (Tr.retThen ?_)))))
            obtain rfl := Option.some.inj H
            exact Tr.out (m := [(.int .i64 13)]) [] (res_tmp rfl res_nil) (fun W hW => ⟨rfl, hW.low leB⟩)
          · refine Tr.skip (Tr.normBlock (Tr.normThen ?_))
            refine Tr.region ?_
            refine Tr.val (wn rfl) rfl (fun _ _ h1 h2 => run_add (h1.ev rfl) (h1.ev rfl)) ?_
            refine Tr.val (wn rfl) rfl (fun _ _ h1 h2 => run_move (h1.ev rfl)) ?_
            refine Tr.nil ?_
            exact Tr.backThen leF_shape_CheckRects_L1 (restF_shape_CheckRects_L1, (iF_shape_CheckRects_L1 + 1)) ⟨rfl, range_tl hdF_shape_CheckRects_L1, range_lt hdF_shape_CheckRects_L1, H⟩ (.cons rfl (.cons rfl (.cons (congrArg (fun z => some (Value.int .i64 z)) (range_up hdF_shape_CheckRects_L1 hp0_0.form)) .nil))) .nil

theorem F_slices_Clone_Rect_ok {w : Bs} (p0 : (List TRect)) (Ap0_0 : Option Addr) (cp0_0 : Nat) (hp0_0 : Sl w.R w.W fl_TRect Ap0_0 cp0_0 p0) (r : (List TRect)) (H : F_slices_Clone_Rect p0 = some r) (hE : HF w w.W (LEn [emp])) : Calls Try.prog 21 [(.slice Ap0_0 (p0).length cp0_0)].toArray w.W fun e W' => ∃ u : (Option Addr × Nat), e = .returned (.slice u.1 (r).length u.2) ∧ (SlF u.1 (r).length u.2) ∧ HF w W' (LEn [ow u.1 u.2 29 fl_TRect r]) := by
  unfold F_slices_Clone_Rect at H
  have leB := Bs.Le.refl w
  refine Tr.enter (n := 8) Try.func21 rfl rfl rfl hE ?_
  refine Tr.seq ?_
  refine Tr.region ?_
  refine Tr.val (wn rfl) rfl (fun _ _ h1 h2 => run_assign (h1.ev rfl)) ?_
  refine Tr.nilOwn 1 29 fl_TRect ?_
  show Tr _ _ (uf _ 2 (.slice none (([] : List TRect)).length 0)) _ _
  refine Tr.nil (Tr.normThen ?_)
  refine Tr.seq ?_
  refine Tr.seq ?_
  refine Tr.region ?_
  refine Tr.val (wn rfl) rfl (fun _ _ h1 h2 => run_move (h1.ev rfl)) ?_
  refine Tr.val (wn rfl) rfl (fun _ _ h1 h2 => run_eqlNil un_22 (h1.ev rfl) (h1.ev rfl)) ?_
  refine Tr.nil (Tr.normThen ?_)
  cases Ap0_0 with
  | none =>
    have hl0 := slf_none hp0_0.form
    replace H : (some ([] : List TRect)) = some r := by simpa [apd, hl0] using H
    refine Tr.condT rfl rfl ?_
    refine Tr.seq ?_
    refine Tr.region ?_
    refine Tr.val (wn rfl) rfl (fun _ _ h1 h2 => run_assign (h1.ev rfl)) ?_
    refine Tr.nilOwn 2 29 fl_TRect ?_
    show Tr _ _ (uf _ 2 (.slice none (([] : List TRect)).length 0)) _ _
    refine Tr.nil (Tr.normThen ?_)
    refine Tr.ret (Tr.retThen ?_)
    obtain rfl := Option.some.inj H
    exact Tr.out (m := [(.slice none (([] : List TRect)).length 0)]) [] (res_tmp rfl res_nil) (fun W hW => ⟨(none, 0), rfl, slf_nil, HF.lowE leB (hW.pick (ks := [2]) (by decide) (pk_cons rfl pk_nil)) ⟨ow_any _ _ _ _ tr_TRect, trivial⟩⟩)
  | some a102 =>
    refine Tr.condF rfl rfl ?_
    refine Tr.skip (Tr.normThen ?_)
    refine Tr.seq ?_
    refine Tr.region ?_
    refine Tr.buildSlice 3 (e := 29) (vs := []) (cs := []) (wn rfl) rfl evs_nil (by kernel_rfl) fun b100 => ?_
    refine Tr.val (wn rfl) rfl (fun _ _ h1 h2 => run_move (h1.ev rfl)) ?_
    refine Tr.own 3 fl_TRect ([] : List TRect) (css := []) rfl .nil rfl (by decide) (lit_max rfl) ?_
    obtain ⟨l101, hl101, H⟩ := bnd H
    refine Tr.appendS 3 (t := fl_TRect) (l := ([] : List TRect)) (l2 := p0) (wn rfl) rfl rfl rfl rfl (apT tr_TRect (fun W hW => (Sl.inB hp0_0 hW))) un_22 sz_29 zl_29 (by decide) by_29 rfl hl101 fun Al101 cl101 hAl101 => ?_
    refine Tr.val (wn rfl) rfl (fun _ _ h1 h2 => run_assign (h1.ev rfl)) ?_
    refine Tr.nil (Tr.normThen ?_)
    refine Tr.ret ?_
    obtain rfl := Option.some.inj H
    exact Tr.out (m := [(.slice Al101 (l101).length cl101)]) [] (res_tmp rfl res_nil) (fun W hW => ⟨(Al101, cl101), rfl, hAl101, HF.lowE leB (hW.pick (ks := [3]) (by decide) (pk_cons rfl pk_nil)) ⟨ow_any _ _ _ _ tr_TRect, trivial⟩⟩)

theorem F_slices_SortFunc_TRect_ok {w : Bs} (p0 : List TRect) (Ap0_0 : Option Addr) (cp0_0 : Nat) (p1 : TRect → TRect → Option Int) (fid1 : Nat) (cap1 : List Value) (hg1 : ∀ args W, (callFunc fid1 args).run Try.prog W = .ok (.enter fid1 args) W) (hf1 : ∀ (w' : Bs), w.Ext w' → ∀ (z0 : TRect) (z1 : TRect), ∀ y, p1 z0 z1 = some y → Calls Try.prog fid1 (([(.agg #[(.int .i64 z0.X0), (.int .i64 z0.Y0), (.int .i64 z0.X1), (.int .i64 z0.Y1)]), (.agg #[(.int .i64 z1.X0), (.int .i64 z1.Y0), (.int .i64 z1.X1), (.int .i64 z1.Y1)])] : List Value) ++ cap1).toArray w'.W fun e W'' => e = .returned (.int .i64 y) ∧ HF w' W'' E0) (r : List TRect) (H : srtF p0 p1 = some r) (hE : HF w w.W (LEn [ow Ap0_0 cp0_0 29 fl_TRect p0])) : Calls Try.prog 84 [(.slice Ap0_0 (p0).length cp0_0), (.func (.func fid1) #[] cap1.toArray)].toArray w.W fun e W' => ∃ u : Unit, e = .returned (.tuple #[]) ∧ ((r).length = (p0).length) ∧ HF w W' (LEn [ow Ap0_0 cp0_0 29 fl_TRect r]) :=
  sortFunc_rule (ρ := Try.srt84_ren) Try.srt84 (fun _ => run_isAgg ag_29) (fun _ => run_sizeOf sz_29) ef_TRect tr_TRect () hg1 hf1 H hE

theorem F_shape_SetOf_1_ok {w : Bs} (p0 : TRect) (p1 : TRect) (r : Int) (H : F_shape_SetOf_1 p0 p1 = some r) (hE : HF w w.W E0) : Calls Try.prog 85 [(.agg #[(.int .i64 p0.X0), (.int .i64 p0.Y0), (.int .i64 p0.X1), (.int .i64 p0.Y1)]), (.agg #[(.int .i64 p1.X0), (.int .i64 p1.Y0), (.int .i64 p1.X1), (.int .i64 p1.Y1)])].toArray w.W fun e W' => e = .returned (.int .i64 r) ∧ HF w W' E0 := by
  unfold F_shape_SetOf_1 at H
  have leB := Bs.Le.refl w
  refine Tr.enter (n := 10) Try.func85 rfl rfl rfl hE ?_
  refine Tr.seq ?_
  refine Tr.region ?_
  refine Tr.box 1 (cs := [(.int .i64 p0.X0), (.int .i64 p0.Y0), (.int .i64 p0.X1), (.int .i64 p0.Y1)]) (wn rfl) rfl rfl rfl fun b100 => ?_
  refine Tr.box 2 (cs := [(.int .i64 p1.X0), (.int .i64 p1.Y0), (.int .i64 p1.X1), (.int .i64 p1.Y1)]) (wn rfl) rfl rfl rfl fun b101 => ?_
  refine Tr.val (wn rfl) rfl (fun _ _ h1 h2 => run_assign (h1.ev rfl)) ?_
  refine Tr.nil (Tr.normThen ?_)
  refine Tr.seq ?_
  refine Tr.region ?_
  refine Tr.val (wn rfl) rfl (fun _ _ h1 h2 => run_fieldAddr fo_29_1 (h1.ev rfl)) ?_
  refine Tr.val (wn rfl) rfl (fun _ _ h1 h2 => run_load1 ag_3 (h1.ev rfl) (rdb h2 (vs := [(.int .i64 p0.X0), (.int .i64 p0.Y0), (.int .i64 p0.X1), (.int .i64 p0.Y1)]) (k := 1) rfl 1) rfl) ?_
  refine Tr.val (wn rfl) rfl (fun _ _ h1 h2 => run_fieldAddr fo_29_1 (h1.ev rfl)) ?_
  refine Tr.val (wn rfl) rfl (fun _ _ h1 h2 => run_load1 ag_3 (h1.ev rfl) (rdb h2 (vs := [(.int .i64 p1.X0), (.int .i64 p1.Y0), (.int .i64 p1.X1), (.int .i64 p1.Y1)]) (k := 2) rfl 1) rfl) ?_
  refine Tr.val (wn rfl) rfl (fun _ _ h1 h2 => run_sub (h1.ev rfl) (h1.ev rfl)) ?_
  refine Tr.val (wn rfl) rfl (fun _ _ h1 h2 => run_assign (h1.ev rfl)) ?_
  refine Tr.nil (Tr.normThen ?_)
  refine Tr.ret ?_
  obtain rfl := Option.some.inj H
  exact Tr.out (m := [(.int .i64 (w64 (p0.Y0 - p1.Y0)))]) [] (res_tmp rfl res_nil) (fun W hW => ⟨rfl, hW.low leB⟩)

theorem F_slices_Sort_int_ok {w : Bs} (p0 : List Int) (Ap0_0 : Option Addr) (cp0_0 : Nat) (r : List Int) (H : srtI p0 = some r) (hE : HF w w.W (LEn [ow Ap0_0 cp0_0 3 fl_i64 p0])) : Calls Try.prog 86 [(.slice Ap0_0 (p0).length cp0_0)].toArray w.W fun e W' => ∃ u : Unit, e = .returned (.tuple #[]) ∧ ((r).length = (p0).length) ∧ HF w W' (LEn [ow Ap0_0 cp0_0 3 fl_i64 r]) :=
  sortI_rule (ρ := Try.sort86_ren) Try.sort86 rfl ef_i64 tr_i64 () H hE

theorem F_slices_Compact_int_ok {w : Bs} (p0 : List Int) (Ap0_0 : Option Addr) (cp0_0 : Nat) (r : List Int) (H : cpI p0 = some r) (hE : HF w w.W (LEn [ow Ap0_0 cp0_0 3 fl_i64 p0])) : Calls Try.prog 87 [(.slice Ap0_0 (p0).length cp0_0)].toArray w.W fun e W' => ∃ u : (Option Addr × Nat), e = .returned (.slice u.1 (r).length u.2) ∧ (SlF u.1 (r).length u.2) ∧ HF w W' (LEn [ow u.1 u.2 3 fl_i64 r]) :=
  compactI_rule (ρ := Try.cmpc87_ren) Try.cmpc87 rfl ef_i64 tr_i64 () H hE

theorem F_shape_SetOf_2_ok {w : Bs} (p0 : TRect) (q0 : (List Int)) (Aq0_0 : Option Addr) (cq0_0 : Nat) (hq0_0 : Sl w.R w.W fl_i64 Aq0_0 cq0_0 q0) (bq0 : Nat) (hb0 : w.R bq0) (hc0 : CellsAt w.W bq0 0 [(.slice Aq0_0 (q0).length cq0_0)]) (q1 : Int) (bq1 : Nat) (hb1 : w.R bq1) (hc1 : CellsAt w.W bq1 0 [(.int .i64 q1)]) (r : Bool) (H : F_shape_SetOf_2 p0 q0 q1 = some r) (hE : HF w w.W E0) : Calls Try.prog 89 [(.agg #[(.int .i64 p0.X0), (.int .i64 p0.Y0), (.int .i64 p0.X1), (.int .i64 p0.Y1)]), (.pointer (some ⟨bq0, 0, none⟩)), (.pointer (some ⟨bq1, 0, none⟩))].toArray w.W fun e W' => e = .returned (.bool r) ∧ HF w W' E0 := by
  unfold F_shape_SetOf_2 at H
  have leB := Bs.Le.refl w
  refine Tr.enter (n := 12) Try.func89 rfl rfl rfl hE ?_
  refine Tr.seq ?_
  refine Tr.region ?_
  refine Tr.box 1 (cs := [(.int .i64 p0.X0), (.int .i64 p0.Y0), (.int .i64 p0.X1), (.int .i64 p0.Y1)]) (wn rfl) rfl rfl rfl fun b100 => ?_
  refine Tr.val (wn rfl) rfl (fun _ _ h1 h2 => run_assign (h1.ev rfl)) ?_
  refine Tr.nil (Tr.normThen ?_)
  refine Tr.seq ?_
  refine Tr.draw (by kernel_rfl) (by kernel_rfl) ?_
  refine Tq.val (wn rfl) rfl (fun _ _ h1 h2 => run_fieldAddr fo_29_3 (h1.ev rfl)) ?_
  refine Tq.val (wn rfl) rfl (fun _ _ h1 h2 => run_load1 ag_3 (h1.ev rfl) (rdb h2 (vs := [(.int .i64 p0.X0), (.int .i64 p0.Y0), (.int .i64 p0.X1), (.int .i64 p0.Y1)]) (k := 1) rfl 3) rfl) ?_
  refine Tq.val (wn rfl) rfl (fun _ _ h1 h2 => run_load1 ag_89 (h1.ev rfl) (rdR hb0 hc0 h2) rfl) ?_
  refine Tq.val (wn rfl) rfl (fun _ _ h1 h2 => run_load1 ag_3 (h1.ev rfl) (rdR hb1 hc1 h2) rfl) ?_
  obtain ⟨x101, hx101, H⟩ := bnd H
  obtain ⟨hx1010, hx1011, hx1012⟩ := idx_some hx101
  refine Tq.val (wn rfl) rfl (fun _ _ h1 h2 => run_indexAddr el_89 (h1.ev rfl) hq0_0.form (h1.ev rfl) hx1010 hx1011) ?_
  refine Tq.val (wn rfl) rfl (fun _ _ h1 h2 => run_load1 ag_3 (h1.ev rfl) (rdF ef_i64 hq0_0 hx1012 h2) rfl) ?_
  refine Tq.val (wn rfl) rfl (fun _ _ h1 h2 => run_leq (h1.ev rfl) (h1.ev rfl)) ?_
  refine Tq.val (wn rfl) rfl (fun _ _ h1 h2 => run_assign (h1.ev rfl)) ?_
  refine Tq.nil (Tr.normThen ?_)
  refine Tr.ret ?_
  obtain rfl := Option.some.inj H
  exact Tr.out (m := [(.bool (decide (p0.Y1 ≤ x101)))]) [] (res_tmp rfl res_nil) (fun W hW => ⟨rfl, hW.low leB⟩)

theorem F_slices_IndexFunc_Rect_ok {w : Bs} (p0 : (List TRect)) (Ap0_0 : Option Addr) (cp0_0 : Nat) (hp0_0 : Sl w.R w.W fl_TRect Ap0_0 cp0_0 p0) (p1 : TRect → Option Bool) (fid1 : Nat) (cap1 : List Value) (hg1 : ∀ args W, (callFunc fid1 args).run Try.prog W = .ok (.enter fid1 args) W) (hf1 : ∀ (w' : Bs), w.Ext w' → ∀ (z0 : TRect), ∀ y, p1 z0 = some y → Calls Try.prog fid1 (([(.agg #[(.int .i64 z0.X0), (.int .i64 z0.Y0), (.int .i64 z0.X1), (.int .i64 z0.Y1)])] : List Value) ++ cap1).toArray w'.W fun e W'' => e = .returned (.bool y) ∧ HF w' W'' E0) (r : Int) (H : F_slices_IndexFunc_Rect p0 p1 = some r) (hE : HF w w.W E0) : Calls Try.prog 115 [(.slice Ap0_0 (p0).length cp0_0), (.func (.func fid1) #[] cap1.toArray)].toArray w.W fun e W' => e = .returned (.int .i64 r) ∧ HF w W' E0 := by
  unfold F_slices_IndexFunc_Rect at H
  have leB := Bs.Le.refl w
  refine Tr.enter (n := 19) Try.func115 rfl rfl rfl hE ?_
  refine Tr.seq ?_
  refine Tr.region ?_
  refine Tr.val (wn rfl) rfl (fun _ _ h1 h2 => run_assign (h1.ev rfl)) ?_
  refine Tr.nil (Tr.normThen ?_)
  refine Tr.seq ?_
  refine Tr.seq ?_
  refine Tr.region ?_
  refine Tr.val (wn rfl) rfl (fun _ _ h1 h2 => run_move (h1.ev rfl)) ?_
  refine Tr.val (wn rfl) rfl (fun _ _ h1 h2 => run_len un_22 (h1.ev rfl)) ?_
  refine Tr.val (wn rfl) rfl (fun _ _ h1 h2 => run_move (h1.ev rfl)) ?_
  refine Tr.nil (Tr.normThen ?_)
  refine Tr.block ?_
  refine Tr.loop (σ := (List TRect) × Nat) (fun m w s => m = s.1.length + 1 ∧ s.1 = List.drop s.2 p0 ∧ s.2 ≤ p0.length ∧ F_slices_IndexFunc_Rect_L1 p1 s.1 s.2 = some r) (fun s => [(0, (.slice Ap0_0 (p0).length cp0_0)), (1, (.func (.func fid1) #[] cap1.toArray)), (7, (.int .i64 (p0.length : Int))), (8, (.int .i64 (s.2 : Int)))]) (fun s => []) (p0.length + 1) (p0, 0) ⟨rfl, rfl, Nat.zero_le _, H⟩ (.cons rfl (.cons rfl (.cons rfl (.cons rfl .nil)))) .nil (fun _ _ h => absurd h.1 (by simp)) ?_
  intro w leF_slices_IndexFunc_Rect_L1 m s hs
  obtain ⟨restF_slices_IndexFunc_Rect_L1, iF_slices_IndexFunc_Rect_L1⟩ := s
  obtain ⟨hmF_slices_IndexFunc_Rect_L1, hdF_slices_IndexFunc_Rect_L1, hiF_slices_IndexFunc_Rect_L1, H⟩ := hs
  replace hdF_slices_IndexFunc_Rect_L1 : restF_slices_IndexFunc_Rect_L1 = List.drop iF_slices_IndexFunc_Rect_L1 p0 := hdF_slices_IndexFunc_Rect_L1
  replace H : F_slices_IndexFunc_Rect_L1 p1 restF_slices_IndexFunc_Rect_L1 iF_slices_IndexFunc_Rect_L1 = some r := H
  replace hmF_slices_IndexFunc_Rect_L1 : m + 1 = restF_slices_IndexFunc_Rect_L1.length + 1 := hmF_slices_IndexFunc_Rect_L1
  replace hp0_0 := hp0_0.leR leF_slices_IndexFunc_Rect_L1
  replace hf1 := fun w' he => hf1 w' (leF_slices_IndexFunc_Rect_L1.ext.trans he)
  replace leB := leB.trans leF_slices_IndexFunc_Rect_L1
  obtain rfl : m = restF_slices_IndexFunc_Rect_L1.length := by omega
  clear hmF_slices_IndexFunc_Rect_L1
  show Tr _ _ (LF [(0, (.slice Ap0_0 (p0).length cp0_0)), (1, (.func (.func fid1) #[] cap1.toArray)), (7, (.int .i64 (p0.length : Int))), (8, (.int .i64 (iF_slices_IndexFunc_Rect_L1 : Int)))]) (LE []) _
  cases restF_slices_IndexFunc_Rect_L1 with
  | nil =>
    rw [F_slices_IndexFunc_Rect_L1.eq_1] at H
    refine Tr.seq ?_
    refine Tr.region ?_
    refine Tr.val (wn rfl) rfl (fun _ _ h1 h2 => run_lss (h1.ev rfl) (h1.ev rfl)) ?_
    refine Tr.nil (Tr.normThen ?_)
    refine Tr.seq ?_
    refine Tr.condF rfl (range_nil hdF_slices_IndexFunc_Rect_L1) ?_
    refine Tr.exit (Tr.exitThen (Tr.exitThen (Tr.exitBlock (Tr.normThen ?_))))
    refine Tr.seq ?_
    refine Tr.region ?_
    refine Tr.val (wn rfl) rfl (fun _ _ h1 h2 => run_assign (h1.ev rfl)) ?_
    refine Tr.nil (Tr.normThen ?_)
    refine Tr.ret ?_
    obtain rfl := Option.some.inj H
    exact Tr.out (m := [(.int .i64 (-1))]) [] (res_tmp rfl res_nil) (fun W hW => ⟨rfl, hW.low leB⟩)
  | cons xF_slices_IndexFunc_Rect_L1 restF_slices_IndexFunc_Rect_L1 =>
    rw [F_slices_IndexFunc_Rect_L1.eq_2] at H
    refine Tr.seq ?_
    refine Tr.region ?_
    refine Tr.val (wn rfl) rfl (fun _ _ h1 h2 => run_lss (h1.ev rfl) (h1.ev rfl)) ?_
    refine Tr.nil (Tr.normThen ?_)
    refine Tr.seq ?_
    refine Tr.condT rfl (range_on hdF_slices_IndexFunc_Rect_L1) ?_
    refine Tr.skip (Tr.normThen ?_)
    refine Tr.seq ?_
    refine Tr.block ?_
    refine Tr.seq ?_
    refine Tr.region ?_
    refine Tr.val (wn rfl) rfl (fun _ _ h1 h2 => run_move (h1.ev rfl)) ?_
    refine Tr.val (wn rfl) rfl (fun _ _ h1 h2 => run_assign (h1.ev rfl)) ?_
    refine Tr.nil (Tr.normThen ?_)
    refine Tr.seq ?_
    refine Tr.region ?_
    refine Tr.val (wn rfl) rfl (fun _ _ h1 h2 => run_move (h1.ev rfl)) ?_
    refine Tr.val (wn rfl) rfl (fun _ _ h1 h2 => run_move (h1.ev rfl)) ?_
    refine Tr.val (wn rfl) rfl (fun _ _ h1 h2 => run_move (h1.ev rfl)) ?_
    refine Tr.val (wn rfl) rfl (fun _ _ h1 h2 => run_indexAddr el_22 (h1.ev rfl) hp0_0.form (h1.ev rfl) (Int.natCast_nonneg _) (range_lt hdF_slices_IndexFunc_Rect_L1)) ?_
    refine Tr.val (wn rfl) rfl (fun _ _ h1 h2 => run_loadN (cs := [(.int .i64 xF_slices_IndexFunc_Rect_L1.X0), (.int .i64 xF_slices_IndexFunc_Rect_L1.Y0), (.int .i64 xF_slices_IndexFunc_Rect_L1.X1), (.int .i64 xF_slices_IndexFunc_Rect_L1.Y1)]) ag_29 sz_29 (h1.ev rfl) (CellsAt.take (rdF ef_TRect hp0_0 (range_at hdF_slices_IndexFunc_Rect_L1) h2) 4) rfl) ?_
    obtain ⟨y103, hy103, H⟩ := bnd H
    refine Tr.callF (r := (.bool y103)) (wn rfl) rfl rfl hg1 (evl_cons rfl evl_nil) (fun W hW => hf1 hW.all hW.extAll xF_slices_IndexFunc_Rect_L1 _ hy103) ?_
    refine Tr.nil (Tr.normThen ?_)
    refine Tr.cond rfl H (fun H => ?_) (fun H => ?_)
    · refine Tr.seq ?_
      refine Tr.region ?_
      refine Tr.val (wn rfl) rfl (fun _ _ h1 h2 => run_move (h1.ev rfl)) ?_
      refine Tr.val (wn rfl) rfl (fun _ _ h1 h2 => run_assign (h1.ev rfl)) ?_
      refine Tr.nil (Tr.normThen ?_)
      refine Tr.ret (Tr.retBlock (Tr.retThen (Tr.retThen (Tr.retBlock (Tr.retThen ?_)))))
      obtain rfl := Option.some.inj H
      exact Tr.out (m := [(.int .i64 (iF_slices_IndexFunc_Rect_L1 : Int))]) [] (res_tmp rfl res_nil) (fun W hW => ⟨rfl, hW.low leB⟩)
    · refine Tr.skip (Tr.normBlock (Tr.normThen ?_))
      refine Tr.region ?_
      refine Tr.val (wn rfl) rfl (fun _ _ h1 h2 => run_add (h1.ev rfl) (h1.ev rfl)) ?_
      refine Tr.val (wn rfl) rfl (fun _ _ h1 h2 => run_move (h1.ev rfl)) ?_
      refine Tr.nil ?_
      exact Tr.backThen leF_slices_IndexFunc_Rect_L1 (restF_slices_IndexFunc_Rect_L1, (iF_slices_IndexFunc_Rect_L1 + 1)) ⟨rfl, range_tl hdF_slices_IndexFunc_Rect_L1, range_lt hdF_slices_IndexFunc_Rect_L1, H⟩ (.cons rfl (.cons rfl (.cons rfl (.cons (congrArg (fun z => some (Value.int .i64 z)) (range_up hdF_slices_IndexFunc_Rect_L1 hp0_0.form)) .nil)))) .nil

theorem F_slices_DeleteFunc_Rect_ok (N : Nat) {w : Bs} (p0 : (List TRect)) (Ap0_0 : Option Addr) (cp0_0 : Nat) (p1 : TRect → Option Bool) (fid1 : Nat) (cap1 : List Value) (hg1 : ∀ args W, (callFunc fid1 args).run Try.prog W = .ok (.enter fid1 args) W) (hf1 : ∀ (w' : Bs), w.Ext w' → ∀ (z0 : TRect), ∀ y, p1 z0 = some y → Calls Try.prog fid1 (([(.agg #[(.int .i64 z0.X0), (.int .i64 z0.Y0), (.int .i64 z0.X1), (.int .i64 z0.Y1)])] : List Value) ++ cap1).toArray w'.W fun e W'' => e = .returned (.bool y) ∧ HF w' W'' E0) (r : (List TRect)) (H : F_slices_DeleteFunc_Rect N p0 p1 = some r) (hE : HF w w.W (LEn [ow Ap0_0 cp0_0 29 fl_TRect p0])) : Calls Try.prog 88 [(.slice Ap0_0 (p0).length cp0_0), (.func (.func fid1) #[] cap1.toArray)].toArray w.W fun e W' => ∃ u : (Option Addr × Nat), e = .returned (.slice u.1 (r).length u.2) ∧ (SlF u.1 (r).length u.2) ∧ HF w W' (LEn [ow u.1 u.2 29 fl_TRect r]) := by
  unfold F_slices_DeleteFunc_Rect at H
  have hfhp0_0 := (hE.sl (k := 0) rfl).form
  have leB := Bs.Le.refl w
  refine Tr.enter (n := 42) Try.func88 rfl rfl rfl hE ?_
  refine Tr.seq ?_
  refine Tr.region ?_
  refine Tr.val (wn rfl) rfl (fun _ _ h1 h2 => run_assign (h1.ev rfl)) ?_
  refine Tr.nilOwn 1 29 fl_TRect ?_
  show Tr _ _ (uf _ 4 (.slice none (([] : List TRect)).length 0)) _ _
  refine Tr.nil (Tr.normThen ?_)
  refine Tr.seq ?_
  refine Tr.region ?_
  refine Tr.val (wn rfl) rfl (fun _ _ h1 h2 => run_move (h1.ev rfl)) ?_
  refine Tr.val (wn rfl) rfl (fun _ _ h1 h2 => run_move (h1.ev rfl)) ?_
  obtain ⟨y100, hy100, H⟩ := bnd H
  refine Tr.call0 (r := (.int .i64 y100)) (wn rfl) rfl Try.call115 (evl_cons rfl (evl_cons rfl evl_nil)) (fun W hW => F_slices_IndexFunc_Rect_ok p0 Ap0_0 cp0_0 (hW.slCall (k := 0) rfl) p1 fid1 cap1 hg1 (fun w' he => hf1 w' (hW.extAll.trans he)) y100 hy100 (HF.start _)) ?_
  refine Tr.val (wn rfl) rfl (fun _ _ h1 h2 => run_assign (h1.ev rfl)) ?_
  refine Tr.nil (Tr.normThen ?_)
  refine Tr.seq ?_
  refine Tr.seq ?_
  refine Tr.region ?_
  refine Tr.val (wn rfl) rfl (fun _ _ h1 h2 => run_move (h1.ev rfl)) ?_
  refine Tr.val (wn rfl) rfl (fun _ _ h1 h2 => run_eql (h1.ev rfl) (h1.ev rfl)) ?_
  refine Tr.nil (Tr.normThen ?_)
  refine Tr.cond rfl H (fun H => ?_) (fun H => ?_)
  · refine Tr.seq ?_
    refine Tr.region ?_
    refine Tr.val (wn rfl) rfl (fun _ _ h1 h2 => run_move (h1.ev rfl)) ?_
    refine Tr.val (wn rfl) rfl (fun _ _ h1 h2 => run_assign (h1.ev rfl)) ?_
    refine Tr.nil (Tr.normThen ?_)
    refine Tr.ret (Tr.retThen ?_)
    obtain rfl := Option.some.inj H
    exact Tr.out (m := [(.slice Ap0_0 (p0).length cp0_0)]) [] (res_tmp rfl res_nil) (fun W hW => ⟨(Ap0_0, cp0_0), rfl, hfhp0_0, HF.lowE leB (hW.pick (ks := [0]) (by decide) (pk_cons rfl pk_nil)) ⟨ow_any _ _ _ _ tr_TRect, trivial⟩⟩)
  · refine Tr.skip (Tr.normThen ?_)
    refine Tr.seq ?_
    refine Tr.seq ?_
    refine Tr.region ?_
    refine Tr.val (wn rfl) rfl (fun _ _ h1 h2 => run_move (h1.ev rfl)) ?_
    refine Tr.val (wn rfl) rfl (fun _ _ h1 h2 => run_add (h1.ev rfl) (h1.ev rfl)) ?_
    refine Tr.val (wn rfl) rfl (fun _ _ h1 h2 => run_assign (h1.ev rfl)) ?_
    refine Tr.nil (Tr.normThen ?_)
    refine Tr.block ?_
    refine Tr.loop (σ := (List TRect) × Int × Int × (Option Addr) × Nat) (fun m w s => F_slices_DeleteFunc_Rect_L1 p1 m s.1 s.2.1 s.2.2.1 = some r ∧ SlF s.2.2.2.1 (s.1).length s.2.2.2.2) (fun s => [(0, (.slice s.2.2.2.1 (s.1).length s.2.2.2.2)), (1, (.func (.func fid1) #[] cap1.toArray)), (5, (.int .i64 s.2.1)), (6, (.int .i64 s.2.2.1))]) (fun s => [(0, ow s.2.2.2.1 s.2.2.2.2 29 fl_TRect s.1)]) N (p0, y100, (w64 (y100 + 1)), Ap0_0, cp0_0) ⟨H, hfhp0_0⟩ (.cons rfl (.cons rfl (.cons rfl (.cons rfl .nil)))) (.cons rfl .nil) (fun _ _ h => noSome (h.1)) ?_
    intro w leF_slices_DeleteFunc_Rect_L1 mF_slices_DeleteFunc_Rect_L1 s hs
    obtain ⟨l133, x134, x135, Al133, cl133⟩ := s
    obtain ⟨H, hl133⟩ := hs
    replace H : F_slices_DeleteFunc_Rect_L1 p1 (mF_slices_DeleteFunc_Rect_L1 + 1) l133 x134 x135 = some r := H
    replace hf1 := fun w' he => hf1 w' (leF_slices_DeleteFunc_Rect_L1.ext.trans he)
    replace leB := leB.trans leF_slices_DeleteFunc_Rect_L1
    replace hl133 : SlF Al133 (l133).length cl133 := hl133
    rw [F_slices_DeleteFunc_Rect_L1.eq_2] at H
    show Tr _ _ (LF [(0, (.slice Al133 (l133).length cl133)), (1, (.func (.func fid1) #[] cap1.toArray)), (5, (.int .i64 x134)), (6, (.int .i64 x135))]) (LE [(0, ow Al133 cl133 29 fl_TRect l133)]) _
    refine Tr.seq ?_
    refine Tr.seq ?_
    refine Tr.region ?_
    refine Tr.val (wn rfl) rfl (fun _ _ h1 h2 => run_move (h1.ev rfl)) ?_
    refine Tr.val (wn rfl) rfl (fun _ _ h1 h2 => run_move (h1.ev rfl)) ?_
    refine Tr.val (wn rfl) rfl (fun _ _ h1 h2 => run_len un_22 (h1.ev rfl)) ?_
    refine Tr.val (wn rfl) rfl (fun _ _ h1 h2 => run_lss (h1.ev rfl) (h1.ev rfl)) ?_
    refine Tr.nil (Tr.normThen ?_)
    refine Tr.cond rfl H (fun H => ?_) (fun H => ?_)
    · refine Tr.skip (Tr.normThen ?_)
      refine Tr.seq ?_
      refine Tr.block ?_
      refine Tr.seq ?_
      refine Tr.region ?_
      refine Tr.val (wn rfl) rfl (fun _ _ h1 h2 => run_move (h1.ev rfl)) ?_
      refine Tr.val (wn rfl) rfl (fun _ _ h1 h2 => run_move (h1.ev rfl)) ?_
      obtain ⟨x136, hx136, H⟩ := bnd H
      obtain ⟨hx1360, hx1361, hx1362⟩ := idx_some hx136
      refine Tr.val (wn rfl) rfl (fun _ _ h1 h2 => run_indexAddr el_22 (h1.ev rfl) hl133 (h1.ev rfl) hx1360 hx1361) ?_
      refine Tr.val (wn rfl) rfl (fun _ _ h1 h2 => run_loadN (cs := [(.int .i64 x136.X0), (.int .i64 x136.Y0), (.int .i64 x136.X1), (.int .i64 x136.Y1)]) ag_29 sz_29 (h1.ev rfl) (CellsAt.take (rdo ef_TRect (k := 0) h2 rfl hx1362) 4) rfl) ?_
      refine Tr.alloc 5 (wn rfl) rfl ze_29 fun b137 => ?_
      refine Tr.store 5 (cs := [(.int .i64 x136.X0), (.int .i64 x136.Y0), (.int .i64 x136.X1), (.int .i64 x136.Y1)]) [(.int .i64 x136.X0), (.int .i64 x136.Y0), (.int .i64 x136.X1), (.int .i64 x136.Y1)] (wn rfl) rfl rfl rfl rfl sz_29 rfl rfl rfl ?_
      refine Tr.nil (Tr.normThen ?_)
      refine Tr.seq ?_
      refine Tr.region ?_
      refine Tr.val (wn rfl) rfl (fun _ _ h1 h2 => run_move (h1.ev rfl)) ?_
      refine Tr.val (wn rfl) rfl (fun _ _ h1 h2 => run_loadN (cs := [(.int .i64 x136.X0), (.int .i64 x136.Y0), (.int .i64 x136.X1), (.int .i64 x136.Y1)]) ag_29 sz_29 (h1.ev rfl) (CellsAt.take (rdb h2 (vs := [(.int .i64 x136.X0), (.int .i64 x136.Y0), (.int .i64 x136.X1), (.int .i64 x136.Y1)]) (k := 5) rfl 0) 4) rfl) ?_
      obtain ⟨y138, hy138, H⟩ := bnd H
      refine Tr.callF (r := (.bool y138)) (wn rfl) rfl rfl hg1 (evl_cons rfl evl_nil) (fun W hW => hf1 hW.all hW.extAll x136 _ hy138) ?_
      refine Tr.val (wn rfl) rfl (fun _ _ h1 h2 => run_not (h1.ev rfl)) ?_
      refine Tr.nil (Tr.normThen ?_)
      refine Tr.cond rfl H (fun H => ?_) (fun H => ?_)
      · refine Tr.seq ?_
        refine Tr.region ?_
        refine Tr.val (wn rfl) rfl (fun _ _ h1 h2 => run_move (h1.ev rfl)) ?_
        refine Tr.val (wn rfl) rfl (fun _ _ h1 h2 => run_move (h1.ev rfl)) ?_
        refine Tr.val (wn rfl) rfl (fun _ _ h1 h2 => run_loadN (cs := [(.int .i64 x136.X0), (.int .i64 x136.Y0), (.int .i64 x136.X1), (.int .i64 x136.Y1)]) ag_29 sz_29 (h1.ev rfl) (CellsAt.take (rdb h2 (vs := [(.int .i64 x136.X0), (.int .i64 x136.Y0), (.int .i64 x136.X1), (.int .i64 x136.Y1)]) (k := 5) rfl 0) 4) rfl) ?_
        obtain ⟨x139, hx139, H⟩ := bnd H
        obtain ⟨hx1390, hx1391, hx1392⟩ := idx_some hx139
        refine Tr.val (wn rfl) rfl (fun _ _ h1 h2 => run_indexAddr el_22 (h1.ev rfl) hl133 (h1.ev rfl) hx1390 hx1391) ?_
        obtain ⟨l140, hl140, H⟩ := bnd H
        have hnl140 := sets_len hl140
        refine Tr.storeEl 0 (t := fl_TRect) (l := l133) (i := x134) (fo := 0) (cs := [(.int .i64 x136.X0), (.int .i64 x136.Y0), (.int .i64 x136.X1), (.int .i64 x136.Y1)]) x136 (wn rfl) rfl rfl rfl rfl rfl hx1392 sz_29 rfl (fun u _ => ⟨u, trivial, rfl⟩) rfl hl140 ?_
        have hfl140 : SlF Al133 (l140).length cl133 := by rw [hnl140]; exact hl133
        refine Tr.sel (lf := [(0, (.slice Al133 (l140).length cl133)), (1, (.func (.func fid1) #[] cap1.toArray)), (5, (.int .i64 x134)), (6, (.int .i64 x135)), (7, (.pointer (some ⟨b137, 0, none⟩))), (16, (.int .i64 x135)), (17, (.slice Al133 (l140).length cl133)), (18, (.int .i64 (l133.length : Int))), (19, (.bool (decide (x135 < (l133.length : Int))))), (22, (.slice Al133 (l140).length cl133)), (23, (.int .i64 x135)), (25, (.agg #[(.int .i64 x136.X0), (.int .i64 x136.Y0), (.int .i64 x136.X1), (.int .i64 x136.Y1)])), (26, (.func (.func fid1) #[] cap1.toArray)), (27, (.agg #[(.int .i64 x136.X0), (.int .i64 x136.Y0), (.int .i64 x136.X1), (.int .i64 x136.Y1)])), (28, (.bool y138)), (29, (.bool (!y138))), (30, (.slice Al133 (l140).length cl133)), (31, (.int .i64 x134)), (32, (.agg #[(.int .i64 x136.X0), (.int .i64 x136.Y0), (.int .i64 x136.X1), (.int .i64 x136.Y1)]))]) (le := [(0, ow Al133 cl133 29 fl_TRect l140), (5, bx b137 #[(.int .i64 x136.X0), (.int .i64 x136.Y0), (.int .i64 x136.X1), (.int .i64 x136.Y1)] 29)]) (.cons (slenV rfl (by rw [hnl140])) (.cons rfl (.cons rfl (.cons rfl (.cons rfl (.cons rfl (.cons (slenV rfl (by rw [hnl140])) (.cons rfl (.cons rfl (.cons (slenV rfl (by rw [hnl140])) (.cons rfl (.cons rfl (.cons rfl (.cons rfl (.cons rfl (.cons rfl (.cons (slenV rfl (by rw [hnl140])) (.cons rfl (.cons rfl .nil))))))))))))))))))) (.cons rfl (.cons rfl .nil)) ?_
        refine Tr.nil (Tr.normThen ?_)
        refine Tr.region ?_
        refine Tr.val (wn rfl) rfl (fun _ _ h1 h2 => run_move (h1.ev rfl)) ?_
        refine Tr.val (wn rfl) rfl (fun _ _ h1 h2 => run_add (h1.ev rfl) (h1.ev rfl)) ?_
        refine Tr.val (wn rfl) rfl (fun _ _ h1 h2 => run_assign (h1.ev rfl)) ?_
        refine Tr.nil (Tr.normBlock (Tr.normThen ?_))
        refine Tr.region ?_
        refine Tr.val (wn rfl) rfl (fun _ _ h1 h2 => run_move (h1.ev rfl)) ?_
        refine Tr.val (wn rfl) rfl (fun _ _ h1 h2 => run_add (h1.ev rfl) (h1.ev rfl)) ?_
        refine Tr.val (wn rfl) rfl (fun _ _ h1 h2 => run_assign (h1.ev rfl)) ?_
        refine Tr.nil ?_
        exact Tr.backThen leF_slices_DeleteFunc_Rect_L1 (l140, (w64 (x134 + 1)), (w64 (x135 + 1)), Al133, cl133) ⟨H, hfl140⟩ (.cons rfl (.cons rfl (.cons rfl (.cons rfl .nil)))) (.cons rfl .nil)
      · refine Tr.skip (Tr.normBlock (Tr.normThen ?_))
        refine Tr.region ?_
        refine Tr.val (wn rfl) rfl (fun _ _ h1 h2 => run_move (h1.ev rfl)) ?_
        refine Tr.val (wn rfl) rfl (fun _ _ h1 h2 => run_add (h1.ev rfl) (h1.ev rfl)) ?_
        refine Tr.val (wn rfl) rfl (fun _ _ h1 h2 => run_assign (h1.ev rfl)) ?_
        refine Tr.nil ?_
        exact Tr.backThen leF_slices_DeleteFunc_Rect_L1 (l133, x134, (w64 (x135 + 1)), Al133, cl133) ⟨H, hl133⟩ (.cons rfl (.cons rfl (.cons rfl (.cons rfl .nil)))) (.cons rfl .nil)
    · refine Tr.exit (Tr.exitThen (Tr.exitThen (Tr.exitBlock (Tr.normThen ?_))))
      refine Tr.seq ?_
      refine Tr.region ?_
      refine Tr.val (wn rfl) rfl (fun _ _ h1 h2 => run_move (h1.ev rfl)) ?_
      refine Tr.val (wn rfl) rfl (fun _ _ h1 h2 => run_move (h1.ev rfl)) ?_
      obtain ⟨l141, hl141, H⟩ := bnd H
      refine Tr.val (wn rfl) rfl (fun _ _ h1 h2 => run_cutL el_22 (h1.ev rfl) hl133 (h1.ev rfl) hl141) ?_
      have hnhcl141 := clr_len (TRect.mk 0 0 0 0) hl141
      refine Tr.clearCut 0 (lo := x134) (t := fl_TRect) (l := l133) (TRect.mk 0 0 0 0) (wn rfl) rfl hl141 rfl un_22 ze_29 ⟨(), tr_TRect _ _ _ _, ef_TRect _ _⟩ rfl rfl ?_
      have hfhcl141 : SlF Al133 ((clr l133 x134 (l141).length (TRect.mk 0 0 0 0))).length cl133 := by rw [hnhcl141]; exact hl133
      refine Tr.sel (lf := [(0, (.slice Al133 ((clr l133 x134 (l141).length (TRect.mk 0 0 0 0))).length cl133)), (1, (.func (.func fid1) #[] cap1.toArray)), (5, (.int .i64 x134)), (6, (.int .i64 x135)), (16, (.int .i64 x135)), (17, (.slice Al133 ((clr l133 x134 (l141).length (TRect.mk 0 0 0 0))).length cl133)), (18, (.int .i64 (l133.length : Int))), (19, (.bool (decide (x135 < (l133.length : Int))))), (36, (.slice Al133 ((clr l133 x134 (l141).length (TRect.mk 0 0 0 0))).length cl133)), (37, (.int .i64 x134))]) (le := [(0, ow Al133 cl133 29 fl_TRect (clr l133 x134 (l141).length (TRect.mk 0 0 0 0)))]) (.cons (slenV rfl (by rw [hnhcl141])) (.cons rfl (.cons rfl (.cons rfl (.cons rfl (.cons (slenV rfl (by rw [hnhcl141])) (.cons rfl (.cons rfl (.cons (slenV rfl (by rw [hnhcl141])) (.cons rfl .nil)))))))))) (.cons rfl .nil) ?_
      refine Tr.nil (Tr.normThen ?_)
      refine Tr.seq ?_
      refine Tr.region ?_
      refine Tr.val (wn rfl) rfl (fun _ _ h1 h2 => run_move (h1.ev rfl)) ?_
      refine Tr.val (wn rfl) rfl (fun _ _ h1 h2 => run_move (h1.ev rfl)) ?_
      obtain ⟨l142, hl142, H⟩ := bnd H
      refine Tr.val (wn rfl) rfl (fun _ _ h1 h2 => run_pre el_22 (h1.ev rfl) hfhcl141 (h1.ev rfl) hl142) ?_
      refine Tr.val (wn rfl) rfl (fun _ _ h1 h2 => run_assign (h1.ev rfl)) ?_
      refine Tr.nil (Tr.normThen ?_)
      refine Tr.ret ?_
      obtain rfl := Option.some.inj H
      refine Tr.shrinkP 0 hl142 rfl ?_
      exact Tr.out (m := [(.slice Al133 (l142).length cl133)]) [] (res_tmp rfl res_nil) (fun W hW => ⟨(Al133, cl133), rfl, (pre_form hfhcl141 hl142), HF.lowE leB (hW.pick (ks := [0]) (by decide) (pk_cons rfl pk_nil)) ⟨ow_any _ _ _ _ tr_TRect, trivial⟩⟩)

theorem F_shape_stretches_1_ok {w : Bs} (p0 : TRect) (p1 : TRect) (r : Int) (H : F_shape_stretches_1 p0 p1 = some r) (hE : HF w w.W E0) : Calls Try.prog 117 [(.agg #[(.int .i64 p0.X0), (.int .i64 p0.Y0), (.int .i64 p0.X1), (.int .i64 p0.Y1)]), (.agg #[(.int .i64 p1.X0), (.int .i64 p1.Y0), (.int .i64 p1.X1), (.int .i64 p1.Y1)])].toArray w.W fun e W' => e = .returned (.int .i64 r) ∧ HF w W' E0 := by
  unfold F_shape_stretches_1 at H
  have leB := Bs.Le.refl w
  refine Tr.enter (n := 10) Try.func117 rfl rfl rfl hE ?_
  refine Tr.seq ?_
  refine Tr.region ?_
  refine Tr.box 1 (cs := [(.int .i64 p0.X0), (.int .i64 p0.Y0), (.int .i64 p0.X1), (.int .i64 p0.Y1)]) (wn rfl) rfl rfl rfl fun b100 => ?_
  refine Tr.box 2 (cs := [(.int .i64 p1.X0), (.int .i64 p1.Y0), (.int .i64 p1.X1), (.int .i64 p1.Y1)]) (wn rfl) rfl rfl rfl fun b101 => ?_
  refine Tr.val (wn rfl) rfl (fun _ _ h1 h2 => run_assign (h1.ev rfl)) ?_
  refine Tr.nil (Tr.normThen ?_)
  refine Tr.seq ?_
  refine Tr.region ?_
  refine Tr.val (wn rfl) rfl (fun _ _ h1 h2 => run_fieldAddr fo_29_0 (h1.ev rfl)) ?_
  refine Tr.val (wn rfl) rfl (fun _ _ h1 h2 => run_load1 ag_3 (h1.ev rfl) (rdb h2 (vs := [(.int .i64 p0.X0), (.int .i64 p0.Y0), (.int .i64 p0.X1), (.int .i64 p0.Y1)]) (k := 1) rfl 0) rfl) ?_
  refine Tr.val (wn rfl) rfl (fun _ _ h1 h2 => run_fieldAddr fo_29_0 (h1.ev rfl)) ?_
  refine Tr.val (wn rfl) rfl (fun _ _ h1 h2 => run_load1 ag_3 (h1.ev rfl) (rdb h2 (vs := [(.int .i64 p1.X0), (.int .i64 p1.Y0), (.int .i64 p1.X1), (.int .i64 p1.Y1)]) (k := 2) rfl 0) rfl) ?_
  refine Tr.val (wn rfl) rfl (fun _ _ h1 h2 => run_sub (h1.ev rfl) (h1.ev rfl)) ?_
  refine Tr.val (wn rfl) rfl (fun _ _ h1 h2 => run_assign (h1.ev rfl)) ?_
  refine Tr.nil (Tr.normThen ?_)
  refine Tr.ret ?_
  obtain rfl := Option.some.inj H
  exact Tr.out (m := [(.int .i64 (w64 (p0.X0 - p1.X0)))]) [] (res_tmp rfl res_nil) (fun W hW => ⟨rfl, hW.low leB⟩)

theorem F_shape_stretches_ok {w : Bs} (p0 : (List TRect)) (Ap0_0 : Option Addr) (cp0_0 : Nat) (r : ((List Int) × (List TRect))) (H : F_shape_stretches p0 = some r) (hE : HF w w.W (LEn [ow Ap0_0 cp0_0 29 fl_TRect p0, emp])) : Calls Try.prog 91 [(.slice Ap0_0 (p0).length cp0_0)].toArray w.W fun e W' => ∃ u : (Option Addr × Nat), e = .returned (.slice u.1 (r.1).length u.2) ∧ (SlF u.1 (r.1).length u.2 ∧ (r.2).length = (p0).length) ∧ HF w W' (LEn [ow Ap0_0 cp0_0 29 fl_TRect r.2, ow u.1 u.2 3 fl_i64 r.1]) := by
  unfold F_shape_stretches at H
  have hfhp0_0 := (hE.sl (k := 0) rfl).form
  have leB := Bs.Le.refl w
  refine Tr.enter (n := 48) Try.func91 rfl rfl rfl hE ?_
  refine Tr.seq ?_
  refine Tr.region ?_
  refine Tr.val (wn rfl) rfl (fun _ _ h1 h2 => run_assign (h1.ev rfl)) ?_
  refine Tr.nilOwn 1 3 fl_i64 ?_
  show Tr _ _ (uf _ 2 (.slice none (([] : List Int)).length 0)) _ _
  refine Tr.nil (Tr.normThen ?_)
  refine Tr.seq ?_
  refine Tr.region ?_
  refine Tr.val (wn rfl) rfl (fun _ _ h1 h2 => run_move (h1.ev rfl)) ?_
  obtain ⟨y100, hy100, H⟩ := bnd H
  refine Tr.callM [0] [ow Ap0_0 cp0_0 29 fl_TRect p0] (U := Unit) (fun u => (.tuple #[])) (fun u => (y100).length = (p0).length) (fun u => [ow Ap0_0 cp0_0 29 fl_TRect y100]) rfl (pk_cons rfl pk_nil) (fun _ => rfl) (wn rfl) rfl Try.call84 (evl_cons rfl (evl_cons rfl evl_nil)) (fun W hW hp hE => F_slices_SortFunc_TRect_ok p0 Ap0_0 cp0_0 (fun z0 z1 => F_shape_stretches_1 z0 z1) 117 [] Try.call117 (fun w' he z0 z1 y hy => F_shape_stretches_1_ok z0 z1 y hy (HF.start _)) y100 hy100 hE) ?_
  intro u hu
  have gky100_0 := hu
  have hgky100_0 : (y100).length = (p0).length := gky100_0 --@phi
  have hfky100_0 : SlF Ap0_0 (y100).length cp0_0 := by rw [hgky100_0]; exact hfhp0_0
  have hsky100_0 := hgky100_0.trans rfl
  show Tr _ _ (uf _ 8 (.tuple #[])) (up _ 0 (ow Ap0_0 cp0_0 29 fl_TRect y100)) _
  refine Tr.sel (lf := [(0, (.slice Ap0_0 (y100).length cp0_0)), (2, (.slice none (([] : List Int)).length 0)), (7, (.slice Ap0_0 (y100).length cp0_0)), (8, (.tuple #[]))]) (le := [(0, ow Ap0_0 cp0_0 29 fl_TRect y100), (1, ow none 0 3 fl_i64 ([] : List Int))]) (.cons (slenV rfl (by rw [hgky100_0])) (.cons rfl (.cons (slenV rfl (by rw [hgky100_0])) (.cons rfl .nil)))) (.cons rfl (.cons rfl .nil)) ?_
  refine Tr.nil (Tr.normThen ?_)
  refine Tr.seq ?_
  refine Tr.region ?_
  refine Tr.val (wn rfl) rfl (fun _ _ h1 h2 => run_assign (h1.ev rfl)) ?_
  refine Tr.nilOwn 2 3 fl_i64 ?_
  show Tr _ _ (uf _ 3 (.slice none (([] : List Int)).length 0)) _ _
  refine Tr.nil (Tr.normThen ?_)
  refine Tr.seq ?_
  refine Tr.seq ?_
  refine Tr.region ?_
  refine Tr.val (wn rfl) rfl (fun _ _ h1 h2 => run_move (h1.ev rfl)) ?_
  refine Tr.val (wn rfl) rfl (fun _ _ h1 h2 => run_len un_22 (h1.ev rfl)) ?_
  refine Tr.val (wn rfl) rfl (fun _ _ h1 h2 => run_move (h1.ev rfl)) ?_
  refine Tr.nil (Tr.normThen ?_)
  refine Tr.block ?_
  refine Tr.loop (σ := (List TRect) × Nat × (List Int) × (Option Addr) × Nat) (fun m w s => m = s.1.length + 1 ∧ s.1 = List.drop s.2.1 y100 ∧ s.2.1 ≤ y100.length ∧ F_shape_stretches_L1 y100 s.1 s.2.1 s.2.2.1 = some r ∧ SlF s.2.2.2.1 (s.2.2.1).length s.2.2.2.2) (fun s => [(3, (.slice s.2.2.2.1 (s.2.2.1).length s.2.2.2.2)), (9, (.slice Ap0_0 (y100).length cp0_0)), (10, (.int .i64 (y100.length : Int))), (11, (.int .i64 (s.2.1 : Int)))]) (fun s => [(0, ow Ap0_0 cp0_0 29 fl_TRect y100), (2, ow s.2.2.2.1 s.2.2.2.2 3 fl_i64 s.2.2.1)]) (y100.length + 1) (y100, 0, ([] : List Int), none, 0) ⟨rfl, rfl, Nat.zero_le _, H, slf_nil⟩ (.cons rfl (.cons rfl (.cons rfl (.cons rfl .nil)))) (.cons rfl (.cons rfl .nil)) (fun _ _ h => absurd h.1 (by simp)) ?_
  intro w leF_shape_stretches_L1 m s hs
  obtain ⟨restF_shape_stretches_L1, iF_shape_stretches_L1, l128, Al128, cl128⟩ := s
  obtain ⟨hmF_shape_stretches_L1, hdF_shape_stretches_L1, hiF_shape_stretches_L1, H, hl128⟩ := hs
  replace hdF_shape_stretches_L1 : restF_shape_stretches_L1 = List.drop iF_shape_stretches_L1 y100 := hdF_shape_stretches_L1
  replace H : F_shape_stretches_L1 y100 restF_shape_stretches_L1 iF_shape_stretches_L1 l128 = some r := H
  replace hmF_shape_stretches_L1 : m + 1 = restF_shape_stretches_L1.length + 1 := hmF_shape_stretches_L1
  replace leB := leB.trans leF_shape_stretches_L1
  replace hl128 : SlF Al128 (l128).length cl128 := hl128
  obtain rfl : m = restF_shape_stretches_L1.length := by omega
  clear hmF_shape_stretches_L1
  show Tr _ _ (LF [(3, (.slice Al128 (l128).length cl128)), (9, (.slice Ap0_0 (y100).length cp0_0)), (10, (.int .i64 (y100.length : Int))), (11, (.int .i64 (iF_shape_stretches_L1 : Int)))]) (LE [(0, ow Ap0_0 cp0_0 29 fl_TRect y100), (2, ow Al128 cl128 3 fl_i64 l128)]) _
  cases restF_shape_stretches_L1 with
  | nil =>
    rw [F_shape_stretches_L1.eq_1] at H
    refine Tr.seq ?_
    refine Tr.region ?_
    refine Tr.val (wn rfl) rfl (fun _ _ h1 h2 => run_lss (h1.ev rfl) (h1.ev rfl)) ?_
    refine Tr.nil (Tr.normThen ?_)
    refine Tr.seq ?_
    refine Tr.condF rfl (range_nil hdF_shape_stretches_L1) ?_
    refine Tr.exit (Tr.exitThen (Tr.exitThen (Tr.exitBlock (Tr.normThen ?_))))
    refine Tr.seq ?_
    refine Tr.region ?_
    refine Tr.val (wn rfl) rfl (fun _ _ h1 h2 => run_move (h1.ev rfl)) ?_
    refine Tr.val (wn rfl) rfl (fun _ _ h1 h2 => run_assign (h1.ev rfl)) ?_
    refine Tr.nil (Tr.normThen ?_)
    refine Tr.ret ?_
    obtain rfl := Option.some.inj H
    exact Tr.out (m := [(.slice Al128 (l128).length cl128)]) [] (res_tmp rfl res_nil) (fun W hW => ⟨(Al128, cl128), rfl, ⟨hl128, hsky100_0⟩, HF.lowE leB (hW.pick (ks := [0, 2]) (by decide) (pk_cons rfl (pk_cons rfl pk_nil))) ⟨ow_any _ _ _ _ tr_TRect, ow_any _ _ _ _ tr_i64, trivial⟩⟩)
  | cons xF_shape_stretches_L1 restF_shape_stretches_L1 =>
    rw [F_shape_stretches_L1.eq_2] at H
    refine Tr.seq ?_
    refine Tr.region ?_
    refine Tr.val (wn rfl) rfl (fun _ _ h1 h2 => run_lss (h1.ev rfl) (h1.ev rfl)) ?_
    refine Tr.nil (Tr.normThen ?_)
    refine Tr.seq ?_
    refine Tr.condT rfl (range_on hdF_shape_stretches_L1) ?_
    refine Tr.skip (Tr.normThen ?_)
    refine Tr.seq ?_
    refine Tr.block ?_
    refine Tr.seq ?_
    refine Tr.region ?_
    refine Tr.val (wn rfl) rfl (fun _ _ h1 h2 => run_indexAddr el_22 (h1.ev rfl) hfky100_0 (h1.ev rfl) (Int.natCast_nonneg _) (range_lt hdF_shape_stretches_L1)) ?_
    refine Tr.val (wn rfl) rfl (fun _ _ h1 h2 => run_loadN (cs := [(.int .i64 xF_shape_stretches_L1.X0), (.int .i64 xF_shape_stretches_L1.Y0), (.int .i64 xF_shape_stretches_L1.X1), (.int .i64 xF_shape_stretches_L1.Y1)]) ag_29 sz_29 (h1.ev rfl) (CellsAt.take (rdo ef_TRect (k := 0) h2 rfl (range_at hdF_shape_stretches_L1)) 4) rfl) ?_
    refine Tr.alloc 7 (wn rfl) rfl ze_29 fun b129 => ?_
    refine Tr.store 7 (cs := [(.int .i64 xF_shape_stretches_L1.X0), (.int .i64 xF_shape_stretches_L1.Y0), (.int .i64 xF_shape_stretches_L1.X1), (.int .i64 xF_shape_stretches_L1.Y1)]) [(.int .i64 xF_shape_stretches_L1.X0), (.int .i64 xF_shape_stretches_L1.Y0), (.int .i64 xF_shape_stretches_L1.X1), (.int .i64 xF_shape_stretches_L1.Y1)] (wn rfl) rfl rfl rfl rfl sz_29 rfl rfl rfl ?_
    refine Tr.nil (Tr.normThen ?_)
    refine Tr.seq ?_
    refine Tr.region ?_
    refine Tr.val (wn rfl) rfl (fun _ _ h1 h2 => run_move (h1.ev rfl)) ?_
    refine Tr.val (wn rfl) rfl (fun _ _ h1 h2 => run_len un_89 (h1.ev rfl)) ?_
    refine Tr.val (wn rfl) rfl (fun _ _ h1 h2 => run_sub (h1.ev rfl) (h1.ev rfl)) ?_
    refine Tr.val (wn rfl) rfl (fun _ _ h1 h2 => run_assign (h1.ev rfl)) ?_
    refine Tr.nil (Tr.normThen ?_)
    refine Tr.seq ?_
    refine Tr.draw (by kernel_rfl) (by kernel_rfl) ?_
    refine Tq.val (wn rfl) rfl (fun _ _ h1 h2 => run_move (h1.ev rfl)) ?_
    refine Tq.val (wn rfl) rfl (fun _ _ h1 h2 => run_geq (h1.ev rfl) (h1.ev rfl)) ?_
    refine Tq.val (wn rfl) rfl (fun _ _ h1 h2 => run_move (h1.ev rfl)) ?_
    obtain ⟨g131, hg131, H⟩ := bnd H
    refine Tq.mid 8 [(3, (.slice Al128 (l128).length cl128)), (5, (.pointer (some ⟨b129, 0, none⟩))), (6, (.int .i64 (w64 ((l128.length : Int) - 1)))), (9, (.slice Ap0_0 (y100).length cp0_0)), (10, (.int .i64 (y100.length : Int))), (11, (.int .i64 (iF_shape_stretches_L1 : Int))), (28, (.bool g131))] ?_ ?_
    · cases hg137 : (decide (0 ≤ (w64 ((l128.length : Int) - 1))))
      · rw [hg137] at hg131
        rw [if_neg (by decide)] at hg131
        have H := hg131
        obtain rfl := Option.some.inj H
        refine Tq.pass rfl rfl rfl rfl rfl (by decide) ?_
        refine Tq.pass rfl rfl rfl rfl rfl (by decide) ?_
        refine Tq.pass rfl rfl rfl rfl rfl (by decide) ?_
        refine Tq.pass rfl rfl rfl rfl rfl (by decide) ?_
        refine Tq.pass rfl rfl rfl rfl rfl (by decide) ?_
        refine Tq.pass rfl rfl rfl rfl rfl (by decide) ?_
        refine Tq.pass rfl rfl rfl rfl rfl (by decide) ?_
        refine Tq.val (wn rfl) rfl (fun _ _ h1 h2 => run_pickF (h1.ev rfl) (h1.ev rfl)) ?_
        exact Tq.fin (.cons rfl (.cons rfl (.cons rfl (.cons rfl (.cons rfl (.cons rfl (.cons rfl .nil)))))))
      · rw [hg137] at hg131
        rw [if_pos rfl] at hg131
        have H := hg131
        refine Tq.val (wg rfl rfl rfl) rfl (fun _ _ h1 h2 => run_fieldAddr fo_29_0 (h1.ev rfl)) ?_
        refine Tq.val (wg rfl rfl rfl) rfl (fun _ _ h1 h2 => run_load1 ag_3 (h1.ev rfl) (rdb h2 (vs := [(.int .i64 xF_shape_stretches_L1.X0), (.int .i64 xF_shape_stretches_L1.Y0), (.int .i64 xF_shape_stretches_L1.X1), (.int .i64 xF_shape_stretches_L1.Y1)]) (k := 7) rfl 0) rfl) ?_
        refine Tq.val (wg rfl rfl rfl) rfl (fun _ _ h1 h2 => run_move (h1.ev rfl)) ?_
        refine Tq.val (wg rfl rfl rfl) rfl (fun _ _ h1 h2 => run_move (h1.ev rfl)) ?_
        obtain ⟨x132, hx132, H⟩ := bnd H
        obtain ⟨hx1320, hx1321, hx1322⟩ := idx_some hx132
        refine Tq.val (wg rfl rfl rfl) rfl (fun _ _ h1 h2 => run_indexAddr el_89 (h1.ev rfl) hl128 (h1.ev rfl) hx1320 hx1321) ?_
        refine Tq.val (wg rfl rfl rfl) rfl (fun _ _ h1 h2 => run_load1 ag_3 (h1.ev rfl) (rdo ef_i64 (k := 2) h2 rfl hx1322) rfl) ?_
        refine Tq.val (wg rfl rfl rfl) rfl (fun _ _ h1 h2 => run_leq (h1.ev rfl) (h1.ev rfl)) ?_
        refine Tq.val (wn rfl) rfl (fun _ _ h1 h2 => run_pickT (h1.ev rfl) (h1.ev rfl)) ?_
        obtain rfl := Option.some.inj H
        exact Tq.fin (.cons rfl (.cons rfl (.cons rfl (.cons rfl (.cons rfl (.cons rfl (.cons rfl .nil)))))))
    · refine Tq.nil (Tr.normThen ?_)
      refine Tr.cond rfl H (fun H => ?_) (fun H => ?_)
      · refine Tr.drawTail 9 (by kernel_rfl) (by kernel_rfl) ?_
        refine Tq.val (wn rfl) rfl (fun _ _ h1 h2 => run_move (h1.ev rfl)) ?_
        refine Tq.val (wn rfl) rfl (fun _ _ h1 h2 => run_move (h1.ev rfl)) ?_
        refine Tq.val (wn rfl) rfl (fun _ _ h1 h2 => run_move (h1.ev rfl)) ?_
        refine Tq.val (wn rfl) rfl (fun _ _ h1 h2 => run_move (h1.ev rfl)) ?_
        obtain ⟨x133, hx133, H⟩ := bnd H
        obtain ⟨hx1330, hx1331, hx1332⟩ := idx_some hx133
        refine Tq.val (wn rfl) rfl (fun _ _ h1 h2 => run_indexAddr el_89 (h1.ev rfl) hl128 (h1.ev rfl) hx1330 hx1331) ?_
        refine Tq.val (wn rfl) rfl (fun _ _ h1 h2 => run_load1 ag_3 (h1.ev rfl) (rdo ef_i64 (k := 2) h2 rfl hx1332) rfl) ?_
        refine Tq.val (wn rfl) rfl (fun _ _ h1 h2 => run_fieldAddr fo_29_2 (h1.ev rfl)) ?_
        refine Tq.val (wn rfl) rfl (fun _ _ h1 h2 => run_load1 ag_3 (h1.ev rfl) (rdb h2 (vs := [(.int .i64 xF_shape_stretches_L1.X0), (.int .i64 xF_shape_stretches_L1.Y0), (.int .i64 xF_shape_stretches_L1.X1), (.int .i64 xF_shape_stretches_L1.Y1)]) (k := 7) rfl 2) rfl) ?_
        refine Tq.val (wn rfl) rfl (fun _ _ h1 h2 => run_max (h1.ev rfl) (h1.ev rfl) _) ?_
        refine Tq.nil ?_
        obtain ⟨x134, hx134, H⟩ := bnd H
        obtain ⟨hx1340, hx1341, hx1342⟩ := idx_some hx134
        refine Tr.val (wn rfl) rfl (fun _ _ h1 h2 => run_indexAddr el_89 (h1.ev rfl) hl128 (h1.ev rfl) hx1340 hx1341) ?_
        obtain ⟨l135, hl135, H⟩ := bnd H
        have hnl135 := sets_len hl135
        refine Tr.storeEl 2 (t := fl_i64) (l := l128) (i := (w64 ((l128.length : Int) - 1))) (fo := 0) (cs := [(.int .i64 (max x133 xF_shape_stretches_L1.X1))]) (max x133 xF_shape_stretches_L1.X1) (wn rfl) rfl rfl rfl rfl rfl hx1342 sz_3 rfl (fun u _ => ⟨u, trivial, rfl⟩) rfl hl135 ?_
        have hfl135 : SlF Al128 (l135).length cl128 := by rw [hnl135]; exact hl128
        refine Tr.sel (lf := [(3, (.slice Al128 (l135).length cl128)), (5, (.pointer (some ⟨b129, 0, none⟩))), (6, (.int .i64 (w64 ((l128.length : Int) - 1)))), (9, (.slice Ap0_0 (y100).length cp0_0)), (10, (.int .i64 (y100.length : Int))), (11, (.int .i64 (iF_shape_stretches_L1 : Int))), (28, (.bool g131)), (29, (.slice Al128 (l135).length cl128)), (30, (.int .i64 (w64 ((l128.length : Int) - 1)))), (31, (.slice Al128 (l135).length cl128)), (32, (.int .i64 (w64 ((l128.length : Int) - 1)))), (34, (.int .i64 x133)), (35, (.pointer (some ⟨b129, 2, none⟩))), (36, (.int .i64 xF_shape_stretches_L1.X1)), (37, (.int .i64 (max x133 xF_shape_stretches_L1.X1)))]) (le := [(0, ow Ap0_0 cp0_0 29 fl_TRect y100), (2, ow Al128 cl128 3 fl_i64 l135), (7, bx b129 #[(.int .i64 xF_shape_stretches_L1.X0), (.int .i64 xF_shape_stretches_L1.Y0), (.int .i64 xF_shape_stretches_L1.X1), (.int .i64 xF_shape_stretches_L1.Y1)] 29)]) (.cons (slenV rfl (by rw [hnl135])) (.cons rfl (.cons rfl (.cons rfl (.cons rfl (.cons rfl (.cons rfl (.cons (slenV rfl (by rw [hnl135])) (.cons rfl (.cons (slenV rfl (by rw [hnl135])) (.cons rfl (.cons rfl (.cons rfl (.cons rfl (.cons rfl .nil))))))))))))))) (.cons rfl (.cons rfl (.cons rfl .nil))) ?_
        refine Tr.nil (Tr.normBlock (Tr.normThen ?_))
        refine Tr.region ?_
        refine Tr.val (wn rfl) rfl (fun _ _ h1 h2 => run_add (h1.ev rfl) (h1.ev rfl)) ?_
        refine Tr.val (wn rfl) rfl (fun _ _ h1 h2 => run_move (h1.ev rfl)) ?_
        refine Tr.nil ?_
        exact Tr.backThen leF_shape_stretches_L1 (restF_shape_stretches_L1, (iF_shape_stretches_L1 + 1), l135, Al128, cl128) ⟨rfl, range_tl hdF_shape_stretches_L1, range_lt hdF_shape_stretches_L1, H, hfl135⟩ (.cons rfl (.cons rfl (.cons rfl (.cons (congrArg (fun z => some (Value.int .i64 z)) (range_up hdF_shape_stretches_L1 hfky100_0)) .nil)))) (.cons rfl (.cons rfl .nil))
      · refine Tr.region ?_
        refine Tr.val (wn rfl) rfl (fun _ _ h1 h2 => run_move (h1.ev rfl)) ?_
        refine Tr.val (wn rfl) rfl (fun _ _ h1 h2 => run_fieldAddr fo_29_0 (h1.ev rfl)) ?_
        refine Tr.val (wn rfl) rfl (fun _ _ h1 h2 => run_load1 ag_3 (h1.ev rfl) (rdb h2 (vs := [(.int .i64 xF_shape_stretches_L1.X0), (.int .i64 xF_shape_stretches_L1.Y0), (.int .i64 xF_shape_stretches_L1.X1), (.int .i64 xF_shape_stretches_L1.Y1)]) (k := 7) rfl 0) rfl) ?_
        refine Tr.val (wn rfl) rfl (fun _ _ h1 h2 => run_fieldAddr fo_29_2 (h1.ev rfl)) ?_
        refine Tr.val (wn rfl) rfl (fun _ _ h1 h2 => run_load1 ag_3 (h1.ev rfl) (rdb h2 (vs := [(.int .i64 xF_shape_stretches_L1.X0), (.int .i64 xF_shape_stretches_L1.Y0), (.int .i64 xF_shape_stretches_L1.X1), (.int .i64 xF_shape_stretches_L1.Y1)]) (k := 7) rfl 2) rfl) ?_
        refine Tr.buildSlice 8 (e := 3) (vs := [(0, (.int .i64 xF_shape_stretches_L1.X0)), (1, (.int .i64 xF_shape_stretches_L1.X1))]) (cs := [(.int .i64 xF_shape_stretches_L1.X0), (.int .i64 xF_shape_stretches_L1.X1)]) (wn rfl) rfl (evs_cons rfl (evs_cons rfl evs_nil)) (by kernel_rfl) fun b136 => ?_
        obtain ⟨l137, hl137, H⟩ := bnd H
        refine Tr.append 2 (t := fl_i64) (l := l128) (l2 := [xF_shape_stretches_L1.X0, xF_shape_stretches_L1.X1]) (wn rfl) rfl rfl rfl rfl (fun W hW => ⟨[[(.int .i64 xF_shape_stretches_L1.X0)], [(.int .i64 xF_shape_stretches_L1.X1)]], (.cons ⟨(), trivial, rfl⟩ (.cons ⟨(), trivial, rfl⟩ .nil)), rdb hW (vs := [(.int .i64 xF_shape_stretches_L1.X0), (.int .i64 xF_shape_stretches_L1.X1)]) (k := 8) rfl 0⟩) un_89 sz_3 zl_3 (by decide) by_3 rfl hl137 fun Al137 cl137 hAl137 => ?_
        refine Tr.val (wn rfl) rfl (fun _ _ h1 h2 => run_assign (h1.ev rfl)) ?_
        refine Tr.nil (Tr.normBlock (Tr.normThen ?_))
        refine Tr.region ?_
        refine Tr.val (wn rfl) rfl (fun _ _ h1 h2 => run_add (h1.ev rfl) (h1.ev rfl)) ?_
        refine Tr.val (wn rfl) rfl (fun _ _ h1 h2 => run_move (h1.ev rfl)) ?_
        refine Tr.nil ?_
        exact Tr.backThen leF_shape_stretches_L1 (restF_shape_stretches_L1, (iF_shape_stretches_L1 + 1), l137, Al137, cl137) ⟨rfl, range_tl hdF_shape_stretches_L1, range_lt hdF_shape_stretches_L1, H, hAl137⟩ (.cons rfl (.cons rfl (.cons rfl (.cons (congrArg (fun z => some (Value.int .i64 z)) (range_up hdF_shape_stretches_L1 hfky100_0)) .nil)))) (.cons rfl (.cons rfl .nil))

theorem F_slices_Equal_int_ok {w : Bs} (p0 : (List Int)) (Ap0_0 : Option Addr) (cp0_0 : Nat) (hp0_0 : Sl w.R w.W fl_i64 Ap0_0 cp0_0 p0) (p1 : (List Int)) (Ap1_0 : Option Addr) (cp1_0 : Nat) (hp1_0 : Sl w.R w.W fl_i64 Ap1_0 cp1_0 p1) (r : Bool) (H : F_slices_Equal_int p0 p1 = some r) (hE : HF w w.W E0) : Calls Try.prog 116 [(.slice Ap0_0 (p0).length cp0_0), (.slice Ap1_0 (p1).length cp1_0)].toArray w.W fun e W' => e = .returned (.bool r) ∧ HF w W' E0 := by
  unfold F_slices_Equal_int at H
  have leB := Bs.Le.refl w
  refine Tr.enter (n := 26) Try.func116 rfl rfl rfl hE ?_
  refine Tr.seq ?_
  refine Tr.region ?_
  refine Tr.val (wn rfl) rfl (fun _ _ h1 h2 => run_assign (h1.ev rfl)) ?_
  refine Tr.nil (Tr.normThen ?_)
  refine Tr.seq ?_
  refine Tr.seq ?_
  refine Tr.region ?_
  refine Tr.val (wn rfl) rfl (fun _ _ h1 h2 => run_move (h1.ev rfl)) ?_
  refine Tr.val (wn rfl) rfl (fun _ _ h1 h2 => run_len un_89 (h1.ev rfl)) ?_
  refine Tr.val (wn rfl) rfl (fun _ _ h1 h2 => run_move (h1.ev rfl)) ?_
  refine Tr.val (wn rfl) rfl (fun _ _ h1 h2 => run_len un_89 (h1.ev rfl)) ?_
  refine Tr.val (wn rfl) rfl (fun _ _ h1 h2 => run_neq (h1.ev rfl) (h1.ev rfl)) ?_
  refine Tr.nil (Tr.normThen ?_)
  refine Tr.cond rfl H (fun H => ?_) (fun H => ?_)
  · refine Tr.seq ?_
    refine Tr.region ?_
    refine Tr.val (wn rfl) rfl (fun _ _ h1 h2 => run_assign (h1.ev rfl)) ?_
    refine Tr.nil (Tr.normThen ?_)
    refine Tr.ret (Tr.retThen ?_)
    obtain rfl := Option.some.inj H
    exact Tr.out (m := [(.bool false)]) [] (res_tmp rfl res_nil) (fun W hW => ⟨rfl, hW.low leB⟩)
  · refine Tr.skip (Tr.normThen ?_)
    refine Tr.seq ?_
    refine Tr.seq ?_
    refine Tr.region ?_
    refine Tr.val (wn rfl) rfl (fun _ _ h1 h2 => run_move (h1.ev rfl)) ?_
    refine Tr.val (wn rfl) rfl (fun _ _ h1 h2 => run_len un_89 (h1.ev rfl)) ?_
    refine Tr.val (wn rfl) rfl (fun _ _ h1 h2 => run_move (h1.ev rfl)) ?_
    refine Tr.nil (Tr.normThen ?_)
    refine Tr.block ?_
    refine Tr.loop (σ := (List Int) × Nat) (fun m w s => m = s.1.length + 1 ∧ s.1 = List.drop s.2 p0 ∧ s.2 ≤ p0.length ∧ F_slices_Equal_int_L1 p1 s.1 s.2 = some r) (fun s => [(0, (.slice Ap0_0 (p0).length cp0_0)), (1, (.slice Ap1_0 (p1).length cp1_0)), (12, (.int .i64 (p0.length : Int))), (13, (.int .i64 (s.2 : Int)))]) (fun s => []) (p0.length + 1) (p0, 0) ⟨rfl, rfl, Nat.zero_le _, H⟩ (.cons rfl (.cons rfl (.cons rfl (.cons rfl .nil)))) .nil (fun _ _ h => absurd h.1 (by simp)) ?_
    intro w leF_slices_Equal_int_L1 m s hs
    obtain ⟨restF_slices_Equal_int_L1, iF_slices_Equal_int_L1⟩ := s
    obtain ⟨hmF_slices_Equal_int_L1, hdF_slices_Equal_int_L1, hiF_slices_Equal_int_L1, H⟩ := hs
    replace hdF_slices_Equal_int_L1 : restF_slices_Equal_int_L1 = List.drop iF_slices_Equal_int_L1 p0 := hdF_slices_Equal_int_L1
    replace H : F_slices_Equal_int_L1 p1 restF_slices_Equal_int_L1 iF_slices_Equal_int_L1 = some r := H
    replace hmF_slices_Equal_int_L1 : m + 1 = restF_slices_Equal_int_L1.length + 1 := hmF_slices_Equal_int_L1
    replace hp0_0 := hp0_0.leR leF_slices_Equal_int_L1
    replace hp1_0 := hp1_0.leR leF_slices_Equal_int_L1
    replace leB := leB.trans leF_slices_Equal_int_L1
    obtain rfl : m = restF_slices_Equal_int_L1.length := by omega
    clear hmF_slices_Equal_int_L1
    show Tr _ _ (LF [(0, (.slice Ap0_0 (p0).length cp0_0)), (1, (.slice Ap1_0 (p1).length cp1_0)), (12, (.int .i64 (p0.length : Int))), (13, (.int .i64 (iF_slices_Equal_int_L1 : Int)))]) (LE []) _
    cases restF_slices_Equal_int_L1 with
    | nil =>
      rw [F_slices_Equal_int_L1.eq_1] at H
      refine Tr.seq ?_
      refine Tr.region ?_
      refine Tr.val (wn rfl) rfl (fun _ _ h1 h2 => run_lss (h1.ev rfl) (h1.ev rfl)) ?_
      refine Tr.nil (Tr.normThen ?_)
      refine Tr.seq ?_
      refine Tr.condF rfl (range_nil hdF_slices_Equal_int_L1) ?_
      refine Tr.exit (Tr.exitThen (Tr.exitThen (Tr.exitBlock (Tr.normThen ?_))))
      refine Tr.seq ?_
      refine Tr.region ?_
      refine Tr.val (wn rfl) rfl (fun _ _ h1 h2 => run_assign (h1.ev rfl)) ?_
      refine Tr.nil (Tr.normThen ?_)
      refine Tr.ret ?_
      obtain rfl := Option.some.inj H
      exact Tr.out (m := [(.bool true)]) [] (res_tmp rfl res_nil) (fun W hW => ⟨rfl, hW.low leB⟩)
    | cons xF_slices_Equal_int_L1 restF_slices_Equal_int_L1 =>
      rw [F_slices_Equal_int_L1.eq_2] at H
      refine Tr.seq ?_
      refine Tr.region ?_
      refine Tr.val (wn rfl) rfl (fun _ _ h1 h2 => run_lss (h1.ev rfl) (h1.ev rfl)) ?_
      refine Tr.nil (Tr.normThen ?_)
      refine Tr.seq ?_
      refine Tr.condT rfl (range_on hdF_slices_Equal_int_L1) ?_
      refine Tr.skip (Tr.normThen ?_)
      refine Tr.seq ?_
      refine Tr.block ?_
      refine Tr.seq ?_
      refine Tr.region ?_
      refine Tr.val (wn rfl) rfl (fun _ _ h1 h2 => run_move (h1.ev rfl)) ?_
      refine Tr.val (wn rfl) rfl (fun _ _ h1 h2 => run_assign (h1.ev rfl)) ?_
      refine Tr.nil (Tr.normThen ?_)
      refine Tr.seq ?_
      refine Tr.draw (by kernel_rfl) (by kernel_rfl) ?_
      refine Tq.val (wn rfl) rfl (fun _ _ h1 h2 => run_move (h1.ev rfl)) ?_
      refine Tq.val (wn rfl) rfl (fun _ _ h1 h2 => run_move (h1.ev rfl)) ?_
      refine Tq.val (wn rfl) rfl (fun _ _ h1 h2 => run_indexAddr el_89 (h1.ev rfl) hp0_0.form (h1.ev rfl) (Int.natCast_nonneg _) (range_lt hdF_slices_Equal_int_L1)) ?_
      refine Tq.val (wn rfl) rfl (fun _ _ h1 h2 => run_load1 ag_3 (h1.ev rfl) (rdF ef_i64 hp0_0 (range_at hdF_slices_Equal_int_L1) h2) rfl) ?_
      refine Tq.val (wn rfl) rfl (fun _ _ h1 h2 => run_move (h1.ev rfl)) ?_
      refine Tq.val (wn rfl) rfl (fun _ _ h1 h2 => run_move (h1.ev rfl)) ?_
      obtain ⟨x103, hx103, H⟩ := bnd H
      obtain ⟨hx1030, hx1031, hx1032⟩ := idx_some hx103
      refine Tq.val (wn rfl) rfl (fun _ _ h1 h2 => run_indexAddr el_89 (h1.ev rfl) hp1_0.form (h1.ev rfl) hx1030 hx1031) ?_
      refine Tq.val (wn rfl) rfl (fun _ _ h1 h2 => run_load1 ag_3 (h1.ev rfl) (rdF ef_i64 hp1_0 hx1032 h2) rfl) ?_
      refine Tq.val (wn rfl) rfl (fun _ _ h1 h2 => run_neq (h1.ev rfl) (h1.ev rfl)) ?_
      refine Tq.nil (Tr.normThen ?_)
      refine Tr.cond rfl H (fun H => ?_) (fun H => ?_)
      · refine Tr.seq ?_
        refine Tr.region ?_
        refine Tr.val (wn rfl) rfl (fun _ _ h1 h2 => run_assign (h1.ev rfl)) ?_
        refine Tr.nil (Tr.normThen ?_)
        refine Tr.ret (Tr.retBlock (Tr.retThen (Tr.retThen (Tr.retBlock (Tr.retThen ?_)))))
        obtain rfl := Option.some.inj H
        exact Tr.out (m := [(.bool false)]) [] (res_tmp rfl res_nil) (fun W hW => ⟨rfl, hW.low leB⟩)
      · refine Tr.skip (Tr.normBlock (Tr.normThen ?_))
        refine Tr.region ?_
        refine Tr.val (wn rfl) rfl (fun _ _ h1 h2 => run_add (h1.ev rfl) (h1.ev rfl)) ?_
        refine Tr.val (wn rfl) rfl (fun _ _ h1 h2 => run_move (h1.ev rfl)) ?_
        refine Tr.nil ?_
        exact Tr.backThen leF_slices_Equal_int_L1 (restF_slices_Equal_int_L1, (iF_slices_Equal_int_L1 + 1)) ⟨rfl, range_tl hdF_slices_Equal_int_L1, range_lt hdF_slices_Equal_int_L1, H⟩ (.cons rfl (.cons rfl (.cons rfl (.cons (congrArg (fun z => some (Value.int .i64 z)) (range_up hdF_slices_Equal_int_L1 hp0_0.form)) .nil)))) .nil

theorem F_shape_Set__push_ok {w : Bs} (p0 : (List TBand)) (Ap0_0 : Option Addr) (cp0_0 : Nat) (p1 : TBand) (Ap1_0 : Option Addr) (cp1_0 : Nat) (hp1_0 : Sl w.O w.W fl_i64 Ap1_0 cp1_0 p1.Xs) (r : (List TBand)) (H : F_shape_Set__push p0 p1 = some r) (hE : HF w w.W (LEn [ow Ap0_0 cp0_0 96 fl_TBand p0])) : Calls Try.prog 90 [(.slice Ap0_0 (p0).length cp0_0), (.agg #[(.int .i64 p1.Y0), (.int .i64 p1.Y1), (.slice Ap1_0 (p1.Xs).length cp1_0)])].toArray w.W fun e W' => ∃ (w' : Bs) (u : (Option Addr × Nat)), w.Le w' ∧ e = .returned (.slice u.1 (r).length u.2) ∧ (SlF u.1 (r).length u.2) ∧ HF w' W' (LEn [ow u.1 u.2 96 fl_TBand r]) := by
  unfold F_shape_Set__push at H
  have hfhp0_0 := (hE.sl (k := 0) rfl).form
  have leB := Bs.Le.refl w
  refine Tr.enter (n := 54) Try.func90 rfl rfl rfl hE ?_
  refine Tr.seq ?_
  refine Tr.region ?_
  refine Tr.box 1 (cs := [(.int .i64 p1.Y0), (.int .i64 p1.Y1), (.slice Ap1_0 (p1.Xs).length cp1_0)]) (wn rfl) rfl rfl rfl fun b100 => ?_
  refine Tr.val (wn rfl) rfl (fun _ _ h1 h2 => run_assign (h1.ev rfl)) ?_
  refine Tr.nilOwn 2 96 fl_TBand ?_
  show Tr _ _ (uf _ 4 (.slice none (([] : List TBand)).length 0)) _ _
  refine Tr.nil (Tr.normThen ?_)
  refine Tr.seq ?_
  refine Tr.seq ?_
  refine Tr.region ?_
  refine Tr.val (wn rfl) rfl (fun _ _ h1 h2 => run_fieldAddr fo_96_2 (h1.ev rfl)) ?_
  refine Tr.val (wn rfl) rfl (fun _ _ h1 h2 => run_load1 ag_89 (h1.ev rfl) (rdb h2 (vs := [(.int .i64 p1.Y0), (.int .i64 p1.Y1), (.slice Ap1_0 (p1.Xs).length cp1_0)]) (k := 1) rfl 2) rfl) ?_
  refine Tr.val (wn rfl) rfl (fun _ _ h1 h2 => run_len un_89 (h1.ev rfl)) ?_
  refine Tr.val (wn rfl) rfl (fun _ _ h1 h2 => run_eql (h1.ev rfl) (h1.ev rfl)) ?_
  refine Tr.val (wn rfl) rfl (fun _ _ h1 h2 => run_move (h1.ev rfl)) ?_
  refine Tr.mid0 6 [(0, (.slice Ap0_0 (p0).length cp0_0)), (3, (.pointer (some ⟨b100, 0, none⟩))), (16, (.bool (((p1.Xs.length : Int) == 0) || (decide (p1.Y1 ≤ p1.Y0)))))] [(0, ow Ap0_0 cp0_0 96 fl_TBand p0), (1, bx b100 #[(.int .i64 p1.Y0), (.int .i64 p1.Y1), (.slice Ap1_0 (p1.Xs).length cp1_0)] 96), (2, ow none 0 96 fl_TBand ([] : List TBand))] ?_ ?_
  · cases hg114 : ((p1.Xs.length : Int) == 0)
    · refine Tr.val (wg rfl rfl rfl) rfl (fun _ _ h1 h2 => run_fieldAddr fo_96_1 (h1.ev rfl)) ?_
      refine Tr.val (wg rfl rfl rfl) rfl (fun _ _ h1 h2 => run_load1 ag_3 (h1.ev rfl) (rdb h2 (vs := [(.int .i64 p1.Y0), (.int .i64 p1.Y1), (.slice Ap1_0 (p1.Xs).length cp1_0)]) (k := 1) rfl 1) rfl) ?_
      refine Tr.val (wg rfl rfl rfl) rfl (fun _ _ h1 h2 => run_fieldAddr fo_96_0 (h1.ev rfl)) ?_
      refine Tr.val (wg rfl rfl rfl) rfl (fun _ _ h1 h2 => run_load1 ag_3 (h1.ev rfl) (rdb h2 (vs := [(.int .i64 p1.Y0), (.int .i64 p1.Y1), (.slice Ap1_0 (p1.Xs).length cp1_0)]) (k := 1) rfl 0) rfl) ?_
      refine Tr.val (wg rfl rfl rfl) rfl (fun _ _ h1 h2 => run_leq (h1.ev rfl) (h1.ev rfl)) ?_
      refine Tr.val (wn rfl) rfl (fun _ _ h1 h2 => run_pickF (h1.ev rfl) (h1.ev rfl)) ?_
      exact Tr.nil (Tr.fin0 (.cons rfl (.cons rfl (.cons rfl .nil))) (.cons rfl (.cons rfl (.cons rfl .nil))))
    · refine Tr.pass rfl rfl rfl rfl rfl (by decide) ?_
      refine Tr.pass rfl rfl rfl rfl rfl (by decide) ?_
      refine Tr.pass rfl rfl rfl rfl rfl (by decide) ?_
      refine Tr.pass rfl rfl rfl rfl rfl (by decide) ?_
      refine Tr.pass rfl rfl rfl rfl rfl (by decide) ?_
      refine Tr.val (wn rfl) rfl (fun _ _ h1 h2 => run_pickT (h1.ev rfl) (h1.ev rfl)) ?_
      exact Tr.nil (Tr.fin0 (.cons rfl (.cons rfl (.cons rfl .nil))) (.cons rfl (.cons rfl (.cons rfl .nil))))
  · show Tr _ _ (LF [(0, (.slice Ap0_0 (p0).length cp0_0)), (3, (.pointer (some ⟨b100, 0, none⟩))), (16, (.bool (((p1.Xs.length : Int) == 0) || (decide (p1.Y1 ≤ p1.Y0)))))]) (LE [(0, ow Ap0_0 cp0_0 96 fl_TBand p0), (1, bx b100 #[(.int .i64 p1.Y0), (.int .i64 p1.Y1), (.slice Ap1_0 (p1.Xs).length cp1_0)] 96), (2, ow none 0 96 fl_TBand ([] : List TBand))]) _
    refine Tr.nil (Tr.normThen ?_)
    refine Tr.cond rfl H (fun H => ?_) (fun H => ?_)
    · refine Tr.seq ?_
      refine Tr.region ?_
      refine Tr.val (wn rfl) rfl (fun _ _ h1 h2 => run_move (h1.ev rfl)) ?_
      refine Tr.val (wn rfl) rfl (fun _ _ h1 h2 => run_assign (h1.ev rfl)) ?_
      refine Tr.nil (Tr.normThen ?_)
      refine Tr.ret (Tr.retThen ?_)
      obtain rfl := Option.some.inj H
      exact Tr.out (m := [(.slice Ap0_0 (p0).length cp0_0)]) [] (res_tmp rfl res_nil) (fun W hW => ⟨w, (Ap0_0, cp0_0), leB, rfl, hfhp0_0, hW.pick (ks := [0]) (by decide) (pk_cons rfl pk_nil)⟩)
    · refine Tr.skip (Tr.normThen ?_)
      refine Tr.seq ?_
      refine Tr.seq ?_
      refine Tr.region ?_
      refine Tr.val (wn rfl) rfl (fun _ _ h1 h2 => run_move (h1.ev rfl)) ?_
      refine Tr.val (wn rfl) rfl (fun _ _ h1 h2 => run_len un_66 (h1.ev rfl)) ?_
      refine Tr.val (wn rfl) rfl (fun _ _ h1 h2 => run_sub (h1.ev rfl) (h1.ev rfl)) ?_
      refine Tr.val (wn rfl) rfl (fun _ _ h1 h2 => run_assign (h1.ev rfl)) ?_
      refine Tr.nil (Tr.normThen ?_)
      refine Tr.seq ?_
      refine Tr.draw (by kernel_rfl) (by kernel_rfl) ?_
      refine Tq.val (wn rfl) rfl (fun _ _ h1 h2 => run_move (h1.ev rfl)) ?_
      refine Tq.val (wn rfl) rfl (fun _ _ h1 h2 => run_geq (h1.ev rfl) (h1.ev rfl)) ?_
      refine Tq.val (wn rfl) rfl (fun _ _ h1 h2 => run_move (h1.ev rfl)) ?_
      obtain ⟨g102, hg102, H⟩ := bnd H
      refine Tq.mid 9 [(0, (.slice Ap0_0 (p0).length cp0_0)), (3, (.pointer (some ⟨b100, 0, none⟩))), (5, (.int .i64 (w64 ((p0.length : Int) - 1)))), (32, (.bool g102))] ?_ ?_
      · cases hg114 : (decide (0 ≤ (w64 ((p0.length : Int) - 1))))
        · rw [hg114] at hg102
          rw [if_neg (by decide)] at hg102
          have H := hg102
          obtain rfl := Option.some.inj H
          refine Tq.pass rfl rfl rfl rfl rfl (by decide) ?_
          refine Tq.pass rfl rfl rfl rfl rfl (by decide) ?_
          refine Tq.pass rfl rfl rfl rfl rfl (by decide) ?_
          refine Tq.pass rfl rfl rfl rfl rfl (by decide) ?_
          refine Tq.pass rfl rfl rfl rfl rfl (by decide) ?_
          refine Tq.pass rfl rfl rfl rfl rfl (by decide) ?_
          refine Tq.pass rfl rfl rfl rfl rfl (by decide) ?_
          refine Tq.pass rfl rfl rfl rfl rfl (by decide) ?_
          refine Tq.val (wn rfl) rfl (fun _ _ h1 h2 => run_pickF (h1.ev rfl) (h1.ev rfl)) ?_
          exact Tq.fin (.cons rfl (.cons rfl (.cons rfl (.cons rfl .nil))))
        · rw [hg114] at hg102
          rw [if_pos rfl] at hg102
          have H := hg102
          refine Tq.val (wg rfl rfl rfl) rfl (fun _ _ h1 h2 => run_move (h1.ev rfl)) ?_
          refine Tq.val (wg rfl rfl rfl) rfl (fun _ _ h1 h2 => run_move (h1.ev rfl)) ?_
          obtain ⟨x103, hx103, H⟩ := bnd H
          obtain ⟨hx1030, hx1031, hx1032⟩ := idx_some hx103
          refine Tq.val (wg rfl rfl rfl) rfl (fun _ _ h1 h2 => run_indexAddr el_66 (h1.ev rfl) hfhp0_0 (h1.ev rfl) hx1030 hx1031) ?_
          refine Tq.val (wg rfl rfl rfl) rfl (fun _ _ h1 h2 => run_fieldAddr fo_96_1 (h1.ev rfl)) ?_
          refine Tq.val (wg rfl rfl rfl) rfl (fun _ _ h1 h2 => (HF.atN (k := 0) h2 rfl hx1032).elim fun u hu => run_load1 ag_3 (h1.ev rfl) (hu.2.drop 1) rfl) ?_
          refine Tq.val (wg rfl rfl rfl) rfl (fun _ _ h1 h2 => run_fieldAddr fo_96_0 (h1.ev rfl)) ?_
          refine Tq.val (wg rfl rfl rfl) rfl (fun _ _ h1 h2 => run_load1 ag_3 (h1.ev rfl) (rdb h2 (vs := [(.int .i64 p1.Y0), (.int .i64 p1.Y1), (.slice Ap1_0 (p1.Xs).length cp1_0)]) (k := 1) rfl 0) rfl) ?_
          refine Tq.val (wg rfl rfl rfl) rfl (fun _ _ h1 h2 => run_eql (h1.ev rfl) (h1.ev rfl)) ?_
          refine Tq.val (wn rfl) rfl (fun _ _ h1 h2 => run_pickT (h1.ev rfl) (h1.ev rfl)) ?_
          obtain rfl := Option.some.inj H
          exact Tq.fin (.cons rfl (.cons rfl (.cons rfl (.cons rfl .nil))))
      · refine Tq.val (wn rfl) rfl (fun _ _ h1 h2 => run_move (h1.ev rfl)) ?_
        obtain ⟨g107, hg107, H⟩ := bnd H
        refine Tq.mid 9 [(0, (.slice Ap0_0 (p0).length cp0_0)), (3, (.pointer (some ⟨b100, 0, none⟩))), (5, (.int .i64 (w64 ((p0.length : Int) - 1)))), (42, (.bool g107))] ?_ ?_
        · cases hg114 : g102
          · rw [hg114] at hg107
            rw [if_neg (by decide)] at hg107
            have H := hg107
            obtain rfl := Option.some.inj H
            refine Tq.pass rfl rfl rfl rfl rfl (by decide) ?_
            refine Tq.pass rfl rfl rfl rfl rfl (by decide) ?_
            refine Tq.pass rfl rfl rfl rfl rfl (by decide) ?_
            refine Tq.pass rfl rfl rfl rfl rfl (by decide) ?_
            refine Tq.pass rfl rfl rfl rfl rfl (by decide) ?_
            refine Tq.pass rfl rfl rfl rfl rfl (by decide) ?_
            refine Tq.pass rfl rfl rfl rfl rfl (by decide) ?_
            refine Tq.pass rfl rfl rfl rfl rfl (by decide) ?_
            refine Tq.val (wn rfl) rfl (fun _ _ h1 h2 => run_pickF (h1.ev rfl) (h1.ev rfl)) ?_
            exact Tq.fin (.cons rfl (.cons rfl (.cons rfl (.cons rfl .nil))))
          · rw [hg114] at hg107
            rw [if_pos rfl] at hg107
            have H := hg107
            refine Tq.val (wg rfl rfl rfl) rfl (fun _ _ h1 h2 => run_move (h1.ev rfl)) ?_
            refine Tq.val (wg rfl rfl rfl) rfl (fun _ _ h1 h2 => run_move (h1.ev rfl)) ?_
            obtain ⟨x108, hx108, H⟩ := bnd H
            obtain ⟨hx1080, hx1081, hx1082⟩ := idx_some hx108
            refine Tq.val (wg rfl rfl rfl) rfl (fun _ _ h1 h2 => run_indexAddr el_66 (h1.ev rfl) hfhp0_0 (h1.ev rfl) hx1080 hx1081) ?_
            refine Tq.val (wg rfl rfl rfl) rfl (fun _ _ h1 h2 => run_fieldAddr fo_96_2 (h1.ev rfl)) ?_
            refine Tq.valE (U := (fl_TBand).Ad) (fun u => (fl_TBand).ok w.O w.W u x108) (fun u => (.slice u.1 (x108.Xs).length u.2)) (wg rfl rfl rfl) rfl (ldN (κ := 0) (t := fl_TBand) (V := fun u => (.slice u.1 (x108.Xs).length u.2)) rfl hx1082 (fun _ _ u h1 hc => run_load1 ag_89 (h1.ev rfl) (hc.drop 2) rfl)) ?_
            intro u109 hoku109
            obtain ⟨Au109_0, cu109_0⟩ := u109
            have hoku109_0 := hoku109
            replace hoku109_0 : Sl w.O w.W fl_i64 Au109_0 cu109_0 x108.Xs := hoku109_0
            show Tq _ _ _ _ (uf _ 38 (.slice Au109_0 (x108.Xs).length cu109_0)) _ _ _
            refine Tq.val (wg rfl rfl rfl) rfl (fun _ _ h1 h2 => run_fieldAddr fo_96_2 (h1.ev rfl)) ?_
            refine Tq.val (wg rfl rfl rfl) rfl (fun _ _ h1 h2 => run_load1 ag_89 (h1.ev rfl) (rdb h2 (vs := [(.int .i64 p1.Y0), (.int .i64 p1.Y1), (.slice Ap1_0 (p1.Xs).length cp1_0)]) (k := 1) rfl 2) rfl) ?_
            obtain ⟨y110, hy110, H⟩ := bnd H
            refine Tq.call0 (r := (.bool y110)) (wg rfl rfl rfl) rfl Try.call116 (evl_cons rfl (evl_cons rfl evl_nil)) (fun W hW => F_slices_Equal_int_ok x108.Xs Au109_0 cu109_0 (hoku109_0.rl.ext hW.extAll) p1.Xs Ap1_0 cp1_0 (hp1_0.rl.ext hW.extAll) y110 hy110 (HF.start _)) ?_
            refine Tq.val (wn rfl) rfl (fun _ _ h1 h2 => run_pickT (h1.ev rfl) (h1.ev rfl)) ?_
            obtain rfl := Option.some.inj H
            exact Tq.fin (.cons rfl (.cons rfl (.cons rfl (.cons rfl .nil))))
        · refine Tq.nil (Tr.normThen ?_)
          refine Tr.cond rfl H (fun H => ?_) (fun H => ?_)
          · refine Tr.seq ?_
            refine Tr.region ?_
            refine Tr.val (wn rfl) rfl (fun _ _ h1 h2 => run_move (h1.ev rfl)) ?_
            refine Tr.val (wn rfl) rfl (fun _ _ h1 h2 => run_move (h1.ev rfl)) ?_
            refine Tr.val (wn rfl) rfl (fun _ _ h1 h2 => run_fieldAddr fo_96_1 (h1.ev rfl)) ?_
            refine Tr.val (wn rfl) rfl (fun _ _ h1 h2 => run_load1 ag_3 (h1.ev rfl) (rdb h2 (vs := [(.int .i64 p1.Y0), (.int .i64 p1.Y1), (.slice Ap1_0 (p1.Xs).length cp1_0)]) (k := 1) rfl 1) rfl) ?_
            obtain ⟨x111, hx111, H⟩ := bnd H
            obtain ⟨hx1110, hx1111, hx1112⟩ := idx_some hx111
            refine Tr.val (wn rfl) rfl (fun _ _ h1 h2 => run_indexAddr el_66 (h1.ev rfl) hfhp0_0 (h1.ev rfl) hx1110 hx1111) ?_
            refine Tr.val (wn rfl) rfl (fun _ _ h1 h2 => run_fieldAddr fo_96_1 (h1.ev rfl)) ?_
            obtain ⟨l112, hl112, H⟩ := bnd H
            have hnl112 := sets_len hl112
            refine Tr.storeEl 0 (t := fl_TBand) (l := p0) (i := (w64 ((p0.length : Int) - 1))) (fo := 1) (cs := [(.int .i64 p1.Y1)]) (TBand.mk x111.Y0 p1.Y1 x111.Xs) (wn rfl) rfl rfl rfl rfl rfl hx1112 sz_3 rfl (fun u hu => ⟨u, hu, rfl⟩) rfl hl112 ?_
            have hfl112 : SlF Ap0_0 (l112).length cp0_0 := by rw [hnl112]; exact hfhp0_0
            have hsl112 := hnl112.trans rfl
            refine Tr.sel (lf := [(0, (.slice Ap0_0 (l112).length cp0_0)), (3, (.pointer (some ⟨b100, 0, none⟩))), (5, (.int .i64 (w64 ((p0.length : Int) - 1)))), (42, (.bool g107)), (43, (.slice Ap0_0 (l112).length cp0_0)), (44, (.int .i64 (w64 ((p0.length : Int) - 1)))), (45, (.pointer (some ⟨b100, 1, none⟩))), (46, (.int .i64 p1.Y1))]) (le := [(0, ow Ap0_0 cp0_0 96 fl_TBand l112), (1, bx b100 #[(.int .i64 p1.Y0), (.int .i64 p1.Y1), (.slice Ap1_0 (p1.Xs).length cp1_0)] 96), (2, ow none 0 96 fl_TBand ([] : List TBand))]) (.cons (slenV rfl (by rw [hnl112])) (.cons rfl (.cons rfl (.cons rfl (.cons (slenV rfl (by rw [hnl112])) (.cons rfl (.cons rfl (.cons rfl .nil)))))))) (.cons rfl (.cons rfl (.cons rfl .nil))) ?_
            refine Tr.nil (Tr.normThen ?_)
            refine Tr.seq ?_
            refine Tr.region ?_
            refine Tr.val (wn rfl) rfl (fun _ _ h1 h2 => run_move (h1.ev rfl)) ?_
            refine Tr.val (wn rfl) rfl (fun _ _ h1 h2 => run_assign (h1.ev rfl)) ?_
            refine Tr.nil (Tr.normThen ?_)
            refine Tr.ret (Tr.retThen ?_)
            obtain rfl := Option.some.inj H
            exact Tr.out (m := [(.slice Ap0_0 (l112).length cp0_0)]) [] (res_tmp rfl res_nil) (fun W hW => ⟨w, (Ap0_0, cp0_0), leB, rfl, hfl112, hW.pick (ks := [0]) (by decide) (pk_cons rfl pk_nil)⟩)
          · refine Tr.skip (Tr.normThen ?_)
            refine Tr.seq ?_
            refine Tr.region ?_
            refine Tr.val (wn rfl) rfl (fun _ _ h1 h2 => run_move (h1.ev rfl)) ?_
            refine Tr.val (wn rfl) rfl (fun _ _ h1 h2 => run_loadN (cs := [(.int .i64 p1.Y0), (.int .i64 p1.Y1), (.slice Ap1_0 (p1.Xs).length cp1_0)]) ag_96 sz_96 (h1.ev rfl) (CellsAt.take (rdb h2 (vs := [(.int .i64 p1.Y0), (.int .i64 p1.Y1), (.slice Ap1_0 (p1.Xs).length cp1_0)]) (k := 1) rfl 0) 3) rfl) ?_
            refine Tr.buildSlice 3 (e := 96) (vs := [(0, (.agg #[(.int .i64 p1.Y0), (.int .i64 p1.Y1), (.slice Ap1_0 (p1.Xs).length cp1_0)]))]) (cs := [(.int .i64 p1.Y0), (.int .i64 p1.Y1), (.slice Ap1_0 (p1.Xs).length cp1_0)]) (wn rfl) rfl (evs_cons rfl evs_nil) (by kernel_rfl) fun b113 => ?_
            obtain ⟨l114, hl114, H⟩ := bnd H
            refine Tr.append 0 (t := fl_TBand) (l := p0) (l2 := [p1]) (wn rfl) rfl rfl rfl rfl (fun W hW => ⟨[[(.int .i64 p1.Y0), (.int .i64 p1.Y1), (.slice Ap1_0 (p1.Xs).length cp1_0)]], (.cons ⟨(Ap1_0, cp1_0), hp1_0, rfl⟩ .nil), rdb hW (vs := [(.int .i64 p1.Y0), (.int .i64 p1.Y1), (.slice Ap1_0 (p1.Xs).length cp1_0)]) (k := 3) rfl 0⟩) un_66 sz_96 zl_96 (by decide) by_96 rfl hl114 fun Al114 cl114 hAl114 => ?_
            refine Tr.val (wn rfl) rfl (fun _ _ h1 h2 => run_assign (h1.ev rfl)) ?_
            refine Tr.nil (Tr.normThen ?_)
            refine Tr.ret ?_
            obtain rfl := Option.some.inj H
            exact Tr.out (m := [(.slice Al114 (l114).length cl114)]) [] (res_tmp rfl res_nil) (fun W hW => ⟨w, (Al114, cl114), leB, rfl, hAl114, hW.pick (ks := [0]) (by decide) (pk_cons rfl pk_nil)⟩)

end Go.Proofs.Ytcebbfodkadggaa
