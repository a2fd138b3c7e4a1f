/- The walks: each function computes its plain function. -/
import Derived.Test.YtnlhigfglfahiaaXF
namespace Go.Proofs.Ytnlhigfglfahiaa
open Go.RowKit
set_option maxRecDepth 100000
set_option maxHeartbeats 1000000
theorem F_shape_within_ok {w : Bs} (p0 : Int) (p1 : Int) (p2 : Int) (r : Bool) (H : F_shape_within p0 p1 p2 = some r) (hE : HF w w.W E0) : Calls Try.prog 45 [(.int .i64 p0), (.int .i64 p1), (.int .i64 p2)].toArray w.W fun e W' => e = .returned (.bool r) ∧ HF w W' E0 := by
 unfold F_shape_within at H
 have leB := Bs.Le.refl w
 refine Tr.enter (n := 15) Try.func45 rfl rfl rfl hE ?_
 refine Tr.sr ?_
 refine Tr.asg rfl rfl ?_
 refine Tr.nil (Tr.normThen ?_)
 refine Tr.sr ?_
 refine Tr.mv rfl rfl ?_
 refine Tr.mv rfl rfl ?_
 refine Tr.va rfl (fun _ _ h1 h2 => run_geq (h1.ev rfl) (h1.ev rfl)) ?_
 refine Tr.mv rfl rfl ?_
 refine Tr.mid0 4 [(14, (.bool ((decide (p1 ≤ p0)) && (decide (p0 ≤ p2)))))] [] ?_ ?_
 ·cases hg99 : (decide (p1 ≤ p0))
  ·refine Tr.pass rfl rfl rfl rfl rfl (by decide) ?_
   refine Tr.pass rfl rfl rfl rfl rfl (by decide) ?_
   refine Tr.pass rfl rfl rfl rfl rfl (by decide) ?_
   refine Tr.va rfl (fun _ _ h1 h2 => run_pickF (h1.ev rfl) (h1.ev rfl)) ?_
   exact Tr.nil (Tr.fin0 (.cons rfl .nil) .nil)
  ·refine Tr.val (wg rfl rfl rfl) rfl (fun _ _ h1 h2 => run_move (h1.ev rfl)) ?_
   refine Tr.val (wg rfl rfl rfl) rfl (fun _ _ h1 h2 => run_move (h1.ev rfl)) ?_
   refine Tr.val (wg rfl rfl rfl) rfl (fun _ _ h1 h2 => run_leq (h1.ev rfl) (h1.ev rfl)) ?_
   refine Tr.va rfl (fun _ _ h1 h2 => run_pickT (h1.ev rfl) (h1.ev rfl)) ?_
   exact Tr.nil (Tr.fin0 (.cons rfl .nil) .nil)
 ·show Tr _ _ (LF [(14, (.bool ((decide (p1 ≤ p0)) && (decide (p0 ≤ p2)))))]) (LE []) _
  refine Tr.asg rfl rfl ?_
  refine Tr.nil (Tr.normThen ?_)
  refine Tr.ret ?_
  obtain rfl := Option.some.inj H
  exact Tr.out (m := [(.bool ((decide (p1 ≤ p0)) && (decide (p0 ≤ p2))))]) [] (res_tmp rfl res_nil) (fun W hW => ⟨rfl, hW.low leB⟩)

theorem F_shape_IsAt_ok {w : Bs} (p0 : Int) (r : Bool) (H : F_shape_IsAt p0 = some r) (hE : HF w w.W E0) : Calls Try.prog 106 [(.int .i64 p0)].toArray w.W fun e W' => e = .returned (.bool r) ∧ HF w W' E0 := by
 unfold F_shape_IsAt at H
 have leB := Bs.Le.refl w
 refine Tr.enter (n := 5) Try.func106 rfl rfl rfl hE ?_
 refine Tr.sr ?_
 refine Tr.asg rfl rfl ?_
 refine Tr.nil (Tr.normThen ?_)
 refine Tr.sr ?_
 refine Tr.mv rfl rfl ?_
 obtain ⟨y100, hy100, H⟩ := bnd H
 refine Tr.call0 (r := (.bool y100)) (wn rfl) rfl Try.call45 (evl_cons rfl (evl_cons rfl (evl_cons rfl evl_nil))) (fun W hW => F_shape_within_ok p0 (-1000000) 1000000 y100 hy100 (HF.start _)) ?_
 refine Tr.asg rfl rfl ?_
 refine Tr.nil (Tr.normThen ?_)
 refine Tr.ret ?_
 obtain rfl := Option.some.inj H
 exact Tr.out (m := [(.bool y100)]) [] (res_tmp rfl res_nil) (fun W hW => ⟨rfl, hW.low leB⟩)

theorem F_shape_isRect_ok {w : Bs} (p0 : TRect) (r : Bool) (H : F_shape_isRect p0 = some r) (hE : HF w w.W E0) : Calls Try.prog 69 [(.agg #[(.int .i64 p0.X0), (.int .i64 p0.Y0), (.int .i64 p0.X1), (.int .i64 p0.Y1)])].toArray w.W fun e W' => e = .returned (.bool r) ∧ HF w W' E0 := by
 unfold F_shape_isRect at H
 have leB := Bs.Le.refl w
 refine Tr.enter (n := 21) Try.func69 rfl rfl rfl hE ?_
 refine Tr.sr ?_
 refine Tr.box 1 (cs := [(.int .i64 p0.X0), (.int .i64 p0.Y0), (.int .i64 p0.X1), (.int .i64 p0.Y1)]) (wn rfl) rfl rfl rfl fun b100 => ?_
 refine Tr.asg rfl rfl ?_
 refine Tr.nil (Tr.normThen ?_)
 refine Tr.sr ?_
 refine Tr.va rfl (fun _ _ h1 h2 => run_fieldAddr fo_29_0 (h1.ev rfl)) ?_
 refine Tr.va rfl (fun _ _ h1 h2 => run_load1 ag_3 (h1.ev rfl) (rdb h2 (vs := [(.int .i64 p0.X0), (.int .i64 p0.Y0), (.int .i64 p0.X1), (.int .i64 p0.Y1)]) (k := 1) rfl 0) rfl) ?_
 obtain ⟨y101, hy101, H⟩ := bnd H
 refine Tr.call0 (r := (.bool y101)) (wn rfl) rfl Try.call106 (evl_cons rfl evl_nil) (fun W hW => F_shape_IsAt_ok p0.X0 y101 hy101 (HF.start _)) ?_
 refine Tr.mv rfl rfl ?_
 obtain ⟨g103, hg103, H⟩ := bnd H
 refine Tr.mid0 4 [(1, (.pointer (some ⟨b100, 0, none⟩))), (10, (.bool g103))] [(1, bx b100 #[(.int .i64 p0.X0), (.int .i64 p0.Y0), (.int .i64 p0.X1), (.int .i64 p0.Y1)] 29)] ?_ ?_
 ·cases hg110 : y101
  ·rw [hg110] at hg103
   rw [if_neg (by decide)] at hg103
   have H := hg103
   obtain rfl := Option.some.inj H
   refine Tr.pass rfl rfl rfl rfl rfl (by decide) ?_
   refine Tr.pass rfl rfl rfl rfl rfl (by decide) ?_
   refine Tr.pass rfl rfl rfl rfl rfl (by decide) ?_
   refine Tr.va rfl (fun _ _ h1 h2 => run_pickF (h1.ev rfl) (h1.ev rfl)) ?_
   exact Tr.nil (Tr.fin0 (.cons rfl (.cons rfl .nil)) (.cons rfl .nil))
  ·rw [hg110] at hg103
   rw [if_pos rfl] at hg103
   have H := hg103
   refine Tr.val (wg rfl rfl rfl) rfl (fun _ _ h1 h2 => run_fieldAddr fo_29_1 (h1.ev rfl)) ?_
   refine Tr.val (wg rfl rfl rfl) rfl (fun _ _ h1 h2 => run_load1 ag_3 (h1.ev rfl) (rdb h2 (vs := [(.int .i64 p0.X0), (.int .i64 p0.Y0), (.int .i64 p0.X1), (.int .i64 p0.Y1)]) (k := 1) rfl 1) rfl) ?_
   obtain ⟨y104, hy104, H⟩ := bnd H
   refine Tr.call0 (r := (.bool y104)) (wg rfl rfl rfl) rfl Try.call106 (evl_cons rfl evl_nil) (fun W hW => F_shape_IsAt_ok p0.Y0 y104 hy104 (HF.start _)) ?_
   refine Tr.va rfl (fun _ _ h1 h2 => run_pickT (h1.ev rfl) (h1.ev rfl)) ?_
   obtain rfl := Option.some.inj H
   exact Tr.nil (Tr.fin0 (.cons rfl (.cons rfl .nil)) (.cons rfl .nil))
 ·show Tr _ _ (LF [(1, (.pointer (some ⟨b100, 0, none⟩))), (10, (.bool g103))]) (LE [(1, bx b100 #[(.int .i64 p0.X0), (.int .i64 p0.Y0), (.int .i64 p0.X1), (.int .i64 p0.Y1)] 29)]) _
  refine Tr.mv rfl rfl ?_
  obtain ⟨g106, hg106, H⟩ := bnd H
  refine Tr.mid0 4 [(1, (.pointer (some ⟨b100, 0, none⟩))), (15, (.bool g106))] [(1, bx b100 #[(.int .i64 p0.X0), (.int .i64 p0.Y0), (.int .i64 p0.X1), (.int .i64 p0.Y1)] 29)] ?_ ?_
  ·cases hg110 : g103
   ·rw [hg110] at hg106
    rw [if_neg (by decide)] at hg106
    have H := hg106
    obtain rfl := Option.some.inj H
    refine Tr.pass rfl rfl rfl rfl rfl (by decide) ?_
    refine Tr.pass rfl rfl rfl rfl rfl (by decide) ?_
    refine Tr.pass rfl rfl rfl rfl rfl (by decide) ?_
    refine Tr.va rfl (fun _ _ h1 h2 => run_pickF (h1.ev rfl) (h1.ev rfl)) ?_
    exact Tr.nil (Tr.fin0 (.cons rfl (.cons rfl .nil)) (.cons rfl .nil))
   ·rw [hg110] at hg106
    rw [if_pos rfl] at hg106
    have H := hg106
    refine Tr.val (wg rfl rfl rfl) rfl (fun _ _ h1 h2 => run_fieldAddr fo_29_2 (h1.ev rfl)) ?_
    refine Tr.val (wg rfl rfl rfl) rfl (fun _ _ h1 h2 => run_load1 ag_3 (h1.ev rfl) (rdb h2 (vs := [(.int .i64 p0.X0), (.int .i64 p0.Y0), (.int .i64 p0.X1), (.int .i64 p0.Y1)]) (k := 1) rfl 2) rfl) ?_
    obtain ⟨y107, hy107, H⟩ := bnd H
    refine Tr.call0 (r := (.bool y107)) (wg rfl rfl rfl) rfl Try.call106 (evl_cons rfl evl_nil) (fun W hW => F_shape_IsAt_ok p0.X1 y107 hy107 (HF.start _)) ?_
    refine Tr.va rfl (fun _ _ h1 h2 => run_pickT (h1.ev rfl) (h1.ev rfl)) ?_
    obtain rfl := Option.some.inj H
    exact Tr.nil (Tr.fin0 (.cons rfl (.cons rfl .nil)) (.cons rfl .nil))
  ·show Tr _ _ (LF [(1, (.pointer (some ⟨b100, 0, none⟩))), (15, (.bool g106))]) (LE [(1, bx b100 #[(.int .i64 p0.X0), (.int .i64 p0.Y0), (.int .i64 p0.X1), (.int .i64 p0.Y1)] 29)]) _
   refine Tr.mv rfl rfl ?_
   obtain ⟨g109, hg109, H⟩ := bnd H
   refine Tr.mid0 4 [(20, (.bool g109))] [(1, bx b100 #[(.int .i64 p0.X0), (.int .i64 p0.Y0), (.int .i64 p0.X1), (.int .i64 p0.Y1)] 29)] ?_ ?_
   ·cases hg110 : g106
    ·rw [hg110] at hg109
     rw [if_neg (by decide)] at hg109
     have H := hg109
     obtain rfl := Option.some.inj H
     refine Tr.pass rfl rfl rfl rfl rfl (by decide) ?_
     refine Tr.pass rfl rfl rfl rfl rfl (by decide) ?_
     refine Tr.pass rfl rfl rfl rfl rfl (by decide) ?_
     refine Tr.va rfl (fun _ _ h1 h2 => run_pickF (h1.ev rfl) (h1.ev rfl)) ?_
     exact Tr.nil (Tr.fin0 (.cons rfl .nil) (.cons rfl .nil))
    ·rw [hg110] at hg109
     rw [if_pos rfl] at hg109
     have H := hg109
     refine Tr.val (wg rfl rfl rfl) rfl (fun _ _ h1 h2 => run_fieldAddr fo_29_3 (h1.ev rfl)) ?_
     refine Tr.val (wg rfl rfl rfl) rfl (fun _ _ h1 h2 => run_load1 ag_3 (h1.ev rfl) (rdb h2 (vs := [(.int .i64 p0.X0), (.int .i64 p0.Y0), (.int .i64 p0.X1), (.int .i64 p0.Y1)]) (k := 1) rfl 3) rfl) ?_
     obtain ⟨y110, hy110, H⟩ := bnd H
     refine Tr.call0 (r := (.bool y110)) (wg rfl rfl rfl) rfl Try.call106 (evl_cons rfl evl_nil) (fun W hW => F_shape_IsAt_ok p0.Y1 y110 hy110 (HF.start _)) ?_
     refine Tr.va rfl (fun _ _ h1 h2 => run_pickT (h1.ev rfl) (h1.ev rfl)) ?_
     obtain rfl := Option.some.inj H
     exact Tr.nil (Tr.fin0 (.cons rfl .nil) (.cons rfl .nil))
   ·show Tr _ _ (LF [(20, (.bool g109))]) (LE [(1, bx b100 #[(.int .i64 p0.X0), (.int .i64 p0.Y0), (.int .i64 p0.X1), (.int .i64 p0.Y1)] 29)]) _
    refine Tr.asg rfl rfl ?_
    refine Tr.nil (Tr.normThen ?_)
    refine Tr.ret ?_
    obtain rfl := Option.some.inj H
    exact Tr.out (m := [(.bool g109)]) [] (res_tmp rfl res_nil) (fun W hW => ⟨rfl, hW.low leB⟩)

theorem F_shape_CheckRects_ok {w : Bs} (p0 : (List TRect)) (Ap0_0 : Option Addr) (cp0_0 : Nat) (hp0_0 : Sl w.R w.W fl_TRect Ap0_0 cp0_0 p0) (r : Int) (H : F_shape_CheckRects p0 = some r) (hE : HF w w.W E0) : Calls Try.prog 39 [(.slice Ap0_0 (p0).length cp0_0)].toArray w.W fun e W' => e = .returned (.int .i64 r) ∧ HF w W' E0 := by
 unfold F_shape_CheckRects at H
 have leB := Bs.Le.refl w
 refine Tr.enter (n := 30) Try.func39 rfl rfl rfl hE ?_
 refine Tr.sr ?_
 refine Tr.asg rfl rfl ?_
 refine Tr.nil (Tr.normThen ?_)
 refine Tr.seq ?_
 refine Tr.sr ?_
 refine Tr.mv rfl rfl ?_
 refine Tr.va rfl (fun _ _ h1 h2 => run_len un_22 (h1.ev rfl)) ?_
 refine Tr.va rfl (fun _ _ h1 h2 => run_gtr (h1.ev rfl) (h1.ev rfl)) ?_
 refine Tr.nil (Tr.normThen ?_)
 refine Tr.cond rfl H (fun H => ?_) (fun H => ?_)
 ·refine Tr.sr ?_
  refine Tr.asg rfl rfl ?_
  refine Tr.nil (Tr.normThen ?_)
  refine Tr.ret (Tr.retThen ?_)
  obtain rfl := Option.some.inj H
  exact Tr.out (m := [(.int .i64 2)]) [] (res_tmp rfl res_nil) (fun W hW => ⟨rfl, hW.low leB⟩)
 ·refine Tr.skip (Tr.normThen ?_)
  refine Tr.seq ?_
  refine Tr.sr ?_
  refine Tr.mv rfl rfl ?_
  refine Tr.va rfl (fun _ _ h1 h2 => run_len un_22 (h1.ev rfl)) ?_
  refine Tr.mv rfl rfl ?_
  refine Tr.nil (Tr.normThen ?_)
  refine Tr.block ?_
  refine Tr.loop (σ := (List TRect) × Nat) (fun m w s => m = s.1.length + 1 ∧ s.1 = List.drop s.2 p0 ∧ s.2 ≤ p0.length ∧ F_shape_CheckRects_L1 s.1 s.2 = some r) (fun s => [(8, (.slice Ap0_0 (p0).length cp0_0)), (9, (.int .i64 (p0.length : Int))), (10, (.int .i64 (s.2 : Int)))]) (fun s => []) (p0.length + 1) (p0, 0) ⟨rfl, rfl, Nat.zero_le _, H⟩ (.cons rfl (.cons rfl (.cons rfl .nil))) .nil (fun _ _ h => absurd h.1 (by simp)) ?_
  intro w leF_shape_CheckRects_L1 m s hs
  obtain ⟨restF_shape_CheckRects_L1, iF_shape_CheckRects_L1⟩ := s
  obtain ⟨hmF_shape_CheckRects_L1, hdF_shape_CheckRects_L1, hiF_shape_CheckRects_L1, H⟩ := hs
  replace hdF_shape_CheckRects_L1 : restF_shape_CheckRects_L1 = List.drop iF_shape_CheckRects_L1 p0 := hdF_shape_CheckRects_L1
  replace H : F_shape_CheckRects_L1 restF_shape_CheckRects_L1 iF_shape_CheckRects_L1 = some r := H
  replace hmF_shape_CheckRects_L1 : m + 1 = restF_shape_CheckRects_L1.length + 1 := hmF_shape_CheckRects_L1
  replace hp0_0 := hp0_0.leR leF_shape_CheckRects_L1
  replace leB := leB.trans leF_shape_CheckRects_L1
  obtain rfl : m = restF_shape_CheckRects_L1.length := by omega
  clear hmF_shape_CheckRects_L1
  show Tr _ _ (LF [(8, (.slice Ap0_0 (p0).length cp0_0)), (9, (.int .i64 (p0.length : Int))), (10, (.int .i64 (iF_shape_CheckRects_L1 : Int)))]) (LE []) _
  cases restF_shape_CheckRects_L1 with
  | nil =>
   rw [F_shape_CheckRects_L1.eq_1] at H
   refine Tr.sr ?_
   refine Tr.va rfl (fun _ _ h1 h2 => run_lss (h1.ev rfl) (h1.ev rfl)) ?_
   refine Tr.nil (Tr.normThen ?_)
   refine Tr.seq ?_
   refine Tr.condF rfl (range_nil hdF_shape_CheckRects_L1) ?_
   refine Tr.exit (Tr.exitThen (Tr.exitThen (Tr.exitBlock (Tr.normThen ?_))))
   refine Tr.sr ?_
   refine Tr.asg rfl rfl ?_
   refine Tr.nil (Tr.normThen ?_)
   refine Tr.ret ?_
   obtain rfl := Option.some.inj H
   exact Tr.out (m := [(.int .i64 0)]) [] (res_tmp rfl res_nil) (fun W hW => ⟨rfl, hW.low leB⟩)
  | cons xF_shape_CheckRects_L1 restF_shape_CheckRects_L1 =>
   rw [F_shape_CheckRects_L1.eq_2] at H
   refine Tr.sr ?_
   refine Tr.va rfl (fun _ _ h1 h2 => run_lss (h1.ev rfl) (h1.ev rfl)) ?_
   refine Tr.nil (Tr.normThen ?_)
   refine Tr.seq ?_
   refine Tr.condT rfl (range_on hdF_shape_CheckRects_L1) ?_
   refine Tr.skip (Tr.normThen ?_)
   refine Tr.seq ?_
   refine Tr.block ?_
   refine Tr.sr ?_
   refine Tr.va rfl (fun _ _ h1 h2 => run_indexAddr el_22 (h1.ev rfl) hp0_0.form (h1.ev rfl) (Int.natCast_nonneg _) (range_lt hdF_shape_CheckRects_L1)) ?_
   refine Tr.va rfl (fun _ _ h1 h2 => run_loadN (cs := [(.int .i64 xF_shape_CheckRects_L1.X0), (.int .i64 xF_shape_CheckRects_L1.Y0), (.int .i64 xF_shape_CheckRects_L1.X1), (.int .i64 xF_shape_CheckRects_L1.Y1)]) ag_29 sz_29 (h1.ev rfl) (CellsAt.take (rdF ef_TRect hp0_0 (range_at hdF_shape_CheckRects_L1) h2) 4) rfl) ?_
   refine Tr.alloc 2 (wn rfl) rfl ze_29 fun b104 => ?_
   refine Tr.store 2 (cs := [(.int .i64 xF_shape_CheckRects_L1.X0), (.int .i64 xF_shape_CheckRects_L1.Y0), (.int .i64 xF_shape_CheckRects_L1.X1), (.int .i64 xF_shape_CheckRects_L1.Y1)]) [(.int .i64 xF_shape_CheckRects_L1.X0), (.int .i64 xF_shape_CheckRects_L1.Y0), (.int .i64 xF_shape_CheckRects_L1.X1), (.int .i64 xF_shape_CheckRects_L1.Y1)] (wn rfl) rfl rfl rfl rfl sz_29 rfl rfl rfl ?_
   refine Tr.nil (Tr.normThen ?_)
   refine Tr.seq ?_
   refine Tr.sr ?_
   refine Tr.va rfl (fun _ _ h1 h2 => run_loadN (cs := [(.int .i64 xF_shape_CheckRects_L1.X0), (.int .i64 xF_shape_CheckRects_L1.Y0), (.int .i64 xF_shape_CheckRects_L1.X1), (.int .i64 xF_shape_CheckRects_L1.Y1)]) ag_29 sz_29 (h1.ev rfl) (CellsAt.take (rdb h2 (vs := [(.int .i64 xF_shape_CheckRects_L1.X0), (.int .i64 xF_shape_CheckRects_L1.Y0), (.int .i64 xF_shape_CheckRects_L1.X1), (.int .i64 xF_shape_CheckRects_L1.Y1)]) (k := 2) rfl 0) 4) rfl) ?_
   obtain ⟨y105, hy105, H⟩ := bnd H
   refine Tr.call0 (r := (.bool y105)) (wn rfl) rfl Try.call69 (evl_cons rfl evl_nil) (fun W hW => F_shape_isRect_ok xF_shape_CheckRects_L1 y105 hy105 (HF.start _)) ?_
   refine Tr.va rfl (fun _ _ h1 h2 => run_not (h1.ev rfl)) ?_
   refine Tr.nil (Tr.normThen ?_)
   refine Tr.cond rfl H (fun H => ?_) (fun H => ?_)
   ·refine Tr.sr ?_
    refine Tr.asg rfl rfl ?_
    refine Tr.nil (Tr.normThen ?_)
    refine Tr.ret (Tr.retThen (Tr.retBlock (Tr.retThen (Tr.retThen (Tr.retBlock (Tr.retThen ?_))))))
    obtain rfl := Option.some.inj H
    exact Tr.out (m := [(.int .i64 1)]) [] (res_tmp rfl res_nil) (fun W hW => ⟨rfl, hW.low leB⟩)
   ·refine Tr.skip (Tr.normThen ?_)
    refine Tr.sr ?_
    refine Tr.va rfl (fun _ _ h1 h2 => run_fieldAddr fo_29_2 (h1.ev rfl)) ?_
    refine Tr.va rfl (fun _ _ h1 h2 => run_load1 ag_3 (h1.ev rfl) (rdb h2 (vs := [(.int .i64 xF_shape_CheckRects_L1.X0), (.int .i64 xF_shape_CheckRects_L1.Y0), (.int .i64 xF_shape_CheckRects_L1.X1), (.int .i64 xF_shape_CheckRects_L1.Y1)]) (k := 2) rfl 2) rfl) ?_
    refine Tr.va rfl (fun _ _ h1 h2 => run_fieldAddr fo_29_0 (h1.ev rfl)) ?_
    refine Tr.va rfl (fun _ _ h1 h2 => run_load1 ag_3 (h1.ev rfl) (rdb h2 (vs := [(.int .i64 xF_shape_CheckRects_L1.X0), (.int .i64 xF_shape_CheckRects_L1.Y0), (.int .i64 xF_shape_CheckRects_L1.X1), (.int .i64 xF_shape_CheckRects_L1.Y1)]) (k := 2) rfl 0) rfl) ?_
    refine Tr.va rfl (fun _ _ h1 h2 => run_leq (h1.ev rfl) (h1.ev rfl)) ?_
    refine Tr.mv rfl rfl ?_
    refine Tr.mid0 6 [(8, (.slice Ap0_0 (p0).length cp0_0)), (9, (.int .i64 (p0.length : Int))), (10, (.int .i64 (iF_shape_CheckRects_L1 : Int))), (28, (.bool ((decide (xF_shape_CheckRects_L1.X1 ≤ xF_shape_CheckRects_L1.X0)) || (decide (xF_shape_CheckRects_L1.Y1 ≤ xF_shape_CheckRects_L1.Y0)))))] [(2, bx b104 #[(.int .i64 xF_shape_CheckRects_L1.X0), (.int .i64 xF_shape_CheckRects_L1.Y0), (.int .i64 xF_shape_CheckRects_L1.X1), (.int .i64 xF_shape_CheckRects_L1.Y1)] 29)] ?_ ?_
    ·cases hg105 : (decide (xF_shape_CheckRects_L1.X1 ≤ xF_shape_CheckRects_L1.X0))
     ·refine Tr.val (wg rfl rfl rfl) rfl (fun _ _ h1 h2 => run_fieldAddr fo_29_3 (h1.ev rfl)) ?_
      refine Tr.val (wg rfl rfl rfl) rfl (fun _ _ h1 h2 => run_load1 ag_3 (h1.ev rfl) (rdb h2 (vs := [(.int .i64 xF_shape_CheckRects_L1.X0), (.int .i64 xF_shape_CheckRects_L1.Y0), (.int .i64 xF_shape_CheckRects_L1.X1), (.int .i64 xF_shape_CheckRects_L1.Y1)]) (k := 2) rfl 3) rfl) ?_
      refine Tr.val (wg rfl rfl rfl) rfl (fun _ _ h1 h2 => run_fieldAddr fo_29_1 (h1.ev rfl)) ?_
      refine Tr.val (wg rfl rfl rfl) rfl (fun _ _ h1 h2 => run_load1 ag_3 (h1.ev rfl) (rdb h2 (vs := [(.int .i64 xF_shape_CheckRects_L1.X0), (.int .i64 xF_shape_CheckRects_L1.Y0), (.int .i64 xF_shape_CheckRects_L1.X1), (.int .i64 xF_shape_CheckRects_L1.Y1)]) (k := 2) rfl 1) rfl) ?_
      refine Tr.val (wg rfl rfl rfl) rfl (fun _ _ h1 h2 => run_leq (h1.ev rfl) (h1.ev rfl)) ?_
      refine Tr.va rfl (fun _ _ h1 h2 => run_pickF (h1.ev rfl) (h1.ev rfl)) ?_
      exact Tr.nil (Tr.fin0 (.cons rfl (.cons rfl (.cons rfl (.cons rfl .nil)))) (.cons rfl .nil))
     ·refine Tr.pass rfl rfl rfl rfl rfl (by decide) ?_
      refine Tr.pass rfl rfl rfl rfl rfl (by decide) ?_
      refine Tr.pass rfl rfl rfl rfl rfl (by decide) ?_
      refine Tr.pass rfl rfl rfl rfl rfl (by decide) ?_
      refine Tr.pass rfl rfl rfl rfl rfl (by decide) ?_
      refine Tr.va rfl (fun _ _ h1 h2 => run_pickT (h1.ev rfl) (h1.ev rfl)) ?_
      exact Tr.nil (Tr.fin0 (.cons rfl (.cons rfl (.cons rfl (.cons rfl .nil)))) (.cons rfl .nil))
    ·show Tr _ _ (LF [(8, (.slice Ap0_0 (p0).length cp0_0)), (9, (.int .i64 (p0.length : Int))), (10, (.int .i64 (iF_shape_CheckRects_L1 : Int))), (28, (.bool ((decide (xF_shape_CheckRects_L1.X1 ≤ xF_shape_CheckRects_L1.X0)) || (decide (xF_shape_CheckRects_L1.Y1 ≤ xF_shape_CheckRects_L1.Y0)))))]) (LE [(2, bx b104 #[(.int .i64 xF_shape_CheckRects_L1.X0), (.int .i64 xF_shape_CheckRects_L1.Y0), (.int .i64 xF_shape_CheckRects_L1.X1), (.int .i64 xF_shape_CheckRects_L1.Y1)] 29)]) _
     refine Tr.nil (Tr.normThen ?_)
     refine Tr.cond rfl H (fun H => ?_) (fun H => ?_)
     ·refine Tr.sr ?_
      refine Tr.asg rfl rfl ?_
      refine Tr.nil (Tr.normThen ?_)
      refine Tr.ret (Tr.retBlock (Tr.retThen (Tr.retThen (Tr.retBlock (Tr.retThen ?_)))))
      obtain rfl := Option.some.inj H
      exact Tr.out (m := [(.int .i64 13)]) [] (res_tmp rfl res_nil) (fun W hW => ⟨rfl, hW.low leB⟩)
     ·refine Tr.skip (Tr.normBlock (Tr.normThen ?_))
      refine Tr.region ?_
      refine Tr.va rfl (fun _ _ h1 h2 => run_add (h1.ev rfl) (h1.ev rfl)) ?_
      refine Tr.mv rfl rfl ?_
      refine Tr.nil ?_
      exact Tr.backThen leF_shape_CheckRects_L1 (restF_shape_CheckRects_L1, (iF_shape_CheckRects_L1 + 1)) ⟨rfl, range_tl hdF_shape_CheckRects_L1, range_lt hdF_shape_CheckRects_L1, H⟩ (.cons rfl (.cons rfl (.cons (congrArg (fun z => some (Value.int .i64 z)) (range_up hdF_shape_CheckRects_L1 hp0_0.form)) .nil))) .nil

theorem F_slices_Clone_Rect_ok {w : Bs} (p0 : (List TRect)) (Ap0_0 : Option Addr) (cp0_0 : Nat) (hp0_0 : Sl w.R w.W fl_TRect Ap0_0 cp0_0 p0) (r : (List TRect)) (H : F_slices_Clone_Rect p0 = some r) (hE : HF w w.W (LEn [emp])) : Calls Try.prog 29 [(.slice Ap0_0 (p0).length cp0_0)].toArray w.W fun e W' => ∃ u : (Option Addr × Nat), e = .returned (.slice u.1 (r).length u.2) ∧ (SlF u.1 (r).length u.2) ∧ HF w W' (LEn [ow u.1 u.2 29 fl_TRect r]) := by
 unfold F_slices_Clone_Rect at H
 have leB := Bs.Le.refl w
 refine Tr.enter (n := 8) Try.func29 rfl rfl rfl hE ?_
 refine Tr.sr ?_
 refine Tr.asg rfl rfl ?_
 refine Tr.nilOwn 1 29 fl_TRect ?_
 show Tr _ _ (uf _ 2 (.slice none (([] : List TRect)).length 0)) _ _
 refine Tr.nil (Tr.normThen ?_)
 refine Tr.seq ?_
 refine Tr.sr ?_
 refine Tr.mv rfl rfl ?_
 refine Tr.va rfl (fun _ _ h1 h2 => run_eqlNil un_22 (h1.ev rfl) (h1.ev rfl)) ?_
 refine Tr.nil (Tr.normThen ?_)
 cases Ap0_0 with
 | none =>
  have hl0 := slf_none hp0_0.form
  replace H : (some ([] : List TRect)) = some r := by simpa [apd, hl0] using H
  refine Tr.condT rfl rfl ?_
  refine Tr.sr ?_
  refine Tr.asg rfl rfl ?_
  refine Tr.nilOwn 2 29 fl_TRect ?_
  show Tr _ _ (uf _ 2 (.slice none (([] : List TRect)).length 0)) _ _
  refine Tr.nil (Tr.normThen ?_)
  refine Tr.ret (Tr.retThen ?_)
  obtain rfl := Option.some.inj H
  exact Tr.out (m := [(.slice none (([] : List TRect)).length 0)]) [] (res_tmp rfl res_nil) (fun W hW => ⟨(none, 0), rfl, slf_nil, HF.lowE leB (hW.pick (ks := [2]) (by decide) (pk_cons rfl pk_nil)) ⟨ow_any _ _ _ _ tr_TRect, trivial⟩⟩)
 | some a102 =>
  refine Tr.condF rfl rfl ?_
  refine Tr.skip (Tr.normThen ?_)
  refine Tr.sr ?_
  refine Tr.buildSlice 3 (e := 29) (vs := []) (cs := []) (wn rfl) rfl evs_nil (by kernel_rfl) fun b100 => ?_
  refine Tr.mv rfl rfl ?_
  refine Tr.own 3 fl_TRect ([] : List TRect) (css := []) rfl .nil rfl (by decide) (lit_max rfl) ?_
  obtain ⟨l101, hl101, H⟩ := bnd H
  refine Tr.appendS 3 (t := fl_TRect) (l := ([] : List TRect)) (l2 := p0) (wn rfl) rfl rfl rfl rfl (apT tr_TRect (fun W hW => (Sl.inB hp0_0 hW))) un_22 sz_29 zl_29 (by decide) by_29 rfl hl101 fun Al101 cl101 hAl101 => ?_
  refine Tr.asg rfl rfl ?_
  refine Tr.nil (Tr.normThen ?_)
  refine Tr.ret ?_
  obtain rfl := Option.some.inj H
  exact Tr.out (m := [(.slice Al101 (l101).length cl101)]) [] (res_tmp rfl res_nil) (fun W hW => ⟨(Al101, cl101), rfl, hAl101, HF.lowE leB (hW.pick (ks := [3]) (by decide) (pk_cons rfl pk_nil)) ⟨ow_any _ _ _ _ tr_TRect, trivial⟩⟩)

theorem F_slices_SortFunc_TRect_ok {w : Bs} (p0 : List TRect) (Ap0_0 : Option Addr) (cp0_0 : Nat) (p1 : TRect → TRect → Option Int) (fid1 : Nat) (cap1 : List Value) (hg1 : ∀ args W, (callFunc fid1 args).run Try.prog W = .ok (.enter fid1 args) W) (hf1 : ∀ (w' : Bs), w.Ext w' → ∀ (z0 : TRect) (z1 : TRect), ∀ y, p1 z0 z1 = some y → Calls Try.prog fid1 (([(.agg #[(.int .i64 z0.X0), (.int .i64 z0.Y0), (.int .i64 z0.X1), (.int .i64 z0.Y1)]), (.agg #[(.int .i64 z1.X0), (.int .i64 z1.Y0), (.int .i64 z1.X1), (.int .i64 z1.Y1)])] : List Value) ++ cap1).toArray w'.W fun e W'' => e = .returned (.int .i64 y) ∧ HF w' W'' E0) (r : List TRect) (H : srtF p0 p1 = some r) (hE : HF w w.W (LEn [ow Ap0_0 cp0_0 29 fl_TRect p0])) : Calls Try.prog 70 [(.slice Ap0_0 (p0).length cp0_0), (.func (.func fid1) #[] cap1.toArray)].toArray w.W fun e W' => ∃ u : Unit, e = .returned (.tuple #[]) ∧ ((r).length = (p0).length) ∧ HF w W' (LEn [ow Ap0_0 cp0_0 29 fl_TRect r]) :=
 sortFunc_rule (ρ := Try.srt70_ren) Try.srt70 (fun _ => run_isAgg ag_29) (fun _ => run_sizeOf sz_29) ef_TRect tr_TRect () hg1 hf1 H hE

theorem F_shape_SetOf_1_ok {w : Bs} (p0 : TRect) (p1 : TRect) (r : Int) (H : F_shape_SetOf_1 p0 p1 = some r) (hE : HF w w.W E0) : Calls Try.prog 71 [(.agg #[(.int .i64 p0.X0), (.int .i64 p0.Y0), (.int .i64 p0.X1), (.int .i64 p0.Y1)]), (.agg #[(.int .i64 p1.X0), (.int .i64 p1.Y0), (.int .i64 p1.X1), (.int .i64 p1.Y1)])].toArray w.W fun e W' => e = .returned (.int .i64 r) ∧ HF w W' E0 := by
 unfold F_shape_SetOf_1 at H
 have leB := Bs.Le.refl w
 refine Tr.enter (n := 10) Try.func71 rfl rfl rfl hE ?_
 refine Tr.sr ?_
 refine Tr.box 1 (cs := [(.int .i64 p0.X0), (.int .i64 p0.Y0), (.int .i64 p0.X1), (.int .i64 p0.Y1)]) (wn rfl) rfl rfl rfl fun b100 => ?_
 refine Tr.box 2 (cs := [(.int .i64 p1.X0), (.int .i64 p1.Y0), (.int .i64 p1.X1), (.int .i64 p1.Y1)]) (wn rfl) rfl rfl rfl fun b101 => ?_
 refine Tr.asg rfl rfl ?_
 refine Tr.nil (Tr.normThen ?_)
 refine Tr.sr ?_
 refine Tr.va rfl (fun _ _ h1 h2 => run_fieldAddr fo_29_1 (h1.ev rfl)) ?_
 refine Tr.va rfl (fun _ _ h1 h2 => run_load1 ag_3 (h1.ev rfl) (rdb h2 (vs := [(.int .i64 p0.X0), (.int .i64 p0.Y0), (.int .i64 p0.X1), (.int .i64 p0.Y1)]) (k := 1) rfl 1) rfl) ?_
 refine Tr.va rfl (fun _ _ h1 h2 => run_fieldAddr fo_29_1 (h1.ev rfl)) ?_
 refine Tr.va rfl (fun _ _ h1 h2 => run_load1 ag_3 (h1.ev rfl) (rdb h2 (vs := [(.int .i64 p1.X0), (.int .i64 p1.Y0), (.int .i64 p1.X1), (.int .i64 p1.Y1)]) (k := 2) rfl 1) rfl) ?_
 refine Tr.va rfl (fun _ _ h1 h2 => run_sub (h1.ev rfl) (h1.ev rfl)) ?_
 refine Tr.asg rfl rfl ?_
 refine Tr.nil (Tr.normThen ?_)
 refine Tr.ret ?_
 obtain rfl := Option.some.inj H
 exact Tr.out (m := [(.int .i64 (w64 (p0.Y0 - p1.Y0)))]) [] (res_tmp rfl res_nil) (fun W hW => ⟨rfl, hW.low leB⟩)

theorem F_slices_Sort_int_ok {w : Bs} (p0 : List Int) (Ap0_0 : Option Addr) (cp0_0 : Nat) (r : List Int) (H : srtI p0 = some r) (hE : HF w w.W (LEn [ow Ap0_0 cp0_0 3 fl_i64 p0])) : Calls Try.prog 72 [(.slice Ap0_0 (p0).length cp0_0)].toArray w.W fun e W' => ∃ u : Unit, e = .returned (.tuple #[]) ∧ ((r).length = (p0).length) ∧ HF w W' (LEn [ow Ap0_0 cp0_0 3 fl_i64 r]) :=
 sortI_rule (ρ := Try.sort72_ren) Try.sort72 rfl ef_i64 tr_i64 () H hE

theorem F_slices_Compact_int_ok {w : Bs} (p0 : List Int) (Ap0_0 : Option Addr) (cp0_0 : Nat) (r : List Int) (H : cpI p0 = some r) (hE : HF w w.W (LEn [ow Ap0_0 cp0_0 3 fl_i64 p0])) : Calls Try.prog 73 [(.slice Ap0_0 (p0).length cp0_0)].toArray w.W fun e W' => ∃ u : (Option Addr × Nat), e = .returned (.slice u.1 (r).length u.2) ∧ (SlF u.1 (r).length u.2) ∧ HF w W' (LEn [ow u.1 u.2 3 fl_i64 r]) :=
 compactI_rule (ρ := Try.cmpc73_ren) Try.cmpc73 rfl ef_i64 tr_i64 () H hE

theorem F_shape_SetOf_2_ok {w : Bs} (p0 : TRect) (q0 : (List Int)) (Aq0_0 : Option Addr) (cq0_0 : Nat) (hq0_0 : Sl w.R w.W fl_i64 Aq0_0 cq0_0 q0) (bq0 : Nat) (hb0 : w.R bq0) (hc0 : CellsAt w.W bq0 0 [(.slice Aq0_0 (q0).length cq0_0)]) (q1 : Int) (bq1 : Nat) (hb1 : w.R bq1) (hc1 : CellsAt w.W bq1 0 [(.int .i64 q1)]) (r : Bool) (H : F_shape_SetOf_2 p0 q0 q1 = some r) (hE : HF w w.W E0) : Calls Try.prog 75 [(.agg #[(.int .i64 p0.X0), (.int .i64 p0.Y0), (.int .i64 p0.X1), (.int .i64 p0.Y1)]), (.pointer (some ⟨bq0, 0, none⟩)), (.pointer (some ⟨bq1, 0, none⟩))].toArray w.W fun e W' => e = .returned (.bool r) ∧ HF w W' E0 := by
 unfold F_shape_SetOf_2 at H
 have leB := Bs.Le.refl w
 refine Tr.enter (n := 12) Try.func75 rfl rfl rfl hE ?_
 refine Tr.sr ?_
 refine Tr.box 1 (cs := [(.int .i64 p0.X0), (.int .i64 p0.Y0), (.int .i64 p0.X1), (.int .i64 p0.Y1)]) (wn rfl) rfl rfl rfl fun b100 => ?_
 refine Tr.asg rfl rfl ?_
 refine Tr.nil (Tr.normThen ?_)
 refine Tr.seq ?_
 refine Tr.draw (by kernel_rfl) (by kernel_rfl) ?_
 refine Tq.va rfl (fun _ _ h1 h2 => run_fieldAddr fo_29_3 (h1.ev rfl)) ?_
 refine Tq.va rfl (fun _ _ h1 h2 => run_load1 ag_3 (h1.ev rfl) (rdb h2 (vs := [(.int .i64 p0.X0), (.int .i64 p0.Y0), (.int .i64 p0.X1), (.int .i64 p0.Y1)]) (k := 1) rfl 3) rfl) ?_
 refine Tq.va rfl (fun _ _ h1 h2 => run_load1 ag_97 (h1.ev rfl) (rdR hb0 hc0 h2) rfl) ?_
 refine Tq.va rfl (fun _ _ h1 h2 => run_load1 ag_3 (h1.ev rfl) (rdR hb1 hc1 h2) rfl) ?_
 obtain ⟨x101, hx101, H⟩ := bnd H
 obtain ⟨hx1010, hx1011, hx1012⟩ := idx_some hx101
 refine Tq.va rfl (fun _ _ h1 h2 => run_indexAddr el_97 (h1.ev rfl) hq0_0.form (h1.ev rfl) hx1010 hx1011) ?_
 refine Tq.va rfl (fun _ _ h1 h2 => run_load1 ag_3 (h1.ev rfl) (rdF ef_i64 hq0_0 hx1012 h2) rfl) ?_
 refine Tq.va rfl (fun _ _ h1 h2 => run_leq (h1.ev rfl) (h1.ev rfl)) ?_
 refine Tq.asg rfl rfl ?_
 refine Tq.nil (Tr.normThen ?_)
 refine Tr.ret ?_
 obtain rfl := Option.some.inj H
 exact Tr.out (m := [(.bool (decide (p0.Y1 ≤ x101)))]) [] (res_tmp rfl res_nil) (fun W hW => ⟨rfl, hW.low leB⟩)

theorem F_slices_IndexFunc_Rect_ok {w : Bs} (p0 : (List TRect)) (Ap0_0 : Option Addr) (cp0_0 : Nat) (hp0_0 : Sl w.R w.W fl_TRect Ap0_0 cp0_0 p0) (p1 : TRect → Option Bool) (fid1 : Nat) (cap1 : List Value) (hg1 : ∀ args W, (callFunc fid1 args).run Try.prog W = .ok (.enter fid1 args) W) (hf1 : ∀ (w' : Bs), w.Ext w' → ∀ (z0 : TRect), ∀ y, p1 z0 = some y → Calls Try.prog fid1 (([(.agg #[(.int .i64 z0.X0), (.int .i64 z0.Y0), (.int .i64 z0.X1), (.int .i64 z0.Y1)])] : List Value) ++ cap1).toArray w'.W fun e W'' => e = .returned (.bool y) ∧ HF w' W'' E0) (r : Int) (H : F_slices_IndexFunc_Rect p0 p1 = some r) (hE : HF w w.W E0) : Calls Try.prog 112 [(.slice Ap0_0 (p0).length cp0_0), (.func (.func fid1) #[] cap1.toArray)].toArray w.W fun e W' => e = .returned (.int .i64 r) ∧ HF w W' E0 := by
 unfold F_slices_IndexFunc_Rect at H
 have leB := Bs.Le.refl w
 refine Tr.enter (n := 19) Try.func112 rfl rfl rfl hE ?_
 refine Tr.sr ?_
 refine Tr.asg rfl rfl ?_
 refine Tr.nil (Tr.normThen ?_)
 refine Tr.seq ?_
 refine Tr.sr ?_
 refine Tr.mv rfl rfl ?_
 refine Tr.va rfl (fun _ _ h1 h2 => run_len un_22 (h1.ev rfl)) ?_
 refine Tr.mv rfl rfl ?_
 refine Tr.nil (Tr.normThen ?_)
 refine Tr.block ?_
 refine Tr.loop (σ := (List TRect) × Nat) (fun m w s => m = s.1.length + 1 ∧ s.1 = List.drop s.2 p0 ∧ s.2 ≤ p0.length ∧ F_slices_IndexFunc_Rect_L1 p1 s.1 s.2 = some r) (fun s => [(0, (.slice Ap0_0 (p0).length cp0_0)), (1, (.func (.func fid1) #[] cap1.toArray)), (7, (.int .i64 (p0.length : Int))), (8, (.int .i64 (s.2 : Int)))]) (fun s => []) (p0.length + 1) (p0, 0) ⟨rfl, rfl, Nat.zero_le _, H⟩ (.cons rfl (.cons rfl (.cons rfl (.cons rfl .nil)))) .nil (fun _ _ h => absurd h.1 (by simp)) ?_
 intro w leF_slices_IndexFunc_Rect_L1 m s hs
 obtain ⟨restF_slices_IndexFunc_Rect_L1, iF_slices_IndexFunc_Rect_L1⟩ := s
 obtain ⟨hmF_slices_IndexFunc_Rect_L1, hdF_slices_IndexFunc_Rect_L1, hiF_slices_IndexFunc_Rect_L1, H⟩ := hs
 replace hdF_slices_IndexFunc_Rect_L1 : restF_slices_IndexFunc_Rect_L1 = List.drop iF_slices_IndexFunc_Rect_L1 p0 := hdF_slices_IndexFunc_Rect_L1
 replace H : F_slices_IndexFunc_Rect_L1 p1 restF_slices_IndexFunc_Rect_L1 iF_slices_IndexFunc_Rect_L1 = some r := H
 replace hmF_slices_IndexFunc_Rect_L1 : m + 1 = restF_slices_IndexFunc_Rect_L1.length + 1 := hmF_slices_IndexFunc_Rect_L1
 replace hp0_0 := hp0_0.leR leF_slices_IndexFunc_Rect_L1
 replace hf1 := fun w' he => hf1 w' (leF_slices_IndexFunc_Rect_L1.ext.trans he)
 replace leB := leB.trans leF_slices_IndexFunc_Rect_L1
 obtain rfl : m = restF_slices_IndexFunc_Rect_L1.length := by omega
 clear hmF_slices_IndexFunc_Rect_L1
 show Tr _ _ (LF [(0, (.slice Ap0_0 (p0).length cp0_0)), (1, (.func (.func fid1) #[] cap1.toArray)), (7, (.int .i64 (p0.length : Int))), (8, (.int .i64 (iF_slices_IndexFunc_Rect_L1 : Int)))]) (LE []) _
 cases restF_slices_IndexFunc_Rect_L1 with
 | nil =>
  rw [F_slices_IndexFunc_Rect_L1.eq_1] at H
  refine Tr.sr ?_
  refine Tr.va rfl (fun _ _ h1 h2 => run_lss (h1.ev rfl) (h1.ev rfl)) ?_
  refine Tr.nil (Tr.normThen ?_)
  refine Tr.seq ?_
  refine Tr.condF rfl (range_nil hdF_slices_IndexFunc_Rect_L1) ?_
  refine Tr.exit (Tr.exitThen (Tr.exitThen (Tr.exitBlock (Tr.normThen ?_))))
  refine Tr.sr ?_
  refine Tr.asg rfl rfl ?_
  refine Tr.nil (Tr.normThen ?_)
  refine Tr.ret ?_
  obtain rfl := Option.some.inj H
  exact Tr.out (m := [(.int .i64 (-1))]) [] (res_tmp rfl res_nil) (fun W hW => ⟨rfl, hW.low leB⟩)
 | cons xF_slices_IndexFunc_Rect_L1 restF_slices_IndexFunc_Rect_L1 =>
  rw [F_slices_IndexFunc_Rect_L1.eq_2] at H
  refine Tr.sr ?_
  refine Tr.va rfl (fun _ _ h1 h2 => run_lss (h1.ev rfl) (h1.ev rfl)) ?_
  refine Tr.nil (Tr.normThen ?_)
  refine Tr.seq ?_
  refine Tr.condT rfl (range_on hdF_slices_IndexFunc_Rect_L1) ?_
  refine Tr.skip (Tr.normThen ?_)
  refine Tr.seq ?_
  refine Tr.block ?_
  refine Tr.sr ?_
  refine Tr.mv rfl rfl ?_
  refine Tr.asg rfl rfl ?_
  refine Tr.nil (Tr.normThen ?_)
  refine Tr.sr ?_
  refine Tr.mv rfl rfl ?_
  refine Tr.mv rfl rfl ?_
  refine Tr.mv rfl rfl ?_
  refine Tr.va rfl (fun _ _ h1 h2 => run_indexAddr el_22 (h1.ev rfl) hp0_0.form (h1.ev rfl) (Int.natCast_nonneg _) (range_lt hdF_slices_IndexFunc_Rect_L1)) ?_
  refine Tr.va rfl (fun _ _ h1 h2 => run_loadN (cs := [(.int .i64 xF_slices_IndexFunc_Rect_L1.X0), (.int .i64 xF_slices_IndexFunc_Rect_L1.Y0), (.int .i64 xF_slices_IndexFunc_Rect_L1.X1), (.int .i64 xF_slices_IndexFunc_Rect_L1.Y1)]) ag_29 sz_29 (h1.ev rfl) (CellsAt.take (rdF ef_TRect hp0_0 (range_at hdF_slices_IndexFunc_Rect_L1) h2) 4) rfl) ?_
  obtain ⟨y103, hy103, H⟩ := bnd H
  refine Tr.callF (r := (.bool y103)) (wn rfl) rfl rfl hg1 (evl_cons rfl evl_nil) (fun W hW => hf1 hW.all hW.extAll xF_slices_IndexFunc_Rect_L1 _ hy103) ?_
  refine Tr.nil (Tr.normThen ?_)
  refine Tr.cond rfl H (fun H => ?_) (fun H => ?_)
  ·refine Tr.sr ?_
   refine Tr.mv rfl rfl ?_
   refine Tr.asg rfl rfl ?_
   refine Tr.nil (Tr.normThen ?_)
   refine Tr.ret (Tr.retBlock (Tr.retThen (Tr.retThen (Tr.retBlock (Tr.retThen ?_)))))
   obtain rfl := Option.some.inj H
   exact Tr.out (m := [(.int .i64 (iF_slices_IndexFunc_Rect_L1 : Int))]) [] (res_tmp rfl res_nil) (fun W hW => ⟨rfl, hW.low leB⟩)
  ·refine Tr.skip (Tr.normBlock (Tr.normThen ?_))
   refine Tr.region ?_
   refine Tr.va rfl (fun _ _ h1 h2 => run_add (h1.ev rfl) (h1.ev rfl)) ?_
   refine Tr.mv rfl rfl ?_
   refine Tr.nil ?_
   exact Tr.backThen leF_slices_IndexFunc_Rect_L1 (restF_slices_IndexFunc_Rect_L1, (iF_slices_IndexFunc_Rect_L1 + 1)) ⟨rfl, range_tl hdF_slices_IndexFunc_Rect_L1, range_lt hdF_slices_IndexFunc_Rect_L1, H⟩ (.cons rfl (.cons rfl (.cons rfl (.cons (congrArg (fun z => some (Value.int .i64 z)) (range_up hdF_slices_IndexFunc_Rect_L1 hp0_0.form)) .nil)))) .nil

theorem F_slices_DeleteFunc_Rect_ok (N : Nat) {w : Bs} (p0 : (List TRect)) (Ap0_0 : Option Addr) (cp0_0 : Nat) (p1 : TRect → Option Bool) (fid1 : Nat) (cap1 : List Value) (hg1 : ∀ args W, (callFunc fid1 args).run Try.prog W = .ok (.enter fid1 args) W) (hf1 : ∀ (w' : Bs), w.Ext w' → ∀ (z0 : TRect), ∀ y, p1 z0 = some y → Calls Try.prog fid1 (([(.agg #[(.int .i64 z0.X0), (.int .i64 z0.Y0), (.int .i64 z0.X1), (.int .i64 z0.Y1)])] : List Value) ++ cap1).toArray w'.W fun e W'' => e = .returned (.bool y) ∧ HF w' W'' E0) (r : (List TRect)) (H : F_slices_DeleteFunc_Rect N p0 p1 = some r) (hE : HF w w.W (LEn [ow Ap0_0 cp0_0 29 fl_TRect p0])) : Calls Try.prog 74 [(.slice Ap0_0 (p0).length cp0_0), (.func (.func fid1) #[] cap1.toArray)].toArray w.W fun e W' => ∃ u : (Option Addr × Nat), e = .returned (.slice u.1 (r).length u.2) ∧ (SlF u.1 (r).length u.2) ∧ HF w W' (LEn [ow u.1 u.2 29 fl_TRect r]) := by
 unfold F_slices_DeleteFunc_Rect at H
 have hfhp0_0 := (hE.sl (k := 0) rfl).form
 have leB := Bs.Le.refl w
 refine Tr.enter (n := 42) Try.func74 rfl rfl rfl hE ?_
 refine Tr.sr ?_
 refine Tr.asg rfl rfl ?_
 refine Tr.nilOwn 1 29 fl_TRect ?_
 show Tr _ _ (uf _ 4 (.slice none (([] : List TRect)).length 0)) _ _
 refine Tr.nil (Tr.normThen ?_)
 refine Tr.sr ?_
 refine Tr.mv rfl rfl ?_
 refine Tr.mv rfl rfl ?_
 obtain ⟨y100, hy100, H⟩ := bnd H
 refine Tr.call0 (r := (.int .i64 y100)) (wn rfl) rfl Try.call112 (evl_cons rfl (evl_cons rfl evl_nil)) (fun W hW => F_slices_IndexFunc_Rect_ok p0 Ap0_0 cp0_0 (hW.slCall (k := 0) rfl) p1 fid1 cap1 hg1 (fun w' he => hf1 w' (hW.extAll.trans he)) y100 hy100 (HF.start _)) ?_
 refine Tr.asg rfl rfl ?_
 refine Tr.nil (Tr.normThen ?_)
 refine Tr.seq ?_
 refine Tr.sr ?_
 refine Tr.mv rfl rfl ?_
 refine Tr.va rfl (fun _ _ h1 h2 => run_eql (h1.ev rfl) (h1.ev rfl)) ?_
 refine Tr.nil (Tr.normThen ?_)
 refine Tr.cond rfl H (fun H => ?_) (fun H => ?_)
 ·refine Tr.sr ?_
  refine Tr.mv rfl rfl ?_
  refine Tr.asg rfl rfl ?_
  refine Tr.nil (Tr.normThen ?_)
  refine Tr.ret (Tr.retThen ?_)
  obtain rfl := Option.some.inj H
  exact Tr.out (m := [(.slice Ap0_0 (p0).length cp0_0)]) [] (res_tmp rfl res_nil) (fun W hW => ⟨(Ap0_0, cp0_0), rfl, hfhp0_0, HF.lowE leB (hW.pick (ks := [0]) (by decide) (pk_cons rfl pk_nil)) ⟨ow_any _ _ _ _ tr_TRect, trivial⟩⟩)
 ·refine Tr.skip (Tr.normThen ?_)
  refine Tr.seq ?_
  refine Tr.sr ?_
  refine Tr.mv rfl rfl ?_
  refine Tr.va rfl (fun _ _ h1 h2 => run_add (h1.ev rfl) (h1.ev rfl)) ?_
  refine Tr.asg rfl rfl ?_
  refine Tr.nil (Tr.normThen ?_)
  refine Tr.block ?_
  refine Tr.loop (σ := (List TRect) × Int × Int) (fun m w s => F_slices_DeleteFunc_Rect_L1 p1 m s.1 s.2.1 s.2.2 = some r ∧ (s.1).length = (p0).length) (fun s => [(0, (.slice Ap0_0 (s.1).length cp0_0)), (1, (.func (.func fid1) #[] cap1.toArray)), (5, (.int .i64 s.2.1)), (6, (.int .i64 s.2.2))]) (fun s => [(0, ow Ap0_0 cp0_0 29 fl_TRect s.1)]) N (p0, y100, (w64 (y100 + 1))) ⟨H, rfl⟩ (.cons rfl (.cons rfl (.cons rfl (.cons rfl .nil)))) (.cons rfl .nil) (fun _ _ h => noSome (h.1)) ?_
  intro w leF_slices_DeleteFunc_Rect_L1 mF_slices_DeleteFunc_Rect_L1 s hs
  obtain ⟨l120, x121, x122⟩ := s
  obtain ⟨H, hl120⟩ := hs
  replace H : F_slices_DeleteFunc_Rect_L1 p1 (mF_slices_DeleteFunc_Rect_L1 + 1) l120 x121 x122 = some r := H
  replace hf1 := fun w' he => hf1 w' (leF_slices_DeleteFunc_Rect_L1.ext.trans he)
  replace leB := leB.trans leF_slices_DeleteFunc_Rect_L1
  replace hl120 : (l120).length = (p0).length := hl120
  have hfl120 : SlF Ap0_0 (l120).length cp0_0 := (by rw [hl120]; exact hfhp0_0)
  rw [F_slices_DeleteFunc_Rect_L1.eq_2] at H
  show Tr _ _ (LF [(0, (.slice Ap0_0 (l120).length cp0_0)), (1, (.func (.func fid1) #[] cap1.toArray)), (5, (.int .i64 x121)), (6, (.int .i64 x122))]) (LE [(0, ow Ap0_0 cp0_0 29 fl_TRect l120)]) _
  refine Tr.seq ?_
  refine Tr.sr ?_
  refine Tr.mv rfl rfl ?_
  refine Tr.mv rfl rfl ?_
  refine Tr.va rfl (fun _ _ h1 h2 => run_len un_22 (h1.ev rfl)) ?_
  refine Tr.va rfl (fun _ _ h1 h2 => run_lss (h1.ev rfl) (h1.ev rfl)) ?_
  refine Tr.nil (Tr.normThen ?_)
  refine Tr.cond rfl H (fun H => ?_) (fun H => ?_)
  ·refine Tr.skip (Tr.normThen ?_)
   refine Tr.seq ?_
   refine Tr.block ?_
   refine Tr.sr ?_
   refine Tr.mv rfl rfl ?_
   refine Tr.mv rfl rfl ?_
   obtain ⟨x123, hx123, H⟩ := bnd H
   obtain ⟨hx1230, hx1231, hx1232⟩ := idx_some hx123
   refine Tr.va rfl (fun _ _ h1 h2 => run_indexAddr el_22 (h1.ev rfl) hfl120 (h1.ev rfl) hx1230 hx1231) ?_
   refine Tr.va rfl (fun _ _ h1 h2 => run_loadN (cs := [(.int .i64 x123.X0), (.int .i64 x123.Y0), (.int .i64 x123.X1), (.int .i64 x123.Y1)]) ag_29 sz_29 (h1.ev rfl) (CellsAt.take (rdo ef_TRect (k := 0) h2 rfl hx1232) 4) rfl) ?_
   refine Tr.alloc 4 (wn rfl) rfl ze_29 fun b124 => ?_
   refine Tr.store 4 (cs := [(.int .i64 x123.X0), (.int .i64 x123.Y0), (.int .i64 x123.X1), (.int .i64 x123.Y1)]) [(.int .i64 x123.X0), (.int .i64 x123.Y0), (.int .i64 x123.X1), (.int .i64 x123.Y1)] (wn rfl) rfl rfl rfl rfl sz_29 rfl rfl rfl ?_
   refine Tr.nil (Tr.normThen ?_)
   refine Tr.sr ?_
   refine Tr.mv rfl rfl ?_
   refine Tr.va rfl (fun _ _ h1 h2 => run_loadN (cs := [(.int .i64 x123.X0), (.int .i64 x123.Y0), (.int .i64 x123.X1), (.int .i64 x123.Y1)]) ag_29 sz_29 (h1.ev rfl) (CellsAt.take (rdb h2 (vs := [(.int .i64 x123.X0), (.int .i64 x123.Y0), (.int .i64 x123.X1), (.int .i64 x123.Y1)]) (k := 4) rfl 0) 4) rfl) ?_
   obtain ⟨y125, hy125, H⟩ := bnd H
   refine Tr.callF (r := (.bool y125)) (wn rfl) rfl rfl hg1 (evl_cons rfl evl_nil) (fun W hW => hf1 hW.all hW.extAll x123 _ hy125) ?_
   refine Tr.va rfl (fun _ _ h1 h2 => run_not (h1.ev rfl)) ?_
   refine Tr.nil (Tr.normThen ?_)
   refine Tr.cond rfl H (fun H => ?_) (fun H => ?_)
   ·refine Tr.sr ?_
    refine Tr.mv rfl rfl ?_
    refine Tr.mv rfl rfl ?_
    refine Tr.va rfl (fun _ _ h1 h2 => run_loadN (cs := [(.int .i64 x123.X0), (.int .i64 x123.Y0), (.int .i64 x123.X1), (.int .i64 x123.Y1)]) ag_29 sz_29 (h1.ev rfl) (CellsAt.take (rdb h2 (vs := [(.int .i64 x123.X0), (.int .i64 x123.Y0), (.int .i64 x123.X1), (.int .i64 x123.Y1)]) (k := 4) rfl 0) 4) rfl) ?_
    obtain ⟨x126, hx126, H⟩ := bnd H
    obtain ⟨hx1260, hx1261, hx1262⟩ := idx_some hx126
    refine Tr.va rfl (fun _ _ h1 h2 => run_indexAddr el_22 (h1.ev rfl) hfl120 (h1.ev rfl) hx1260 hx1261) ?_
    obtain ⟨l127, hl127, H⟩ := bnd H
    have hnl127 := sets_len hl127
    refine Tr.storeEl 0 (t := fl_TRect) (l := l120) (i := x121) (fo := 0) (cs := [(.int .i64 x123.X0), (.int .i64 x123.Y0), (.int .i64 x123.X1), (.int .i64 x123.Y1)]) x123 (wn rfl) rfl rfl rfl rfl rfl hx1262 sz_29 rfl (fun u _ => ⟨u, trivial, rfl⟩) rfl hl127 ?_
    have hfl127 : SlF Ap0_0 (l127).length cp0_0 := by rw [hnl127]; exact hfl120
    have hsl127 := hnl127.trans hl120
    refine Tr.sel (lf := [(0, (.slice Ap0_0 (l127).length cp0_0)), (1, (.func (.func fid1) #[] cap1.toArray)), (5, (.int .i64 x121)), (6, (.int .i64 x122)), (7, (.pointer (some ⟨b124, 0, none⟩))), (16, (.int .i64 x122)), (17, (.slice Ap0_0 (l127).length cp0_0)), (18, (.int .i64 (l120.length : Int))), (19, (.bool (decide (x122 < (l120.length : Int))))), (22, (.slice Ap0_0 (l127).length cp0_0)), (23, (.int .i64 x122)), (25, (.agg #[(.int .i64 x123.X0), (.int .i64 x123.Y0), (.int .i64 x123.X1), (.int .i64 x123.Y1)])), (26, (.func (.func fid1) #[] cap1.toArray)), (27, (.agg #[(.int .i64 x123.X0), (.int .i64 x123.Y0), (.int .i64 x123.X1), (.int .i64 x123.Y1)])), (28, (.bool y125)), (29, (.bool (!y125))), (30, (.slice Ap0_0 (l127).length cp0_0)), (31, (.int .i64 x121)), (32, (.agg #[(.int .i64 x123.X0), (.int .i64 x123.Y0), (.int .i64 x123.X1), (.int .i64 x123.Y1)]))]) (le := [(0, ow Ap0_0 cp0_0 29 fl_TRect l127), (4, bx b124 #[(.int .i64 x123.X0), (.int .i64 x123.Y0), (.int .i64 x123.X1), (.int .i64 x123.Y1)] 29)]) (.cons (slenV rfl (by rw [hnl127])) (.cons rfl (.cons rfl (.cons rfl (.cons rfl (.cons rfl (.cons (slenV rfl (by rw [hnl127])) (.cons rfl (.cons rfl (.cons (slenV rfl (by rw [hnl127])) (.cons rfl (.cons rfl (.cons rfl (.cons rfl (.cons rfl (.cons rfl (.cons (slenV rfl (by rw [hnl127])) (.cons rfl (.cons rfl .nil))))))))))))))))))) (.cons rfl (.cons rfl .nil)) ?_
    refine Tr.nil (Tr.normThen ?_)
    refine Tr.region ?_
    refine Tr.mv rfl rfl ?_
    refine Tr.va rfl (fun _ _ h1 h2 => run_add (h1.ev rfl) (h1.ev rfl)) ?_
    refine Tr.asg rfl rfl ?_
    refine Tr.nil (Tr.normBlock (Tr.normThen ?_))
    refine Tr.region ?_
    refine Tr.mv rfl rfl ?_
    refine Tr.va rfl (fun _ _ h1 h2 => run_add (h1.ev rfl) (h1.ev rfl)) ?_
    refine Tr.asg rfl rfl ?_
    refine Tr.nil ?_
    exact Tr.backThen leF_slices_DeleteFunc_Rect_L1 (l127, (w64 (x121 + 1)), (w64 (x122 + 1))) ⟨H, hsl127⟩ (.cons rfl (.cons rfl (.cons rfl (.cons rfl .nil)))) (.cons rfl .nil)
   ·refine Tr.skip (Tr.normBlock (Tr.normThen ?_))
    refine Tr.region ?_
    refine Tr.mv rfl rfl ?_
    refine Tr.va rfl (fun _ _ h1 h2 => run_add (h1.ev rfl) (h1.ev rfl)) ?_
    refine Tr.asg rfl rfl ?_
    refine Tr.nil ?_
    exact Tr.backThen leF_slices_DeleteFunc_Rect_L1 (l120, x121, (w64 (x122 + 1))) ⟨H, hl120⟩ (.cons rfl (.cons rfl (.cons rfl (.cons rfl .nil)))) (.cons rfl .nil)
  ·refine Tr.exit (Tr.exitThen (Tr.exitThen (Tr.exitBlock (Tr.normThen ?_))))
   refine Tr.sr ?_
   refine Tr.mv rfl rfl ?_
   refine Tr.mv rfl rfl ?_
   obtain ⟨l128, hl128, H⟩ := bnd H
   refine Tr.va rfl (fun _ _ h1 h2 => run_cutL el_22 (h1.ev rfl) hfl120 (h1.ev rfl) hl128) ?_
   have hnhcl128 := clr_len (TRect.mk 0 0 0 0) hl128
   refine Tr.clearCut 0 (lo := x121) (t := fl_TRect) (l := l120) (TRect.mk 0 0 0 0) (wn rfl) rfl hl128 rfl un_22 ze_29 ⟨(), tr_TRect _ _ _ _, ef_TRect _ _⟩ rfl rfl ?_
   have hfhcl128 : SlF Ap0_0 ((clr l120 x121 (l128).length (TRect.mk 0 0 0 0))).length cp0_0 := by rw [hnhcl128]; exact hfl120
   have hshcl128 := hnhcl128.trans hl120
   refine Tr.sel (lf := [(0, (.slice Ap0_0 ((clr l120 x121 (l128).length (TRect.mk 0 0 0 0))).length cp0_0)), (1, (.func (.func fid1) #[] cap1.toArray)), (5, (.int .i64 x121)), (6, (.int .i64 x122)), (16, (.int .i64 x122)), (17, (.slice Ap0_0 ((clr l120 x121 (l128).length (TRect.mk 0 0 0 0))).length cp0_0)), (18, (.int .i64 (l120.length : Int))), (19, (.bool (decide (x122 < (l120.length : Int))))), (36, (.slice Ap0_0 ((clr l120 x121 (l128).length (TRect.mk 0 0 0 0))).length cp0_0)), (37, (.int .i64 x121))]) (le := [(0, ow Ap0_0 cp0_0 29 fl_TRect (clr l120 x121 (l128).length (TRect.mk 0 0 0 0)))]) (.cons (slenV rfl (by rw [hnhcl128])) (.cons rfl (.cons rfl (.cons rfl (.cons rfl (.cons (slenV rfl (by rw [hnhcl128])) (.cons rfl (.cons rfl (.cons (slenV rfl (by rw [hnhcl128])) (.cons rfl .nil)))))))))) (.cons rfl .nil) ?_
   refine Tr.nil (Tr.normThen ?_)
   refine Tr.sr ?_
   refine Tr.mv rfl rfl ?_
   refine Tr.mv rfl rfl ?_
   obtain ⟨l129, hl129, H⟩ := bnd H
   refine Tr.va rfl (fun _ _ h1 h2 => run_pre el_22 (h1.ev rfl) hfhcl128 (h1.ev rfl) hl129) ?_
   refine Tr.asg rfl rfl ?_
   refine Tr.nil (Tr.normThen ?_)
   refine Tr.ret ?_
   obtain rfl := Option.some.inj H
   refine Tr.shrinkP 0 hl129 rfl ?_
   exact Tr.out (m := [(.slice Ap0_0 (l129).length cp0_0)]) [] (res_tmp rfl res_nil) (fun W hW => ⟨(Ap0_0, cp0_0), rfl, (pre_form hfhcl128 hl129), HF.lowE leB (hW.pick (ks := [0]) (by decide) (pk_cons rfl pk_nil)) ⟨ow_any _ _ _ _ tr_TRect, trivial⟩⟩)

theorem F_shape_stretches_1_ok {w : Bs} (p0 : TRect) (p1 : TRect) (r : Int) (H : F_shape_stretches_1 p0 p1 = some r) (hE : HF w w.W E0) : Calls Try.prog 114 [(.agg #[(.int .i64 p0.X0), (.int .i64 p0.Y0), (.int .i64 p0.X1), (.int .i64 p0.Y1)]), (.agg #[(.int .i64 p1.X0), (.int .i64 p1.Y0), (.int .i64 p1.X1), (.int .i64 p1.Y1)])].toArray w.W fun e W' => e = .returned (.int .i64 r) ∧ HF w W' E0 := by
 unfold F_shape_stretches_1 at H
 have leB := Bs.Le.refl w
 refine Tr.enter (n := 10) Try.func114 rfl rfl rfl hE ?_
 refine Tr.sr ?_
 refine Tr.box 1 (cs := [(.int .i64 p0.X0), (.int .i64 p0.Y0), (.int .i64 p0.X1), (.int .i64 p0.Y1)]) (wn rfl) rfl rfl rfl fun b100 => ?_
 refine Tr.box 2 (cs := [(.int .i64 p1.X0), (.int .i64 p1.Y0), (.int .i64 p1.X1), (.int .i64 p1.Y1)]) (wn rfl) rfl rfl rfl fun b101 => ?_
 refine Tr.asg rfl rfl ?_
 refine Tr.nil (Tr.normThen ?_)
 refine Tr.sr ?_
 refine Tr.va rfl (fun _ _ h1 h2 => run_fieldAddr fo_29_0 (h1.ev rfl)) ?_
 refine Tr.va rfl (fun _ _ h1 h2 => run_load1 ag_3 (h1.ev rfl) (rdb h2 (vs := [(.int .i64 p0.X0), (.int .i64 p0.Y0), (.int .i64 p0.X1), (.int .i64 p0.Y1)]) (k := 1) rfl 0) rfl) ?_
 refine Tr.va rfl (fun _ _ h1 h2 => run_fieldAddr fo_29_0 (h1.ev rfl)) ?_
 refine Tr.va rfl (fun _ _ h1 h2 => run_load1 ag_3 (h1.ev rfl) (rdb h2 (vs := [(.int .i64 p1.X0), (.int .i64 p1.Y0), (.int .i64 p1.X1), (.int .i64 p1.Y1)]) (k := 2) rfl 0) rfl) ?_
 refine Tr.va rfl (fun _ _ h1 h2 => run_sub (h1.ev rfl) (h1.ev rfl)) ?_
 refine Tr.asg rfl rfl ?_
 refine Tr.nil (Tr.normThen ?_)
 refine Tr.ret ?_
 obtain rfl := Option.some.inj H
 exact Tr.out (m := [(.int .i64 (w64 (p0.X0 - p1.X0)))]) [] (res_tmp rfl res_nil) (fun W hW => ⟨rfl, hW.low leB⟩)

theorem F_shape_stretches_ok {w : Bs} (p0 : (List TRect)) (Ap0_0 : Option Addr) (cp0_0 : Nat) (r : ((List Int) × (List TRect))) (H : F_shape_stretches p0 = some r) (hE : HF w w.W (LEn [ow Ap0_0 cp0_0 29 fl_TRect p0, emp])) : Calls Try.prog 77 [(.slice Ap0_0 (p0).length cp0_0)].toArray w.W fun e W' => ∃ u : (Option Addr × Nat), e = .returned (.slice u.1 (r.1).length u.2) ∧ (SlF u.1 (r.1).length u.2 ∧ (r.2).length = (p0).length) ∧ HF w W' (LEn [ow Ap0_0 cp0_0 29 fl_TRect r.2, ow u.1 u.2 3 fl_i64 r.1]) := by
 unfold F_shape_stretches at H
 have hfhp0_0 := (hE.sl (k := 0) rfl).form
 have leB := Bs.Le.refl w
 refine Tr.enter (n := 48) Try.func77 rfl rfl rfl hE ?_
 refine Tr.sr ?_
 refine Tr.asg rfl rfl ?_
 refine Tr.nilOwn 1 3 fl_i64 ?_
 show Tr _ _ (uf _ 2 (.slice none (([] : List Int)).length 0)) _ _
 refine Tr.nil (Tr.normThen ?_)
 refine Tr.sr ?_
 refine Tr.mv rfl rfl ?_
 obtain ⟨y100, hy100, H⟩ := bnd H
 refine Tr.callM [0] [ow Ap0_0 cp0_0 29 fl_TRect p0] (U := Unit) (fun u => (.tuple #[])) (fun u => (y100).length = (p0).length) (fun u => [ow Ap0_0 cp0_0 29 fl_TRect y100]) rfl (pk_cons rfl pk_nil) (fun _ => rfl) (wn rfl) rfl Try.call70 (evl_cons rfl (evl_cons rfl evl_nil)) (fun W hW hp hE => F_slices_SortFunc_TRect_ok p0 Ap0_0 cp0_0 (fun z0 z1 => F_shape_stretches_1 z0 z1) 114 [] Try.call114 (fun w' he z0 z1 y hy => F_shape_stretches_1_ok z0 z1 y hy (HF.start _)) y100 hy100 hE) ?_
 intro u hu
 have gky100_0 := hu
 have hgky100_0 : (y100).length = (p0).length := gky100_0 --@phi
 have hfky100_0 : SlF Ap0_0 (y100).length cp0_0 := by rw [hgky100_0]; exact hfhp0_0
 have hsky100_0 := hgky100_0.trans rfl
 show Tr _ _ (uf _ 8 (.tuple #[])) (up _ 0 (ow Ap0_0 cp0_0 29 fl_TRect y100)) _
 refine Tr.sel (lf := [(0, (.slice Ap0_0 (y100).length cp0_0)), (2, (.slice none (([] : List Int)).length 0)), (7, (.slice Ap0_0 (y100).length cp0_0)), (8, (.tuple #[]))]) (le := [(0, ow Ap0_0 cp0_0 29 fl_TRect y100), (1, ow none 0 3 fl_i64 ([] : List Int))]) (.cons (slenV rfl (by rw [hgky100_0])) (.cons rfl (.cons (slenV rfl (by rw [hgky100_0])) (.cons rfl .nil)))) (.cons rfl (.cons rfl .nil)) ?_
 refine Tr.nil (Tr.normThen ?_)
 refine Tr.sr ?_
 refine Tr.asg rfl rfl ?_
 refine Tr.nilOwn 2 3 fl_i64 ?_
 show Tr _ _ (uf _ 3 (.slice none (([] : List Int)).length 0)) _ _
 refine Tr.nil (Tr.normThen ?_)
 refine Tr.seq ?_
 refine Tr.sr ?_
 refine Tr.mv rfl rfl ?_
 refine Tr.va rfl (fun _ _ h1 h2 => run_len un_22 (h1.ev rfl)) ?_
 refine Tr.mv rfl rfl ?_
 refine Tr.nil (Tr.normThen ?_)
 refine Tr.block ?_
 refine Tr.loop (σ := (List TRect) × Nat × (List Int) × (Option Addr) × Nat) (fun m w s => m = s.1.length + 1 ∧ s.1 = List.drop s.2.1 y100 ∧ s.2.1 ≤ y100.length ∧ F_shape_stretches_L1 y100 s.1 s.2.1 s.2.2.1 = some r ∧ SlF s.2.2.2.1 (s.2.2.1).length s.2.2.2.2) (fun s => [(3, (.slice s.2.2.2.1 (s.2.2.1).length s.2.2.2.2)), (9, (.slice Ap0_0 (y100).length cp0_0)), (10, (.int .i64 (y100.length : Int))), (11, (.int .i64 (s.2.1 : Int)))]) (fun s => [(0, ow Ap0_0 cp0_0 29 fl_TRect y100), (2, ow s.2.2.2.1 s.2.2.2.2 3 fl_i64 s.2.2.1)]) (y100.length + 1) (y100, 0, ([] : List Int), none, 0) ⟨rfl, rfl, Nat.zero_le _, H, slf_nil⟩ (.cons rfl (.cons rfl (.cons rfl (.cons rfl .nil)))) (.cons rfl (.cons rfl .nil)) (fun _ _ h => absurd h.1 (by simp)) ?_
 intro w leF_shape_stretches_L1 m s hs
 obtain ⟨restF_shape_stretches_L1, iF_shape_stretches_L1, l128, Al128, cl128⟩ := s
 obtain ⟨hmF_shape_stretches_L1, hdF_shape_stretches_L1, hiF_shape_stretches_L1, H, hl128⟩ := hs
 replace hdF_shape_stretches_L1 : restF_shape_stretches_L1 = List.drop iF_shape_stretches_L1 y100 := hdF_shape_stretches_L1
 replace H : F_shape_stretches_L1 y100 restF_shape_stretches_L1 iF_shape_stretches_L1 l128 = some r := H
 replace hmF_shape_stretches_L1 : m + 1 = restF_shape_stretches_L1.length + 1 := hmF_shape_stretches_L1
 replace leB := leB.trans leF_shape_stretches_L1
 replace hl128 : SlF Al128 (l128).length cl128 := hl128
 obtain rfl : m = restF_shape_stretches_L1.length := by omega
 clear hmF_shape_stretches_L1
 show Tr _ _ (LF [(3, (.slice Al128 (l128).length cl128)), (9, (.slice Ap0_0 (y100).length cp0_0)), (10, (.int .i64 (y100.length : Int))), (11, (.int .i64 (iF_shape_stretches_L1 : Int)))]) (LE [(0, ow Ap0_0 cp0_0 29 fl_TRect y100), (2, ow Al128 cl128 3 fl_i64 l128)]) _
 cases restF_shape_stretches_L1 with
 | nil =>
  rw [F_shape_stretches_L1.eq_1] at H
  refine Tr.sr ?_
  refine Tr.va rfl (fun _ _ h1 h2 => run_lss (h1.ev rfl) (h1.ev rfl)) ?_
  refine Tr.nil (Tr.normThen ?_)
  refine Tr.seq ?_
  refine Tr.condF rfl (range_nil hdF_shape_stretches_L1) ?_
  refine Tr.exit (Tr.exitThen (Tr.exitThen (Tr.exitBlock (Tr.normThen ?_))))
  refine Tr.sr ?_
  refine Tr.mv rfl rfl ?_
  refine Tr.asg rfl rfl ?_
  refine Tr.nil (Tr.normThen ?_)
  refine Tr.ret ?_
  obtain rfl := Option.some.inj H
  exact Tr.out (m := [(.slice Al128 (l128).length cl128)]) [] (res_tmp rfl res_nil) (fun W hW => ⟨(Al128, cl128), rfl, ⟨hl128, hsky100_0⟩, HF.lowE leB (hW.pick (ks := [0, 2]) (by decide) (pk_cons rfl (pk_cons rfl pk_nil))) ⟨ow_any _ _ _ _ tr_TRect, ow_any _ _ _ _ tr_i64, trivial⟩⟩)
 | cons xF_shape_stretches_L1 restF_shape_stretches_L1 =>
  rw [F_shape_stretches_L1.eq_2] at H
  refine Tr.sr ?_
  refine Tr.va rfl (fun _ _ h1 h2 => run_lss (h1.ev rfl) (h1.ev rfl)) ?_
  refine Tr.nil (Tr.normThen ?_)
  refine Tr.seq ?_
  refine Tr.condT rfl (range_on hdF_shape_stretches_L1) ?_
  refine Tr.skip (Tr.normThen ?_)
  refine Tr.seq ?_
  refine Tr.block ?_
  refine Tr.sr ?_
  refine Tr.va rfl (fun _ _ h1 h2 => run_indexAddr el_22 (h1.ev rfl) hfky100_0 (h1.ev rfl) (Int.natCast_nonneg _) (range_lt hdF_shape_stretches_L1)) ?_
  refine Tr.va rfl (fun _ _ h1 h2 => run_loadN (cs := [(.int .i64 xF_shape_stretches_L1.X0), (.int .i64 xF_shape_stretches_L1.Y0), (.int .i64 xF_shape_stretches_L1.X1), (.int .i64 xF_shape_stretches_L1.Y1)]) ag_29 sz_29 (h1.ev rfl) (CellsAt.take (rdo ef_TRect (k := 0) h2 rfl (range_at hdF_shape_stretches_L1)) 4) rfl) ?_
  refine Tr.alloc 7 (wn rfl) rfl ze_29 fun b129 => ?_
  refine Tr.store 7 (cs := [(.int .i64 xF_shape_stretches_L1.X0), (.int .i64 xF_shape_stretches_L1.Y0), (.int .i64 xF_shape_stretches_L1.X1), (.int .i64 xF_shape_stretches_L1.Y1)]) [(.int .i64 xF_shape_stretches_L1.X0), (.int .i64 xF_shape_stretches_L1.Y0), (.int .i64 xF_shape_stretches_L1.X1), (.int .i64 xF_shape_stretches_L1.Y1)] (wn rfl) rfl rfl rfl rfl sz_29 rfl rfl rfl ?_
  refine Tr.nil (Tr.normThen ?_)
  refine Tr.sr ?_
  refine Tr.mv rfl rfl ?_
  refine Tr.va rfl (fun _ _ h1 h2 => run_len un_97 (h1.ev rfl)) ?_
  refine Tr.va rfl (fun _ _ h1 h2 => run_sub (h1.ev rfl) (h1.ev rfl)) ?_
  refine Tr.asg rfl rfl ?_
  refine Tr.nil (Tr.normThen ?_)
  refine Tr.seq ?_
  refine Tr.draw (by kernel_rfl) (by kernel_rfl) ?_
  refine Tq.mv rfl rfl ?_
  refine Tq.va rfl (fun _ _ h1 h2 => run_geq (h1.ev rfl) (h1.ev rfl)) ?_
  refine Tq.mv rfl rfl ?_
  obtain ⟨g131, hg131, H⟩ := bnd H
  refine Tq.mid 8 [(3, (.slice Al128 (l128).length cl128)), (5, (.pointer (some ⟨b129, 0, none⟩))), (6, (.int .i64 (w64 ((l128.length : Int) - 1)))), (9, (.slice Ap0_0 (y100).length cp0_0)), (10, (.int .i64 (y100.length : Int))), (11, (.int .i64 (iF_shape_stretches_L1 : Int))), (28, (.bool g131))] ?_ ?_
  ·cases hg137 : (decide (0 ≤ (w64 ((l128.length : Int) - 1))))
   ·rw [hg137] at hg131
    rw [if_neg (by decide)] at hg131
    have H := hg131
    obtain rfl := Option.some.inj H
    refine Tq.pass rfl rfl rfl rfl rfl (by decide) ?_
    refine Tq.pass rfl rfl rfl rfl rfl (by decide) ?_
    refine Tq.pass rfl rfl rfl rfl rfl (by decide) ?_
    refine Tq.pass rfl rfl rfl rfl rfl (by decide) ?_
    refine Tq.pass rfl rfl rfl rfl rfl (by decide) ?_
    refine Tq.pass rfl rfl rfl rfl rfl (by decide) ?_
    refine Tq.pass rfl rfl rfl rfl rfl (by decide) ?_
    refine Tq.va rfl (fun _ _ h1 h2 => run_pickF (h1.ev rfl) (h1.ev rfl)) ?_
    exact Tq.fin (.cons rfl (.cons rfl (.cons rfl (.cons rfl (.cons rfl (.cons rfl (.cons rfl .nil)))))))
   ·rw [hg137] at hg131
    rw [if_pos rfl] at hg131
    have H := hg131
    refine Tq.val (wg rfl rfl rfl) rfl (fun _ _ h1 h2 => run_fieldAddr fo_29_0 (h1.ev rfl)) ?_
    refine Tq.val (wg rfl rfl rfl) rfl (fun _ _ h1 h2 => run_load1 ag_3 (h1.ev rfl) (rdb h2 (vs := [(.int .i64 xF_shape_stretches_L1.X0), (.int .i64 xF_shape_stretches_L1.Y0), (.int .i64 xF_shape_stretches_L1.X1), (.int .i64 xF_shape_stretches_L1.Y1)]) (k := 7) rfl 0) rfl) ?_
    refine Tq.val (wg rfl rfl rfl) rfl (fun _ _ h1 h2 => run_move (h1.ev rfl)) ?_
    refine Tq.val (wg rfl rfl rfl) rfl (fun _ _ h1 h2 => run_move (h1.ev rfl)) ?_
    obtain ⟨x132, hx132, H⟩ := bnd H
    obtain ⟨hx1320, hx1321, hx1322⟩ := idx_some hx132
    refine Tq.val (wg rfl rfl rfl) rfl (fun _ _ h1 h2 => run_indexAddr el_97 (h1.ev rfl) hl128 (h1.ev rfl) hx1320 hx1321) ?_
    refine Tq.val (wg rfl rfl rfl) rfl (fun _ _ h1 h2 => run_load1 ag_3 (h1.ev rfl) (rdo ef_i64 (k := 2) h2 rfl hx1322) rfl) ?_
    refine Tq.val (wg rfl rfl rfl) rfl (fun _ _ h1 h2 => run_leq (h1.ev rfl) (h1.ev rfl)) ?_
    refine Tq.va rfl (fun _ _ h1 h2 => run_pickT (h1.ev rfl) (h1.ev rfl)) ?_
    obtain rfl := Option.some.inj H
    exact Tq.fin (.cons rfl (.cons rfl (.cons rfl (.cons rfl (.cons rfl (.cons rfl (.cons rfl .nil)))))))
  ·refine Tq.nil (Tr.normThen ?_)
   refine Tr.cond rfl H (fun H => ?_) (fun H => ?_)
   ·refine Tr.drawTail 9 (by kernel_rfl) (by kernel_rfl) ?_
    refine Tq.mv rfl rfl ?_
    refine Tq.mv rfl rfl ?_
    refine Tq.mv rfl rfl ?_
    refine Tq.mv rfl rfl ?_
    obtain ⟨x133, hx133, H⟩ := bnd H
    obtain ⟨hx1330, hx1331, hx1332⟩ := idx_some hx133
    refine Tq.va rfl (fun _ _ h1 h2 => run_indexAddr el_97 (h1.ev rfl) hl128 (h1.ev rfl) hx1330 hx1331) ?_
    refine Tq.va rfl (fun _ _ h1 h2 => run_load1 ag_3 (h1.ev rfl) (rdo ef_i64 (k := 2) h2 rfl hx1332) rfl) ?_
    refine Tq.va rfl (fun _ _ h1 h2 => run_fieldAddr fo_29_2 (h1.ev rfl)) ?_
    refine Tq.va rfl (fun _ _ h1 h2 => run_load1 ag_3 (h1.ev rfl) (rdb h2 (vs := [(.int .i64 xF_shape_stretches_L1.X0), (.int .i64 xF_shape_stretches_L1.Y0), (.int .i64 xF_shape_stretches_L1.X1), (.int .i64 xF_shape_stretches_L1.Y1)]) (k := 7) rfl 2) rfl) ?_
    refine Tq.va rfl (fun _ _ h1 h2 => run_max (h1.ev rfl) (h1.ev rfl) _) ?_
    refine Tq.nil ?_
    obtain ⟨x134, hx134, H⟩ := bnd H
    obtain ⟨hx1340, hx1341, hx1342⟩ := idx_some hx134
    refine Tr.va rfl (fun _ _ h1 h2 => run_indexAddr el_97 (h1.ev rfl) hl128 (h1.ev rfl) hx1340 hx1341) ?_
    obtain ⟨l135, hl135, H⟩ := bnd H
    have hnl135 := sets_len hl135
    refine Tr.storeEl 2 (t := fl_i64) (l := l128) (i := (w64 ((l128.length : Int) - 1))) (fo := 0) (cs := [(.int .i64 (max x133 xF_shape_stretches_L1.X1))]) (max x133 xF_shape_stretches_L1.X1) (wn rfl) rfl rfl rfl rfl rfl hx1342 sz_3 rfl (fun u _ => ⟨u, trivial, rfl⟩) rfl hl135 ?_
    have hfl135 : SlF Al128 (l135).length cl128 := by rw [hnl135]; exact hl128
    refine Tr.sel (lf := [(3, (.slice Al128 (l135).length cl128)), (5, (.pointer (some ⟨b129, 0, none⟩))), (6, (.int .i64 (w64 ((l128.length : Int) - 1)))), (9, (.slice Ap0_0 (y100).length cp0_0)), (10, (.int .i64 (y100.length : Int))), (11, (.int .i64 (iF_shape_stretches_L1 : Int))), (28, (.bool g131)), (29, (.slice Al128 (l135).length cl128)), (30, (.int .i64 (w64 ((l128.length : Int) - 1)))), (31, (.slice Al128 (l135).length cl128)), (32, (.int .i64 (w64 ((l128.length : Int) - 1)))), (34, (.int .i64 x133)), (35, (.pointer (some ⟨b129, 2, none⟩))), (36, (.int .i64 xF_shape_stretches_L1.X1)), (37, (.int .i64 (max x133 xF_shape_stretches_L1.X1)))]) (le := [(0, ow Ap0_0 cp0_0 29 fl_TRect y100), (2, ow Al128 cl128 3 fl_i64 l135), (7, bx b129 #[(.int .i64 xF_shape_stretches_L1.X0), (.int .i64 xF_shape_stretches_L1.Y0), (.int .i64 xF_shape_stretches_L1.X1), (.int .i64 xF_shape_stretches_L1.Y1)] 29)]) (.cons (slenV rfl (by rw [hnl135])) (.cons rfl (.cons rfl (.cons rfl (.cons rfl (.cons rfl (.cons rfl (.cons (slenV rfl (by rw [hnl135])) (.cons rfl (.cons (slenV rfl (by rw [hnl135])) (.cons rfl (.cons rfl (.cons rfl (.cons rfl (.cons rfl .nil))))))))))))))) (.cons rfl (.cons rfl (.cons rfl .nil))) ?_
    refine Tr.nil (Tr.normBlock (Tr.normThen ?_))
    refine Tr.region ?_
    refine Tr.va rfl (fun _ _ h1 h2 => run_add (h1.ev rfl) (h1.ev rfl)) ?_
    refine Tr.mv rfl rfl ?_
    refine Tr.nil ?_
    exact Tr.backThen leF_shape_stretches_L1 (restF_shape_stretches_L1, (iF_shape_stretches_L1 + 1), l135, Al128, cl128) ⟨rfl, range_tl hdF_shape_stretches_L1, range_lt hdF_shape_stretches_L1, H, hfl135⟩ (.cons rfl (.cons rfl (.cons rfl (.cons (congrArg (fun z => some (Value.int .i64 z)) (range_up hdF_shape_stretches_L1 hfky100_0)) .nil)))) (.cons rfl (.cons rfl .nil))
   ·refine Tr.region ?_
    refine Tr.mv rfl rfl ?_
    refine Tr.va rfl (fun _ _ h1 h2 => run_fieldAddr fo_29_0 (h1.ev rfl)) ?_
    refine Tr.va rfl (fun _ _ h1 h2 => run_load1 ag_3 (h1.ev rfl) (rdb h2 (vs := [(.int .i64 xF_shape_stretches_L1.X0), (.int .i64 xF_shape_stretches_L1.Y0), (.int .i64 xF_shape_stretches_L1.X1), (.int .i64 xF_shape_stretches_L1.Y1)]) (k := 7) rfl 0) rfl) ?_
    refine Tr.va rfl (fun _ _ h1 h2 => run_fieldAddr fo_29_2 (h1.ev rfl)) ?_
    refine Tr.va rfl (fun _ _ h1 h2 => run_load1 ag_3 (h1.ev rfl) (rdb h2 (vs := [(.int .i64 xF_shape_stretches_L1.X0), (.int .i64 xF_shape_stretches_L1.Y0), (.int .i64 xF_shape_stretches_L1.X1), (.int .i64 xF_shape_stretches_L1.Y1)]) (k := 7) rfl 2) rfl) ?_
    refine Tr.buildSlice 8 (e := 3) (vs := [(0, (.int .i64 xF_shape_stretches_L1.X0)), (1, (.int .i64 xF_shape_stretches_L1.X1))]) (cs := [(.int .i64 xF_shape_stretches_L1.X0), (.int .i64 xF_shape_stretches_L1.X1)]) (wn rfl) rfl (evs_cons rfl (evs_cons rfl evs_nil)) (by kernel_rfl) fun b136 => ?_
    obtain ⟨l137, hl137, H⟩ := bnd H
    refine Tr.append 2 (t := fl_i64) (l := l128) (l2 := [xF_shape_stretches_L1.X0, xF_shape_stretches_L1.X1]) (wn rfl) rfl rfl rfl rfl (fun W hW => ⟨[[(.int .i64 xF_shape_stretches_L1.X0)], [(.int .i64 xF_shape_stretches_L1.X1)]], (.cons ⟨(), trivial, rfl⟩ (.cons ⟨(), trivial, rfl⟩ .nil)), rdb hW (vs := [(.int .i64 xF_shape_stretches_L1.X0), (.int .i64 xF_shape_stretches_L1.X1)]) (k := 8) rfl 0⟩) un_97 sz_3 zl_3 (by decide) by_3 rfl hl137 fun Al137 cl137 hAl137 => ?_
    refine Tr.asg rfl rfl ?_
    refine Tr.nil (Tr.normBlock (Tr.normThen ?_))
    refine Tr.region ?_
    refine Tr.va rfl (fun _ _ h1 h2 => run_add (h1.ev rfl) (h1.ev rfl)) ?_
    refine Tr.mv rfl rfl ?_
    refine Tr.nil ?_
    exact Tr.backThen leF_shape_stretches_L1 (restF_shape_stretches_L1, (iF_shape_stretches_L1 + 1), l137, Al137, cl137) ⟨rfl, range_tl hdF_shape_stretches_L1, range_lt hdF_shape_stretches_L1, H, hAl137⟩ (.cons rfl (.cons rfl (.cons rfl (.cons (congrArg (fun z => some (Value.int .i64 z)) (range_up hdF_shape_stretches_L1 hfky100_0)) .nil)))) (.cons rfl (.cons rfl .nil))

theorem F_slices_Equal_int_ok {w : Bs} (p0 : (List Int)) (Ap0_0 : Option Addr) (cp0_0 : Nat) (hp0_0 : Sl w.R w.W fl_i64 Ap0_0 cp0_0 p0) (p1 : (List Int)) (Ap1_0 : Option Addr) (cp1_0 : Nat) (hp1_0 : Sl w.R w.W fl_i64 Ap1_0 cp1_0 p1) (r : Bool) (H : F_slices_Equal_int p0 p1 = some r) (hE : HF w w.W E0) : Calls Try.prog 113 [(.slice Ap0_0 (p0).length cp0_0), (.slice Ap1_0 (p1).length cp1_0)].toArray w.W fun e W' => e = .returned (.bool r) ∧ HF w W' E0 := by
 unfold F_slices_Equal_int at H
 have leB := Bs.Le.refl w
 refine Tr.enter (n := 26) Try.func113 rfl rfl rfl hE ?_
 refine Tr.sr ?_
 refine Tr.asg rfl rfl ?_
 refine Tr.nil (Tr.normThen ?_)
 refine Tr.seq ?_
 refine Tr.sr ?_
 refine Tr.mv rfl rfl ?_
 refine Tr.va rfl (fun _ _ h1 h2 => run_len un_97 (h1.ev rfl)) ?_
 refine Tr.mv rfl rfl ?_
 refine Tr.va rfl (fun _ _ h1 h2 => run_len un_97 (h1.ev rfl)) ?_
 refine Tr.va rfl (fun _ _ h1 h2 => run_neq (h1.ev rfl) (h1.ev rfl)) ?_
 refine Tr.nil (Tr.normThen ?_)
 refine Tr.cond rfl H (fun H => ?_) (fun H => ?_)
 ·refine Tr.sr ?_
  refine Tr.asg rfl rfl ?_
  refine Tr.nil (Tr.normThen ?_)
  refine Tr.ret (Tr.retThen ?_)
  obtain rfl := Option.some.inj H
  exact Tr.out (m := [(.bool false)]) [] (res_tmp rfl res_nil) (fun W hW => ⟨rfl, hW.low leB⟩)
 ·refine Tr.skip (Tr.normThen ?_)
  refine Tr.seq ?_
  refine Tr.sr ?_
  refine Tr.mv rfl rfl ?_
  refine Tr.va rfl (fun _ _ h1 h2 => run_len un_97 (h1.ev rfl)) ?_
  refine Tr.mv rfl rfl ?_
  refine Tr.nil (Tr.normThen ?_)
  refine Tr.block ?_
  refine Tr.loop (σ := (List Int) × Nat) (fun m w s => m = s.1.length + 1 ∧ s.1 = List.drop s.2 p0 ∧ s.2 ≤ p0.length ∧ F_slices_Equal_int_L1 p1 s.1 s.2 = some r) (fun s => [(0, (.slice Ap0_0 (p0).length cp0_0)), (1, (.slice Ap1_0 (p1).length cp1_0)), (12, (.int .i64 (p0.length : Int))), (13, (.int .i64 (s.2 : Int)))]) (fun s => []) (p0.length + 1) (p0, 0) ⟨rfl, rfl, Nat.zero_le _, H⟩ (.cons rfl (.cons rfl (.cons rfl (.cons rfl .nil)))) .nil (fun _ _ h => absurd h.1 (by simp)) ?_
  intro w leF_slices_Equal_int_L1 m s hs
  obtain ⟨restF_slices_Equal_int_L1, iF_slices_Equal_int_L1⟩ := s
  obtain ⟨hmF_slices_Equal_int_L1, hdF_slices_Equal_int_L1, hiF_slices_Equal_int_L1, H⟩ := hs
  replace hdF_slices_Equal_int_L1 : restF_slices_Equal_int_L1 = List.drop iF_slices_Equal_int_L1 p0 := hdF_slices_Equal_int_L1
  replace H : F_slices_Equal_int_L1 p1 restF_slices_Equal_int_L1 iF_slices_Equal_int_L1 = some r := H
  replace hmF_slices_Equal_int_L1 : m + 1 = restF_slices_Equal_int_L1.length + 1 := hmF_slices_Equal_int_L1
  replace hp0_0 := hp0_0.leR leF_slices_Equal_int_L1
  replace hp1_0 := hp1_0.leR leF_slices_Equal_int_L1
  replace leB := leB.trans leF_slices_Equal_int_L1
  obtain rfl : m = restF_slices_Equal_int_L1.length := by omega
  clear hmF_slices_Equal_int_L1
  show Tr _ _ (LF [(0, (.slice Ap0_0 (p0).length cp0_0)), (1, (.slice Ap1_0 (p1).length cp1_0)), (12, (.int .i64 (p0.length : Int))), (13, (.int .i64 (iF_slices_Equal_int_L1 : Int)))]) (LE []) _
  cases restF_slices_Equal_int_L1 with
  | nil =>
   rw [F_slices_Equal_int_L1.eq_1] at H
   refine Tr.sr ?_
   refine Tr.va rfl (fun _ _ h1 h2 => run_lss (h1.ev rfl) (h1.ev rfl)) ?_
   refine Tr.nil (Tr.normThen ?_)
   refine Tr.seq ?_
   refine Tr.condF rfl (range_nil hdF_slices_Equal_int_L1) ?_
   refine Tr.exit (Tr.exitThen (Tr.exitThen (Tr.exitBlock (Tr.normThen ?_))))
   refine Tr.sr ?_
   refine Tr.asg rfl rfl ?_
   refine Tr.nil (Tr.normThen ?_)
   refine Tr.ret ?_
   obtain rfl := Option.some.inj H
   exact Tr.out (m := [(.bool true)]) [] (res_tmp rfl res_nil) (fun W hW => ⟨rfl, hW.low leB⟩)
  | cons xF_slices_Equal_int_L1 restF_slices_Equal_int_L1 =>
   rw [F_slices_Equal_int_L1.eq_2] at H
   refine Tr.sr ?_
   refine Tr.va rfl (fun _ _ h1 h2 => run_lss (h1.ev rfl) (h1.ev rfl)) ?_
   refine Tr.nil (Tr.normThen ?_)
   refine Tr.seq ?_
   refine Tr.condT rfl (range_on hdF_slices_Equal_int_L1) ?_
   refine Tr.skip (Tr.normThen ?_)
   refine Tr.seq ?_
   refine Tr.block ?_
   refine Tr.sr ?_
   refine Tr.mv rfl rfl ?_
   refine Tr.asg rfl rfl ?_
   refine Tr.nil (Tr.normThen ?_)
   refine Tr.seq ?_
   refine Tr.draw (by kernel_rfl) (by kernel_rfl) ?_
   refine Tq.mv rfl rfl ?_
   refine Tq.mv rfl rfl ?_
   refine Tq.va rfl (fun _ _ h1 h2 => run_indexAddr el_97 (h1.ev rfl) hp0_0.form (h1.ev rfl) (Int.natCast_nonneg _) (range_lt hdF_slices_Equal_int_L1)) ?_
   refine Tq.va rfl (fun _ _ h1 h2 => run_load1 ag_3 (h1.ev rfl) (rdF ef_i64 hp0_0 (range_at hdF_slices_Equal_int_L1) h2) rfl) ?_
   refine Tq.mv rfl rfl ?_
   refine Tq.mv rfl rfl ?_
   obtain ⟨x103, hx103, H⟩ := bnd H
   obtain ⟨hx1030, hx1031, hx1032⟩ := idx_some hx103
   refine Tq.va rfl (fun _ _ h1 h2 => run_indexAddr el_97 (h1.ev rfl) hp1_0.form (h1.ev rfl) hx1030 hx1031) ?_
   refine Tq.va rfl (fun _ _ h1 h2 => run_load1 ag_3 (h1.ev rfl) (rdF ef_i64 hp1_0 hx1032 h2) rfl) ?_
   refine Tq.va rfl (fun _ _ h1 h2 => run_neq (h1.ev rfl) (h1.ev rfl)) ?_
   refine Tq.nil (Tr.normThen ?_)
   refine Tr.cond rfl H (fun H => ?_) (fun H => ?_)
   ·refine Tr.sr ?_
    refine Tr.asg rfl rfl ?_
    refine Tr.nil (Tr.normThen ?_)
    refine Tr.ret (Tr.retBlock (Tr.retThen (Tr.retThen (Tr.retBlock (Tr.retThen ?_)))))
    obtain rfl := Option.some.inj H
    exact Tr.out (m := [(.bool false)]) [] (res_tmp rfl res_nil) (fun W hW => ⟨rfl, hW.low leB⟩)
   ·refine Tr.skip (Tr.normBlock (Tr.normThen ?_))
    refine Tr.region ?_
    refine Tr.va rfl (fun _ _ h1 h2 => run_add (h1.ev rfl) (h1.ev rfl)) ?_
    refine Tr.mv rfl rfl ?_
    refine Tr.nil ?_
    exact Tr.backThen leF_slices_Equal_int_L1 (restF_slices_Equal_int_L1, (iF_slices_Equal_int_L1 + 1)) ⟨rfl, range_tl hdF_slices_Equal_int_L1, range_lt hdF_slices_Equal_int_L1, H⟩ (.cons rfl (.cons rfl (.cons rfl (.cons (congrArg (fun z => some (Value.int .i64 z)) (range_up hdF_slices_Equal_int_L1 hp0_0.form)) .nil)))) .nil

theorem F_shape_Set__push_ok {w : Bs} (p0 : (List TBand)) (Ap0_0 : Option Addr) (cp0_0 : Nat) (p1 : TBand) (Ap1_0 : Option Addr) (cp1_0 : Nat) (hp1_0 : Sl w.O w.W fl_i64 Ap1_0 cp1_0 p1.Xs) (r : (List TBand)) (H : F_shape_Set__push p0 p1 = some r) (hE : HF w w.W (LEn [ow Ap0_0 cp0_0 104 fl_TBand p0])) : Calls Try.prog 76 [(.slice Ap0_0 (p0).length cp0_0), (.agg #[(.int .i64 p1.Y0), (.int .i64 p1.Y1), (.slice Ap1_0 (p1.Xs).length cp1_0)])].toArray w.W fun e W' => ∃ (w' : Bs) (u : (Option Addr × Nat)), w.Le w' ∧ e = .returned (.slice u.1 (r).length u.2) ∧ (SlF u.1 (r).length u.2) ∧ HF w' W' (LEn [ow u.1 u.2 104 fl_TBand r]) := by
 unfold F_shape_Set__push at H
 have hfhp0_0 := (hE.sl (k := 0) rfl).form
 have leB := Bs.Le.refl w
 refine Tr.enter (n := 54) Try.func76 rfl rfl rfl hE ?_
 refine Tr.sr ?_
 refine Tr.box 1 (cs := [(.int .i64 p1.Y0), (.int .i64 p1.Y1), (.slice Ap1_0 (p1.Xs).length cp1_0)]) (wn rfl) rfl rfl rfl fun b100 => ?_
 refine Tr.asg rfl rfl ?_
 refine Tr.nilOwn 2 104 fl_TBand ?_
 show Tr _ _ (uf _ 4 (.slice none (([] : List TBand)).length 0)) _ _
 refine Tr.nil (Tr.normThen ?_)
 refine Tr.seq ?_
 refine Tr.sr ?_
 refine Tr.va rfl (fun _ _ h1 h2 => run_fieldAddr fo_104_2 (h1.ev rfl)) ?_
 refine Tr.va rfl (fun _ _ h1 h2 => run_load1 ag_97 (h1.ev rfl) (rdb h2 (vs := [(.int .i64 p1.Y0), (.int .i64 p1.Y1), (.slice Ap1_0 (p1.Xs).length cp1_0)]) (k := 1) rfl 2) rfl) ?_
 refine Tr.va rfl (fun _ _ h1 h2 => run_len un_97 (h1.ev rfl)) ?_
 refine Tr.va rfl (fun _ _ h1 h2 => run_eql (h1.ev rfl) (h1.ev rfl)) ?_
 refine Tr.mv rfl rfl ?_
 refine Tr.mid0 6 [(0, (.slice Ap0_0 (p0).length cp0_0)), (3, (.pointer (some ⟨b100, 0, none⟩))), (16, (.bool (((p1.Xs.length : Int) == 0) || (decide (p1.Y1 ≤ p1.Y0)))))] [(0, ow Ap0_0 cp0_0 104 fl_TBand p0), (1, bx b100 #[(.int .i64 p1.Y0), (.int .i64 p1.Y1), (.slice Ap1_0 (p1.Xs).length cp1_0)] 104), (2, ow none 0 104 fl_TBand ([] : List TBand))] ?_ ?_
 ·cases hg114 : ((p1.Xs.length : Int) == 0)
  ·refine Tr.val (wg rfl rfl rfl) rfl (fun _ _ h1 h2 => run_fieldAddr fo_104_1 (h1.ev rfl)) ?_
   refine Tr.val (wg rfl rfl rfl) rfl (fun _ _ h1 h2 => run_load1 ag_3 (h1.ev rfl) (rdb h2 (vs := [(.int .i64 p1.Y0), (.int .i64 p1.Y1), (.slice Ap1_0 (p1.Xs).length cp1_0)]) (k := 1) rfl 1) rfl) ?_
   refine Tr.val (wg rfl rfl rfl) rfl (fun _ _ h1 h2 => run_fieldAddr fo_104_0 (h1.ev rfl)) ?_
   refine Tr.val (wg rfl rfl rfl) rfl (fun _ _ h1 h2 => run_load1 ag_3 (h1.ev rfl) (rdb h2 (vs := [(.int .i64 p1.Y0), (.int .i64 p1.Y1), (.slice Ap1_0 (p1.Xs).length cp1_0)]) (k := 1) rfl 0) rfl) ?_
   refine Tr.val (wg rfl rfl rfl) rfl (fun _ _ h1 h2 => run_leq (h1.ev rfl) (h1.ev rfl)) ?_
   refine Tr.va rfl (fun _ _ h1 h2 => run_pickF (h1.ev rfl) (h1.ev rfl)) ?_
   exact Tr.nil (Tr.fin0 (.cons rfl (.cons rfl (.cons rfl .nil))) (.cons rfl (.cons rfl (.cons rfl .nil))))
  ·refine Tr.pass rfl rfl rfl rfl rfl (by decide) ?_
   refine Tr.pass rfl rfl rfl rfl rfl (by decide) ?_
   refine Tr.pass rfl rfl rfl rfl rfl (by decide) ?_
   refine Tr.pass rfl rfl rfl rfl rfl (by decide) ?_
   refine Tr.pass rfl rfl rfl rfl rfl (by decide) ?_
   refine Tr.va rfl (fun _ _ h1 h2 => run_pickT (h1.ev rfl) (h1.ev rfl)) ?_
   exact Tr.nil (Tr.fin0 (.cons rfl (.cons rfl (.cons rfl .nil))) (.cons rfl (.cons rfl (.cons rfl .nil))))
 ·show Tr _ _ (LF [(0, (.slice Ap0_0 (p0).length cp0_0)), (3, (.pointer (some ⟨b100, 0, none⟩))), (16, (.bool (((p1.Xs.length : Int) == 0) || (decide (p1.Y1 ≤ p1.Y0)))))]) (LE [(0, ow Ap0_0 cp0_0 104 fl_TBand p0), (1, bx b100 #[(.int .i64 p1.Y0), (.int .i64 p1.Y1), (.slice Ap1_0 (p1.Xs).length cp1_0)] 104), (2, ow none 0 104 fl_TBand ([] : List TBand))]) _
  refine Tr.nil (Tr.normThen ?_)
  refine Tr.cond rfl H (fun H => ?_) (fun H => ?_)
  ·refine Tr.sr ?_
   refine Tr.mv rfl rfl ?_
   refine Tr.asg rfl rfl ?_
   refine Tr.nil (Tr.normThen ?_)
   refine Tr.ret (Tr.retThen ?_)
   obtain rfl := Option.some.inj H
   exact Tr.out (m := [(.slice Ap0_0 (p0).length cp0_0)]) [] (res_tmp rfl res_nil) (fun W hW => ⟨w, (Ap0_0, cp0_0), leB, rfl, hfhp0_0, hW.pick (ks := [0]) (by decide) (pk_cons rfl pk_nil)⟩)
  ·refine Tr.skip (Tr.normThen ?_)
   refine Tr.seq ?_
   refine Tr.sr ?_
   refine Tr.mv rfl rfl ?_
   refine Tr.va rfl (fun _ _ h1 h2 => run_len un_65 (h1.ev rfl)) ?_
   refine Tr.va rfl (fun _ _ h1 h2 => run_sub (h1.ev rfl) (h1.ev rfl)) ?_
   refine Tr.asg rfl rfl ?_
   refine Tr.nil (Tr.normThen ?_)
   refine Tr.seq ?_
   refine Tr.draw (by kernel_rfl) (by kernel_rfl) ?_
   refine Tq.mv rfl rfl ?_
   refine Tq.va rfl (fun _ _ h1 h2 => run_geq (h1.ev rfl) (h1.ev rfl)) ?_
   refine Tq.mv rfl rfl ?_
   obtain ⟨g102, hg102, H⟩ := bnd H
   refine Tq.mid 9 [(0, (.slice Ap0_0 (p0).length cp0_0)), (3, (.pointer (some ⟨b100, 0, none⟩))), (5, (.int .i64 (w64 ((p0.length : Int) - 1)))), (32, (.bool g102))] ?_ ?_
   ·cases hg114 : (decide (0 ≤ (w64 ((p0.length : Int) - 1))))
    ·rw [hg114] at hg102
     rw [if_neg (by decide)] at hg102
     have H := hg102
     obtain rfl := Option.some.inj H
     refine Tq.pass rfl rfl rfl rfl rfl (by decide) ?_
     refine Tq.pass rfl rfl rfl rfl rfl (by decide) ?_
     refine Tq.pass rfl rfl rfl rfl rfl (by decide) ?_
     refine Tq.pass rfl rfl rfl rfl rfl (by decide) ?_
     refine Tq.pass rfl rfl rfl rfl rfl (by decide) ?_
     refine Tq.pass rfl rfl rfl rfl rfl (by decide) ?_
     refine Tq.pass rfl rfl rfl rfl rfl (by decide) ?_
     refine Tq.pass rfl rfl rfl rfl rfl (by decide) ?_
     refine Tq.va rfl (fun _ _ h1 h2 => run_pickF (h1.ev rfl) (h1.ev rfl)) ?_
     exact Tq.fin (.cons rfl (.cons rfl (.cons rfl (.cons rfl .nil))))
    ·rw [hg114] at hg102
     rw [if_pos rfl] at hg102
     have H := hg102
     refine Tq.val (wg rfl rfl rfl) rfl (fun _ _ h1 h2 => run_move (h1.ev rfl)) ?_
     refine Tq.val (wg rfl rfl rfl) rfl (fun _ _ h1 h2 => run_move (h1.ev rfl)) ?_
     obtain ⟨x103, hx103, H⟩ := bnd H
     obtain ⟨hx1030, hx1031, hx1032⟩ := idx_some hx103
     refine Tq.val (wg rfl rfl rfl) rfl (fun _ _ h1 h2 => run_indexAddr el_65 (h1.ev rfl) hfhp0_0 (h1.ev rfl) hx1030 hx1031) ?_
     refine Tq.val (wg rfl rfl rfl) rfl (fun _ _ h1 h2 => run_fieldAddr fo_104_1 (h1.ev rfl)) ?_
     refine Tq.val (wg rfl rfl rfl) rfl (fun _ _ h1 h2 => (HF.atN (k := 0) h2 rfl hx1032).elim fun u hu => run_load1 ag_3 (h1.ev rfl) (hu.2.drop 1) rfl) ?_
     refine Tq.val (wg rfl rfl rfl) rfl (fun _ _ h1 h2 => run_fieldAddr fo_104_0 (h1.ev rfl)) ?_
     refine Tq.val (wg rfl rfl rfl) rfl (fun _ _ h1 h2 => run_load1 ag_3 (h1.ev rfl) (rdb h2 (vs := [(.int .i64 p1.Y0), (.int .i64 p1.Y1), (.slice Ap1_0 (p1.Xs).length cp1_0)]) (k := 1) rfl 0) rfl) ?_
     refine Tq.val (wg rfl rfl rfl) rfl (fun _ _ h1 h2 => run_eql (h1.ev rfl) (h1.ev rfl)) ?_
     refine Tq.va rfl (fun _ _ h1 h2 => run_pickT (h1.ev rfl) (h1.ev rfl)) ?_
     obtain rfl := Option.some.inj H
     exact Tq.fin (.cons rfl (.cons rfl (.cons rfl (.cons rfl .nil))))
   ·refine Tq.mv rfl rfl ?_
    obtain ⟨g107, hg107, H⟩ := bnd H
    refine Tq.mid 9 [(0, (.slice Ap0_0 (p0).length cp0_0)), (3, (.pointer (some ⟨b100, 0, none⟩))), (5, (.int .i64 (w64 ((p0.length : Int) - 1)))), (42, (.bool g107))] ?_ ?_
    ·cases hg114 : g102
     ·rw [hg114] at hg107
      rw [if_neg (by decide)] at hg107
      have H := hg107
      obtain rfl := Option.some.inj H
      refine Tq.pass rfl rfl rfl rfl rfl (by decide) ?_
      refine Tq.pass rfl rfl rfl rfl rfl (by decide) ?_
      refine Tq.pass rfl rfl rfl rfl rfl (by decide) ?_
      refine Tq.pass rfl rfl rfl rfl rfl (by decide) ?_
      refine Tq.pass rfl rfl rfl rfl rfl (by decide) ?_
      refine Tq.pass rfl rfl rfl rfl rfl (by decide) ?_
      refine Tq.pass rfl rfl rfl rfl rfl (by decide) ?_
      refine Tq.pass rfl rfl rfl rfl rfl (by decide) ?_
      refine Tq.va rfl (fun _ _ h1 h2 => run_pickF (h1.ev rfl) (h1.ev rfl)) ?_
      exact Tq.fin (.cons rfl (.cons rfl (.cons rfl (.cons rfl .nil))))
     ·rw [hg114] at hg107
      rw [if_pos rfl] at hg107
      have H := hg107
      refine Tq.val (wg rfl rfl rfl) rfl (fun _ _ h1 h2 => run_move (h1.ev rfl)) ?_
      refine Tq.val (wg rfl rfl rfl) rfl (fun _ _ h1 h2 => run_move (h1.ev rfl)) ?_
      obtain ⟨x108, hx108, H⟩ := bnd H
      obtain ⟨hx1080, hx1081, hx1082⟩ := idx_some hx108
      refine Tq.val (wg rfl rfl rfl) rfl (fun _ _ h1 h2 => run_indexAddr el_65 (h1.ev rfl) hfhp0_0 (h1.ev rfl) hx1080 hx1081) ?_
      refine Tq.val (wg rfl rfl rfl) rfl (fun _ _ h1 h2 => run_fieldAddr fo_104_2 (h1.ev rfl)) ?_
      refine Tq.valE (U := (fl_TBand).Ad) (fun u => (fl_TBand).ok w.O w.W u x108) (fun u => (.slice u.1 (x108.Xs).length u.2)) (wg rfl rfl rfl) rfl (ldN (κ := 0) (t := fl_TBand) (V := fun u => (.slice u.1 (x108.Xs).length u.2)) rfl hx1082 (fun _ _ u h1 hc => run_load1 ag_97 (h1.ev rfl) (hc.drop 2) rfl)) ?_
      intro u109 hoku109
      obtain ⟨Au109_0, cu109_0⟩ := u109
      have hoku109_0 := hoku109
      replace hoku109_0 : Sl w.O w.W fl_i64 Au109_0 cu109_0 x108.Xs := hoku109_0
      show Tq _ _ _ _ (uf _ 38 (.slice Au109_0 (x108.Xs).length cu109_0)) _ _ _
      refine Tq.val (wg rfl rfl rfl) rfl (fun _ _ h1 h2 => run_fieldAddr fo_104_2 (h1.ev rfl)) ?_
      refine Tq.val (wg rfl rfl rfl) rfl (fun _ _ h1 h2 => run_load1 ag_97 (h1.ev rfl) (rdb h2 (vs := [(.int .i64 p1.Y0), (.int .i64 p1.Y1), (.slice Ap1_0 (p1.Xs).length cp1_0)]) (k := 1) rfl 2) rfl) ?_
      obtain ⟨y110, hy110, H⟩ := bnd H
      refine Tq.call0 (r := (.bool y110)) (wg rfl rfl rfl) rfl Try.call113 (evl_cons rfl (evl_cons rfl evl_nil)) (fun W hW => F_slices_Equal_int_ok x108.Xs Au109_0 cu109_0 (hoku109_0.rl.ext hW.extAll) p1.Xs Ap1_0 cp1_0 (hp1_0.rl.ext hW.extAll) y110 hy110 (HF.start _)) ?_
      refine Tq.va rfl (fun _ _ h1 h2 => run_pickT (h1.ev rfl) (h1.ev rfl)) ?_
      obtain rfl := Option.some.inj H
      exact Tq.fin (.cons rfl (.cons rfl (.cons rfl (.cons rfl .nil))))
    ·refine Tq.nil (Tr.normThen ?_)
     refine Tr.cond rfl H (fun H => ?_) (fun H => ?_)
     ·refine Tr.sr ?_
      refine Tr.mv rfl rfl ?_
      refine Tr.mv rfl rfl ?_
      refine Tr.va rfl (fun _ _ h1 h2 => run_fieldAddr fo_104_1 (h1.ev rfl)) ?_
      refine Tr.va rfl (fun _ _ h1 h2 => run_load1 ag_3 (h1.ev rfl) (rdb h2 (vs := [(.int .i64 p1.Y0), (.int .i64 p1.Y1), (.slice Ap1_0 (p1.Xs).length cp1_0)]) (k := 1) rfl 1) rfl) ?_
      obtain ⟨x111, hx111, H⟩ := bnd H
      obtain ⟨hx1110, hx1111, hx1112⟩ := idx_some hx111
      refine Tr.va rfl (fun _ _ h1 h2 => run_indexAddr el_65 (h1.ev rfl) hfhp0_0 (h1.ev rfl) hx1110 hx1111) ?_
      refine Tr.va rfl (fun _ _ h1 h2 => run_fieldAddr fo_104_1 (h1.ev rfl)) ?_
      obtain ⟨l112, hl112, H⟩ := bnd H
      have hnl112 := sets_len hl112
      refine Tr.storeEl 0 (t := fl_TBand) (l := p0) (i := (w64 ((p0.length : Int) - 1))) (fo := 1) (cs := [(.int .i64 p1.Y1)]) (TBand.mk x111.Y0 p1.Y1 x111.Xs) (wn rfl) rfl rfl rfl rfl rfl hx1112 sz_3 rfl (fun u hu => ⟨u, hu, rfl⟩) rfl hl112 ?_
      have hfl112 : SlF Ap0_0 (l112).length cp0_0 := by rw [hnl112]; exact hfhp0_0
      have hsl112 := hnl112.trans rfl
      refine Tr.sel (lf := [(0, (.slice Ap0_0 (l112).length cp0_0)), (3, (.pointer (some ⟨b100, 0, none⟩))), (5, (.int .i64 (w64 ((p0.length : Int) - 1)))), (42, (.bool g107)), (43, (.slice Ap0_0 (l112).length cp0_0)), (44, (.int .i64 (w64 ((p0.length : Int) - 1)))), (45, (.pointer (some ⟨b100, 1, none⟩))), (46, (.int .i64 p1.Y1))]) (le := [(0, ow Ap0_0 cp0_0 104 fl_TBand l112), (1, bx b100 #[(.int .i64 p1.Y0), (.int .i64 p1.Y1), (.slice Ap1_0 (p1.Xs).length cp1_0)] 104), (2, ow none 0 104 fl_TBand ([] : List TBand))]) (.cons (slenV rfl (by rw [hnl112])) (.cons rfl (.cons rfl (.cons rfl (.cons (slenV rfl (by rw [hnl112])) (.cons rfl (.cons rfl (.cons rfl .nil)))))))) (.cons rfl (.cons rfl (.cons rfl .nil))) ?_
      refine Tr.nil (Tr.normThen ?_)
      refine Tr.sr ?_
      refine Tr.mv rfl rfl ?_
      refine Tr.asg rfl rfl ?_
      refine Tr.nil (Tr.normThen ?_)
      refine Tr.ret (Tr.retThen ?_)
      obtain rfl := Option.some.inj H
      exact Tr.out (m := [(.slice Ap0_0 (l112).length cp0_0)]) [] (res_tmp rfl res_nil) (fun W hW => ⟨w, (Ap0_0, cp0_0), leB, rfl, hfl112, hW.pick (ks := [0]) (by decide) (pk_cons rfl pk_nil)⟩)
     ·refine Tr.skip (Tr.normThen ?_)
      refine Tr.sr ?_
      refine Tr.mv rfl rfl ?_
      refine Tr.va rfl (fun _ _ h1 h2 => run_loadN (cs := [(.int .i64 p1.Y0), (.int .i64 p1.Y1), (.slice Ap1_0 (p1.Xs).length cp1_0)]) ag_104 sz_104 (h1.ev rfl) (CellsAt.take (rdb h2 (vs := [(.int .i64 p1.Y0), (.int .i64 p1.Y1), (.slice Ap1_0 (p1.Xs).length cp1_0)]) (k := 1) rfl 0) 3) rfl) ?_
      refine Tr.buildSlice 3 (e := 104) (vs := [(0, (.agg #[(.int .i64 p1.Y0), (.int .i64 p1.Y1), (.slice Ap1_0 (p1.Xs).length cp1_0)]))]) (cs := [(.int .i64 p1.Y0), (.int .i64 p1.Y1), (.slice Ap1_0 (p1.Xs).length cp1_0)]) (wn rfl) rfl (evs_cons rfl evs_nil) (by kernel_rfl) fun b113 => ?_
      obtain ⟨l114, hl114, H⟩ := bnd H
      refine Tr.append 0 (t := fl_TBand) (l := p0) (l2 := [p1]) (wn rfl) rfl rfl rfl rfl (fun W hW => ⟨[[(.int .i64 p1.Y0), (.int .i64 p1.Y1), (.slice Ap1_0 (p1.Xs).length cp1_0)]], (.cons ⟨(Ap1_0, cp1_0), hp1_0, rfl⟩ .nil), rdb hW (vs := [(.int .i64 p1.Y0), (.int .i64 p1.Y1), (.slice Ap1_0 (p1.Xs).length cp1_0)]) (k := 3) rfl 0⟩) un_65 sz_104 zl_104 (by decide) by_104 rfl hl114 fun Al114 cl114 hAl114 => ?_
      refine Tr.asg rfl rfl ?_
      refine Tr.nil (Tr.normThen ?_)
      refine Tr.ret ?_
      obtain rfl := Option.some.inj H
      exact Tr.out (m := [(.slice Al114 (l114).length cl114)]) [] (res_tmp rfl res_nil) (fun W hW => ⟨w, (Al114, cl114), leB, rfl, hAl114, hW.pick (ks := [0]) (by decide) (pk_cons rfl pk_nil)⟩)

theorem F_shape_SetOf_ok (N : Nat) {w : Bs} (p0 : (List TRect)) (Ap0_0 : Option Addr) (cp0_0 : Nat) (hp0_0 : Sl w.R w.W fl_TRect Ap0_0 cp0_0 p0) (r : (List TBand)) (H : F_shape_SetOf N p0 = some r) (hE : HF w w.W (LEn [emp])) : Calls Try.prog 40 [(.slice Ap0_0 (p0).length cp0_0)].toArray w.W fun e W' => ∃ (w' : Bs) (u : (Option Addr × Nat)), w.Le w' ∧ e = .returned (.slice u.1 (r).length u.2) ∧ (SlF u.1 (r).length u.2) ∧ HF w' W' (LEn [ow u.1 u.2 104 fl_TBand r]) := by
 unfold F_shape_SetOf at H
 have leB := Bs.Le.refl w
 refine Tr.enter (n := 83) Try.func40 rfl rfl rfl hE ?_
 refine Tr.sr ?_
 refine Tr.asg rfl rfl ?_
 refine Tr.nilOwn 1 104 fl_TBand ?_
 show Tr _ _ (uf _ 2 (.slice none (([] : List TBand)).length 0)) _ _
 refine Tr.nil (Tr.normThen ?_)
 refine Tr.sr ?_
 refine Tr.mv rfl rfl ?_
 obtain ⟨y100, hy100, H⟩ := bnd H
 refine Tr.callM [2] [emp] (U := (Option Addr × Nat)) (fun u => (.slice u.1 (y100).length u.2)) (fun u => SlF u.1 (y100).length u.2) (fun u => [ow u.1 u.2 29 fl_TRect y100]) rfl (pk_cons rfl pk_nil) (fun _ => rfl) (wn rfl) rfl Try.call29 (evl_cons rfl evl_nil) (fun W hW hp hE => F_slices_Clone_Rect_ok p0 Ap0_0 cp0_0 (hp0_0.ext (hW.extS hp)) y100 hy100 hE) ?_
 intro u hu
 obtain ⟨Ay100_0, cy100_0⟩ := u
 have gy100_0 := hu
 have hgy100_0 : SlF Ay100_0 (y100).length cy100_0 := gy100_0 --@phi
 show Tr _ _ (uf _ 11 (.slice Ay100_0 (y100).length cy100_0)) (up _ 2 (ow Ay100_0 cy100_0 29 fl_TRect y100)) _
 refine Tr.asg rfl rfl ?_
 refine Tr.nil (Tr.normThen ?_)
 refine Tr.sr ?_
 refine Tr.mv rfl rfl ?_
 obtain ⟨y102, hy102, H⟩ := bnd H
 refine Tr.callM [2] [ow Ay100_0 cy100_0 29 fl_TRect y100] (U := Unit) (fun u => (.tuple #[])) (fun u => (y102).length = (y100).length) (fun u => [ow Ay100_0 cy100_0 29 fl_TRect y102]) rfl (pk_cons rfl pk_nil) (fun _ => rfl) (wn rfl) rfl Try.call70 (evl_cons rfl (evl_cons rfl evl_nil)) (fun W hW hp hE => F_slices_SortFunc_TRect_ok y100 Ay100_0 cy100_0 (fun z0 z1 => F_shape_SetOf_1 z0 z1) 71 [] Try.call71 (fun w' he z0 z1 y hy => F_shape_SetOf_1_ok z0 z1 y hy (HF.start _)) y102 hy102 hE) ?_
 intro u hu
 have gky102_0 := hu
 have hgky102_0 : (y102).length = (y100).length := gky102_0 --@phi
 have hfky102_0 : SlF Ay100_0 (y102).length cy100_0 := by rw [hgky102_0]; exact hgy100_0
 show Tr _ _ (uf _ 13 (.tuple #[])) (up _ 2 (ow Ay100_0 cy100_0 29 fl_TRect y102)) _
 refine Tr.sel (lf := [(0, (.slice Ay100_0 (y102).length cy100_0)), (2, (.slice none (([] : List TBand)).length 0)), (10, (.slice Ap0_0 (p0).length cp0_0)), (11, (.slice Ay100_0 (y102).length cy100_0)), (12, (.slice Ay100_0 (y102).length cy100_0)), (13, (.tuple #[]))]) (le := [(1, ow none 0 104 fl_TBand ([] : List TBand)), (2, ow Ay100_0 cy100_0 29 fl_TRect y102)]) (.cons (slenV rfl (by rw [hgky102_0])) (.cons rfl (.cons rfl (.cons (slenV rfl (by rw [hgky102_0])) (.cons (slenV rfl (by rw [hgky102_0])) (.cons rfl .nil)))))) (.cons rfl (.cons rfl .nil)) ?_
 refine Tr.nil (Tr.normThen ?_)
 refine Tr.sr ?_
 refine Tr.alloc 3 (wn rfl) rfl ze_97 fun b104 => ?_
 refine Tr.nil (Tr.normThen ?_)
 refine Tr.seq ?_
 refine Tr.sr ?_
 refine Tr.mv rfl rfl ?_
 refine Tr.va rfl (fun _ _ h1 h2 => run_len un_22 (h1.ev rfl)) ?_
 refine Tr.mv rfl rfl ?_
 refine Tr.nil (Tr.normThen ?_)
 refine Tr.block ?_
 refine Tr.nilOwn 12 3 fl_i64 ?_
 refine Tr.loop (σ := (List TRect) × Nat × (List Int) × (Option Addr) × Nat) (fun m w s => m = s.1.length + 1 ∧ s.1 = List.drop s.2.1 y102 ∧ s.2.1 ≤ y102.length ∧ F_shape_SetOf_L1 N y102 s.1 s.2.1 s.2.2.1 = some r ∧ SlF s.2.2.2.1 (s.2.2.1).length s.2.2.2.2) (fun s => [(0, (.slice Ay100_0 (y102).length cy100_0)), (3, (.pointer (some ⟨b104, 0, none⟩))), (14, (.slice Ay100_0 (y102).length cy100_0)), (15, (.int .i64 (y102.length : Int))), (16, (.int .i64 (s.2.1 : Int)))]) (fun s => [(2, ow Ay100_0 cy100_0 29 fl_TRect y102), (3, bx b104 #[(.slice s.2.2.2.1 (s.2.2.1).length s.2.2.2.2)] 97), (12, ow s.2.2.2.1 s.2.2.2.2 3 fl_i64 s.2.2.1)]) (y102.length + 1) (y102, 0, ([] : List Int), none, 0) ⟨rfl, rfl, Nat.zero_le _, H, slf_nil⟩ (.cons rfl (.cons rfl (.cons rfl (.cons rfl (.cons rfl .nil))))) (.cons rfl (.cons rfl (.cons rfl .nil))) (fun _ _ h => absurd h.1 (by simp)) ?_
 intro w leF_shape_SetOf_L1 m s hs
 obtain ⟨restF_shape_SetOf_L1, iF_shape_SetOf_L1, l119, Al119, cl119⟩ := s
 obtain ⟨hmF_shape_SetOf_L1, hdF_shape_SetOf_L1, hiF_shape_SetOf_L1, H, hl119⟩ := hs
 replace hdF_shape_SetOf_L1 : restF_shape_SetOf_L1 = List.drop iF_shape_SetOf_L1 y102 := hdF_shape_SetOf_L1
 replace H : F_shape_SetOf_L1 N y102 restF_shape_SetOf_L1 iF_shape_SetOf_L1 l119 = some r := H
 replace hmF_shape_SetOf_L1 : m + 1 = restF_shape_SetOf_L1.length + 1 := hmF_shape_SetOf_L1
 replace leB := leB.trans leF_shape_SetOf_L1
 replace hl119 : SlF Al119 (l119).length cl119 := hl119
 obtain rfl : m = restF_shape_SetOf_L1.length := by omega
 clear hmF_shape_SetOf_L1
 show Tr _ _ (LF [(0, (.slice Ay100_0 (y102).length cy100_0)), (3, (.pointer (some ⟨b104, 0, none⟩))), (14, (.slice Ay100_0 (y102).length cy100_0)), (15, (.int .i64 (y102.length : Int))), (16, (.int .i64 (iF_shape_SetOf_L1 : Int)))]) (LE [(2, ow Ay100_0 cy100_0 29 fl_TRect y102), (3, bx b104 #[(.slice Al119 (l119).length cl119)] 97), (12, ow Al119 cl119 3 fl_i64 l119)]) _
 cases restF_shape_SetOf_L1 with
 | nil =>
  rw [F_shape_SetOf_L1.eq_1] at H
  refine Tr.sr ?_
  refine Tr.va rfl (fun _ _ h1 h2 => run_lss (h1.ev rfl) (h1.ev rfl)) ?_
  refine Tr.nil (Tr.normThen ?_)
  refine Tr.seq ?_
  refine Tr.condF rfl (range_nil hdF_shape_SetOf_L1) ?_
  refine Tr.exit (Tr.exitThen (Tr.exitThen (Tr.exitBlock (Tr.normThen ?_))))
  refine Tr.sr ?_
  refine Tr.va rfl (fun _ _ h1 h2 => run_load1 ag_97 (h1.ev rfl) (rdb h2 (vs := [(.slice Al119 (l119).length cl119)]) (k := 3) rfl 0) rfl) ?_
  obtain ⟨y120, hy120, H⟩ := bnd H
  refine Tr.callM [12] [ow Al119 cl119 3 fl_i64 l119] (U := Unit) (fun u => (.tuple #[])) (fun u => (y120).length = (l119).length) (fun u => [ow Al119 cl119 3 fl_i64 y120]) rfl (pk_cons rfl pk_nil) (fun _ => rfl) (wn rfl) rfl Try.call72 (evl_cons rfl evl_nil) (fun W hW hp hE => F_slices_Sort_int_ok l119 Al119 cl119 y120 hy120 hE) ?_
  intro u hu
  have gky120_0 := hu
  have hgky120_0 : (y120).length = (l119).length := gky120_0 --@phi
  have hfky120_0 : SlF Al119 (y120).length cl119 := by rw [hgky120_0]; exact hl119
  show Tr _ _ (uf _ 29 (.tuple #[])) (up _ 12 (ow Al119 cl119 3 fl_i64 y120)) _
  refine Tr.sel (lf := [(0, (.slice Ay100_0 (y102).length cy100_0)), (3, (.pointer (some ⟨b104, 0, none⟩))), (14, (.slice Ay100_0 (y102).length cy100_0)), (15, (.int .i64 (y102.length : Int))), (16, (.int .i64 (iF_shape_SetOf_L1 : Int))), (17, (.bool (decide ((iF_shape_SetOf_L1 : Int) < (y102.length : Int))))), (28, (.slice Al119 (y120).length cl119)), (29, (.tuple #[]))]) (le := [(2, ow Ay100_0 cy100_0 29 fl_TRect y102), (3, bx b104 #[(.slice Al119 (y120).length cl119)] 97), (12, ow Al119 cl119 3 fl_i64 y120)]) (.cons rfl (.cons rfl (.cons rfl (.cons rfl (.cons rfl (.cons rfl (.cons (slenV rfl (by rw [hgky120_0])) (.cons rfl .nil)))))))) (.cons rfl (.cons (ebx rfl (by rw [hgky120_0])) (.cons rfl .nil))) ?_
  refine Tr.nil (Tr.normThen ?_)
  refine Tr.sr ?_
  refine Tr.va rfl (fun _ _ h1 h2 => run_load1 ag_97 (h1.ev rfl) (rdb h2 (vs := [(.slice Al119 (y120).length cl119)]) (k := 3) rfl 0) rfl) ?_
  obtain ⟨y122, hy122, H⟩ := bnd H
  refine Tr.callM [12] [ow Al119 cl119 3 fl_i64 y120] (U := (Option Addr × Nat)) (fun u => (.slice u.1 (y122).length u.2)) (fun u => SlF u.1 (y122).length u.2) (fun u => [ow u.1 u.2 3 fl_i64 y122]) rfl (pk_cons rfl pk_nil) (fun _ => rfl) (wn rfl) rfl Try.call73 (evl_cons rfl evl_nil) (fun W hW hp hE => F_slices_Compact_int_ok y120 Al119 cl119 y122 hy122 hE) ?_
  intro u hu
  obtain ⟨Ay122_0, cy122_0⟩ := u
  have gy122_0 := hu
  have hgy122_0 : SlF Ay122_0 (y122).length cy122_0 := gy122_0 --@phi
  show Tr _ _ (uf _ 31 (.slice Ay122_0 (y122).length cy122_0)) (up _ 12 (ow Ay122_0 cy122_0 3 fl_i64 y122)) _
  refine Tr.store 3 (cs := [(.slice Ay122_0 (y122).length cy122_0)]) [(.slice Ay122_0 (y122).length cy122_0)] (wn rfl) rfl rfl rfl rfl sz_97 rfl rfl rfl ?_
  refine Tr.nil (Tr.normThen ?_)
  refine Tr.sr ?_
  refine Tr.asg rfl rfl ?_
  refine Tr.nilOwn 13 104 fl_TBand ?_
  show Tr _ _ (uf _ 6 (.slice none (([] : List TBand)).length 0)) _ _
  refine Tr.nil (Tr.normThen ?_)
  refine Tr.sr ?_
  refine Tr.asg rfl rfl ?_
  refine Tr.nilOwn 14 29 fl_TRect ?_
  show Tr _ _ (uf _ 7 (.slice none (([] : List TRect)).length 0)) _ _
  refine Tr.nil (Tr.normThen ?_)
  refine Tr.sr ?_
  refine Tr.asg rfl rfl ?_
  refine Tr.nil (Tr.normThen ?_)
  refine Tr.seq ?_
  refine Tr.sr ?_
  refine Tr.alloc 15 (wn rfl) rfl ze_3 fun b124 => ?_
  refine Tr.store 15 (cs := [(.int .i64 0)]) [(.int .i64 0)] (wn rfl) rfl rfl rfl rfl sz_3 rfl rfl rfl ?_
  refine Tr.nil (Tr.normThen ?_)
  refine Tr.block ?_
  refine Tr.ren 15 29 rfl rfl rfl ?_
  refine Tr.loop (σ := Int × (List TBand) × (List TRect) × Int × Nat × (Option Addr) × Nat × (Option Addr) × Nat) (fun m w s => F_shape_SetOf_L4 N y102 y122 m s.1 s.2.1 s.2.2.1 s.2.2.2.1 = some r ∧ SlF s.2.2.2.2.2.1 (s.2.1).length s.2.2.2.2.2.2.1 ∧ SlF s.2.2.2.2.2.2.2.1 (s.2.2.1).length s.2.2.2.2.2.2.2.2) (fun s => [(0, (.slice Ay100_0 (y102).length cy100_0)), (3, (.pointer (some ⟨b104, 0, none⟩))), (6, (.slice s.2.2.2.2.2.1 (s.2.1).length s.2.2.2.2.2.2.1)), (7, (.slice s.2.2.2.2.2.2.2.1 (s.2.2.1).length s.2.2.2.2.2.2.2.2)), (8, (.int .i64 s.2.2.2.1)), (9, (.pointer (some ⟨s.2.2.2.2.1, 0, none⟩)))]) (fun s => [(2, ow Ay100_0 cy100_0 29 fl_TRect y102), (3, bx b104 #[(.slice Ay122_0 (y122).length cy122_0)] 97), (12, ow Ay122_0 cy122_0 3 fl_i64 y122), (13, ow s.2.2.2.2.2.1 s.2.2.2.2.2.2.1 104 fl_TBand s.2.1), (14, ow s.2.2.2.2.2.2.2.1 s.2.2.2.2.2.2.2.2 29 fl_TRect s.2.2.1), (29, bx s.2.2.2.2.1 #[(.int .i64 s.1)] 3)]) N (0, ([] : List TBand), ([] : List TRect), 0, b124, none, 0, none, 0) ⟨H, slf_nil, slf_nil⟩ (.cons rfl (.cons rfl (.cons rfl (.cons rfl (.cons rfl (.cons rfl .nil)))))) (.cons rfl (.cons rfl (.cons rfl (.cons rfl (.cons rfl (.cons rfl .nil)))))) (fun _ _ h => noSome (h.1)) ?_
  intro w leF_shape_SetOf_L4 mF_shape_SetOf_L4 s hs
  obtain ⟨x229, l230, l231, x232, bv227, Al230, cl230, Al231, cl231⟩ := s
  obtain ⟨H, hl230, hl231⟩ := hs
  replace H : F_shape_SetOf_L4 N y102 y122 (mF_shape_SetOf_L4 + 1) x229 l230 l231 x232 = some r := H
  replace leB := leB.trans leF_shape_SetOf_L4
  replace leF_shape_SetOf_L1 := leF_shape_SetOf_L1.trans leF_shape_SetOf_L4
  replace hl230 : SlF Al230 (l230).length cl230 := hl230
  replace hl231 : SlF Al231 (l231).length cl231 := hl231
  rw [F_shape_SetOf_L4.eq_2] at H
  show Tr _ _ (LF [(0, (.slice Ay100_0 (y102).length cy100_0)), (3, (.pointer (some ⟨b104, 0, none⟩))), (6, (.slice Al230 (l230).length cl230)), (7, (.slice Al231 (l231).length cl231)), (8, (.int .i64 x232)), (9, (.pointer (some ⟨bv227, 0, none⟩)))]) (LE [(2, ow Ay100_0 cy100_0 29 fl_TRect y102), (3, bx b104 #[(.slice Ay122_0 (y122).length cy122_0)] 97), (12, ow Ay122_0 cy122_0 3 fl_i64 y122), (13, ow Al230 cl230 104 fl_TBand l230), (14, ow Al231 cl231 29 fl_TRect l231), (29, bx bv227 #[(.int .i64 x229)] 3)]) _
  refine Tr.seq ?_
  refine Tr.sr ?_
  refine Tr.va rfl (fun _ _ h1 h2 => run_load1 ag_3 (h1.ev rfl) (rdb h2 (vs := [(.int .i64 x229)]) (k := 29) rfl 0) rfl) ?_
  refine Tr.va rfl (fun _ _ h1 h2 => run_add (h1.ev rfl) (h1.ev rfl)) ?_
  refine Tr.va rfl (fun _ _ h1 h2 => run_load1 ag_97 (h1.ev rfl) (rdb h2 (vs := [(.slice Ay122_0 (y122).length cy122_0)]) (k := 3) rfl 0) rfl) ?_
  refine Tr.va rfl (fun _ _ h1 h2 => run_len un_97 (h1.ev rfl)) ?_
  refine Tr.va rfl (fun _ _ h1 h2 => run_lss (h1.ev rfl) (h1.ev rfl)) ?_
  refine Tr.nil (Tr.normThen ?_)
  refine Tr.cond rfl H (fun H => ?_) (fun H => ?_)
  ·refine Tr.skip (Tr.normThen ?_)
   refine Tr.seq ?_
   refine Tr.block ?_
   refine Tr.sr ?_
   refine Tr.mv rfl rfl ?_
   refine Tr.mkFunc (vs := [(.pointer (some ⟨b104, 0, none⟩)), (.pointer (some ⟨bv227, 0, none⟩))]) (wn rfl) rfl (evl_cons rfl (evl_cons rfl evl_nil)) ?_
   obtain ⟨y233, hy233, H⟩ := bnd H
   refine Tr.callM [14] [ow Al231 cl231 29 fl_TRect l231] (U := (Option Addr × Nat)) (fun u => (.slice u.1 (y233).length u.2)) (fun u => SlF u.1 (y233).length u.2) (fun u => [ow u.1 u.2 29 fl_TRect y233]) rfl (pk_cons rfl pk_nil) (fun _ => rfl) (wn rfl) rfl Try.call74 (evl_cons rfl (evl_cons rfl evl_nil)) (fun W hW hp hE => F_slices_DeleteFunc_Rect_ok N l231 Al231 cl231 (fun z0 => F_shape_SetOf_2 z0 y122 x229) 75 [(.pointer (some ⟨b104, 0, none⟩)), (.pointer (some ⟨bv227, 0, none⟩))] Try.call75 (fun w' he z0 y hy => F_shape_SetOf_2_ok z0 y122 Ay122_0 cy122_0 ((hW.slS (k := 12) rfl hp rfl).ext he) b104 (he.r _ (hW.boxS (k := 3) rfl hp rfl)) (he.cells (hW.boxS (k := 3) rfl hp rfl) (hW.boxC (k := 3) rfl)) x229 bv227 (he.r _ (hW.boxS (k := 29) rfl hp rfl)) (he.cells (hW.boxS (k := 29) rfl hp rfl) (hW.boxC (k := 29) rfl)) y hy (HF.start _)) y233 hy233 hE) ?_
   intro u hu
   obtain ⟨Ay233_0, cy233_0⟩ := u
   have gy233_0 := hu
   have hgy233_0 : SlF Ay233_0 (y233).length cy233_0 := gy233_0 --@phi
   show Tr _ _ (uf _ 41 (.slice Ay233_0 (y233).length cy233_0)) (up _ 14 (ow Ay233_0 cy233_0 29 fl_TRect y233)) _
   refine Tr.asg rfl rfl ?_
   refine Tr.nil (Tr.normThen ?_)
   refine Tr.seq ?_
   refine Tr.block ?_
   refine Tr.loop (σ := (List TRect) × Int × (Option Addr) × Nat) (fun m w s => F_shape_SetOf_L5 y102 y122 x229 l230 (F_shape_SetOf_L4 N y102 y122 mF_shape_SetOf_L4) m s.1 s.2.1 = some r ∧ SlF s.2.2.1 (s.1).length s.2.2.2) (fun s => [(0, (.slice Ay100_0 (y102).length cy100_0)), (3, (.pointer (some ⟨b104, 0, none⟩))), (6, (.slice Al230 (l230).length cl230)), (7, (.slice s.2.2.1 (s.1).length s.2.2.2)), (8, (.int .i64 s.2.1)), (9, (.pointer (some ⟨bv227, 0, none⟩)))]) (fun s => [(2, ow Ay100_0 cy100_0 29 fl_TRect y102), (3, bx b104 #[(.slice Ay122_0 (y122).length cy122_0)] 97), (12, ow Ay122_0 cy122_0 3 fl_i64 y122), (13, ow Al230 cl230 104 fl_TBand l230), (14, ow s.2.2.1 s.2.2.2 29 fl_TRect s.1), (29, bx bv227 #[(.int .i64 x229)] 3)]) N (y233, x232, Ay233_0, cy233_0) ⟨H, hgy233_0⟩ (.cons rfl (.cons rfl (.cons rfl (.cons rfl (.cons rfl (.cons rfl .nil)))))) (.cons rfl (.cons rfl (.cons rfl (.cons rfl (.cons rfl (.cons rfl .nil)))))) (fun _ _ h => noSome (h.1)) ?_
   intro w leF_shape_SetOf_L5 mF_shape_SetOf_L5 s hs
   obtain ⟨l257, x258, Al257, cl257⟩ := s
   obtain ⟨H, hl257⟩ := hs
   replace H : F_shape_SetOf_L5 y102 y122 x229 l230 (F_shape_SetOf_L4 N y102 y122 mF_shape_SetOf_L4) (mF_shape_SetOf_L5 + 1) l257 x258 = some r := H
   replace leB := leB.trans leF_shape_SetOf_L5
   replace leF_shape_SetOf_L1 := leF_shape_SetOf_L1.trans leF_shape_SetOf_L5
   replace leF_shape_SetOf_L4 := leF_shape_SetOf_L4.trans leF_shape_SetOf_L5
   replace hl257 : SlF Al257 (l257).length cl257 := hl257
   rw [F_shape_SetOf_L5.eq_2] at H
   show Tr _ _ (LF [(0, (.slice Ay100_0 (y102).length cy100_0)), (3, (.pointer (some ⟨b104, 0, none⟩))), (6, (.slice Al230 (l230).length cl230)), (7, (.slice Al257 (l257).length cl257)), (8, (.int .i64 x258)), (9, (.pointer (some ⟨bv227, 0, none⟩)))]) (LE [(2, ow Ay100_0 cy100_0 29 fl_TRect y102), (3, bx b104 #[(.slice Ay122_0 (y122).length cy122_0)] 97), (12, ow Ay122_0 cy122_0 3 fl_i64 y122), (13, ow Al230 cl230 104 fl_TBand l230), (14, ow Al257 cl257 29 fl_TRect l257), (29, bx bv227 #[(.int .i64 x229)] 3)]) _
   refine Tr.seq ?_
   refine Tr.seq ?_
   refine Tr.draw (by kernel_rfl) (by kernel_rfl) ?_
   refine Tq.mv rfl rfl ?_
   refine Tq.mv rfl rfl ?_
   refine Tq.va rfl (fun _ _ h1 h2 => run_len un_22 (h1.ev rfl)) ?_
   refine Tq.va rfl (fun _ _ h1 h2 => run_lss (h1.ev rfl) (h1.ev rfl)) ?_
   refine Tq.mv rfl rfl ?_
   obtain ⟨g261, hg261, H⟩ := bnd H
   refine Tq.mid 11 [(0, (.slice Ay100_0 (y102).length cy100_0)), (3, (.pointer (some ⟨b104, 0, none⟩))), (6, (.slice Al230 (l230).length cl230)), (7, (.slice Al257 (l257).length cl257)), (8, (.int .i64 x258)), (9, (.pointer (some ⟨bv227, 0, none⟩))), (57, (.bool g261))] ?_ ?_
   ·cases hg276 : (decide (x258 < (y102.length : Int)))
    ·rw [hg276] at hg261
     rw [if_neg (by decide)] at hg261
     have H := hg261
     obtain rfl := Option.some.inj H
     refine Tq.pass rfl rfl rfl rfl rfl (by decide) ?_
     refine Tq.pass rfl rfl rfl rfl rfl (by decide) ?_
     refine Tq.pass rfl rfl rfl rfl rfl (by decide) ?_
     refine Tq.pass rfl rfl rfl rfl rfl (by decide) ?_
     refine Tq.pass rfl rfl rfl rfl rfl (by decide) ?_
     refine Tq.pass rfl rfl rfl rfl rfl (by decide) ?_
     refine Tq.pass rfl rfl rfl rfl rfl (by decide) ?_
     refine Tq.pass rfl rfl rfl rfl rfl (by decide) ?_
     refine Tq.pass rfl rfl rfl rfl rfl (by decide) ?_
     refine Tq.pass rfl rfl rfl rfl rfl (by decide) ?_
     refine Tq.va rfl (fun _ _ h1 h2 => run_pickF (h1.ev rfl) (h1.ev rfl)) ?_
     exact Tq.fin (.cons rfl (.cons rfl (.cons rfl (.cons rfl (.cons rfl (.cons rfl (.cons rfl .nil)))))))
    ·rw [hg276] at hg261
     rw [if_pos rfl] at hg261
     have H := hg261
     refine Tq.val (wg rfl rfl rfl) rfl (fun _ _ h1 h2 => run_move (h1.ev rfl)) ?_
     refine Tq.val (wg rfl rfl rfl) rfl (fun _ _ h1 h2 => run_move (h1.ev rfl)) ?_
     obtain ⟨x262, hx262, H⟩ := bnd H
     obtain ⟨hx2620, hx2621, hx2622⟩ := idx_some hx262
     refine Tq.val (wg rfl rfl rfl) rfl (fun _ _ h1 h2 => run_indexAddr el_22 (h1.ev rfl) hfky102_0 (h1.ev rfl) hx2620 hx2621) ?_
     refine Tq.val (wg rfl rfl rfl) rfl (fun _ _ h1 h2 => run_fieldAddr fo_29_1 (h1.ev rfl)) ?_
     refine Tq.val (wg rfl rfl rfl) rfl (fun _ _ h1 h2 => run_load1 ag_3 (h1.ev rfl) (CellsAt.drop (rdo ef_TRect (k := 2) h2 rfl hx2622) 1) rfl) ?_
     refine Tq.val (wg rfl rfl rfl) rfl (fun _ _ h1 h2 => run_load1 ag_97 (h1.ev rfl) (rdb h2 (vs := [(.slice Ay122_0 (y122).length cy122_0)]) (k := 3) rfl 0) rfl) ?_
     refine Tq.val (wg rfl rfl rfl) rfl (fun _ _ h1 h2 => run_load1 ag_3 (h1.ev rfl) (rdb h2 (vs := [(.int .i64 x229)]) (k := 29) rfl 0) rfl) ?_
     obtain ⟨x263, hx263, H⟩ := bnd H
     obtain ⟨hx2630, hx2631, hx2632⟩ := idx_some hx263
     refine Tq.val (wg rfl rfl rfl) rfl (fun _ _ h1 h2 => run_indexAddr el_97 (h1.ev rfl) hgy122_0 (h1.ev rfl) hx2630 hx2631) ?_
     refine Tq.val (wg rfl rfl rfl) rfl (fun _ _ h1 h2 => run_load1 ag_3 (h1.ev rfl) (rdo ef_i64 (k := 12) h2 rfl hx2632) rfl) ?_
     refine Tq.val (wg rfl rfl rfl) rfl (fun _ _ h1 h2 => run_leq (h1.ev rfl) (h1.ev rfl)) ?_
     refine Tq.va rfl (fun _ _ h1 h2 => run_pickT (h1.ev rfl) (h1.ev rfl)) ?_
     obtain rfl := Option.some.inj H
     exact Tq.fin (.cons rfl (.cons rfl (.cons rfl (.cons rfl (.cons rfl (.cons rfl (.cons rfl .nil)))))))
   ·refine Tq.nil (Tr.normThen ?_)
    refine Tr.cond rfl H (fun H => ?_) (fun H => ?_)
    ·refine Tr.skip (Tr.normThen ?_)
     refine Tr.block ?_
     refine Tr.region ?_
     refine Tr.mv rfl rfl ?_
     refine Tr.mv rfl rfl ?_
     refine Tr.mv rfl rfl ?_
     obtain ⟨x264, hx264, H⟩ := bnd H
     obtain ⟨hx2640, hx2641, hx2642⟩ := idx_some hx264
     refine Tr.va rfl (fun _ _ h1 h2 => run_indexAddr el_22 (h1.ev rfl) hfky102_0 (h1.ev rfl) hx2640 hx2641) ?_
     refine Tr.va rfl (fun _ _ h1 h2 => run_loadN (cs := [(.int .i64 x264.X0), (.int .i64 x264.Y0), (.int .i64 x264.X1), (.int .i64 x264.Y1)]) ag_29 sz_29 (h1.ev rfl) (CellsAt.take (rdo ef_TRect (k := 2) h2 rfl hx2642) 4) rfl) ?_
     refine Tr.buildSlice 32 (e := 29) (vs := [(0, (.agg #[(.int .i64 x264.X0), (.int .i64 x264.Y0), (.int .i64 x264.X1), (.int .i64 x264.Y1)]))]) (cs := [(.int .i64 x264.X0), (.int .i64 x264.Y0), (.int .i64 x264.X1), (.int .i64 x264.Y1)]) (wn rfl) rfl (evs_cons rfl evs_nil) (by kernel_rfl) fun b265 => ?_
     obtain ⟨l266, hl266, H⟩ := bnd H
     refine Tr.append 14 (t := fl_TRect) (l := l257) (l2 := [x264]) (wn rfl) rfl rfl rfl rfl (fun W hW => ⟨[[(.int .i64 x264.X0), (.int .i64 x264.Y0), (.int .i64 x264.X1), (.int .i64 x264.Y1)]], (.cons ⟨(), trivial, rfl⟩ .nil), rdb hW (vs := [(.int .i64 x264.X0), (.int .i64 x264.Y0), (.int .i64 x264.X1), (.int .i64 x264.Y1)]) (k := 32) rfl 0⟩) un_22 sz_29 zl_29 (by decide) by_29 rfl hl266 fun Al266 cl266 hAl266 => ?_
     refine Tr.mv rfl rfl ?_
     refine Tr.va rfl (fun _ _ h1 h2 => run_add (h1.ev rfl) (h1.ev rfl)) ?_
     refine Tr.asg rfl rfl ?_
     refine Tr.asg rfl rfl ?_
     refine Tr.nil (Tr.normBlock ?_)
     exact Tr.backThen leF_shape_SetOf_L5 (l266, (w64 (x258 + 1)), Al266, cl266) ⟨H, hAl266⟩ (.cons rfl (.cons rfl (.cons rfl (.cons rfl (.cons rfl (.cons rfl .nil)))))) (.cons rfl (.cons rfl (.cons rfl (.cons rfl (.cons rfl (.cons rfl .nil))))))
    ·refine Tr.exit (Tr.exitThen (Tr.exitThen (Tr.exitBlock (Tr.normThen ?_))))
     refine Tr.drawC 13 [(11, (ow Al257 cl257 29 fl_TRect l257).S)] [] (by kernel_rfl) (by kernel_rfl) fun sz267 hlosz267 hEsz267 => ?_
     refine Dr.quietP 0 (by kernel_rfl) rfl (wn rfl) rfl (by kernel_rfl) (fun _ _ h1 => run_move (h1.ev rfl)) rfl ?_
     refine Dr.quietZ 1 [(68, (.slice Ay122_0 (y122).length cy122_0))] [11] false (by kernel_rfl) rfl rfl (by kernel_rfl) (fun W W' h2 hsW hk => HF.keepZ (le := [(3, bx b104 #[(.slice Ay122_0 (y122).length cy122_0)] 97)]) (ks := [(14, (ow Al257 cl257 29 fl_TRect l257).S)]) (s0 := sz267) false h2 hk (fun h => absurd h (by decide)) (.cons rfl .nil) (fun b hb => hb.elim (fun ⟨p, hp, hf, hb⟩ => by simp only [List.mem_cons, List.not_mem_nil, or_false] at hp; rcases hp with rfl; exact .inl ⟨_, List.mem_cons_self, hb⟩) (fun hb => absurd hb.1 (by decide))) (List.forall_mem_cons.2 ⟨fun b hb => hb, (fun _ h => nomatch h)⟩) rfl) ?_ rfl rfl ?_
     ·refine Tq.va rfl (fun _ _ h1 h2 => run_load1 ag_97 (h1.ev rfl) (rdb h2 (vs := [(.slice Ay122_0 (y122).length cy122_0)]) (k := 3) rfl 0) rfl) ?_
      exact Tq.fin (.cons rfl .nil)
     refine Dr.quietZ 2 [(69, (.int .i64 x229))] [11] false (by kernel_rfl) rfl rfl (by kernel_rfl) (fun W W' h2 hsW hk => HF.keepZ (le := [(29, bx bv227 #[(.int .i64 x229)] 3)]) (ks := [(14, (ow Al257 cl257 29 fl_TRect l257).S)]) (s0 := sz267) false h2 hk (fun h => absurd h (by decide)) (.cons rfl .nil) (fun b hb => hb.elim (fun ⟨p, hp, hf, hb⟩ => by simp only [List.mem_cons, List.not_mem_nil, or_false] at hp; rcases hp with rfl; exact .inl ⟨_, List.mem_cons_self, hb⟩) (fun hb => absurd hb.1 (by decide))) (List.forall_mem_cons.2 ⟨fun b hb => hb, (fun _ h => nomatch h)⟩) rfl) ?_ rfl rfl ?_
     ·refine Tq.va rfl (fun _ _ h1 h2 => run_load1 ag_3 (h1.ev rfl) (rdb h2 (vs := [(.int .i64 x229)]) (k := 29) rfl 0) rfl) ?_
      exact Tq.fin (.cons rfl .nil)
     obtain ⟨x268, hx268, H⟩ := bnd H
     obtain ⟨hx2680, hx2681, hx2682⟩ := idx_some hx268
     refine Dr.quietP 3 (by kernel_rfl) rfl (wn rfl) rfl (by kernel_rfl) (fun _ _ h1 => run_indexAddr el_97 (h1.ev rfl) hgy122_0 (h1.ev rfl) hx2680 hx2681) rfl ?_
     refine Dr.quietZ 4 [(71, (.int .i64 x268))] [11] false (by kernel_rfl) rfl rfl (by kernel_rfl) (fun W W' h2 hsW hk => HF.keepZ (le := [(12, ow Ay122_0 cy122_0 3 fl_i64 y122)]) (ks := [(14, (ow Al257 cl257 29 fl_TRect l257).S)]) (s0 := sz267) false h2 hk (fun h => absurd h (by decide)) (.cons rfl .nil) (fun b hb => hb.elim (fun ⟨p, hp, hf, hb⟩ => by simp only [List.mem_cons, List.not_mem_nil, or_false] at hp; rcases hp with rfl; exact .inl ⟨_, List.mem_cons_self, hb⟩) (fun hb => absurd hb.1 (by decide))) (List.forall_mem_cons.2 ⟨fun b hb => hb, (fun _ h => nomatch h)⟩) rfl) ?_ rfl rfl ?_
     ·refine Tq.va rfl (fun _ _ h1 h2 => run_load1 ag_3 (h1.ev rfl) (rdo ef_i64 (k := 12) h2 rfl hx2682) rfl) ?_
      exact Tq.fin (.cons rfl .nil)
     refine Dr.quietZ 5 [(72, (.slice Ay122_0 (y122).length cy122_0))] [11] false (by kernel_rfl) rfl rfl (by kernel_rfl) (fun W W' h2 hsW hk => HF.keepZ (le := [(3, bx b104 #[(.slice Ay122_0 (y122).length cy122_0)] 97)]) (ks := [(14, (ow Al257 cl257 29 fl_TRect l257).S)]) (s0 := sz267) false h2 hk (fun h => absurd h (by decide)) (.cons rfl .nil) (fun b hb => hb.elim (fun ⟨p, hp, hf, hb⟩ => by simp only [List.mem_cons, List.not_mem_nil, or_false] at hp; rcases hp with rfl; exact .inl ⟨_, List.mem_cons_self, hb⟩) (fun hb => absurd hb.1 (by decide))) (List.forall_mem_cons.2 ⟨fun b hb => hb, (fun _ h => nomatch h)⟩) rfl) ?_ rfl rfl ?_
     ·refine Tq.va rfl (fun _ _ h1 h2 => run_load1 ag_97 (h1.ev rfl) (rdb h2 (vs := [(.slice Ay122_0 (y122).length cy122_0)]) (k := 3) rfl 0) rfl) ?_
      exact Tq.fin (.cons rfl .nil)
     refine Dr.quietZ 6 [(73, (.int .i64 x229))] [11] false (by kernel_rfl) rfl rfl (by kernel_rfl) (fun W W' h2 hsW hk => HF.keepZ (le := [(29, bx bv227 #[(.int .i64 x229)] 3)]) (ks := [(14, (ow Al257 cl257 29 fl_TRect l257).S)]) (s0 := sz267) false h2 hk (fun h => absurd h (by decide)) (.cons rfl .nil) (fun b hb => hb.elim (fun ⟨p, hp, hf, hb⟩ => by simp only [List.mem_cons, List.not_mem_nil, or_false] at hp; rcases hp with rfl; exact .inl ⟨_, List.mem_cons_self, hb⟩) (fun hb => absurd hb.1 (by decide))) (List.forall_mem_cons.2 ⟨fun b hb => hb, (fun _ h => nomatch h)⟩) rfl) ?_ rfl rfl ?_
     ·refine Tq.va rfl (fun _ _ h1 h2 => run_load1 ag_3 (h1.ev rfl) (rdb h2 (vs := [(.int .i64 x229)]) (k := 29) rfl 0) rfl) ?_
      exact Tq.fin (.cons rfl .nil)
     refine Dr.quietP 7 (by kernel_rfl) rfl (wn rfl) rfl (by kernel_rfl) (fun _ _ h1 => run_add (h1.ev rfl) (h1.ev rfl)) rfl ?_
     obtain ⟨x269, hx269, H⟩ := bnd H
     obtain ⟨hx2690, hx2691, hx2692⟩ := idx_some hx269
     refine Dr.quietP 8 (by kernel_rfl) rfl (wn rfl) rfl (by kernel_rfl) (fun _ _ h1 => run_indexAddr el_97 (h1.ev rfl) hgy122_0 (h1.ev rfl) hx2690 hx2691) rfl ?_
     refine Dr.quietZ 9 [(76, (.int .i64 x269))] [11] false (by kernel_rfl) rfl rfl (by kernel_rfl) (fun W W' h2 hsW hk => HF.keepZ (le := [(12, ow Ay122_0 cy122_0 3 fl_i64 y122)]) (ks := [(14, (ow Al257 cl257 29 fl_TRect l257).S)]) (s0 := sz267) false h2 hk (fun h => absurd h (by decide)) (.cons rfl .nil) (fun b hb => hb.elim (fun ⟨p, hp, hf, hb⟩ => by simp only [List.mem_cons, List.not_mem_nil, or_false] at hp; rcases hp with rfl; exact .inl ⟨_, List.mem_cons_self, hb⟩) (fun hb => absurd hb.1 (by decide))) (List.forall_mem_cons.2 ⟨fun b hb => hb, (fun _ h => nomatch h)⟩) rfl) ?_ rfl rfl ?_
     ·refine Tq.va rfl (fun _ _ h1 h2 => run_load1 ag_3 (h1.ev rfl) (rdo ef_i64 (k := 12) h2 rfl hx2692) rfl) ?_
      exact Tq.fin (.cons rfl .nil)
     refine Dr.quiet 10 [(77, (.slice Al257 (l257).length cl257))] (by kernel_rfl) rfl rfl (by kernel_rfl) ?_ rfl rfl ?_
     ·refine Tq.mv rfl rfl ?_
      exact Tq.fin (.cons rfl .nil)
     obtain ⟨y270, hy270, H⟩ := bnd H
     refine Dr.one 11 (by kernel_rfl) ?_
     refine St.callM 11 [14, 33] [ow Al257 cl257 29 fl_TRect l257, emp] (U := (Option Addr × Nat)) (fun u => (.slice u.1 (y270.1).length u.2)) (fun u => SlF u.1 (y270.1).length u.2 ∧ (y270.2).length = (l257).length) (fun u => [ow Al257 cl257 29 fl_TRect y270.2, ow u.1 u.2 3 fl_i64 y270.1]) rfl (pk_cons rfl (pk_cons rfl pk_nil)) (fun _ => rfl) (fun b ⟨e, he, hS⟩ => by simp only [List.mem_cons, List.not_mem_nil, or_false] at he; rcases he with rfl | rfl; exact .inl ⟨_, List.mem_cons_self, rfl, hS⟩; exact hS.elim) rfl (wn rfl) rfl Try.call77 (evl_cons rfl evl_nil) (fun W hW hp hE => F_shape_stretches_ok l257 Al257 cl257 y270 hy270 hE) ?_
     intro u hu hsy270
     obtain ⟨Ay270_0, cy270_0⟩ := u
     obtain ⟨gy270_0, gky270_0⟩ := hu
     have hgy270_0 : SlF Ay270_0 (y270.1).length cy270_0 := gy270_0
     have hgky270_0 : (y270.2).length = (l257).length := gky270_0
     have hfky270_0 : SlF Al257 (y270.2).length cl257 := by rw [hgky270_0]; exact hl257
     show Dr _ _ _ _ _ _ _ _ _ (uf _ 78 (.slice Ay270_0 (y270.1).length cy270_0)) (up (up _ 33 (ow Ay270_0 cy270_0 3 fl_i64 y270.1)) 14 (ow Al257 cl257 29 fl_TRect y270.2))
     refine Dr.use (lf := [(0, (.slice Ay100_0 (y102).length cy100_0)), (3, (.pointer (some ⟨b104, 0, none⟩))), (6, (.slice Al230 (l230).length cl230)), (7, (.slice Al257 (y270.2).length cl257)), (8, (.int .i64 x258)), (9, (.pointer (some ⟨bv227, 0, none⟩))), (57, (.bool g261)), (67, (.slice Al230 (l230).length cl230)), (68, (.slice Ay122_0 (y122).length cy122_0)), (69, (.int .i64 x229)), (70, (.pointer (some ⟨adB Ay122_0, adO Ay122_0 + (x229).toNat * 1, none⟩))), (71, (.int .i64 x268)), (72, (.slice Ay122_0 (y122).length cy122_0)), (73, (.int .i64 x229)), (74, (.int .i64 (w64 (x229 + 1)))), (75, (.pointer (some ⟨adB Ay122_0, adO Ay122_0 + ((w64 (x229 + 1))).toNat * 1, none⟩))), (76, (.int .i64 x269)), (77, (.slice Al257 (y270.2).length cl257)), (78, (.slice Ay270_0 (y270.1).length cy270_0))]) (le := [(2, ow Ay100_0 cy100_0 29 fl_TRect y102), (3, bx b104 #[(.slice Ay122_0 (y122).length cy122_0)] 97), (12, ow Ay122_0 cy122_0 3 fl_i64 y122), (13, ow Al230 cl230 104 fl_TBand l230), (14, ow Al257 cl257 29 fl_TRect y270.2), (29, bx bv227 #[(.int .i64 x229)] 3), (33, ow Ay270_0 cy270_0 3 fl_i64 y270.1)]) ?_ rfl (.cons rfl (.cons rfl (.cons rfl (.cons (slenV rfl (by rw [hgky270_0])) (.cons rfl (.cons rfl (.cons rfl (.cons rfl (.cons rfl (.cons rfl (.cons rfl (.cons rfl (.cons rfl (.cons rfl (.cons rfl (.cons rfl (.cons rfl (.cons (slenV rfl (by rw [hgky270_0])) (.cons rfl .nil))))))))))))))))))) (.cons rfl (.cons rfl (.cons rfl (.cons rfl (.cons rfl (.cons rfl (.cons rfl .nil)))))))
     refine Dr.quiet 12 [(79, (.agg #[(.int .i64 x268), (.int .i64 x269), (.slice Ay270_0 (y270.1).length cy270_0)]))] (by kernel_rfl) rfl rfl (by kernel_rfl) ?_ rfl rfl ?_
     ·refine Tq.build (vs := [(0, (.int .i64 x268)), (1, (.int .i64 x269)), (2, (.slice Ay270_0 (y270.1).length cy270_0))]) (cs := [(.int .i64 x268), (.int .i64 x269), (.slice Ay270_0 (y270.1).length cy270_0)]) (wn rfl) rfl (evs_cons rfl (evs_cons rfl (evs_cons rfl evs_nil))) (by kernel_rfl) ?_
      exact Tq.fin (.cons rfl .nil)
     refine Dr.tail (by kernel_rfl) ?_
     refine Tr.freeze 33 rfl fun w le273 hz272 => ?_
     replace leB := leB.trans le273
     replace leF_shape_SetOf_L1 := leF_shape_SetOf_L1.trans le273
     replace leF_shape_SetOf_L4 := leF_shape_SetOf_L4.trans le273
     replace leF_shape_SetOf_L5 := leF_shape_SetOf_L5.trans le273
     obtain ⟨y274, hy274, H⟩ := bnd H
     refine Tr.callG [13] [ow Al230 cl230 104 fl_TBand l230] (U := (Option Addr × Nat)) (fun u => (.slice u.1 (y274).length u.2)) (fun O W u => SlF u.1 (y274).length u.2) (fun u => [ow u.1 u.2 104 fl_TBand y274]) rfl (pk_cons rfl pk_nil) (fun _ => rfl) (wn rfl) rfl Try.call76 (evl_cons rfl (evl_cons rfl evl_nil)) (fun W hW hp hE => F_shape_Set__push_ok l230 Al230 cl230 (TBand.mk x268 x269 y270.1) Ay270_0 cy270_0 (hz272.extO (hW.extS hp)) y274 hy274 hE) ?_
     intro w u le275 hu
     obtain ⟨Ay274_0, cy274_0⟩ := u
     have gy274_0 := hu
     replace hz272 := hz272.le le275
     replace leB := leB.trans le275
     replace leF_shape_SetOf_L1 := leF_shape_SetOf_L1.trans le275
     replace leF_shape_SetOf_L4 := leF_shape_SetOf_L4.trans le275
     replace leF_shape_SetOf_L5 := leF_shape_SetOf_L5.trans le275
     have hgy274_0 : SlF Ay274_0 (y274).length cy274_0 := gy274_0 --@phi
     show Tr _ _ (uf _ 80 (.slice Ay274_0 (y274).length cy274_0)) (up _ 13 (ow Ay274_0 cy274_0 104 fl_TBand y274)) _
     refine Tr.asg rfl rfl ?_
     refine Tr.nil (Tr.normBlock (Tr.normThen ?_))
     refine Tr.seq ?_
     refine Tr.sr ?_
     refine Tr.va rfl (fun _ _ h1 h2 => run_load1 ag_3 (h1.ev rfl) (rdb h2 (vs := [(.int .i64 x229)]) (k := 29) rfl 0) rfl) ?_
     refine Tr.nil (Tr.normThen ?_)
     refine Tr.region ?_
     refine Tr.alloc 34 (wn rfl) rfl ze_3 fun b276 => ?_
     refine Tr.store 34 (cs := [(.int .i64 x229)]) [(.int .i64 x229)] (wn rfl) rfl rfl rfl rfl sz_3 rfl rfl rfl ?_
     refine Tr.nil (Tr.normThen ?_)
     refine Tr.region ?_
     refine Tr.va rfl (fun _ _ h1 h2 => run_load1 ag_3 (h1.ev rfl) (rdb h2 (vs := [(.int .i64 x229)]) (k := 34) rfl 0) rfl) ?_
     refine Tr.va rfl (fun _ _ h1 h2 => run_add (h1.ev rfl) (h1.ev rfl)) ?_
     refine Tr.store 34 (cs := [(.int .i64 (w64 (x229 + 1)))]) [(.int .i64 (w64 (x229 + 1)))] (wn rfl) rfl rfl rfl rfl sz_3 rfl rfl rfl ?_
     refine Tr.nil ?_
     refine Tr.dropK 29 ?_
     refine Tr.ren 34 29 rfl rfl rfl ?_
     exact Tr.backThen leF_shape_SetOf_L4 ((w64 (x229 + 1)), y274, y270.2, x258, b276, Ay274_0, cy274_0, Al257, cl257) ⟨H, hgy274_0, hfky270_0⟩ (.cons rfl (.cons rfl (.cons rfl (.cons rfl (.cons rfl (.cons rfl .nil)))))) (.cons rfl (.cons rfl (.cons rfl (.cons rfl (.cons rfl (.cons rfl .nil))))))
  ·refine Tr.exit (Tr.exitThen (Tr.exitThen (Tr.exitBlock (Tr.normThen ?_))))
   refine Tr.sr ?_
   refine Tr.mv rfl rfl ?_
   refine Tr.asg rfl rfl ?_
   refine Tr.nil (Tr.normThen ?_)
   refine Tr.ret ?_
   obtain rfl := Option.some.inj H
   exact Tr.out (m := [(.slice Al230 (l230).length cl230)]) [] (res_tmp rfl res_nil) (fun W hW => ⟨w, (Al230, cl230), leB, rfl, hl230, hW.pick (ks := [13]) (by decide) (pk_cons rfl pk_nil)⟩)
 | cons xF_shape_SetOf_L1 restF_shape_SetOf_L1 =>
  rw [F_shape_SetOf_L1.eq_2] at H
  refine Tr.sr ?_
  refine Tr.va rfl (fun _ _ h1 h2 => run_lss (h1.ev rfl) (h1.ev rfl)) ?_
  refine Tr.nil (Tr.normThen ?_)
  refine Tr.seq ?_
  refine Tr.condT rfl (range_on hdF_shape_SetOf_L1) ?_
  refine Tr.skip (Tr.normThen ?_)
  refine Tr.seq ?_
  refine Tr.block ?_
  refine Tr.sr ?_
  refine Tr.va rfl (fun _ _ h1 h2 => run_indexAddr el_22 (h1.ev rfl) hfky102_0 (h1.ev rfl) (Int.natCast_nonneg _) (range_lt hdF_shape_SetOf_L1)) ?_
  refine Tr.va rfl (fun _ _ h1 h2 => run_loadN (cs := [(.int .i64 xF_shape_SetOf_L1.X0), (.int .i64 xF_shape_SetOf_L1.Y0), (.int .i64 xF_shape_SetOf_L1.X1), (.int .i64 xF_shape_SetOf_L1.Y1)]) ag_29 sz_29 (h1.ev rfl) (CellsAt.take (rdo ef_TRect (k := 2) h2 rfl (range_at hdF_shape_SetOf_L1)) 4) rfl) ?_
  refine Tr.alloc 35 (wn rfl) rfl ze_29 fun b277 => ?_
  refine Tr.store 35 (cs := [(.int .i64 xF_shape_SetOf_L1.X0), (.int .i64 xF_shape_SetOf_L1.Y0), (.int .i64 xF_shape_SetOf_L1.X1), (.int .i64 xF_shape_SetOf_L1.Y1)]) [(.int .i64 xF_shape_SetOf_L1.X0), (.int .i64 xF_shape_SetOf_L1.Y0), (.int .i64 xF_shape_SetOf_L1.X1), (.int .i64 xF_shape_SetOf_L1.Y1)] (wn rfl) rfl rfl rfl rfl sz_29 rfl rfl rfl ?_
  refine Tr.nil (Tr.normThen ?_)
  refine Tr.region ?_
  refine Tr.va rfl (fun _ _ h1 h2 => run_load1 ag_97 (h1.ev rfl) (rdb h2 (vs := [(.slice Al119 (l119).length cl119)]) (k := 3) rfl 0) rfl) ?_
  refine Tr.va rfl (fun _ _ h1 h2 => run_fieldAddr fo_29_1 (h1.ev rfl)) ?_
  refine Tr.va rfl (fun _ _ h1 h2 => run_load1 ag_3 (h1.ev rfl) (rdb h2 (vs := [(.int .i64 xF_shape_SetOf_L1.X0), (.int .i64 xF_shape_SetOf_L1.Y0), (.int .i64 xF_shape_SetOf_L1.X1), (.int .i64 xF_shape_SetOf_L1.Y1)]) (k := 35) rfl 1) rfl) ?_
  refine Tr.va rfl (fun _ _ h1 h2 => run_fieldAddr fo_29_3 (h1.ev rfl)) ?_
  refine Tr.va rfl (fun _ _ h1 h2 => run_load1 ag_3 (h1.ev rfl) (rdb h2 (vs := [(.int .i64 xF_shape_SetOf_L1.X0), (.int .i64 xF_shape_SetOf_L1.Y0), (.int .i64 xF_shape_SetOf_L1.X1), (.int .i64 xF_shape_SetOf_L1.Y1)]) (k := 35) rfl 3) rfl) ?_
  refine Tr.buildSlice 36 (e := 3) (vs := [(0, (.int .i64 xF_shape_SetOf_L1.Y0)), (1, (.int .i64 xF_shape_SetOf_L1.Y1))]) (cs := [(.int .i64 xF_shape_SetOf_L1.Y0), (.int .i64 xF_shape_SetOf_L1.Y1)]) (wn rfl) rfl (evs_cons rfl (evs_cons rfl evs_nil)) (by kernel_rfl) fun b278 => ?_
  obtain ⟨l279, hl279, H⟩ := bnd H
  refine Tr.append 12 (t := fl_i64) (l := l119) (l2 := [xF_shape_SetOf_L1.Y0, xF_shape_SetOf_L1.Y1]) (wn rfl) rfl rfl rfl rfl (fun W hW => ⟨[[(.int .i64 xF_shape_SetOf_L1.Y0)], [(.int .i64 xF_shape_SetOf_L1.Y1)]], (.cons ⟨(), trivial, rfl⟩ (.cons ⟨(), trivial, rfl⟩ .nil)), rdb hW (vs := [(.int .i64 xF_shape_SetOf_L1.Y0), (.int .i64 xF_shape_SetOf_L1.Y1)]) (k := 36) rfl 0⟩) un_97 sz_3 zl_3 (by decide) by_3 rfl hl279 fun Al279 cl279 hAl279 => ?_
  refine Tr.store 3 (cs := [(.slice Al279 (l279).length cl279)]) [(.slice Al279 (l279).length cl279)] (wn rfl) rfl rfl rfl rfl sz_97 rfl rfl rfl ?_
  refine Tr.nil (Tr.normBlock (Tr.normThen ?_))
  refine Tr.region ?_
  refine Tr.va rfl (fun _ _ h1 h2 => run_add (h1.ev rfl) (h1.ev rfl)) ?_
  refine Tr.mv rfl rfl ?_
  refine Tr.nil ?_
  exact Tr.backThen leF_shape_SetOf_L1 (restF_shape_SetOf_L1, (iF_shape_SetOf_L1 + 1), l279, Al279, cl279) ⟨rfl, range_tl hdF_shape_SetOf_L1, range_lt hdF_shape_SetOf_L1, H, hAl279⟩ (.cons rfl (.cons rfl (.cons rfl (.cons rfl (.cons (congrArg (fun z => some (Value.int .i64 z)) (range_up hdF_shape_SetOf_L1 hfky102_0)) .nil))))) (.cons rfl (.cons rfl (.cons rfl .nil)))

theorem F_shape_Set__Rects_ok (N : Nat) {w : Bs} (p0 : (List TBand)) (Ap0_0 : Option Addr) (cp0_0 : Nat) (hp0_0 : Sl w.R w.W fl_TBand Ap0_0 cp0_0 p0) (r : (List TRect)) (H : F_shape_Set__Rects N p0 = some r) (hE : HF w w.W (LEn [emp])) : Calls Try.prog 41 [(.slice Ap0_0 (p0).length cp0_0)].toArray w.W fun e W' => ∃ u : (Option Addr × Nat), e = .returned (.slice u.1 (r).length u.2) ∧ (SlF u.1 (r).length u.2) ∧ HF w W' (LEn [ow u.1 u.2 29 fl_TRect r]) := by
 unfold F_shape_Set__Rects at H
 have leB := Bs.Le.refl w
 refine Tr.enter (n := 41) Try.func41 rfl rfl rfl hE ?_
 refine Tr.sr ?_
 refine Tr.asg rfl rfl ?_
 refine Tr.nilOwn 1 29 fl_TRect ?_
 show Tr _ _ (uf _ 2 (.slice none (([] : List TRect)).length 0)) _ _
 refine Tr.nil (Tr.normThen ?_)
 refine Tr.sr ?_
 refine Tr.asg rfl rfl ?_
 refine Tr.nilOwn 2 29 fl_TRect ?_
 show Tr _ _ (uf _ 3 (.slice none (([] : List TRect)).length 0)) _ _
 refine Tr.nil (Tr.normThen ?_)
 refine Tr.seq ?_
 refine Tr.sr ?_
 refine Tr.mv rfl rfl ?_
 refine Tr.va rfl (fun _ _ h1 h2 => run_len un_65 (h1.ev rfl)) ?_
 refine Tr.mv rfl rfl ?_
 refine Tr.nil (Tr.normThen ?_)
 refine Tr.block ?_
 refine Tr.loop (σ := (List TBand) × Nat × (List TRect) × (Option Addr) × Nat) (fun m w s => m = s.1.length + 1 ∧ s.1 = List.drop s.2.1 p0 ∧ s.2.1 ≤ p0.length ∧ F_shape_Set__Rects_L3 N s.1 s.2.1 s.2.2.1 = some r ∧ SlF s.2.2.2.1 (s.2.2.1).length s.2.2.2.2) (fun s => [(3, (.slice s.2.2.2.1 (s.2.2.1).length s.2.2.2.2)), (7, (.slice Ap0_0 (p0).length cp0_0)), (8, (.int .i64 (p0.length : Int))), (9, (.int .i64 (s.2.1 : Int)))]) (fun s => [(2, ow s.2.2.2.1 s.2.2.2.2 29 fl_TRect s.2.2.1)]) (p0.length + 1) (p0, 0, ([] : List TRect), none, 0) ⟨rfl, rfl, Nat.zero_le _, H, slf_nil⟩ (.cons rfl (.cons rfl (.cons rfl (.cons rfl .nil)))) (.cons rfl .nil) (fun _ _ h => absurd h.1 (by simp)) ?_
 intro w leF_shape_Set__Rects_L3 m s hs
 obtain ⟨restF_shape_Set__Rects_L3, iF_shape_Set__Rects_L3, l152, Al152, cl152⟩ := s
 obtain ⟨hmF_shape_Set__Rects_L3, hdF_shape_Set__Rects_L3, hiF_shape_Set__Rects_L3, H, hl152⟩ := hs
 replace hdF_shape_Set__Rects_L3 : restF_shape_Set__Rects_L3 = List.drop iF_shape_Set__Rects_L3 p0 := hdF_shape_Set__Rects_L3
 replace H : F_shape_Set__Rects_L3 N restF_shape_Set__Rects_L3 iF_shape_Set__Rects_L3 l152 = some r := H
 replace hmF_shape_Set__Rects_L3 : m + 1 = restF_shape_Set__Rects_L3.length + 1 := hmF_shape_Set__Rects_L3
 replace hp0_0 := hp0_0.leR leF_shape_Set__Rects_L3
 replace leB := leB.trans leF_shape_Set__Rects_L3
 replace hl152 : SlF Al152 (l152).length cl152 := hl152
 obtain rfl : m = restF_shape_Set__Rects_L3.length := by omega
 clear hmF_shape_Set__Rects_L3
 show Tr _ _ (LF [(3, (.slice Al152 (l152).length cl152)), (7, (.slice Ap0_0 (p0).length cp0_0)), (8, (.int .i64 (p0.length : Int))), (9, (.int .i64 (iF_shape_Set__Rects_L3 : Int)))]) (LE [(2, ow Al152 cl152 29 fl_TRect l152)]) _
 cases restF_shape_Set__Rects_L3 with
 | nil =>
  rw [F_shape_Set__Rects_L3.eq_1] at H
  refine Tr.sr ?_
  refine Tr.va rfl (fun _ _ h1 h2 => run_lss (h1.ev rfl) (h1.ev rfl)) ?_
  refine Tr.nil (Tr.normThen ?_)
  refine Tr.seq ?_
  refine Tr.condF rfl (range_nil hdF_shape_Set__Rects_L3) ?_
  refine Tr.exit (Tr.exitThen (Tr.exitThen (Tr.exitBlock (Tr.normThen ?_))))
  refine Tr.sr ?_
  refine Tr.mv rfl rfl ?_
  refine Tr.asg rfl rfl ?_
  refine Tr.nil (Tr.normThen ?_)
  refine Tr.ret ?_
  obtain rfl := Option.some.inj H
  exact Tr.out (m := [(.slice Al152 (l152).length cl152)]) [] (res_tmp rfl res_nil) (fun W hW => ⟨(Al152, cl152), rfl, hl152, HF.lowE leB (hW.pick (ks := [2]) (by decide) (pk_cons rfl pk_nil)) ⟨ow_any _ _ _ _ tr_TRect, trivial⟩⟩)
 | cons xF_shape_Set__Rects_L3 restF_shape_Set__Rects_L3 =>
  rw [F_shape_Set__Rects_L3.eq_2] at H
  refine Tr.sr ?_
  refine Tr.va rfl (fun _ _ h1 h2 => run_lss (h1.ev rfl) (h1.ev rfl)) ?_
  refine Tr.nil (Tr.normThen ?_)
  refine Tr.seq ?_
  refine Tr.condT rfl (range_on hdF_shape_Set__Rects_L3) ?_
  refine Tr.skip (Tr.normThen ?_)
  refine Tr.seq ?_
  refine Tr.block ?_
  refine Tr.sr ?_
  obtain ⟨u153, hRu153, hoku153, hcu153⟩ := (hp0_0).el (range_at hdF_shape_Set__Rects_L3)
  obtain ⟨Au153_0, cu153_0⟩ := u153
  have hoku153_0 := hoku153
  replace hoku153_0 : Sl w.R w.W fl_i64 Au153_0 cu153_0 xF_shape_Set__Rects_L3.Xs := hoku153_0
  refine Tr.va rfl (fun _ _ h1 h2 => run_indexAddr el_65 (h1.ev rfl) hp0_0.form (h1.ev rfl) (Int.natCast_nonneg _) (range_lt hdF_shape_Set__Rects_L3)) ?_
  refine Tr.va rfl (fun _ _ h1 h2 => run_loadN (cs := [(.int .i64 xF_shape_Set__Rects_L3.Y0), (.int .i64 xF_shape_Set__Rects_L3.Y1), (.slice Au153_0 (xF_shape_Set__Rects_L3.Xs).length cu153_0)]) ag_104 sz_104 (h1.ev rfl) (CellsAt.take (rdR hRu153 hcu153 h2) 3) rfl) ?_
  refine Tr.alloc 11 (wn rfl) rfl ze_104 fun b154 => ?_
  refine Tr.store 11 (cs := [(.int .i64 xF_shape_Set__Rects_L3.Y0), (.int .i64 xF_shape_Set__Rects_L3.Y1), (.slice Au153_0 (xF_shape_Set__Rects_L3.Xs).length cu153_0)]) [(.int .i64 xF_shape_Set__Rects_L3.Y0), (.int .i64 xF_shape_Set__Rects_L3.Y1), (.slice Au153_0 (xF_shape_Set__Rects_L3.Xs).length cu153_0)] (wn rfl) rfl rfl rfl rfl sz_104 rfl rfl rfl ?_
  refine Tr.nil (Tr.normThen ?_)
  refine Tr.sr ?_
  refine Tr.asg rfl rfl ?_
  refine Tr.nil (Tr.normThen ?_)
  refine Tr.block ?_
  refine Tr.loop (σ := (List TRect) × Int × (Option Addr) × Nat) (fun m w s => F_shape_Set__Rects_L4 (F_shape_Set__Rects_L3 N restF_shape_Set__Rects_L3 (iF_shape_Set__Rects_L3 + 1)) xF_shape_Set__Rects_L3 m s.1 s.2.1 = some r ∧ SlF s.2.2.1 (s.1).length s.2.2.2) (fun s => [(3, (.slice s.2.2.1 (s.1).length s.2.2.2)), (5, (.pointer (some ⟨b154, 0, none⟩))), (6, (.int .i64 s.2.1)), (7, (.slice Ap0_0 (p0).length cp0_0)), (8, (.int .i64 (p0.length : Int))), (9, (.int .i64 (iF_shape_Set__Rects_L3 : Int)))]) (fun s => [(2, ow s.2.2.1 s.2.2.2 29 fl_TRect s.1), (11, bx b154 #[(.int .i64 xF_shape_Set__Rects_L3.Y0), (.int .i64 xF_shape_Set__Rects_L3.Y1), (.slice Au153_0 (xF_shape_Set__Rects_L3.Xs).length cu153_0)] 104)]) N (l152, 0, Al152, cl152) ⟨H, hl152⟩ (.cons rfl (.cons rfl (.cons rfl (.cons rfl (.cons rfl (.cons rfl .nil)))))) (.cons rfl (.cons rfl .nil)) (fun _ _ h => noSome (h.1)) ?_
  intro w leF_shape_Set__Rects_L4 mF_shape_Set__Rects_L4 s hs
  obtain ⟨l169, x170, Al169, cl169⟩ := s
  obtain ⟨H, hl169⟩ := hs
  replace H : F_shape_Set__Rects_L4 (F_shape_Set__Rects_L3 N restF_shape_Set__Rects_L3 (iF_shape_Set__Rects_L3 + 1)) xF_shape_Set__Rects_L3 (mF_shape_Set__Rects_L4 + 1) l169 x170 = some r := H
  replace hoku153_0 := hoku153_0.leR leF_shape_Set__Rects_L4
  replace hp0_0 := hp0_0.leR leF_shape_Set__Rects_L4
  replace leB := leB.trans leF_shape_Set__Rects_L4
  replace leF_shape_Set__Rects_L3 := leF_shape_Set__Rects_L3.trans leF_shape_Set__Rects_L4
  replace hl169 : SlF Al169 (l169).length cl169 := hl169
  rw [F_shape_Set__Rects_L4.eq_2] at H
  show Tr _ _ (LF [(3, (.slice Al169 (l169).length cl169)), (5, (.pointer (some ⟨b154, 0, none⟩))), (6, (.int .i64 x170)), (7, (.slice Ap0_0 (p0).length cp0_0)), (8, (.int .i64 (p0.length : Int))), (9, (.int .i64 (iF_shape_Set__Rects_L3 : Int)))]) (LE [(2, ow Al169 cl169 29 fl_TRect l169), (11, bx b154 #[(.int .i64 xF_shape_Set__Rects_L3.Y0), (.int .i64 xF_shape_Set__Rects_L3.Y1), (.slice Au153_0 (xF_shape_Set__Rects_L3.Xs).length cu153_0)] 104)]) _
  refine Tr.seq ?_
  refine Tr.sr ?_
  refine Tr.mv rfl rfl ?_
  refine Tr.va rfl (fun _ _ h1 h2 => run_fieldAddr fo_104_2 (h1.ev rfl)) ?_
  refine Tr.va rfl (fun _ _ h1 h2 => run_load1 ag_97 (h1.ev rfl) (rdb h2 (vs := [(.int .i64 xF_shape_Set__Rects_L3.Y0), (.int .i64 xF_shape_Set__Rects_L3.Y1), (.slice Au153_0 (xF_shape_Set__Rects_L3.Xs).length cu153_0)]) (k := 11) rfl 2) rfl) ?_
  refine Tr.va rfl (fun _ _ h1 h2 => run_len un_97 (h1.ev rfl)) ?_
  refine Tr.va rfl (fun _ _ h1 h2 => run_lss (h1.ev rfl) (h1.ev rfl)) ?_
  refine Tr.nil (Tr.normThen ?_)
  refine Tr.cond rfl H (fun H => ?_) (fun H => ?_)
  ·refine Tr.skip (Tr.normThen ?_)
   refine Tr.seq ?_
   refine Tr.block ?_
   obtain ⟨x172, hx172, H⟩ := bnd H
   obtain ⟨hx1720, hx1721, hx1722⟩ := idx_some hx172
   obtain ⟨x173, hx173, H⟩ := bnd H
   obtain ⟨hx1730, hx1731, hx1732⟩ := idx_some hx173
   refine Tr.drawF 18 [(17, .makeFunc (.func 0) #[] #[.tmp 36])] [(17, ⟨37, 14, (.func (.func 0) #[] #[(.agg #[(.int .i64 x172), (.int .i64 xF_shape_Set__Rects_L3.Y0), (.int .i64 x173), (.int .i64 xF_shape_Set__Rects_L3.Y1)])]), fun b => .slice (some ⟨b, 0, none⟩) 1 1, fun b => bx b #[(.int .i64 x172), (.int .i64 xF_shape_Set__Rects_L3.Y0), (.int .i64 x173), (.int .i64 xF_shape_Set__Rects_L3.Y1)] 29⟩)] [(3, (.slice Al169 (l169).length cl169)), (5, (.pointer (some ⟨b154, 0, none⟩))), (6, (.int .i64 x170)), (7, (.slice Ap0_0 (p0).length cp0_0)), (8, (.int .i64 (p0.length : Int))), (9, (.int .i64 (iF_shape_Set__Rects_L3 : Int))), (13, (.int .i64 x170)), (14, (.pointer (some ⟨b154, 2, none⟩))), (15, (.slice Au153_0 (xF_shape_Set__Rects_L3.Xs).length cu153_0)), (16, (.int .i64 (xF_shape_Set__Rects_L3.Xs.length : Int))), (17, (.bool (decide (x170 < (xF_shape_Set__Rects_L3.Xs.length : Int))))), (20, (.slice Al169 (l169).length cl169)), (21, (.pointer (some ⟨b154, 2, none⟩))), (22, (.slice Au153_0 (xF_shape_Set__Rects_L3.Xs).length cu153_0)), (23, (.int .i64 x170)), (24, (.pointer (some ⟨adB Au153_0, adO Au153_0 + (x170).toNat * 1, none⟩))), (25, (.int .i64 x172)), (26, (.pointer (some ⟨b154, 0, none⟩))), (27, (.int .i64 xF_shape_Set__Rects_L3.Y0)), (28, (.pointer (some ⟨b154, 2, none⟩))), (29, (.slice Au153_0 (xF_shape_Set__Rects_L3.Xs).length cu153_0)), (30, (.int .i64 x170)), (31, (.int .i64 (w64 (x170 + 1)))), (32, (.pointer (some ⟨adB Au153_0, adO Au153_0 + ((w64 (x170 + 1))).toNat * 1, none⟩))), (33, (.int .i64 x173)), (34, (.pointer (some ⟨b154, 1, none⟩))), (35, (.int .i64 xF_shape_Set__Rects_L3.Y1)), (36, (.agg #[(.int .i64 x172), (.int .i64 xF_shape_Set__Rects_L3.Y0), (.int .i64 x173), (.int .i64 xF_shape_Set__Rects_L3.Y1)])), (37, (.func (.func 0) #[] #[(.agg #[(.int .i64 x172), (.int .i64 xF_shape_Set__Rects_L3.Y0), (.int .i64 x173), (.int .i64 xF_shape_Set__Rects_L3.Y1)])]))] (by kernel_rfl) (by kernel_rfl) (by kernel_rfl) (by kernel_rfl) (by kernel_rfl) (by kernel_rfl) (by kernel_rfl) (fall_cons (fr_lit (vs := [(0, (.agg #[(.int .i64 x172), (.int .i64 xF_shape_Set__Rects_L3.Y0), (.int .i64 x173), (.int .i64 xF_shape_Set__Rects_L3.Y1)]))]) rfl rfl rfl (by kernel_rfl)) fall_nil) (fall_cons rfl fall_nil) (fall_cons rfl fall_nil) ?_ ?_
   ·refine Tq.mv rfl rfl ?_
    refine Tq.va rfl (fun _ _ h1 h2 => run_fieldAddr fo_104_2 (h1.ev rfl)) ?_
    refine Tq.va rfl (fun _ _ h1 h2 => run_load1 ag_97 (h1.ev rfl) (rdb h2 (vs := [(.int .i64 xF_shape_Set__Rects_L3.Y0), (.int .i64 xF_shape_Set__Rects_L3.Y1), (.slice Au153_0 (xF_shape_Set__Rects_L3.Xs).length cu153_0)]) (k := 11) rfl 2) rfl) ?_
    refine Tq.mv rfl rfl ?_
    refine Tq.va rfl (fun _ _ h1 h2 => run_indexAddr el_97 (h1.ev rfl) hoku153_0.form (h1.ev rfl) hx1720 hx1721) ?_
    refine Tq.va rfl (fun _ _ h1 h2 => run_load1 ag_3 (h1.ev rfl) (rdF ef_i64 hoku153_0 hx1722 h2) rfl) ?_
    refine Tq.va rfl (fun _ _ h1 h2 => run_fieldAddr fo_104_0 (h1.ev rfl)) ?_
    refine Tq.va rfl (fun _ _ h1 h2 => run_load1 ag_3 (h1.ev rfl) (rdb h2 (vs := [(.int .i64 xF_shape_Set__Rects_L3.Y0), (.int .i64 xF_shape_Set__Rects_L3.Y1), (.slice Au153_0 (xF_shape_Set__Rects_L3.Xs).length cu153_0)]) (k := 11) rfl 0) rfl) ?_
    refine Tq.va rfl (fun _ _ h1 h2 => run_fieldAddr fo_104_2 (h1.ev rfl)) ?_
    refine Tq.va rfl (fun _ _ h1 h2 => run_load1 ag_97 (h1.ev rfl) (rdb h2 (vs := [(.int .i64 xF_shape_Set__Rects_L3.Y0), (.int .i64 xF_shape_Set__Rects_L3.Y1), (.slice Au153_0 (xF_shape_Set__Rects_L3.Xs).length cu153_0)]) (k := 11) rfl 2) rfl) ?_
    refine Tq.mv rfl rfl ?_
    refine Tq.va rfl (fun _ _ h1 h2 => run_add (h1.ev rfl) (h1.ev rfl)) ?_
    refine Tq.va rfl (fun _ _ h1 h2 => run_indexAddr el_97 (h1.ev rfl) hoku153_0.form (h1.ev rfl) hx1730 hx1731) ?_
    refine Tq.va rfl (fun _ _ h1 h2 => run_load1 ag_3 (h1.ev rfl) (rdF ef_i64 hoku153_0 hx1732 h2) rfl) ?_
    refine Tq.va rfl (fun _ _ h1 h2 => run_fieldAddr fo_104_1 (h1.ev rfl)) ?_
    refine Tq.va rfl (fun _ _ h1 h2 => run_load1 ag_3 (h1.ev rfl) (rdb h2 (vs := [(.int .i64 xF_shape_Set__Rects_L3.Y0), (.int .i64 xF_shape_Set__Rects_L3.Y1), (.slice Au153_0 (xF_shape_Set__Rects_L3.Xs).length cu153_0)]) (k := 11) rfl 1) rfl) ?_
    refine Tq.build (vs := [(0, (.int .i64 x172)), (1, (.int .i64 xF_shape_Set__Rects_L3.Y0)), (2, (.int .i64 x173)), (3, (.int .i64 xF_shape_Set__Rects_L3.Y1))]) (cs := [(.int .i64 x172), (.int .i64 xF_shape_Set__Rects_L3.Y0), (.int .i64 x173), (.int .i64 xF_shape_Set__Rects_L3.Y1)]) (wn rfl) rfl (evs_cons rfl (evs_cons rfl (evs_cons rfl (evs_cons rfl evs_nil)))) (by kernel_rfl) ?_
    refine Tq.mkFunc (vs := [(.agg #[(.int .i64 x172), (.int .i64 xF_shape_Set__Rects_L3.Y0), (.int .i64 x173), (.int .i64 xF_shape_Set__Rects_L3.Y1)])]) (wn rfl) rfl (evl_cons rfl evl_nil) ?_
    exact Tq.fin (.cons rfl (.cons rfl (.cons rfl (.cons rfl (.cons rfl (.cons rfl (.cons rfl (.cons rfl (.cons rfl (.cons rfl (.cons rfl (.cons rfl (.cons rfl (.cons rfl (.cons rfl (.cons rfl (.cons rfl (.cons rfl (.cons rfl (.cons rfl (.cons rfl (.cons rfl (.cons rfl (.cons rfl (.cons rfl (.cons rfl (.cons rfl (.cons rfl (.cons rfl .nil)))))))))))))))))))))))))))))
   ·intro bs171
    refine Tr.sel (lf := [(5, (.pointer (some ⟨b154, 0, none⟩))), (6, (.int .i64 x170)), (7, (.slice Ap0_0 (p0).length cp0_0)), (8, (.int .i64 (p0.length : Int))), (9, (.int .i64 (iF_shape_Set__Rects_L3 : Int))), (20, (.slice Al169 (l169).length cl169)), (37, (.slice (some ⟨(bs171 17), 0, none⟩) 1 1))]) (le := [(2, ow Al169 cl169 29 fl_TRect l169), (11, bx b154 #[(.int .i64 xF_shape_Set__Rects_L3.Y0), (.int .i64 xF_shape_Set__Rects_L3.Y1), (.slice Au153_0 (xF_shape_Set__Rects_L3.Xs).length cu153_0)] 104), (14, bx (bs171 17) #[(.int .i64 x172), (.int .i64 xF_shape_Set__Rects_L3.Y0), (.int .i64 x173), (.int .i64 xF_shape_Set__Rects_L3.Y1)] 29)]) (.cons rfl (.cons rfl (.cons rfl (.cons rfl (.cons rfl (.cons rfl (.cons rfl .nil))))))) (.cons rfl (.cons rfl (.cons rfl .nil))) ?_
    obtain ⟨l174, hl174, H⟩ := bnd H
    refine Tr.append 2 (t := fl_TRect) (l := l169) (l2 := [(TRect.mk x172 xF_shape_Set__Rects_L3.Y0 x173 xF_shape_Set__Rects_L3.Y1)]) (wn rfl) rfl rfl rfl rfl (fun W hW => ⟨[[(.int .i64 x172), (.int .i64 xF_shape_Set__Rects_L3.Y0), (.int .i64 x173), (.int .i64 xF_shape_Set__Rects_L3.Y1)]], (.cons ⟨(), trivial, rfl⟩ .nil), rdb hW (vs := [(.int .i64 x172), (.int .i64 xF_shape_Set__Rects_L3.Y0), (.int .i64 x173), (.int .i64 xF_shape_Set__Rects_L3.Y1)]) (k := 14) rfl 0⟩) un_22 sz_29 zl_29 (by decide) by_29 rfl hl174 fun Al174 cl174 hAl174 => ?_
    refine Tr.asg rfl rfl ?_
    refine Tr.nil (Tr.normBlock (Tr.normThen ?_))
    refine Tr.region ?_
    refine Tr.mv rfl rfl ?_
    refine Tr.va rfl (fun _ _ h1 h2 => run_add (h1.ev rfl) (h1.ev rfl)) ?_
    refine Tr.asg rfl rfl ?_
    refine Tr.nil ?_
    exact Tr.backThen leF_shape_Set__Rects_L4 (l174, (w64 (x170 + 2)), Al174, cl174) ⟨H, hAl174⟩ (.cons rfl (.cons rfl (.cons rfl (.cons rfl (.cons rfl (.cons rfl .nil)))))) (.cons rfl (.cons rfl .nil))
  ·refine Tr.exit (Tr.exitThen (Tr.exitThen (Tr.exitBlock (Tr.normBlock (Tr.normThen ?_)))))
   refine Tr.region ?_
   refine Tr.va rfl (fun _ _ h1 h2 => run_add (h1.ev rfl) (h1.ev rfl)) ?_
   refine Tr.mv rfl rfl ?_
   refine Tr.nil ?_
   exact Tr.backThen leF_shape_Set__Rects_L3 (restF_shape_Set__Rects_L3, (iF_shape_Set__Rects_L3 + 1), l169, Al169, cl169) ⟨rfl, range_tl hdF_shape_Set__Rects_L3, range_lt hdF_shape_Set__Rects_L3, H, hl169⟩ (.cons rfl (.cons rfl (.cons rfl (.cons (congrArg (fun z => some (Value.int .i64 z)) (range_up hdF_shape_Set__Rects_L3 hp0_0.form)) .nil)))) (.cons rfl .nil)

theorem F_slices_Equal_Rect_ok {w : Bs} (p0 : (List TRect)) (Ap0_0 : Option Addr) (cp0_0 : Nat) (hp0_0 : Sl w.R w.W fl_TRect Ap0_0 cp0_0 p0) (p1 : (List TRect)) (Ap1_0 : Option Addr) (cp1_0 : Nat) (hp1_0 : Sl w.R w.W fl_TRect Ap1_0 cp1_0 p1) (r : Bool) (H : F_slices_Equal_Rect p0 p1 = some r) (hE : HF w w.W E0) : Calls Try.prog 13 [(.slice Ap0_0 (p0).length cp0_0), (.slice Ap1_0 (p1).length cp1_0)].toArray w.W fun e W' => e = .returned (.bool r) ∧ HF w W' E0 := by
 unfold F_slices_Equal_Rect at H
 have leB := Bs.Le.refl w
 refine Tr.enter (n := 26) Try.func13 rfl rfl rfl hE ?_
 refine Tr.sr ?_
 refine Tr.asg rfl rfl ?_
 refine Tr.nil (Tr.normThen ?_)
 refine Tr.seq ?_
 refine Tr.sr ?_
 refine Tr.mv rfl rfl ?_
 refine Tr.va rfl (fun _ _ h1 h2 => run_len un_22 (h1.ev rfl)) ?_
 refine Tr.mv rfl rfl ?_
 refine Tr.va rfl (fun _ _ h1 h2 => run_len un_22 (h1.ev rfl)) ?_
 refine Tr.va rfl (fun _ _ h1 h2 => run_neq (h1.ev rfl) (h1.ev rfl)) ?_
 refine Tr.nil (Tr.normThen ?_)
 refine Tr.cond rfl H (fun H => ?_) (fun H => ?_)
 ·refine Tr.sr ?_
  refine Tr.asg rfl rfl ?_
  refine Tr.nil (Tr.normThen ?_)
  refine Tr.ret (Tr.retThen ?_)
  obtain rfl := Option.some.inj H
  exact Tr.out (m := [(.bool false)]) [] (res_tmp rfl res_nil) (fun W hW => ⟨rfl, hW.low leB⟩)
 ·refine Tr.skip (Tr.normThen ?_)
  refine Tr.seq ?_
  refine Tr.sr ?_
  refine Tr.mv rfl rfl ?_
  refine Tr.va rfl (fun _ _ h1 h2 => run_len un_22 (h1.ev rfl)) ?_
  refine Tr.mv rfl rfl ?_
  refine Tr.nil (Tr.normThen ?_)
  refine Tr.block ?_
  refine Tr.loop (σ := (List TRect) × Nat) (fun m w s => m = s.1.length + 1 ∧ s.1 = List.drop s.2 p0 ∧ s.2 ≤ p0.length ∧ F_slices_Equal_Rect_L1 p1 s.1 s.2 = some r) (fun s => [(0, (.slice Ap0_0 (p0).length cp0_0)), (1, (.slice Ap1_0 (p1).length cp1_0)), (12, (.int .i64 (p0.length : Int))), (13, (.int .i64 (s.2 : Int)))]) (fun s => []) (p0.length + 1) (p0, 0) ⟨rfl, rfl, Nat.zero_le _, H⟩ (.cons rfl (.cons rfl (.cons rfl (.cons rfl .nil)))) .nil (fun _ _ h => absurd h.1 (by simp)) ?_
  intro w leF_slices_Equal_Rect_L1 m s hs
  obtain ⟨restF_slices_Equal_Rect_L1, iF_slices_Equal_Rect_L1⟩ := s
  obtain ⟨hmF_slices_Equal_Rect_L1, hdF_slices_Equal_Rect_L1, hiF_slices_Equal_Rect_L1, H⟩ := hs
  replace hdF_slices_Equal_Rect_L1 : restF_slices_Equal_Rect_L1 = List.drop iF_slices_Equal_Rect_L1 p0 := hdF_slices_Equal_Rect_L1
  replace H : F_slices_Equal_Rect_L1 p1 restF_slices_Equal_Rect_L1 iF_slices_Equal_Rect_L1 = some r := H
  replace hmF_slices_Equal_Rect_L1 : m + 1 = restF_slices_Equal_Rect_L1.length + 1 := hmF_slices_Equal_Rect_L1
  replace hp0_0 := hp0_0.leR leF_slices_Equal_Rect_L1
  replace hp1_0 := hp1_0.leR leF_slices_Equal_Rect_L1
  replace leB := leB.trans leF_slices_Equal_Rect_L1
  obtain rfl : m = restF_slices_Equal_Rect_L1.length := by omega
  clear hmF_slices_Equal_Rect_L1
  show Tr _ _ (LF [(0, (.slice Ap0_0 (p0).length cp0_0)), (1, (.slice Ap1_0 (p1).length cp1_0)), (12, (.int .i64 (p0.length : Int))), (13, (.int .i64 (iF_slices_Equal_Rect_L1 : Int)))]) (LE []) _
  cases restF_slices_Equal_Rect_L1 with
  | nil =>
   rw [F_slices_Equal_Rect_L1.eq_1] at H
   refine Tr.sr ?_
   refine Tr.va rfl (fun _ _ h1 h2 => run_lss (h1.ev rfl) (h1.ev rfl)) ?_
   refine Tr.nil (Tr.normThen ?_)
   refine Tr.seq ?_
   refine Tr.condF rfl (range_nil hdF_slices_Equal_Rect_L1) ?_
   refine Tr.exit (Tr.exitThen (Tr.exitThen (Tr.exitBlock (Tr.normThen ?_))))
   refine Tr.sr ?_
   refine Tr.asg rfl rfl ?_
   refine Tr.nil (Tr.normThen ?_)
   refine Tr.ret ?_
   obtain rfl := Option.some.inj H
   exact Tr.out (m := [(.bool true)]) [] (res_tmp rfl res_nil) (fun W hW => ⟨rfl, hW.low leB⟩)
  | cons xF_slices_Equal_Rect_L1 restF_slices_Equal_Rect_L1 =>
   rw [F_slices_Equal_Rect_L1.eq_2] at H
   refine Tr.sr ?_
   refine Tr.va rfl (fun _ _ h1 h2 => run_lss (h1.ev rfl) (h1.ev rfl)) ?_
   refine Tr.nil (Tr.normThen ?_)
   refine Tr.seq ?_
   refine Tr.condT rfl (range_on hdF_slices_Equal_Rect_L1) ?_
   refine Tr.skip (Tr.normThen ?_)
   refine Tr.seq ?_
   refine Tr.block ?_
   refine Tr.sr ?_
   refine Tr.mv rfl rfl ?_
   refine Tr.asg rfl rfl ?_
   refine Tr.nil (Tr.normThen ?_)
   refine Tr.seq ?_
   refine Tr.draw (by kernel_rfl) (by kernel_rfl) ?_
   refine Tq.mv rfl rfl ?_
   refine Tq.mv rfl rfl ?_
   refine Tq.va rfl (fun _ _ h1 h2 => run_indexAddr el_22 (h1.ev rfl) hp0_0.form (h1.ev rfl) (Int.natCast_nonneg _) (range_lt hdF_slices_Equal_Rect_L1)) ?_
   refine Tq.va rfl (fun _ _ h1 h2 => run_loadN (cs := [(.int .i64 xF_slices_Equal_Rect_L1.X0), (.int .i64 xF_slices_Equal_Rect_L1.Y0), (.int .i64 xF_slices_Equal_Rect_L1.X1), (.int .i64 xF_slices_Equal_Rect_L1.Y1)]) ag_29 sz_29 (h1.ev rfl) (CellsAt.take (rdF ef_TRect hp0_0 (range_at hdF_slices_Equal_Rect_L1) h2) 4) rfl) ?_
   refine Tq.mv rfl rfl ?_
   refine Tq.mv rfl rfl ?_
   obtain ⟨x103, hx103, H⟩ := bnd H
   obtain ⟨hx1030, hx1031, hx1032⟩ := idx_some hx103
   refine Tq.va rfl (fun _ _ h1 h2 => run_indexAddr el_22 (h1.ev rfl) hp1_0.form (h1.ev rfl) hx1030 hx1031) ?_
   refine Tq.va rfl (fun _ _ h1 h2 => run_loadN (cs := [(.int .i64 x103.X0), (.int .i64 x103.Y0), (.int .i64 x103.X1), (.int .i64 x103.Y1)]) ag_29 sz_29 (h1.ev rfl) (CellsAt.take (rdF ef_TRect hp1_0 hx1032 h2) 4) rfl) ?_
   refine Tq.va rfl (fun _ _ h1 h2 => run_neq_29 xF_slices_Equal_Rect_L1 x103 (h1.ev rfl) (h1.ev rfl)) ?_
   refine Tq.nil (Tr.normThen ?_)
   refine Tr.cond rfl H (fun H => ?_) (fun H => ?_)
   ·refine Tr.sr ?_
    refine Tr.asg rfl rfl ?_
    refine Tr.nil (Tr.normThen ?_)
    refine Tr.ret (Tr.retBlock (Tr.retThen (Tr.retThen (Tr.retBlock (Tr.retThen ?_)))))
    obtain rfl := Option.some.inj H
    exact Tr.out (m := [(.bool false)]) [] (res_tmp rfl res_nil) (fun W hW => ⟨rfl, hW.low leB⟩)
   ·refine Tr.skip (Tr.normBlock (Tr.normThen ?_))
    refine Tr.region ?_
    refine Tr.va rfl (fun _ _ h1 h2 => run_add (h1.ev rfl) (h1.ev rfl)) ?_
    refine Tr.mv rfl rfl ?_
    refine Tr.nil ?_
    exact Tr.backThen leF_slices_Equal_Rect_L1 (restF_slices_Equal_Rect_L1, (iF_slices_Equal_Rect_L1 + 1)) ⟨rfl, range_tl hdF_slices_Equal_Rect_L1, range_lt hdF_slices_Equal_Rect_L1, H⟩ (.cons rfl (.cons rfl (.cons rfl (.cons (congrArg (fun z => some (Value.int .i64 z)) (range_up hdF_slices_Equal_Rect_L1 hp0_0.form)) .nil)))) .nil

theorem F_shape_CheckRegion_ok (N : Nat) {w : Bs} (p0 : (List TRect)) (Ap0_0 : Option Addr) (cp0_0 : Nat) (hp0_0 : Sl w.R w.W fl_TRect Ap0_0 cp0_0 p0) (r : Int) (H : F_shape_CheckRegion N p0 = some r) (hE : HF w w.W E0) : Calls Try.prog 18 [(.slice Ap0_0 (p0).length cp0_0)].toArray w.W fun e W' => e = .returned (.int .i64 r) ∧ HF w W' E0 := by
 unfold F_shape_CheckRegion at H
 have leB := Bs.Le.refl w
 refine Tr.enter (n := 52) Try.func18 rfl rfl rfl hE ?_
 refine Tr.sr ?_
 refine Tr.asg rfl rfl ?_
 refine Tr.nil (Tr.normThen ?_)
 refine Tr.seq ?_
 refine Tr.sr ?_
 refine Tr.mv rfl rfl ?_
 obtain ⟨y100, hy100, H⟩ := bnd H
 refine Tr.call0 (r := (.int .i64 y100)) (wn rfl) rfl Try.call39 (evl_cons rfl evl_nil) (fun W hW => F_shape_CheckRects_ok p0 Ap0_0 cp0_0 (hp0_0.ext hW.extAll) y100 hy100 (HF.start _)) ?_
 refine Tr.asg rfl rfl ?_
 refine Tr.nil (Tr.normThen ?_)
 refine Tr.sr ?_
 refine Tr.mv rfl rfl ?_
 refine Tr.va rfl (fun _ _ h1 h2 => run_neq (h1.ev rfl) (h1.ev rfl)) ?_
 refine Tr.nil (Tr.normThen ?_)
 refine Tr.cond rfl H (fun H => ?_) (fun H => ?_)
 ·refine Tr.sr ?_
  refine Tr.mv rfl rfl ?_
  refine Tr.asg rfl rfl ?_
  refine Tr.nil (Tr.normThen ?_)
  refine Tr.ret (Tr.retThen ?_)
  obtain rfl := Option.some.inj H
  exact Tr.out (m := [(.int .i64 y100)]) [] (res_tmp rfl res_nil) (fun W hW => ⟨rfl, hW.low leB⟩)
 ·refine Tr.skip (Tr.normThen ?_)
  refine Tr.seq ?_
  refine Tr.sr ?_
  refine Tr.asg rfl rfl ?_
  refine Tr.nil (Tr.normThen ?_)
  refine Tr.block ?_
  refine Tr.loop (σ := Int) (fun m w s => F_shape_CheckRegion_L1 N p0 m s = some r) (fun s => [(0, (.slice Ap0_0 (p0).length cp0_0)), (4, (.int .i64 s))]) (fun s => []) N 1 H (.cons rfl (.cons rfl .nil)) .nil (fun _ _ h => noSome (h)) ?_
  intro w leF_shape_CheckRegion_L1 mF_shape_CheckRegion_L1 x116 hs
  have H := hs
  replace H : F_shape_CheckRegion_L1 N p0 (mF_shape_CheckRegion_L1 + 1) x116 = some r := H
  replace hp0_0 := hp0_0.leR leF_shape_CheckRegion_L1
  replace leB := leB.trans leF_shape_CheckRegion_L1
  rw [F_shape_CheckRegion_L1.eq_2] at H
  show Tr _ _ (LF [(0, (.slice Ap0_0 (p0).length cp0_0)), (4, (.int .i64 x116))]) (LE []) _
  refine Tr.seq ?_
  refine Tr.sr ?_
  refine Tr.mv rfl rfl ?_
  refine Tr.mv rfl rfl ?_
  refine Tr.va rfl (fun _ _ h1 h2 => run_len un_22 (h1.ev rfl)) ?_
  refine Tr.va rfl (fun _ _ h1 h2 => run_lss (h1.ev rfl) (h1.ev rfl)) ?_
  refine Tr.nil (Tr.normThen ?_)
  refine Tr.cond rfl H (fun H => ?_) (fun H => ?_)
  ·refine Tr.skip (Tr.normThen ?_)
   refine Tr.seq ?_
   refine Tr.block ?_
   refine Tr.seq ?_
   refine Tr.drawC 12 [] [11] (by kernel_rfl) (by kernel_rfl) fun sz117 hlosz117 hEsz117 => ?_
   refine Dr.quiet 0 [(18, (.slice Ap0_0 (p0).length cp0_0))] (by kernel_rfl) rfl rfl (by kernel_rfl) ?_ rfl rfl ?_
   ·refine Tq.mv rfl rfl ?_
    exact Tq.fin (.cons rfl .nil)
   refine Dr.quiet 1 [(19, (.int .i64 x116))] (by kernel_rfl) rfl rfl (by kernel_rfl) ?_ rfl rfl ?_
   ·refine Tq.mv rfl rfl ?_
    exact Tq.fin (.cons rfl .nil)
   refine Dr.quiet 2 [(20, (.int .i64 (w64 (x116 - 1))))] (by kernel_rfl) rfl rfl (by kernel_rfl) ?_ rfl rfl ?_
   ·refine Tq.va rfl (fun _ _ h1 h2 => run_sub (h1.ev rfl) (h1.ev rfl)) ?_
    exact Tq.fin (.cons rfl .nil)
   obtain ⟨x118, hx118, H⟩ := bnd H
   obtain ⟨hx1180, hx1181, hx1182⟩ := idx_some hx118
   refine Dr.quiet 3 [(21, (.pointer (some ⟨adB Ap0_0, adO Ap0_0 + ((w64 (x116 - 1))).toNat * 4, none⟩)))] (by kernel_rfl) rfl rfl (by kernel_rfl) ?_ rfl rfl ?_
   ·refine Tq.va rfl (fun _ _ h1 h2 => run_indexAddr el_22 (h1.ev rfl) hp0_0.form (h1.ev rfl) hx1180 hx1181) ?_
    exact Tq.fin (.cons rfl .nil)
   refine Dr.quiet 4 [(22, (.agg #[(.int .i64 x118.X0), (.int .i64 x118.Y0), (.int .i64 x118.X1), (.int .i64 x118.Y1)]))] (by kernel_rfl) rfl rfl (by kernel_rfl) ?_ rfl rfl ?_
   ·refine Tq.va rfl (fun _ _ h1 h2 => run_loadN (cs := [(.int .i64 x118.X0), (.int .i64 x118.Y0), (.int .i64 x118.X1), (.int .i64 x118.Y1)]) ag_29 sz_29 (h1.ev rfl) (CellsAt.take (rdF ef_TRect hp0_0 hx1182 h2) 4) rfl) ?_
    exact Tq.fin (.cons rfl .nil)
   refine Dr.quietP 5 (by kernel_rfl) rfl (wn rfl) rfl (by kernel_rfl) (fun _ _ h1 => run_move (h1.ev rfl)) rfl ?_
   refine Dr.quietP 6 (by kernel_rfl) rfl (wn rfl) rfl (by kernel_rfl) (fun _ _ h1 => run_move (h1.ev rfl)) rfl ?_
   obtain ⟨x119, hx119, H⟩ := bnd H
   obtain ⟨hx1190, hx1191, hx1192⟩ := idx_some hx119
   refine Dr.quietP 7 (by kernel_rfl) rfl (wn rfl) rfl (by kernel_rfl) (fun _ _ h1 => run_indexAddr el_22 (h1.ev rfl) hp0_0.form (h1.ev rfl) hx1190 hx1191) rfl ?_
   refine Dr.quietZ 8 [(26, (.agg #[(.int .i64 x119.X0), (.int .i64 x119.Y0), (.int .i64 x119.X1), (.int .i64 x119.Y1)]))] [] true (by kernel_rfl) rfl rfl (by kernel_rfl) (fun W W' h2 hsW hk => HF.keepZ (le := []) (ks := []) (s0 := sz117) true h2 hk (fun _ => hlosz117) .nil (fun b hb => hb.elim (fun ⟨_, hp, _⟩ => nomatch hp) (fun hb => .inr ⟨rfl, hb.2, (fun _ h => nomatch h)⟩)) (fun _ h => nomatch h) rfl) ?_ rfl rfl ?_
   ·refine Tq.va rfl (fun _ _ h1 h2 => run_loadN (cs := [(.int .i64 x119.X0), (.int .i64 x119.Y0), (.int .i64 x119.X1), (.int .i64 x119.Y1)]) ag_29 sz_29 (h1.ev rfl) (CellsAt.take (rdF ef_TRect hp0_0 hx1192 h2) 4) rfl) ?_
    exact Tq.fin (.cons rfl .nil)
   refine Dr.cut (U := Nat × Nat) [9, 10] 1 (fun u => sz117 ≤ u.1 ∧ sz117 ≤ u.2) (fun u => [(0, (.slice Ap0_0 (p0).length cp0_0)), (4, (.int .i64 x116)), (5, (.pointer (some ⟨u.1, 0, none⟩))), (6, (.pointer (some ⟨u.2, 0, none⟩))), (12, (.int .i64 x116)), (13, (.slice Ap0_0 (p0).length cp0_0)), (14, (.int .i64 (p0.length : Int))), (15, (.bool (decide (x116 < (p0.length : Int))))), (18, (.slice Ap0_0 (p0).length cp0_0)), (19, (.int .i64 x116)), (20, (.int .i64 (w64 (x116 - 1)))), (21, (.pointer (some ⟨adB Ap0_0, adO Ap0_0 + ((w64 (x116 - 1))).toNat * 4, none⟩))), (22, (.agg #[(.int .i64 x118.X0), (.int .i64 x118.Y0), (.int .i64 x118.X1), (.int .i64 x118.Y1)])), (23, (.slice Ap0_0 (p0).length cp0_0)), (24, (.int .i64 x116)), (25, (.pointer (some ⟨adB Ap0_0, adO Ap0_0 + (x116).toNat * 4, none⟩))), (26, (.agg #[(.int .i64 x119.X0), (.int .i64 x119.Y0), (.int .i64 x119.X1), (.int .i64 x119.Y1)]))]) (fun u => [(5, bx u.1 #[(.int .i64 0), (.int .i64 0), (.int .i64 0), (.int .i64 0)] 29), (6, bx u.2 #[(.int .i64 0), (.int .i64 0), (.int .i64 0), (.int .i64 0)] 29)]) ?_ ?_
   ·intro hC
    refine Dr.pair 9 10 (by kernel_rfl) ?_ ?_
    ·refine St.alloc 9 5 rfl (wn rfl) rfl ze_29 fun b120 hb120 => ?_
     refine Dr.one 10 (by kernel_rfl) ?_
     refine St.alloc 10 6 rfl (wn rfl) rfl ze_29 fun b121 hb121 => ?_
     exact (hC ⟨b120, b121⟩ ⟨hb120, hb121⟩).use (by kernel_rfl) (.cons rfl (.cons rfl (.cons rfl (.cons rfl (.cons rfl (.cons rfl (.cons rfl (.cons rfl (.cons rfl (.cons rfl (.cons rfl (.cons rfl (.cons rfl (.cons rfl (.cons rfl (.cons rfl (.cons rfl .nil))))))))))))))))) (.cons rfl (.cons rfl .nil))
    ·refine St.alloc 10 6 rfl (wn rfl) rfl ze_29 fun b121 hb121 => ?_
     refine Dr.one 9 (by kernel_rfl) ?_
     refine St.alloc 9 5 rfl (wn rfl) rfl ze_29 fun b120 hb120 => ?_
     exact (hC ⟨b120, b121⟩ ⟨hb120, hb121⟩).use (by kernel_rfl) (.cons rfl (.cons rfl (.cons rfl (.cons rfl (.cons rfl (.cons rfl (.cons rfl (.cons rfl (.cons rfl (.cons rfl (.cons rfl (.cons rfl (.cons rfl (.cons rfl (.cons rfl (.cons rfl (.cons rfl .nil))))))))))))))))) (.cons rfl (.cons rfl .nil))
   intro u hu
   obtain ⟨b120, b121⟩ := u
   obtain ⟨hb120, hb121⟩ := hu
   replace hb120 : sz117 ≤ b120 := hb120
   replace hb121 : sz117 ≤ b121 := hb121
   show Dr _ _ _ _ _ _ _ _ _ (LF [(0, (.slice Ap0_0 (p0).length cp0_0)), (4, (.int .i64 x116)), (5, (.pointer (some ⟨b120, 0, none⟩))), (6, (.pointer (some ⟨b121, 0, none⟩))), (12, (.int .i64 x116)), (13, (.slice Ap0_0 (p0).length cp0_0)), (14, (.int .i64 (p0.length : Int))), (15, (.bool (decide (x116 < (p0.length : Int))))), (18, (.slice Ap0_0 (p0).length cp0_0)), (19, (.int .i64 x116)), (20, (.int .i64 (w64 (x116 - 1)))), (21, (.pointer (some ⟨adB Ap0_0, adO Ap0_0 + ((w64 (x116 - 1))).toNat * 4, none⟩))), (22, (.agg #[(.int .i64 x118.X0), (.int .i64 x118.Y0), (.int .i64 x118.X1), (.int .i64 x118.Y1)])), (23, (.slice Ap0_0 (p0).length cp0_0)), (24, (.int .i64 x116)), (25, (.pointer (some ⟨adB Ap0_0, adO Ap0_0 + (x116).toNat * 4, none⟩))), (26, (.agg #[(.int .i64 x119.X0), (.int .i64 x119.Y0), (.int .i64 x119.X1), (.int .i64 x119.Y1)]))]) (LE [(5, bx b120 #[(.int .i64 0), (.int .i64 0), (.int .i64 0), (.int .i64 0)] 29), (6, bx b121 #[(.int .i64 0), (.int .i64 0), (.int .i64 0), (.int .i64 0)] 29)])
   refine Dr.one 11 (by kernel_rfl) ?_
   refine St.store 11 5 (cs := [(.int .i64 x118.X0), (.int .i64 x118.Y0), (.int .i64 x118.X1), (.int .i64 x118.Y1)]) [(.int .i64 x118.X0), (.int .i64 x118.Y0), (.int .i64 x118.X1), (.int .i64 x118.Y1)] rfl (wn rfl) (.inr ⟨by simp, hb120⟩) rfl rfl rfl rfl sz_29 rfl rfl rfl ?_
   refine Dr.tail (by kernel_rfl) ?_
   refine Tr.store 6 (cs := [(.int .i64 x119.X0), (.int .i64 x119.Y0), (.int .i64 x119.X1), (.int .i64 x119.Y1)]) [(.int .i64 x119.X0), (.int .i64 x119.Y0), (.int .i64 x119.X1), (.int .i64 x119.Y1)] (wn rfl) rfl rfl rfl rfl sz_29 rfl rfl rfl ?_
   refine Tr.nil (Tr.normThen ?_)
   refine Tr.sr ?_
   refine Tr.va rfl (fun _ _ h1 h2 => run_fieldAddr fo_29_1 (h1.ev rfl)) ?_
   refine Tr.va rfl (fun _ _ h1 h2 => run_load1 ag_3 (h1.ev rfl) (rdb h2 (vs := [(.int .i64 x119.X0), (.int .i64 x119.Y0), (.int .i64 x119.X1), (.int .i64 x119.Y1)]) (k := 6) rfl 1) rfl) ?_
   refine Tr.va rfl (fun _ _ h1 h2 => run_fieldAddr fo_29_1 (h1.ev rfl)) ?_
   refine Tr.va rfl (fun _ _ h1 h2 => run_load1 ag_3 (h1.ev rfl) (rdb h2 (vs := [(.int .i64 x118.X0), (.int .i64 x118.Y0), (.int .i64 x118.X1), (.int .i64 x118.Y1)]) (k := 5) rfl 1) rfl) ?_
   refine Tr.va rfl (fun _ _ h1 h2 => run_lss (h1.ev rfl) (h1.ev rfl)) ?_
   refine Tr.mv rfl rfl ?_
   refine Tr.mid0 13 [(0, (.slice Ap0_0 (p0).length cp0_0)), (4, (.int .i64 x116)), (45, (.bool ((decide (x119.Y0 < x118.Y0)) || ((x119.Y0 == x118.Y0) && (decide (x119.X0 ≤ x118.X0))))))] [(5, bx b120 #[(.int .i64 x118.X0), (.int .i64 x118.Y0), (.int .i64 x118.X1), (.int .i64 x118.Y1)] 29), (6, bx b121 #[(.int .i64 x119.X0), (.int .i64 x119.Y0), (.int .i64 x119.X1), (.int .i64 x119.Y1)] 29)] ?_ ?_
   ·cases hg121 : (decide (x119.Y0 < x118.Y0))
    ·refine Tr.val (wg rfl rfl rfl) rfl (fun _ _ h1 h2 => run_fieldAddr fo_29_1 (h1.ev rfl)) ?_
     refine Tr.val (wg rfl rfl rfl) rfl (fun _ _ h1 h2 => run_load1 ag_3 (h1.ev rfl) (rdb h2 (vs := [(.int .i64 x119.X0), (.int .i64 x119.Y0), (.int .i64 x119.X1), (.int .i64 x119.Y1)]) (k := 6) rfl 1) rfl) ?_
     refine Tr.val (wg rfl rfl rfl) rfl (fun _ _ h1 h2 => run_fieldAddr fo_29_1 (h1.ev rfl)) ?_
     refine Tr.val (wg rfl rfl rfl) rfl (fun _ _ h1 h2 => run_load1 ag_3 (h1.ev rfl) (rdb h2 (vs := [(.int .i64 x118.X0), (.int .i64 x118.Y0), (.int .i64 x118.X1), (.int .i64 x118.Y1)]) (k := 5) rfl 1) rfl) ?_
     refine Tr.val (wg rfl rfl rfl) rfl (fun _ _ h1 h2 => run_eql (h1.ev rfl) (h1.ev rfl)) ?_
     refine Tr.val (wg rfl rfl rfl) rfl (fun _ _ h1 h2 => run_move (h1.ev rfl)) ?_
     refine Tr.mid0 6 [(0, (.slice Ap0_0 (p0).length cp0_0)), (4, (.int .i64 x116)), (32, (.bool false)), (44, (.bool ((x119.Y0 == x118.Y0) && (decide (x119.X0 ≤ x118.X0)))))] [(5, bx b120 #[(.int .i64 x118.X0), (.int .i64 x118.Y0), (.int .i64 x118.X1), (.int .i64 x118.Y1)] 29), (6, bx b121 #[(.int .i64 x119.X0), (.int .i64 x119.Y0), (.int .i64 x119.X1), (.int .i64 x119.Y1)] 29)] ?_ ?_
     ·cases hg121 : (x119.Y0 == x118.Y0)
      ·refine Tr.pass rfl rfl rfl rfl rfl (by decide) ?_
       refine Tr.pass rfl rfl rfl rfl rfl (by decide) ?_
       refine Tr.pass rfl rfl rfl rfl rfl (by decide) ?_
       refine Tr.pass rfl rfl rfl rfl rfl (by decide) ?_
       refine Tr.pass rfl rfl rfl rfl rfl (by decide) ?_
       refine Tr.val (wg rfl rfl rfl) rfl (fun _ _ h1 h2 => run_pickF (h1.ev rfl) (h1.ev rfl)) ?_
       exact Tr.nil (Tr.fin0 (.cons rfl (.cons rfl (.cons rfl (.cons rfl .nil)))) (.cons rfl (.cons rfl .nil)))
      ·refine Tr.val (wg rfl rfl rfl) rfl (fun _ _ h1 h2 => run_fieldAddr fo_29_0 (h1.ev rfl)) ?_
       refine Tr.val (wg rfl rfl rfl) rfl (fun _ _ h1 h2 => run_load1 ag_3 (h1.ev rfl) (rdb h2 (vs := [(.int .i64 x119.X0), (.int .i64 x119.Y0), (.int .i64 x119.X1), (.int .i64 x119.Y1)]) (k := 6) rfl 0) rfl) ?_
       refine Tr.val (wg rfl rfl rfl) rfl (fun _ _ h1 h2 => run_fieldAddr fo_29_0 (h1.ev rfl)) ?_
       refine Tr.val (wg rfl rfl rfl) rfl (fun _ _ h1 h2 => run_load1 ag_3 (h1.ev rfl) (rdb h2 (vs := [(.int .i64 x118.X0), (.int .i64 x118.Y0), (.int .i64 x118.X1), (.int .i64 x118.Y1)]) (k := 5) rfl 0) rfl) ?_
       refine Tr.val (wg rfl rfl rfl) rfl (fun _ _ h1 h2 => run_leq (h1.ev rfl) (h1.ev rfl)) ?_
       refine Tr.val (wg rfl rfl rfl) rfl (fun _ _ h1 h2 => run_pickT (h1.ev rfl) (h1.ev rfl)) ?_
       exact Tr.nil (Tr.fin0 (.cons rfl (.cons rfl (.cons rfl (.cons rfl .nil)))) (.cons rfl (.cons rfl .nil)))
     ·show Tr _ _ (LF [(0, (.slice Ap0_0 (p0).length cp0_0)), (4, (.int .i64 x116)), (32, (.bool false)), (44, (.bool ((x119.Y0 == x118.Y0) && (decide (x119.X0 ≤ x118.X0)))))]) (LE [(5, bx b120 #[(.int .i64 x118.X0), (.int .i64 x118.Y0), (.int .i64 x118.X1), (.int .i64 x118.Y1)] 29), (6, bx b121 #[(.int .i64 x119.X0), (.int .i64 x119.Y0), (.int .i64 x119.X1), (.int .i64 x119.Y1)] 29)]) _
      refine Tr.va rfl (fun _ _ h1 h2 => run_pickF (h1.ev rfl) (h1.ev rfl)) ?_
      exact Tr.nil (Tr.fin0 (.cons rfl (.cons rfl (.cons rfl .nil))) (.cons rfl (.cons rfl .nil)))
    ·refine Tr.pass rfl rfl rfl rfl rfl (by decide) ?_
     refine Tr.pass rfl rfl rfl rfl rfl (by decide) ?_
     refine Tr.pass rfl rfl rfl rfl rfl (by decide) ?_
     refine Tr.pass rfl rfl rfl rfl rfl (by decide) ?_
     refine Tr.pass rfl rfl rfl rfl rfl (by decide) ?_
     refine Tr.pass rfl rfl rfl rfl rfl (by decide) ?_
     refine Tr.passU rfl rfl rfl rfl (by decide) ?_
     refine Tr.passU rfl rfl rfl rfl (by decide) ?_
     refine Tr.passU rfl rfl rfl rfl (by decide) ?_
     refine Tr.passU rfl rfl rfl rfl (by decide) ?_
     refine Tr.passU rfl rfl rfl rfl (by decide) ?_
     refine Tr.pass rfl rfl rfl rfl rfl (by decide) ?_
     refine Tr.va rfl (fun _ _ h1 h2 => run_pickT (h1.ev rfl) (h1.ev rfl)) ?_
     exact Tr.nil (Tr.fin0 (.cons rfl (.cons rfl (.cons rfl .nil))) (.cons rfl (.cons rfl .nil)))
   ·show Tr _ _ (LF [(0, (.slice Ap0_0 (p0).length cp0_0)), (4, (.int .i64 x116)), (45, (.bool ((decide (x119.Y0 < x118.Y0)) || ((x119.Y0 == x118.Y0) && (decide (x119.X0 ≤ x118.X0))))))]) (LE [(5, bx b120 #[(.int .i64 x118.X0), (.int .i64 x118.Y0), (.int .i64 x118.X1), (.int .i64 x118.Y1)] 29), (6, bx b121 #[(.int .i64 x119.X0), (.int .i64 x119.Y0), (.int .i64 x119.X1), (.int .i64 x119.Y1)] 29)]) _
    refine Tr.nil (Tr.normThen ?_)
    refine Tr.cond rfl H (fun H => ?_) (fun H => ?_)
    ·refine Tr.sr ?_
     refine Tr.asg rfl rfl ?_
     refine Tr.nil (Tr.normThen ?_)
     refine Tr.ret (Tr.retBlock (Tr.retThen (Tr.retThen (Tr.retBlock (Tr.retThen ?_)))))
     obtain rfl := Option.some.inj H
     exact Tr.out (m := [(.int .i64 8)]) [] (res_tmp rfl res_nil) (fun W hW => ⟨rfl, hW.low leB⟩)
    ·refine Tr.skip (Tr.normBlock (Tr.normThen ?_))
     refine Tr.region ?_
     refine Tr.mv rfl rfl ?_
     refine Tr.va rfl (fun _ _ h1 h2 => run_add (h1.ev rfl) (h1.ev rfl)) ?_
     refine Tr.asg rfl rfl ?_
     refine Tr.nil ?_
     exact Tr.backThen leF_shape_CheckRegion_L1 (w64 (x116 + 1)) H (.cons rfl (.cons rfl .nil)) .nil
  ·refine Tr.exit (Tr.exitThen (Tr.exitThen (Tr.exitBlock (Tr.normThen ?_))))
   refine Tr.seq ?_
   refine Tr.sr ?_
   refine Tr.mv rfl rfl ?_
   obtain ⟨y123, hy123, H⟩ := bnd H
   refine Tr.callG [7] [emp] (U := (Option Addr × Nat)) (fun u => (.slice u.1 (y123).length u.2)) (fun O W u => SlF u.1 (y123).length u.2) (fun u => [ow u.1 u.2 104 fl_TBand y123]) rfl (pk_cons rfl pk_nil) (fun _ => rfl) (wn rfl) rfl Try.call40 (evl_cons rfl evl_nil) (fun W hW hp hE => F_shape_SetOf_ok N p0 Ap0_0 cp0_0 (hp0_0.ext (hW.extS hp)) y123 hy123 hE) ?_
   intro w u le124 hu
   obtain ⟨Ay123_0, cy123_0⟩ := u
   have gy123_0 := hu
   replace hp0_0 := hp0_0.leR le124
   replace leB := leB.trans le124
   replace leF_shape_CheckRegion_L1 := leF_shape_CheckRegion_L1.trans le124
   have hgy123_0 : SlF Ay123_0 (y123).length cy123_0 := gy123_0 --@phi
   show Tr _ _ (uf _ 47 (.slice Ay123_0 (y123).length cy123_0)) (up _ 7 (ow Ay123_0 cy123_0 104 fl_TBand y123)) _
   obtain ⟨y125, hy125, H⟩ := bnd H
   refine Tr.callM [8] [emp] (U := (Option Addr × Nat)) (fun u => (.slice u.1 (y125).length u.2)) (fun u => SlF u.1 (y125).length u.2) (fun u => [ow u.1 u.2 29 fl_TRect y125]) rfl (pk_cons rfl pk_nil) (fun _ => rfl) (wn rfl) rfl Try.call41 (evl_cons rfl evl_nil) (fun W hW hp hE => F_shape_Set__Rects_ok N y123 Ay123_0 cy123_0 (hW.slS (k := 7) rfl hp rfl) y125 hy125 hE) ?_
   intro u hu
   obtain ⟨Ay125_0, cy125_0⟩ := u
   have gy125_0 := hu
   have hgy125_0 : SlF Ay125_0 (y125).length cy125_0 := gy125_0 --@phi
   show Tr _ _ (uf _ 48 (.slice Ay125_0 (y125).length cy125_0)) (up _ 8 (ow Ay125_0 cy125_0 29 fl_TRect y125)) _
   refine Tr.mv rfl rfl ?_
   obtain ⟨y127, hy127, H⟩ := bnd H
   refine Tr.call0 (r := (.bool y127)) (wn rfl) rfl Try.call13 (evl_cons rfl (evl_cons rfl evl_nil)) (fun W hW => F_slices_Equal_Rect_ok y125 Ay125_0 cy125_0 (hW.slCall (k := 8) rfl) p0 Ap0_0 cp0_0 (hp0_0.ext hW.extAll) y127 hy127 (HF.start _)) ?_
   refine Tr.va rfl (fun _ _ h1 h2 => run_not (h1.ev rfl)) ?_
   refine Tr.nil (Tr.normThen ?_)
   refine Tr.cond rfl H (fun H => ?_) (fun H => ?_)
   ·refine Tr.sr ?_
    refine Tr.asg rfl rfl ?_
    refine Tr.nil (Tr.normThen ?_)
    refine Tr.ret (Tr.retThen ?_)
    obtain rfl := Option.some.inj H
    exact Tr.out (m := [(.int .i64 3)]) [] (res_tmp rfl res_nil) (fun W hW => ⟨rfl, hW.low leB⟩)
   ·refine Tr.skip (Tr.normThen ?_)
    refine Tr.sr ?_
    refine Tr.asg rfl rfl ?_
    refine Tr.nil (Tr.normThen ?_)
    refine Tr.ret ?_
    obtain rfl := Option.some.inj H
    exact Tr.out (m := [(.int .i64 0)]) [] (res_tmp rfl res_nil) (fun W hW => ⟨rfl, hW.low leB⟩)

theorem F_shape_Set__Parts_1_ok (N : Nat) {w : Bs} (p0 : Int) (q0 : (List Int)) (Aq0_0 : Option Addr) (cq0_0 : Nat) (bq0 : Nat) (r : (Int × (List Int))) (H : F_shape_Set__Parts_1 N p0 q0 = some r) (hE : HF w w.W (LEn [bx bq0 #[(.slice Aq0_0 (q0).length cq0_0)] 97, ow Aq0_0 cq0_0 3 fl_i64 q0])) : Calls Try.prog 84 [(.int .i64 p0), (.pointer (some ⟨bq0, 0, none⟩))].toArray w.W fun e W' => ∃ u : (Option Addr × Nat), e = .returned (.int .i64 r.1) ∧ (SlF u.1 (r.2).length u.2) ∧ HF w W' (LEn [bx bq0 #[(.slice u.1 (r.2).length u.2)] 97, ow u.1 u.2 3 fl_i64 r.2]) := by
 unfold F_shape_Set__Parts_1 at H
 have hfhq0_0 := (hE.sl (k := 1) rfl).form
 have leB := Bs.Le.refl w
 refine Tr.enter (n := 25) Try.func84 rfl rfl rfl hE ?_
 refine Tr.sr ?_
 refine Tr.asg rfl rfl ?_
 refine Tr.nil (Tr.normThen ?_)
 refine Tr.seq ?_
 refine Tr.block ?_
 refine Tr.loop (σ := (List Int) × Int) (fun m w s => F_shape_Set__Parts_1_L1 m s.1 s.2 = some r ∧ (s.1).length = (q0).length) (fun s => [(0, (.int .i64 s.2)), (1, (.pointer (some ⟨bq0, 0, none⟩)))]) (fun s => [(0, bx bq0 #[(.slice Aq0_0 (s.1).length cq0_0)] 97), (1, ow Aq0_0 cq0_0 3 fl_i64 s.1)]) N (q0, p0) ⟨H, rfl⟩ (.cons rfl (.cons rfl .nil)) (.cons rfl (.cons rfl .nil)) (fun _ _ h => noSome (h.1)) ?_
 intro w leF_shape_Set__Parts_1_L1 mF_shape_Set__Parts_1_L1 s hs
 obtain ⟨l118, x119⟩ := s
 obtain ⟨H, hl118⟩ := hs
 replace H : F_shape_Set__Parts_1_L1 (mF_shape_Set__Parts_1_L1 + 1) l118 x119 = some r := H
 replace leB := leB.trans leF_shape_Set__Parts_1_L1
 replace hl118 : (l118).length = (q0).length := hl118
 have hfl118 : SlF Aq0_0 (l118).length cq0_0 := (by rw [hl118]; exact hfhq0_0)
 rw [F_shape_Set__Parts_1_L1.eq_2] at H
 show Tr _ _ (LF [(0, (.int .i64 x119)), (1, (.pointer (some ⟨bq0, 0, none⟩)))]) (LE [(0, bx bq0 #[(.slice Aq0_0 (l118).length cq0_0)] 97), (1, ow Aq0_0 cq0_0 3 fl_i64 l118)]) _
 refine Tr.seq ?_
 refine Tr.sr ?_
 refine Tr.va rfl (fun _ _ h1 h2 => run_load1 ag_97 (h1.ev rfl) (rdb h2 (vs := [(.slice Aq0_0 (l118).length cq0_0)]) (k := 0) rfl 0) rfl) ?_
 refine Tr.mv rfl rfl ?_
 obtain ⟨x120, hx120, H⟩ := bnd H
 obtain ⟨hx1200, hx1201, hx1202⟩ := idx_some hx120
 refine Tr.va rfl (fun _ _ h1 h2 => run_indexAddr el_97 (h1.ev rfl) hfl118 (h1.ev rfl) hx1200 hx1201) ?_
 refine Tr.va rfl (fun _ _ h1 h2 => run_load1 ag_3 (h1.ev rfl) (rdo ef_i64 (k := 1) h2 rfl hx1202) rfl) ?_
 refine Tr.mv rfl rfl ?_
 refine Tr.va rfl (fun _ _ h1 h2 => run_neq (h1.ev rfl) (h1.ev rfl)) ?_
 refine Tr.nil (Tr.normThen ?_)
 refine Tr.cond rfl H (fun H => ?_) (fun H => ?_)
 ·refine Tr.skip (Tr.normThen ?_)
  refine Tr.block ?_
  refine Tr.seq ?_
  refine Tr.drawTail 9 (by kernel_rfl) (by kernel_rfl) ?_
  refine Tq.va rfl (fun _ _ h1 h2 => run_load1 ag_97 (h1.ev rfl) (rdb h2 (vs := [(.slice Aq0_0 (l118).length cq0_0)]) (k := 0) rfl 0) rfl) ?_
  refine Tq.mv rfl rfl ?_
  refine Tq.va rfl (fun _ _ h1 h2 => run_load1 ag_97 (h1.ev rfl) (rdb h2 (vs := [(.slice Aq0_0 (l118).length cq0_0)]) (k := 0) rfl 0) rfl) ?_
  refine Tq.va rfl (fun _ _ h1 h2 => run_load1 ag_97 (h1.ev rfl) (rdb h2 (vs := [(.slice Aq0_0 (l118).length cq0_0)]) (k := 0) rfl 0) rfl) ?_
  refine Tq.mv rfl rfl ?_
  obtain ⟨x121, hx121, H⟩ := bnd H
  obtain ⟨hx1210, hx1211, hx1212⟩ := idx_some hx121
  refine Tq.va rfl (fun _ _ h1 h2 => run_indexAddr el_97 (h1.ev rfl) hfl118 (h1.ev rfl) hx1210 hx1211) ?_
  refine Tq.va rfl (fun _ _ h1 h2 => run_load1 ag_3 (h1.ev rfl) (rdo ef_i64 (k := 1) h2 rfl hx1212) rfl) ?_
  obtain ⟨x122, hx122, H⟩ := bnd H
  obtain ⟨hx1220, hx1221, hx1222⟩ := idx_some hx122
  refine Tq.va rfl (fun _ _ h1 h2 => run_indexAddr el_97 (h1.ev rfl) hfl118 (h1.ev rfl) hx1220 hx1221) ?_
  refine Tq.va rfl (fun _ _ h1 h2 => run_load1 ag_3 (h1.ev rfl) (rdo ef_i64 (k := 1) h2 rfl hx1222) rfl) ?_
  refine Tq.nil ?_
  obtain ⟨x123, hx123, H⟩ := bnd H
  obtain ⟨hx1230, hx1231, hx1232⟩ := idx_some hx123
  refine Tr.va rfl (fun _ _ h1 h2 => run_indexAddr el_97 (h1.ev rfl) hfl118 (h1.ev rfl) hx1230 hx1231) ?_
  obtain ⟨l124, hl124, H⟩ := bnd H
  have hnl124 := sets_len hl124
  refine Tr.storeEl 1 (t := fl_i64) (l := l118) (i := x119) (fo := 0) (cs := [(.int .i64 x122)]) x122 (wn rfl) rfl rfl rfl rfl rfl hx1232 sz_3 rfl (fun u _ => ⟨u, trivial, rfl⟩) rfl hl124 ?_
  have hfl124 : SlF Aq0_0 (l124).length cq0_0 := by rw [hnl124]; exact hfl118
  have hsl124 := hnl124.trans hl118
  refine Tr.sel (lf := [(0, (.int .i64 x119)), (1, (.pointer (some ⟨bq0, 0, none⟩))), (4, (.slice Aq0_0 (l124).length cq0_0)), (5, (.int .i64 x119)), (7, (.int .i64 x120)), (8, (.int .i64 x119)), (9, (.bool (x120 != x119))), (10, (.slice Aq0_0 (l124).length cq0_0)), (11, (.int .i64 x119)), (12, (.slice Aq0_0 (l124).length cq0_0)), (13, (.slice Aq0_0 (l124).length cq0_0)), (14, (.int .i64 x119)), (16, (.int .i64 x121)), (18, (.int .i64 x122))]) (le := [(0, bx bq0 #[(.slice Aq0_0 (l124).length cq0_0)] 97), (1, ow Aq0_0 cq0_0 3 fl_i64 l124)]) (.cons rfl (.cons rfl (.cons (slenV rfl (by rw [hnl124])) (.cons rfl (.cons rfl (.cons rfl (.cons rfl (.cons (slenV rfl (by rw [hnl124])) (.cons rfl (.cons (slenV rfl (by rw [hnl124])) (.cons (slenV rfl (by rw [hnl124])) (.cons rfl (.cons rfl (.cons rfl .nil)))))))))))))) (.cons (ebx rfl (by rw [hnl124])) (.cons rfl .nil)) ?_
  refine Tr.nil (Tr.normThen ?_)
  refine Tr.region ?_
  refine Tr.va rfl (fun _ _ h1 h2 => run_load1 ag_97 (h1.ev rfl) (rdb h2 (vs := [(.slice Aq0_0 (l124).length cq0_0)]) (k := 0) rfl 0) rfl) ?_
  refine Tr.mv rfl rfl ?_
  obtain ⟨x125, hx125, H⟩ := bnd H
  obtain ⟨hx1250, hx1251, hx1252⟩ := idx_some hx125
  refine Tr.va rfl (fun _ _ h1 h2 => run_indexAddr el_97 (h1.ev rfl) hfl124 (h1.ev rfl) hx1250 hx1251) ?_
  refine Tr.va rfl (fun _ _ h1 h2 => run_load1 ag_3 (h1.ev rfl) (rdo ef_i64 (k := 1) h2 rfl hx1252) rfl) ?_
  refine Tr.asg rfl rfl ?_
  refine Tr.nil (Tr.normBlock ?_)
  exact Tr.backThen leF_shape_Set__Parts_1_L1 (l124, x125) ⟨H, hsl124⟩ (.cons rfl (.cons rfl .nil)) (.cons rfl (.cons rfl .nil))
 ·refine Tr.exit (Tr.exitThen (Tr.exitThen (Tr.exitBlock (Tr.normThen ?_))))
  refine Tr.sr ?_
  refine Tr.mv rfl rfl ?_
  refine Tr.asg rfl rfl ?_
  refine Tr.nil (Tr.normThen ?_)
  refine Tr.ret ?_
  obtain rfl := Option.some.inj H
  exact Tr.out (m := [(.int .i64 x119)]) [] (res_tmp rfl res_nil) (fun W hW => ⟨(Aq0_0, cq0_0), rfl, hfl118, HF.lowE leB (hW.pick (ks := [0, 1]) (by decide) (pk_cons rfl (pk_cons rfl pk_nil))) ⟨bx_any _ _ _, ow_any _ _ _ _ tr_i64, trivial⟩⟩)

end Go.Proofs.Ytnlhigfglfahiaa
