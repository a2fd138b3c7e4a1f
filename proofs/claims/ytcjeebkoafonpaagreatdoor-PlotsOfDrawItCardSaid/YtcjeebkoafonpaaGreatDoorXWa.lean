/- The walks: each function computes its plain function. -/
import Derived.Test.YtcjeebkoafonpaaGreatDoorXF
namespace Go.Proofs.YtcjeebkoafonpaaGreatDoor
open Go.RowKit
set_option maxRecDepth 100000
set_option maxHeartbeats 1000000
theorem F_shape_within_ok {w : Bs} (p0 : Int) (p1 : Int) (p2 : Int) (r : Bool) (H : F_shape_within p0 p1 p2 = some r) (hE : HF w w.W E0) : Calls Tryz.prog 194 [(iv p0), (iv p1), (iv p2)].toArray w.W fun e W' => e = .returned (.bool r) ∧ HF w W' E0 := by
 unfold F_shape_within at H
 have leB := Bs.Le.refl w
 refine Tr.enter (n := 15) Tryz.func194 rfl rfl rfl hE ?_
 refine Tr.sr ?_
 refine Tr.asg rfl rfl ?_
 refine Tr.nil (Tr.normThen ?_)
 refine Tr.sr ?_
 refine Tr.mv rfl rfl ?_
 refine Tr.mv rfl rfl ?_
 refine Tr.v2 rfl run_geq rfl rfl ?_
 refine Tr.mv rfl rfl ?_
 refine Tr.mid0 4 [(14, (.bool ((decide (p1 ≤ p0)) && (decide (p0 ≤ p2)))))] [] ?_ ?_
 ·cases hg99 : (decide (p1 ≤ p0))
  ·refine Tr.ps ?_
   refine Tr.ps ?_
   refine Tr.ps ?_
   refine Tr.v2 rfl run_pickF rfl rfl ?_
   exact Tr.nil (Tr.fin0 (.r rfl) .nil)
  ·refine Tr.w1 (wg rfl rfl rfl) rfl run_move rfl ?_
   refine Tr.w1 (wg rfl rfl rfl) rfl run_move rfl ?_
   refine Tr.w2 (wg rfl rfl rfl) rfl run_leq rfl rfl ?_
   refine Tr.v2 rfl run_pickT rfl rfl ?_
   exact Tr.nil (Tr.fin0 (.r rfl) .nil)
 ·show Tr _ _ (LF [(14, (.bool ((decide (p1 ≤ p0)) && (decide (p0 ≤ p2)))))]) (LE []) _
  refine Tr.asg rfl rfl ?_
  refine Tr.nil (Tr.normThen ?_)
  refine Tr.ret ?_
  obtain rfl := Option.some.inj H
  exact Tr.out (m := [(.bool ((decide (p1 ≤ p0)) && (decide (p0 ≤ p2))))]) [] (res_tmp rfl res_nil) (fun W hW => ⟨rfl, hW.low leB⟩)

theorem F_shape_IsAt_ok {w : Bs} (p0 : Int) (r : Bool) (H : F_shape_IsAt p0 = some r) (hE : HF w w.W E0) : Calls Tryz.prog 141 [(iv p0)].toArray w.W fun e W' => e = .returned (.bool r) ∧ HF w W' E0 := by
 unfold F_shape_IsAt at H
 have leB := Bs.Le.refl w
 refine Tr.enter (n := 5) Tryz.func141 rfl rfl rfl hE ?_
 refine Tr.sr ?_
 refine Tr.asg rfl rfl ?_
 refine Tr.nil (Tr.normThen ?_)
 refine Tr.sr ?_
 refine Tr.mv rfl rfl ?_
 obtain ⟨y100, hy100, H⟩ := bnd H
 refine Tr.call0 (r := (.bool y100)) (wn rfl) rfl Tryz.call194 (evl_cons rfl (evl_cons rfl (evl_cons rfl evl_nil))) (fun W hW => F_shape_within_ok p0 (-1000000) 1000000 y100 hy100 (HF.start _)) ?_
 refine Tr.asg rfl rfl ?_
 refine Tr.nil (Tr.normThen ?_)
 refine Tr.ret ?_
 obtain rfl := Option.some.inj H
 exact Tr.out (m := [(.bool y100)]) [] (res_tmp rfl res_nil) (fun W hW => ⟨rfl, hW.low leB⟩)

theorem F_shape_isRect_ok {w : Bs} (p0 : TRect) (r : Bool) (H : F_shape_isRect p0 = some r) (hE : HF w w.W E0) : Calls Tryz.prog 104 [(.agg #[(iv p0.X0), (iv p0.Y0), (iv p0.X1), (iv p0.Y1)])].toArray w.W fun e W' => e = .returned (.bool r) ∧ HF w W' E0 := by
 unfold F_shape_isRect at H
 have leB := Bs.Le.refl w
 refine Tr.enter (n := 21) Tryz.func104 rfl rfl rfl hE ?_
 refine Tr.sr ?_
 refine Tr.box 1 (cs := [(iv p0.X0), (iv p0.Y0), (iv p0.X1), (iv p0.Y1)]) (wn rfl) rfl rfl rfl fun b100 => ?_
 refine Tr.asg rfl rfl ?_
 refine Tr.nil (Tr.normThen ?_)
 refine Tr.sr ?_
 refine Tr.v1 rfl (run_fieldAddr fo_38_0) rfl ?_
 refine Tr.va rfl (fun _ _ h1 h2 => run_load1 ag_3 (h1.ev rfl) (rdb h2 (vs := [(iv p0.X0), (iv p0.Y0), (iv p0.X1), (iv p0.Y1)]) (k := 1) rfl 0) rfl) ?_
 obtain ⟨y101, hy101, H⟩ := bnd H
 refine Tr.call0 (r := (.bool y101)) (wn rfl) rfl Tryz.call141 (evl_cons rfl evl_nil) (fun W hW => F_shape_IsAt_ok p0.X0 y101 hy101 (HF.start _)) ?_
 refine Tr.mv rfl rfl ?_
 obtain ⟨g103, hg103, H⟩ := bnd H
 refine Tr.mid0 4 [(1, (.pointer (some ⟨b100, 0, none⟩))), (10, (.bool g103))] [(1, bx b100 #[(iv p0.X0), (iv p0.Y0), (iv p0.X1), (iv p0.Y1)] 38)] ?_ ?_
 ·cases hg110 : y101
  ·rw [hg110] at hg103
   rw [if_neg (by decide)] at hg103
   have H := hg103
   obtain rfl := Option.some.inj H
   refine Tr.ps ?_
   refine Tr.ps ?_
   refine Tr.ps ?_
   refine Tr.v2 rfl run_pickF rfl rfl ?_
   exact Tr.nil (Tr.fin0 (.r rfl) (.r rfl))
  ·rw [hg110] at hg103
   rw [if_pos rfl] at hg103
   have H := hg103
   refine Tr.w1 (wg rfl rfl rfl) rfl (run_fieldAddr fo_38_1) rfl ?_
   refine Tr.val (wg rfl rfl rfl) rfl (fun _ _ h1 h2 => run_load1 ag_3 (h1.ev rfl) (rdb h2 (vs := [(iv p0.X0), (iv p0.Y0), (iv p0.X1), (iv p0.Y1)]) (k := 1) rfl 1) rfl) ?_
   obtain ⟨y104, hy104, H⟩ := bnd H
   refine Tr.call0 (r := (.bool y104)) (wg rfl rfl rfl) rfl Tryz.call141 (evl_cons rfl evl_nil) (fun W hW => F_shape_IsAt_ok p0.Y0 y104 hy104 (HF.start _)) ?_
   refine Tr.v2 rfl run_pickT rfl rfl ?_
   obtain rfl := Option.some.inj H
   exact Tr.nil (Tr.fin0 (.r rfl) (.r rfl))
 ·show Tr _ _ (LF [(1, (.pointer (some ⟨b100, 0, none⟩))), (10, (.bool g103))]) (LE [(1, bx b100 #[(iv p0.X0), (iv p0.Y0), (iv p0.X1), (iv p0.Y1)] 38)]) _
  refine Tr.mv rfl rfl ?_
  obtain ⟨g106, hg106, H⟩ := bnd H
  refine Tr.mid0 4 [(1, (.pointer (some ⟨b100, 0, none⟩))), (15, (.bool g106))] [(1, bx b100 #[(iv p0.X0), (iv p0.Y0), (iv p0.X1), (iv p0.Y1)] 38)] ?_ ?_
  ·cases hg110 : g103
   ·rw [hg110] at hg106
    rw [if_neg (by decide)] at hg106
    have H := hg106
    obtain rfl := Option.some.inj H
    refine Tr.ps ?_
    refine Tr.ps ?_
    refine Tr.ps ?_
    refine Tr.v2 rfl run_pickF rfl rfl ?_
    exact Tr.nil (Tr.fin0 (.r rfl) (.r rfl))
   ·rw [hg110] at hg106
    rw [if_pos rfl] at hg106
    have H := hg106
    refine Tr.w1 (wg rfl rfl rfl) rfl (run_fieldAddr fo_38_2) rfl ?_
    refine Tr.val (wg rfl rfl rfl) rfl (fun _ _ h1 h2 => run_load1 ag_3 (h1.ev rfl) (rdb h2 (vs := [(iv p0.X0), (iv p0.Y0), (iv p0.X1), (iv p0.Y1)]) (k := 1) rfl 2) rfl) ?_
    obtain ⟨y107, hy107, H⟩ := bnd H
    refine Tr.call0 (r := (.bool y107)) (wg rfl rfl rfl) rfl Tryz.call141 (evl_cons rfl evl_nil) (fun W hW => F_shape_IsAt_ok p0.X1 y107 hy107 (HF.start _)) ?_
    refine Tr.v2 rfl run_pickT rfl rfl ?_
    obtain rfl := Option.some.inj H
    exact Tr.nil (Tr.fin0 (.r rfl) (.r rfl))
  ·show Tr _ _ (LF [(1, (.pointer (some ⟨b100, 0, none⟩))), (15, (.bool g106))]) (LE [(1, bx b100 #[(iv p0.X0), (iv p0.Y0), (iv p0.X1), (iv p0.Y1)] 38)]) _
   refine Tr.mv rfl rfl ?_
   obtain ⟨g109, hg109, H⟩ := bnd H
   refine Tr.mid0 4 [(20, (.bool g109))] [(1, bx b100 #[(iv p0.X0), (iv p0.Y0), (iv p0.X1), (iv p0.Y1)] 38)] ?_ ?_
   ·cases hg110 : g106
    ·rw [hg110] at hg109
     rw [if_neg (by decide)] at hg109
     have H := hg109
     obtain rfl := Option.some.inj H
     refine Tr.ps ?_
     refine Tr.ps ?_
     refine Tr.ps ?_
     refine Tr.v2 rfl run_pickF rfl rfl ?_
     exact Tr.nil (Tr.fin0 (.r rfl) (.r rfl))
    ·rw [hg110] at hg109
     rw [if_pos rfl] at hg109
     have H := hg109
     refine Tr.w1 (wg rfl rfl rfl) rfl (run_fieldAddr fo_38_3) rfl ?_
     refine Tr.val (wg rfl rfl rfl) rfl (fun _ _ h1 h2 => run_load1 ag_3 (h1.ev rfl) (rdb h2 (vs := [(iv p0.X0), (iv p0.Y0), (iv p0.X1), (iv p0.Y1)]) (k := 1) rfl 3) rfl) ?_
     obtain ⟨y110, hy110, H⟩ := bnd H
     refine Tr.call0 (r := (.bool y110)) (wg rfl rfl rfl) rfl Tryz.call141 (evl_cons rfl evl_nil) (fun W hW => F_shape_IsAt_ok p0.Y1 y110 hy110 (HF.start _)) ?_
     refine Tr.v2 rfl run_pickT rfl rfl ?_
     obtain rfl := Option.some.inj H
     exact Tr.nil (Tr.fin0 (.r rfl) (.r rfl))
   ·show Tr _ _ (LF [(20, (.bool g109))]) (LE [(1, bx b100 #[(iv p0.X0), (iv p0.Y0), (iv p0.X1), (iv p0.Y1)] 38)]) _
    refine Tr.asg rfl rfl ?_
    refine Tr.nil (Tr.normThen ?_)
    refine Tr.ret ?_
    obtain rfl := Option.some.inj H
    exact Tr.out (m := [(.bool g109)]) [] (res_tmp rfl res_nil) (fun W hW => ⟨rfl, hW.low leB⟩)

theorem F_shape_CheckRects_ok {w : Bs} (p0 : (List TRect)) (Ap0_0 : Option Addr) (cp0_0 : Nat) (hp0_0 : Sl w.R w.W fl_TRect Ap0_0 cp0_0 p0) (r : Int) (H : F_shape_CheckRects p0 = some r) (hE : HF w w.W E0) : Calls Tryz.prog 58 [(.slice Ap0_0 (p0).length cp0_0)].toArray w.W fun e W' => e = .returned (iv r) ∧ HF w W' E0 := by
 unfold F_shape_CheckRects at H
 have leB := Bs.Le.refl w
 refine Tr.enter (n := 30) Tryz.func58 rfl rfl rfl hE ?_
 refine Tr.sr ?_
 refine Tr.asg rfl rfl ?_
 refine Tr.nil (Tr.normThen ?_)
 refine Tr.seq ?_
 refine Tr.sr ?_
 refine Tr.mv rfl rfl ?_
 refine Tr.v1 rfl (run_len un_22) rfl ?_
 refine Tr.v2 rfl run_gtr rfl rfl ?_
 refine Tr.nil (Tr.normThen ?_)
 refine Tr.cond rfl H (fun H => ?_) (fun H => ?_)
 ·refine Tr.sr ?_
  refine Tr.asg rfl rfl ?_
  refine Tr.nil (Tr.normThen ?_)
  refine Tr.ret (Tr.retThen ?_)
  obtain rfl := Option.some.inj H
  exact Tr.out (m := [(iv 2)]) [] (res_tmp rfl res_nil) (fun W hW => ⟨rfl, hW.low leB⟩)
 ·refine Tr.skip (Tr.normThen ?_)
  refine Tr.seq ?_
  refine Tr.sr ?_
  refine Tr.mv rfl rfl ?_
  refine Tr.v1 rfl (run_len un_22) rfl ?_
  refine Tr.mv rfl rfl ?_
  refine Tr.nil (Tr.normThen ?_)
  refine Tr.block ?_
  refine Tr.loop (σ := (List TRect) × Nat) (fun m w s => m = s.1.length + 1 ∧ s.1 = List.drop s.2 p0 ∧ s.2 ≤ p0.length ∧ F_shape_CheckRects_L1 s.1 s.2 = some r) (fun s => [(8, (.slice Ap0_0 (p0).length cp0_0)), (9, (iv (p0.length : Int))), (10, (iv (s.2 : Int)))]) (fun s => []) (p0.length + 1) (p0, 0) ⟨rfl, rfl, Nat.zero_le _, H⟩ (.r rfl) .nil (fun _ _ h => absurd h.1 (by simp)) ?_
  intro w leL1 m s hs
  obtain ⟨restL1, iL1⟩ := s
  obtain ⟨hmL1, hdL1, hiL1, H⟩ := hs
  replace hdL1 : restL1 = List.drop iL1 p0 := hdL1
  replace H : F_shape_CheckRects_L1 restL1 iL1 = some r := H
  replace hmL1 : m + 1 = restL1.length + 1 := hmL1
  replace hp0_0 := hp0_0.leR leL1
  replace leB := leB.trans leL1
  obtain rfl : m = restL1.length := by omega
  clear hmL1
  show Tr _ _ (LF [(8, (.slice Ap0_0 (p0).length cp0_0)), (9, (iv (p0.length : Int))), (10, (iv (iL1 : Int)))]) (LE []) _
  cases restL1 with
  | nil =>
   rw [F_shape_CheckRects_L1.eq_1] at H
   refine Tr.sr ?_
   refine Tr.v2 rfl run_lss rfl rfl ?_
   refine Tr.nil (Tr.normThen ?_)
   refine Tr.seq ?_
   refine Tr.condF rfl (range_nil hdL1) ?_
   refine Tr.exit (Tr.exitThen (Tr.exitThen (Tr.exitBlock (Tr.normThen ?_))))
   refine Tr.sr ?_
   refine Tr.asg rfl rfl ?_
   refine Tr.nil (Tr.normThen ?_)
   refine Tr.ret ?_
   obtain rfl := Option.some.inj H
   exact Tr.out (m := [(iv 0)]) [] (res_tmp rfl res_nil) (fun W hW => ⟨rfl, hW.low leB⟩)
  | cons xL1 restL1 =>
   rw [F_shape_CheckRects_L1.eq_2] at H
   refine Tr.sr ?_
   refine Tr.v2 rfl run_lss rfl rfl ?_
   refine Tr.nil (Tr.normThen ?_)
   refine Tr.seq ?_
   refine Tr.condT rfl (range_on hdL1) ?_
   refine Tr.skip (Tr.normThen ?_)
   refine Tr.seq ?_
   refine Tr.block ?_
   refine Tr.sr ?_
   refine Tr.va rfl (fun _ _ h1 h2 => run_indexAddr el_22 (h1.ev rfl) hp0_0.form (h1.ev rfl) (Int.natCast_nonneg _) (range_lt hdL1)) ?_
   refine Tr.va rfl (fun _ _ h1 h2 => run_loadN (cs := [(iv xL1.X0), (iv xL1.Y0), (iv xL1.X1), (iv xL1.Y1)]) ag_38 sz_38 (h1.ev rfl) (CellsAt.take (rdF ef_TRect hp0_0 (range_at hdL1) h2) 4) rfl) ?_
   refine Tr.alloc 2 (wn rfl) rfl ze_38 fun b104 => ?_
   refine Tr.store 2 (cs := [(iv xL1.X0), (iv xL1.Y0), (iv xL1.X1), (iv xL1.Y1)]) [(iv xL1.X0), (iv xL1.Y0), (iv xL1.X1), (iv xL1.Y1)] (wn rfl) rfl rfl rfl rfl sz_38 rfl rfl rfl ?_
   refine Tr.nil (Tr.normThen ?_)
   refine Tr.seq ?_
   refine Tr.sr ?_
   refine Tr.va rfl (fun _ _ h1 h2 => run_loadN (cs := [(iv xL1.X0), (iv xL1.Y0), (iv xL1.X1), (iv xL1.Y1)]) ag_38 sz_38 (h1.ev rfl) (CellsAt.take (rdb h2 (vs := [(iv xL1.X0), (iv xL1.Y0), (iv xL1.X1), (iv xL1.Y1)]) (k := 2) rfl 0) 4) rfl) ?_
   obtain ⟨y105, hy105, H⟩ := bnd H
   refine Tr.call0 (r := (.bool y105)) (wn rfl) rfl Tryz.call104 (evl_cons rfl evl_nil) (fun W hW => F_shape_isRect_ok xL1 y105 hy105 (HF.start _)) ?_
   refine Tr.v1 rfl run_not rfl ?_
   refine Tr.nil (Tr.normThen ?_)
   refine Tr.cond rfl H (fun H => ?_) (fun H => ?_)
   ·refine Tr.sr ?_
    refine Tr.asg rfl rfl ?_
    refine Tr.nil (Tr.normThen ?_)
    refine Tr.ret (Tr.retThen (Tr.retBlock (Tr.retThen (Tr.retThen (Tr.retBlock (Tr.retThen ?_))))))
    obtain rfl := Option.some.inj H
    exact Tr.out (m := [(iv 1)]) [] (res_tmp rfl res_nil) (fun W hW => ⟨rfl, hW.low leB⟩)
   ·refine Tr.skip (Tr.normThen ?_)
    refine Tr.sr ?_
    refine Tr.v1 rfl (run_fieldAddr fo_38_2) rfl ?_
    refine Tr.va rfl (fun _ _ h1 h2 => run_load1 ag_3 (h1.ev rfl) (rdb h2 (vs := [(iv xL1.X0), (iv xL1.Y0), (iv xL1.X1), (iv xL1.Y1)]) (k := 2) rfl 2) rfl) ?_
    refine Tr.v1 rfl (run_fieldAddr fo_38_0) rfl ?_
    refine Tr.va rfl (fun _ _ h1 h2 => run_load1 ag_3 (h1.ev rfl) (rdb h2 (vs := [(iv xL1.X0), (iv xL1.Y0), (iv xL1.X1), (iv xL1.Y1)]) (k := 2) rfl 0) rfl) ?_
    refine Tr.v2 rfl run_leq rfl rfl ?_
    refine Tr.mv rfl rfl ?_
    refine Tr.mid0 6 [(8, (.slice Ap0_0 (p0).length cp0_0)), (9, (iv (p0.length : Int))), (10, (iv (iL1 : Int))), (28, (.bool ((decide (xL1.X1 ≤ xL1.X0)) || (decide (xL1.Y1 ≤ xL1.Y0)))))] [(2, bx b104 #[(iv xL1.X0), (iv xL1.Y0), (iv xL1.X1), (iv xL1.Y1)] 38)] ?_ ?_
    ·cases hg105 : (decide (xL1.X1 ≤ xL1.X0))
     ·refine Tr.w1 (wg rfl rfl rfl) rfl (run_fieldAddr fo_38_3) rfl ?_
      refine Tr.val (wg rfl rfl rfl) rfl (fun _ _ h1 h2 => run_load1 ag_3 (h1.ev rfl) (rdb h2 (vs := [(iv xL1.X0), (iv xL1.Y0), (iv xL1.X1), (iv xL1.Y1)]) (k := 2) rfl 3) rfl) ?_
      refine Tr.w1 (wg rfl rfl rfl) rfl (run_fieldAddr fo_38_1) rfl ?_
      refine Tr.val (wg rfl rfl rfl) rfl (fun _ _ h1 h2 => run_load1 ag_3 (h1.ev rfl) (rdb h2 (vs := [(iv xL1.X0), (iv xL1.Y0), (iv xL1.X1), (iv xL1.Y1)]) (k := 2) rfl 1) rfl) ?_
      refine Tr.w2 (wg rfl rfl rfl) rfl run_leq rfl rfl ?_
      refine Tr.v2 rfl run_pickF rfl rfl ?_
      exact Tr.nil (Tr.fin0 (.r rfl) (.r rfl))
     ·refine Tr.ps ?_
      refine Tr.ps ?_
      refine Tr.ps ?_
      refine Tr.ps ?_
      refine Tr.ps ?_
      refine Tr.v2 rfl run_pickT rfl rfl ?_
      exact Tr.nil (Tr.fin0 (.r rfl) (.r rfl))
    ·show Tr _ _ (LF [(8, (.slice Ap0_0 (p0).length cp0_0)), (9, (iv (p0.length : Int))), (10, (iv (iL1 : Int))), (28, (.bool ((decide (xL1.X1 ≤ xL1.X0)) || (decide (xL1.Y1 ≤ xL1.Y0)))))]) (LE [(2, bx b104 #[(iv xL1.X0), (iv xL1.Y0), (iv xL1.X1), (iv xL1.Y1)] 38)]) _
     refine Tr.nil (Tr.normThen ?_)
     refine Tr.cond rfl H (fun H => ?_) (fun H => ?_)
     ·refine Tr.sr ?_
      refine Tr.asg rfl rfl ?_
      refine Tr.nil (Tr.normThen ?_)
      refine Tr.ret (Tr.retBlock (Tr.retThen (Tr.retThen (Tr.retBlock (Tr.retThen ?_)))))
      obtain rfl := Option.some.inj H
      exact Tr.out (m := [(iv 13)]) [] (res_tmp rfl res_nil) (fun W hW => ⟨rfl, hW.low leB⟩)
     ·refine Tr.skip (Tr.normBlock (Tr.normThen ?_))
      refine Tr.region ?_
      refine Tr.v2 rfl run_add rfl rfl ?_
      refine Tr.mv rfl rfl ?_
      refine Tr.nil ?_
      exact Tr.backThen leL1 (restL1, (iL1 + 1)) ⟨rfl, range_tl hdL1, range_lt hdL1, H⟩ (.cons rfl (.cons rfl (.cons (congrArg (fun z => some (Value.int .i64 z)) (range_up hdL1 hp0_0.form)) .nil))) .nil

theorem F_slices_Clone_Rect_ok {w : Bs} (p0 : (List TRect)) (Ap0_0 : Option Addr) (cp0_0 : Nat) (hp0_0 : Sl w.R w.W fl_TRect Ap0_0 cp0_0 p0) (r : (List TRect)) (H : F_slices_Clone_Rect p0 = some r) (hE : HF w w.W (LEn [emp])) : Calls Tryz.prog 59 [(.slice Ap0_0 (p0).length cp0_0)].toArray w.W fun e W' => ∃ u : (Option Addr × Nat), e = .returned (.slice u.1 (r).length u.2) ∧ (SlF u.1 (r).length u.2) ∧ HF w W' (LEn [ow u.1 u.2 38 fl_TRect r]) := by
 unfold F_slices_Clone_Rect at H
 have leB := Bs.Le.refl w
 refine Tr.enter (n := 8) Tryz.func59 rfl rfl rfl hE ?_
 refine Tr.sr ?_
 refine Tr.asg rfl rfl ?_
 refine Tr.nilOwn 1 38 fl_TRect ?_
 show Tr _ _ (uf _ 2 (.slice none (([] : List TRect)).length 0)) _ _
 refine Tr.nil (Tr.normThen ?_)
 refine Tr.seq ?_
 refine Tr.sr ?_
 refine Tr.mv rfl rfl ?_
 refine Tr.v2 rfl (run_eqlNil un_22) rfl rfl ?_
 refine Tr.nil (Tr.normThen ?_)
 cases Ap0_0 with
 | none =>
  have hl0 := slf_none hp0_0.form
  replace H : (some ([] : List TRect)) = some r := by simpa [apd, hl0] using H
  refine Tr.condT rfl rfl ?_
  refine Tr.sr ?_
  refine Tr.asg rfl rfl ?_
  refine Tr.nilOwn 2 38 fl_TRect ?_
  show Tr _ _ (uf _ 2 (.slice none (([] : List TRect)).length 0)) _ _
  refine Tr.nil (Tr.normThen ?_)
  refine Tr.ret (Tr.retThen ?_)
  obtain rfl := Option.some.inj H
  exact Tr.out (m := [(.slice none (([] : List TRect)).length 0)]) [] (res_tmp rfl res_nil) (fun W hW => ⟨(none, 0), rfl, slf_nil, HF.lowE leB (hW.pick (ks := [2]) (by decide) (pk_cons rfl pk_nil)) ⟨ow_any _ _ _ _ tr_TRect, trivial⟩⟩)
 | some a102 =>
  refine Tr.condF rfl rfl ?_
  refine Tr.skip (Tr.normThen ?_)
  refine Tr.sr ?_
  refine Tr.buildSlice 3 (e := 38) (vs := []) (cs := []) (wn rfl) rfl evs_nil (by kernel_rfl) fun b100 => ?_
  refine Tr.mv rfl rfl ?_
  refine Tr.own 3 fl_TRect ([] : List TRect) (css := []) rfl .nil rfl (by decide) (lit_max rfl) ?_
  obtain ⟨l101, hl101, H⟩ := bnd H
  refine Tr.appendS 3 (t := fl_TRect) (l := ([] : List TRect)) (l2 := p0) (wn rfl) rfl rfl rfl rfl (apT tr_TRect (fun W hW => (Sl.inB hp0_0 hW))) un_22 sz_38 zl_38 (by decide) by_38 rfl hl101 fun Al101 cl101 hAl101 => ?_
  refine Tr.asg rfl rfl ?_
  refine Tr.nil (Tr.normThen ?_)
  refine Tr.ret ?_
  obtain rfl := Option.some.inj H
  exact Tr.out (m := [(.slice Al101 (l101).length cl101)]) [] (res_tmp rfl res_nil) (fun W hW => ⟨(Al101, cl101), rfl, hAl101, HF.lowE leB (hW.pick (ks := [3]) (by decide) (pk_cons rfl pk_nil)) ⟨ow_any _ _ _ _ tr_TRect, trivial⟩⟩)

theorem F_slices_SortFunc_TRect_ok {w : Bs} (p0 : List TRect) (Ap0_0 : Option Addr) (cp0_0 : Nat) (p1 : TRect → TRect → Option Int) (fid1 : Nat) (cap1 : List Value) (hg1 : ∀ args W, (callFunc fid1 args).run Tryz.prog W = .ok (.enter fid1 args) W) (hf1 : ∀ (w' : Bs), w.Ext w' → ∀ (z0 : TRect) (z1 : TRect), ∀ y, p1 z0 z1 = some y → Calls Tryz.prog fid1 (([(.agg #[(iv z0.X0), (iv z0.Y0), (iv z0.X1), (iv z0.Y1)]), (.agg #[(iv z1.X0), (iv z1.Y0), (iv z1.X1), (iv z1.Y1)])] : List Value) ++ cap1).toArray w'.W fun e W'' => e = .returned (iv y) ∧ HF w' W'' E0) (r : List TRect) (H : srtF p0 p1 = some r) (hE : HF w w.W (LEn [ow Ap0_0 cp0_0 38 fl_TRect p0])) : Calls Tryz.prog 60 [(.slice Ap0_0 (p0).length cp0_0), (.func (.func fid1) #[] cap1.toArray)].toArray w.W fun e W' => ∃ u : Unit, e = .returned (.tuple #[]) ∧ ((r).length = (p0).length) ∧ HF w W' (LEn [ow Ap0_0 cp0_0 38 fl_TRect r]) :=
 sortFunc_rule (ρ := Tryz.srt60_ren) Tryz.srt60 (fun _ => run_isAgg ag_38) (fun _ => run_sizeOf sz_38) ef_TRect tr_TRect () hg1 hf1 H hE

theorem F_shape_SetOf_1_ok {w : Bs} (p0 : TRect) (p1 : TRect) (r : Int) (H : F_shape_SetOf_1 p0 p1 = some r) (hE : HF w w.W E0) : Calls Tryz.prog 61 [(.agg #[(iv p0.X0), (iv p0.Y0), (iv p0.X1), (iv p0.Y1)]), (.agg #[(iv p1.X0), (iv p1.Y0), (iv p1.X1), (iv p1.Y1)])].toArray w.W fun e W' => e = .returned (iv r) ∧ HF w W' E0 := by
 unfold F_shape_SetOf_1 at H
 have leB := Bs.Le.refl w
 refine Tr.enter (n := 10) Tryz.func61 rfl rfl rfl hE ?_
 refine Tr.sr ?_
 refine Tr.box 1 (cs := [(iv p0.X0), (iv p0.Y0), (iv p0.X1), (iv p0.Y1)]) (wn rfl) rfl rfl rfl fun b100 => ?_
 refine Tr.box 2 (cs := [(iv p1.X0), (iv p1.Y0), (iv p1.X1), (iv p1.Y1)]) (wn rfl) rfl rfl rfl fun b101 => ?_
 refine Tr.asg rfl rfl ?_
 refine Tr.nil (Tr.normThen ?_)
 refine Tr.sr ?_
 refine Tr.v1 rfl (run_fieldAddr fo_38_1) rfl ?_
 refine Tr.va rfl (fun _ _ h1 h2 => run_load1 ag_3 (h1.ev rfl) (rdb h2 (vs := [(iv p0.X0), (iv p0.Y0), (iv p0.X1), (iv p0.Y1)]) (k := 1) rfl 1) rfl) ?_
 refine Tr.v1 rfl (run_fieldAddr fo_38_1) rfl ?_
 refine Tr.va rfl (fun _ _ h1 h2 => run_load1 ag_3 (h1.ev rfl) (rdb h2 (vs := [(iv p1.X0), (iv p1.Y0), (iv p1.X1), (iv p1.Y1)]) (k := 2) rfl 1) rfl) ?_
 refine Tr.v2 rfl run_sub rfl rfl ?_
 refine Tr.asg rfl rfl ?_
 refine Tr.nil (Tr.normThen ?_)
 refine Tr.ret ?_
 obtain rfl := Option.some.inj H
 exact Tr.out (m := [(iv (w64 (p0.Y0 - p1.Y0)))]) [] (res_tmp rfl res_nil) (fun W hW => ⟨rfl, hW.low leB⟩)

theorem F_slices_Sort_int_ok {w : Bs} (p0 : List Int) (Ap0_0 : Option Addr) (cp0_0 : Nat) (r : List Int) (H : srtI p0 = some r) (hE : HF w w.W (LEn [ow Ap0_0 cp0_0 3 fl_i64 p0])) : Calls Tryz.prog 62 [(.slice Ap0_0 (p0).length cp0_0)].toArray w.W fun e W' => ∃ u : Unit, e = .returned (.tuple #[]) ∧ ((r).length = (p0).length) ∧ HF w W' (LEn [ow Ap0_0 cp0_0 3 fl_i64 r]) :=
 sortI_rule (ρ := Tryz.sort62_ren) Tryz.sort62 rfl ef_i64 tr_i64 () H hE

theorem F_slices_Compact_int_ok {w : Bs} (p0 : List Int) (Ap0_0 : Option Addr) (cp0_0 : Nat) (r : List Int) (H : cpI p0 = some r) (hE : HF w w.W (LEn [ow Ap0_0 cp0_0 3 fl_i64 p0])) : Calls Tryz.prog 63 [(.slice Ap0_0 (p0).length cp0_0)].toArray w.W fun e W' => ∃ u : (Option Addr × Nat), e = .returned (.slice u.1 (r).length u.2) ∧ (SlF u.1 (r).length u.2) ∧ HF w W' (LEn [ow u.1 u.2 3 fl_i64 r]) :=
 compactI_rule (ρ := Tryz.cmpc63_ren) Tryz.cmpc63 rfl ef_i64 tr_i64 () H hE

theorem F_shape_SetOf_2_ok {w : Bs} (p0 : TRect) (q0 : (List Int)) (Aq0_0 : Option Addr) (cq0_0 : Nat) (hq0_0 : Sl w.R w.W fl_i64 Aq0_0 cq0_0 q0) (bq0 : Nat) (hb0 : w.R bq0) (hc0 : CellsAt w.W bq0 0 [(.slice Aq0_0 (q0).length cq0_0)]) (q1 : Int) (bq1 : Nat) (hb1 : w.R bq1) (hc1 : CellsAt w.W bq1 0 [(iv q1)]) (r : Bool) (H : F_shape_SetOf_2 p0 q0 q1 = some r) (hE : HF w w.W E0) : Calls Tryz.prog 65 [(.agg #[(iv p0.X0), (iv p0.Y0), (iv p0.X1), (iv p0.Y1)]), (.pointer (some ⟨bq0, 0, none⟩)), (.pointer (some ⟨bq1, 0, none⟩))].toArray w.W fun e W' => e = .returned (.bool r) ∧ HF w W' E0 := by
 unfold F_shape_SetOf_2 at H
 have leB := Bs.Le.refl w
 refine Tr.enter (n := 12) Tryz.func65 rfl rfl rfl hE ?_
 refine Tr.sr ?_
 refine Tr.box 1 (cs := [(iv p0.X0), (iv p0.Y0), (iv p0.X1), (iv p0.Y1)]) (wn rfl) rfl rfl rfl fun b100 => ?_
 refine Tr.asg rfl rfl ?_
 refine Tr.nil (Tr.normThen ?_)
 refine Tr.seq ?_
 refine Tr.draw (by kernel_rfl) (by kernel_rfl) ?_
 refine Tq.v1 rfl (run_fieldAddr fo_38_3) rfl ?_
 refine Tq.va rfl (fun _ _ h1 h2 => run_load1 ag_3 (h1.ev rfl) (rdb h2 (vs := [(iv p0.X0), (iv p0.Y0), (iv p0.X1), (iv p0.Y1)]) (k := 1) rfl 3) rfl) ?_
 refine Tq.va rfl (fun _ _ h1 h2 => run_load1 ag_96 (h1.ev rfl) (rdR hb0 hc0 h2) rfl) ?_
 refine Tq.va rfl (fun _ _ h1 h2 => run_load1 ag_3 (h1.ev rfl) (rdR hb1 hc1 h2) rfl) ?_
 obtain ⟨x101, hx101, H⟩ := bnd H
 obtain ⟨hx1010, hx1011, hx1012⟩ := idx_some hx101
 refine Tq.va rfl (fun _ _ h1 h2 => run_indexAddr el_96 (h1.ev rfl) hq0_0.form (h1.ev rfl) hx1010 hx1011) ?_
 refine Tq.va rfl (fun _ _ h1 h2 => run_load1 ag_3 (h1.ev rfl) (rdF ef_i64 hq0_0 hx1012 h2) rfl) ?_
 refine Tq.v2 rfl run_leq rfl rfl ?_
 refine Tq.asg rfl rfl ?_
 refine Tq.nil (Tr.normThen ?_)
 refine Tr.ret ?_
 obtain rfl := Option.some.inj H
 exact Tr.out (m := [(.bool (decide (p0.Y1 ≤ x101)))]) [] (res_tmp rfl res_nil) (fun W hW => ⟨rfl, hW.low leB⟩)

theorem F_slices_IndexFunc_Rect_ok {w : Bs} (p0 : (List TRect)) (Ap0_0 : Option Addr) (cp0_0 : Nat) (hp0_0 : Sl w.R w.W fl_TRect Ap0_0 cp0_0 p0) (p1 : TRect → Option Bool) (fid1 : Nat) (cap1 : List Value) (hg1 : ∀ args W, (callFunc fid1 args).run Tryz.prog W = .ok (.enter fid1 args) W) (hf1 : ∀ (w' : Bs), w.Ext w' → ∀ (z0 : TRect), ∀ y, p1 z0 = some y → Calls Tryz.prog fid1 (([(.agg #[(iv z0.X0), (iv z0.Y0), (iv z0.X1), (iv z0.Y1)])] : List Value) ++ cap1).toArray w'.W fun e W'' => e = .returned (.bool y) ∧ HF w' W'' E0) (r : Int) (H : F_slices_IndexFunc_Rect p0 p1 = some r) (hE : HF w w.W E0) : Calls Tryz.prog 108 [(.slice Ap0_0 (p0).length cp0_0), (.func (.func fid1) #[] cap1.toArray)].toArray w.W fun e W' => e = .returned (iv r) ∧ HF w W' E0 := by
 unfold F_slices_IndexFunc_Rect at H
 have leB := Bs.Le.refl w
 refine Tr.enter (n := 19) Tryz.func108 rfl rfl rfl hE ?_
 refine Tr.sr ?_
 refine Tr.asg rfl rfl ?_
 refine Tr.nil (Tr.normThen ?_)
 refine Tr.seq ?_
 refine Tr.sr ?_
 refine Tr.mv rfl rfl ?_
 refine Tr.v1 rfl (run_len un_22) rfl ?_
 refine Tr.mv rfl rfl ?_
 refine Tr.nil (Tr.normThen ?_)
 refine Tr.block ?_
 refine Tr.loop (σ := (List TRect) × Nat) (fun m w s => m = s.1.length + 1 ∧ s.1 = List.drop s.2 p0 ∧ s.2 ≤ p0.length ∧ F_slices_IndexFunc_Rect_L1 p1 s.1 s.2 = some r) (fun s => [(0, (.slice Ap0_0 (p0).length cp0_0)), (1, (.func (.func fid1) #[] cap1.toArray)), (7, (iv (p0.length : Int))), (8, (iv (s.2 : Int)))]) (fun s => []) (p0.length + 1) (p0, 0) ⟨rfl, rfl, Nat.zero_le _, H⟩ (.r rfl) .nil (fun _ _ h => absurd h.1 (by simp)) ?_
 intro w leL1 m s hs
 obtain ⟨restL1, iL1⟩ := s
 obtain ⟨hmL1, hdL1, hiL1, H⟩ := hs
 replace hdL1 : restL1 = List.drop iL1 p0 := hdL1
 replace H : F_slices_IndexFunc_Rect_L1 p1 restL1 iL1 = some r := H
 replace hmL1 : m + 1 = restL1.length + 1 := hmL1
 replace hp0_0 := hp0_0.leR leL1
 replace hf1 := fun w' he => hf1 w' (leL1.ext.trans he)
 replace leB := leB.trans leL1
 obtain rfl : m = restL1.length := by omega
 clear hmL1
 show Tr _ _ (LF [(0, (.slice Ap0_0 (p0).length cp0_0)), (1, (.func (.func fid1) #[] cap1.toArray)), (7, (iv (p0.length : Int))), (8, (iv (iL1 : Int)))]) (LE []) _
 cases restL1 with
 | nil =>
  rw [F_slices_IndexFunc_Rect_L1.eq_1] at H
  refine Tr.sr ?_
  refine Tr.v2 rfl run_lss rfl rfl ?_
  refine Tr.nil (Tr.normThen ?_)
  refine Tr.seq ?_
  refine Tr.condF rfl (range_nil hdL1) ?_
  refine Tr.exit (Tr.exitThen (Tr.exitThen (Tr.exitBlock (Tr.normThen ?_))))
  refine Tr.sr ?_
  refine Tr.asg rfl rfl ?_
  refine Tr.nil (Tr.normThen ?_)
  refine Tr.ret ?_
  obtain rfl := Option.some.inj H
  exact Tr.out (m := [(iv (-1))]) [] (res_tmp rfl res_nil) (fun W hW => ⟨rfl, hW.low leB⟩)
 | cons xL1 restL1 =>
  rw [F_slices_IndexFunc_Rect_L1.eq_2] at H
  refine Tr.sr ?_
  refine Tr.v2 rfl run_lss rfl rfl ?_
  refine Tr.nil (Tr.normThen ?_)
  refine Tr.seq ?_
  refine Tr.condT rfl (range_on hdL1) ?_
  refine Tr.skip (Tr.normThen ?_)
  refine Tr.seq ?_
  refine Tr.block ?_
  refine Tr.sr ?_
  refine Tr.mv rfl rfl ?_
  refine Tr.asg rfl rfl ?_
  refine Tr.nil (Tr.normThen ?_)
  refine Tr.sr ?_
  refine Tr.mv rfl rfl ?_
  refine Tr.mv rfl rfl ?_
  refine Tr.mv rfl rfl ?_
  refine Tr.va rfl (fun _ _ h1 h2 => run_indexAddr el_22 (h1.ev rfl) hp0_0.form (h1.ev rfl) (Int.natCast_nonneg _) (range_lt hdL1)) ?_
  refine Tr.va rfl (fun _ _ h1 h2 => run_loadN (cs := [(iv xL1.X0), (iv xL1.Y0), (iv xL1.X1), (iv xL1.Y1)]) ag_38 sz_38 (h1.ev rfl) (CellsAt.take (rdF ef_TRect hp0_0 (range_at hdL1) h2) 4) rfl) ?_
  obtain ⟨y103, hy103, H⟩ := bnd H
  refine Tr.callF (r := (.bool y103)) (wn rfl) rfl rfl hg1 (evl_cons rfl evl_nil) (fun W hW => hf1 hW.all hW.extAll xL1 _ hy103) ?_
  refine Tr.nil (Tr.normThen ?_)
  refine Tr.cond rfl H (fun H => ?_) (fun H => ?_)
  ·refine Tr.sr ?_
   refine Tr.mv rfl rfl ?_
   refine Tr.asg rfl rfl ?_
   refine Tr.nil (Tr.normThen ?_)
   refine Tr.ret (Tr.retBlock (Tr.retThen (Tr.retThen (Tr.retBlock (Tr.retThen ?_)))))
   obtain rfl := Option.some.inj H
   exact Tr.out (m := [(iv (iL1 : Int))]) [] (res_tmp rfl res_nil) (fun W hW => ⟨rfl, hW.low leB⟩)
  ·refine Tr.skip (Tr.normBlock (Tr.normThen ?_))
   refine Tr.region ?_
   refine Tr.v2 rfl run_add rfl rfl ?_
   refine Tr.mv rfl rfl ?_
   refine Tr.nil ?_
   exact Tr.backThen leL1 (restL1, (iL1 + 1)) ⟨rfl, range_tl hdL1, range_lt hdL1, H⟩ (.cons rfl (.cons rfl (.cons rfl (.cons (congrArg (fun z => some (Value.int .i64 z)) (range_up hdL1 hp0_0.form)) .nil)))) .nil

theorem F_slices_DeleteFunc_Rect_ok (N : Nat) {w : Bs} (p0 : (List TRect)) (Ap0_0 : Option Addr) (cp0_0 : Nat) (p1 : TRect → Option Bool) (fid1 : Nat) (cap1 : List Value) (hg1 : ∀ args W, (callFunc fid1 args).run Tryz.prog W = .ok (.enter fid1 args) W) (hf1 : ∀ (w' : Bs), w.Ext w' → ∀ (z0 : TRect), ∀ y, p1 z0 = some y → Calls Tryz.prog fid1 (([(.agg #[(iv z0.X0), (iv z0.Y0), (iv z0.X1), (iv z0.Y1)])] : List Value) ++ cap1).toArray w'.W fun e W'' => e = .returned (.bool y) ∧ HF w' W'' E0) (r : (List TRect)) (H : F_slices_DeleteFunc_Rect N p0 p1 = some r) (hE : HF w w.W (LEn [ow Ap0_0 cp0_0 38 fl_TRect p0])) : Calls Tryz.prog 64 [(.slice Ap0_0 (p0).length cp0_0), (.func (.func fid1) #[] cap1.toArray)].toArray w.W fun e W' => ∃ u : (Option Addr × Nat), e = .returned (.slice u.1 (r).length u.2) ∧ (SlF u.1 (r).length u.2) ∧ HF w W' (LEn [ow u.1 u.2 38 fl_TRect r]) := by
 unfold F_slices_DeleteFunc_Rect at H
 have hfhp0_0 := (hE.sl (k := 0) rfl).form
 have leB := Bs.Le.refl w
 refine Tr.enter (n := 42) Tryz.func64 rfl rfl rfl hE ?_
 refine Tr.sr ?_
 refine Tr.asg rfl rfl ?_
 refine Tr.nilOwn 1 38 fl_TRect ?_
 show Tr _ _ (uf _ 4 (.slice none (([] : List TRect)).length 0)) _ _
 refine Tr.nil (Tr.normThen ?_)
 refine Tr.sr ?_
 refine Tr.mv rfl rfl ?_
 refine Tr.mv rfl rfl ?_
 obtain ⟨y100, hy100, H⟩ := bnd H
 refine Tr.call0 (r := (iv y100)) (wn rfl) rfl Tryz.call108 (evl_cons rfl (evl_cons rfl evl_nil)) (fun W hW => F_slices_IndexFunc_Rect_ok p0 Ap0_0 cp0_0 (hW.slCall (k := 0) rfl) p1 fid1 cap1 hg1 (fun w' he => hf1 w' (hW.extAll.trans he)) y100 hy100 (HF.start _)) ?_
 refine Tr.asg rfl rfl ?_
 refine Tr.nil (Tr.normThen ?_)
 refine Tr.seq ?_
 refine Tr.sr ?_
 refine Tr.mv rfl rfl ?_
 refine Tr.v2 rfl run_eql rfl rfl ?_
 refine Tr.nil (Tr.normThen ?_)
 refine Tr.cond rfl H (fun H => ?_) (fun H => ?_)
 ·refine Tr.sr ?_
  refine Tr.mv rfl rfl ?_
  refine Tr.asg rfl rfl ?_
  refine Tr.nil (Tr.normThen ?_)
  refine Tr.ret (Tr.retThen ?_)
  obtain rfl := Option.some.inj H
  exact Tr.out (m := [(.slice Ap0_0 (p0).length cp0_0)]) [] (res_tmp rfl res_nil) (fun W hW => ⟨(Ap0_0, cp0_0), rfl, hfhp0_0, HF.lowE leB (hW.pick (ks := [0]) (by decide) (pk_cons rfl pk_nil)) ⟨ow_any _ _ _ _ tr_TRect, trivial⟩⟩)
 ·refine Tr.skip (Tr.normThen ?_)
  refine Tr.seq ?_
  refine Tr.sr ?_
  refine Tr.mv rfl rfl ?_
  refine Tr.v2 rfl run_add rfl rfl ?_
  refine Tr.asg rfl rfl ?_
  refine Tr.nil (Tr.normThen ?_)
  refine Tr.block ?_
  refine Tr.loop (σ := (List TRect) × Int × Int) (fun m w s => F_slices_DeleteFunc_Rect_L1 p1 m s.1 s.2.1 s.2.2 = some r ∧ (s.1).length = (p0).length) (fun s => [(0, (.slice Ap0_0 (s.1).length cp0_0)), (1, (.func (.func fid1) #[] cap1.toArray)), (5, (iv s.2.1)), (6, (iv s.2.2))]) (fun s => [(0, ow Ap0_0 cp0_0 38 fl_TRect s.1)]) N (p0, y100, (w64 (y100 + 1))) ⟨H, rfl⟩ (.r rfl) (.r rfl) (fun _ _ h => noSome (h.1)) ?_
  intro w leL1 mL1 s hs
  obtain ⟨l120, x121, x122⟩ := s
  obtain ⟨H, hl120⟩ := hs
  replace H : F_slices_DeleteFunc_Rect_L1 p1 (mL1 + 1) l120 x121 x122 = some r := H
  replace hf1 := fun w' he => hf1 w' (leL1.ext.trans he)
  replace leB := leB.trans leL1
  replace hl120 : (l120).length = (p0).length := hl120
  have hfl120 : SlF Ap0_0 (l120).length cp0_0 := (by rw [hl120]; exact hfhp0_0)
  rw [F_slices_DeleteFunc_Rect_L1.eq_2] at H
  show Tr _ _ (LF [(0, (.slice Ap0_0 (l120).length cp0_0)), (1, (.func (.func fid1) #[] cap1.toArray)), (5, (iv x121)), (6, (iv x122))]) (LE [(0, ow Ap0_0 cp0_0 38 fl_TRect l120)]) _
  refine Tr.seq ?_
  refine Tr.sr ?_
  refine Tr.mv rfl rfl ?_
  refine Tr.mv rfl rfl ?_
  refine Tr.v1 rfl (run_len un_22) rfl ?_
  refine Tr.v2 rfl run_lss rfl rfl ?_
  refine Tr.nil (Tr.normThen ?_)
  refine Tr.cond rfl H (fun H => ?_) (fun H => ?_)
  ·refine Tr.skip (Tr.normThen ?_)
   refine Tr.seq ?_
   refine Tr.block ?_
   refine Tr.sr ?_
   refine Tr.mv rfl rfl ?_
   refine Tr.mv rfl rfl ?_
   obtain ⟨x123, hx123, H⟩ := bnd H
   obtain ⟨hx1230, hx1231, hx1232⟩ := idx_some hx123
   refine Tr.va rfl (fun _ _ h1 h2 => run_indexAddr el_22 (h1.ev rfl) hfl120 (h1.ev rfl) hx1230 hx1231) ?_
   refine Tr.va rfl (fun _ _ h1 h2 => run_loadN (cs := [(iv x123.X0), (iv x123.Y0), (iv x123.X1), (iv x123.Y1)]) ag_38 sz_38 (h1.ev rfl) (CellsAt.take (rdo ef_TRect (k := 0) h2 rfl hx1232) 4) rfl) ?_
   refine Tr.alloc 4 (wn rfl) rfl ze_38 fun b124 => ?_
   refine Tr.store 4 (cs := [(iv x123.X0), (iv x123.Y0), (iv x123.X1), (iv x123.Y1)]) [(iv x123.X0), (iv x123.Y0), (iv x123.X1), (iv x123.Y1)] (wn rfl) rfl rfl rfl rfl sz_38 rfl rfl rfl ?_
   refine Tr.nil (Tr.normThen ?_)
   refine Tr.sr ?_
   refine Tr.mv rfl rfl ?_
   refine Tr.va rfl (fun _ _ h1 h2 => run_loadN (cs := [(iv x123.X0), (iv x123.Y0), (iv x123.X1), (iv x123.Y1)]) ag_38 sz_38 (h1.ev rfl) (CellsAt.take (rdb h2 (vs := [(iv x123.X0), (iv x123.Y0), (iv x123.X1), (iv x123.Y1)]) (k := 4) rfl 0) 4) rfl) ?_
   obtain ⟨y125, hy125, H⟩ := bnd H
   refine Tr.callF (r := (.bool y125)) (wn rfl) rfl rfl hg1 (evl_cons rfl evl_nil) (fun W hW => hf1 hW.all hW.extAll x123 _ hy125) ?_
   refine Tr.v1 rfl run_not rfl ?_
   refine Tr.nil (Tr.normThen ?_)
   refine Tr.cond rfl H (fun H => ?_) (fun H => ?_)
   ·refine Tr.sr ?_
    refine Tr.mv rfl rfl ?_
    refine Tr.mv rfl rfl ?_
    refine Tr.va rfl (fun _ _ h1 h2 => run_loadN (cs := [(iv x123.X0), (iv x123.Y0), (iv x123.X1), (iv x123.Y1)]) ag_38 sz_38 (h1.ev rfl) (CellsAt.take (rdb h2 (vs := [(iv x123.X0), (iv x123.Y0), (iv x123.X1), (iv x123.Y1)]) (k := 4) rfl 0) 4) rfl) ?_
    obtain ⟨x126, hx126, H⟩ := bnd H
    obtain ⟨hx1260, hx1261, hx1262⟩ := idx_some hx126
    refine Tr.va rfl (fun _ _ h1 h2 => run_indexAddr el_22 (h1.ev rfl) hfl120 (h1.ev rfl) hx1260 hx1261) ?_
    obtain ⟨l127, hl127, H⟩ := bnd H
    have hnl127 := sets_len hl127
    refine Tr.storeEl 0 (t := fl_TRect) (l := l120) (i := x121) (fo := 0) (cs := [(iv x123.X0), (iv x123.Y0), (iv x123.X1), (iv x123.Y1)]) x123 (wn rfl) rfl rfl rfl rfl rfl hx1262 sz_38 rfl (fun u _ => ⟨u, trivial, rfl⟩) rfl hl127 ?_
    have hfl127 : SlF Ap0_0 (l127).length cp0_0 := by rw [hnl127]; exact hfl120
    have hsl127 := hnl127.trans hl120
    refine Tr.sel (lf := [(0, (.slice Ap0_0 (l127).length cp0_0)), (1, (.func (.func fid1) #[] cap1.toArray)), (5, (iv x121)), (6, (iv x122)), (7, (.pointer (some ⟨b124, 0, none⟩))), (16, (iv x122)), (17, (.slice Ap0_0 (l127).length cp0_0)), (18, (iv (l120.length : Int))), (19, (.bool (decide (x122 < (l120.length : Int))))), (22, (.slice Ap0_0 (l127).length cp0_0)), (23, (iv x122)), (25, (.agg #[(iv x123.X0), (iv x123.Y0), (iv x123.X1), (iv x123.Y1)])), (26, (.func (.func fid1) #[] cap1.toArray)), (27, (.agg #[(iv x123.X0), (iv x123.Y0), (iv x123.X1), (iv x123.Y1)])), (28, (.bool y125)), (29, (.bool (!y125))), (30, (.slice Ap0_0 (l127).length cp0_0)), (31, (iv x121)), (32, (.agg #[(iv x123.X0), (iv x123.Y0), (iv x123.X1), (iv x123.Y1)]))]) (le := [(0, ow Ap0_0 cp0_0 38 fl_TRect l127), (4, bx b124 #[(iv x123.X0), (iv x123.Y0), (iv x123.X1), (iv x123.Y1)] 38)]) (.cons (slenV rfl (by rw [hnl127])) (.cons rfl (.cons rfl (.cons rfl (.cons rfl (.cons rfl (.cons (slenV rfl (by rw [hnl127])) (.cons rfl (.cons rfl (.cons (slenV rfl (by rw [hnl127])) (.cons rfl (.cons rfl (.cons rfl (.cons rfl (.cons rfl (.cons rfl (.cons (slenV rfl (by rw [hnl127])) (.r rfl)))))))))))))))))) (.r rfl) ?_
    refine Tr.nil (Tr.normThen ?_)
    refine Tr.region ?_
    refine Tr.mv rfl rfl ?_
    refine Tr.v2 rfl run_add rfl rfl ?_
    refine Tr.asg rfl rfl ?_
    refine Tr.nil (Tr.normBlock (Tr.normThen ?_))
    refine Tr.region ?_
    refine Tr.mv rfl rfl ?_
    refine Tr.v2 rfl run_add rfl rfl ?_
    refine Tr.asg rfl rfl ?_
    refine Tr.nil ?_
    exact Tr.backThen leL1 (l127, (w64 (x121 + 1)), (w64 (x122 + 1))) ⟨H, hsl127⟩ (.r rfl) (.r rfl)
   ·refine Tr.skip (Tr.normBlock (Tr.normThen ?_))
    refine Tr.region ?_
    refine Tr.mv rfl rfl ?_
    refine Tr.v2 rfl run_add rfl rfl ?_
    refine Tr.asg rfl rfl ?_
    refine Tr.nil ?_
    exact Tr.backThen leL1 (l120, x121, (w64 (x122 + 1))) ⟨H, hl120⟩ (.r rfl) (.r rfl)
  ·refine Tr.exit (Tr.exitThen (Tr.exitThen (Tr.exitBlock (Tr.normThen ?_))))
   refine Tr.sr ?_
   refine Tr.mv rfl rfl ?_
   refine Tr.mv rfl rfl ?_
   obtain ⟨l128, hl128, H⟩ := bnd H
   refine Tr.va rfl (fun _ _ h1 h2 => run_cutL el_22 (h1.ev rfl) hfl120 (h1.ev rfl) hl128) ?_
   have hnhcl128 := clr_len (TRect.mk 0 0 0 0) hl128
   refine Tr.clearCut 0 (lo := x121) (t := fl_TRect) (l := l120) (TRect.mk 0 0 0 0) (wn rfl) rfl hl128 rfl un_22 ze_38 ⟨(), tr_TRect _ _ _ _, ef_TRect _ _⟩ rfl rfl ?_
   have hfhcl128 : SlF Ap0_0 ((clr l120 x121 (l128).length (TRect.mk 0 0 0 0))).length cp0_0 := by rw [hnhcl128]; exact hfl120
   have hshcl128 := hnhcl128.trans hl120
   refine Tr.sel (lf := [(0, (.slice Ap0_0 ((clr l120 x121 (l128).length (TRect.mk 0 0 0 0))).length cp0_0)), (1, (.func (.func fid1) #[] cap1.toArray)), (5, (iv x121)), (6, (iv x122)), (16, (iv x122)), (17, (.slice Ap0_0 ((clr l120 x121 (l128).length (TRect.mk 0 0 0 0))).length cp0_0)), (18, (iv (l120.length : Int))), (19, (.bool (decide (x122 < (l120.length : Int))))), (36, (.slice Ap0_0 ((clr l120 x121 (l128).length (TRect.mk 0 0 0 0))).length cp0_0)), (37, (iv x121))]) (le := [(0, ow Ap0_0 cp0_0 38 fl_TRect (clr l120 x121 (l128).length (TRect.mk 0 0 0 0)))]) (.cons (slenV rfl (by rw [hnhcl128])) (.cons rfl (.cons rfl (.cons rfl (.cons rfl (.cons (slenV rfl (by rw [hnhcl128])) (.cons rfl (.cons rfl (.cons (slenV rfl (by rw [hnhcl128])) (.r rfl)))))))))) (.r rfl) ?_
   refine Tr.nil (Tr.normThen ?_)
   refine Tr.sr ?_
   refine Tr.mv rfl rfl ?_
   refine Tr.mv rfl rfl ?_
   obtain ⟨l129, hl129, H⟩ := bnd H
   refine Tr.va rfl (fun _ _ h1 h2 => run_pre el_22 (h1.ev rfl) hfhcl128 (h1.ev rfl) hl129) ?_
   refine Tr.asg rfl rfl ?_
   refine Tr.nil (Tr.normThen ?_)
   refine Tr.ret ?_
   obtain rfl := Option.some.inj H
   refine Tr.shrinkP 0 hl129 rfl ?_
   exact Tr.out (m := [(.slice Ap0_0 (l129).length cp0_0)]) [] (res_tmp rfl res_nil) (fun W hW => ⟨(Ap0_0, cp0_0), rfl, (pre_form hfhcl128 hl129), HF.lowE leB (hW.pick (ks := [0]) (by decide) (pk_cons rfl pk_nil)) ⟨ow_any _ _ _ _ tr_TRect, trivial⟩⟩)

theorem F_shape_stretches_1_ok {w : Bs} (p0 : TRect) (p1 : TRect) (r : Int) (H : F_shape_stretches_1 p0 p1 = some r) (hE : HF w w.W E0) : Calls Tryz.prog 110 [(.agg #[(iv p0.X0), (iv p0.Y0), (iv p0.X1), (iv p0.Y1)]), (.agg #[(iv p1.X0), (iv p1.Y0), (iv p1.X1), (iv p1.Y1)])].toArray w.W fun e W' => e = .returned (iv r) ∧ HF w W' E0 := by
 unfold F_shape_stretches_1 at H
 have leB := Bs.Le.refl w
 refine Tr.enter (n := 10) Tryz.func110 rfl rfl rfl hE ?_
 refine Tr.sr ?_
 refine Tr.box 1 (cs := [(iv p0.X0), (iv p0.Y0), (iv p0.X1), (iv p0.Y1)]) (wn rfl) rfl rfl rfl fun b100 => ?_
 refine Tr.box 2 (cs := [(iv p1.X0), (iv p1.Y0), (iv p1.X1), (iv p1.Y1)]) (wn rfl) rfl rfl rfl fun b101 => ?_
 refine Tr.asg rfl rfl ?_
 refine Tr.nil (Tr.normThen ?_)
 refine Tr.sr ?_
 refine Tr.v1 rfl (run_fieldAddr fo_38_0) rfl ?_
 refine Tr.va rfl (fun _ _ h1 h2 => run_load1 ag_3 (h1.ev rfl) (rdb h2 (vs := [(iv p0.X0), (iv p0.Y0), (iv p0.X1), (iv p0.Y1)]) (k := 1) rfl 0) rfl) ?_
 refine Tr.v1 rfl (run_fieldAddr fo_38_0) rfl ?_
 refine Tr.va rfl (fun _ _ h1 h2 => run_load1 ag_3 (h1.ev rfl) (rdb h2 (vs := [(iv p1.X0), (iv p1.Y0), (iv p1.X1), (iv p1.Y1)]) (k := 2) rfl 0) rfl) ?_
 refine Tr.v2 rfl run_sub rfl rfl ?_
 refine Tr.asg rfl rfl ?_
 refine Tr.nil (Tr.normThen ?_)
 refine Tr.ret ?_
 obtain rfl := Option.some.inj H
 exact Tr.out (m := [(iv (w64 (p0.X0 - p1.X0)))]) [] (res_tmp rfl res_nil) (fun W hW => ⟨rfl, hW.low leB⟩)

theorem F_shape_stretches_ok {w : Bs} (p0 : (List TRect)) (Ap0_0 : Option Addr) (cp0_0 : Nat) (r : ((List Int) × (List TRect))) (H : F_shape_stretches p0 = some r) (hE : HF w w.W (LEn [ow Ap0_0 cp0_0 38 fl_TRect p0, emp])) : Calls Tryz.prog 67 [(.slice Ap0_0 (p0).length cp0_0)].toArray w.W fun e W' => ∃ u : (Option Addr × Nat), e = .returned (.slice u.1 (r.1).length u.2) ∧ (SlF u.1 (r.1).length u.2 ∧ (r.2).length = (p0).length) ∧ HF w W' (LEn [ow Ap0_0 cp0_0 38 fl_TRect r.2, ow u.1 u.2 3 fl_i64 r.1]) := by
 unfold F_shape_stretches at H
 have hfhp0_0 := (hE.sl (k := 0) rfl).form
 have leB := Bs.Le.refl w
 refine Tr.enter (n := 48) Tryz.func67 rfl rfl rfl hE ?_
 refine Tr.sr ?_
 refine Tr.asg rfl rfl ?_
 refine Tr.nilOwn 1 3 fl_i64 ?_
 show Tr _ _ (uf _ 2 (.slice none (([] : List Int)).length 0)) _ _
 refine Tr.nil (Tr.normThen ?_)
 refine Tr.sr ?_
 refine Tr.mv rfl rfl ?_
 obtain ⟨y100, hy100, H⟩ := bnd H
 refine Tr.callM [0] [ow Ap0_0 cp0_0 38 fl_TRect p0] (U := Unit) (fun u => (.tuple #[])) (fun u => (y100).length = (p0).length) (fun u => [ow Ap0_0 cp0_0 38 fl_TRect y100]) rfl (pk_cons rfl pk_nil) (fun _ => rfl) (wn rfl) rfl Tryz.call60 (evl_cons rfl (evl_cons rfl evl_nil)) (fun W hW hp hE => F_slices_SortFunc_TRect_ok p0 Ap0_0 cp0_0 (fun z0 z1 => F_shape_stretches_1 z0 z1) 110 [] Tryz.call110 (fun w' he z0 z1 y hy => F_shape_stretches_1_ok z0 z1 y hy (HF.start _)) y100 hy100 hE) ?_
 intro u hu
 have gky100_0 := hu
 have hgky100_0 : (y100).length = (p0).length := gky100_0 --@phi
 have hfky100_0 : SlF Ap0_0 (y100).length cp0_0 := by rw [hgky100_0]; exact hfhp0_0
 have hsky100_0 := hgky100_0.trans rfl
 show Tr _ _ (uf _ 8 (.tuple #[])) (up _ 0 (ow Ap0_0 cp0_0 38 fl_TRect y100)) _
 refine Tr.sel (lf := [(0, (.slice Ap0_0 (y100).length cp0_0)), (2, (.slice none (([] : List Int)).length 0)), (7, (.slice Ap0_0 (y100).length cp0_0)), (8, (.tuple #[]))]) (le := [(0, ow Ap0_0 cp0_0 38 fl_TRect y100), (1, ow none 0 3 fl_i64 ([] : List Int))]) (.cons (slenV rfl (by rw [hgky100_0])) (.cons rfl (.cons (slenV rfl (by rw [hgky100_0])) (.r rfl)))) (.r rfl) ?_
 refine Tr.nil (Tr.normThen ?_)
 refine Tr.sr ?_
 refine Tr.asg rfl rfl ?_
 refine Tr.nilOwn 2 3 fl_i64 ?_
 show Tr _ _ (uf _ 3 (.slice none (([] : List Int)).length 0)) _ _
 refine Tr.nil (Tr.normThen ?_)
 refine Tr.seq ?_
 refine Tr.sr ?_
 refine Tr.mv rfl rfl ?_
 refine Tr.v1 rfl (run_len un_22) rfl ?_
 refine Tr.mv rfl rfl ?_
 refine Tr.nil (Tr.normThen ?_)
 refine Tr.block ?_
 refine Tr.loop (σ := (List TRect) × Nat × (List Int) × (Option Addr) × Nat) (fun m w s => m = s.1.length + 1 ∧ s.1 = List.drop s.2.1 y100 ∧ s.2.1 ≤ y100.length ∧ F_shape_stretches_L1 y100 s.1 s.2.1 s.2.2.1 = some r ∧ SlF s.2.2.2.1 (s.2.2.1).length s.2.2.2.2) (fun s => [(3, (.slice s.2.2.2.1 (s.2.2.1).length s.2.2.2.2)), (9, (.slice Ap0_0 (y100).length cp0_0)), (10, (iv (y100.length : Int))), (11, (iv (s.2.1 : Int)))]) (fun s => [(0, ow Ap0_0 cp0_0 38 fl_TRect y100), (2, ow s.2.2.2.1 s.2.2.2.2 3 fl_i64 s.2.2.1)]) (y100.length + 1) (y100, 0, ([] : List Int), none, 0) ⟨rfl, rfl, Nat.zero_le _, H, slf_nil⟩ (.r rfl) (.r rfl) (fun _ _ h => absurd h.1 (by simp)) ?_
 intro w leL1 m s hs
 obtain ⟨restL1, iL1, l128, Al128, cl128⟩ := s
 obtain ⟨hmL1, hdL1, hiL1, H, hl128⟩ := hs
 replace hdL1 : restL1 = List.drop iL1 y100 := hdL1
 replace H : F_shape_stretches_L1 y100 restL1 iL1 l128 = some r := H
 replace hmL1 : m + 1 = restL1.length + 1 := hmL1
 replace leB := leB.trans leL1
 replace hl128 : SlF Al128 (l128).length cl128 := hl128
 obtain rfl : m = restL1.length := by omega
 clear hmL1
 show Tr _ _ (LF [(3, (.slice Al128 (l128).length cl128)), (9, (.slice Ap0_0 (y100).length cp0_0)), (10, (iv (y100.length : Int))), (11, (iv (iL1 : Int)))]) (LE [(0, ow Ap0_0 cp0_0 38 fl_TRect y100), (2, ow Al128 cl128 3 fl_i64 l128)]) _
 cases restL1 with
 | nil =>
  rw [F_shape_stretches_L1.eq_1] at H
  refine Tr.sr ?_
  refine Tr.v2 rfl run_lss rfl rfl ?_
  refine Tr.nil (Tr.normThen ?_)
  refine Tr.seq ?_
  refine Tr.condF rfl (range_nil hdL1) ?_
  refine Tr.exit (Tr.exitThen (Tr.exitThen (Tr.exitBlock (Tr.normThen ?_))))
  refine Tr.sr ?_
  refine Tr.mv rfl rfl ?_
  refine Tr.asg rfl rfl ?_
  refine Tr.nil (Tr.normThen ?_)
  refine Tr.ret ?_
  obtain rfl := Option.some.inj H
  exact Tr.out (m := [(.slice Al128 (l128).length cl128)]) [] (res_tmp rfl res_nil) (fun W hW => ⟨(Al128, cl128), rfl, ⟨hl128, hsky100_0⟩, HF.lowE leB (hW.pick (ks := [0, 2]) (by decide) (pk_cons rfl (pk_cons rfl pk_nil))) ⟨ow_any _ _ _ _ tr_TRect, ow_any _ _ _ _ tr_i64, trivial⟩⟩)
 | cons xL1 restL1 =>
  rw [F_shape_stretches_L1.eq_2] at H
  refine Tr.sr ?_
  refine Tr.v2 rfl run_lss rfl rfl ?_
  refine Tr.nil (Tr.normThen ?_)
  refine Tr.seq ?_
  refine Tr.condT rfl (range_on hdL1) ?_
  refine Tr.skip (Tr.normThen ?_)
  refine Tr.seq ?_
  refine Tr.block ?_
  refine Tr.sr ?_
  refine Tr.va rfl (fun _ _ h1 h2 => run_indexAddr el_22 (h1.ev rfl) hfky100_0 (h1.ev rfl) (Int.natCast_nonneg _) (range_lt hdL1)) ?_
  refine Tr.va rfl (fun _ _ h1 h2 => run_loadN (cs := [(iv xL1.X0), (iv xL1.Y0), (iv xL1.X1), (iv xL1.Y1)]) ag_38 sz_38 (h1.ev rfl) (CellsAt.take (rdo ef_TRect (k := 0) h2 rfl (range_at hdL1)) 4) rfl) ?_
  refine Tr.alloc 7 (wn rfl) rfl ze_38 fun b129 => ?_
  refine Tr.store 7 (cs := [(iv xL1.X0), (iv xL1.Y0), (iv xL1.X1), (iv xL1.Y1)]) [(iv xL1.X0), (iv xL1.Y0), (iv xL1.X1), (iv xL1.Y1)] (wn rfl) rfl rfl rfl rfl sz_38 rfl rfl rfl ?_
  refine Tr.nil (Tr.normThen ?_)
  refine Tr.sr ?_
  refine Tr.mv rfl rfl ?_
  refine Tr.v1 rfl (run_len un_96) rfl ?_
  refine Tr.v2 rfl run_sub rfl rfl ?_
  refine Tr.asg rfl rfl ?_
  refine Tr.nil (Tr.normThen ?_)
  refine Tr.seq ?_
  refine Tr.draw (by kernel_rfl) (by kernel_rfl) ?_
  refine Tq.mv rfl rfl ?_
  refine Tq.v2 rfl run_geq rfl rfl ?_
  refine Tq.mv rfl rfl ?_
  obtain ⟨g131, hg131, H⟩ := bnd H
  refine Tq.mid 8 [(3, (.slice Al128 (l128).length cl128)), (5, (.pointer (some ⟨b129, 0, none⟩))), (6, (iv (w64 ((l128.length : Int) - 1)))), (9, (.slice Ap0_0 (y100).length cp0_0)), (10, (iv (y100.length : Int))), (11, (iv (iL1 : Int))), (28, (.bool g131))] ?_ ?_
  ·cases hg137 : (decide (0 ≤ (w64 ((l128.length : Int) - 1))))
   ·rw [hg137] at hg131
    rw [if_neg (by decide)] at hg131
    have H := hg131
    obtain rfl := Option.some.inj H
    refine Tq.ps ?_
    refine Tq.ps ?_
    refine Tq.ps ?_
    refine Tq.ps ?_
    refine Tq.ps ?_
    refine Tq.ps ?_
    refine Tq.ps ?_
    refine Tq.v2 rfl run_pickF rfl rfl ?_
    exact Tq.fin (.r rfl)
   ·rw [hg137] at hg131
    rw [if_pos rfl] at hg131
    have H := hg131
    refine Tq.w1 (wg rfl rfl rfl) rfl (run_fieldAddr fo_38_0) rfl ?_
    refine Tq.val (wg rfl rfl rfl) rfl (fun _ _ h1 h2 => run_load1 ag_3 (h1.ev rfl) (rdb h2 (vs := [(iv xL1.X0), (iv xL1.Y0), (iv xL1.X1), (iv xL1.Y1)]) (k := 7) rfl 0) rfl) ?_
    refine Tq.w1 (wg rfl rfl rfl) rfl run_move rfl ?_
    refine Tq.w1 (wg rfl rfl rfl) rfl run_move rfl ?_
    obtain ⟨x132, hx132, H⟩ := bnd H
    obtain ⟨hx1320, hx1321, hx1322⟩ := idx_some hx132
    refine Tq.val (wg rfl rfl rfl) rfl (fun _ _ h1 h2 => run_indexAddr el_96 (h1.ev rfl) hl128 (h1.ev rfl) hx1320 hx1321) ?_
    refine Tq.val (wg rfl rfl rfl) rfl (fun _ _ h1 h2 => run_load1 ag_3 (h1.ev rfl) (rdo ef_i64 (k := 2) h2 rfl hx1322) rfl) ?_
    refine Tq.w2 (wg rfl rfl rfl) rfl run_leq rfl rfl ?_
    refine Tq.v2 rfl run_pickT rfl rfl ?_
    obtain rfl := Option.some.inj H
    exact Tq.fin (.r rfl)
  ·refine Tq.nil (Tr.normThen ?_)
   refine Tr.cond rfl H (fun H => ?_) (fun H => ?_)
   ·refine Tr.drawTail 9 (by kernel_rfl) (by kernel_rfl) ?_
    refine Tq.mv rfl rfl ?_
    refine Tq.mv rfl rfl ?_
    refine Tq.mv rfl rfl ?_
    refine Tq.mv rfl rfl ?_
    obtain ⟨x133, hx133, H⟩ := bnd H
    obtain ⟨hx1330, hx1331, hx1332⟩ := idx_some hx133
    refine Tq.va rfl (fun _ _ h1 h2 => run_indexAddr el_96 (h1.ev rfl) hl128 (h1.ev rfl) hx1330 hx1331) ?_
    refine Tq.va rfl (fun _ _ h1 h2 => run_load1 ag_3 (h1.ev rfl) (rdo ef_i64 (k := 2) h2 rfl hx1332) rfl) ?_
    refine Tq.v1 rfl (run_fieldAddr fo_38_2) rfl ?_
    refine Tq.va rfl (fun _ _ h1 h2 => run_load1 ag_3 (h1.ev rfl) (rdb h2 (vs := [(iv xL1.X0), (iv xL1.Y0), (iv xL1.X1), (iv xL1.Y1)]) (k := 7) rfl 2) rfl) ?_
    refine Tq.va rfl (fun _ _ h1 h2 => run_max (h1.ev rfl) (h1.ev rfl) _) ?_
    refine Tq.nil ?_
    obtain ⟨x134, hx134, H⟩ := bnd H
    obtain ⟨hx1340, hx1341, hx1342⟩ := idx_some hx134
    refine Tr.va rfl (fun _ _ h1 h2 => run_indexAddr el_96 (h1.ev rfl) hl128 (h1.ev rfl) hx1340 hx1341) ?_
    obtain ⟨l135, hl135, H⟩ := bnd H
    have hnl135 := sets_len hl135
    refine Tr.storeEl 2 (t := fl_i64) (l := l128) (i := (w64 ((l128.length : Int) - 1))) (fo := 0) (cs := [(iv (max x133 xL1.X1))]) (max x133 xL1.X1) (wn rfl) rfl rfl rfl rfl rfl hx1342 sz_3 rfl (fun u _ => ⟨u, trivial, rfl⟩) rfl hl135 ?_
    have hfl135 : SlF Al128 (l135).length cl128 := by rw [hnl135]; exact hl128
    refine Tr.sel (lf := [(3, (.slice Al128 (l135).length cl128)), (5, (.pointer (some ⟨b129, 0, none⟩))), (6, (iv (w64 ((l128.length : Int) - 1)))), (9, (.slice Ap0_0 (y100).length cp0_0)), (10, (iv (y100.length : Int))), (11, (iv (iL1 : Int))), (28, (.bool g131)), (29, (.slice Al128 (l135).length cl128)), (30, (iv (w64 ((l128.length : Int) - 1)))), (31, (.slice Al128 (l135).length cl128)), (32, (iv (w64 ((l128.length : Int) - 1)))), (34, (iv x133)), (35, (.pointer (some ⟨b129, 2, none⟩))), (36, (iv xL1.X1)), (37, (iv (max x133 xL1.X1)))]) (le := [(0, ow Ap0_0 cp0_0 38 fl_TRect y100), (2, ow Al128 cl128 3 fl_i64 l135), (7, bx b129 #[(iv xL1.X0), (iv xL1.Y0), (iv xL1.X1), (iv xL1.Y1)] 38)]) (.cons (slenV rfl (by rw [hnl135])) (.cons rfl (.cons rfl (.cons rfl (.cons rfl (.cons rfl (.cons rfl (.cons (slenV rfl (by rw [hnl135])) (.cons rfl (.cons (slenV rfl (by rw [hnl135])) (.r rfl))))))))))) (.r rfl) ?_
    refine Tr.nil (Tr.normBlock (Tr.normThen ?_))
    refine Tr.region ?_
    refine Tr.v2 rfl run_add rfl rfl ?_
    refine Tr.mv rfl rfl ?_
    refine Tr.nil ?_
    exact Tr.backThen leL1 (restL1, (iL1 + 1), l135, Al128, cl128) ⟨rfl, range_tl hdL1, range_lt hdL1, H, hfl135⟩ (.cons rfl (.cons rfl (.cons rfl (.cons (congrArg (fun z => some (Value.int .i64 z)) (range_up hdL1 hfky100_0)) .nil)))) (.r rfl)
   ·refine Tr.region ?_
    refine Tr.mv rfl rfl ?_
    refine Tr.v1 rfl (run_fieldAddr fo_38_0) rfl ?_
    refine Tr.va rfl (fun _ _ h1 h2 => run_load1 ag_3 (h1.ev rfl) (rdb h2 (vs := [(iv xL1.X0), (iv xL1.Y0), (iv xL1.X1), (iv xL1.Y1)]) (k := 7) rfl 0) rfl) ?_
    refine Tr.v1 rfl (run_fieldAddr fo_38_2) rfl ?_
    refine Tr.va rfl (fun _ _ h1 h2 => run_load1 ag_3 (h1.ev rfl) (rdb h2 (vs := [(iv xL1.X0), (iv xL1.Y0), (iv xL1.X1), (iv xL1.Y1)]) (k := 7) rfl 2) rfl) ?_
    refine Tr.buildSlice 8 (e := 3) (vs := [(0, (iv xL1.X0)), (1, (iv xL1.X1))]) (cs := [(iv xL1.X0), (iv xL1.X1)]) (wn rfl) rfl (evs_cons rfl (evs_cons rfl evs_nil)) (by kernel_rfl) fun b136 => ?_
    obtain ⟨l137, hl137, H⟩ := bnd H
    refine Tr.append 2 (t := fl_i64) (l := l128) (l2 := [xL1.X0, xL1.X1]) (wn rfl) rfl rfl rfl rfl (fun W hW => ⟨[[(iv xL1.X0)], [(iv xL1.X1)]], (.cons ⟨(), trivial, rfl⟩ (.cons ⟨(), trivial, rfl⟩ .nil)), rdb hW (vs := [(iv xL1.X0), (iv xL1.X1)]) (k := 8) rfl 0⟩) un_96 sz_3 zl_3 (by decide) by_3 rfl hl137 fun Al137 cl137 hAl137 => ?_
    refine Tr.asg rfl rfl ?_
    refine Tr.nil (Tr.normBlock (Tr.normThen ?_))
    refine Tr.region ?_
    refine Tr.v2 rfl run_add rfl rfl ?_
    refine Tr.mv rfl rfl ?_
    refine Tr.nil ?_
    exact Tr.backThen leL1 (restL1, (iL1 + 1), l137, Al137, cl137) ⟨rfl, range_tl hdL1, range_lt hdL1, H, hAl137⟩ (.cons rfl (.cons rfl (.cons rfl (.cons (congrArg (fun z => some (Value.int .i64 z)) (range_up hdL1 hfky100_0)) .nil)))) (.r rfl)

theorem F_slices_Equal_int_ok {w : Bs} (p0 : (List Int)) (Ap0_0 : Option Addr) (cp0_0 : Nat) (hp0_0 : Sl w.R w.W fl_i64 Ap0_0 cp0_0 p0) (p1 : (List Int)) (Ap1_0 : Option Addr) (cp1_0 : Nat) (hp1_0 : Sl w.R w.W fl_i64 Ap1_0 cp1_0 p1) (r : Bool) (H : F_slices_Equal_int p0 p1 = some r) (hE : HF w w.W E0) : Calls Tryz.prog 109 [(.slice Ap0_0 (p0).length cp0_0), (.slice Ap1_0 (p1).length cp1_0)].toArray w.W fun e W' => e = .returned (.bool r) ∧ HF w W' E0 := by
 unfold F_slices_Equal_int at H
 have leB := Bs.Le.refl w
 refine Tr.enter (n := 26) Tryz.func109 rfl rfl rfl hE ?_
 refine Tr.sr ?_
 refine Tr.asg rfl rfl ?_
 refine Tr.nil (Tr.normThen ?_)
 refine Tr.seq ?_
 refine Tr.sr ?_
 refine Tr.mv rfl rfl ?_
 refine Tr.v1 rfl (run_len un_96) rfl ?_
 refine Tr.mv rfl rfl ?_
 refine Tr.v1 rfl (run_len un_96) rfl ?_
 refine Tr.v2 rfl run_neq rfl rfl ?_
 refine Tr.nil (Tr.normThen ?_)
 refine Tr.cond rfl H (fun H => ?_) (fun H => ?_)
 ·refine Tr.sr ?_
  refine Tr.asg rfl rfl ?_
  refine Tr.nil (Tr.normThen ?_)
  refine Tr.ret (Tr.retThen ?_)
  obtain rfl := Option.some.inj H
  exact Tr.out (m := [(.bool false)]) [] (res_tmp rfl res_nil) (fun W hW => ⟨rfl, hW.low leB⟩)
 ·refine Tr.skip (Tr.normThen ?_)
  refine Tr.seq ?_
  refine Tr.sr ?_
  refine Tr.mv rfl rfl ?_
  refine Tr.v1 rfl (run_len un_96) rfl ?_
  refine Tr.mv rfl rfl ?_
  refine Tr.nil (Tr.normThen ?_)
  refine Tr.block ?_
  refine Tr.loop (σ := (List Int) × Nat) (fun m w s => m = s.1.length + 1 ∧ s.1 = List.drop s.2 p0 ∧ s.2 ≤ p0.length ∧ F_slices_Equal_int_L1 p1 s.1 s.2 = some r) (fun s => [(0, (.slice Ap0_0 (p0).length cp0_0)), (1, (.slice Ap1_0 (p1).length cp1_0)), (12, (iv (p0.length : Int))), (13, (iv (s.2 : Int)))]) (fun s => []) (p0.length + 1) (p0, 0) ⟨rfl, rfl, Nat.zero_le _, H⟩ (.r rfl) .nil (fun _ _ h => absurd h.1 (by simp)) ?_
  intro w leL1 m s hs
  obtain ⟨restL1, iL1⟩ := s
  obtain ⟨hmL1, hdL1, hiL1, H⟩ := hs
  replace hdL1 : restL1 = List.drop iL1 p0 := hdL1
  replace H : F_slices_Equal_int_L1 p1 restL1 iL1 = some r := H
  replace hmL1 : m + 1 = restL1.length + 1 := hmL1
  replace hp0_0 := hp0_0.leR leL1
  replace hp1_0 := hp1_0.leR leL1
  replace leB := leB.trans leL1
  obtain rfl : m = restL1.length := by omega
  clear hmL1
  show Tr _ _ (LF [(0, (.slice Ap0_0 (p0).length cp0_0)), (1, (.slice Ap1_0 (p1).length cp1_0)), (12, (iv (p0.length : Int))), (13, (iv (iL1 : Int)))]) (LE []) _
  cases restL1 with
  | nil =>
   rw [F_slices_Equal_int_L1.eq_1] at H
   refine Tr.sr ?_
   refine Tr.v2 rfl run_lss rfl rfl ?_
   refine Tr.nil (Tr.normThen ?_)
   refine Tr.seq ?_
   refine Tr.condF rfl (range_nil hdL1) ?_
   refine Tr.exit (Tr.exitThen (Tr.exitThen (Tr.exitBlock (Tr.normThen ?_))))
   refine Tr.sr ?_
   refine Tr.asg rfl rfl ?_
   refine Tr.nil (Tr.normThen ?_)
   refine Tr.ret ?_
   obtain rfl := Option.some.inj H
   exact Tr.out (m := [(.bool true)]) [] (res_tmp rfl res_nil) (fun W hW => ⟨rfl, hW.low leB⟩)
  | cons xL1 restL1 =>
   rw [F_slices_Equal_int_L1.eq_2] at H
   refine Tr.sr ?_
   refine Tr.v2 rfl run_lss rfl rfl ?_
   refine Tr.nil (Tr.normThen ?_)
   refine Tr.seq ?_
   refine Tr.condT rfl (range_on hdL1) ?_
   refine Tr.skip (Tr.normThen ?_)
   refine Tr.seq ?_
   refine Tr.block ?_
   refine Tr.sr ?_
   refine Tr.mv rfl rfl ?_
   refine Tr.asg rfl rfl ?_
   refine Tr.nil (Tr.normThen ?_)
   refine Tr.seq ?_
   refine Tr.draw (by kernel_rfl) (by kernel_rfl) ?_
   refine Tq.mv rfl rfl ?_
   refine Tq.mv rfl rfl ?_
   refine Tq.va rfl (fun _ _ h1 h2 => run_indexAddr el_96 (h1.ev rfl) hp0_0.form (h1.ev rfl) (Int.natCast_nonneg _) (range_lt hdL1)) ?_
   refine Tq.va rfl (fun _ _ h1 h2 => run_load1 ag_3 (h1.ev rfl) (rdF ef_i64 hp0_0 (range_at hdL1) h2) rfl) ?_
   refine Tq.mv rfl rfl ?_
   refine Tq.mv rfl rfl ?_
   obtain ⟨x103, hx103, H⟩ := bnd H
   obtain ⟨hx1030, hx1031, hx1032⟩ := idx_some hx103
   refine Tq.va rfl (fun _ _ h1 h2 => run_indexAddr el_96 (h1.ev rfl) hp1_0.form (h1.ev rfl) hx1030 hx1031) ?_
   refine Tq.va rfl (fun _ _ h1 h2 => run_load1 ag_3 (h1.ev rfl) (rdF ef_i64 hp1_0 hx1032 h2) rfl) ?_
   refine Tq.v2 rfl run_neq rfl rfl ?_
   refine Tq.nil (Tr.normThen ?_)
   refine Tr.cond rfl H (fun H => ?_) (fun H => ?_)
   ·refine Tr.sr ?_
    refine Tr.asg rfl rfl ?_
    refine Tr.nil (Tr.normThen ?_)
    refine Tr.ret (Tr.retBlock (Tr.retThen (Tr.retThen (Tr.retBlock (Tr.retThen ?_)))))
    obtain rfl := Option.some.inj H
    exact Tr.out (m := [(.bool false)]) [] (res_tmp rfl res_nil) (fun W hW => ⟨rfl, hW.low leB⟩)
   ·refine Tr.skip (Tr.normBlock (Tr.normThen ?_))
    refine Tr.region ?_
    refine Tr.v2 rfl run_add rfl rfl ?_
    refine Tr.mv rfl rfl ?_
    refine Tr.nil ?_
    exact Tr.backThen leL1 (restL1, (iL1 + 1)) ⟨rfl, range_tl hdL1, range_lt hdL1, H⟩ (.cons rfl (.cons rfl (.cons rfl (.cons (congrArg (fun z => some (Value.int .i64 z)) (range_up hdL1 hp0_0.form)) .nil)))) .nil

theorem F_shape_Set__push_ok {w : Bs} (p0 : (List TBand)) (Ap0_0 : Option Addr) (cp0_0 : Nat) (p1 : TBand) (Ap1_0 : Option Addr) (cp1_0 : Nat) (hp1_0 : Sl w.O w.W fl_i64 Ap1_0 cp1_0 p1.Xs) (r : (List TBand)) (H : F_shape_Set__push p0 p1 = some r) (hE : HF w w.W (LEn [ow Ap0_0 cp0_0 98 fl_TBand p0])) : Calls Tryz.prog 66 [(.slice Ap0_0 (p0).length cp0_0), (.agg #[(iv p1.Y0), (iv p1.Y1), (.slice Ap1_0 (p1.Xs).length cp1_0)])].toArray w.W fun e W' => ∃ (w' : Bs) (u : (Option Addr × Nat)), w.Le w' ∧ e = .returned (.slice u.1 (r).length u.2) ∧ (SlF u.1 (r).length u.2) ∧ HF w' W' (LEn [ow u.1 u.2 98 fl_TBand r]) := by
 unfold F_shape_Set__push at H
 have hfhp0_0 := (hE.sl (k := 0) rfl).form
 have leB := Bs.Le.refl w
 refine Tr.enter (n := 54) Tryz.func66 rfl rfl rfl hE ?_
 refine Tr.sr ?_
 refine Tr.box 1 (cs := [(iv p1.Y0), (iv p1.Y1), (.slice Ap1_0 (p1.Xs).length cp1_0)]) (wn rfl) rfl rfl rfl fun b100 => ?_
 refine Tr.asg rfl rfl ?_
 refine Tr.nilOwn 2 98 fl_TBand ?_
 show Tr _ _ (uf _ 4 (.slice none (([] : List TBand)).length 0)) _ _
 refine Tr.nil (Tr.normThen ?_)
 refine Tr.seq ?_
 refine Tr.sr ?_
 refine Tr.v1 rfl (run_fieldAddr fo_98_2) rfl ?_
 refine Tr.va rfl (fun _ _ h1 h2 => run_load1 ag_96 (h1.ev rfl) (rdb h2 (vs := [(iv p1.Y0), (iv p1.Y1), (.slice Ap1_0 (p1.Xs).length cp1_0)]) (k := 1) rfl 2) rfl) ?_
 refine Tr.v1 rfl (run_len un_96) rfl ?_
 refine Tr.v2 rfl run_eql rfl rfl ?_
 refine Tr.mv rfl rfl ?_
 refine Tr.mid0 6 [(0, (.slice Ap0_0 (p0).length cp0_0)), (3, (.pointer (some ⟨b100, 0, none⟩))), (16, (.bool (((p1.Xs.length : Int) == 0) || (decide (p1.Y1 ≤ p1.Y0)))))] [(0, ow Ap0_0 cp0_0 98 fl_TBand p0), (1, bx b100 #[(iv p1.Y0), (iv p1.Y1), (.slice Ap1_0 (p1.Xs).length cp1_0)] 98), (2, ow none 0 98 fl_TBand ([] : List TBand))] ?_ ?_
 ·cases hg114 : ((p1.Xs.length : Int) == 0)
  ·refine Tr.w1 (wg rfl rfl rfl) rfl (run_fieldAddr fo_98_1) rfl ?_
   refine Tr.val (wg rfl rfl rfl) rfl (fun _ _ h1 h2 => run_load1 ag_3 (h1.ev rfl) (rdb h2 (vs := [(iv p1.Y0), (iv p1.Y1), (.slice Ap1_0 (p1.Xs).length cp1_0)]) (k := 1) rfl 1) rfl) ?_
   refine Tr.w1 (wg rfl rfl rfl) rfl (run_fieldAddr fo_98_0) rfl ?_
   refine Tr.val (wg rfl rfl rfl) rfl (fun _ _ h1 h2 => run_load1 ag_3 (h1.ev rfl) (rdb h2 (vs := [(iv p1.Y0), (iv p1.Y1), (.slice Ap1_0 (p1.Xs).length cp1_0)]) (k := 1) rfl 0) rfl) ?_
   refine Tr.w2 (wg rfl rfl rfl) rfl run_leq rfl rfl ?_
   refine Tr.v2 rfl run_pickF rfl rfl ?_
   exact Tr.nil (Tr.fin0 (.r rfl) (.r rfl))
  ·refine Tr.ps ?_
   refine Tr.ps ?_
   refine Tr.ps ?_
   refine Tr.ps ?_
   refine Tr.ps ?_
   refine Tr.v2 rfl run_pickT rfl rfl ?_
   exact Tr.nil (Tr.fin0 (.r rfl) (.r rfl))
 ·show Tr _ _ (LF [(0, (.slice Ap0_0 (p0).length cp0_0)), (3, (.pointer (some ⟨b100, 0, none⟩))), (16, (.bool (((p1.Xs.length : Int) == 0) || (decide (p1.Y1 ≤ p1.Y0)))))]) (LE [(0, ow Ap0_0 cp0_0 98 fl_TBand p0), (1, bx b100 #[(iv p1.Y0), (iv p1.Y1), (.slice Ap1_0 (p1.Xs).length cp1_0)] 98), (2, ow none 0 98 fl_TBand ([] : List TBand))]) _
  refine Tr.nil (Tr.normThen ?_)
  refine Tr.cond rfl H (fun H => ?_) (fun H => ?_)
  ·refine Tr.sr ?_
   refine Tr.mv rfl rfl ?_
   refine Tr.asg rfl rfl ?_
   refine Tr.nil (Tr.normThen ?_)
   refine Tr.ret (Tr.retThen ?_)
   obtain rfl := Option.some.inj H
   exact Tr.out (m := [(.slice Ap0_0 (p0).length cp0_0)]) [] (res_tmp rfl res_nil) (fun W hW => ⟨w, (Ap0_0, cp0_0), leB, rfl, hfhp0_0, hW.pick (ks := [0]) (by decide) (pk_cons rfl pk_nil)⟩)
  ·refine Tr.skip (Tr.normThen ?_)
   refine Tr.seq ?_
   refine Tr.sr ?_
   refine Tr.mv rfl rfl ?_
   refine Tr.v1 rfl (run_len un_62) rfl ?_
   refine Tr.v2 rfl run_sub rfl rfl ?_
   refine Tr.asg rfl rfl ?_
   refine Tr.nil (Tr.normThen ?_)
   refine Tr.seq ?_
   refine Tr.draw (by kernel_rfl) (by kernel_rfl) ?_
   refine Tq.mv rfl rfl ?_
   refine Tq.v2 rfl run_geq rfl rfl ?_
   refine Tq.mv rfl rfl ?_
   obtain ⟨g102, hg102, H⟩ := bnd H
   refine Tq.mid 9 [(0, (.slice Ap0_0 (p0).length cp0_0)), (3, (.pointer (some ⟨b100, 0, none⟩))), (5, (iv (w64 ((p0.length : Int) - 1)))), (32, (.bool g102))] ?_ ?_
   ·cases hg114 : (decide (0 ≤ (w64 ((p0.length : Int) - 1))))
    ·rw [hg114] at hg102
     rw [if_neg (by decide)] at hg102
     have H := hg102
     obtain rfl := Option.some.inj H
     refine Tq.ps ?_
     refine Tq.ps ?_
     refine Tq.ps ?_
     refine Tq.ps ?_
     refine Tq.ps ?_
     refine Tq.ps ?_
     refine Tq.ps ?_
     refine Tq.ps ?_
     refine Tq.v2 rfl run_pickF rfl rfl ?_
     exact Tq.fin (.r rfl)
    ·rw [hg114] at hg102
     rw [if_pos rfl] at hg102
     have H := hg102
     refine Tq.w1 (wg rfl rfl rfl) rfl run_move rfl ?_
     refine Tq.w1 (wg rfl rfl rfl) rfl run_move rfl ?_
     obtain ⟨x103, hx103, H⟩ := bnd H
     obtain ⟨hx1030, hx1031, hx1032⟩ := idx_some hx103
     refine Tq.val (wg rfl rfl rfl) rfl (fun _ _ h1 h2 => run_indexAddr el_62 (h1.ev rfl) hfhp0_0 (h1.ev rfl) hx1030 hx1031) ?_
     refine Tq.w1 (wg rfl rfl rfl) rfl (run_fieldAddr fo_98_1) rfl ?_
     refine Tq.val (wg rfl rfl rfl) rfl (fun _ _ h1 h2 => (HF.atN (k := 0) h2 rfl hx1032).elim fun u hu => run_load1 ag_3 (h1.ev rfl) (hu.2.drop 1) rfl) ?_
     refine Tq.w1 (wg rfl rfl rfl) rfl (run_fieldAddr fo_98_0) rfl ?_
     refine Tq.val (wg rfl rfl rfl) rfl (fun _ _ h1 h2 => run_load1 ag_3 (h1.ev rfl) (rdb h2 (vs := [(iv p1.Y0), (iv p1.Y1), (.slice Ap1_0 (p1.Xs).length cp1_0)]) (k := 1) rfl 0) rfl) ?_
     refine Tq.w2 (wg rfl rfl rfl) rfl run_eql rfl rfl ?_
     refine Tq.v2 rfl run_pickT rfl rfl ?_
     obtain rfl := Option.some.inj H
     exact Tq.fin (.r rfl)
   ·refine Tq.mv rfl rfl ?_
    obtain ⟨g107, hg107, H⟩ := bnd H
    refine Tq.mid 9 [(0, (.slice Ap0_0 (p0).length cp0_0)), (3, (.pointer (some ⟨b100, 0, none⟩))), (5, (iv (w64 ((p0.length : Int) - 1)))), (42, (.bool g107))] ?_ ?_
    ·cases hg114 : g102
     ·rw [hg114] at hg107
      rw [if_neg (by decide)] at hg107
      have H := hg107
      obtain rfl := Option.some.inj H
      refine Tq.ps ?_
      refine Tq.ps ?_
      refine Tq.ps ?_
      refine Tq.ps ?_
      refine Tq.ps ?_
      refine Tq.ps ?_
      refine Tq.ps ?_
      refine Tq.ps ?_
      refine Tq.v2 rfl run_pickF rfl rfl ?_
      exact Tq.fin (.r rfl)
     ·rw [hg114] at hg107
      rw [if_pos rfl] at hg107
      have H := hg107
      refine Tq.w1 (wg rfl rfl rfl) rfl run_move rfl ?_
      refine Tq.w1 (wg rfl rfl rfl) rfl run_move rfl ?_
      obtain ⟨x108, hx108, H⟩ := bnd H
      obtain ⟨hx1080, hx1081, hx1082⟩ := idx_some hx108
      refine Tq.val (wg rfl rfl rfl) rfl (fun _ _ h1 h2 => run_indexAddr el_62 (h1.ev rfl) hfhp0_0 (h1.ev rfl) hx1080 hx1081) ?_
      refine Tq.w1 (wg rfl rfl rfl) rfl (run_fieldAddr fo_98_2) rfl ?_
      refine Tq.valE (U := (fl_TBand).Ad) (fun u => (fl_TBand).ok w.O w.W u x108) (fun u => (.slice u.1 (x108.Xs).length u.2)) (wg rfl rfl rfl) rfl (ldN (κ := 0) (t := fl_TBand) (V := fun u => (.slice u.1 (x108.Xs).length u.2)) rfl hx1082 (fun _ _ u h1 hc => run_load1 ag_96 (h1.ev rfl) (hc.drop 2) rfl)) ?_
      intro u109 hoku109
      obtain ⟨Au109_0, cu109_0⟩ := u109
      have hoku109_0 := hoku109
      replace hoku109_0 : Sl w.O w.W fl_i64 Au109_0 cu109_0 x108.Xs := hoku109_0
      show Tq _ _ _ _ (uf _ 38 (.slice Au109_0 (x108.Xs).length cu109_0)) _ _ _
      refine Tq.w1 (wg rfl rfl rfl) rfl (run_fieldAddr fo_98_2) rfl ?_
      refine Tq.val (wg rfl rfl rfl) rfl (fun _ _ h1 h2 => run_load1 ag_96 (h1.ev rfl) (rdb h2 (vs := [(iv p1.Y0), (iv p1.Y1), (.slice Ap1_0 (p1.Xs).length cp1_0)]) (k := 1) rfl 2) rfl) ?_
      obtain ⟨y110, hy110, H⟩ := bnd H
      refine Tq.call0 (r := (.bool y110)) (wg rfl rfl rfl) rfl Tryz.call109 (evl_cons rfl (evl_cons rfl evl_nil)) (fun W hW => F_slices_Equal_int_ok x108.Xs Au109_0 cu109_0 (hoku109_0.rl.ext hW.extAll) p1.Xs Ap1_0 cp1_0 (hp1_0.rl.ext hW.extAll) y110 hy110 (HF.start _)) ?_
      refine Tq.v2 rfl run_pickT rfl rfl ?_
      obtain rfl := Option.some.inj H
      exact Tq.fin (.r rfl)
    ·refine Tq.nil (Tr.normThen ?_)
     refine Tr.cond rfl H (fun H => ?_) (fun H => ?_)
     ·refine Tr.sr ?_
      refine Tr.mv rfl rfl ?_
      refine Tr.mv rfl rfl ?_
      refine Tr.v1 rfl (run_fieldAddr fo_98_1) rfl ?_
      refine Tr.va rfl (fun _ _ h1 h2 => run_load1 ag_3 (h1.ev rfl) (rdb h2 (vs := [(iv p1.Y0), (iv p1.Y1), (.slice Ap1_0 (p1.Xs).length cp1_0)]) (k := 1) rfl 1) rfl) ?_
      obtain ⟨x111, hx111, H⟩ := bnd H
      obtain ⟨hx1110, hx1111, hx1112⟩ := idx_some hx111
      refine Tr.va rfl (fun _ _ h1 h2 => run_indexAddr el_62 (h1.ev rfl) hfhp0_0 (h1.ev rfl) hx1110 hx1111) ?_
      refine Tr.v1 rfl (run_fieldAddr fo_98_1) rfl ?_
      obtain ⟨l112, hl112, H⟩ := bnd H
      have hnl112 := sets_len hl112
      refine Tr.storeEl 0 (t := fl_TBand) (l := p0) (i := (w64 ((p0.length : Int) - 1))) (fo := 1) (cs := [(iv p1.Y1)]) (TBand.mk x111.Y0 p1.Y1 x111.Xs) (wn rfl) rfl rfl rfl rfl rfl hx1112 sz_3 rfl (fun u hu => ⟨u, hu, rfl⟩) rfl hl112 ?_
      have hfl112 : SlF Ap0_0 (l112).length cp0_0 := by rw [hnl112]; exact hfhp0_0
      have hsl112 := hnl112.trans rfl
      refine Tr.sel (lf := [(0, (.slice Ap0_0 (l112).length cp0_0)), (3, (.pointer (some ⟨b100, 0, none⟩))), (5, (iv (w64 ((p0.length : Int) - 1)))), (42, (.bool g107)), (43, (.slice Ap0_0 (l112).length cp0_0)), (44, (iv (w64 ((p0.length : Int) - 1)))), (45, (.pointer (some ⟨b100, 1, none⟩))), (46, (iv p1.Y1))]) (le := [(0, ow Ap0_0 cp0_0 98 fl_TBand l112), (1, bx b100 #[(iv p1.Y0), (iv p1.Y1), (.slice Ap1_0 (p1.Xs).length cp1_0)] 98), (2, ow none 0 98 fl_TBand ([] : List TBand))]) (.cons (slenV rfl (by rw [hnl112])) (.cons rfl (.cons rfl (.cons rfl (.cons (slenV rfl (by rw [hnl112])) (.r rfl)))))) (.r rfl) ?_
      refine Tr.nil (Tr.normThen ?_)
      refine Tr.sr ?_
      refine Tr.mv rfl rfl ?_
      refine Tr.asg rfl rfl ?_
      refine Tr.nil (Tr.normThen ?_)
      refine Tr.ret (Tr.retThen ?_)
      obtain rfl := Option.some.inj H
      exact Tr.out (m := [(.slice Ap0_0 (l112).length cp0_0)]) [] (res_tmp rfl res_nil) (fun W hW => ⟨w, (Ap0_0, cp0_0), leB, rfl, hfl112, hW.pick (ks := [0]) (by decide) (pk_cons rfl pk_nil)⟩)
     ·refine Tr.skip (Tr.normThen ?_)
      refine Tr.sr ?_
      refine Tr.mv rfl rfl ?_
      refine Tr.va rfl (fun _ _ h1 h2 => run_loadN (cs := [(iv p1.Y0), (iv p1.Y1), (.slice Ap1_0 (p1.Xs).length cp1_0)]) ag_98 sz_98 (h1.ev rfl) (CellsAt.take (rdb h2 (vs := [(iv p1.Y0), (iv p1.Y1), (.slice Ap1_0 (p1.Xs).length cp1_0)]) (k := 1) rfl 0) 3) rfl) ?_
      refine Tr.buildSlice 3 (e := 98) (vs := [(0, (.agg #[(iv p1.Y0), (iv p1.Y1), (.slice Ap1_0 (p1.Xs).length cp1_0)]))]) (cs := [(iv p1.Y0), (iv p1.Y1), (.slice Ap1_0 (p1.Xs).length cp1_0)]) (wn rfl) rfl (evs_cons rfl evs_nil) (by kernel_rfl) fun b113 => ?_
      obtain ⟨l114, hl114, H⟩ := bnd H
      refine Tr.append 0 (t := fl_TBand) (l := p0) (l2 := [p1]) (wn rfl) rfl rfl rfl rfl (fun W hW => ⟨[[(iv p1.Y0), (iv p1.Y1), (.slice Ap1_0 (p1.Xs).length cp1_0)]], (.cons ⟨(Ap1_0, cp1_0), hp1_0, rfl⟩ .nil), rdb hW (vs := [(iv p1.Y0), (iv p1.Y1), (.slice Ap1_0 (p1.Xs).length cp1_0)]) (k := 3) rfl 0⟩) un_62 sz_98 zl_98 (by decide) by_98 rfl hl114 fun Al114 cl114 hAl114 => ?_
      refine Tr.asg rfl rfl ?_
      refine Tr.nil (Tr.normThen ?_)
      refine Tr.ret ?_
      obtain rfl := Option.some.inj H
      exact Tr.out (m := [(.slice Al114 (l114).length cl114)]) [] (res_tmp rfl res_nil) (fun W hW => ⟨w, (Al114, cl114), leB, rfl, hAl114, hW.pick (ks := [0]) (by decide) (pk_cons rfl pk_nil)⟩)

theorem F_shape_SetOf_ok (N : Nat) {w : Bs} (p0 : (List TRect)) (Ap0_0 : Option Addr) (cp0_0 : Nat) (hp0_0 : Sl w.R w.W fl_TRect Ap0_0 cp0_0 p0) (r : (List TBand)) (H : F_shape_SetOf N p0 = some r) (hE : HF w w.W (LEn [emp])) : Calls Tryz.prog 32 [(.slice Ap0_0 (p0).length cp0_0)].toArray w.W fun e W' => ∃ (w' : Bs) (u : (Option Addr × Nat)), w.Le w' ∧ e = .returned (.slice u.1 (r).length u.2) ∧ (SlF u.1 (r).length u.2) ∧ HF w' W' (LEn [ow u.1 u.2 98 fl_TBand r]) := by
 unfold F_shape_SetOf at H
 have leB := Bs.Le.refl w
 refine Tr.enter (n := 83) Tryz.func32 rfl rfl rfl hE ?_
 refine Tr.sr ?_
 refine Tr.asg rfl rfl ?_
 refine Tr.nilOwn 1 98 fl_TBand ?_
 show Tr _ _ (uf _ 2 (.slice none (([] : List TBand)).length 0)) _ _
 refine Tr.nil (Tr.normThen ?_)
 refine Tr.sr ?_
 refine Tr.mv rfl rfl ?_
 obtain ⟨y100, hy100, H⟩ := bnd H
 refine Tr.callM [2] [emp] (U := (Option Addr × Nat)) (fun u => (.slice u.1 (y100).length u.2)) (fun u => SlF u.1 (y100).length u.2) (fun u => [ow u.1 u.2 38 fl_TRect y100]) rfl (pk_cons rfl pk_nil) (fun _ => rfl) (wn rfl) rfl Tryz.call59 (evl_cons rfl evl_nil) (fun W hW hp hE => F_slices_Clone_Rect_ok p0 Ap0_0 cp0_0 (hp0_0.ext (hW.extS hp)) y100 hy100 hE) ?_
 intro u hu
 obtain ⟨Ay100_0, cy100_0⟩ := u
 have gy100_0 := hu
 have hgy100_0 : SlF Ay100_0 (y100).length cy100_0 := gy100_0 --@phi
 show Tr _ _ (uf _ 11 (.slice Ay100_0 (y100).length cy100_0)) (up _ 2 (ow Ay100_0 cy100_0 38 fl_TRect y100)) _
 refine Tr.asg rfl rfl ?_
 refine Tr.nil (Tr.normThen ?_)
 refine Tr.sr ?_
 refine Tr.mv rfl rfl ?_
 obtain ⟨y102, hy102, H⟩ := bnd H
 refine Tr.callM [2] [ow Ay100_0 cy100_0 38 fl_TRect y100] (U := Unit) (fun u => (.tuple #[])) (fun u => (y102).length = (y100).length) (fun u => [ow Ay100_0 cy100_0 38 fl_TRect y102]) rfl (pk_cons rfl pk_nil) (fun _ => rfl) (wn rfl) rfl Tryz.call60 (evl_cons rfl (evl_cons rfl evl_nil)) (fun W hW hp hE => F_slices_SortFunc_TRect_ok y100 Ay100_0 cy100_0 (fun z0 z1 => F_shape_SetOf_1 z0 z1) 61 [] Tryz.call61 (fun w' he z0 z1 y hy => F_shape_SetOf_1_ok z0 z1 y hy (HF.start _)) y102 hy102 hE) ?_
 intro u hu
 have gky102_0 := hu
 have hgky102_0 : (y102).length = (y100).length := gky102_0 --@phi
 have hfky102_0 : SlF Ay100_0 (y102).length cy100_0 := by rw [hgky102_0]; exact hgy100_0
 show Tr _ _ (uf _ 13 (.tuple #[])) (up _ 2 (ow Ay100_0 cy100_0 38 fl_TRect y102)) _
 refine Tr.sel (lf := [(0, (.slice Ay100_0 (y102).length cy100_0)), (2, (.slice none (([] : List TBand)).length 0)), (10, (.slice Ap0_0 (p0).length cp0_0)), (11, (.slice Ay100_0 (y102).length cy100_0)), (12, (.slice Ay100_0 (y102).length cy100_0)), (13, (.tuple #[]))]) (le := [(1, ow none 0 98 fl_TBand ([] : List TBand)), (2, ow Ay100_0 cy100_0 38 fl_TRect y102)]) (.cons (slenV rfl (by rw [hgky102_0])) (.cons rfl (.cons rfl (.cons (slenV rfl (by rw [hgky102_0])) (.cons (slenV rfl (by rw [hgky102_0])) (.r rfl)))))) (.r rfl) ?_
 refine Tr.nil (Tr.normThen ?_)
 refine Tr.sr ?_
 refine Tr.alloc 3 (wn rfl) rfl ze_96 fun b104 => ?_
 refine Tr.nil (Tr.normThen ?_)
 refine Tr.seq ?_
 refine Tr.sr ?_
 refine Tr.mv rfl rfl ?_
 refine Tr.v1 rfl (run_len un_22) rfl ?_
 refine Tr.mv rfl rfl ?_
 refine Tr.nil (Tr.normThen ?_)
 refine Tr.block ?_
 refine Tr.nilOwn 12 3 fl_i64 ?_
 refine Tr.loop (σ := (List TRect) × Nat × (List Int) × (Option Addr) × Nat) (fun m w s => m = s.1.length + 1 ∧ s.1 = List.drop s.2.1 y102 ∧ s.2.1 ≤ y102.length ∧ F_shape_SetOf_L1 N y102 s.1 s.2.1 s.2.2.1 = some r ∧ SlF s.2.2.2.1 (s.2.2.1).length s.2.2.2.2) (fun s => [(0, (.slice Ay100_0 (y102).length cy100_0)), (3, (.pointer (some ⟨b104, 0, none⟩))), (14, (.slice Ay100_0 (y102).length cy100_0)), (15, (iv (y102.length : Int))), (16, (iv (s.2.1 : Int)))]) (fun s => [(2, ow Ay100_0 cy100_0 38 fl_TRect y102), (3, bx b104 #[(.slice s.2.2.2.1 (s.2.2.1).length s.2.2.2.2)] 96), (12, ow s.2.2.2.1 s.2.2.2.2 3 fl_i64 s.2.2.1)]) (y102.length + 1) (y102, 0, ([] : List Int), none, 0) ⟨rfl, rfl, Nat.zero_le _, H, slf_nil⟩ (.r rfl) (.r rfl) (fun _ _ h => absurd h.1 (by simp)) ?_
 intro w leL1 m s hs
 obtain ⟨restL1, iL1, l119, Al119, cl119⟩ := s
 obtain ⟨hmL1, hdL1, hiL1, H, hl119⟩ := hs
 replace hdL1 : restL1 = List.drop iL1 y102 := hdL1
 replace H : F_shape_SetOf_L1 N y102 restL1 iL1 l119 = some r := H
 replace hmL1 : m + 1 = restL1.length + 1 := hmL1
 replace leB := leB.trans leL1
 replace hl119 : SlF Al119 (l119).length cl119 := hl119
 obtain rfl : m = restL1.length := by omega
 clear hmL1
 show Tr _ _ (LF [(0, (.slice Ay100_0 (y102).length cy100_0)), (3, (.pointer (some ⟨b104, 0, none⟩))), (14, (.slice Ay100_0 (y102).length cy100_0)), (15, (iv (y102.length : Int))), (16, (iv (iL1 : Int)))]) (LE [(2, ow Ay100_0 cy100_0 38 fl_TRect y102), (3, bx b104 #[(.slice Al119 (l119).length cl119)] 96), (12, ow Al119 cl119 3 fl_i64 l119)]) _
 cases restL1 with
 | nil =>
  rw [F_shape_SetOf_L1.eq_1] at H
  refine Tr.sr ?_
  refine Tr.v2 rfl run_lss rfl rfl ?_
  refine Tr.nil (Tr.normThen ?_)
  refine Tr.seq ?_
  refine Tr.condF rfl (range_nil hdL1) ?_
  refine Tr.exit (Tr.exitThen (Tr.exitThen (Tr.exitBlock (Tr.normThen ?_))))
  refine Tr.sr ?_
  refine Tr.va rfl (fun _ _ h1 h2 => run_load1 ag_96 (h1.ev rfl) (rdb h2 (vs := [(.slice Al119 (l119).length cl119)]) (k := 3) rfl 0) rfl) ?_
  obtain ⟨y120, hy120, H⟩ := bnd H
  refine Tr.callM [12] [ow Al119 cl119 3 fl_i64 l119] (U := Unit) (fun u => (.tuple #[])) (fun u => (y120).length = (l119).length) (fun u => [ow Al119 cl119 3 fl_i64 y120]) rfl (pk_cons rfl pk_nil) (fun _ => rfl) (wn rfl) rfl Tryz.call62 (evl_cons rfl evl_nil) (fun W hW hp hE => F_slices_Sort_int_ok l119 Al119 cl119 y120 hy120 hE) ?_
  intro u hu
  have gky120_0 := hu
  have hgky120_0 : (y120).length = (l119).length := gky120_0 --@phi
  have hfky120_0 : SlF Al119 (y120).length cl119 := by rw [hgky120_0]; exact hl119
  show Tr _ _ (uf _ 29 (.tuple #[])) (up _ 12 (ow Al119 cl119 3 fl_i64 y120)) _
  refine Tr.sel (lf := [(0, (.slice Ay100_0 (y102).length cy100_0)), (3, (.pointer (some ⟨b104, 0, none⟩))), (14, (.slice Ay100_0 (y102).length cy100_0)), (15, (iv (y102.length : Int))), (16, (iv (iL1 : Int))), (17, (.bool (decide ((iL1 : Int) < (y102.length : Int))))), (28, (.slice Al119 (y120).length cl119)), (29, (.tuple #[]))]) (le := [(2, ow Ay100_0 cy100_0 38 fl_TRect y102), (3, bx b104 #[(.slice Al119 (y120).length cl119)] 96), (12, ow Al119 cl119 3 fl_i64 y120)]) (.cons rfl (.cons rfl (.cons rfl (.cons rfl (.cons rfl (.cons rfl (.cons (slenV rfl (by rw [hgky120_0])) (.r rfl)))))))) (.cons rfl (.cons (ebx rfl (by rw [hgky120_0])) (.r rfl))) ?_
  refine Tr.nil (Tr.normThen ?_)
  refine Tr.sr ?_
  refine Tr.va rfl (fun _ _ h1 h2 => run_load1 ag_96 (h1.ev rfl) (rdb h2 (vs := [(.slice Al119 (y120).length cl119)]) (k := 3) rfl 0) rfl) ?_
  obtain ⟨y122, hy122, H⟩ := bnd H
  refine Tr.callM [12] [ow Al119 cl119 3 fl_i64 y120] (U := (Option Addr × Nat)) (fun u => (.slice u.1 (y122).length u.2)) (fun u => SlF u.1 (y122).length u.2) (fun u => [ow u.1 u.2 3 fl_i64 y122]) rfl (pk_cons rfl pk_nil) (fun _ => rfl) (wn rfl) rfl Tryz.call63 (evl_cons rfl evl_nil) (fun W hW hp hE => F_slices_Compact_int_ok y120 Al119 cl119 y122 hy122 hE) ?_
  intro u hu
  obtain ⟨Ay122_0, cy122_0⟩ := u
  have gy122_0 := hu
  have hgy122_0 : SlF Ay122_0 (y122).length cy122_0 := gy122_0 --@phi
  show Tr _ _ (uf _ 31 (.slice Ay122_0 (y122).length cy122_0)) (up _ 12 (ow Ay122_0 cy122_0 3 fl_i64 y122)) _
  refine Tr.store 3 (cs := [(.slice Ay122_0 (y122).length cy122_0)]) [(.slice Ay122_0 (y122).length cy122_0)] (wn rfl) rfl rfl rfl rfl sz_96 rfl rfl rfl ?_
  refine Tr.nil (Tr.normThen ?_)
  refine Tr.sr ?_
  refine Tr.asg rfl rfl ?_
  refine Tr.nilOwn 13 98 fl_TBand ?_
  show Tr _ _ (uf _ 6 (.slice none (([] : List TBand)).length 0)) _ _
  refine Tr.nil (Tr.normThen ?_)
  refine Tr.sr ?_
  refine Tr.asg rfl rfl ?_
  refine Tr.nilOwn 14 38 fl_TRect ?_
  show Tr _ _ (uf _ 7 (.slice none (([] : List TRect)).length 0)) _ _
  refine Tr.nil (Tr.normThen ?_)
  refine Tr.sr ?_
  refine Tr.asg rfl rfl ?_
  refine Tr.nil (Tr.normThen ?_)
  refine Tr.seq ?_
  refine Tr.sr ?_
  refine Tr.alloc 15 (wn rfl) rfl ze_3 fun b124 => ?_
  refine Tr.store 15 (cs := [(iv 0)]) [(iv 0)] (wn rfl) rfl rfl rfl rfl sz_3 rfl rfl rfl ?_
  refine Tr.nil (Tr.normThen ?_)
  refine Tr.block ?_
  refine Tr.ren 15 29 rfl rfl rfl ?_
  refine Tr.loop (σ := Int × (List TBand) × (List TRect) × Int × Nat × (Option Addr) × Nat × (Option Addr) × Nat) (fun m w s => F_shape_SetOf_L4 N y102 y122 m s.1 s.2.1 s.2.2.1 s.2.2.2.1 = some r ∧ SlF s.2.2.2.2.2.1 (s.2.1).length s.2.2.2.2.2.2.1 ∧ SlF s.2.2.2.2.2.2.2.1 (s.2.2.1).length s.2.2.2.2.2.2.2.2) (fun s => [(0, (.slice Ay100_0 (y102).length cy100_0)), (3, (.pointer (some ⟨b104, 0, none⟩))), (6, (.slice s.2.2.2.2.2.1 (s.2.1).length s.2.2.2.2.2.2.1)), (7, (.slice s.2.2.2.2.2.2.2.1 (s.2.2.1).length s.2.2.2.2.2.2.2.2)), (8, (iv s.2.2.2.1)), (9, (.pointer (some ⟨s.2.2.2.2.1, 0, none⟩)))]) (fun s => [(2, ow Ay100_0 cy100_0 38 fl_TRect y102), (3, bx b104 #[(.slice Ay122_0 (y122).length cy122_0)] 96), (12, ow Ay122_0 cy122_0 3 fl_i64 y122), (13, ow s.2.2.2.2.2.1 s.2.2.2.2.2.2.1 98 fl_TBand s.2.1), (14, ow s.2.2.2.2.2.2.2.1 s.2.2.2.2.2.2.2.2 38 fl_TRect s.2.2.1), (29, bx s.2.2.2.2.1 #[(iv s.1)] 3)]) N (0, ([] : List TBand), ([] : List TRect), 0, b124, none, 0, none, 0) ⟨H, slf_nil, slf_nil⟩ (.r rfl) (.r rfl) (fun _ _ h => noSome (h.1)) ?_
  intro w leL4 mL4 s hs
  obtain ⟨x229, l230, l231, x232, bv227, Al230, cl230, Al231, cl231⟩ := s
  obtain ⟨H, hl230, hl231⟩ := hs
  replace H : F_shape_SetOf_L4 N y102 y122 (mL4 + 1) x229 l230 l231 x232 = some r := H
  replace leB := leB.trans leL4
  replace leL1 := leL1.trans leL4
  replace hl230 : SlF Al230 (l230).length cl230 := hl230
  replace hl231 : SlF Al231 (l231).length cl231 := hl231
  rw [F_shape_SetOf_L4.eq_2] at H
  show Tr _ _ (LF [(0, (.slice Ay100_0 (y102).length cy100_0)), (3, (.pointer (some ⟨b104, 0, none⟩))), (6, (.slice Al230 (l230).length cl230)), (7, (.slice Al231 (l231).length cl231)), (8, (iv x232)), (9, (.pointer (some ⟨bv227, 0, none⟩)))]) (LE [(2, ow Ay100_0 cy100_0 38 fl_TRect y102), (3, bx b104 #[(.slice Ay122_0 (y122).length cy122_0)] 96), (12, ow Ay122_0 cy122_0 3 fl_i64 y122), (13, ow Al230 cl230 98 fl_TBand l230), (14, ow Al231 cl231 38 fl_TRect l231), (29, bx bv227 #[(iv x229)] 3)]) _
  refine Tr.seq ?_
  refine Tr.sr ?_
  refine Tr.va rfl (fun _ _ h1 h2 => run_load1 ag_3 (h1.ev rfl) (rdb h2 (vs := [(iv x229)]) (k := 29) rfl 0) rfl) ?_
  refine Tr.v2 rfl run_add rfl rfl ?_
  refine Tr.va rfl (fun _ _ h1 h2 => run_load1 ag_96 (h1.ev rfl) (rdb h2 (vs := [(.slice Ay122_0 (y122).length cy122_0)]) (k := 3) rfl 0) rfl) ?_
  refine Tr.v1 rfl (run_len un_96) rfl ?_
  refine Tr.v2 rfl run_lss rfl rfl ?_
  refine Tr.nil (Tr.normThen ?_)
  refine Tr.cond rfl H (fun H => ?_) (fun H => ?_)
  ·refine Tr.skip (Tr.normThen ?_)
   refine Tr.seq ?_
   refine Tr.block ?_
   refine Tr.sr ?_
   refine Tr.mv rfl rfl ?_
   refine Tr.mkFunc (vs := [(.pointer (some ⟨b104, 0, none⟩)), (.pointer (some ⟨bv227, 0, none⟩))]) (wn rfl) rfl (evl_cons rfl (evl_cons rfl evl_nil)) ?_
   obtain ⟨y233, hy233, H⟩ := bnd H
   refine Tr.callM [14] [ow Al231 cl231 38 fl_TRect l231] (U := (Option Addr × Nat)) (fun u => (.slice u.1 (y233).length u.2)) (fun u => SlF u.1 (y233).length u.2) (fun u => [ow u.1 u.2 38 fl_TRect y233]) rfl (pk_cons rfl pk_nil) (fun _ => rfl) (wn rfl) rfl Tryz.call64 (evl_cons rfl (evl_cons rfl evl_nil)) (fun W hW hp hE => F_slices_DeleteFunc_Rect_ok N l231 Al231 cl231 (fun z0 => F_shape_SetOf_2 z0 y122 x229) 65 [(.pointer (some ⟨b104, 0, none⟩)), (.pointer (some ⟨bv227, 0, none⟩))] Tryz.call65 (fun w' he z0 y hy => F_shape_SetOf_2_ok z0 y122 Ay122_0 cy122_0 ((hW.slS (k := 12) rfl hp rfl).ext he) b104 (he.r _ (hW.boxS (k := 3) rfl hp rfl)) (he.cells (hW.boxS (k := 3) rfl hp rfl) (hW.boxC (k := 3) rfl)) x229 bv227 (he.r _ (hW.boxS (k := 29) rfl hp rfl)) (he.cells (hW.boxS (k := 29) rfl hp rfl) (hW.boxC (k := 29) rfl)) y hy (HF.start _)) y233 hy233 hE) ?_
   intro u hu
   obtain ⟨Ay233_0, cy233_0⟩ := u
   have gy233_0 := hu
   have hgy233_0 : SlF Ay233_0 (y233).length cy233_0 := gy233_0 --@phi
   show Tr _ _ (uf _ 41 (.slice Ay233_0 (y233).length cy233_0)) (up _ 14 (ow Ay233_0 cy233_0 38 fl_TRect y233)) _
   refine Tr.asg rfl rfl ?_
   refine Tr.nil (Tr.normThen ?_)
   refine Tr.seq ?_
   refine Tr.block ?_
   refine Tr.loop (σ := (List TRect) × Int × (Option Addr) × Nat) (fun m w s => F_shape_SetOf_L5 y102 y122 x229 l230 (F_shape_SetOf_L4 N y102 y122 mL4) m s.1 s.2.1 = some r ∧ SlF s.2.2.1 (s.1).length s.2.2.2) (fun s => [(0, (.slice Ay100_0 (y102).length cy100_0)), (3, (.pointer (some ⟨b104, 0, none⟩))), (6, (.slice Al230 (l230).length cl230)), (7, (.slice s.2.2.1 (s.1).length s.2.2.2)), (8, (iv s.2.1)), (9, (.pointer (some ⟨bv227, 0, none⟩)))]) (fun s => [(2, ow Ay100_0 cy100_0 38 fl_TRect y102), (3, bx b104 #[(.slice Ay122_0 (y122).length cy122_0)] 96), (12, ow Ay122_0 cy122_0 3 fl_i64 y122), (13, ow Al230 cl230 98 fl_TBand l230), (14, ow s.2.2.1 s.2.2.2 38 fl_TRect s.1), (29, bx bv227 #[(iv x229)] 3)]) N (y233, x232, Ay233_0, cy233_0) ⟨H, hgy233_0⟩ (.r rfl) (.r rfl) (fun _ _ h => noSome (h.1)) ?_
   intro w leL5 mL5 s hs
   obtain ⟨l257, x258, Al257, cl257⟩ := s
   obtain ⟨H, hl257⟩ := hs
   replace H : F_shape_SetOf_L5 y102 y122 x229 l230 (F_shape_SetOf_L4 N y102 y122 mL4) (mL5 + 1) l257 x258 = some r := H
   replace leB := leB.trans leL5
   replace leL1 := leL1.trans leL5
   replace leL4 := leL4.trans leL5
   replace hl257 : SlF Al257 (l257).length cl257 := hl257
   rw [F_shape_SetOf_L5.eq_2] at H
   show Tr _ _ (LF [(0, (.slice Ay100_0 (y102).length cy100_0)), (3, (.pointer (some ⟨b104, 0, none⟩))), (6, (.slice Al230 (l230).length cl230)), (7, (.slice Al257 (l257).length cl257)), (8, (iv x258)), (9, (.pointer (some ⟨bv227, 0, none⟩)))]) (LE [(2, ow Ay100_0 cy100_0 38 fl_TRect y102), (3, bx b104 #[(.slice Ay122_0 (y122).length cy122_0)] 96), (12, ow Ay122_0 cy122_0 3 fl_i64 y122), (13, ow Al230 cl230 98 fl_TBand l230), (14, ow Al257 cl257 38 fl_TRect l257), (29, bx bv227 #[(iv x229)] 3)]) _
   refine Tr.seq ?_
   refine Tr.seq ?_
   refine Tr.draw (by kernel_rfl) (by kernel_rfl) ?_
   refine Tq.mv rfl rfl ?_
   refine Tq.mv rfl rfl ?_
   refine Tq.v1 rfl (run_len un_22) rfl ?_
   refine Tq.v2 rfl run_lss rfl rfl ?_
   refine Tq.mv rfl rfl ?_
   obtain ⟨g261, hg261, H⟩ := bnd H
   refine Tq.mid 11 [(0, (.slice Ay100_0 (y102).length cy100_0)), (3, (.pointer (some ⟨b104, 0, none⟩))), (6, (.slice Al230 (l230).length cl230)), (7, (.slice Al257 (l257).length cl257)), (8, (iv x258)), (9, (.pointer (some ⟨bv227, 0, none⟩))), (57, (.bool g261))] ?_ ?_
   ·cases hg276 : (decide (x258 < (y102.length : Int)))
    ·rw [hg276] at hg261
     rw [if_neg (by decide)] at hg261
     have H := hg261
     obtain rfl := Option.some.inj H
     refine Tq.ps ?_
     refine Tq.ps ?_
     refine Tq.ps ?_
     refine Tq.ps ?_
     refine Tq.ps ?_
     refine Tq.ps ?_
     refine Tq.ps ?_
     refine Tq.ps ?_
     refine Tq.ps ?_
     refine Tq.ps ?_
     refine Tq.v2 rfl run_pickF rfl rfl ?_
     exact Tq.fin (.r rfl)
    ·rw [hg276] at hg261
     rw [if_pos rfl] at hg261
     have H := hg261
     refine Tq.w1 (wg rfl rfl rfl) rfl run_move rfl ?_
     refine Tq.w1 (wg rfl rfl rfl) rfl run_move rfl ?_
     obtain ⟨x262, hx262, H⟩ := bnd H
     obtain ⟨hx2620, hx2621, hx2622⟩ := idx_some hx262
     refine Tq.val (wg rfl rfl rfl) rfl (fun _ _ h1 h2 => run_indexAddr el_22 (h1.ev rfl) hfky102_0 (h1.ev rfl) hx2620 hx2621) ?_
     refine Tq.w1 (wg rfl rfl rfl) rfl (run_fieldAddr fo_38_1) rfl ?_
     refine Tq.val (wg rfl rfl rfl) rfl (fun _ _ h1 h2 => run_load1 ag_3 (h1.ev rfl) (CellsAt.drop (rdo ef_TRect (k := 2) h2 rfl hx2622) 1) rfl) ?_
     refine Tq.val (wg rfl rfl rfl) rfl (fun _ _ h1 h2 => run_load1 ag_96 (h1.ev rfl) (rdb h2 (vs := [(.slice Ay122_0 (y122).length cy122_0)]) (k := 3) rfl 0) rfl) ?_
     refine Tq.val (wg rfl rfl rfl) rfl (fun _ _ h1 h2 => run_load1 ag_3 (h1.ev rfl) (rdb h2 (vs := [(iv x229)]) (k := 29) rfl 0) rfl) ?_
     obtain ⟨x263, hx263, H⟩ := bnd H
     obtain ⟨hx2630, hx2631, hx2632⟩ := idx_some hx263
     refine Tq.val (wg rfl rfl rfl) rfl (fun _ _ h1 h2 => run_indexAddr el_96 (h1.ev rfl) hgy122_0 (h1.ev rfl) hx2630 hx2631) ?_
     refine Tq.val (wg rfl rfl rfl) rfl (fun _ _ h1 h2 => run_load1 ag_3 (h1.ev rfl) (rdo ef_i64 (k := 12) h2 rfl hx2632) rfl) ?_
     refine Tq.w2 (wg rfl rfl rfl) rfl run_leq rfl rfl ?_
     refine Tq.v2 rfl run_pickT rfl rfl ?_
     obtain rfl := Option.some.inj H
     exact Tq.fin (.r rfl)
   ·refine Tq.nil (Tr.normThen ?_)
    refine Tr.cond rfl H (fun H => ?_) (fun H => ?_)
    ·refine Tr.skip (Tr.normThen ?_)
     refine Tr.block ?_
     refine Tr.region ?_
     refine Tr.mv rfl rfl ?_
     refine Tr.mv rfl rfl ?_
     refine Tr.mv rfl rfl ?_
     obtain ⟨x264, hx264, H⟩ := bnd H
     obtain ⟨hx2640, hx2641, hx2642⟩ := idx_some hx264
     refine Tr.va rfl (fun _ _ h1 h2 => run_indexAddr el_22 (h1.ev rfl) hfky102_0 (h1.ev rfl) hx2640 hx2641) ?_
     refine Tr.va rfl (fun _ _ h1 h2 => run_loadN (cs := [(iv x264.X0), (iv x264.Y0), (iv x264.X1), (iv x264.Y1)]) ag_38 sz_38 (h1.ev rfl) (CellsAt.take (rdo ef_TRect (k := 2) h2 rfl hx2642) 4) rfl) ?_
     refine Tr.buildSlice 32 (e := 38) (vs := [(0, (.agg #[(iv x264.X0), (iv x264.Y0), (iv x264.X1), (iv x264.Y1)]))]) (cs := [(iv x264.X0), (iv x264.Y0), (iv x264.X1), (iv x264.Y1)]) (wn rfl) rfl (evs_cons rfl evs_nil) (by kernel_rfl) fun b265 => ?_
     obtain ⟨l266, hl266, H⟩ := bnd H
     refine Tr.append 14 (t := fl_TRect) (l := l257) (l2 := [x264]) (wn rfl) rfl rfl rfl rfl (fun W hW => ⟨[[(iv x264.X0), (iv x264.Y0), (iv x264.X1), (iv x264.Y1)]], (.cons ⟨(), trivial, rfl⟩ .nil), rdb hW (vs := [(iv x264.X0), (iv x264.Y0), (iv x264.X1), (iv x264.Y1)]) (k := 32) rfl 0⟩) un_22 sz_38 zl_38 (by decide) by_38 rfl hl266 fun Al266 cl266 hAl266 => ?_
     refine Tr.mv rfl rfl ?_
     refine Tr.v2 rfl run_add rfl rfl ?_
     refine Tr.asg rfl rfl ?_
     refine Tr.asg rfl rfl ?_
     refine Tr.nil (Tr.normBlock ?_)
     exact Tr.backThen leL5 (l266, (w64 (x258 + 1)), Al266, cl266) ⟨H, hAl266⟩ (.r rfl) (.r rfl)
    ·refine Tr.exit (Tr.exitThen (Tr.exitThen (Tr.exitBlock (Tr.normThen ?_))))
     refine Tr.drawC 13 [(11, (ow Al257 cl257 38 fl_TRect l257).S)] [] (by kernel_rfl) (by kernel_rfl) fun sz267 hlosz267 hEsz267 => ?_
     refine Dr.quietP 0 (by kernel_rfl) rfl (wn rfl) rfl (by kernel_rfl) (fun _ _ h1 => run_move (h1.ev rfl)) rfl ?_
     refine Dr.quietZ 1 [(68, (.slice Ay122_0 (y122).length cy122_0))] [11] false (by kernel_rfl) rfl rfl (by kernel_rfl) (fun W W' h2 hsW hk => HF.keepZ (le := [(3, bx b104 #[(.slice Ay122_0 (y122).length cy122_0)] 96)]) (ks := [(14, (ow Al257 cl257 38 fl_TRect l257).S)]) (s0 := sz267) false h2 hk (fun h => absurd h (by decide)) (.r rfl) (fun b hb => hb.elim (fun ⟨p, hp, hf, hb⟩ => by simp only [List.mem_cons, List.not_mem_nil, or_false] at hp; rcases hp with rfl; exact .inl ⟨_, List.mem_cons_self, hb⟩) (fun hb => absurd hb.1 (by decide))) (List.forall_mem_cons.2 ⟨fun b hb => hb, (fun _ h => nomatch h)⟩) rfl) ?_ rfl rfl ?_
     ·refine Tq.va rfl (fun _ _ h1 h2 => run_load1 ag_96 (h1.ev rfl) (rdb h2 (vs := [(.slice Ay122_0 (y122).length cy122_0)]) (k := 3) rfl 0) rfl) ?_
      exact Tq.fin (.r rfl)
     refine Dr.quietZ 2 [(69, (iv x229))] [11] false (by kernel_rfl) rfl rfl (by kernel_rfl) (fun W W' h2 hsW hk => HF.keepZ (le := [(29, bx bv227 #[(iv x229)] 3)]) (ks := [(14, (ow Al257 cl257 38 fl_TRect l257).S)]) (s0 := sz267) false h2 hk (fun h => absurd h (by decide)) (.r rfl) (fun b hb => hb.elim (fun ⟨p, hp, hf, hb⟩ => by simp only [List.mem_cons, List.not_mem_nil, or_false] at hp; rcases hp with rfl; exact .inl ⟨_, List.mem_cons_self, hb⟩) (fun hb => absurd hb.1 (by decide))) (List.forall_mem_cons.2 ⟨fun b hb => hb, (fun _ h => nomatch h)⟩) rfl) ?_ rfl rfl ?_
     ·refine Tq.va rfl (fun _ _ h1 h2 => run_load1 ag_3 (h1.ev rfl) (rdb h2 (vs := [(iv x229)]) (k := 29) rfl 0) rfl) ?_
      exact Tq.fin (.r rfl)
     obtain ⟨x268, hx268, H⟩ := bnd H
     obtain ⟨hx2680, hx2681, hx2682⟩ := idx_some hx268
     refine Dr.quietP 3 (by kernel_rfl) rfl (wn rfl) rfl (by kernel_rfl) (fun _ _ h1 => run_indexAddr el_96 (h1.ev rfl) hgy122_0 (h1.ev rfl) hx2680 hx2681) rfl ?_
     refine Dr.quietZ 4 [(71, (iv x268))] [11] false (by kernel_rfl) rfl rfl (by kernel_rfl) (fun W W' h2 hsW hk => HF.keepZ (le := [(12, ow Ay122_0 cy122_0 3 fl_i64 y122)]) (ks := [(14, (ow Al257 cl257 38 fl_TRect l257).S)]) (s0 := sz267) false h2 hk (fun h => absurd h (by decide)) (.r rfl) (fun b hb => hb.elim (fun ⟨p, hp, hf, hb⟩ => by simp only [List.mem_cons, List.not_mem_nil, or_false] at hp; rcases hp with rfl; exact .inl ⟨_, List.mem_cons_self, hb⟩) (fun hb => absurd hb.1 (by decide))) (List.forall_mem_cons.2 ⟨fun b hb => hb, (fun _ h => nomatch h)⟩) rfl) ?_ rfl rfl ?_
     ·refine Tq.va rfl (fun _ _ h1 h2 => run_load1 ag_3 (h1.ev rfl) (rdo ef_i64 (k := 12) h2 rfl hx2682) rfl) ?_
      exact Tq.fin (.r rfl)
     refine Dr.quietZ 5 [(72, (.slice Ay122_0 (y122).length cy122_0))] [11] false (by kernel_rfl) rfl rfl (by kernel_rfl) (fun W W' h2 hsW hk => HF.keepZ (le := [(3, bx b104 #[(.slice Ay122_0 (y122).length cy122_0)] 96)]) (ks := [(14, (ow Al257 cl257 38 fl_TRect l257).S)]) (s0 := sz267) false h2 hk (fun h => absurd h (by decide)) (.r rfl) (fun b hb => hb.elim (fun ⟨p, hp, hf, hb⟩ => by simp only [List.mem_cons, List.not_mem_nil, or_false] at hp; rcases hp with rfl; exact .inl ⟨_, List.mem_cons_self, hb⟩) (fun hb => absurd hb.1 (by decide))) (List.forall_mem_cons.2 ⟨fun b hb => hb, (fun _ h => nomatch h)⟩) rfl) ?_ rfl rfl ?_
     ·refine Tq.va rfl (fun _ _ h1 h2 => run_load1 ag_96 (h1.ev rfl) (rdb h2 (vs := [(.slice Ay122_0 (y122).length cy122_0)]) (k := 3) rfl 0) rfl) ?_
      exact Tq.fin (.r rfl)
     refine Dr.quietZ 6 [(73, (iv x229))] [11] false (by kernel_rfl) rfl rfl (by kernel_rfl) (fun W W' h2 hsW hk => HF.keepZ (le := [(29, bx bv227 #[(iv x229)] 3)]) (ks := [(14, (ow Al257 cl257 38 fl_TRect l257).S)]) (s0 := sz267) false h2 hk (fun h => absurd h (by decide)) (.r rfl) (fun b hb => hb.elim (fun ⟨p, hp, hf, hb⟩ => by simp only [List.mem_cons, List.not_mem_nil, or_false] at hp; rcases hp with rfl; exact .inl ⟨_, List.mem_cons_self, hb⟩) (fun hb => absurd hb.1 (by decide))) (List.forall_mem_cons.2 ⟨fun b hb => hb, (fun _ h => nomatch h)⟩) rfl) ?_ rfl rfl ?_
     ·refine Tq.va rfl (fun _ _ h1 h2 => run_load1 ag_3 (h1.ev rfl) (rdb h2 (vs := [(iv x229)]) (k := 29) rfl 0) rfl) ?_
      exact Tq.fin (.r rfl)
     refine Dr.quietP 7 (by kernel_rfl) rfl (wn rfl) rfl (by kernel_rfl) (fun _ _ h1 => run_add (h1.ev rfl) (h1.ev rfl)) rfl ?_
     obtain ⟨x269, hx269, H⟩ := bnd H
     obtain ⟨hx2690, hx2691, hx2692⟩ := idx_some hx269
     refine Dr.quietP 8 (by kernel_rfl) rfl (wn rfl) rfl (by kernel_rfl) (fun _ _ h1 => run_indexAddr el_96 (h1.ev rfl) hgy122_0 (h1.ev rfl) hx2690 hx2691) rfl ?_
     refine Dr.quietZ 9 [(76, (iv x269))] [11] false (by kernel_rfl) rfl rfl (by kernel_rfl) (fun W W' h2 hsW hk => HF.keepZ (le := [(12, ow Ay122_0 cy122_0 3 fl_i64 y122)]) (ks := [(14, (ow Al257 cl257 38 fl_TRect l257).S)]) (s0 := sz267) false h2 hk (fun h => absurd h (by decide)) (.r rfl) (fun b hb => hb.elim (fun ⟨p, hp, hf, hb⟩ => by simp only [List.mem_cons, List.not_mem_nil, or_false] at hp; rcases hp with rfl; exact .inl ⟨_, List.mem_cons_self, hb⟩) (fun hb => absurd hb.1 (by decide))) (List.forall_mem_cons.2 ⟨fun b hb => hb, (fun _ h => nomatch h)⟩) rfl) ?_ rfl rfl ?_
     ·refine Tq.va rfl (fun _ _ h1 h2 => run_load1 ag_3 (h1.ev rfl) (rdo ef_i64 (k := 12) h2 rfl hx2692) rfl) ?_
      exact Tq.fin (.r rfl)
     refine Dr.quiet 10 [(77, (.slice Al257 (l257).length cl257))] (by kernel_rfl) rfl rfl (by kernel_rfl) ?_ rfl rfl ?_
     ·refine Tq.mv rfl rfl ?_
      exact Tq.fin (.r rfl)
     obtain ⟨y270, hy270, H⟩ := bnd H
     refine Dr.one 11 (by kernel_rfl) ?_
     refine St.callM 11 [14, 33] [ow Al257 cl257 38 fl_TRect l257, emp] (U := (Option Addr × Nat)) (fun u => (.slice u.1 (y270.1).length u.2)) (fun u => SlF u.1 (y270.1).length u.2 ∧ (y270.2).length = (l257).length) (fun u => [ow Al257 cl257 38 fl_TRect y270.2, ow u.1 u.2 3 fl_i64 y270.1]) rfl (pk_cons rfl (pk_cons rfl pk_nil)) (fun _ => rfl) (fun b ⟨e, he, hS⟩ => by simp only [List.mem_cons, List.not_mem_nil, or_false] at he; rcases he with rfl | rfl; exact .inl ⟨_, List.mem_cons_self, rfl, hS⟩; exact hS.elim) rfl (wn rfl) rfl Tryz.call67 (evl_cons rfl evl_nil) (fun W hW hp hE => F_shape_stretches_ok l257 Al257 cl257 y270 hy270 hE) ?_
     intro u hu hsy270
     obtain ⟨Ay270_0, cy270_0⟩ := u
     obtain ⟨gy270_0, gky270_0⟩ := hu
     have hgy270_0 : SlF Ay270_0 (y270.1).length cy270_0 := gy270_0
     have hgky270_0 : (y270.2).length = (l257).length := gky270_0
     have hfky270_0 : SlF Al257 (y270.2).length cl257 := by rw [hgky270_0]; exact hl257
     show Dr _ _ _ _ _ _ _ _ _ (uf _ 78 (.slice Ay270_0 (y270.1).length cy270_0)) (up (up _ 33 (ow Ay270_0 cy270_0 3 fl_i64 y270.1)) 14 (ow Al257 cl257 38 fl_TRect y270.2))
     refine Dr.use (lf := [(0, (.slice Ay100_0 (y102).length cy100_0)), (3, (.pointer (some ⟨b104, 0, none⟩))), (6, (.slice Al230 (l230).length cl230)), (7, (.slice Al257 (y270.2).length cl257)), (8, (iv x258)), (9, (.pointer (some ⟨bv227, 0, none⟩))), (57, (.bool g261)), (67, (.slice Al230 (l230).length cl230)), (68, (.slice Ay122_0 (y122).length cy122_0)), (69, (iv x229)), (70, (.pointer (some ⟨adB Ay122_0, adO Ay122_0 + (x229).toNat * 1, none⟩))), (71, (iv x268)), (72, (.slice Ay122_0 (y122).length cy122_0)), (73, (iv x229)), (74, (iv (w64 (x229 + 1)))), (75, (.pointer (some ⟨adB Ay122_0, adO Ay122_0 + ((w64 (x229 + 1))).toNat * 1, none⟩))), (76, (iv x269)), (77, (.slice Al257 (y270.2).length cl257)), (78, (.slice Ay270_0 (y270.1).length cy270_0))]) (le := [(2, ow Ay100_0 cy100_0 38 fl_TRect y102), (3, bx b104 #[(.slice Ay122_0 (y122).length cy122_0)] 96), (12, ow Ay122_0 cy122_0 3 fl_i64 y122), (13, ow Al230 cl230 98 fl_TBand l230), (14, ow Al257 cl257 38 fl_TRect y270.2), (29, bx bv227 #[(iv x229)] 3), (33, ow Ay270_0 cy270_0 3 fl_i64 y270.1)]) ?_ rfl (.cons rfl (.cons rfl (.cons rfl (.cons (slenV rfl (by rw [hgky270_0])) (.cons rfl (.cons rfl (.cons rfl (.cons rfl (.cons rfl (.cons rfl (.cons rfl (.cons rfl (.cons rfl (.cons rfl (.cons rfl (.cons rfl (.cons rfl (.cons (slenV rfl (by rw [hgky270_0])) (.r rfl))))))))))))))))))) (.r rfl)
     refine Dr.quiet 12 [(79, (.agg #[(iv x268), (iv x269), (.slice Ay270_0 (y270.1).length cy270_0)]))] (by kernel_rfl) rfl rfl (by kernel_rfl) ?_ rfl rfl ?_
     ·refine Tq.build (vs := [(0, (iv x268)), (1, (iv x269)), (2, (.slice Ay270_0 (y270.1).length cy270_0))]) (cs := [(iv x268), (iv x269), (.slice Ay270_0 (y270.1).length cy270_0)]) (wn rfl) rfl (evs_cons rfl (evs_cons rfl (evs_cons rfl evs_nil))) (by kernel_rfl) ?_
      exact Tq.fin (.r rfl)
     refine Dr.tail (by kernel_rfl) ?_
     refine Tr.freeze 33 rfl fun w le273 hz272 => ?_
     replace leB := leB.trans le273
     replace leL1 := leL1.trans le273
     replace leL4 := leL4.trans le273
     replace leL5 := leL5.trans le273
     obtain ⟨y274, hy274, H⟩ := bnd H
     refine Tr.callG [13] [ow Al230 cl230 98 fl_TBand l230] (U := (Option Addr × Nat)) (fun u => (.slice u.1 (y274).length u.2)) (fun O W u => SlF u.1 (y274).length u.2) (fun u => [ow u.1 u.2 98 fl_TBand y274]) rfl (pk_cons rfl pk_nil) (fun _ => rfl) (wn rfl) rfl Tryz.call66 (evl_cons rfl (evl_cons rfl evl_nil)) (fun W hW hp hE => F_shape_Set__push_ok l230 Al230 cl230 (TBand.mk x268 x269 y270.1) Ay270_0 cy270_0 (hz272.extO (hW.extS hp)) y274 hy274 hE) ?_
     intro w u le275 hu
     obtain ⟨Ay274_0, cy274_0⟩ := u
     have gy274_0 := hu
     replace hz272 := hz272.le le275
     replace leB := leB.trans le275
     replace leL1 := leL1.trans le275
     replace leL4 := leL4.trans le275
     replace leL5 := leL5.trans le275
     have hgy274_0 : SlF Ay274_0 (y274).length cy274_0 := gy274_0 --@phi
     show Tr _ _ (uf _ 80 (.slice Ay274_0 (y274).length cy274_0)) (up _ 13 (ow Ay274_0 cy274_0 98 fl_TBand y274)) _
     refine Tr.asg rfl rfl ?_
     refine Tr.nil (Tr.normBlock (Tr.normThen ?_))
     refine Tr.seq ?_
     refine Tr.sr ?_
     refine Tr.va rfl (fun _ _ h1 h2 => run_load1 ag_3 (h1.ev rfl) (rdb h2 (vs := [(iv x229)]) (k := 29) rfl 0) rfl) ?_
     refine Tr.nil (Tr.normThen ?_)
     refine Tr.region ?_
     refine Tr.alloc 34 (wn rfl) rfl ze_3 fun b276 => ?_
     refine Tr.store 34 (cs := [(iv x229)]) [(iv x229)] (wn rfl) rfl rfl rfl rfl sz_3 rfl rfl rfl ?_
     refine Tr.nil (Tr.normThen ?_)
     refine Tr.region ?_
     refine Tr.va rfl (fun _ _ h1 h2 => run_load1 ag_3 (h1.ev rfl) (rdb h2 (vs := [(iv x229)]) (k := 34) rfl 0) rfl) ?_
     refine Tr.v2 rfl run_add rfl rfl ?_
     refine Tr.store 34 (cs := [(iv (w64 (x229 + 1)))]) [(iv (w64 (x229 + 1)))] (wn rfl) rfl rfl rfl rfl sz_3 rfl rfl rfl ?_
     refine Tr.nil ?_
     refine Tr.dropK 29 ?_
     refine Tr.ren 34 29 rfl rfl rfl ?_
     exact Tr.backThen leL4 ((w64 (x229 + 1)), y274, y270.2, x258, b276, Ay274_0, cy274_0, Al257, cl257) ⟨H, hgy274_0, hfky270_0⟩ (.r rfl) (.r rfl)
  ·refine Tr.exit (Tr.exitThen (Tr.exitThen (Tr.exitBlock (Tr.normThen ?_))))
   refine Tr.sr ?_
   refine Tr.mv rfl rfl ?_
   refine Tr.asg rfl rfl ?_
   refine Tr.nil (Tr.normThen ?_)
   refine Tr.ret ?_
   obtain rfl := Option.some.inj H
   exact Tr.out (m := [(.slice Al230 (l230).length cl230)]) [] (res_tmp rfl res_nil) (fun W hW => ⟨w, (Al230, cl230), leB, rfl, hl230, hW.pick (ks := [13]) (by decide) (pk_cons rfl pk_nil)⟩)
 | cons xL1 restL1 =>
  rw [F_shape_SetOf_L1.eq_2] at H
  refine Tr.sr ?_
  refine Tr.v2 rfl run_lss rfl rfl ?_
  refine Tr.nil (Tr.normThen ?_)
  refine Tr.seq ?_
  refine Tr.condT rfl (range_on hdL1) ?_
  refine Tr.skip (Tr.normThen ?_)
  refine Tr.seq ?_
  refine Tr.block ?_
  refine Tr.sr ?_
  refine Tr.va rfl (fun _ _ h1 h2 => run_indexAddr el_22 (h1.ev rfl) hfky102_0 (h1.ev rfl) (Int.natCast_nonneg _) (range_lt hdL1)) ?_
  refine Tr.va rfl (fun _ _ h1 h2 => run_loadN (cs := [(iv xL1.X0), (iv xL1.Y0), (iv xL1.X1), (iv xL1.Y1)]) ag_38 sz_38 (h1.ev rfl) (CellsAt.take (rdo ef_TRect (k := 2) h2 rfl (range_at hdL1)) 4) rfl) ?_
  refine Tr.alloc 35 (wn rfl) rfl ze_38 fun b277 => ?_
  refine Tr.store 35 (cs := [(iv xL1.X0), (iv xL1.Y0), (iv xL1.X1), (iv xL1.Y1)]) [(iv xL1.X0), (iv xL1.Y0), (iv xL1.X1), (iv xL1.Y1)] (wn rfl) rfl rfl rfl rfl sz_38 rfl rfl rfl ?_
  refine Tr.nil (Tr.normThen ?_)
  refine Tr.region ?_
  refine Tr.va rfl (fun _ _ h1 h2 => run_load1 ag_96 (h1.ev rfl) (rdb h2 (vs := [(.slice Al119 (l119).length cl119)]) (k := 3) rfl 0) rfl) ?_
  refine Tr.v1 rfl (run_fieldAddr fo_38_1) rfl ?_
  refine Tr.va rfl (fun _ _ h1 h2 => run_load1 ag_3 (h1.ev rfl) (rdb h2 (vs := [(iv xL1.X0), (iv xL1.Y0), (iv xL1.X1), (iv xL1.Y1)]) (k := 35) rfl 1) rfl) ?_
  refine Tr.v1 rfl (run_fieldAddr fo_38_3) rfl ?_
  refine Tr.va rfl (fun _ _ h1 h2 => run_load1 ag_3 (h1.ev rfl) (rdb h2 (vs := [(iv xL1.X0), (iv xL1.Y0), (iv xL1.X1), (iv xL1.Y1)]) (k := 35) rfl 3) rfl) ?_
  refine Tr.buildSlice 36 (e := 3) (vs := [(0, (iv xL1.Y0)), (1, (iv xL1.Y1))]) (cs := [(iv xL1.Y0), (iv xL1.Y1)]) (wn rfl) rfl (evs_cons rfl (evs_cons rfl evs_nil)) (by kernel_rfl) fun b278 => ?_
  obtain ⟨l279, hl279, H⟩ := bnd H
  refine Tr.append 12 (t := fl_i64) (l := l119) (l2 := [xL1.Y0, xL1.Y1]) (wn rfl) rfl rfl rfl rfl (fun W hW => ⟨[[(iv xL1.Y0)], [(iv xL1.Y1)]], (.cons ⟨(), trivial, rfl⟩ (.cons ⟨(), trivial, rfl⟩ .nil)), rdb hW (vs := [(iv xL1.Y0), (iv xL1.Y1)]) (k := 36) rfl 0⟩) un_96 sz_3 zl_3 (by decide) by_3 rfl hl279 fun Al279 cl279 hAl279 => ?_
  refine Tr.store 3 (cs := [(.slice Al279 (l279).length cl279)]) [(.slice Al279 (l279).length cl279)] (wn rfl) rfl rfl rfl rfl sz_96 rfl rfl rfl ?_
  refine Tr.nil (Tr.normBlock (Tr.normThen ?_))
  refine Tr.region ?_
  refine Tr.v2 rfl run_add rfl rfl ?_
  refine Tr.mv rfl rfl ?_
  refine Tr.nil ?_
  exact Tr.backThen leL1 (restL1, (iL1 + 1), l279, Al279, cl279) ⟨rfl, range_tl hdL1, range_lt hdL1, H, hAl279⟩ (.cons rfl (.cons rfl (.cons rfl (.cons rfl (.cons (congrArg (fun z => some (Value.int .i64 z)) (range_up hdL1 hfky102_0)) .nil))))) (.r rfl)

theorem F_shape_Set__Rects_ok (N : Nat) {w : Bs} (p0 : (List TBand)) (Ap0_0 : Option Addr) (cp0_0 : Nat) (hp0_0 : Sl w.R w.W fl_TBand Ap0_0 cp0_0 p0) (r : (List TRect)) (H : F_shape_Set__Rects N p0 = some r) (hE : HF w w.W (LEn [emp])) : Calls Tryz.prog 25 [(.slice Ap0_0 (p0).length cp0_0)].toArray w.W fun e W' => ∃ u : (Option Addr × Nat), e = .returned (.slice u.1 (r).length u.2) ∧ (SlF u.1 (r).length u.2) ∧ HF w W' (LEn [ow u.1 u.2 38 fl_TRect r]) := by
 unfold F_shape_Set__Rects at H
 have leB := Bs.Le.refl w
 refine Tr.enter (n := 41) Tryz.func25 rfl rfl rfl hE ?_
 refine Tr.sr ?_
 refine Tr.asg rfl rfl ?_
 refine Tr.nilOwn 1 38 fl_TRect ?_
 show Tr _ _ (uf _ 2 (.slice none (([] : List TRect)).length 0)) _ _
 refine Tr.nil (Tr.normThen ?_)
 refine Tr.sr ?_
 refine Tr.asg rfl rfl ?_
 refine Tr.nilOwn 2 38 fl_TRect ?_
 show Tr _ _ (uf _ 3 (.slice none (([] : List TRect)).length 0)) _ _
 refine Tr.nil (Tr.normThen ?_)
 refine Tr.seq ?_
 refine Tr.sr ?_
 refine Tr.mv rfl rfl ?_
 refine Tr.v1 rfl (run_len un_62) rfl ?_
 refine Tr.mv rfl rfl ?_
 refine Tr.nil (Tr.normThen ?_)
 refine Tr.block ?_
 refine Tr.loop (σ := (List TBand) × Nat × (List TRect) × (Option Addr) × Nat) (fun m w s => m = s.1.length + 1 ∧ s.1 = List.drop s.2.1 p0 ∧ s.2.1 ≤ p0.length ∧ F_shape_Set__Rects_L3 N s.1 s.2.1 s.2.2.1 = some r ∧ SlF s.2.2.2.1 (s.2.2.1).length s.2.2.2.2) (fun s => [(3, (.slice s.2.2.2.1 (s.2.2.1).length s.2.2.2.2)), (7, (.slice Ap0_0 (p0).length cp0_0)), (8, (iv (p0.length : Int))), (9, (iv (s.2.1 : Int)))]) (fun s => [(2, ow s.2.2.2.1 s.2.2.2.2 38 fl_TRect s.2.2.1)]) (p0.length + 1) (p0, 0, ([] : List TRect), none, 0) ⟨rfl, rfl, Nat.zero_le _, H, slf_nil⟩ (.r rfl) (.r rfl) (fun _ _ h => absurd h.1 (by simp)) ?_
 intro w leL3 m s hs
 obtain ⟨restL3, iL3, l152, Al152, cl152⟩ := s
 obtain ⟨hmL3, hdL3, hiL3, H, hl152⟩ := hs
 replace hdL3 : restL3 = List.drop iL3 p0 := hdL3
 replace H : F_shape_Set__Rects_L3 N restL3 iL3 l152 = some r := H
 replace hmL3 : m + 1 = restL3.length + 1 := hmL3
 replace hp0_0 := hp0_0.leR leL3
 replace leB := leB.trans leL3
 replace hl152 : SlF Al152 (l152).length cl152 := hl152
 obtain rfl : m = restL3.length := by omega
 clear hmL3
 show Tr _ _ (LF [(3, (.slice Al152 (l152).length cl152)), (7, (.slice Ap0_0 (p0).length cp0_0)), (8, (iv (p0.length : Int))), (9, (iv (iL3 : Int)))]) (LE [(2, ow Al152 cl152 38 fl_TRect l152)]) _
 cases restL3 with
 | nil =>
  rw [F_shape_Set__Rects_L3.eq_1] at H
  refine Tr.sr ?_
  refine Tr.v2 rfl run_lss rfl rfl ?_
  refine Tr.nil (Tr.normThen ?_)
  refine Tr.seq ?_
  refine Tr.condF rfl (range_nil hdL3) ?_
  refine Tr.exit (Tr.exitThen (Tr.exitThen (Tr.exitBlock (Tr.normThen ?_))))
  refine Tr.sr ?_
  refine Tr.mv rfl rfl ?_
  refine Tr.asg rfl rfl ?_
  refine Tr.nil (Tr.normThen ?_)
  refine Tr.ret ?_
  obtain rfl := Option.some.inj H
  exact Tr.out (m := [(.slice Al152 (l152).length cl152)]) [] (res_tmp rfl res_nil) (fun W hW => ⟨(Al152, cl152), rfl, hl152, HF.lowE leB (hW.pick (ks := [2]) (by decide) (pk_cons rfl pk_nil)) ⟨ow_any _ _ _ _ tr_TRect, trivial⟩⟩)
 | cons xL3 restL3 =>
  rw [F_shape_Set__Rects_L3.eq_2] at H
  refine Tr.sr ?_
  refine Tr.v2 rfl run_lss rfl rfl ?_
  refine Tr.nil (Tr.normThen ?_)
  refine Tr.seq ?_
  refine Tr.condT rfl (range_on hdL3) ?_
  refine Tr.skip (Tr.normThen ?_)
  refine Tr.seq ?_
  refine Tr.block ?_
  refine Tr.sr ?_
  obtain ⟨u153, hRu153, hoku153, hcu153⟩ := (hp0_0).el (range_at hdL3)
  obtain ⟨Au153_0, cu153_0⟩ := u153
  have hoku153_0 := hoku153
  replace hoku153_0 : Sl w.R w.W fl_i64 Au153_0 cu153_0 xL3.Xs := hoku153_0
  refine Tr.va rfl (fun _ _ h1 h2 => run_indexAddr el_62 (h1.ev rfl) hp0_0.form (h1.ev rfl) (Int.natCast_nonneg _) (range_lt hdL3)) ?_
  refine Tr.va rfl (fun _ _ h1 h2 => run_loadN (cs := [(iv xL3.Y0), (iv xL3.Y1), (.slice Au153_0 (xL3.Xs).length cu153_0)]) ag_98 sz_98 (h1.ev rfl) (CellsAt.take (rdR hRu153 hcu153 h2) 3) rfl) ?_
  refine Tr.alloc 11 (wn rfl) rfl ze_98 fun b154 => ?_
  refine Tr.store 11 (cs := [(iv xL3.Y0), (iv xL3.Y1), (.slice Au153_0 (xL3.Xs).length cu153_0)]) [(iv xL3.Y0), (iv xL3.Y1), (.slice Au153_0 (xL3.Xs).length cu153_0)] (wn rfl) rfl rfl rfl rfl sz_98 rfl rfl rfl ?_
  refine Tr.nil (Tr.normThen ?_)
  refine Tr.sr ?_
  refine Tr.asg rfl rfl ?_
  refine Tr.nil (Tr.normThen ?_)
  refine Tr.block ?_
  refine Tr.loop (σ := (List TRect) × Int × (Option Addr) × Nat) (fun m w s => F_shape_Set__Rects_L4 (F_shape_Set__Rects_L3 N restL3 (iL3 + 1)) xL3 m s.1 s.2.1 = some r ∧ SlF s.2.2.1 (s.1).length s.2.2.2) (fun s => [(3, (.slice s.2.2.1 (s.1).length s.2.2.2)), (5, (.pointer (some ⟨b154, 0, none⟩))), (6, (iv s.2.1)), (7, (.slice Ap0_0 (p0).length cp0_0)), (8, (iv (p0.length : Int))), (9, (iv (iL3 : Int)))]) (fun s => [(2, ow s.2.2.1 s.2.2.2 38 fl_TRect s.1), (11, bx b154 #[(iv xL3.Y0), (iv xL3.Y1), (.slice Au153_0 (xL3.Xs).length cu153_0)] 98)]) N (l152, 0, Al152, cl152) ⟨H, hl152⟩ (.r rfl) (.r rfl) (fun _ _ h => noSome (h.1)) ?_
  intro w leL4 mL4 s hs
  obtain ⟨l169, x170, Al169, cl169⟩ := s
  obtain ⟨H, hl169⟩ := hs
  replace H : F_shape_Set__Rects_L4 (F_shape_Set__Rects_L3 N restL3 (iL3 + 1)) xL3 (mL4 + 1) l169 x170 = some r := H
  replace hoku153_0 := hoku153_0.leR leL4
  replace hp0_0 := hp0_0.leR leL4
  replace leB := leB.trans leL4
  replace leL3 := leL3.trans leL4
  replace hl169 : SlF Al169 (l169).length cl169 := hl169
  rw [F_shape_Set__Rects_L4.eq_2] at H
  show Tr _ _ (LF [(3, (.slice Al169 (l169).length cl169)), (5, (.pointer (some ⟨b154, 0, none⟩))), (6, (iv x170)), (7, (.slice Ap0_0 (p0).length cp0_0)), (8, (iv (p0.length : Int))), (9, (iv (iL3 : Int)))]) (LE [(2, ow Al169 cl169 38 fl_TRect l169), (11, bx b154 #[(iv xL3.Y0), (iv xL3.Y1), (.slice Au153_0 (xL3.Xs).length cu153_0)] 98)]) _
  refine Tr.seq ?_
  refine Tr.sr ?_
  refine Tr.mv rfl rfl ?_
  refine Tr.v1 rfl (run_fieldAddr fo_98_2) rfl ?_
  refine Tr.va rfl (fun _ _ h1 h2 => run_load1 ag_96 (h1.ev rfl) (rdb h2 (vs := [(iv xL3.Y0), (iv xL3.Y1), (.slice Au153_0 (xL3.Xs).length cu153_0)]) (k := 11) rfl 2) rfl) ?_
  refine Tr.v1 rfl (run_len un_96) rfl ?_
  refine Tr.v2 rfl run_lss rfl rfl ?_
  refine Tr.nil (Tr.normThen ?_)
  refine Tr.cond rfl H (fun H => ?_) (fun H => ?_)
  ·refine Tr.skip (Tr.normThen ?_)
   refine Tr.seq ?_
   refine Tr.block ?_
   obtain ⟨x172, hx172, H⟩ := bnd H
   obtain ⟨hx1720, hx1721, hx1722⟩ := idx_some hx172
   obtain ⟨x173, hx173, H⟩ := bnd H
   obtain ⟨hx1730, hx1731, hx1732⟩ := idx_some hx173
   refine Tr.drawF 18 [(17, .makeFunc (.func 0) #[] #[.tmp 36])] [(17, ⟨37, 14, (.func (.func 0) #[] #[(.agg #[(iv x172), (iv xL3.Y0), (iv x173), (iv xL3.Y1)])]), fun b => .slice (some ⟨b, 0, none⟩) 1 1, fun b => bx b #[(iv x172), (iv xL3.Y0), (iv x173), (iv xL3.Y1)] 38⟩)] [(3, (.slice Al169 (l169).length cl169)), (5, (.pointer (some ⟨b154, 0, none⟩))), (6, (iv x170)), (7, (.slice Ap0_0 (p0).length cp0_0)), (8, (iv (p0.length : Int))), (9, (iv (iL3 : Int))), (13, (iv x170)), (14, (.pointer (some ⟨b154, 2, none⟩))), (15, (.slice Au153_0 (xL3.Xs).length cu153_0)), (16, (iv (xL3.Xs.length : Int))), (17, (.bool (decide (x170 < (xL3.Xs.length : Int))))), (20, (.slice Al169 (l169).length cl169)), (21, (.pointer (some ⟨b154, 2, none⟩))), (22, (.slice Au153_0 (xL3.Xs).length cu153_0)), (23, (iv x170)), (24, (.pointer (some ⟨adB Au153_0, adO Au153_0 + (x170).toNat * 1, none⟩))), (25, (iv x172)), (26, (.pointer (some ⟨b154, 0, none⟩))), (27, (iv xL3.Y0)), (28, (.pointer (some ⟨b154, 2, none⟩))), (29, (.slice Au153_0 (xL3.Xs).length cu153_0)), (30, (iv x170)), (31, (iv (w64 (x170 + 1)))), (32, (.pointer (some ⟨adB Au153_0, adO Au153_0 + ((w64 (x170 + 1))).toNat * 1, none⟩))), (33, (iv x173)), (34, (.pointer (some ⟨b154, 1, none⟩))), (35, (iv xL3.Y1)), (36, (.agg #[(iv x172), (iv xL3.Y0), (iv x173), (iv xL3.Y1)])), (37, (.func (.func 0) #[] #[(.agg #[(iv x172), (iv xL3.Y0), (iv x173), (iv xL3.Y1)])]))] (by kernel_rfl) (by kernel_rfl) (by kernel_rfl) (by kernel_rfl) (by kernel_rfl) (by kernel_rfl) (by kernel_rfl) (fall_cons (fr_lit (vs := [(0, (.agg #[(iv x172), (iv xL3.Y0), (iv x173), (iv xL3.Y1)]))]) rfl rfl rfl (by kernel_rfl)) fall_nil) (fall_cons rfl fall_nil) (fall_cons rfl fall_nil) ?_ ?_
   ·refine Tq.mv rfl rfl ?_
    refine Tq.v1 rfl (run_fieldAddr fo_98_2) rfl ?_
    refine Tq.va rfl (fun _ _ h1 h2 => run_load1 ag_96 (h1.ev rfl) (rdb h2 (vs := [(iv xL3.Y0), (iv xL3.Y1), (.slice Au153_0 (xL3.Xs).length cu153_0)]) (k := 11) rfl 2) rfl) ?_
    refine Tq.mv rfl rfl ?_
    refine Tq.va rfl (fun _ _ h1 h2 => run_indexAddr el_96 (h1.ev rfl) hoku153_0.form (h1.ev rfl) hx1720 hx1721) ?_
    refine Tq.va rfl (fun _ _ h1 h2 => run_load1 ag_3 (h1.ev rfl) (rdF ef_i64 hoku153_0 hx1722 h2) rfl) ?_
    refine Tq.v1 rfl (run_fieldAddr fo_98_0) rfl ?_
    refine Tq.va rfl (fun _ _ h1 h2 => run_load1 ag_3 (h1.ev rfl) (rdb h2 (vs := [(iv xL3.Y0), (iv xL3.Y1), (.slice Au153_0 (xL3.Xs).length cu153_0)]) (k := 11) rfl 0) rfl) ?_
    refine Tq.v1 rfl (run_fieldAddr fo_98_2) rfl ?_
    refine Tq.va rfl (fun _ _ h1 h2 => run_load1 ag_96 (h1.ev rfl) (rdb h2 (vs := [(iv xL3.Y0), (iv xL3.Y1), (.slice Au153_0 (xL3.Xs).length cu153_0)]) (k := 11) rfl 2) rfl) ?_
    refine Tq.mv rfl rfl ?_
    refine Tq.v2 rfl run_add rfl rfl ?_
    refine Tq.va rfl (fun _ _ h1 h2 => run_indexAddr el_96 (h1.ev rfl) hoku153_0.form (h1.ev rfl) hx1730 hx1731) ?_
    refine Tq.va rfl (fun _ _ h1 h2 => run_load1 ag_3 (h1.ev rfl) (rdF ef_i64 hoku153_0 hx1732 h2) rfl) ?_
    refine Tq.v1 rfl (run_fieldAddr fo_98_1) rfl ?_
    refine Tq.va rfl (fun _ _ h1 h2 => run_load1 ag_3 (h1.ev rfl) (rdb h2 (vs := [(iv xL3.Y0), (iv xL3.Y1), (.slice Au153_0 (xL3.Xs).length cu153_0)]) (k := 11) rfl 1) rfl) ?_
    refine Tq.build (vs := [(0, (iv x172)), (1, (iv xL3.Y0)), (2, (iv x173)), (3, (iv xL3.Y1))]) (cs := [(iv x172), (iv xL3.Y0), (iv x173), (iv xL3.Y1)]) (wn rfl) rfl (evs_cons rfl (evs_cons rfl (evs_cons rfl (evs_cons rfl evs_nil)))) (by kernel_rfl) ?_
    refine Tq.mkFunc (vs := [(.agg #[(iv x172), (iv xL3.Y0), (iv x173), (iv xL3.Y1)])]) (wn rfl) rfl (evl_cons rfl evl_nil) ?_
    exact Tq.fin (.r rfl)
   ·intro bs171
    refine Tr.sel (lf := [(5, (.pointer (some ⟨b154, 0, none⟩))), (6, (iv x170)), (7, (.slice Ap0_0 (p0).length cp0_0)), (8, (iv (p0.length : Int))), (9, (iv (iL3 : Int))), (20, (.slice Al169 (l169).length cl169)), (37, (.slice (some ⟨(bs171 17), 0, none⟩) 1 1))]) (le := [(2, ow Al169 cl169 38 fl_TRect l169), (11, bx b154 #[(iv xL3.Y0), (iv xL3.Y1), (.slice Au153_0 (xL3.Xs).length cu153_0)] 98), (14, bx (bs171 17) #[(iv x172), (iv xL3.Y0), (iv x173), (iv xL3.Y1)] 38)]) (.r rfl) (.r rfl) ?_
    obtain ⟨l174, hl174, H⟩ := bnd H
    refine Tr.append 2 (t := fl_TRect) (l := l169) (l2 := [(TRect.mk x172 xL3.Y0 x173 xL3.Y1)]) (wn rfl) rfl rfl rfl rfl (fun W hW => ⟨[[(iv x172), (iv xL3.Y0), (iv x173), (iv xL3.Y1)]], (.cons ⟨(), trivial, rfl⟩ .nil), rdb hW (vs := [(iv x172), (iv xL3.Y0), (iv x173), (iv xL3.Y1)]) (k := 14) rfl 0⟩) un_22 sz_38 zl_38 (by decide) by_38 rfl hl174 fun Al174 cl174 hAl174 => ?_
    refine Tr.asg rfl rfl ?_
    refine Tr.nil (Tr.normBlock (Tr.normThen ?_))
    refine Tr.region ?_
    refine Tr.mv rfl rfl ?_
    refine Tr.v2 rfl run_add rfl rfl ?_
    refine Tr.asg rfl rfl ?_
    refine Tr.nil ?_
    exact Tr.backThen leL4 (l174, (w64 (x170 + 2)), Al174, cl174) ⟨H, hAl174⟩ (.r rfl) (.r rfl)
  ·refine Tr.exit (Tr.exitThen (Tr.exitThen (Tr.exitBlock (Tr.normBlock (Tr.normThen ?_)))))
   refine Tr.region ?_
   refine Tr.v2 rfl run_add rfl rfl ?_
   refine Tr.mv rfl rfl ?_
   refine Tr.nil ?_
   exact Tr.backThen leL3 (restL3, (iL3 + 1), l169, Al169, cl169) ⟨rfl, range_tl hdL3, range_lt hdL3, H, hl169⟩ (.cons rfl (.cons rfl (.cons rfl (.cons (congrArg (fun z => some (Value.int .i64 z)) (range_up hdL3 hp0_0.form)) .nil)))) (.r rfl)

theorem F_slices_Equal_Rect_ok {w : Bs} (p0 : (List TRect)) (Ap0_0 : Option Addr) (cp0_0 : Nat) (hp0_0 : Sl w.R w.W fl_TRect Ap0_0 cp0_0 p0) (p1 : (List TRect)) (Ap1_0 : Option Addr) (cp1_0 : Nat) (hp1_0 : Sl w.R w.W fl_TRect Ap1_0 cp1_0 p1) (r : Bool) (H : F_slices_Equal_Rect p0 p1 = some r) (hE : HF w w.W E0) : Calls Tryz.prog 11 [(.slice Ap0_0 (p0).length cp0_0), (.slice Ap1_0 (p1).length cp1_0)].toArray w.W fun e W' => e = .returned (.bool r) ∧ HF w W' E0 := by
 unfold F_slices_Equal_Rect at H
 have leB := Bs.Le.refl w
 refine Tr.enter (n := 26) Tryz.func11 rfl rfl rfl hE ?_
 refine Tr.sr ?_
 refine Tr.asg rfl rfl ?_
 refine Tr.nil (Tr.normThen ?_)
 refine Tr.seq ?_
 refine Tr.sr ?_
 refine Tr.mv rfl rfl ?_
 refine Tr.v1 rfl (run_len un_22) rfl ?_
 refine Tr.mv rfl rfl ?_
 refine Tr.v1 rfl (run_len un_22) rfl ?_
 refine Tr.v2 rfl run_neq rfl rfl ?_
 refine Tr.nil (Tr.normThen ?_)
 refine Tr.cond rfl H (fun H => ?_) (fun H => ?_)
 ·refine Tr.sr ?_
  refine Tr.asg rfl rfl ?_
  refine Tr.nil (Tr.normThen ?_)
  refine Tr.ret (Tr.retThen ?_)
  obtain rfl := Option.some.inj H
  exact Tr.out (m := [(.bool false)]) [] (res_tmp rfl res_nil) (fun W hW => ⟨rfl, hW.low leB⟩)
 ·refine Tr.skip (Tr.normThen ?_)
  refine Tr.seq ?_
  refine Tr.sr ?_
  refine Tr.mv rfl rfl ?_
  refine Tr.v1 rfl (run_len un_22) rfl ?_
  refine Tr.mv rfl rfl ?_
  refine Tr.nil (Tr.normThen ?_)
  refine Tr.block ?_
  refine Tr.loop (σ := (List TRect) × Nat) (fun m w s => m = s.1.length + 1 ∧ s.1 = List.drop s.2 p0 ∧ s.2 ≤ p0.length ∧ F_slices_Equal_Rect_L1 p1 s.1 s.2 = some r) (fun s => [(0, (.slice Ap0_0 (p0).length cp0_0)), (1, (.slice Ap1_0 (p1).length cp1_0)), (12, (iv (p0.length : Int))), (13, (iv (s.2 : Int)))]) (fun s => []) (p0.length + 1) (p0, 0) ⟨rfl, rfl, Nat.zero_le _, H⟩ (.r rfl) .nil (fun _ _ h => absurd h.1 (by simp)) ?_
  intro w leL1 m s hs
  obtain ⟨restL1, iL1⟩ := s
  obtain ⟨hmL1, hdL1, hiL1, H⟩ := hs
  replace hdL1 : restL1 = List.drop iL1 p0 := hdL1
  replace H : F_slices_Equal_Rect_L1 p1 restL1 iL1 = some r := H
  replace hmL1 : m + 1 = restL1.length + 1 := hmL1
  replace hp0_0 := hp0_0.leR leL1
  replace hp1_0 := hp1_0.leR leL1
  replace leB := leB.trans leL1
  obtain rfl : m = restL1.length := by omega
  clear hmL1
  show Tr _ _ (LF [(0, (.slice Ap0_0 (p0).length cp0_0)), (1, (.slice Ap1_0 (p1).length cp1_0)), (12, (iv (p0.length : Int))), (13, (iv (iL1 : Int)))]) (LE []) _
  cases restL1 with
  | nil =>
   rw [F_slices_Equal_Rect_L1.eq_1] at H
   refine Tr.sr ?_
   refine Tr.v2 rfl run_lss rfl rfl ?_
   refine Tr.nil (Tr.normThen ?_)
   refine Tr.seq ?_
   refine Tr.condF rfl (range_nil hdL1) ?_
   refine Tr.exit (Tr.exitThen (Tr.exitThen (Tr.exitBlock (Tr.normThen ?_))))
   refine Tr.sr ?_
   refine Tr.asg rfl rfl ?_
   refine Tr.nil (Tr.normThen ?_)
   refine Tr.ret ?_
   obtain rfl := Option.some.inj H
   exact Tr.out (m := [(.bool true)]) [] (res_tmp rfl res_nil) (fun W hW => ⟨rfl, hW.low leB⟩)
  | cons xL1 restL1 =>
   rw [F_slices_Equal_Rect_L1.eq_2] at H
   refine Tr.sr ?_
   refine Tr.v2 rfl run_lss rfl rfl ?_
   refine Tr.nil (Tr.normThen ?_)
   refine Tr.seq ?_
   refine Tr.condT rfl (range_on hdL1) ?_
   refine Tr.skip (Tr.normThen ?_)
   refine Tr.seq ?_
   refine Tr.block ?_
   refine Tr.sr ?_
   refine Tr.mv rfl rfl ?_
   refine Tr.asg rfl rfl ?_
   refine Tr.nil (Tr.normThen ?_)
   refine Tr.seq ?_
   refine Tr.draw (by kernel_rfl) (by kernel_rfl) ?_
   refine Tq.mv rfl rfl ?_
   refine Tq.mv rfl rfl ?_
   refine Tq.va rfl (fun _ _ h1 h2 => run_indexAddr el_22 (h1.ev rfl) hp0_0.form (h1.ev rfl) (Int.natCast_nonneg _) (range_lt hdL1)) ?_
   refine Tq.va rfl (fun _ _ h1 h2 => run_loadN (cs := [(iv xL1.X0), (iv xL1.Y0), (iv xL1.X1), (iv xL1.Y1)]) ag_38 sz_38 (h1.ev rfl) (CellsAt.take (rdF ef_TRect hp0_0 (range_at hdL1) h2) 4) rfl) ?_
   refine Tq.mv rfl rfl ?_
   refine Tq.mv rfl rfl ?_
   obtain ⟨x103, hx103, H⟩ := bnd H
   obtain ⟨hx1030, hx1031, hx1032⟩ := idx_some hx103
   refine Tq.va rfl (fun _ _ h1 h2 => run_indexAddr el_22 (h1.ev rfl) hp1_0.form (h1.ev rfl) hx1030 hx1031) ?_
   refine Tq.va rfl (fun _ _ h1 h2 => run_loadN (cs := [(iv x103.X0), (iv x103.Y0), (iv x103.X1), (iv x103.Y1)]) ag_38 sz_38 (h1.ev rfl) (CellsAt.take (rdF ef_TRect hp1_0 hx1032 h2) 4) rfl) ?_
   refine Tq.v2 rfl (run_neq_38 xL1 x103) rfl rfl ?_
   refine Tq.nil (Tr.normThen ?_)
   refine Tr.cond rfl H (fun H => ?_) (fun H => ?_)
   ·refine Tr.sr ?_
    refine Tr.asg rfl rfl ?_
    refine Tr.nil (Tr.normThen ?_)
    refine Tr.ret (Tr.retBlock (Tr.retThen (Tr.retThen (Tr.retBlock (Tr.retThen ?_)))))
    obtain rfl := Option.some.inj H
    exact Tr.out (m := [(.bool false)]) [] (res_tmp rfl res_nil) (fun W hW => ⟨rfl, hW.low leB⟩)
   ·refine Tr.skip (Tr.normBlock (Tr.normThen ?_))
    refine Tr.region ?_
    refine Tr.v2 rfl run_add rfl rfl ?_
    refine Tr.mv rfl rfl ?_
    refine Tr.nil ?_
    exact Tr.backThen leL1 (restL1, (iL1 + 1)) ⟨rfl, range_tl hdL1, range_lt hdL1, H⟩ (.cons rfl (.cons rfl (.cons rfl (.cons (congrArg (fun z => some (Value.int .i64 z)) (range_up hdL1 hp0_0.form)) .nil)))) .nil

theorem F_shape_CheckRegion_ok (N : Nat) {w : Bs} (p0 : (List TRect)) (Ap0_0 : Option Addr) (cp0_0 : Nat) (hp0_0 : Sl w.R w.W fl_TRect Ap0_0 cp0_0 p0) (r : Int) (H : F_shape_CheckRegion N p0 = some r) (hE : HF w w.W E0) : Calls Tryz.prog 31 [(.slice Ap0_0 (p0).length cp0_0)].toArray w.W fun e W' => e = .returned (iv r) ∧ HF w W' E0 := by
 unfold F_shape_CheckRegion at H
 have leB := Bs.Le.refl w
 refine Tr.enter (n := 52) Tryz.func31 rfl rfl rfl hE ?_
 refine Tr.sr ?_
 refine Tr.asg rfl rfl ?_
 refine Tr.nil (Tr.normThen ?_)
 refine Tr.seq ?_
 refine Tr.sr ?_
 refine Tr.mv rfl rfl ?_
 obtain ⟨y100, hy100, H⟩ := bnd H
 refine Tr.call0 (r := (iv y100)) (wn rfl) rfl Tryz.call58 (evl_cons rfl evl_nil) (fun W hW => F_shape_CheckRects_ok p0 Ap0_0 cp0_0 (hp0_0.ext hW.extAll) y100 hy100 (HF.start _)) ?_
 refine Tr.asg rfl rfl ?_
 refine Tr.nil (Tr.normThen ?_)
 refine Tr.sr ?_
 refine Tr.mv rfl rfl ?_
 refine Tr.v2 rfl run_neq rfl rfl ?_
 refine Tr.nil (Tr.normThen ?_)
 refine Tr.cond rfl H (fun H => ?_) (fun H => ?_)
 ·refine Tr.sr ?_
  refine Tr.mv rfl rfl ?_
  refine Tr.asg rfl rfl ?_
  refine Tr.nil (Tr.normThen ?_)
  refine Tr.ret (Tr.retThen ?_)
  obtain rfl := Option.some.inj H
  exact Tr.out (m := [(iv y100)]) [] (res_tmp rfl res_nil) (fun W hW => ⟨rfl, hW.low leB⟩)
 ·refine Tr.skip (Tr.normThen ?_)
  refine Tr.seq ?_
  refine Tr.sr ?_
  refine Tr.asg rfl rfl ?_
  refine Tr.nil (Tr.normThen ?_)
  refine Tr.block ?_
  refine Tr.loop (σ := Int) (fun m w s => F_shape_CheckRegion_L1 N p0 m s = some r) (fun s => [(0, (.slice Ap0_0 (p0).length cp0_0)), (4, (iv s))]) (fun s => []) N 1 H (.r rfl) .nil (fun _ _ h => noSome (h)) ?_
  intro w leL1 mL1 x116 hs
  have H := hs
  replace H : F_shape_CheckRegion_L1 N p0 (mL1 + 1) x116 = some r := H
  replace hp0_0 := hp0_0.leR leL1
  replace leB := leB.trans leL1
  rw [F_shape_CheckRegion_L1.eq_2] at H
  show Tr _ _ (LF [(0, (.slice Ap0_0 (p0).length cp0_0)), (4, (iv x116))]) (LE []) _
  refine Tr.seq ?_
  refine Tr.sr ?_
  refine Tr.mv rfl rfl ?_
  refine Tr.mv rfl rfl ?_
  refine Tr.v1 rfl (run_len un_22) rfl ?_
  refine Tr.v2 rfl run_lss rfl rfl ?_
  refine Tr.nil (Tr.normThen ?_)
  refine Tr.cond rfl H (fun H => ?_) (fun H => ?_)
  ·refine Tr.skip (Tr.normThen ?_)
   refine Tr.seq ?_
   refine Tr.block ?_
   refine Tr.seq ?_
   refine Tr.drawC 12 [] [11] (by kernel_rfl) (by kernel_rfl) fun sz117 hlosz117 hEsz117 => ?_
   refine Dr.quiet 0 [(18, (.slice Ap0_0 (p0).length cp0_0))] (by kernel_rfl) rfl rfl (by kernel_rfl) ?_ rfl rfl ?_
   ·refine Tq.mv rfl rfl ?_
    exact Tq.fin (.r rfl)
   refine Dr.quiet 1 [(19, (iv x116))] (by kernel_rfl) rfl rfl (by kernel_rfl) ?_ rfl rfl ?_
   ·refine Tq.mv rfl rfl ?_
    exact Tq.fin (.r rfl)
   refine Dr.quiet 2 [(20, (iv (w64 (x116 - 1))))] (by kernel_rfl) rfl rfl (by kernel_rfl) ?_ rfl rfl ?_
   ·refine Tq.v2 rfl run_sub rfl rfl ?_
    exact Tq.fin (.r rfl)
   obtain ⟨x118, hx118, H⟩ := bnd H
   obtain ⟨hx1180, hx1181, hx1182⟩ := idx_some hx118
   refine Dr.quiet 3 [(21, (.pointer (some ⟨adB Ap0_0, adO Ap0_0 + ((w64 (x116 - 1))).toNat * 4, none⟩)))] (by kernel_rfl) rfl rfl (by kernel_rfl) ?_ rfl rfl ?_
   ·refine Tq.va rfl (fun _ _ h1 h2 => run_indexAddr el_22 (h1.ev rfl) hp0_0.form (h1.ev rfl) hx1180 hx1181) ?_
    exact Tq.fin (.r rfl)
   refine Dr.quiet 4 [(22, (.agg #[(iv x118.X0), (iv x118.Y0), (iv x118.X1), (iv x118.Y1)]))] (by kernel_rfl) rfl rfl (by kernel_rfl) ?_ rfl rfl ?_
   ·refine Tq.va rfl (fun _ _ h1 h2 => run_loadN (cs := [(iv x118.X0), (iv x118.Y0), (iv x118.X1), (iv x118.Y1)]) ag_38 sz_38 (h1.ev rfl) (CellsAt.take (rdF ef_TRect hp0_0 hx1182 h2) 4) rfl) ?_
    exact Tq.fin (.r rfl)
   refine Dr.quietP 5 (by kernel_rfl) rfl (wn rfl) rfl (by kernel_rfl) (fun _ _ h1 => run_move (h1.ev rfl)) rfl ?_
   refine Dr.quietP 6 (by kernel_rfl) rfl (wn rfl) rfl (by kernel_rfl) (fun _ _ h1 => run_move (h1.ev rfl)) rfl ?_
   obtain ⟨x119, hx119, H⟩ := bnd H
   obtain ⟨hx1190, hx1191, hx1192⟩ := idx_some hx119
   refine Dr.quietP 7 (by kernel_rfl) rfl (wn rfl) rfl (by kernel_rfl) (fun _ _ h1 => run_indexAddr el_22 (h1.ev rfl) hp0_0.form (h1.ev rfl) hx1190 hx1191) rfl ?_
   refine Dr.quietZ 8 [(26, (.agg #[(iv x119.X0), (iv x119.Y0), (iv x119.X1), (iv x119.Y1)]))] [] true (by kernel_rfl) rfl rfl (by kernel_rfl) (fun W W' h2 hsW hk => HF.keepZ (le := []) (ks := []) (s0 := sz117) true h2 hk (fun _ => hlosz117) .nil (fun b hb => hb.elim (fun ⟨_, hp, _⟩ => nomatch hp) (fun hb => .inr ⟨rfl, hb.2, (fun _ h => nomatch h)⟩)) (fun _ h => nomatch h) rfl) ?_ rfl rfl ?_
   ·refine Tq.va rfl (fun _ _ h1 h2 => run_loadN (cs := [(iv x119.X0), (iv x119.Y0), (iv x119.X1), (iv x119.Y1)]) ag_38 sz_38 (h1.ev rfl) (CellsAt.take (rdF ef_TRect hp0_0 hx1192 h2) 4) rfl) ?_
    exact Tq.fin (.r rfl)
   refine Dr.cut (U := Nat × Nat) [9, 10] 1 (fun u => sz117 ≤ u.1 ∧ sz117 ≤ u.2) (fun u => [(0, (.slice Ap0_0 (p0).length cp0_0)), (4, (iv x116)), (5, (.pointer (some ⟨u.1, 0, none⟩))), (6, (.pointer (some ⟨u.2, 0, none⟩))), (12, (iv x116)), (13, (.slice Ap0_0 (p0).length cp0_0)), (14, (iv (p0.length : Int))), (15, (.bool (decide (x116 < (p0.length : Int))))), (18, (.slice Ap0_0 (p0).length cp0_0)), (19, (iv x116)), (20, (iv (w64 (x116 - 1)))), (21, (.pointer (some ⟨adB Ap0_0, adO Ap0_0 + ((w64 (x116 - 1))).toNat * 4, none⟩))), (22, (.agg #[(iv x118.X0), (iv x118.Y0), (iv x118.X1), (iv x118.Y1)])), (23, (.slice Ap0_0 (p0).length cp0_0)), (24, (iv x116)), (25, (.pointer (some ⟨adB Ap0_0, adO Ap0_0 + (x116).toNat * 4, none⟩))), (26, (.agg #[(iv x119.X0), (iv x119.Y0), (iv x119.X1), (iv x119.Y1)]))]) (fun u => [(5, bx u.1 #[(iv 0), (iv 0), (iv 0), (iv 0)] 38), (6, bx u.2 #[(iv 0), (iv 0), (iv 0), (iv 0)] 38)]) ?_ ?_
   ·intro hC
    refine Dr.pair 9 10 (by kernel_rfl) ?_ ?_
    ·refine St.alloc 9 5 rfl (wn rfl) rfl ze_38 fun b120 hb120 => ?_
     refine Dr.one 10 (by kernel_rfl) ?_
     refine St.alloc 10 6 rfl (wn rfl) rfl ze_38 fun b121 hb121 => ?_
     exact (hC ⟨b120, b121⟩ ⟨hb120, hb121⟩).use (by kernel_rfl) (.r rfl) (.r rfl)
    ·refine St.alloc 10 6 rfl (wn rfl) rfl ze_38 fun b121 hb121 => ?_
     refine Dr.one 9 (by kernel_rfl) ?_
     refine St.alloc 9 5 rfl (wn rfl) rfl ze_38 fun b120 hb120 => ?_
     exact (hC ⟨b120, b121⟩ ⟨hb120, hb121⟩).use (by kernel_rfl) (.r rfl) (.r rfl)
   intro u hu
   obtain ⟨b120, b121⟩ := u
   obtain ⟨hb120, hb121⟩ := hu
   replace hb120 : sz117 ≤ b120 := hb120
   replace hb121 : sz117 ≤ b121 := hb121
   show Dr _ _ _ _ _ _ _ _ _ (LF [(0, (.slice Ap0_0 (p0).length cp0_0)), (4, (iv x116)), (5, (.pointer (some ⟨b120, 0, none⟩))), (6, (.pointer (some ⟨b121, 0, none⟩))), (12, (iv x116)), (13, (.slice Ap0_0 (p0).length cp0_0)), (14, (iv (p0.length : Int))), (15, (.bool (decide (x116 < (p0.length : Int))))), (18, (.slice Ap0_0 (p0).length cp0_0)), (19, (iv x116)), (20, (iv (w64 (x116 - 1)))), (21, (.pointer (some ⟨adB Ap0_0, adO Ap0_0 + ((w64 (x116 - 1))).toNat * 4, none⟩))), (22, (.agg #[(iv x118.X0), (iv x118.Y0), (iv x118.X1), (iv x118.Y1)])), (23, (.slice Ap0_0 (p0).length cp0_0)), (24, (iv x116)), (25, (.pointer (some ⟨adB Ap0_0, adO Ap0_0 + (x116).toNat * 4, none⟩))), (26, (.agg #[(iv x119.X0), (iv x119.Y0), (iv x119.X1), (iv x119.Y1)]))]) (LE [(5, bx b120 #[(iv 0), (iv 0), (iv 0), (iv 0)] 38), (6, bx b121 #[(iv 0), (iv 0), (iv 0), (iv 0)] 38)])
   refine Dr.one 11 (by kernel_rfl) ?_
   refine St.store 11 5 (cs := [(iv x118.X0), (iv x118.Y0), (iv x118.X1), (iv x118.Y1)]) [(iv x118.X0), (iv x118.Y0), (iv x118.X1), (iv x118.Y1)] rfl (wn rfl) (.inr ⟨by simp, hb120⟩) rfl rfl rfl rfl sz_38 rfl rfl rfl ?_
   refine Dr.tail (by kernel_rfl) ?_
   refine Tr.store 6 (cs := [(iv x119.X0), (iv x119.Y0), (iv x119.X1), (iv x119.Y1)]) [(iv x119.X0), (iv x119.Y0), (iv x119.X1), (iv x119.Y1)] (wn rfl) rfl rfl rfl rfl sz_38 rfl rfl rfl ?_
   refine Tr.nil (Tr.normThen ?_)
   refine Tr.sr ?_
   refine Tr.v1 rfl (run_fieldAddr fo_38_1) rfl ?_
   refine Tr.va rfl (fun _ _ h1 h2 => run_load1 ag_3 (h1.ev rfl) (rdb h2 (vs := [(iv x119.X0), (iv x119.Y0), (iv x119.X1), (iv x119.Y1)]) (k := 6) rfl 1) rfl) ?_
   refine Tr.v1 rfl (run_fieldAddr fo_38_1) rfl ?_
   refine Tr.va rfl (fun _ _ h1 h2 => run_load1 ag_3 (h1.ev rfl) (rdb h2 (vs := [(iv x118.X0), (iv x118.Y0), (iv x118.X1), (iv x118.Y1)]) (k := 5) rfl 1) rfl) ?_
   refine Tr.v2 rfl run_lss rfl rfl ?_
   refine Tr.mv rfl rfl ?_
   refine Tr.mid0 13 [(0, (.slice Ap0_0 (p0).length cp0_0)), (4, (iv x116)), (45, (.bool ((decide (x119.Y0 < x118.Y0)) || ((x119.Y0 == x118.Y0) && (decide (x119.X0 ≤ x118.X0))))))] [(5, bx b120 #[(iv x118.X0), (iv x118.Y0), (iv x118.X1), (iv x118.Y1)] 38), (6, bx b121 #[(iv x119.X0), (iv x119.Y0), (iv x119.X1), (iv x119.Y1)] 38)] ?_ ?_
   ·cases hg121 : (decide (x119.Y0 < x118.Y0))
    ·refine Tr.w1 (wg rfl rfl rfl) rfl (run_fieldAddr fo_38_1) rfl ?_
     refine Tr.val (wg rfl rfl rfl) rfl (fun _ _ h1 h2 => run_load1 ag_3 (h1.ev rfl) (rdb h2 (vs := [(iv x119.X0), (iv x119.Y0), (iv x119.X1), (iv x119.Y1)]) (k := 6) rfl 1) rfl) ?_
     refine Tr.w1 (wg rfl rfl rfl) rfl (run_fieldAddr fo_38_1) rfl ?_
     refine Tr.val (wg rfl rfl rfl) rfl (fun _ _ h1 h2 => run_load1 ag_3 (h1.ev rfl) (rdb h2 (vs := [(iv x118.X0), (iv x118.Y0), (iv x118.X1), (iv x118.Y1)]) (k := 5) rfl 1) rfl) ?_
     refine Tr.w2 (wg rfl rfl rfl) rfl run_eql rfl rfl ?_
     refine Tr.w1 (wg rfl rfl rfl) rfl run_move rfl ?_
     refine Tr.mid0 6 [(0, (.slice Ap0_0 (p0).length cp0_0)), (4, (iv x116)), (32, (.bool false)), (44, (.bool ((x119.Y0 == x118.Y0) && (decide (x119.X0 ≤ x118.X0)))))] [(5, bx b120 #[(iv x118.X0), (iv x118.Y0), (iv x118.X1), (iv x118.Y1)] 38), (6, bx b121 #[(iv x119.X0), (iv x119.Y0), (iv x119.X1), (iv x119.Y1)] 38)] ?_ ?_
     ·cases hg121 : (x119.Y0 == x118.Y0)
      ·refine Tr.ps ?_
       refine Tr.ps ?_
       refine Tr.ps ?_
       refine Tr.ps ?_
       refine Tr.ps ?_
       refine Tr.w2 (wg rfl rfl rfl) rfl run_pickF rfl rfl ?_
       exact Tr.nil (Tr.fin0 (.r rfl) (.r rfl))
      ·refine Tr.w1 (wg rfl rfl rfl) rfl (run_fieldAddr fo_38_0) rfl ?_
       refine Tr.val (wg rfl rfl rfl) rfl (fun _ _ h1 h2 => run_load1 ag_3 (h1.ev rfl) (rdb h2 (vs := [(iv x119.X0), (iv x119.Y0), (iv x119.X1), (iv x119.Y1)]) (k := 6) rfl 0) rfl) ?_
       refine Tr.w1 (wg rfl rfl rfl) rfl (run_fieldAddr fo_38_0) rfl ?_
       refine Tr.val (wg rfl rfl rfl) rfl (fun _ _ h1 h2 => run_load1 ag_3 (h1.ev rfl) (rdb h2 (vs := [(iv x118.X0), (iv x118.Y0), (iv x118.X1), (iv x118.Y1)]) (k := 5) rfl 0) rfl) ?_
       refine Tr.w2 (wg rfl rfl rfl) rfl run_leq rfl rfl ?_
       refine Tr.w2 (wg rfl rfl rfl) rfl run_pickT rfl rfl ?_
       exact Tr.nil (Tr.fin0 (.r rfl) (.r rfl))
     ·show Tr _ _ (LF [(0, (.slice Ap0_0 (p0).length cp0_0)), (4, (iv x116)), (32, (.bool false)), (44, (.bool ((x119.Y0 == x118.Y0) && (decide (x119.X0 ≤ x118.X0)))))]) (LE [(5, bx b120 #[(iv x118.X0), (iv x118.Y0), (iv x118.X1), (iv x118.Y1)] 38), (6, bx b121 #[(iv x119.X0), (iv x119.Y0), (iv x119.X1), (iv x119.Y1)] 38)]) _
      refine Tr.v2 rfl run_pickF rfl rfl ?_
      exact Tr.nil (Tr.fin0 (.r rfl) (.r rfl))
    ·refine Tr.ps ?_
     refine Tr.ps ?_
     refine Tr.ps ?_
     refine Tr.ps ?_
     refine Tr.ps ?_
     refine Tr.ps ?_
     refine Tr.pu ?_
     refine Tr.pu ?_
     refine Tr.pu ?_
     refine Tr.pu ?_
     refine Tr.pu ?_
     refine Tr.ps ?_
     refine Tr.v2 rfl run_pickT rfl rfl ?_
     exact Tr.nil (Tr.fin0 (.r rfl) (.r rfl))
   ·show Tr _ _ (LF [(0, (.slice Ap0_0 (p0).length cp0_0)), (4, (iv x116)), (45, (.bool ((decide (x119.Y0 < x118.Y0)) || ((x119.Y0 == x118.Y0) && (decide (x119.X0 ≤ x118.X0))))))]) (LE [(5, bx b120 #[(iv x118.X0), (iv x118.Y0), (iv x118.X1), (iv x118.Y1)] 38), (6, bx b121 #[(iv x119.X0), (iv x119.Y0), (iv x119.X1), (iv x119.Y1)] 38)]) _
    refine Tr.nil (Tr.normThen ?_)
    refine Tr.cond rfl H (fun H => ?_) (fun H => ?_)
    ·refine Tr.sr ?_
     refine Tr.asg rfl rfl ?_
     refine Tr.nil (Tr.normThen ?_)
     refine Tr.ret (Tr.retBlock (Tr.retThen (Tr.retThen (Tr.retBlock (Tr.retThen ?_)))))
     obtain rfl := Option.some.inj H
     exact Tr.out (m := [(iv 8)]) [] (res_tmp rfl res_nil) (fun W hW => ⟨rfl, hW.low leB⟩)
    ·refine Tr.skip (Tr.normBlock (Tr.normThen ?_))
     refine Tr.region ?_
     refine Tr.mv rfl rfl ?_
     refine Tr.v2 rfl run_add rfl rfl ?_
     refine Tr.asg rfl rfl ?_
     refine Tr.nil ?_
     exact Tr.backThen leL1 (w64 (x116 + 1)) H (.r rfl) .nil
  ·refine Tr.exit (Tr.exitThen (Tr.exitThen (Tr.exitBlock (Tr.normThen ?_))))
   refine Tr.seq ?_
   refine Tr.sr ?_
   refine Tr.mv rfl rfl ?_
   obtain ⟨y123, hy123, H⟩ := bnd H
   refine Tr.callG [7] [emp] (U := (Option Addr × Nat)) (fun u => (.slice u.1 (y123).length u.2)) (fun O W u => SlF u.1 (y123).length u.2) (fun u => [ow u.1 u.2 98 fl_TBand y123]) rfl (pk_cons rfl pk_nil) (fun _ => rfl) (wn rfl) rfl Tryz.call32 (evl_cons rfl evl_nil) (fun W hW hp hE => F_shape_SetOf_ok N p0 Ap0_0 cp0_0 (hp0_0.ext (hW.extS hp)) y123 hy123 hE) ?_
   intro w u le124 hu
   obtain ⟨Ay123_0, cy123_0⟩ := u
   have gy123_0 := hu
   replace hp0_0 := hp0_0.leR le124
   replace leB := leB.trans le124
   replace leL1 := leL1.trans le124
   have hgy123_0 : SlF Ay123_0 (y123).length cy123_0 := gy123_0 --@phi
   show Tr _ _ (uf _ 47 (.slice Ay123_0 (y123).length cy123_0)) (up _ 7 (ow Ay123_0 cy123_0 98 fl_TBand y123)) _
   obtain ⟨y125, hy125, H⟩ := bnd H
   refine Tr.callM [8] [emp] (U := (Option Addr × Nat)) (fun u => (.slice u.1 (y125).length u.2)) (fun u => SlF u.1 (y125).length u.2) (fun u => [ow u.1 u.2 38 fl_TRect y125]) rfl (pk_cons rfl pk_nil) (fun _ => rfl) (wn rfl) rfl Tryz.call25 (evl_cons rfl evl_nil) (fun W hW hp hE => F_shape_Set__Rects_ok N y123 Ay123_0 cy123_0 (hW.slS (k := 7) rfl hp rfl) y125 hy125 hE) ?_
   intro u hu
   obtain ⟨Ay125_0, cy125_0⟩ := u
   have gy125_0 := hu
   have hgy125_0 : SlF Ay125_0 (y125).length cy125_0 := gy125_0 --@phi
   show Tr _ _ (uf _ 48 (.slice Ay125_0 (y125).length cy125_0)) (up _ 8 (ow Ay125_0 cy125_0 38 fl_TRect y125)) _
   refine Tr.mv rfl rfl ?_
   obtain ⟨y127, hy127, H⟩ := bnd H
   refine Tr.call0 (r := (.bool y127)) (wn rfl) rfl Tryz.call11 (evl_cons rfl (evl_cons rfl evl_nil)) (fun W hW => F_slices_Equal_Rect_ok y125 Ay125_0 cy125_0 (hW.slCall (k := 8) rfl) p0 Ap0_0 cp0_0 (hp0_0.ext hW.extAll) y127 hy127 (HF.start _)) ?_
   refine Tr.v1 rfl run_not rfl ?_
   refine Tr.nil (Tr.normThen ?_)
   refine Tr.cond rfl H (fun H => ?_) (fun H => ?_)
   ·refine Tr.sr ?_
    refine Tr.asg rfl rfl ?_
    refine Tr.nil (Tr.normThen ?_)
    refine Tr.ret (Tr.retThen ?_)
    obtain rfl := Option.some.inj H
    exact Tr.out (m := [(iv 3)]) [] (res_tmp rfl res_nil) (fun W hW => ⟨rfl, hW.low leB⟩)
   ·refine Tr.skip (Tr.normThen ?_)
    refine Tr.sr ?_
    refine Tr.asg rfl rfl ?_
    refine Tr.nil (Tr.normThen ?_)
    refine Tr.ret ?_
    obtain rfl := Option.some.inj H
    exact Tr.out (m := [(iv 0)]) [] (res_tmp rfl res_nil) (fun W hW => ⟨rfl, hW.low leB⟩)

theorem F_shape_Set__sides_1_ok {w : Bs} (p0 : Int) (p1 : Int) (p2 : Int) (p3 : Int) (q0 : (List TSide)) (Aq0_0 : Option Addr) (cq0_0 : Nat) (bq0 : Nat) (r : (List TSide)) (H : F_shape_Set__sides_1 p0 p1 p2 p3 q0 = some r) (hE : HF w w.W (LEn [bx bq0 #[(.slice Aq0_0 (q0).length cq0_0)] 121, ow Aq0_0 cq0_0 125 fl_TSide q0])) : Calls Tryz.prog 111 [(iv p0), (iv p1), (iv p2), (iv p3), (.pointer (some ⟨bq0, 0, none⟩))].toArray w.W fun e W' => ∃ u : (Option Addr × Nat), e = .returned (.tuple #[]) ∧ (SlF u.1 (r).length u.2) ∧ HF w W' (LEn [bx bq0 #[(.slice u.1 (r).length u.2)] 121, ow u.1 u.2 125 fl_TSide r]) := by
 unfold F_shape_Set__sides_1 at H
 have hfhq0_0 := (hE.sl (k := 1) rfl).form
 have leB := Bs.Le.refl w
 refine Tr.enter (n := 19) Tryz.func111 rfl rfl rfl hE ?_
 refine Tr.region ?_
 refine Tr.va rfl (fun _ _ h1 h2 => run_load1 ag_121 (h1.ev rfl) (rdb h2 (vs := [(.slice Aq0_0 (q0).length cq0_0)]) (k := 0) rfl 0) rfl) ?_
 refine Tr.mv rfl rfl ?_
 refine Tr.mv rfl rfl ?_
 refine Tr.build (vs := [(0, (iv p0)), (1, (iv p1))]) (cs := [(iv p0), (iv p1)]) (wn rfl) rfl (evs_cons rfl (evs_cons rfl evs_nil)) (by kernel_rfl) ?_
 refine Tr.mv rfl rfl ?_
 refine Tr.mv rfl rfl ?_
 refine Tr.build (vs := [(0, (iv p2)), (1, (iv p3))]) (cs := [(iv p2), (iv p3)]) (wn rfl) rfl (evs_cons rfl (evs_cons rfl evs_nil)) (by kernel_rfl) ?_
 refine Tr.build (vs := [(0, (.agg #[(iv p0), (iv p1)])), (1, (.agg #[(iv p2), (iv p3)]))]) (cs := [(iv p0), (iv p1), (iv p2), (iv p3)]) (wn rfl) rfl (evs_cons rfl (evs_cons rfl evs_nil)) (by kernel_rfl) ?_
 refine Tr.buildSlice 2 (e := 125) (vs := [(0, (.agg #[(iv p0), (iv p1), (iv p2), (iv p3)]))]) (cs := [(iv p0), (iv p1), (iv p2), (iv p3)]) (wn rfl) rfl (evs_cons rfl evs_nil) (by kernel_rfl) fun b100 => ?_
 obtain ⟨l101, hl101, H⟩ := bnd H
 refine Tr.append 1 (t := fl_TSide) (l := q0) (l2 := [(TSide.mk (TPoint.mk p0 p1) (TPoint.mk p2 p3))]) (wn rfl) rfl rfl rfl rfl (fun W hW => ⟨[[(iv p0), (iv p1), (iv p2), (iv p3)]], (.cons ⟨(), trivial, rfl⟩ .nil), rdb hW (vs := [(iv p0), (iv p1), (iv p2), (iv p3)]) (k := 2) rfl 0⟩) un_121 sz_125 zl_125 (by decide) by_125 rfl hl101 fun Al101 cl101 hAl101 => ?_
 refine Tr.store 0 (cs := [(.slice Al101 (l101).length cl101)]) [(.slice Al101 (l101).length cl101)] (wn rfl) rfl rfl rfl rfl sz_121 rfl rfl rfl ?_
 refine Tr.nil (Tr.offEnd ?_)
 obtain rfl := Option.some.inj H
 exact Tr.out (m := []) [] res_nil (fun W hW => ⟨(Al101, cl101), rfl, hAl101, HF.lowE leB (hW.pick (ks := [0, 1]) (by decide) (pk_cons rfl (pk_cons rfl pk_nil))) ⟨bx_any _ _ _, ow_any _ _ _ _ tr_TSide, trivial⟩⟩)

theorem F_shape_line_ok (N : Nat) {w : Bs} (p0 : (List Int)) (Ap0_0 : Option Addr) (cp0_0 : Nat) (hp0_0 : Sl w.R w.W fl_i64 Ap0_0 cp0_0 p0) (p1 : (List Int)) (Ap1_0 : Option Addr) (cp1_0 : Nat) (hp1_0 : Sl w.R w.W fl_i64 Ap1_0 cp1_0 p1) (p2 : Bool → Bool → Option Bool) (fid2 : Nat) (cap2 : List Value) (hg2 : ∀ args W, (callFunc fid2 args).run Tryz.prog W = .ok (.enter fid2 args) W) (hf2 : ∀ (w' : Bs), w.Ext w' → ∀ (z0 : Bool) (z1 : Bool), ∀ y, p2 z0 z1 = some y → Calls Tryz.prog fid2 (([(.bool z0), (.bool z1)] : List Value) ++ cap2).toArray w'.W fun e W'' => e = .returned (.bool y) ∧ HF w' W'' E0) (r : (List Int)) (H : F_shape_line N p0 p1 p2 = some r) (hE : HF w w.W (LEn [emp])) : Calls Tryz.prog 113 [(.slice Ap0_0 (p0).length cp0_0), (.slice Ap1_0 (p1).length cp1_0), (.func (.func fid2) #[] cap2.toArray)].toArray w.W fun e W' => ∃ u : (Option Addr × Nat), e = .returned (.slice u.1 (r).length u.2) ∧ (SlF u.1 (r).length u.2) ∧ HF w W' (LEn [ow u.1 u.2 3 fl_i64 r]) := by
 unfold F_shape_line at H
 have leB := Bs.Le.refl w
 refine Tr.enter (n := 85) Tryz.func113 rfl rfl rfl hE ?_
 refine Tr.sr ?_
 refine Tr.asg rfl rfl ?_
 refine Tr.nilOwn 1 3 fl_i64 ?_
 show Tr _ _ (uf _ 6 (.slice none (([] : List Int)).length 0)) _ _
 refine Tr.nil (Tr.normThen ?_)
 refine Tr.sr ?_
 refine Tr.asg rfl rfl ?_
 refine Tr.nilOwn 2 3 fl_i64 ?_
 show Tr _ _ (uf _ 7 (.slice none (([] : List Int)).length 0)) _ _
 refine Tr.nil (Tr.normThen ?_)
 refine Tr.sr ?_
 refine Tr.asg rfl rfl ?_
 refine Tr.asg rfl rfl ?_
 refine Tr.asg rfl rfl ?_
 refine Tr.nil (Tr.normThen ?_)
 refine Tr.seq ?_
 refine Tr.block ?_
 refine Tr.loop (σ := (List Int) × (List Int) × (List Int) × Bool × Bool × Bool × (Option Addr) × Nat × (Option Addr) × Nat × (Option Addr) × Nat) (fun m w s => F_shape_line_L7 p2 m s.1 s.2.1 s.2.2.1 s.2.2.2.1 s.2.2.2.2.1 s.2.2.2.2.2.1 = some r ∧ Sl w.R w.W fl_i64 s.2.2.2.2.2.2.1 s.2.2.2.2.2.2.2.1 s.1 ∧ Sl w.R w.W fl_i64 s.2.2.2.2.2.2.2.2.1 s.2.2.2.2.2.2.2.2.2.1 s.2.1 ∧ SlF s.2.2.2.2.2.2.2.2.2.2.1 (s.2.2.1).length s.2.2.2.2.2.2.2.2.2.2.2) (fun s => [(0, (.slice s.2.2.2.2.2.2.1 (s.1).length s.2.2.2.2.2.2.2.1)), (1, (.slice s.2.2.2.2.2.2.2.2.1 (s.2.1).length s.2.2.2.2.2.2.2.2.2.1)), (2, (.func (.func fid2) #[] cap2.toArray)), (7, (.slice s.2.2.2.2.2.2.2.2.2.2.1 (s.2.2.1).length s.2.2.2.2.2.2.2.2.2.2.2)), (8, (.bool s.2.2.2.1)), (9, (.bool s.2.2.2.2.1)), (10, (.bool s.2.2.2.2.2.1))]) (fun s => [(2, ow s.2.2.2.2.2.2.2.2.2.2.1 s.2.2.2.2.2.2.2.2.2.2.2 3 fl_i64 s.2.2.1)]) N (p0, p1, ([] : List Int), false, false, false, Ap0_0, cp0_0, Ap1_0, cp1_0, none, 0) ⟨H, hp0_0, hp1_0, slf_nil⟩ (.r rfl) (.r rfl) (fun _ _ h => noSome (h.1)) ?_
 intro w leL7 mL7 s hs
 obtain ⟨l230, l231, l232, x233, x234, x235, Al230, cl230, Al231, cl231, Al232, cl232⟩ := s
 obtain ⟨H, hl230, hl231, hl232⟩ := hs
 replace H : F_shape_line_L7 p2 (mL7 + 1) l230 l231 l232 x233 x234 x235 = some r := H
 replace hf2 := fun w' he => hf2 w' (leL7.ext.trans he)
 replace leB := leB.trans leL7
 replace hl230 : Sl w.R w.W fl_i64 Al230 cl230 l230 := hl230
 replace hl231 : Sl w.R w.W fl_i64 Al231 cl231 l231 := hl231
 replace hl232 : SlF Al232 (l232).length cl232 := hl232
 rw [F_shape_line_L7.eq_2] at H
 show Tr _ _ (LF [(0, (.slice Al230 (l230).length cl230)), (1, (.slice Al231 (l231).length cl231)), (2, (.func (.func fid2) #[] cap2.toArray)), (7, (.slice Al232 (l232).length cl232)), (8, (.bool x233)), (9, (.bool x234)), (10, (.bool x235))]) (LE [(2, ow Al232 cl232 3 fl_i64 l232)]) _
 refine Tr.seq ?_
 refine Tr.sr ?_
 refine Tr.mv rfl rfl ?_
 refine Tr.v1 rfl (run_len un_96) rfl ?_
 refine Tr.v2 rfl run_gtr rfl rfl ?_
 refine Tr.mv rfl rfl ?_
 refine Tr.mid0 4 [(0, (.slice Al230 (l230).length cl230)), (1, (.slice Al231 (l231).length cl231)), (2, (.func (.func fid2) #[] cap2.toArray)), (7, (.slice Al232 (l232).length cl232)), (8, (.bool x233)), (9, (.bool x234)), (10, (.bool x235)), (20, (.bool ((decide (0 < (l230.length : Int))) || (decide (0 < (l231.length : Int))))))] [(2, ow Al232 cl232 3 fl_i64 l232)] ?_ ?_
 ·cases hg291 : (decide (0 < (l230.length : Int)))
  ·refine Tr.w1 (wg rfl rfl rfl) rfl run_move rfl ?_
   refine Tr.w1 (wg rfl rfl rfl) rfl (run_len un_96) rfl ?_
   refine Tr.w2 (wg rfl rfl rfl) rfl run_gtr rfl rfl ?_
   refine Tr.v2 rfl run_pickF rfl rfl ?_
   exact Tr.nil (Tr.fin0 (.r rfl) (.r rfl))
  ·refine Tr.ps ?_
   refine Tr.ps ?_
   refine Tr.ps ?_
   refine Tr.v2 rfl run_pickT rfl rfl ?_
   exact Tr.nil (Tr.fin0 (.r rfl) (.r rfl))
 ·show Tr _ _ (LF [(0, (.slice Al230 (l230).length cl230)), (1, (.slice Al231 (l231).length cl231)), (2, (.func (.func fid2) #[] cap2.toArray)), (7, (.slice Al232 (l232).length cl232)), (8, (.bool x233)), (9, (.bool x234)), (10, (.bool x235)), (20, (.bool ((decide (0 < (l230.length : Int))) || (decide (0 < (l231.length : Int))))))]) (LE [(2, ow Al232 cl232 3 fl_i64 l232)]) _
  refine Tr.nil (Tr.normThen ?_)
  refine Tr.cond rfl H (fun H => ?_) (fun H => ?_)
  ·refine Tr.skip (Tr.normThen ?_)
   refine Tr.block ?_
   refine Tr.sr ?_
   refine Tr.asg rfl rfl ?_
   refine Tr.nil (Tr.normThen ?_)
   have leJ250 := Bs.Le.refl w
   refine Tr.cutJ (σ := Int) (fun w s => F_shape_line_J10 p2 l230 l231 l232 x233 x234 x235 (F_shape_line_L7 p2 mL7) s = some r) (fun s => [(0, (.slice Al230 (l230).length cl230)), (1, (.slice Al231 (l231).length cl231)), (2, (.func (.func fid2) #[] cap2.toArray)), (7, (.slice Al232 (l232).length cl232)), (8, (.bool x233)), (9, (.bool x234)), (10, (.bool x235)), (11, (iv s))]) (fun s => [(2, ow Al232 cl232 3 fl_i64 l232)]) ?_ ?_
   ·refine Tr.seq ?_
    refine Tr.draw (by kernel_rfl) (by kernel_rfl) ?_
    refine Tq.mv rfl rfl ?_
    refine Tq.v1 rfl (run_len un_96) rfl ?_
    refine Tq.v2 rfl run_eql rfl rfl ?_
    refine Tq.mv rfl rfl ?_
    obtain ⟨g284, hg284, H⟩ := bnd H
    refine Tq.mid 13 [(0, (.slice Al230 (l230).length cl230)), (1, (.slice Al231 (l231).length cl231)), (2, (.func (.func fid2) #[] cap2.toArray)), (7, (.slice Al232 (l232).length cl232)), (8, (.bool x233)), (9, (.bool x234)), (10, (.bool x235)), (37, (.bool g284))] ?_ ?_
    ·cases hg291 : ((l231.length : Int) == 0)
     ·rw [hg291] at hg284
      rw [if_neg (by decide)] at hg284
      have H := hg284
      refine Tq.w1 (wg rfl rfl rfl) rfl run_move rfl ?_
      refine Tq.w1 (wg rfl rfl rfl) rfl (run_len un_96) rfl ?_
      refine Tq.w2 (wg rfl rfl rfl) rfl run_gtr rfl rfl ?_
      refine Tq.w1 (wg rfl rfl rfl) rfl run_move rfl ?_
      obtain ⟨g287, hg287, H⟩ := bnd H
      refine Tq.mid 8 [(0, (.slice Al230 (l230).length cl230)), (1, (.slice Al231 (l231).length cl231)), (2, (.func (.func fid2) #[] cap2.toArray)), (7, (.slice Al232 (l232).length cl232)), (8, (.bool x233)), (9, (.bool x234)), (10, (.bool x235)), (24, (.bool false)), (36, (.bool g287))] ?_ ?_
      ·cases hg289 : (decide (0 < (l230.length : Int)))
       ·rw [hg289] at hg287
        rw [if_neg (by decide)] at hg287
        have H := hg287
        obtain rfl := Option.some.inj H
        refine Tq.ps ?_
        refine Tq.ps ?_
        refine Tq.ps ?_
        refine Tq.ps ?_
        refine Tq.ps ?_
        refine Tq.ps ?_
        refine Tq.ps ?_
        refine Tq.w2 (wg rfl rfl rfl) rfl run_pickF rfl rfl ?_
        exact Tq.fin (.r rfl)
       ·rw [hg289] at hg287
        rw [if_pos rfl] at hg287
        have H := hg287
        refine Tq.w1 (wg rfl rfl rfl) rfl run_move rfl ?_
        obtain ⟨x288, hx288, H⟩ := bnd H
        obtain ⟨hx2880, hx2881, hx2882⟩ := idx_some hx288
        refine Tq.val (wg rfl rfl rfl) rfl (fun _ _ h1 h2 => run_indexAddr el_96 (h1.ev rfl) hl230.form (h1.ev rfl) hx2880 hx2881) ?_
        refine Tq.val (wg rfl rfl rfl) rfl (fun _ _ h1 h2 => run_load1 ag_3 (h1.ev rfl) (rdF ef_i64 hl230 hx2882 h2) rfl) ?_
        refine Tq.w1 (wg rfl rfl rfl) rfl run_move rfl ?_
        obtain ⟨x289, hx289, H⟩ := bnd H
        obtain ⟨hx2890, hx2891, hx2892⟩ := idx_some hx289
        refine Tq.val (wg rfl rfl rfl) rfl (fun _ _ h1 h2 => run_indexAddr el_96 (h1.ev rfl) hl231.form (h1.ev rfl) hx2890 hx2891) ?_
        refine Tq.val (wg rfl rfl rfl) rfl (fun _ _ h1 h2 => run_load1 ag_3 (h1.ev rfl) (rdF ef_i64 hl231 hx2892 h2) rfl) ?_
        refine Tq.w2 (wg rfl rfl rfl) rfl run_leq rfl rfl ?_
        refine Tq.w2 (wg rfl rfl rfl) rfl run_pickT rfl rfl ?_
        obtain rfl := Option.some.inj H
        exact Tq.fin (.r rfl)
      ·refine Tq.v2 rfl run_pickF rfl rfl ?_
       obtain rfl := Option.some.inj H
       exact Tq.fin (.r rfl)
     ·rw [hg291] at hg284
      rw [if_pos rfl] at hg284
      have H := hg284
      obtain rfl := Option.some.inj H
      refine Tq.ps ?_
      refine Tq.ps ?_
      refine Tq.ps ?_
      refine Tq.ps ?_
      refine Tq.pu ?_
      refine Tq.pu ?_
      refine Tq.pu ?_
      refine Tq.pu ?_
      refine Tq.pu ?_
      refine Tq.pu ?_
      refine Tq.pu ?_
      refine Tq.ps ?_
      refine Tq.v2 rfl run_pickT rfl rfl ?_
      exact Tq.fin (.r rfl)
    ·refine Tq.nil (Tr.normThen ?_)
     refine Tr.cond rfl H (fun H => ?_) (fun H => ?_)
     ·refine Tr.region ?_
      refine Tr.mv rfl rfl ?_
      obtain ⟨x290, hx290, H⟩ := bnd H
      obtain ⟨hx2900, hx2901, hx2902⟩ := idx_some hx290
      refine Tr.va rfl (fun _ _ h1 h2 => run_indexAddr el_96 (h1.ev rfl) hl230.form (h1.ev rfl) hx2900 hx2901) ?_
      refine Tr.va rfl (fun _ _ h1 h2 => run_load1 ag_3 (h1.ev rfl) (rdF ef_i64 hl230 hx2902 h2) rfl) ?_
      refine Tr.asg rfl rfl ?_
      refine Tr.nil ?_
      exact Tr.backThen leJ250 x290 H (.r rfl) (.r rfl)
     ·refine Tr.region ?_
      refine Tr.mv rfl rfl ?_
      obtain ⟨x291, hx291, H⟩ := bnd H
      obtain ⟨hx2910, hx2911, hx2912⟩ := idx_some hx291
      refine Tr.va rfl (fun _ _ h1 h2 => run_indexAddr el_96 (h1.ev rfl) hl231.form (h1.ev rfl) hx2910 hx2911) ?_
      refine Tr.va rfl (fun _ _ h1 h2 => run_load1 ag_3 (h1.ev rfl) (rdF ef_i64 hl231 hx2912 h2) rfl) ?_
      refine Tr.asg rfl rfl ?_
      refine Tr.nil ?_
      exact Tr.backThen leJ250 x291 H (.r rfl) (.r rfl)
   ·intro w x249 hlJ251 hs
    have H := hs
    replace H : F_shape_line_J10 p2 l230 l231 l232 x233 x234 x235 (F_shape_line_L7 p2 mL7) x249 = some r := H
    replace hl230 := hl230.leR hlJ251
    replace hl231 := hl231.leR hlJ251
    replace hf2 := fun w' he => hf2 w' (hlJ251.ext.trans he)
    replace leB := leB.trans hlJ251
    replace leL7 := leL7.trans hlJ251
    unfold F_shape_line_J10 at H
    show Tr _ _ (LF [(0, (.slice Al230 (l230).length cl230)), (1, (.slice Al231 (l231).length cl231)), (2, (.func (.func fid2) #[] cap2.toArray)), (7, (.slice Al232 (l232).length cl232)), (8, (.bool x233)), (9, (.bool x234)), (10, (.bool x235)), (11, (iv x249))]) (LE [(2, ow Al232 cl232 3 fl_i64 l232)]) _
    have leJ258 := Bs.Le.refl w
    refine Tr.cutJ (σ := (List Int) × Bool × (Option Addr) × Nat) (fun w s => F_shape_line_J9 p2 l231 l232 x234 x235 (F_shape_line_L7 p2 mL7) x249 s.1 s.2.1 = some r ∧ Sl w.R w.W fl_i64 s.2.2.1 s.2.2.2 s.1) (fun s => [(0, (.slice s.2.2.1 (s.1).length s.2.2.2)), (1, (.slice Al231 (l231).length cl231)), (2, (.func (.func fid2) #[] cap2.toArray)), (7, (.slice Al232 (l232).length cl232)), (8, (.bool s.2.1)), (9, (.bool x234)), (10, (.bool x235)), (11, (iv x249))]) (fun s => [(2, ow Al232 cl232 3 fl_i64 l232)]) ?_ ?_
    ·refine Tr.sr ?_
     refine Tr.mv rfl rfl ?_
     refine Tr.v1 rfl (run_len un_96) rfl ?_
     refine Tr.v2 rfl run_gtr rfl rfl ?_
     refine Tr.mv rfl rfl ?_
     obtain ⟨g276, hg276, H⟩ := bnd H
     refine Tr.mid0 6 [(0, (.slice Al230 (l230).length cl230)), (1, (.slice Al231 (l231).length cl231)), (2, (.func (.func fid2) #[] cap2.toArray)), (7, (.slice Al232 (l232).length cl232)), (8, (.bool x233)), (9, (.bool x234)), (10, (.bool x235)), (11, (iv x249)), (53, (.bool g276))] [(2, ow Al232 cl232 3 fl_i64 l232)] ?_ ?_
     ·cases hg278 : (decide (0 < (l230.length : Int)))
      ·rw [hg278] at hg276
       rw [if_neg (by decide)] at hg276
       have H := hg276
       obtain rfl := Option.some.inj H
       refine Tr.ps ?_
       refine Tr.ps ?_
       refine Tr.ps ?_
       refine Tr.ps ?_
       refine Tr.ps ?_
       refine Tr.v2 rfl run_pickF rfl rfl ?_
       exact Tr.nil (Tr.fin0 (.r rfl) (.r rfl))
      ·rw [hg278] at hg276
       rw [if_pos rfl] at hg276
       have H := hg276
       refine Tr.w1 (wg rfl rfl rfl) rfl run_move rfl ?_
       obtain ⟨x277, hx277, H⟩ := bnd H
       obtain ⟨hx2770, hx2771, hx2772⟩ := idx_some hx277
       refine Tr.val (wg rfl rfl rfl) rfl (fun _ _ h1 h2 => run_indexAddr el_96 (h1.ev rfl) hl230.form (h1.ev rfl) hx2770 hx2771) ?_
       refine Tr.val (wg rfl rfl rfl) rfl (fun _ _ h1 h2 => run_load1 ag_3 (h1.ev rfl) (rdF ef_i64 hl230 hx2772 h2) rfl) ?_
       refine Tr.w1 (wg rfl rfl rfl) rfl run_move rfl ?_
       refine Tr.w2 (wg rfl rfl rfl) rfl run_eql rfl rfl ?_
       refine Tr.v2 rfl run_pickT rfl rfl ?_
       obtain rfl := Option.some.inj H
       exact Tr.nil (Tr.fin0 (.r rfl) (.r rfl))
     ·show Tr _ _ (LF [(0, (.slice Al230 (l230).length cl230)), (1, (.slice Al231 (l231).length cl231)), (2, (.func (.func fid2) #[] cap2.toArray)), (7, (.slice Al232 (l232).length cl232)), (8, (.bool x233)), (9, (.bool x234)), (10, (.bool x235)), (11, (iv x249)), (53, (.bool g276))]) (LE [(2, ow Al232 cl232 3 fl_i64 l232)]) _
      refine Tr.nil (Tr.normThen ?_)
      refine Tr.cond rfl H (fun H => ?_) (fun H => ?_)
      ·refine Tr.region ?_
       refine Tr.mv rfl rfl ?_
       obtain ⟨l278, hl278, H⟩ := bnd H
       refine Tr.va rfl (fun _ _ h1 h2 => run_cutL el_96 (h1.ev rfl) hl230.form (h1.ev rfl) hl278) ?_
       refine Tr.mv rfl rfl ?_
       refine Tr.v1 rfl run_not rfl ?_
       refine Tr.asg rfl rfl ?_
       refine Tr.asg rfl rfl ?_
       refine Tr.nil ?_
       exact Tr.backThen leJ258 (l278, (!x233), (cutA Al230 (1 : Int).toNat 1 cl230), (cl230 - (1 : Int).toNat)) ⟨H, (Sl.cut hl230 hl278)⟩ (.r rfl) (.r rfl)
      ·refine Tr.skip ?_
       exact Tr.backThen leJ258 (l230, x233, Al230, cl230) ⟨H, hl230⟩ (.r rfl) (.r rfl)
    ·intro w s hlJ259 hs
     obtain ⟨l256, x257, Al256, cl256⟩ := s
     obtain ⟨H, hl256⟩ := hs
     replace H : F_shape_line_J9 p2 l231 l232 x234 x235 (F_shape_line_L7 p2 mL7) x249 l256 x257 = some r := H
     replace hl231 := hl231.leR hlJ259
     replace hf2 := fun w' he => hf2 w' (hlJ259.ext.trans he)
     replace leB := leB.trans hlJ259
     replace leL7 := leL7.trans hlJ259
     replace hl256 : Sl w.R w.W fl_i64 Al256 cl256 l256 := hl256
     unfold F_shape_line_J9 at H
     show Tr _ _ (LF [(0, (.slice Al256 (l256).length cl256)), (1, (.slice Al231 (l231).length cl231)), (2, (.func (.func fid2) #[] cap2.toArray)), (7, (.slice Al232 (l232).length cl232)), (8, (.bool x257)), (9, (.bool x234)), (10, (.bool x235)), (11, (iv x249))]) (LE [(2, ow Al232 cl232 3 fl_i64 l232)]) _
     have leJ266 := Bs.Le.refl w
     refine Tr.cutJ (σ := (List Int) × Bool × (Option Addr) × Nat) (fun w s => F_shape_line_J8 p2 l232 x235 (F_shape_line_L7 p2 mL7) x249 l256 x257 s.1 s.2.1 = some r ∧ Sl w.R w.W fl_i64 s.2.2.1 s.2.2.2 s.1) (fun s => [(0, (.slice Al256 (l256).length cl256)), (1, (.slice s.2.2.1 (s.1).length s.2.2.2)), (2, (.func (.func fid2) #[] cap2.toArray)), (7, (.slice Al232 (l232).length cl232)), (8, (.bool x257)), (9, (.bool s.2.1)), (10, (.bool x235)), (11, (iv x249))]) (fun s => [(2, ow Al232 cl232 3 fl_i64 l232)]) ?_ ?_
     ·refine Tr.sr ?_
      refine Tr.mv rfl rfl ?_
      refine Tr.v1 rfl (run_len un_96) rfl ?_
      refine Tr.v2 rfl run_gtr rfl rfl ?_
      refine Tr.mv rfl rfl ?_
      obtain ⟨g272, hg272, H⟩ := bnd H
      refine Tr.mid0 6 [(0, (.slice Al256 (l256).length cl256)), (1, (.slice Al231 (l231).length cl231)), (2, (.func (.func fid2) #[] cap2.toArray)), (7, (.slice Al232 (l232).length cl232)), (8, (.bool x257)), (9, (.bool x234)), (10, (.bool x235)), (11, (iv x249)), (67, (.bool g272))] [(2, ow Al232 cl232 3 fl_i64 l232)] ?_ ?_
      ·cases hg274 : (decide (0 < (l231.length : Int)))
       ·rw [hg274] at hg272
        rw [if_neg (by decide)] at hg272
        have H := hg272
        obtain rfl := Option.some.inj H
        refine Tr.ps ?_
        refine Tr.ps ?_
        refine Tr.ps ?_
        refine Tr.ps ?_
        refine Tr.ps ?_
        refine Tr.v2 rfl run_pickF rfl rfl ?_
        exact Tr.nil (Tr.fin0 (.r rfl) (.r rfl))
       ·rw [hg274] at hg272
        rw [if_pos rfl] at hg272
        have H := hg272
        refine Tr.w1 (wg rfl rfl rfl) rfl run_move rfl ?_
        obtain ⟨x273, hx273, H⟩ := bnd H
        obtain ⟨hx2730, hx2731, hx2732⟩ := idx_some hx273
        refine Tr.val (wg rfl rfl rfl) rfl (fun _ _ h1 h2 => run_indexAddr el_96 (h1.ev rfl) hl231.form (h1.ev rfl) hx2730 hx2731) ?_
        refine Tr.val (wg rfl rfl rfl) rfl (fun _ _ h1 h2 => run_load1 ag_3 (h1.ev rfl) (rdF ef_i64 hl231 hx2732 h2) rfl) ?_
        refine Tr.w1 (wg rfl rfl rfl) rfl run_move rfl ?_
        refine Tr.w2 (wg rfl rfl rfl) rfl run_eql rfl rfl ?_
        refine Tr.v2 rfl run_pickT rfl rfl ?_
        obtain rfl := Option.some.inj H
        exact Tr.nil (Tr.fin0 (.r rfl) (.r rfl))
      ·show Tr _ _ (LF [(0, (.slice Al256 (l256).length cl256)), (1, (.slice Al231 (l231).length cl231)), (2, (.func (.func fid2) #[] cap2.toArray)), (7, (.slice Al232 (l232).length cl232)), (8, (.bool x257)), (9, (.bool x234)), (10, (.bool x235)), (11, (iv x249)), (67, (.bool g272))]) (LE [(2, ow Al232 cl232 3 fl_i64 l232)]) _
       refine Tr.nil (Tr.normThen ?_)
       refine Tr.cond rfl H (fun H => ?_) (fun H => ?_)
       ·refine Tr.region ?_
        refine Tr.mv rfl rfl ?_
        obtain ⟨l274, hl274, H⟩ := bnd H
        refine Tr.va rfl (fun _ _ h1 h2 => run_cutL el_96 (h1.ev rfl) hl231.form (h1.ev rfl) hl274) ?_
        refine Tr.mv rfl rfl ?_
        refine Tr.v1 rfl run_not rfl ?_
        refine Tr.asg rfl rfl ?_
        refine Tr.asg rfl rfl ?_
        refine Tr.nil ?_
        exact Tr.backThen leJ266 (l274, (!x234), (cutA Al231 (1 : Int).toNat 1 cl231), (cl231 - (1 : Int).toNat)) ⟨H, (Sl.cut hl231 hl274)⟩ (.r rfl) (.r rfl)
       ·refine Tr.skip ?_
        exact Tr.backThen leJ266 (l231, x234, Al231, cl231) ⟨H, hl231⟩ (.r rfl) (.r rfl)
     ·intro w s hlJ267 hs
      obtain ⟨l264, x265, Al264, cl264⟩ := s
      obtain ⟨H, hl264⟩ := hs
      replace H : F_shape_line_J8 p2 l232 x235 (F_shape_line_L7 p2 mL7) x249 l256 x257 l264 x265 = some r := H
      replace hl256 := hl256.leR hlJ267
      replace hf2 := fun w' he => hf2 w' (hlJ267.ext.trans he)
      replace leB := leB.trans hlJ267
      replace leL7 := leL7.trans hlJ267
      replace hl264 : Sl w.R w.W fl_i64 Al264 cl264 l264 := hl264
      unfold F_shape_line_J8 at H
      show Tr _ _ (LF [(0, (.slice Al256 (l256).length cl256)), (1, (.slice Al264 (l264).length cl264)), (2, (.func (.func fid2) #[] cap2.toArray)), (7, (.slice Al232 (l232).length cl232)), (8, (.bool x257)), (9, (.bool x265)), (10, (.bool x235)), (11, (iv x249))]) (LE [(2, ow Al232 cl232 3 fl_i64 l232)]) _
      refine Tr.sr ?_
      refine Tr.mv rfl rfl ?_
      refine Tr.mv rfl rfl ?_
      refine Tr.mv rfl rfl ?_
      obtain ⟨y268, hy268, H⟩ := bnd H
      refine Tr.callF (r := (.bool y268)) (wn rfl) rfl rfl hg2 (evl_cons rfl (evl_cons rfl evl_nil)) (fun W hW => hf2 hW.all hW.extAll x257 x265 _ hy268) ?_
      refine Tr.asg rfl rfl ?_
      refine Tr.nil (Tr.normThen ?_)
      refine Tr.sr ?_
      refine Tr.mv rfl rfl ?_
      refine Tr.mv rfl rfl ?_
      refine Tr.v2 rfl (run_neqB un_4) rfl rfl ?_
      refine Tr.nil (Tr.normThen ?_)
      refine Tr.cond rfl H (fun H => ?_) (fun H => ?_)
      ·refine Tr.region ?_
       refine Tr.mv rfl rfl ?_
       refine Tr.mv rfl rfl ?_
       refine Tr.buildSlice 5 (e := 3) (vs := [(0, (iv x249))]) (cs := [(iv x249)]) (wn rfl) rfl (evs_cons rfl evs_nil) (by kernel_rfl) fun b269 => ?_
       obtain ⟨l270, hl270, H⟩ := bnd H
       refine Tr.append 2 (t := fl_i64) (l := l232) (l2 := [x249]) (wn rfl) rfl rfl rfl rfl (fun W hW => ⟨[[(iv x249)]], (.cons ⟨(), trivial, rfl⟩ .nil), rdb hW (vs := [(iv x249)]) (k := 5) rfl 0⟩) un_96 sz_3 zl_3 (by decide) by_3 rfl hl270 fun Al270 cl270 hAl270 => ?_
       refine Tr.mv rfl rfl ?_
       refine Tr.asg rfl rfl ?_
       refine Tr.asg rfl rfl ?_
       refine Tr.nil (Tr.normBlock ?_)
       exact Tr.backThen leL7 (l256, l264, l270, x257, x265, y268, Al256, cl256, Al264, cl264, Al270, cl270) ⟨H, hl256, hl264, hAl270⟩ (.r rfl) (.r rfl)
      ·refine Tr.skip (Tr.normBlock ?_)
       exact Tr.backThen leL7 (l256, l264, l232, x257, x265, x235, Al256, cl256, Al264, cl264, Al232, cl232) ⟨H, hl256, hl264, hl232⟩ (.r rfl) (.r rfl)
  ·refine Tr.exit (Tr.exitThen (Tr.exitThen (Tr.exitBlock (Tr.normThen ?_))))
   refine Tr.sr ?_
   refine Tr.mv rfl rfl ?_
   refine Tr.asg rfl rfl ?_
   refine Tr.nil (Tr.normThen ?_)
   refine Tr.ret ?_
   obtain rfl := Option.some.inj H
   exact Tr.out (m := [(.slice Al232 (l232).length cl232)]) [] (res_tmp rfl res_nil) (fun W hW => ⟨(Al232, cl232), rfl, hl232, HF.lowE leB (hW.pick (ks := [2]) (by decide) (pk_cons rfl pk_nil)) ⟨ow_any _ _ _ _ tr_i64, trivial⟩⟩)

theorem F_shape_Set__sides_2_1_ok {w : Bs} (p0 : Bool) (p1 : Bool) (r : Bool) (H : F_shape_Set__sides_2_1 p0 p1 = some r) (hE : HF w w.W E0) : Calls Tryz.prog 114 [(.bool p0), (.bool p1)].toArray w.W fun e W' => e = .returned (.bool r) ∧ HF w W' E0 := by
 unfold F_shape_Set__sides_2_1 at H
 have leB := Bs.Le.refl w
 refine Tr.enter (n := 10) Tryz.func114 rfl rfl rfl hE ?_
 refine Tr.sr ?_
 refine Tr.asg rfl rfl ?_
 refine Tr.nil (Tr.normThen ?_)
 refine Tr.sr ?_
 refine Tr.mv rfl rfl ?_
 refine Tr.mv rfl rfl ?_
 refine Tr.mid0 3 [(9, (.bool (p0 && (!p1))))] [] ?_ ?_
 ·cases hg99 : p0
  ·refine Tr.ps ?_
   refine Tr.ps ?_
   refine Tr.v2 rfl run_pickF rfl rfl ?_
   exact Tr.nil (Tr.fin0 (.r rfl) .nil)
  ·refine Tr.w1 (wg rfl rfl rfl) rfl run_move rfl ?_
   refine Tr.w1 (wg rfl rfl rfl) rfl run_not rfl ?_
   refine Tr.v2 rfl run_pickT rfl rfl ?_
   exact Tr.nil (Tr.fin0 (.r rfl) .nil)
 ·show Tr _ _ (LF [(9, (.bool (p0 && (!p1))))]) (LE []) _
  refine Tr.asg rfl rfl ?_
  refine Tr.nil (Tr.normThen ?_)
  refine Tr.ret ?_
  obtain rfl := Option.some.inj H
  exact Tr.out (m := [(.bool (p0 && (!p1)))]) [] (res_tmp rfl res_nil) (fun W hW => ⟨rfl, hW.low leB⟩)

theorem F_shape_Set__sides_2_2_ok {w : Bs} (p0 : Bool) (p1 : Bool) (r : Bool) (H : F_shape_Set__sides_2_2 p0 p1 = some r) (hE : HF w w.W E0) : Calls Tryz.prog 115 [(.bool p0), (.bool p1)].toArray w.W fun e W' => e = .returned (.bool r) ∧ HF w W' E0 := by
 unfold F_shape_Set__sides_2_2 at H
 have leB := Bs.Le.refl w
 refine Tr.enter (n := 10) Tryz.func115 rfl rfl rfl hE ?_
 refine Tr.sr ?_
 refine Tr.asg rfl rfl ?_
 refine Tr.nil (Tr.normThen ?_)
 refine Tr.sr ?_
 refine Tr.mv rfl rfl ?_
 refine Tr.mv rfl rfl ?_
 refine Tr.mid0 3 [(9, (.bool (p1 && (!p0))))] [] ?_ ?_
 ·cases hg99 : p1
  ·refine Tr.ps ?_
   refine Tr.ps ?_
   refine Tr.v2 rfl run_pickF rfl rfl ?_
   exact Tr.nil (Tr.fin0 (.r rfl) .nil)
  ·refine Tr.w1 (wg rfl rfl rfl) rfl run_move rfl ?_
   refine Tr.w1 (wg rfl rfl rfl) rfl run_not rfl ?_
   refine Tr.v2 rfl run_pickT rfl rfl ?_
   exact Tr.nil (Tr.fin0 (.r rfl) .nil)
 ·show Tr _ _ (LF [(9, (.bool (p1 && (!p0))))]) (LE []) _
  refine Tr.asg rfl rfl ?_
  refine Tr.nil (Tr.normThen ?_)
  refine Tr.ret ?_
  obtain rfl := Option.some.inj H
  exact Tr.out (m := [(.bool (p1 && (!p0)))]) [] (res_tmp rfl res_nil) (fun W hW => ⟨rfl, hW.low leB⟩)

theorem F_shape_Set__sides_2__sides_1_ok (N : Nat) {w : Bs} (p0 : Int) (p1 : (List Int)) (Ap1_0 : Option Addr) (cp1_0 : Nat) (hp1_0 : Sl w.R w.W fl_i64 Ap1_0 cp1_0 p1) (p2 : (List Int)) (Ap2_0 : Option Addr) (cp2_0 : Nat) (hp2_0 : Sl w.R w.W fl_i64 Ap2_0 cp2_0 p2) (bq0 : Nat) (q1 : (List TSide)) (Aq1_0 : Option Addr) (cq1_0 : Nat) (bq1 : Nat) (hb0 : w.R bq0) (hc0 : CellsAt w.W bq0 0 [(.func (.func 111) #[] #[(.pointer (some ⟨bq1, 0, none⟩))])]) (r : (List TSide)) (H : F_shape_Set__sides_2__sides_1 N p0 p1 p2 q1 = some r) (hE : HF w w.W (LEn [bx bq1 #[(.slice Aq1_0 (q1).length cq1_0)] 121, ow Aq1_0 cq1_0 125 fl_TSide q1])) : Calls Tryz.prog 112 [(iv p0), (.slice Ap1_0 (p1).length cp1_0), (.slice Ap2_0 (p2).length cp2_0), (.pointer (some ⟨bq0, 0, none⟩))].toArray w.W fun e W' => ∃ u : (Option Addr × Nat), e = .returned (.tuple #[]) ∧ (SlF u.1 (r).length u.2) ∧ HF w W' (LEn [bx bq1 #[(.slice u.1 (r).length u.2)] 121, ow u.1 u.2 125 fl_TSide r]) := by
 unfold F_shape_Set__sides_2__sides_1 at H
 have hfhq1_0 := (hE.sl (k := 1) rfl).form
 have leB := Bs.Le.refl w
 refine Tr.enter (n := 54) Tryz.func112 rfl rfl rfl hE ?_
 refine Tr.sr ?_
 refine Tr.mv rfl rfl ?_
 refine Tr.mv rfl rfl ?_
 obtain ⟨y100, hy100, H⟩ := bnd H
 refine Tr.callM [2] [emp] (U := (Option Addr × Nat)) (fun u => (.slice u.1 (y100).length u.2)) (fun u => SlF u.1 (y100).length u.2) (fun u => [ow u.1 u.2 3 fl_i64 y100]) rfl (pk_cons rfl pk_nil) (fun _ => rfl) (wn rfl) rfl Tryz.call113 (evl_cons rfl (evl_cons rfl (evl_cons rfl evl_nil))) (fun W hW hp hE => F_shape_line_ok N p1 Ap1_0 cp1_0 (hp1_0.ext (hW.extS hp)) p2 Ap2_0 cp2_0 (hp2_0.ext (hW.extS hp)) (fun z0 z1 => F_shape_Set__sides_2_1 z0 z1) 114 [] Tryz.call114 (fun w' he z0 z1 y hy => F_shape_Set__sides_2_1_ok z0 z1 y hy (HF.start _)) y100 hy100 hE) ?_
 intro u hu
 obtain ⟨Ay100_0, cy100_0⟩ := u
 have gy100_0 := hu
 have hgy100_0 : SlF Ay100_0 (y100).length cy100_0 := gy100_0 --@phi
 show Tr _ _ (uf _ 12 (.slice Ay100_0 (y100).length cy100_0)) (up _ 2 (ow Ay100_0 cy100_0 3 fl_i64 y100)) _
 refine Tr.asg rfl rfl ?_
 refine Tr.nil (Tr.normThen ?_)
 refine Tr.seq ?_
 refine Tr.sr ?_
 refine Tr.asg rfl rfl ?_
 refine Tr.nil (Tr.normThen ?_)
 refine Tr.block ?_
 refine Tr.loop (σ := (List TSide) × Int × (Option Addr) × Nat) (fun m w s => F_shape_Set__sides_2__sides_1_L1 N p0 p1 p2 y100 m s.1 s.2.1 = some r ∧ SlF s.2.2.1 (s.1).length s.2.2.2) (fun s => [(0, (iv p0)), (1, (.slice Ap1_0 (p1).length cp1_0)), (2, (.slice Ap2_0 (p2).length cp2_0)), (3, (.pointer (some ⟨bq0, 0, none⟩))), (7, (.slice Ay100_0 (y100).length cy100_0)), (8, (iv s.2.1))]) (fun s => [(0, bx bq1 #[(.slice s.2.2.1 (s.1).length s.2.2.2)] 121), (1, ow s.2.2.1 s.2.2.2 125 fl_TSide s.1), (2, ow Ay100_0 cy100_0 3 fl_i64 y100)]) N (q1, 0, Aq1_0, cq1_0) ⟨H, hfhq1_0⟩ (.r rfl) (.r rfl) (fun _ _ h => noSome (h.1)) ?_
 intro w leL1 mL1 s hs
 obtain ⟨l116, x117, Al116, cl116⟩ := s
 obtain ⟨H, hl116⟩ := hs
 replace H : F_shape_Set__sides_2__sides_1_L1 N p0 p1 p2 y100 (mL1 + 1) l116 x117 = some r := H
 replace hp1_0 := hp1_0.leR leL1
 replace hp2_0 := hp2_0.leR leL1
 replace hc0 := leL1.ext.cells hb0 hc0
 replace hb0 := leL1.r _ hb0
 replace leB := leB.trans leL1
 replace hl116 : SlF Al116 (l116).length cl116 := hl116
 rw [F_shape_Set__sides_2__sides_1_L1.eq_2] at H
 show Tr _ _ (LF [(0, (iv p0)), (1, (.slice Ap1_0 (p1).length cp1_0)), (2, (.slice Ap2_0 (p2).length cp2_0)), (3, (.pointer (some ⟨bq0, 0, none⟩))), (7, (.slice Ay100_0 (y100).length cy100_0)), (8, (iv x117))]) (LE [(0, bx bq1 #[(.slice Al116 (l116).length cl116)] 121), (1, ow Al116 cl116 125 fl_TSide l116), (2, ow Ay100_0 cy100_0 3 fl_i64 y100)]) _
 refine Tr.seq ?_
 refine Tr.sr ?_
 refine Tr.mv rfl rfl ?_
 refine Tr.mv rfl rfl ?_
 refine Tr.v1 rfl (run_len un_96) rfl ?_
 refine Tr.v2 rfl run_lss rfl rfl ?_
 refine Tr.nil (Tr.normThen ?_)
 refine Tr.cond rfl H (fun H => ?_) (fun H => ?_)
 ·refine Tr.skip (Tr.normThen ?_)
  refine Tr.seq ?_
  refine Tr.block ?_
  refine Tr.drawTail 12 (by kernel_rfl) (by kernel_rfl) ?_
  refine Tq.va rfl (fun _ _ h1 h2 => run_load1 ag_162 (h1.ev rfl) (rdR hb0 hc0 h2) rfl) ?_
  refine Tq.mv rfl rfl ?_
  refine Tq.mv rfl rfl ?_
  refine Tq.v2 rfl run_add rfl rfl ?_
  obtain ⟨x118, hx118, H⟩ := bnd H
  obtain ⟨hx1180, hx1181, hx1182⟩ := idx_some hx118
  refine Tq.va rfl (fun _ _ h1 h2 => run_indexAddr el_96 (h1.ev rfl) hgy100_0 (h1.ev rfl) hx1180 hx1181) ?_
  refine Tq.va rfl (fun _ _ h1 h2 => run_load1 ag_3 (h1.ev rfl) (rdo ef_i64 (k := 2) h2 rfl hx1182) rfl) ?_
  refine Tq.mv rfl rfl ?_
  refine Tq.mv rfl rfl ?_
  refine Tq.mv rfl rfl ?_
  obtain ⟨x119, hx119, H⟩ := bnd H
  obtain ⟨hx1190, hx1191, hx1192⟩ := idx_some hx119
  refine Tq.va rfl (fun _ _ h1 h2 => run_indexAddr el_96 (h1.ev rfl) hgy100_0 (h1.ev rfl) hx1190 hx1191) ?_
  refine Tq.va rfl (fun _ _ h1 h2 => run_load1 ag_3 (h1.ev rfl) (rdo ef_i64 (k := 2) h2 rfl hx1192) rfl) ?_
  refine Tq.mv rfl rfl ?_
  refine Tq.nil ?_
  obtain ⟨y120, hy120, H⟩ := bnd H
  refine Tr.callMC [0, 1] [bx bq1 #[(.slice Al116 (l116).length cl116)] 121, ow Al116 cl116 125 fl_TSide l116] (U := (Option Addr × Nat)) (fun u => (.tuple #[])) (fun u => SlF u.1 (y120).length u.2) (fun u => [bx bq1 #[(.slice u.1 (y120).length u.2)] 121, ow u.1 u.2 125 fl_TSide y120]) rfl (pk_cons rfl (pk_cons rfl pk_nil)) (fun _ => rfl) (wn rfl) rfl rfl Tryz.call111 (evl_cons rfl (evl_cons rfl (evl_cons rfl (evl_cons rfl evl_nil)))) (fun W hW hp hE => F_shape_Set__sides_1_ok x118 p0 x119 p0 l116 Al116 cl116 bq1 y120 hy120 hE) ?_
  intro u hu
  obtain ⟨Ay120_0, cy120_0⟩ := u
  have gy120_0 := hu
  have hgy120_0 : SlF Ay120_0 (y120).length cy120_0 := gy120_0 --@phi
  show Tr _ _ (uf _ 31 (.tuple #[])) (up (up _ 1 (ow Ay120_0 cy120_0 125 fl_TSide y120)) 0 (bx bq1 #[(.slice Ay120_0 (y120).length cy120_0)] 121)) _
  refine Tr.nil (Tr.normBlock (Tr.normThen ?_))
  refine Tr.region ?_
  refine Tr.mv rfl rfl ?_
  refine Tr.v2 rfl run_add rfl rfl ?_
  refine Tr.asg rfl rfl ?_
  refine Tr.nil ?_
  exact Tr.backThen leL1 (y120, (w64 (x117 + 2)), Ay120_0, cy120_0) ⟨H, hgy120_0⟩ (.r rfl) (.r rfl)
 ·refine Tr.exit (Tr.exitThen (Tr.exitThen (Tr.exitBlock (Tr.normThen ?_))))
  refine Tr.sr ?_
  refine Tr.mv rfl rfl ?_
  refine Tr.mv rfl rfl ?_
  obtain ⟨y122, hy122, H⟩ := bnd H
  refine Tr.callM [3] [emp] (U := (Option Addr × Nat)) (fun u => (.slice u.1 (y122).length u.2)) (fun u => SlF u.1 (y122).length u.2) (fun u => [ow u.1 u.2 3 fl_i64 y122]) rfl (pk_cons rfl pk_nil) (fun _ => rfl) (wn rfl) rfl Tryz.call113 (evl_cons rfl (evl_cons rfl (evl_cons rfl evl_nil))) (fun W hW hp hE => F_shape_line_ok N p1 Ap1_0 cp1_0 (hp1_0.ext (hW.extS hp)) p2 Ap2_0 cp2_0 (hp2_0.ext (hW.extS hp)) (fun z0 z1 => F_shape_Set__sides_2_2 z0 z1) 115 [] Tryz.call115 (fun w' he z0 z1 y hy => F_shape_Set__sides_2_2_ok z0 z1 y hy (HF.start _)) y122 hy122 hE) ?_
  intro u hu
  obtain ⟨Ay122_0, cy122_0⟩ := u
  have gy122_0 := hu
  have hgy122_0 : SlF Ay122_0 (y122).length cy122_0 := gy122_0 --@phi
  show Tr _ _ (uf _ 34 (.slice Ay122_0 (y122).length cy122_0)) (up _ 3 (ow Ay122_0 cy122_0 3 fl_i64 y122)) _
  refine Tr.asg rfl rfl ?_
  refine Tr.nil (Tr.normThen ?_)
  refine Tr.sr ?_
  refine Tr.asg rfl rfl ?_
  refine Tr.nil (Tr.normThen ?_)
  refine Tr.block ?_
  refine Tr.loop (σ := (List TSide) × Int × (Option Addr) × Nat) (fun m w s => F_shape_Set__sides_2__sides_1_L2 p0 y122 m s.1 s.2.1 = some r ∧ SlF s.2.2.1 (s.1).length s.2.2.2) (fun s => [(0, (iv p0)), (3, (.pointer (some ⟨bq0, 0, none⟩))), (7, (.slice Ay122_0 (y122).length cy122_0)), (9, (iv s.2.1))]) (fun s => [(0, bx bq1 #[(.slice s.2.2.1 (s.1).length s.2.2.2)] 121), (1, ow s.2.2.1 s.2.2.2 125 fl_TSide s.1), (3, ow Ay122_0 cy122_0 3 fl_i64 y122)]) N (l116, 0, Al116, cl116) ⟨H, hl116⟩ (.r rfl) (.r rfl) (fun _ _ h => noSome (h.1)) ?_
  intro w leL2 mL2 s hs
  obtain ⟨l138, x139, Al138, cl138⟩ := s
  obtain ⟨H, hl138⟩ := hs
  replace H : F_shape_Set__sides_2__sides_1_L2 p0 y122 (mL2 + 1) l138 x139 = some r := H
  replace hc0 := leL2.ext.cells hb0 hc0
  replace hb0 := leL2.r _ hb0
  replace leB := leB.trans leL2
  replace leL1 := leL1.trans leL2
  replace hl138 : SlF Al138 (l138).length cl138 := hl138
  rw [F_shape_Set__sides_2__sides_1_L2.eq_2] at H
  show Tr _ _ (LF [(0, (iv p0)), (3, (.pointer (some ⟨bq0, 0, none⟩))), (7, (.slice Ay122_0 (y122).length cy122_0)), (9, (iv x139))]) (LE [(0, bx bq1 #[(.slice Al138 (l138).length cl138)] 121), (1, ow Al138 cl138 125 fl_TSide l138), (3, ow Ay122_0 cy122_0 3 fl_i64 y122)]) _
  refine Tr.seq ?_
  refine Tr.sr ?_
  refine Tr.mv rfl rfl ?_
  refine Tr.mv rfl rfl ?_
  refine Tr.v1 rfl (run_len un_96) rfl ?_
  refine Tr.v2 rfl run_lss rfl rfl ?_
  refine Tr.nil (Tr.normThen ?_)
  refine Tr.cond rfl H (fun H => ?_) (fun H => ?_)
  ·refine Tr.skip (Tr.normThen ?_)
   refine Tr.seq ?_
   refine Tr.block ?_
   refine Tr.drawTail 12 (by kernel_rfl) (by kernel_rfl) ?_
   refine Tq.va rfl (fun _ _ h1 h2 => run_load1 ag_162 (h1.ev rfl) (rdR hb0 hc0 h2) rfl) ?_
   refine Tq.mv rfl rfl ?_
   refine Tq.mv rfl rfl ?_
   obtain ⟨x140, hx140, H⟩ := bnd H
   obtain ⟨hx1400, hx1401, hx1402⟩ := idx_some hx140
   refine Tq.va rfl (fun _ _ h1 h2 => run_indexAddr el_96 (h1.ev rfl) hgy122_0 (h1.ev rfl) hx1400 hx1401) ?_
   refine Tq.va rfl (fun _ _ h1 h2 => run_load1 ag_3 (h1.ev rfl) (rdo ef_i64 (k := 3) h2 rfl hx1402) rfl) ?_
   refine Tq.mv rfl rfl ?_
   refine Tq.mv rfl rfl ?_
   refine Tq.mv rfl rfl ?_
   refine Tq.v2 rfl run_add rfl rfl ?_
   obtain ⟨x141, hx141, H⟩ := bnd H
   obtain ⟨hx1410, hx1411, hx1412⟩ := idx_some hx141
   refine Tq.va rfl (fun _ _ h1 h2 => run_indexAddr el_96 (h1.ev rfl) hgy122_0 (h1.ev rfl) hx1410 hx1411) ?_
   refine Tq.va rfl (fun _ _ h1 h2 => run_load1 ag_3 (h1.ev rfl) (rdo ef_i64 (k := 3) h2 rfl hx1412) rfl) ?_
   refine Tq.mv rfl rfl ?_
   refine Tq.nil ?_
   obtain ⟨y142, hy142, H⟩ := bnd H
   refine Tr.callMC [0, 1] [bx bq1 #[(.slice Al138 (l138).length cl138)] 121, ow Al138 cl138 125 fl_TSide l138] (U := (Option Addr × Nat)) (fun u => (.tuple #[])) (fun u => SlF u.1 (y142).length u.2) (fun u => [bx bq1 #[(.slice u.1 (y142).length u.2)] 121, ow u.1 u.2 125 fl_TSide y142]) rfl (pk_cons rfl (pk_cons rfl pk_nil)) (fun _ => rfl) (wn rfl) rfl rfl Tryz.call111 (evl_cons rfl (evl_cons rfl (evl_cons rfl (evl_cons rfl evl_nil)))) (fun W hW hp hE => F_shape_Set__sides_1_ok x140 p0 x141 p0 l138 Al138 cl138 bq1 y142 hy142 hE) ?_
   intro u hu
   obtain ⟨Ay142_0, cy142_0⟩ := u
   have gy142_0 := hu
   have hgy142_0 : SlF Ay142_0 (y142).length cy142_0 := gy142_0 --@phi
   show Tr _ _ (uf _ 53 (.tuple #[])) (up (up _ 1 (ow Ay142_0 cy142_0 125 fl_TSide y142)) 0 (bx bq1 #[(.slice Ay142_0 (y142).length cy142_0)] 121)) _
   refine Tr.nil (Tr.normBlock (Tr.normThen ?_))
   refine Tr.region ?_
   refine Tr.mv rfl rfl ?_
   refine Tr.v2 rfl run_add rfl rfl ?_
   refine Tr.asg rfl rfl ?_
   refine Tr.nil ?_
   exact Tr.backThen leL2 (y142, (w64 (x139 + 2)), Ay142_0, cy142_0) ⟨H, hgy142_0⟩ (.r rfl) (.r rfl)
  ·refine Tr.exit (Tr.exitThen (Tr.exitThen (Tr.exitBlock (Tr.offEnd ?_))))
   obtain rfl := Option.some.inj H
   exact Tr.out (m := []) [] res_nil (fun W hW => ⟨(Al138, cl138), rfl, hl138, HF.lowE leB (hW.pick (ks := [0, 1]) (by decide) (pk_cons rfl (pk_cons rfl pk_nil))) ⟨bx_any _ _ _, ow_any _ _ _ _ tr_TSide, trivial⟩⟩)

theorem F_shape_Set__sides_ok (N : Nat) {w : Bs} (p0 : (List TBand)) (Ap0_0 : Option Addr) (cp0_0 : Nat) (hp0_0 : Sl w.R w.W fl_TBand Ap0_0 cp0_0 p0) (r : (List TSide)) (H : F_shape_Set__sides N p0 = some r) (hE : HF w w.W (LEn [emp])) : Calls Tryz.prog 68 [(.slice Ap0_0 (p0).length cp0_0)].toArray w.W fun e W' => ∃ u : (Option Addr × Nat), e = .returned (.slice u.1 (r).length u.2) ∧ (SlF u.1 (r).length u.2) ∧ HF w W' (LEn [ow u.1 u.2 125 fl_TSide r]) := by
 unfold F_shape_Set__sides at H
 have leB := Bs.Le.refl w
 refine Tr.enter (n := 114) Tryz.func68 rfl rfl rfl hE ?_
 refine Tr.sr ?_
 refine Tr.asg rfl rfl ?_
 refine Tr.nilOwn 1 125 fl_TSide ?_
 show Tr _ _ (uf _ 2 (.slice none (([] : List TSide)).length 0)) _ _
 refine Tr.nil (Tr.normThen ?_)
 refine Tr.sr ?_
 refine Tr.alloc 2 (wn rfl) rfl ze_121 fun b100 => ?_
 refine Tr.nil (Tr.normThen ?_)
 refine Tr.sr ?_
 refine Tr.mkFunc (vs := [(.pointer (some ⟨b100, 0, none⟩))]) (wn rfl) rfl (evl_cons rfl evl_nil) ?_
 refine Tr.alloc 3 (wn rfl) rfl ze_162 fun b101 => ?_
 refine Tr.store 3 (cs := [(.func (.func 111) #[] #[(.pointer (some ⟨b100, 0, none⟩))])]) [(.func (.func 111) #[] #[(.pointer (some ⟨b100, 0, none⟩))])] (wn rfl) rfl rfl rfl rfl sz_162 rfl rfl rfl ?_
 refine Tr.nil (Tr.normThen ?_)
 refine Tr.sr ?_
 refine Tr.mkFunc (vs := [(.pointer (some ⟨b101, 0, none⟩))]) (wn rfl) rfl (evl_cons rfl evl_nil) ?_
 refine Tr.asg rfl rfl ?_
 refine Tr.nil (Tr.normThen ?_)
 refine Tr.seq ?_
 refine Tr.sr ?_
 refine Tr.mv rfl rfl ?_
 refine Tr.v1 rfl (run_len un_62) rfl ?_
 refine Tr.mv rfl rfl ?_
 refine Tr.nil (Tr.normThen ?_)
 refine Tr.block ?_
 refine Tr.nilOwn 14 125 fl_TSide ?_
 refine Tr.loop (σ := (List TBand) × Nat × (List TSide) × (Option Addr) × Nat) (fun m w s => m = s.1.length + 1 ∧ s.1 = List.drop s.2.1 p0 ∧ s.2.1 ≤ p0.length ∧ F_shape_Set__sides_L5 N p0 s.1 s.2.1 s.2.2.1 = some r ∧ SlF s.2.2.2.1 (s.2.2.1).length s.2.2.2.2) (fun s => [(0, (.slice Ap0_0 (p0).length cp0_0)), (3, (.pointer (some ⟨b100, 0, none⟩))), (4, (.pointer (some ⟨b101, 0, none⟩))), (5, (.func (.func 112) #[] #[(.pointer (some ⟨b101, 0, none⟩))])), (11, (.slice Ap0_0 (p0).length cp0_0)), (12, (iv (p0.length : Int))), (13, (iv (s.2.1 : Int)))]) (fun s => [(2, bx b100 #[(.slice s.2.2.2.1 (s.2.2.1).length s.2.2.2.2)] 121), (3, bx b101 #[(.func (.func 111) #[] #[(.pointer (some ⟨b100, 0, none⟩))])] 162), (14, ow s.2.2.2.1 s.2.2.2.2 125 fl_TSide s.2.2.1)]) (p0.length + 1) (p0, 0, ([] : List TSide), none, 0) ⟨rfl, rfl, Nat.zero_le _, H, slf_nil⟩ (.r rfl) (.r rfl) (fun _ _ h => absurd h.1 (by simp)) ?_
 intro w leL5 m s hs
 obtain ⟨restL5, iL5, l242, Al242, cl242⟩ := s
 obtain ⟨hmL5, hdL5, hiL5, H, hl242⟩ := hs
 replace hdL5 : restL5 = List.drop iL5 p0 := hdL5
 replace H : F_shape_Set__sides_L5 N p0 restL5 iL5 l242 = some r := H
 replace hmL5 : m + 1 = restL5.length + 1 := hmL5
 replace hp0_0 := hp0_0.leR leL5
 replace leB := leB.trans leL5
 replace hl242 : SlF Al242 (l242).length cl242 := hl242
 obtain rfl : m = restL5.length := by omega
 clear hmL5
 show Tr _ _ (LF [(0, (.slice Ap0_0 (p0).length cp0_0)), (3, (.pointer (some ⟨b100, 0, none⟩))), (4, (.pointer (some ⟨b101, 0, none⟩))), (5, (.func (.func 112) #[] #[(.pointer (some ⟨b101, 0, none⟩))])), (11, (.slice Ap0_0 (p0).length cp0_0)), (12, (iv (p0.length : Int))), (13, (iv (iL5 : Int)))]) (LE [(2, bx b100 #[(.slice Al242 (l242).length cl242)] 121), (3, bx b101 #[(.func (.func 111) #[] #[(.pointer (some ⟨b100, 0, none⟩))])] 162), (14, ow Al242 cl242 125 fl_TSide l242)]) _
 cases restL5 with
 | nil =>
  rw [F_shape_Set__sides_L5.eq_1] at H
  refine Tr.sr ?_
  refine Tr.v2 rfl run_lss rfl rfl ?_
  refine Tr.nil (Tr.normThen ?_)
  refine Tr.seq ?_
  refine Tr.condF rfl (range_nil hdL5) ?_
  refine Tr.exit (Tr.exitThen (Tr.exitThen (Tr.exitBlock (Tr.normThen ?_))))
  refine Tr.sr ?_
  refine Tr.va rfl (fun _ _ h1 h2 => run_load1 ag_121 (h1.ev rfl) (rdb h2 (vs := [(.slice Al242 (l242).length cl242)]) (k := 2) rfl 0) rfl) ?_
  refine Tr.asg rfl rfl ?_
  refine Tr.nil (Tr.normThen ?_)
  refine Tr.ret ?_
  obtain rfl := Option.some.inj H
  exact Tr.out (m := [(.slice Al242 (l242).length cl242)]) [] (res_tmp rfl res_nil) (fun W hW => ⟨(Al242, cl242), rfl, hl242, HF.lowE leB (hW.pick (ks := [14]) (by decide) (pk_cons rfl pk_nil)) ⟨ow_any _ _ _ _ tr_TSide, trivial⟩⟩)
 | cons xL5 restL5 =>
  rw [F_shape_Set__sides_L5.eq_2] at H
  refine Tr.sr ?_
  refine Tr.v2 rfl run_lss rfl rfl ?_
  refine Tr.nil (Tr.normThen ?_)
  refine Tr.seq ?_
  refine Tr.condT rfl (range_on hdL5) ?_
  refine Tr.skip (Tr.normThen ?_)
  refine Tr.seq ?_
  refine Tr.block ?_
  refine Tr.sr ?_
  refine Tr.mv rfl rfl ?_
  obtain ⟨u243, hRu243, hoku243, hcu243⟩ := (hp0_0).el (range_at hdL5)
  obtain ⟨Au243_0, cu243_0⟩ := u243
  have hoku243_0 := hoku243
  replace hoku243_0 : Sl w.R w.W fl_i64 Au243_0 cu243_0 xL5.Xs := hoku243_0
  refine Tr.va rfl (fun _ _ h1 h2 => run_indexAddr el_62 (h1.ev rfl) hp0_0.form (h1.ev rfl) (Int.natCast_nonneg _) (range_lt hdL5)) ?_
  refine Tr.va rfl (fun _ _ h1 h2 => run_loadN (cs := [(iv xL5.Y0), (iv xL5.Y1), (.slice Au243_0 (xL5.Xs).length cu243_0)]) ag_98 sz_98 (h1.ev rfl) (CellsAt.take (rdR hRu243 hcu243 h2) 3) rfl) ?_
  refine Tr.alloc 15 (wn rfl) rfl ze_98 fun b244 => ?_
  refine Tr.asg rfl rfl ?_
  refine Tr.store 15 (cs := [(iv xL5.Y0), (iv xL5.Y1), (.slice Au243_0 (xL5.Xs).length cu243_0)]) [(iv xL5.Y0), (iv xL5.Y1), (.slice Au243_0 (xL5.Xs).length cu243_0)] (wn rfl) rfl rfl rfl rfl sz_98 rfl rfl rfl ?_
  refine Tr.nil (Tr.normThen ?_)
  refine Tr.seq ?_
  refine Tr.sr ?_
  refine Tr.asg rfl rfl ?_
  refine Tr.nil (Tr.normThen ?_)
  refine Tr.block ?_
  refine Tr.loop (σ := (List TSide) × Int × (Option Addr) × Nat) (fun m w s => F_shape_Set__sides_L6 N p0 (F_shape_Set__sides_L5 N p0 restL5 (iL5 + 1)) xL5 iL5 m s.1 s.2.1 = some r ∧ SlF s.2.2.1 (s.1).length s.2.2.2) (fun s => [(0, (.slice Ap0_0 (p0).length cp0_0)), (3, (.pointer (some ⟨b100, 0, none⟩))), (4, (.pointer (some ⟨b101, 0, none⟩))), (5, (.func (.func 112) #[] #[(.pointer (some ⟨b101, 0, none⟩))])), (6, (iv (iL5 : Int))), (7, (.pointer (some ⟨b244, 0, none⟩))), (8, (iv s.2.1)), (11, (.slice Ap0_0 (p0).length cp0_0)), (12, (iv (p0.length : Int))), (13, (iv (iL5 : Int)))]) (fun s => [(2, bx b100 #[(.slice s.2.2.1 (s.1).length s.2.2.2)] 121), (3, bx b101 #[(.func (.func 111) #[] #[(.pointer (some ⟨b100, 0, none⟩))])] 162), (14, ow s.2.2.1 s.2.2.2 125 fl_TSide s.1), (15, bx b244 #[(iv xL5.Y0), (iv xL5.Y1), (.slice Au243_0 (xL5.Xs).length cu243_0)] 98)]) N (l242, 0, Al242, cl242) ⟨H, hl242⟩ (.r rfl) (.r rfl) (fun _ _ h => noSome (h.1)) ?_
  intro w leL6 mL6 s hs
  obtain ⟨l267, x268, Al267, cl267⟩ := s
  obtain ⟨H, hl267⟩ := hs
  replace H : F_shape_Set__sides_L6 N p0 (F_shape_Set__sides_L5 N p0 restL5 (iL5 + 1)) xL5 iL5 (mL6 + 1) l267 x268 = some r := H
  replace hp0_0 := hp0_0.leR leL6
  replace hoku243_0 := hoku243_0.leR leL6
  replace leB := leB.trans leL6
  replace leL5 := leL5.trans leL6
  replace hl267 : SlF Al267 (l267).length cl267 := hl267
  rw [F_shape_Set__sides_L6.eq_2] at H
  show Tr _ _ (LF [(0, (.slice Ap0_0 (p0).length cp0_0)), (3, (.pointer (some ⟨b100, 0, none⟩))), (4, (.pointer (some ⟨b101, 0, none⟩))), (5, (.func (.func 112) #[] #[(.pointer (some ⟨b101, 0, none⟩))])), (6, (iv (iL5 : Int))), (7, (.pointer (some ⟨b244, 0, none⟩))), (8, (iv x268)), (11, (.slice Ap0_0 (p0).length cp0_0)), (12, (iv (p0.length : Int))), (13, (iv (iL5 : Int)))]) (LE [(2, bx b100 #[(.slice Al267 (l267).length cl267)] 121), (3, bx b101 #[(.func (.func 111) #[] #[(.pointer (some ⟨b100, 0, none⟩))])] 162), (14, ow Al267 cl267 125 fl_TSide l267), (15, bx b244 #[(iv xL5.Y0), (iv xL5.Y1), (.slice Au243_0 (xL5.Xs).length cu243_0)] 98)]) _
  refine Tr.seq ?_
  refine Tr.sr ?_
  refine Tr.mv rfl rfl ?_
  refine Tr.v1 rfl (run_fieldAddr fo_98_2) rfl ?_
  refine Tr.va rfl (fun _ _ h1 h2 => run_load1 ag_96 (h1.ev rfl) (rdb h2 (vs := [(iv xL5.Y0), (iv xL5.Y1), (.slice Au243_0 (xL5.Xs).length cu243_0)]) (k := 15) rfl 2) rfl) ?_
  refine Tr.v1 rfl (run_len un_96) rfl ?_
  refine Tr.v2 rfl run_lss rfl rfl ?_
  refine Tr.nil (Tr.normThen ?_)
  refine Tr.cond rfl H (fun H => ?_) (fun H => ?_)
  ·refine Tr.skip (Tr.normThen ?_)
   refine Tr.seq ?_
   refine Tr.block ?_
   refine Tr.seq ?_
   refine Tr.drawTail 15 (by kernel_rfl) (by kernel_rfl) ?_
   refine Tq.va rfl (fun _ _ h1 h2 => run_load1 ag_162 (h1.ev rfl) (rdb h2 (vs := [(.func (.func 111) #[] #[(.pointer (some ⟨b100, 0, none⟩))])]) (k := 3) rfl 0) rfl) ?_
   refine Tq.v1 rfl (run_fieldAddr fo_98_2) rfl ?_
   refine Tq.va rfl (fun _ _ h1 h2 => run_load1 ag_96 (h1.ev rfl) (rdb h2 (vs := [(iv xL5.Y0), (iv xL5.Y1), (.slice Au243_0 (xL5.Xs).length cu243_0)]) (k := 15) rfl 2) rfl) ?_
   refine Tq.mv rfl rfl ?_
   obtain ⟨x269, hx269, H⟩ := bnd H
   obtain ⟨hx2690, hx2691, hx2692⟩ := idx_some hx269
   refine Tq.va rfl (fun _ _ h1 h2 => run_indexAddr el_96 (h1.ev rfl) hoku243_0.form (h1.ev rfl) hx2690 hx2691) ?_
   refine Tq.va rfl (fun _ _ h1 h2 => run_load1 ag_3 (h1.ev rfl) (rdF ef_i64 hoku243_0 hx2692 h2) rfl) ?_
   refine Tq.v1 rfl (run_fieldAddr fo_98_1) rfl ?_
   refine Tq.va rfl (fun _ _ h1 h2 => run_load1 ag_3 (h1.ev rfl) (rdb h2 (vs := [(iv xL5.Y0), (iv xL5.Y1), (.slice Au243_0 (xL5.Xs).length cu243_0)]) (k := 15) rfl 1) rfl) ?_
   refine Tq.v1 rfl (run_fieldAddr fo_98_2) rfl ?_
   refine Tq.va rfl (fun _ _ h1 h2 => run_load1 ag_96 (h1.ev rfl) (rdb h2 (vs := [(iv xL5.Y0), (iv xL5.Y1), (.slice Au243_0 (xL5.Xs).length cu243_0)]) (k := 15) rfl 2) rfl) ?_
   refine Tq.mv rfl rfl ?_
   obtain ⟨x270, hx270, H⟩ := bnd H
   obtain ⟨hx2700, hx2701, hx2702⟩ := idx_some hx270
   refine Tq.va rfl (fun _ _ h1 h2 => run_indexAddr el_96 (h1.ev rfl) hoku243_0.form (h1.ev rfl) hx2700 hx2701) ?_
   refine Tq.va rfl (fun _ _ h1 h2 => run_load1 ag_3 (h1.ev rfl) (rdF ef_i64 hoku243_0 hx2702 h2) rfl) ?_
   refine Tq.v1 rfl (run_fieldAddr fo_98_0) rfl ?_
   refine Tq.va rfl (fun _ _ h1 h2 => run_load1 ag_3 (h1.ev rfl) (rdb h2 (vs := [(iv xL5.Y0), (iv xL5.Y1), (.slice Au243_0 (xL5.Xs).length cu243_0)]) (k := 15) rfl 0) rfl) ?_
   refine Tq.nil ?_
   obtain ⟨y271, hy271, H⟩ := bnd H
   refine Tr.callMC [2, 14] [bx b100 #[(.slice Al267 (l267).length cl267)] 121, ow Al267 cl267 125 fl_TSide l267] (U := (Option Addr × Nat)) (fun u => (.tuple #[])) (fun u => SlF u.1 (y271).length u.2) (fun u => [bx b100 #[(.slice u.1 (y271).length u.2)] 121, ow u.1 u.2 125 fl_TSide y271]) rfl (pk_cons rfl (pk_cons rfl pk_nil)) (fun _ => rfl) (wn rfl) rfl rfl Tryz.call111 (evl_cons rfl (evl_cons rfl (evl_cons rfl (evl_cons rfl evl_nil)))) (fun W hW hp hE => F_shape_Set__sides_1_ok x269 xL5.Y1 x270 xL5.Y0 l267 Al267 cl267 b100 y271 hy271 hE) ?_
   intro u hu
   obtain ⟨Ay271_0, cy271_0⟩ := u
   have gy271_0 := hu
   have hgy271_0 : SlF Ay271_0 (y271).length cy271_0 := gy271_0 --@phi
   show Tr _ _ (uf _ 40 (.tuple #[])) (up (up _ 14 (ow Ay271_0 cy271_0 125 fl_TSide y271)) 2 (bx b100 #[(.slice Ay271_0 (y271).length cy271_0)] 121)) _
   refine Tr.nil (Tr.normThen ?_)
   refine Tr.drawTail 17 (by kernel_rfl) (by kernel_rfl) ?_
   refine Tq.va rfl (fun _ _ h1 h2 => run_load1 ag_162 (h1.ev rfl) (rdb h2 (vs := [(.func (.func 111) #[] #[(.pointer (some ⟨b100, 0, none⟩))])]) (k := 3) rfl 0) rfl) ?_
   refine Tq.v1 rfl (run_fieldAddr fo_98_2) rfl ?_
   refine Tq.va rfl (fun _ _ h1 h2 => run_load1 ag_96 (h1.ev rfl) (rdb h2 (vs := [(iv xL5.Y0), (iv xL5.Y1), (.slice Au243_0 (xL5.Xs).length cu243_0)]) (k := 15) rfl 2) rfl) ?_
   refine Tq.mv rfl rfl ?_
   refine Tq.v2 rfl run_add rfl rfl ?_
   obtain ⟨x273, hx273, H⟩ := bnd H
   obtain ⟨hx2730, hx2731, hx2732⟩ := idx_some hx273
   refine Tq.va rfl (fun _ _ h1 h2 => run_indexAddr el_96 (h1.ev rfl) hoku243_0.form (h1.ev rfl) hx2730 hx2731) ?_
   refine Tq.va rfl (fun _ _ h1 h2 => run_load1 ag_3 (h1.ev rfl) (rdF ef_i64 hoku243_0 hx2732 h2) rfl) ?_
   refine Tq.v1 rfl (run_fieldAddr fo_98_0) rfl ?_
   refine Tq.va rfl (fun _ _ h1 h2 => run_load1 ag_3 (h1.ev rfl) (rdb h2 (vs := [(iv xL5.Y0), (iv xL5.Y1), (.slice Au243_0 (xL5.Xs).length cu243_0)]) (k := 15) rfl 0) rfl) ?_
   refine Tq.v1 rfl (run_fieldAddr fo_98_2) rfl ?_
   refine Tq.va rfl (fun _ _ h1 h2 => run_load1 ag_96 (h1.ev rfl) (rdb h2 (vs := [(iv xL5.Y0), (iv xL5.Y1), (.slice Au243_0 (xL5.Xs).length cu243_0)]) (k := 15) rfl 2) rfl) ?_
   refine Tq.mv rfl rfl ?_
   refine Tq.v2 rfl run_add rfl rfl ?_
   obtain ⟨x274, hx274, H⟩ := bnd H
   obtain ⟨hx2740, hx2741, hx2742⟩ := idx_some hx274
   refine Tq.va rfl (fun _ _ h1 h2 => run_indexAddr el_96 (h1.ev rfl) hoku243_0.form (h1.ev rfl) hx2740 hx2741) ?_
   refine Tq.va rfl (fun _ _ h1 h2 => run_load1 ag_3 (h1.ev rfl) (rdF ef_i64 hoku243_0 hx2742 h2) rfl) ?_
   refine Tq.v1 rfl (run_fieldAddr fo_98_1) rfl ?_
   refine Tq.va rfl (fun _ _ h1 h2 => run_load1 ag_3 (h1.ev rfl) (rdb h2 (vs := [(iv xL5.Y0), (iv xL5.Y1), (.slice Au243_0 (xL5.Xs).length cu243_0)]) (k := 15) rfl 1) rfl) ?_
   refine Tq.nil ?_
   obtain ⟨y275, hy275, H⟩ := bnd H
   refine Tr.callMC [2, 14] [bx b100 #[(.slice Ay271_0 (y271).length cy271_0)] 121, ow Ay271_0 cy271_0 125 fl_TSide y271] (U := (Option Addr × Nat)) (fun u => (.tuple #[])) (fun u => SlF u.1 (y275).length u.2) (fun u => [bx b100 #[(.slice u.1 (y275).length u.2)] 121, ow u.1 u.2 125 fl_TSide y275]) rfl (pk_cons rfl (pk_cons rfl pk_nil)) (fun _ => rfl) (wn rfl) rfl rfl Tryz.call111 (evl_cons rfl (evl_cons rfl (evl_cons rfl (evl_cons rfl evl_nil)))) (fun W hW hp hE => F_shape_Set__sides_1_ok x273 xL5.Y0 x274 xL5.Y1 y271 Ay271_0 cy271_0 b100 y275 hy275 hE) ?_
   intro u hu
   obtain ⟨Ay275_0, cy275_0⟩ := u
   have gy275_0 := hu
   have hgy275_0 : SlF Ay275_0 (y275).length cy275_0 := gy275_0 --@phi
   show Tr _ _ (uf _ 58 (.tuple #[])) (up (up _ 14 (ow Ay275_0 cy275_0 125 fl_TSide y275)) 2 (bx b100 #[(.slice Ay275_0 (y275).length cy275_0)] 121)) _
   refine Tr.nil (Tr.normBlock (Tr.normThen ?_))
   refine Tr.region ?_
   refine Tr.mv rfl rfl ?_
   refine Tr.v2 rfl run_add rfl rfl ?_
   refine Tr.asg rfl rfl ?_
   refine Tr.nil ?_
   exact Tr.backThen leL6 (y275, (w64 (x268 + 2)), Ay275_0, cy275_0) ⟨H, hgy275_0⟩ (.r rfl) (.r rfl)
  ·refine Tr.exit (Tr.exitThen (Tr.exitThen (Tr.exitBlock (Tr.normThen ?_))))
   have leJ289 := Bs.Le.refl w
   refine Tr.cutJ (σ := (List TSide) × (Option Addr) × Nat) (fun w s => F_shape_Set__sides_J7 N p0 (F_shape_Set__sides_L5 N p0 restL5 (iL5 + 1)) xL5 iL5 s.1 = some r ∧ SlF s.2.1 (s.1).length s.2.2) (fun s => [(0, (.slice Ap0_0 (p0).length cp0_0)), (3, (.pointer (some ⟨b100, 0, none⟩))), (4, (.pointer (some ⟨b101, 0, none⟩))), (5, (.func (.func 112) #[] #[(.pointer (some ⟨b101, 0, none⟩))])), (6, (iv (iL5 : Int))), (7, (.pointer (some ⟨b244, 0, none⟩))), (11, (.slice Ap0_0 (p0).length cp0_0)), (12, (iv (p0.length : Int))), (13, (iv (iL5 : Int)))]) (fun s => [(2, bx b100 #[(.slice s.2.1 (s.1).length s.2.2)] 121), (3, bx b101 #[(.func (.func 111) #[] #[(.pointer (some ⟨b100, 0, none⟩))])] 162), (14, ow s.2.1 s.2.2 125 fl_TSide s.1), (15, bx b244 #[(iv xL5.Y0), (iv xL5.Y1), (.slice Au243_0 (xL5.Xs).length cu243_0)] 98)]) ?_ ?_
   ·refine Tr.seq ?_
    refine Tr.draw (by kernel_rfl) (by kernel_rfl) ?_
    refine Tq.mv rfl rfl ?_
    refine Tq.v2 rfl run_eql rfl rfl ?_
    refine Tq.mv rfl rfl ?_
    obtain ⟨g300, hg300, H⟩ := bnd H
    refine Tq.mid 10 [(0, (.slice Ap0_0 (p0).length cp0_0)), (3, (.pointer (some ⟨b100, 0, none⟩))), (4, (.pointer (some ⟨b101, 0, none⟩))), (5, (.func (.func 112) #[] #[(.pointer (some ⟨b101, 0, none⟩))])), (6, (iv (iL5 : Int))), (7, (.pointer (some ⟨b244, 0, none⟩))), (11, (.slice Ap0_0 (p0).length cp0_0)), (12, (iv (p0.length : Int))), (13, (iv (iL5 : Int))), (71, (.bool g300))] ?_ ?_
    ·cases hg308 : ((iL5 : Int) == 0)
     ·rw [hg308] at hg300
      rw [if_neg (by decide)] at hg300
      have H := hg300
      refine Tq.w1 (wg rfl rfl rfl) rfl run_move rfl ?_
      refine Tq.w1 (wg rfl rfl rfl) rfl run_move rfl ?_
      refine Tq.w2 (wg rfl rfl rfl) rfl run_sub rfl rfl ?_
      obtain ⟨x301, hx301, H⟩ := bnd H
      obtain ⟨hx3010, hx3011, hx3012⟩ := idx_some hx301
      obtain ⟨u302, hRu302, hoku302, hcu302⟩ := (hp0_0).el hx3012
      obtain ⟨Au302_0, cu302_0⟩ := u302
      have hoku302_0 := hoku302
      replace hoku302_0 : Sl w.R w.W fl_i64 Au302_0 cu302_0 x301.Xs := hoku302_0
      refine Tq.val (wg rfl rfl rfl) rfl (fun _ _ h1 h2 => run_indexAddr el_62 (h1.ev rfl) hp0_0.form (h1.ev rfl) hx3010 hx3011) ?_
      refine Tq.w1 (wg rfl rfl rfl) rfl (run_fieldAddr fo_98_1) rfl ?_
      refine Tq.val (wg rfl rfl rfl) rfl (fun _ _ h1 h2 => run_load1 ag_3 (h1.ev rfl) (CellsAt.drop (rdR hRu302 hcu302 h2) 1) rfl) ?_
      refine Tq.w1 (wg rfl rfl rfl) rfl (run_fieldAddr fo_98_0) rfl ?_
      refine Tq.val (wg rfl rfl rfl) rfl (fun _ _ h1 h2 => run_load1 ag_3 (h1.ev rfl) (rdb h2 (vs := [(iv xL5.Y0), (iv xL5.Y1), (.slice Au243_0 (xL5.Xs).length cu243_0)]) (k := 15) rfl 0) rfl) ?_
      refine Tq.w2 (wg rfl rfl rfl) rfl run_lss rfl rfl ?_
      refine Tq.v2 rfl run_pickF rfl rfl ?_
      obtain rfl := Option.some.inj H
      exact Tq.fin (.r rfl)
     ·rw [hg308] at hg300
      rw [if_pos rfl] at hg300
      have H := hg300
      obtain rfl := Option.some.inj H
      refine Tq.ps ?_
      refine Tq.ps ?_
      refine Tq.ps ?_
      refine Tq.ps ?_
      refine Tq.ps ?_
      refine Tq.ps ?_
      refine Tq.ps ?_
      refine Tq.ps ?_
      refine Tq.ps ?_
      refine Tq.v2 rfl run_pickT rfl rfl ?_
      exact Tq.fin (.r rfl)
    ·refine Tq.nil (Tr.normThen ?_)
     refine Tr.cond rfl H (fun H => ?_) (fun H => ?_)
     ·refine Tr.region ?_
      refine Tr.mv rfl rfl ?_
      refine Tr.v1 rfl (run_fieldAddr fo_98_0) rfl ?_
      refine Tr.va rfl (fun _ _ h1 h2 => run_load1 ag_3 (h1.ev rfl) (rdb h2 (vs := [(iv xL5.Y0), (iv xL5.Y1), (.slice Au243_0 (xL5.Xs).length cu243_0)]) (k := 15) rfl 0) rfl) ?_
      refine Tr.v1 rfl (run_fieldAddr fo_98_2) rfl ?_
      refine Tr.va rfl (fun _ _ h1 h2 => run_load1 ag_96 (h1.ev rfl) (rdb h2 (vs := [(iv xL5.Y0), (iv xL5.Y1), (.slice Au243_0 (xL5.Xs).length cu243_0)]) (k := 15) rfl 2) rfl) ?_
      obtain ⟨y303, hy303, H⟩ := bnd H
      refine Tr.callMC [2, 14] [bx b100 #[(.slice Al267 (l267).length cl267)] 121, ow Al267 cl267 125 fl_TSide l267] (U := (Option Addr × Nat)) (fun u => (.tuple #[])) (fun u => SlF u.1 (y303).length u.2) (fun u => [bx b100 #[(.slice u.1 (y303).length u.2)] 121, ow u.1 u.2 125 fl_TSide y303]) rfl (pk_cons rfl (pk_cons rfl pk_nil)) (fun _ => rfl) (wn rfl) rfl rfl Tryz.call112 (evl_cons rfl (evl_cons rfl (evl_cons rfl evl_nil))) (fun W hW hp hE => F_shape_Set__sides_2__sides_1_ok N xL5.Y0 [] none 0 (Sl.nil _ _ _) xL5.Xs Au243_0 cu243_0 (hoku243_0.ext (hW.extS hp)) b101 l267 Al267 cl267 b100 (hW.boxS (k := 3) rfl hp rfl) (hW.boxC (k := 3) rfl) y303 hy303 hE) ?_
      intro u hu
      obtain ⟨Ay303_0, cy303_0⟩ := u
      have gy303_0 := hu
      have hgy303_0 : SlF Ay303_0 (y303).length cy303_0 := gy303_0 --@phi
      show Tr _ _ (uf _ 77 (.tuple #[])) (up (up _ 14 (ow Ay303_0 cy303_0 125 fl_TSide y303)) 2 (bx b100 #[(.slice Ay303_0 (y303).length cy303_0)] 121)) _
      refine Tr.nil ?_
      exact Tr.backThen leJ289 (y303, Ay303_0, cy303_0) ⟨H, hgy303_0⟩ (.r rfl) (.r rfl)
     ·refine Tr.drawTail 11 (by kernel_rfl) (by kernel_rfl) ?_
      refine Tq.mv rfl rfl ?_
      refine Tq.v1 rfl (run_fieldAddr fo_98_0) rfl ?_
      refine Tq.va rfl (fun _ _ h1 h2 => run_load1 ag_3 (h1.ev rfl) (rdb h2 (vs := [(iv xL5.Y0), (iv xL5.Y1), (.slice Au243_0 (xL5.Xs).length cu243_0)]) (k := 15) rfl 0) rfl) ?_
      refine Tq.mv rfl rfl ?_
      refine Tq.mv rfl rfl ?_
      refine Tq.v2 rfl run_sub rfl rfl ?_
      obtain ⟨x305, hx305, H⟩ := bnd H
      obtain ⟨hx3050, hx3051, hx3052⟩ := idx_some hx305
      obtain ⟨u306, hRu306, hoku306, hcu306⟩ := (hp0_0).el hx3052
      obtain ⟨Au306_0, cu306_0⟩ := u306
      have hoku306_0 := hoku306
      replace hoku306_0 : Sl w.R w.W fl_i64 Au306_0 cu306_0 x305.Xs := hoku306_0
      refine Tq.va rfl (fun _ _ h1 h2 => run_indexAddr el_62 (h1.ev rfl) hp0_0.form (h1.ev rfl) hx3050 hx3051) ?_
      refine Tq.v1 rfl (run_fieldAddr fo_98_2) rfl ?_
      refine Tq.va rfl (fun _ _ h1 h2 => run_load1 ag_96 (h1.ev rfl) (CellsAt.drop (rdR hRu306 hcu306 h2) 2) rfl) ?_
      refine Tq.v1 rfl (run_fieldAddr fo_98_2) rfl ?_
      refine Tq.va rfl (fun _ _ h1 h2 => run_load1 ag_96 (h1.ev rfl) (rdb h2 (vs := [(iv xL5.Y0), (iv xL5.Y1), (.slice Au243_0 (xL5.Xs).length cu243_0)]) (k := 15) rfl 2) rfl) ?_
      refine Tq.nil ?_
      obtain ⟨y307, hy307, H⟩ := bnd H
      refine Tr.callMC [2, 14] [bx b100 #[(.slice Al267 (l267).length cl267)] 121, ow Al267 cl267 125 fl_TSide l267] (U := (Option Addr × Nat)) (fun u => (.tuple #[])) (fun u => SlF u.1 (y307).length u.2) (fun u => [bx b100 #[(.slice u.1 (y307).length u.2)] 121, ow u.1 u.2 125 fl_TSide y307]) rfl (pk_cons rfl (pk_cons rfl pk_nil)) (fun _ => rfl) (wn rfl) rfl rfl Tryz.call112 (evl_cons rfl (evl_cons rfl (evl_cons rfl evl_nil))) (fun W hW hp hE => F_shape_Set__sides_2__sides_1_ok N xL5.Y0 x305.Xs Au306_0 cu306_0 (hoku306_0.ext (hW.extS hp)) xL5.Xs Au243_0 cu243_0 (hoku243_0.ext (hW.extS hp)) b101 l267 Al267 cl267 b100 (hW.boxS (k := 3) rfl hp rfl) (hW.boxC (k := 3) rfl) y307 hy307 hE) ?_
      intro u hu
      obtain ⟨Ay307_0, cy307_0⟩ := u
      have gy307_0 := hu
      have hgy307_0 : SlF Ay307_0 (y307).length cy307_0 := gy307_0 --@phi
      show Tr _ _ (uf _ 89 (.tuple #[])) (up (up _ 14 (ow Ay307_0 cy307_0 125 fl_TSide y307)) 2 (bx b100 #[(.slice Ay307_0 (y307).length cy307_0)] 121)) _
      refine Tr.nil ?_
      exact Tr.backThen leJ289 (y307, Ay307_0, cy307_0) ⟨H, hgy307_0⟩ (.r rfl) (.r rfl)
   ·intro w s hlJ290 hs
    obtain ⟨l288, Al288, cl288⟩ := s
    obtain ⟨H, hl288⟩ := hs
    replace H : F_shape_Set__sides_J7 N p0 (F_shape_Set__sides_L5 N p0 restL5 (iL5 + 1)) xL5 iL5 l288 = some r := H
    replace hp0_0 := hp0_0.leR hlJ290
    replace hoku243_0 := hoku243_0.leR hlJ290
    replace leB := leB.trans hlJ290
    replace leL5 := leL5.trans hlJ290
    replace leL6 := leL6.trans hlJ290
    replace hl288 : SlF Al288 (l288).length cl288 := hl288
    unfold F_shape_Set__sides_J7 at H
    show Tr _ _ (LF [(0, (.slice Ap0_0 (p0).length cp0_0)), (3, (.pointer (some ⟨b100, 0, none⟩))), (4, (.pointer (some ⟨b101, 0, none⟩))), (5, (.func (.func 112) #[] #[(.pointer (some ⟨b101, 0, none⟩))])), (6, (iv (iL5 : Int))), (7, (.pointer (some ⟨b244, 0, none⟩))), (11, (.slice Ap0_0 (p0).length cp0_0)), (12, (iv (p0.length : Int))), (13, (iv (iL5 : Int)))]) (LE [(2, bx b100 #[(.slice Al288 (l288).length cl288)] 121), (3, bx b101 #[(.func (.func 111) #[] #[(.pointer (some ⟨b100, 0, none⟩))])] 162), (14, ow Al288 cl288 125 fl_TSide l288), (15, bx b244 #[(iv xL5.Y0), (iv xL5.Y1), (.slice Au243_0 (xL5.Xs).length cu243_0)] 98)]) _
    refine Tr.seq ?_
    refine Tr.draw (by kernel_rfl) (by kernel_rfl) ?_
    refine Tq.mv rfl rfl ?_
    refine Tq.v2 rfl run_add rfl rfl ?_
    refine Tq.mv rfl rfl ?_
    refine Tq.v1 rfl (run_len un_62) rfl ?_
    refine Tq.v2 rfl run_eql rfl rfl ?_
    refine Tq.mv rfl rfl ?_
    obtain ⟨g293, hg293, H⟩ := bnd H
    refine Tq.mid 10 [(0, (.slice Ap0_0 (p0).length cp0_0)), (3, (.pointer (some ⟨b100, 0, none⟩))), (4, (.pointer (some ⟨b101, 0, none⟩))), (5, (.func (.func 112) #[] #[(.pointer (some ⟨b101, 0, none⟩))])), (7, (.pointer (some ⟨b244, 0, none⟩))), (11, (.slice Ap0_0 (p0).length cp0_0)), (12, (iv (p0.length : Int))), (13, (iv (iL5 : Int))), (105, (.bool g293))] ?_ ?_
    ·cases hg297 : ((w64 ((iL5 : Int) + 1)) == (p0.length : Int))
     ·rw [hg297] at hg293
      rw [if_neg (by decide)] at hg293
      have H := hg293
      refine Tq.w1 (wg rfl rfl rfl) rfl run_move rfl ?_
      refine Tq.w1 (wg rfl rfl rfl) rfl run_move rfl ?_
      refine Tq.w2 (wg rfl rfl rfl) rfl run_add rfl rfl ?_
      obtain ⟨x294, hx294, H⟩ := bnd H
      obtain ⟨hx2940, hx2941, hx2942⟩ := idx_some hx294
      obtain ⟨u295, hRu295, hoku295, hcu295⟩ := (hp0_0).el hx2942
      obtain ⟨Au295_0, cu295_0⟩ := u295
      have hoku295_0 := hoku295
      replace hoku295_0 : Sl w.R w.W fl_i64 Au295_0 cu295_0 x294.Xs := hoku295_0
      refine Tq.val (wg rfl rfl rfl) rfl (fun _ _ h1 h2 => run_indexAddr el_62 (h1.ev rfl) hp0_0.form (h1.ev rfl) hx2940 hx2941) ?_
      refine Tq.w1 (wg rfl rfl rfl) rfl (run_fieldAddr fo_98_0) rfl ?_
      refine Tq.val (wg rfl rfl rfl) rfl (fun _ _ h1 h2 => run_load1 ag_3 (h1.ev rfl) (CellsAt.drop (rdR hRu295 hcu295 h2) 0) rfl) ?_
      refine Tq.w1 (wg rfl rfl rfl) rfl (run_fieldAddr fo_98_1) rfl ?_
      refine Tq.val (wg rfl rfl rfl) rfl (fun _ _ h1 h2 => run_load1 ag_3 (h1.ev rfl) (rdb h2 (vs := [(iv xL5.Y0), (iv xL5.Y1), (.slice Au243_0 (xL5.Xs).length cu243_0)]) (k := 15) rfl 1) rfl) ?_
      refine Tq.w2 (wg rfl rfl rfl) rfl run_gtr rfl rfl ?_
      refine Tq.v2 rfl run_pickF rfl rfl ?_
      obtain rfl := Option.some.inj H
      exact Tq.fin (.r rfl)
     ·rw [hg297] at hg293
      rw [if_pos rfl] at hg293
      have H := hg293
      obtain rfl := Option.some.inj H
      refine Tq.ps ?_
      refine Tq.ps ?_
      refine Tq.ps ?_
      refine Tq.ps ?_
      refine Tq.ps ?_
      refine Tq.ps ?_
      refine Tq.ps ?_
      refine Tq.ps ?_
      refine Tq.ps ?_
      refine Tq.v2 rfl run_pickT rfl rfl ?_
      exact Tq.fin (.r rfl)
    ·refine Tq.nil (Tr.normThen ?_)
     refine Tr.cond rfl H (fun H => ?_) (fun H => ?_)
     ·refine Tr.region ?_
      refine Tr.mv rfl rfl ?_
      refine Tr.v1 rfl (run_fieldAddr fo_98_1) rfl ?_
      refine Tr.va rfl (fun _ _ h1 h2 => run_load1 ag_3 (h1.ev rfl) (rdb h2 (vs := [(iv xL5.Y0), (iv xL5.Y1), (.slice Au243_0 (xL5.Xs).length cu243_0)]) (k := 15) rfl 1) rfl) ?_
      refine Tr.v1 rfl (run_fieldAddr fo_98_2) rfl ?_
      refine Tr.va rfl (fun _ _ h1 h2 => run_load1 ag_96 (h1.ev rfl) (rdb h2 (vs := [(iv xL5.Y0), (iv xL5.Y1), (.slice Au243_0 (xL5.Xs).length cu243_0)]) (k := 15) rfl 2) rfl) ?_
      obtain ⟨y296, hy296, H⟩ := bnd H
      refine Tr.callMC [2, 14] [bx b100 #[(.slice Al288 (l288).length cl288)] 121, ow Al288 cl288 125 fl_TSide l288] (U := (Option Addr × Nat)) (fun u => (.tuple #[])) (fun u => SlF u.1 (y296).length u.2) (fun u => [bx b100 #[(.slice u.1 (y296).length u.2)] 121, ow u.1 u.2 125 fl_TSide y296]) rfl (pk_cons rfl (pk_cons rfl pk_nil)) (fun _ => rfl) (wn rfl) rfl rfl Tryz.call112 (evl_cons rfl (evl_cons rfl (evl_cons rfl evl_nil))) (fun W hW hp hE => F_shape_Set__sides_2__sides_1_ok N xL5.Y1 xL5.Xs Au243_0 cu243_0 (hoku243_0.ext (hW.extS hp)) [] none 0 (Sl.nil _ _ _) b101 l288 Al288 cl288 b100 (hW.boxS (k := 3) rfl hp rfl) (hW.boxC (k := 3) rfl) y296 hy296 hE) ?_
      intro u hu
      obtain ⟨Ay296_0, cy296_0⟩ := u
      have gy296_0 := hu
      have hgy296_0 : SlF Ay296_0 (y296).length cy296_0 := gy296_0 --@phi
      show Tr _ _ (uf _ 111 (.tuple #[])) (up (up _ 14 (ow Ay296_0 cy296_0 125 fl_TSide y296)) 2 (bx b100 #[(.slice Ay296_0 (y296).length cy296_0)] 121)) _
      refine Tr.nil (Tr.normBlock (Tr.normThen ?_))
      refine Tr.region ?_
      refine Tr.v2 rfl run_add rfl rfl ?_
      refine Tr.mv rfl rfl ?_
      refine Tr.nil ?_
      exact Tr.backThen leL5 (restL5, (iL5 + 1), y296, Ay296_0, cy296_0) ⟨rfl, range_tl hdL5, range_lt hdL5, H, hgy296_0⟩ (.cons rfl (.cons rfl (.cons rfl (.cons rfl (.cons rfl (.cons rfl (.cons (congrArg (fun z => some (Value.int .i64 z)) (range_up hdL5 hp0_0.form)) .nil))))))) (.r rfl)
     ·refine Tr.skip (Tr.normBlock (Tr.normThen ?_))
      refine Tr.region ?_
      refine Tr.v2 rfl run_add rfl rfl ?_
      refine Tr.mv rfl rfl ?_
      refine Tr.nil ?_
      exact Tr.backThen leL5 (restL5, (iL5 + 1), l288, Al288, cl288) ⟨rfl, range_tl hdL5, range_lt hdL5, H, hl288⟩ (.cons rfl (.cons rfl (.cons rfl (.cons rfl (.cons rfl (.cons rfl (.cons (congrArg (fun z => some (Value.int .i64 z)) (range_up hdL5 hp0_0.form)) .nil))))))) (.r rfl)

theorem F_shape_side__direction_1_ok {w : Bs} (p0 : Int) (r : Int) (H : F_shape_side__direction_1 p0 = some r) (hE : HF w w.W E0) : Calls Tryz.prog 116 [(iv p0)].toArray w.W fun e W' => e = .returned (iv r) ∧ HF w W' E0 := by
 unfold F_shape_side__direction_1 at H
 have leB := Bs.Le.refl w
 refine Tr.enter (n := 6) Tryz.func116 rfl rfl rfl hE ?_
 refine Tr.sr ?_
 refine Tr.asg rfl rfl ?_
 refine Tr.nil (Tr.normThen ?_)
 refine Tr.sr ?_
 refine Tr.mv rfl rfl ?_
 refine Tr.va rfl (fun _ _ h1 h2 => run_max (h1.ev rfl) (h1.ev rfl) _) ?_
 refine Tr.va rfl (fun _ _ h1 h2 => run_min (h1.ev rfl) (h1.ev rfl) _) ?_
 refine Tr.asg rfl rfl ?_
 refine Tr.nil (Tr.normThen ?_)
 refine Tr.ret ?_
 obtain rfl := Option.some.inj H
 exact Tr.out (m := [(iv (min 1 (max (-1) p0)))]) [] (res_tmp rfl res_nil) (fun W hW => ⟨rfl, hW.low leB⟩)

theorem F_shape_side__direction_ok {w : Bs} (p0 : TSide) (r : TPoint) (H : F_shape_side__direction p0 = some r) (hE : HF w w.W E0) : Calls Tryz.prog 70 [(.agg #[(iv p0.from_.X), (iv p0.from_.Y), (iv p0.to_.X), (iv p0.to_.Y)])].toArray w.W fun e W' => e = .returned (.agg #[(iv r.X), (iv r.Y)]) ∧ HF w W' E0 := by
 unfold F_shape_side__direction at H
 have leB := Bs.Le.refl w
 refine Tr.enter (n := 23) Tryz.func70 rfl rfl rfl hE ?_
 refine Tr.sr ?_
 refine Tr.box 1 (cs := [(iv p0.from_.X), (iv p0.from_.Y), (iv p0.to_.X), (iv p0.to_.Y)]) (wn rfl) rfl rfl rfl fun b100 => ?_
 refine Tr.alloc 2 (wn rfl) rfl ze_47 fun b101 => ?_
 refine Tr.nil (Tr.normThen ?_)
 refine Tr.sr ?_
 refine Tr.asg rfl rfl ?_
 refine Tr.nil (Tr.normThen ?_)
 refine Tr.seq ?_
 refine Tr.drawTail 17 (by kernel_rfl) (by kernel_rfl) ?_
 refine Tq.mv rfl rfl ?_
 refine Tq.v1 rfl (run_fieldAddr fo_125_1) rfl ?_
 refine Tq.v1 rfl (run_fieldAddr fo_47_0) rfl ?_
 refine Tq.va rfl (fun _ _ h1 h2 => run_load1 ag_3 (h1.ev rfl) (rdb h2 (vs := [(iv p0.from_.X), (iv p0.from_.Y), (iv p0.to_.X), (iv p0.to_.Y)]) (k := 1) rfl 2) rfl) ?_
 refine Tq.v1 rfl (run_fieldAddr fo_125_0) rfl ?_
 refine Tq.v1 rfl (run_fieldAddr fo_47_0) rfl ?_
 refine Tq.va rfl (fun _ _ h1 h2 => run_load1 ag_3 (h1.ev rfl) (rdb h2 (vs := [(iv p0.from_.X), (iv p0.from_.Y), (iv p0.to_.X), (iv p0.to_.Y)]) (k := 1) rfl 0) rfl) ?_
 refine Tq.v2 rfl run_sub rfl rfl ?_
 obtain ⟨y102, hy102, H⟩ := bnd H
 refine Tq.callF (r := (iv y102)) (wn rfl) rfl rfl Tryz.call116 (evl_cons rfl evl_nil) (fun W hW => F_shape_side__direction_1_ok (w64 (p0.to_.X - p0.from_.X)) y102 hy102 (HF.start _)) ?_
 refine Tq.mv rfl rfl ?_
 refine Tq.v1 rfl (run_fieldAddr fo_125_1) rfl ?_
 refine Tq.v1 rfl (run_fieldAddr fo_47_1) rfl ?_
 refine Tq.va rfl (fun _ _ h1 h2 => run_load1 ag_3 (h1.ev rfl) (rdb h2 (vs := [(iv p0.from_.X), (iv p0.from_.Y), (iv p0.to_.X), (iv p0.to_.Y)]) (k := 1) rfl 3) rfl) ?_
 refine Tq.v1 rfl (run_fieldAddr fo_125_0) rfl ?_
 refine Tq.v1 rfl (run_fieldAddr fo_47_1) rfl ?_
 refine Tq.va rfl (fun _ _ h1 h2 => run_load1 ag_3 (h1.ev rfl) (rdb h2 (vs := [(iv p0.from_.X), (iv p0.from_.Y), (iv p0.to_.X), (iv p0.to_.Y)]) (k := 1) rfl 1) rfl) ?_
 refine Tq.v2 rfl run_sub rfl rfl ?_
 refine Tq.nil ?_
 obtain ⟨y103, hy103, H⟩ := bnd H
 refine Tr.callF (r := (iv y103)) (wn rfl) rfl rfl Tryz.call116 (evl_cons rfl evl_nil) (fun W hW => F_shape_side__direction_1_ok (w64 (p0.to_.Y - p0.from_.Y)) y103 hy103 (HF.start _)) ?_
 refine Tr.build (vs := [(0, (iv y102)), (1, (iv y103))]) (cs := [(iv y102), (iv y103)]) (wn rfl) rfl (evs_cons rfl (evs_cons rfl evs_nil)) (by kernel_rfl) ?_
 refine Tr.store 2 (cs := [(iv y102), (iv y103)]) [(iv y102), (iv y103)] (wn rfl) rfl rfl rfl rfl sz_47 rfl rfl rfl ?_
 refine Tr.nil (Tr.normThen ?_)
 refine Tr.ret ?_
 obtain rfl := Option.some.inj H
 exact Tr.out (m := [(.agg #[(iv y102), (iv y103)])]) [2] (res_cell rfl rfl ag_47 sz_47 res_nil) (fun W hW => ⟨rfl, hW.low leB⟩)

theorem F_shape_Set__Borders_1_ok {w : Bs} (p0 : TSide) (r : TPoint) (H : F_shape_Set__Borders_1 p0 = some r) (hE : HF w w.W E0) : Calls Tryz.prog 69 [(.agg #[(iv p0.from_.X), (iv p0.from_.Y), (iv p0.to_.X), (iv p0.to_.Y)])].toArray w.W fun e W' => e = .returned (.agg #[(iv r.X), (iv r.Y)]) ∧ HF w W' E0 := by
 unfold F_shape_Set__Borders_1 at H
 have leB := Bs.Le.refl w
 refine Tr.enter (n := 12) Tryz.func69 rfl rfl rfl hE ?_
 refine Tr.sr ?_
 refine Tr.box 1 (cs := [(iv p0.from_.X), (iv p0.from_.Y), (iv p0.to_.X), (iv p0.to_.Y)]) (wn rfl) rfl rfl rfl fun b100 => ?_
 refine Tr.alloc 2 (wn rfl) rfl ze_47 fun b101 => ?_
 refine Tr.nil (Tr.normThen ?_)
 refine Tr.sr ?_
 refine Tr.va rfl (fun _ _ h1 h2 => run_loadN (cs := [(iv p0.from_.X), (iv p0.from_.Y), (iv p0.to_.X), (iv p0.to_.Y)]) ag_125 sz_125 (h1.ev rfl) (CellsAt.take (rdb h2 (vs := [(iv p0.from_.X), (iv p0.from_.Y), (iv p0.to_.X), (iv p0.to_.Y)]) (k := 1) rfl 0) 4) rfl) ?_
 obtain ⟨y102, hy102, H⟩ := bnd H
 refine Tr.call0 (r := (.agg #[(iv y102.X), (iv y102.Y)])) (wn rfl) rfl Tryz.call70 (evl_cons rfl evl_nil) (fun W hW => F_shape_side__direction_ok p0 y102 hy102 (HF.start _)) ?_
 refine Tr.alloc 3 (wn rfl) rfl ze_47 fun b103 => ?_
 refine Tr.store 3 (cs := [(iv y102.X), (iv y102.Y)]) [(iv y102.X), (iv y102.Y)] (wn rfl) rfl rfl rfl rfl sz_47 rfl rfl rfl ?_
 refine Tr.nil (Tr.normThen ?_)
 refine Tr.sr ?_
 refine Tr.v1 rfl (run_fieldAddr fo_47_1) rfl ?_
 refine Tr.va rfl (fun _ _ h1 h2 => run_load1 ag_3 (h1.ev rfl) (rdb h2 (vs := [(iv y102.X), (iv y102.Y)]) (k := 3) rfl 1) rfl) ?_
 refine Tr.v1 rfl run_neg rfl ?_
 refine Tr.v1 rfl (run_fieldAddr fo_47_0) rfl ?_
 refine Tr.va rfl (fun _ _ h1 h2 => run_load1 ag_3 (h1.ev rfl) (rdb h2 (vs := [(iv y102.X), (iv y102.Y)]) (k := 3) rfl 0) rfl) ?_
 refine Tr.build (vs := [(0, (iv (w64 (0 - y102.Y)))), (1, (iv y102.X))]) (cs := [(iv (w64 (0 - y102.Y))), (iv y102.X)]) (wn rfl) rfl (evs_cons rfl (evs_cons rfl evs_nil)) (by kernel_rfl) ?_
 refine Tr.store 2 (cs := [(iv (w64 (0 - y102.Y))), (iv y102.X)]) [(iv (w64 (0 - y102.Y))), (iv y102.X)] (wn rfl) rfl rfl rfl rfl sz_47 rfl rfl rfl ?_
 refine Tr.nil (Tr.normThen ?_)
 refine Tr.ret ?_
 obtain rfl := Option.some.inj H
 exact Tr.out (m := [(.agg #[(iv (w64 (0 - y102.Y))), (iv y102.X)])]) [2] (res_cell rfl rfl ag_47 sz_47 res_nil) (fun W hW => ⟨rfl, hW.low leB⟩)

theorem F_shape_less_ok {w : Bs} (p0 : TPoint) (p1 : TPoint) (r : Bool) (H : F_shape_less p0 p1 = some r) (hE : HF w w.W E0) : Calls Tryz.prog 76 [(.agg #[(iv p0.X), (iv p0.Y)]), (.agg #[(iv p1.X), (iv p1.Y)])].toArray w.W fun e W' => e = .returned (.bool r) ∧ HF w W' E0 := by
 unfold F_shape_less at H
 have leB := Bs.Le.refl w
 refine Tr.enter (n := 24) Tryz.func76 rfl rfl rfl hE ?_
 refine Tr.sr ?_
 refine Tr.box 1 (cs := [(iv p0.X), (iv p0.Y)]) (wn rfl) rfl rfl rfl fun b100 => ?_
 refine Tr.box 2 (cs := [(iv p1.X), (iv p1.Y)]) (wn rfl) rfl rfl rfl fun b101 => ?_
 refine Tr.asg rfl rfl ?_
 refine Tr.nil (Tr.normThen ?_)
 refine Tr.sr ?_
 refine Tr.v1 rfl (run_fieldAddr fo_47_1) rfl ?_
 refine Tr.va rfl (fun _ _ h1 h2 => run_load1 ag_3 (h1.ev rfl) (rdb h2 (vs := [(iv p0.X), (iv p0.Y)]) (k := 1) rfl 1) rfl) ?_
 refine Tr.v1 rfl (run_fieldAddr fo_47_1) rfl ?_
 refine Tr.va rfl (fun _ _ h1 h2 => run_load1 ag_3 (h1.ev rfl) (rdb h2 (vs := [(iv p1.X), (iv p1.Y)]) (k := 2) rfl 1) rfl) ?_
 refine Tr.v2 rfl run_lss rfl rfl ?_
 refine Tr.mv rfl rfl ?_
 refine Tr.mid0 13 [(23, (.bool ((decide (p0.Y < p1.Y)) || ((p0.Y == p1.Y) && (decide (p0.X < p1.X))))))] [(1, bx b100 #[(iv p0.X), (iv p0.Y)] 47), (2, bx b101 #[(iv p1.X), (iv p1.Y)] 47)] ?_ ?_
 ·cases hg101 : (decide (p0.Y < p1.Y))
  ·refine Tr.w1 (wg rfl rfl rfl) rfl (run_fieldAddr fo_47_1) rfl ?_
   refine Tr.val (wg rfl rfl rfl) rfl (fun _ _ h1 h2 => run_load1 ag_3 (h1.ev rfl) (rdb h2 (vs := [(iv p0.X), (iv p0.Y)]) (k := 1) rfl 1) rfl) ?_
   refine Tr.w1 (wg rfl rfl rfl) rfl (run_fieldAddr fo_47_1) rfl ?_
   refine Tr.val (wg rfl rfl rfl) rfl (fun _ _ h1 h2 => run_load1 ag_3 (h1.ev rfl) (rdb h2 (vs := [(iv p1.X), (iv p1.Y)]) (k := 2) rfl 1) rfl) ?_
   refine Tr.w2 (wg rfl rfl rfl) rfl run_eql rfl rfl ?_
   refine Tr.w1 (wg rfl rfl rfl) rfl run_move rfl ?_
   refine Tr.mid0 6 [(10, (.bool false)), (22, (.bool ((p0.Y == p1.Y) && (decide (p0.X < p1.X)))))] [(1, bx b100 #[(iv p0.X), (iv p0.Y)] 47), (2, bx b101 #[(iv p1.X), (iv p1.Y)] 47)] ?_ ?_
   ·cases hg101 : (p0.Y == p1.Y)
    ·refine Tr.ps ?_
     refine Tr.ps ?_
     refine Tr.ps ?_
     refine Tr.ps ?_
     refine Tr.ps ?_
     refine Tr.w2 (wg rfl rfl rfl) rfl run_pickF rfl rfl ?_
     exact Tr.nil (Tr.fin0 (.r rfl) (.r rfl))
    ·refine Tr.w1 (wg rfl rfl rfl) rfl (run_fieldAddr fo_47_0) rfl ?_
     refine Tr.val (wg rfl rfl rfl) rfl (fun _ _ h1 h2 => run_load1 ag_3 (h1.ev rfl) (rdb h2 (vs := [(iv p0.X), (iv p0.Y)]) (k := 1) rfl 0) rfl) ?_
     refine Tr.w1 (wg rfl rfl rfl) rfl (run_fieldAddr fo_47_0) rfl ?_
     refine Tr.val (wg rfl rfl rfl) rfl (fun _ _ h1 h2 => run_load1 ag_3 (h1.ev rfl) (rdb h2 (vs := [(iv p1.X), (iv p1.Y)]) (k := 2) rfl 0) rfl) ?_
     refine Tr.w2 (wg rfl rfl rfl) rfl run_lss rfl rfl ?_
     refine Tr.w2 (wg rfl rfl rfl) rfl run_pickT rfl rfl ?_
     exact Tr.nil (Tr.fin0 (.r rfl) (.r rfl))
   ·show Tr _ _ (LF [(10, (.bool false)), (22, (.bool ((p0.Y == p1.Y) && (decide (p0.X < p1.X)))))]) (LE [(1, bx b100 #[(iv p0.X), (iv p0.Y)] 47), (2, bx b101 #[(iv p1.X), (iv p1.Y)] 47)]) _
    refine Tr.v2 rfl run_pickF rfl rfl ?_
    exact Tr.nil (Tr.fin0 (.r rfl) (.r rfl))
  ·refine Tr.ps ?_
   refine Tr.ps ?_
   refine Tr.ps ?_
   refine Tr.ps ?_
   refine Tr.ps ?_
   refine Tr.ps ?_
   refine Tr.pu ?_
   refine Tr.pu ?_
   refine Tr.pu ?_
   refine Tr.pu ?_
   refine Tr.pu ?_
   refine Tr.ps ?_
   refine Tr.v2 rfl run_pickT rfl rfl ?_
   exact Tr.nil (Tr.fin0 (.r rfl) (.r rfl))
 ·show Tr _ _ (LF [(23, (.bool ((decide (p0.Y < p1.Y)) || ((p0.Y == p1.Y) && (decide (p0.X < p1.X))))))]) (LE [(1, bx b100 #[(iv p0.X), (iv p0.Y)] 47), (2, bx b101 #[(iv p1.X), (iv p1.Y)] 47)]) _
  refine Tr.asg rfl rfl ?_
  refine Tr.nil (Tr.normThen ?_)
  refine Tr.ret ?_
  obtain rfl := Option.some.inj H
  exact Tr.out (m := [(.bool ((decide (p0.Y < p1.Y)) || ((p0.Y == p1.Y) && (decide (p0.X < p1.X)))))]) [] (res_tmp rfl res_nil) (fun W hW => ⟨rfl, hW.low leB⟩)

theorem F_slices_Grow_TPoint_ok {w : Bs} (p1 : Int) (r : (List TPoint)) (H : grN p1 = some r) (hE : HF w w.W (LEn [emp])) : Calls Tryz.prog 161 [(.slice none 0 0), (iv p1)].toArray w.W fun e W' => ∃ u : (Option Addr × Nat), e = .returned (.slice u.1 (r).length u.2) ∧ (SlF u.1 (r).length u.2) ∧ HF w W' (LEn [ow u.1 u.2 47 fl_TPoint r]) :=
 growN_rule (ρ := Tryz.grow161_ren) Tryz.grow161 rfl sz_47 zl_47 (by decide) by_47 rfl H hE

theorem F_slices_Concat_Point_ok {w : Bs} (p0 : (List (List TPoint))) (Ap0_0 : Option Addr) (cp0_0 : Nat) (hp0_0 : Sl w.R w.W fl_LTPoint Ap0_0 cp0_0 p0) (r : (List TPoint)) (H : F_slices_Concat_Point p0 = some r) (hE : HF w w.W (LEn [emp])) : Calls Tryz.prog 117 [(.slice Ap0_0 (p0).length cp0_0)].toArray w.W fun e W' => ∃ u : (Option Addr × Nat), e = .returned (.slice u.1 (r).length u.2) ∧ (SlF u.1 (r).length u.2) ∧ HF w W' (LEn [ow u.1 u.2 47 fl_TPoint r]) := by
 unfold F_slices_Concat_Point at H
 have leB := Bs.Le.refl w
 refine Tr.enter (n := 36) Tryz.func117 rfl rfl rfl hE ?_
 refine Tr.sr ?_
 refine Tr.asg rfl rfl ?_
 refine Tr.nilOwn 1 47 fl_TPoint ?_
 show Tr _ _ (uf _ 2 (.slice none (([] : List TPoint)).length 0)) _ _
 refine Tr.nil (Tr.normThen ?_)
 refine Tr.sr ?_
 refine Tr.asg rfl rfl ?_
 refine Tr.nil (Tr.normThen ?_)
 refine Tr.seq ?_
 refine Tr.sr ?_
 refine Tr.mv rfl rfl ?_
 refine Tr.v1 rfl (run_len un_39) rfl ?_
 refine Tr.mv rfl rfl ?_
 refine Tr.nil (Tr.normThen ?_)
 refine Tr.block ?_
 refine Tr.loop (σ := (List (List TPoint)) × Nat × Int) (fun m w s => m = s.1.length + 1 ∧ s.1 = List.drop s.2.1 p0 ∧ s.2.1 ≤ p0.length ∧ F_slices_Concat_Point_L1 p0 s.1 s.2.1 s.2.2 = some r) (fun s => [(0, (.slice Ap0_0 (p0).length cp0_0)), (3, (iv s.2.2)), (9, (.slice Ap0_0 (p0).length cp0_0)), (10, (iv (p0.length : Int))), (11, (iv (s.2.1 : Int)))]) (fun s => []) (p0.length + 1) (p0, 0, 0) ⟨rfl, rfl, Nat.zero_le _, H⟩ (.r rfl) .nil (fun _ _ h => absurd h.1 (by simp)) ?_
 intro w leL1 m s hs
 obtain ⟨restL1, iL1, x110⟩ := s
 obtain ⟨hmL1, hdL1, hiL1, H⟩ := hs
 replace hdL1 : restL1 = List.drop iL1 p0 := hdL1
 replace H : F_slices_Concat_Point_L1 p0 restL1 iL1 x110 = some r := H
 replace hmL1 : m + 1 = restL1.length + 1 := hmL1
 replace hp0_0 := hp0_0.leR leL1
 replace leB := leB.trans leL1
 obtain rfl : m = restL1.length := by omega
 clear hmL1
 show Tr _ _ (LF [(0, (.slice Ap0_0 (p0).length cp0_0)), (3, (iv x110)), (9, (.slice Ap0_0 (p0).length cp0_0)), (10, (iv (p0.length : Int))), (11, (iv (iL1 : Int)))]) (LE []) _
 cases restL1 with
 | nil =>
  rw [F_slices_Concat_Point_L1.eq_1] at H
  refine Tr.sr ?_
  refine Tr.v2 rfl run_lss rfl rfl ?_
  refine Tr.nil (Tr.normThen ?_)
  refine Tr.seq ?_
  refine Tr.condF rfl (range_nil hdL1) ?_
  refine Tr.exit (Tr.exitThen (Tr.exitThen (Tr.exitBlock (Tr.normThen ?_))))
  refine Tr.sr ?_
  refine Tr.mv rfl rfl ?_
  obtain ⟨y111, hy111, H⟩ := bnd H
  refine Tr.callM [2] [emp] (U := (Option Addr × Nat)) (fun u => (.slice u.1 (y111).length u.2)) (fun u => SlF u.1 (y111).length u.2) (fun u => [ow u.1 u.2 47 fl_TPoint y111]) rfl (pk_cons rfl pk_nil) (fun _ => rfl) (wn rfl) rfl Tryz.call161 (evl_cons rfl (evl_cons rfl evl_nil)) (fun W hW hp hE => F_slices_Grow_TPoint_ok x110 y111 hy111 hE) ?_
  intro u hu
  obtain ⟨Ay111_0, cy111_0⟩ := u
  have gy111_0 := hu
  have hgy111_0 : SlF Ay111_0 (y111).length cy111_0 := gy111_0 --@phi
  show Tr _ _ (uf _ 24 (.slice Ay111_0 (y111).length cy111_0)) (up _ 2 (ow Ay111_0 cy111_0 47 fl_TPoint y111)) _
  refine Tr.asg rfl rfl ?_
  refine Tr.nil (Tr.normThen ?_)
  refine Tr.seq ?_
  refine Tr.sr ?_
  refine Tr.mv rfl rfl ?_
  refine Tr.v1 rfl (run_len un_39) rfl ?_
  refine Tr.mv rfl rfl ?_
  refine Tr.nil (Tr.normThen ?_)
  refine Tr.block ?_
  refine Tr.loop (σ := (List (List TPoint)) × Nat × (List TPoint) × (Option Addr) × Nat) (fun m w s => m = s.1.length + 1 ∧ s.1 = List.drop s.2.1 p0 ∧ s.2.1 ≤ p0.length ∧ F_slices_Concat_Point_L2 s.1 s.2.1 s.2.2.1 = some r ∧ SlF s.2.2.2.1 (s.2.2.1).length s.2.2.2.2) (fun s => [(6, (.slice s.2.2.2.1 (s.2.2.1).length s.2.2.2.2)), (25, (.slice Ap0_0 (p0).length cp0_0)), (26, (iv (p0.length : Int))), (27, (iv (s.2.1 : Int)))]) (fun s => [(2, ow s.2.2.2.1 s.2.2.2.2 47 fl_TPoint s.2.2.1)]) (p0.length + 1) (p0, 0, y111, Ay111_0, cy111_0) ⟨rfl, rfl, Nat.zero_le _, H, hgy111_0⟩ (.r rfl) (.r rfl) (fun _ _ h => absurd h.1 (by simp)) ?_
  intro w leL2 m s hs
  obtain ⟨restL2, iL2, l125, Al125, cl125⟩ := s
  obtain ⟨hmL2, hdL2, hiL2, H, hl125⟩ := hs
  replace hdL2 : restL2 = List.drop iL2 p0 := hdL2
  replace H : F_slices_Concat_Point_L2 restL2 iL2 l125 = some r := H
  replace hmL2 : m + 1 = restL2.length + 1 := hmL2
  replace hp0_0 := hp0_0.leR leL2
  replace leB := leB.trans leL2
  replace leL1 := leL1.trans leL2
  replace hl125 : SlF Al125 (l125).length cl125 := hl125
  obtain rfl : m = restL2.length := by omega
  clear hmL2
  show Tr _ _ (LF [(6, (.slice Al125 (l125).length cl125)), (25, (.slice Ap0_0 (p0).length cp0_0)), (26, (iv (p0.length : Int))), (27, (iv (iL2 : Int)))]) (LE [(2, ow Al125 cl125 47 fl_TPoint l125)]) _
  cases restL2 with
  | nil =>
   rw [F_slices_Concat_Point_L2.eq_1] at H
   refine Tr.sr ?_
   refine Tr.v2 rfl run_lss rfl rfl ?_
   refine Tr.nil (Tr.normThen ?_)
   refine Tr.seq ?_
   refine Tr.condF rfl (range_nil hdL2) ?_
   refine Tr.exit (Tr.exitThen (Tr.exitThen (Tr.exitBlock (Tr.normThen ?_))))
   refine Tr.sr ?_
   refine Tr.mv rfl rfl ?_
   refine Tr.asg rfl rfl ?_
   refine Tr.nil (Tr.normThen ?_)
   refine Tr.ret ?_
   obtain rfl := Option.some.inj H
   exact Tr.out (m := [(.slice Al125 (l125).length cl125)]) [] (res_tmp rfl res_nil) (fun W hW => ⟨(Al125, cl125), rfl, hl125, HF.lowE leB (hW.pick (ks := [2]) (by decide) (pk_cons rfl pk_nil)) ⟨ow_any _ _ _ _ tr_TPoint, trivial⟩⟩)
  | cons xL2 restL2 =>
   rw [F_slices_Concat_Point_L2.eq_2] at H
   refine Tr.sr ?_
   refine Tr.v2 rfl run_lss rfl rfl ?_
   refine Tr.nil (Tr.normThen ?_)
   refine Tr.seq ?_
   refine Tr.condT rfl (range_on hdL2) ?_
   refine Tr.skip (Tr.normThen ?_)
   refine Tr.seq ?_
   refine Tr.block ?_
   refine Tr.sr ?_
   obtain ⟨u126, hRu126, hoku126, hcu126⟩ := (hp0_0).el (range_at hdL2)
   obtain ⟨Au126_0, cu126_0⟩ := u126
   have hoku126_0 := hoku126
   replace hoku126_0 : Sl w.R w.W fl_TPoint Au126_0 cu126_0 xL2 := hoku126_0
   refine Tr.va rfl (fun _ _ h1 h2 => run_indexAddr el_39 (h1.ev rfl) hp0_0.form (h1.ev rfl) (Int.natCast_nonneg _) (range_lt hdL2)) ?_
   refine Tr.va rfl (fun _ _ h1 h2 => run_load1 ag_43 (h1.ev rfl) (rdR hRu126 hcu126 h2) rfl) ?_
   refine Tr.asg rfl rfl ?_
   refine Tr.nil (Tr.normThen ?_)
   refine Tr.region ?_
   refine Tr.mv rfl rfl ?_
   refine Tr.mv rfl rfl ?_
   obtain ⟨l127, hl127, H⟩ := bnd H
   refine Tr.appendS 2 (t := fl_TPoint) (l := l125) (l2 := xL2) (wn rfl) rfl rfl rfl rfl (apT tr_TPoint (fun W hW => (Sl.inB hoku126_0 hW))) un_43 sz_47 zl_47 (by decide) by_47 rfl hl127 fun Al127 cl127 hAl127 => ?_
   refine Tr.asg rfl rfl ?_
   refine Tr.nil (Tr.normBlock (Tr.normThen ?_))
   refine Tr.region ?_
   refine Tr.v2 rfl run_add rfl rfl ?_
   refine Tr.mv rfl rfl ?_
   refine Tr.nil ?_
   exact Tr.backThen leL2 (restL2, (iL2 + 1), l127, Al127, cl127) ⟨rfl, range_tl hdL2, range_lt hdL2, H, hAl127⟩ (.cons rfl (.cons rfl (.cons rfl (.cons (congrArg (fun z => some (Value.int .i64 z)) (range_up hdL2 hp0_0.form)) .nil)))) (.r rfl)
 | cons xL1 restL1 =>
  rw [F_slices_Concat_Point_L1.eq_2] at H
  refine Tr.sr ?_
  refine Tr.v2 rfl run_lss rfl rfl ?_
  refine Tr.nil (Tr.normThen ?_)
  refine Tr.seq ?_
  refine Tr.condT rfl (range_on hdL1) ?_
  refine Tr.skip (Tr.normThen ?_)
  refine Tr.seq ?_
  refine Tr.block ?_
  refine Tr.sr ?_
  obtain ⟨u128, hRu128, hoku128, hcu128⟩ := (hp0_0).el (range_at hdL1)
  obtain ⟨Au128_0, cu128_0⟩ := u128
  have hoku128_0 := hoku128
  replace hoku128_0 : Sl w.R w.W fl_TPoint Au128_0 cu128_0 xL1 := hoku128_0
  refine Tr.va rfl (fun _ _ h1 h2 => run_indexAddr el_39 (h1.ev rfl) hp0_0.form (h1.ev rfl) (Int.natCast_nonneg _) (range_lt hdL1)) ?_
  refine Tr.va rfl (fun _ _ h1 h2 => run_load1 ag_43 (h1.ev rfl) (rdR hRu128 hcu128 h2) rfl) ?_
  refine Tr.asg rfl rfl ?_
  refine Tr.nil (Tr.normThen ?_)
  refine Tr.sr ?_
  refine Tr.mv rfl rfl ?_
  refine Tr.mv rfl rfl ?_
  refine Tr.v1 rfl (run_len un_43) rfl ?_
  refine Tr.v2 rfl run_add rfl rfl ?_
  refine Tr.asg rfl rfl ?_
  refine Tr.nil (Tr.normThen ?_)
  refine Tr.sr ?_
  refine Tr.mv rfl rfl ?_
  refine Tr.v2 rfl run_lss rfl rfl ?_
  refine Tr.nil (Tr.normThen ?_)
  refine Tr.cond rfl H (fun H => ?_) (fun H => ?_)
  ·cases H
  ·refine Tr.skip (Tr.normBlock (Tr.normThen ?_))
   refine Tr.region ?_
   refine Tr.v2 rfl run_add rfl rfl ?_
   refine Tr.mv rfl rfl ?_
   refine Tr.nil ?_
   exact Tr.backThen leL1 (restL1, (iL1 + 1), (w64 (x110 + (xL1.length : Int)))) ⟨rfl, range_tl hdL1, range_lt hdL1, H⟩ (.cons rfl (.cons rfl (.cons rfl (.cons rfl (.cons (congrArg (fun z => some (Value.int .i64 z)) (range_up hdL1 hp0_0.form)) .nil))))) .nil

end Go.Proofs.YtcjeebkoafonpaaGreatDoor
