/- The walks: each function computes its plain function. -/
import Derived.Test.YtacapjleiadkkaaXWa
namespace Go.Proofs.Ytacapjleiadkkaa
open Go.RowKit
set_option maxRecDepth 100000
set_option maxHeartbeats 1000000
theorem F_shape_side__direction_ok {w : Bs} (p0 : TSide) (r : TPoint) (H : F_shape_side__direction p0 = some r) (hE : HF w w.W E0) : Calls Try.prog 31 [(.agg #[(iv p0.from_.X), (iv p0.from_.Y), (iv p0.to_.X), (iv p0.to_.Y)])].toArray w.W fun e W' => e = .returned (.agg #[(iv r.X), (iv r.Y)]) ∧ HF w W' E0 := by
 unfold F_shape_side__direction at H
 have leB := Bs.Le.refl w
 refine Tr.enter (n := 23) Try.func31 rfl rfl rfl hE ?_
 refine Tr.sr ?_
 refine Tr.box 1 (cs := [(iv p0.from_.X), (iv p0.from_.Y), (iv p0.to_.X), (iv p0.to_.Y)]) (wn rfl) rfl rfl rfl fun b100 => ?_
 refine Tr.alloc 2 (wn rfl) rfl ze_44 fun b101 => ?_
 refine Tr.nil (Tr.normThen ?_)
 refine Tr.sr ?_
 refine Tr.asg rfl rfl ?_
 refine Tr.nil (Tr.normThen ?_)
 refine Tr.seq ?_
 refine Tr.drawTail 17 (by kernel_rfl) (by kernel_rfl) ?_
 refine Tq.mv rfl rfl ?_
 refine Tq.va rfl (fun _ _ h1 h2 => run_fieldAddr fo_66_1 (h1.ev rfl)) ?_
 refine Tq.va rfl (fun _ _ h1 h2 => run_fieldAddr fo_44_0 (h1.ev rfl)) ?_
 refine Tq.va rfl (fun _ _ h1 h2 => run_load1 ag_3 (h1.ev rfl) (rdb h2 (vs := [(iv p0.from_.X), (iv p0.from_.Y), (iv p0.to_.X), (iv p0.to_.Y)]) (k := 1) rfl 2) rfl) ?_
 refine Tq.va rfl (fun _ _ h1 h2 => run_fieldAddr fo_66_0 (h1.ev rfl)) ?_
 refine Tq.va rfl (fun _ _ h1 h2 => run_fieldAddr fo_44_0 (h1.ev rfl)) ?_
 refine Tq.va rfl (fun _ _ h1 h2 => run_load1 ag_3 (h1.ev rfl) (rdb h2 (vs := [(iv p0.from_.X), (iv p0.from_.Y), (iv p0.to_.X), (iv p0.to_.Y)]) (k := 1) rfl 0) rfl) ?_
 refine Tq.va rfl (fun _ _ h1 h2 => run_sub (h1.ev rfl) (h1.ev rfl)) ?_
 obtain ⟨y102, hy102, H⟩ := bnd H
 refine Tq.callF (r := (iv y102)) (wn rfl) rfl rfl Try.call55 (evl_cons rfl evl_nil) (fun W hW => F_shape_side__direction_1_ok (w64 (p0.to_.X - p0.from_.X)) y102 hy102 (HF.start _)) ?_
 refine Tq.mv rfl rfl ?_
 refine Tq.va rfl (fun _ _ h1 h2 => run_fieldAddr fo_66_1 (h1.ev rfl)) ?_
 refine Tq.va rfl (fun _ _ h1 h2 => run_fieldAddr fo_44_1 (h1.ev rfl)) ?_
 refine Tq.va rfl (fun _ _ h1 h2 => run_load1 ag_3 (h1.ev rfl) (rdb h2 (vs := [(iv p0.from_.X), (iv p0.from_.Y), (iv p0.to_.X), (iv p0.to_.Y)]) (k := 1) rfl 3) rfl) ?_
 refine Tq.va rfl (fun _ _ h1 h2 => run_fieldAddr fo_66_0 (h1.ev rfl)) ?_
 refine Tq.va rfl (fun _ _ h1 h2 => run_fieldAddr fo_44_1 (h1.ev rfl)) ?_
 refine Tq.va rfl (fun _ _ h1 h2 => run_load1 ag_3 (h1.ev rfl) (rdb h2 (vs := [(iv p0.from_.X), (iv p0.from_.Y), (iv p0.to_.X), (iv p0.to_.Y)]) (k := 1) rfl 1) rfl) ?_
 refine Tq.va rfl (fun _ _ h1 h2 => run_sub (h1.ev rfl) (h1.ev rfl)) ?_
 refine Tq.nil ?_
 obtain ⟨y103, hy103, H⟩ := bnd H
 refine Tr.callF (r := (iv y103)) (wn rfl) rfl rfl Try.call55 (evl_cons rfl evl_nil) (fun W hW => F_shape_side__direction_1_ok (w64 (p0.to_.Y - p0.from_.Y)) y103 hy103 (HF.start _)) ?_
 refine Tr.build (vs := [(0, (iv y102)), (1, (iv y103))]) (cs := [(iv y102), (iv y103)]) (wn rfl) rfl (evs_cons rfl (evs_cons rfl evs_nil)) (by kernel_rfl) ?_
 refine Tr.store 2 (cs := [(iv y102), (iv y103)]) [(iv y102), (iv y103)] (wn rfl) rfl rfl rfl rfl sz_44 rfl rfl rfl ?_
 refine Tr.nil (Tr.normThen ?_)
 refine Tr.ret ?_
 obtain rfl := Option.some.inj H
 exact Tr.out (m := [(.agg #[(iv y102), (iv y103)])]) [2] (res_cell rfl rfl ag_44 sz_44 res_nil) (fun W hW => ⟨rfl, hW.low leB⟩)

theorem F_shape_Set__Borders_1_ok {w : Bs} (p0 : TSide) (r : TPoint) (H : F_shape_Set__Borders_1 p0 = some r) (hE : HF w w.W E0) : Calls Try.prog 30 [(.agg #[(iv p0.from_.X), (iv p0.from_.Y), (iv p0.to_.X), (iv p0.to_.Y)])].toArray w.W fun e W' => e = .returned (.agg #[(iv r.X), (iv r.Y)]) ∧ HF w W' E0 := by
 unfold F_shape_Set__Borders_1 at H
 have leB := Bs.Le.refl w
 refine Tr.enter (n := 12) Try.func30 rfl rfl rfl hE ?_
 refine Tr.sr ?_
 refine Tr.box 1 (cs := [(iv p0.from_.X), (iv p0.from_.Y), (iv p0.to_.X), (iv p0.to_.Y)]) (wn rfl) rfl rfl rfl fun b100 => ?_
 refine Tr.alloc 2 (wn rfl) rfl ze_44 fun b101 => ?_
 refine Tr.nil (Tr.normThen ?_)
 refine Tr.sr ?_
 refine Tr.va rfl (fun _ _ h1 h2 => run_loadN (cs := [(iv p0.from_.X), (iv p0.from_.Y), (iv p0.to_.X), (iv p0.to_.Y)]) ag_66 sz_66 (h1.ev rfl) (CellsAt.take (rdb h2 (vs := [(iv p0.from_.X), (iv p0.from_.Y), (iv p0.to_.X), (iv p0.to_.Y)]) (k := 1) rfl 0) 4) rfl) ?_
 obtain ⟨y102, hy102, H⟩ := bnd H
 refine Tr.call0 (r := (.agg #[(iv y102.X), (iv y102.Y)])) (wn rfl) rfl Try.call31 (evl_cons rfl evl_nil) (fun W hW => F_shape_side__direction_ok p0 y102 hy102 (HF.start _)) ?_
 refine Tr.alloc 3 (wn rfl) rfl ze_44 fun b103 => ?_
 refine Tr.store 3 (cs := [(iv y102.X), (iv y102.Y)]) [(iv y102.X), (iv y102.Y)] (wn rfl) rfl rfl rfl rfl sz_44 rfl rfl rfl ?_
 refine Tr.nil (Tr.normThen ?_)
 refine Tr.sr ?_
 refine Tr.va rfl (fun _ _ h1 h2 => run_fieldAddr fo_44_1 (h1.ev rfl)) ?_
 refine Tr.va rfl (fun _ _ h1 h2 => run_load1 ag_3 (h1.ev rfl) (rdb h2 (vs := [(iv y102.X), (iv y102.Y)]) (k := 3) rfl 1) rfl) ?_
 refine Tr.va rfl (fun _ _ h1 h2 => run_neg (h1.ev rfl)) ?_
 refine Tr.va rfl (fun _ _ h1 h2 => run_fieldAddr fo_44_0 (h1.ev rfl)) ?_
 refine Tr.va rfl (fun _ _ h1 h2 => run_load1 ag_3 (h1.ev rfl) (rdb h2 (vs := [(iv y102.X), (iv y102.Y)]) (k := 3) rfl 0) rfl) ?_
 refine Tr.build (vs := [(0, (iv (w64 (0 - y102.Y)))), (1, (iv y102.X))]) (cs := [(iv (w64 (0 - y102.Y))), (iv y102.X)]) (wn rfl) rfl (evs_cons rfl (evs_cons rfl evs_nil)) (by kernel_rfl) ?_
 refine Tr.store 2 (cs := [(iv (w64 (0 - y102.Y))), (iv y102.X)]) [(iv (w64 (0 - y102.Y))), (iv y102.X)] (wn rfl) rfl rfl rfl rfl sz_44 rfl rfl rfl ?_
 refine Tr.nil (Tr.normThen ?_)
 refine Tr.ret ?_
 obtain rfl := Option.some.inj H
 exact Tr.out (m := [(.agg #[(iv (w64 (0 - y102.Y))), (iv y102.X)])]) [2] (res_cell rfl rfl ag_44 sz_44 res_nil) (fun W hW => ⟨rfl, hW.low leB⟩)

theorem F_disp_69_ok (N : Nat) (x : Nat) {w : Bs} (p0 : TSide) (r : TPoint) (H : F_disp_69 N x p0 = some r) (hE : HF w w.W E0) : Calls Try.prog x [(.agg #[(iv p0.from_.X), (iv p0.from_.Y), (iv p0.to_.X), (iv p0.to_.Y)])].toArray w.W fun e W' => e = .returned (.agg #[(iv r.X), (iv r.Y)]) ∧ HF w W' E0 := by
 unfold F_disp_69 at H
 by_cases hx : x = 30
 ·rw [if_pos hx] at H; subst hx; exact F_shape_Set__Borders_1_ok p0 r H hE
 rw [if_neg hx] at H
 cases H
theorem F_disp_69_call (N : Nat) (x : Nat) (p0 : TSide) (r : TPoint) (H : F_disp_69 N x p0 = some r) : ∀ args W, (callFunc x args).run Try.prog W = .ok (.enter x args) W := by
 unfold F_disp_69 at H
 by_cases hx : x = 30
 ·subst hx; exact Try.call30
 rw [if_neg hx] at H
 cases H

theorem F_shape_Set__Borders_2_ok (N : Nat) {w : Bs} (p0 : TSide) (p1 : TSide) (q0 : (List ((Int × Int) × List Int))) (bmq0 : Nat) (hmq0 : MRo w.R w.W encP okP bmq0 fl_i64 q0) (bq0 : Nat) (hb0 : w.R bq0) (hc0 : CellsAt w.W bq0 0 [(.map (some bmq0))]) (q1 : Nat) (bq1 : Nat) (hb1 : w.R bq1) (hc1 : CellsAt w.W bq1 0 [(.func (.func q1) #[] #[])]) (r : Bool) (H : F_shape_Set__Borders_2 N p0 p1 q0 q1 = some r) (hE : HF w w.W E0) : Calls Try.prog 32 [(.agg #[(iv p0.from_.X), (iv p0.from_.Y), (iv p0.to_.X), (iv p0.to_.Y)]), (.agg #[(iv p1.from_.X), (iv p1.from_.Y), (iv p1.to_.X), (iv p1.to_.Y)]), (.pointer (some ⟨bq0, 0, none⟩)), (.pointer (some ⟨bq1, 0, none⟩))].toArray w.W fun e W' => e = .returned (.bool r) ∧ HF w W' E0 := by
 unfold F_shape_Set__Borders_2 at H
 have leB := Bs.Le.refl w
 refine Tr.enter (n := 21) Try.func32 rfl rfl rfl hE ?_
 refine Tr.sr ?_
 refine Tr.box 1 (cs := [(iv p0.from_.X), (iv p0.from_.Y), (iv p0.to_.X), (iv p0.to_.Y)]) (wn rfl) rfl rfl rfl fun b100 => ?_
 refine Tr.box 2 (cs := [(iv p1.from_.X), (iv p1.from_.Y), (iv p1.to_.X), (iv p1.to_.Y)]) (wn rfl) rfl rfl rfl fun b101 => ?_
 refine Tr.asg rfl rfl ?_
 refine Tr.nil (Tr.normThen ?_)
 refine Tr.seq ?_
 refine Tr.draw (by kernel_rfl) (by kernel_rfl) ?_
 refine Tq.va rfl (fun _ _ h1 h2 => run_load1 ag_64 (h1.ev rfl) (rdR hb0 hc0 h2) rfl) ?_
 refine Tq.va rfl (fun _ _ h1 h2 => run_fieldAddr fo_66_1 (h1.ev rfl)) ?_
 refine Tq.va rfl (fun _ _ h1 h2 => run_loadN (cs := [(iv p0.to_.X), (iv p0.to_.Y)]) ag_44 sz_44 (h1.ev rfl) (CellsAt.take (rdb h2 (vs := [(iv p0.from_.X), (iv p0.from_.Y), (iv p0.to_.X), (iv p0.to_.Y)]) (k := 1) rfl 2) 2) rfl) ?_
 obtain ⟨l102, hl102, H⟩ := bnd H
 obtain ⟨Al102, cl102, hsl102, hkl102⟩ := hmq0.look hl102
 refine Tq.va rfl (fun _ _ h1 h2 => hkl102 h2 un_64 kp_44 zs_53 (h1.ev rfl) (h1.ev rfl)) ?_
 refine Tq.va rfl (fun _ _ h1 h2 => run_len un_53 (h1.ev rfl)) ?_
 refine Tq.va rfl (fun _ _ h1 h2 => run_eql (h1.ev rfl) (h1.ev rfl)) ?_
 refine Tq.mv rfl rfl ?_
 obtain ⟨g105, hg105, H⟩ := bnd H
 refine Tq.mid 7 [(20, (.bool g105))] ?_ ?_
 ·cases hg107 : ((l102.length : Int) == 1)
  ·rw [hg107] at hg105
   rw [if_neg (by decide)] at hg105
   have H := hg105
   refine Tq.val (wg rfl rfl rfl) rfl (fun _ _ h1 h2 => run_loadN (cs := [(iv p1.from_.X), (iv p1.from_.Y), (iv p1.to_.X), (iv p1.to_.Y)]) ag_66 sz_66 (h1.ev rfl) (CellsAt.take (rdb h2 (vs := [(iv p1.from_.X), (iv p1.from_.Y), (iv p1.to_.X), (iv p1.to_.Y)]) (k := 2) rfl 0) 4) rfl) ?_
   obtain ⟨y106, hy106, H⟩ := bnd H
   refine Tq.call0 (r := (.agg #[(iv y106.X), (iv y106.Y)])) (wg rfl rfl rfl) rfl Try.call31 (evl_cons rfl evl_nil) (fun W hW => F_shape_side__direction_ok p1 y106 hy106 (HF.start _)) ?_
   refine Tq.val (wg rfl rfl rfl) rfl (fun _ _ h1 h2 => run_load1 ag_69 (h1.ev rfl) (rdR hb1 hc1 h2) rfl) ?_
   refine Tq.val (wg rfl rfl rfl) rfl (fun _ _ h1 h2 => run_loadN (cs := [(iv p0.from_.X), (iv p0.from_.Y), (iv p0.to_.X), (iv p0.to_.Y)]) ag_66 sz_66 (h1.ev rfl) (CellsAt.take (rdb h2 (vs := [(iv p0.from_.X), (iv p0.from_.Y), (iv p0.to_.X), (iv p0.to_.Y)]) (k := 1) rfl 0) 4) rfl) ?_
   obtain ⟨y107, hy107, H⟩ := bnd H
   refine Tq.callF (r := (.agg #[(iv y107.X), (iv y107.Y)])) (wg rfl rfl rfl) rfl rfl (F_disp_69_call N q1 p0 _ hy107) (evl_cons rfl evl_nil) (fun W hW => F_disp_69_ok N q1 p0 y107 hy107 (HF.start _)) ?_
   refine Tq.val (wg rfl rfl rfl) rfl (fun _ _ h1 h2 => run_eql_44 y106 y107 (h1.ev rfl) (h1.ev rfl)) ?_
   refine Tq.va rfl (fun _ _ h1 h2 => run_pickF (h1.ev rfl) (h1.ev rfl)) ?_
   obtain rfl := Option.some.inj H
   exact Tq.fin (.cons rfl .nil)
  ·rw [hg107] at hg105
   rw [if_pos rfl] at hg105
   have H := hg105
   obtain rfl := Option.some.inj H
   refine Tq.pass rfl rfl rfl rfl rfl (by decide) ?_
   refine Tq.pass rfl rfl rfl rfl rfl (by decide) ?_
   refine Tq.pass rfl rfl rfl rfl rfl (by decide) ?_
   refine Tq.pass rfl rfl rfl rfl rfl (by decide) ?_
   refine Tq.pass rfl rfl rfl rfl rfl (by decide) ?_
   refine Tq.pass rfl rfl rfl rfl rfl (by decide) ?_
   refine Tq.va rfl (fun _ _ h1 h2 => run_pickT (h1.ev rfl) (h1.ev rfl)) ?_
   exact Tq.fin (.cons rfl .nil)
 ·refine Tq.asg rfl rfl ?_
  refine Tq.nil (Tr.normThen ?_)
  refine Tr.ret ?_
  obtain rfl := Option.some.inj H
  exact Tr.out (m := [(.bool g105)]) [] (res_tmp rfl res_nil) (fun W hW => ⟨rfl, hW.low leB⟩)

theorem F_shape_less_ok {w : Bs} (p0 : TPoint) (p1 : TPoint) (r : Bool) (H : F_shape_less p0 p1 = some r) (hE : HF w w.W E0) : Calls Try.prog 37 [(.agg #[(iv p0.X), (iv p0.Y)]), (.agg #[(iv p1.X), (iv p1.Y)])].toArray w.W fun e W' => e = .returned (.bool r) ∧ HF w W' E0 := by
 unfold F_shape_less at H
 have leB := Bs.Le.refl w
 refine Tr.enter (n := 24) Try.func37 rfl rfl rfl hE ?_
 refine Tr.sr ?_
 refine Tr.box 1 (cs := [(iv p0.X), (iv p0.Y)]) (wn rfl) rfl rfl rfl fun b100 => ?_
 refine Tr.box 2 (cs := [(iv p1.X), (iv p1.Y)]) (wn rfl) rfl rfl rfl fun b101 => ?_
 refine Tr.asg rfl rfl ?_
 refine Tr.nil (Tr.normThen ?_)
 refine Tr.sr ?_
 refine Tr.va rfl (fun _ _ h1 h2 => run_fieldAddr fo_44_1 (h1.ev rfl)) ?_
 refine Tr.va rfl (fun _ _ h1 h2 => run_load1 ag_3 (h1.ev rfl) (rdb h2 (vs := [(iv p0.X), (iv p0.Y)]) (k := 1) rfl 1) rfl) ?_
 refine Tr.va rfl (fun _ _ h1 h2 => run_fieldAddr fo_44_1 (h1.ev rfl)) ?_
 refine Tr.va rfl (fun _ _ h1 h2 => run_load1 ag_3 (h1.ev rfl) (rdb h2 (vs := [(iv p1.X), (iv p1.Y)]) (k := 2) rfl 1) rfl) ?_
 refine Tr.va rfl (fun _ _ h1 h2 => run_lss (h1.ev rfl) (h1.ev rfl)) ?_
 refine Tr.mv rfl rfl ?_
 refine Tr.mid0 13 [(23, (.bool ((decide (p0.Y < p1.Y)) || ((p0.Y == p1.Y) && (decide (p0.X < p1.X))))))] [(1, bx b100 #[(iv p0.X), (iv p0.Y)] 44), (2, bx b101 #[(iv p1.X), (iv p1.Y)] 44)] ?_ ?_
 ·cases hg101 : (decide (p0.Y < p1.Y))
  ·refine Tr.val (wg rfl rfl rfl) rfl (fun _ _ h1 h2 => run_fieldAddr fo_44_1 (h1.ev rfl)) ?_
   refine Tr.val (wg rfl rfl rfl) rfl (fun _ _ h1 h2 => run_load1 ag_3 (h1.ev rfl) (rdb h2 (vs := [(iv p0.X), (iv p0.Y)]) (k := 1) rfl 1) rfl) ?_
   refine Tr.val (wg rfl rfl rfl) rfl (fun _ _ h1 h2 => run_fieldAddr fo_44_1 (h1.ev rfl)) ?_
   refine Tr.val (wg rfl rfl rfl) rfl (fun _ _ h1 h2 => run_load1 ag_3 (h1.ev rfl) (rdb h2 (vs := [(iv p1.X), (iv p1.Y)]) (k := 2) rfl 1) rfl) ?_
   refine Tr.val (wg rfl rfl rfl) rfl (fun _ _ h1 h2 => run_eql (h1.ev rfl) (h1.ev rfl)) ?_
   refine Tr.val (wg rfl rfl rfl) rfl (fun _ _ h1 h2 => run_move (h1.ev rfl)) ?_
   refine Tr.mid0 6 [(10, (.bool false)), (22, (.bool ((p0.Y == p1.Y) && (decide (p0.X < p1.X)))))] [(1, bx b100 #[(iv p0.X), (iv p0.Y)] 44), (2, bx b101 #[(iv p1.X), (iv p1.Y)] 44)] ?_ ?_
   ·cases hg101 : (p0.Y == p1.Y)
    ·refine Tr.pass rfl rfl rfl rfl rfl (by decide) ?_
     refine Tr.pass rfl rfl rfl rfl rfl (by decide) ?_
     refine Tr.pass rfl rfl rfl rfl rfl (by decide) ?_
     refine Tr.pass rfl rfl rfl rfl rfl (by decide) ?_
     refine Tr.pass rfl rfl rfl rfl rfl (by decide) ?_
     refine Tr.val (wg rfl rfl rfl) rfl (fun _ _ h1 h2 => run_pickF (h1.ev rfl) (h1.ev rfl)) ?_
     exact Tr.nil (Tr.fin0 (.cons rfl (.cons rfl .nil)) (.cons rfl (.cons rfl .nil)))
    ·refine Tr.val (wg rfl rfl rfl) rfl (fun _ _ h1 h2 => run_fieldAddr fo_44_0 (h1.ev rfl)) ?_
     refine Tr.val (wg rfl rfl rfl) rfl (fun _ _ h1 h2 => run_load1 ag_3 (h1.ev rfl) (rdb h2 (vs := [(iv p0.X), (iv p0.Y)]) (k := 1) rfl 0) rfl) ?_
     refine Tr.val (wg rfl rfl rfl) rfl (fun _ _ h1 h2 => run_fieldAddr fo_44_0 (h1.ev rfl)) ?_
     refine Tr.val (wg rfl rfl rfl) rfl (fun _ _ h1 h2 => run_load1 ag_3 (h1.ev rfl) (rdb h2 (vs := [(iv p1.X), (iv p1.Y)]) (k := 2) rfl 0) rfl) ?_
     refine Tr.val (wg rfl rfl rfl) rfl (fun _ _ h1 h2 => run_lss (h1.ev rfl) (h1.ev rfl)) ?_
     refine Tr.val (wg rfl rfl rfl) rfl (fun _ _ h1 h2 => run_pickT (h1.ev rfl) (h1.ev rfl)) ?_
     exact Tr.nil (Tr.fin0 (.cons rfl (.cons rfl .nil)) (.cons rfl (.cons rfl .nil)))
   ·show Tr _ _ (LF [(10, (.bool false)), (22, (.bool ((p0.Y == p1.Y) && (decide (p0.X < p1.X)))))]) (LE [(1, bx b100 #[(iv p0.X), (iv p0.Y)] 44), (2, bx b101 #[(iv p1.X), (iv p1.Y)] 44)]) _
    refine Tr.va rfl (fun _ _ h1 h2 => run_pickF (h1.ev rfl) (h1.ev rfl)) ?_
    exact Tr.nil (Tr.fin0 (.cons rfl .nil) (.cons rfl (.cons rfl .nil)))
  ·refine Tr.pass rfl rfl rfl rfl rfl (by decide) ?_
   refine Tr.pass rfl rfl rfl rfl rfl (by decide) ?_
   refine Tr.pass rfl rfl rfl rfl rfl (by decide) ?_
   refine Tr.pass rfl rfl rfl rfl rfl (by decide) ?_
   refine Tr.pass rfl rfl rfl rfl rfl (by decide) ?_
   refine Tr.pass rfl rfl rfl rfl rfl (by decide) ?_
   refine Tr.passU rfl rfl rfl rfl (by decide) ?_
   refine Tr.passU rfl rfl rfl rfl (by decide) ?_
   refine Tr.passU rfl rfl rfl rfl (by decide) ?_
   refine Tr.passU rfl rfl rfl rfl (by decide) ?_
   refine Tr.passU rfl rfl rfl rfl (by decide) ?_
   refine Tr.pass rfl rfl rfl rfl rfl (by decide) ?_
   refine Tr.va rfl (fun _ _ h1 h2 => run_pickT (h1.ev rfl) (h1.ev rfl)) ?_
   exact Tr.nil (Tr.fin0 (.cons rfl .nil) (.cons rfl (.cons rfl .nil)))
 ·show Tr _ _ (LF [(23, (.bool ((decide (p0.Y < p1.Y)) || ((p0.Y == p1.Y) && (decide (p0.X < p1.X))))))]) (LE [(1, bx b100 #[(iv p0.X), (iv p0.Y)] 44), (2, bx b101 #[(iv p1.X), (iv p1.Y)] 44)]) _
  refine Tr.asg rfl rfl ?_
  refine Tr.nil (Tr.normThen ?_)
  refine Tr.ret ?_
  obtain rfl := Option.some.inj H
  exact Tr.out (m := [(.bool ((decide (p0.Y < p1.Y)) || ((p0.Y == p1.Y) && (decide (p0.X < p1.X)))))]) [] (res_tmp rfl res_nil) (fun W hW => ⟨rfl, hW.low leB⟩)

theorem F_slices_Grow_TPoint_ok {w : Bs} (p1 : Int) (r : (List TPoint)) (H : grN p1 = some r) (hE : HF w w.W (LEn [emp])) : Calls Try.prog 78 [(.slice none 0 0), (iv p1)].toArray w.W fun e W' => ∃ u : (Option Addr × Nat), e = .returned (.slice u.1 (r).length u.2) ∧ (SlF u.1 (r).length u.2) ∧ HF w W' (LEn [ow u.1 u.2 44 fl_TPoint r]) :=
 growN_rule (ρ := Try.grow78_ren) Try.grow78 rfl sz_44 zl_44 (by decide) by_44 rfl H hE

theorem F_slices_Concat_Point_ok {w : Bs} (p0 : (List (List TPoint))) (Ap0_0 : Option Addr) (cp0_0 : Nat) (hp0_0 : Sl w.R w.W fl_LTPoint Ap0_0 cp0_0 p0) (r : (List TPoint)) (H : F_slices_Concat_Point p0 = some r) (hE : HF w w.W (LEn [emp])) : Calls Try.prog 56 [(.slice Ap0_0 (p0).length cp0_0)].toArray w.W fun e W' => ∃ u : (Option Addr × Nat), e = .returned (.slice u.1 (r).length u.2) ∧ (SlF u.1 (r).length u.2) ∧ HF w W' (LEn [ow u.1 u.2 44 fl_TPoint r]) := by
 unfold F_slices_Concat_Point at H
 have leB := Bs.Le.refl w
 refine Tr.enter (n := 36) Try.func56 rfl rfl rfl hE ?_
 refine Tr.sr ?_
 refine Tr.asg rfl rfl ?_
 refine Tr.nilOwn 1 44 fl_TPoint ?_
 show Tr _ _ (uf _ 2 (.slice none (([] : List TPoint)).length 0)) _ _
 refine Tr.nil (Tr.normThen ?_)
 refine Tr.sr ?_
 refine Tr.asg rfl rfl ?_
 refine Tr.nil (Tr.normThen ?_)
 refine Tr.seq ?_
 refine Tr.sr ?_
 refine Tr.mv rfl rfl ?_
 refine Tr.va rfl (fun _ _ h1 h2 => run_len un_23 (h1.ev rfl)) ?_
 refine Tr.mv rfl rfl ?_
 refine Tr.nil (Tr.normThen ?_)
 refine Tr.block ?_
 refine Tr.loop (σ := (List (List TPoint)) × Nat × Int) (fun m w s => m = s.1.length + 1 ∧ s.1 = List.drop s.2.1 p0 ∧ s.2.1 ≤ p0.length ∧ F_slices_Concat_Point_L1 p0 s.1 s.2.1 s.2.2 = some r) (fun s => [(0, (.slice Ap0_0 (p0).length cp0_0)), (3, (iv s.2.2)), (9, (.slice Ap0_0 (p0).length cp0_0)), (10, (iv (p0.length : Int))), (11, (iv (s.2.1 : Int)))]) (fun s => []) (p0.length + 1) (p0, 0, 0) ⟨rfl, rfl, Nat.zero_le _, H⟩ (.cons rfl (.cons rfl (.cons rfl (.cons rfl (.cons rfl .nil))))) .nil (fun _ _ h => absurd h.1 (by simp)) ?_
 intro w leL1 m s hs
 obtain ⟨restL1, iL1, x110⟩ := s
 obtain ⟨hmL1, hdL1, hiL1, H⟩ := hs
 replace hdL1 : restL1 = List.drop iL1 p0 := hdL1
 replace H : F_slices_Concat_Point_L1 p0 restL1 iL1 x110 = some r := H
 replace hmL1 : m + 1 = restL1.length + 1 := hmL1
 replace hp0_0 := hp0_0.leR leL1
 replace leB := leB.trans leL1
 obtain rfl : m = restL1.length := by omega
 clear hmL1
 show Tr _ _ (LF [(0, (.slice Ap0_0 (p0).length cp0_0)), (3, (iv x110)), (9, (.slice Ap0_0 (p0).length cp0_0)), (10, (iv (p0.length : Int))), (11, (iv (iL1 : Int)))]) (LE []) _
 cases restL1 with
 | nil =>
  rw [F_slices_Concat_Point_L1.eq_1] at H
  refine Tr.sr ?_
  refine Tr.va rfl (fun _ _ h1 h2 => run_lss (h1.ev rfl) (h1.ev rfl)) ?_
  refine Tr.nil (Tr.normThen ?_)
  refine Tr.seq ?_
  refine Tr.condF rfl (range_nil hdL1) ?_
  refine Tr.exit (Tr.exitThen (Tr.exitThen (Tr.exitBlock (Tr.normThen ?_))))
  refine Tr.sr ?_
  refine Tr.mv rfl rfl ?_
  obtain ⟨y111, hy111, H⟩ := bnd H
  refine Tr.callM [2] [emp] (U := (Option Addr × Nat)) (fun u => (.slice u.1 (y111).length u.2)) (fun u => SlF u.1 (y111).length u.2) (fun u => [ow u.1 u.2 44 fl_TPoint y111]) rfl (pk_cons rfl pk_nil) (fun _ => rfl) (wn rfl) rfl Try.call78 (evl_cons rfl (evl_cons rfl evl_nil)) (fun W hW hp hE => F_slices_Grow_TPoint_ok x110 y111 hy111 hE) ?_
  intro u hu
  obtain ⟨Ay111_0, cy111_0⟩ := u
  have gy111_0 := hu
  have hgy111_0 : SlF Ay111_0 (y111).length cy111_0 := gy111_0 --@phi
  show Tr _ _ (uf _ 24 (.slice Ay111_0 (y111).length cy111_0)) (up _ 2 (ow Ay111_0 cy111_0 44 fl_TPoint y111)) _
  refine Tr.asg rfl rfl ?_
  refine Tr.nil (Tr.normThen ?_)
  refine Tr.seq ?_
  refine Tr.sr ?_
  refine Tr.mv rfl rfl ?_
  refine Tr.va rfl (fun _ _ h1 h2 => run_len un_23 (h1.ev rfl)) ?_
  refine Tr.mv rfl rfl ?_
  refine Tr.nil (Tr.normThen ?_)
  refine Tr.block ?_
  refine Tr.loop (σ := (List (List TPoint)) × Nat × (List TPoint) × (Option Addr) × Nat) (fun m w s => m = s.1.length + 1 ∧ s.1 = List.drop s.2.1 p0 ∧ s.2.1 ≤ p0.length ∧ F_slices_Concat_Point_L2 s.1 s.2.1 s.2.2.1 = some r ∧ SlF s.2.2.2.1 (s.2.2.1).length s.2.2.2.2) (fun s => [(6, (.slice s.2.2.2.1 (s.2.2.1).length s.2.2.2.2)), (25, (.slice Ap0_0 (p0).length cp0_0)), (26, (iv (p0.length : Int))), (27, (iv (s.2.1 : Int)))]) (fun s => [(2, ow s.2.2.2.1 s.2.2.2.2 44 fl_TPoint s.2.2.1)]) (p0.length + 1) (p0, 0, y111, Ay111_0, cy111_0) ⟨rfl, rfl, Nat.zero_le _, H, hgy111_0⟩ (.cons rfl (.cons rfl (.cons rfl (.cons rfl .nil)))) (.cons rfl .nil) (fun _ _ h => absurd h.1 (by simp)) ?_
  intro w leL2 m s hs
  obtain ⟨restL2, iL2, l125, Al125, cl125⟩ := s
  obtain ⟨hmL2, hdL2, hiL2, H, hl125⟩ := hs
  replace hdL2 : restL2 = List.drop iL2 p0 := hdL2
  replace H : F_slices_Concat_Point_L2 restL2 iL2 l125 = some r := H
  replace hmL2 : m + 1 = restL2.length + 1 := hmL2
  replace hp0_0 := hp0_0.leR leL2
  replace leB := leB.trans leL2
  replace leL1 := leL1.trans leL2
  replace hl125 : SlF Al125 (l125).length cl125 := hl125
  obtain rfl : m = restL2.length := by omega
  clear hmL2
  show Tr _ _ (LF [(6, (.slice Al125 (l125).length cl125)), (25, (.slice Ap0_0 (p0).length cp0_0)), (26, (iv (p0.length : Int))), (27, (iv (iL2 : Int)))]) (LE [(2, ow Al125 cl125 44 fl_TPoint l125)]) _
  cases restL2 with
  | nil =>
   rw [F_slices_Concat_Point_L2.eq_1] at H
   refine Tr.sr ?_
   refine Tr.va rfl (fun _ _ h1 h2 => run_lss (h1.ev rfl) (h1.ev rfl)) ?_
   refine Tr.nil (Tr.normThen ?_)
   refine Tr.seq ?_
   refine Tr.condF rfl (range_nil hdL2) ?_
   refine Tr.exit (Tr.exitThen (Tr.exitThen (Tr.exitBlock (Tr.normThen ?_))))
   refine Tr.sr ?_
   refine Tr.mv rfl rfl ?_
   refine Tr.asg rfl rfl ?_
   refine Tr.nil (Tr.normThen ?_)
   refine Tr.ret ?_
   obtain rfl := Option.some.inj H
   exact Tr.out (m := [(.slice Al125 (l125).length cl125)]) [] (res_tmp rfl res_nil) (fun W hW => ⟨(Al125, cl125), rfl, hl125, HF.lowE leB (hW.pick (ks := [2]) (by decide) (pk_cons rfl pk_nil)) ⟨ow_any _ _ _ _ tr_TPoint, trivial⟩⟩)
  | cons xL2 restL2 =>
   rw [F_slices_Concat_Point_L2.eq_2] at H
   refine Tr.sr ?_
   refine Tr.va rfl (fun _ _ h1 h2 => run_lss (h1.ev rfl) (h1.ev rfl)) ?_
   refine Tr.nil (Tr.normThen ?_)
   refine Tr.seq ?_
   refine Tr.condT rfl (range_on hdL2) ?_
   refine Tr.skip (Tr.normThen ?_)
   refine Tr.seq ?_
   refine Tr.block ?_
   refine Tr.sr ?_
   obtain ⟨u126, hRu126, hoku126, hcu126⟩ := (hp0_0).el (range_at hdL2)
   obtain ⟨Au126_0, cu126_0⟩ := u126
   have hoku126_0 := hoku126
   replace hoku126_0 : Sl w.R w.W fl_TPoint Au126_0 cu126_0 xL2 := hoku126_0
   refine Tr.va rfl (fun _ _ h1 h2 => run_indexAddr el_23 (h1.ev rfl) hp0_0.form (h1.ev rfl) (Int.natCast_nonneg _) (range_lt hdL2)) ?_
   refine Tr.va rfl (fun _ _ h1 h2 => run_load1 ag_39 (h1.ev rfl) (rdR hRu126 hcu126 h2) rfl) ?_
   refine Tr.asg rfl rfl ?_
   refine Tr.nil (Tr.normThen ?_)
   refine Tr.region ?_
   refine Tr.mv rfl rfl ?_
   refine Tr.mv rfl rfl ?_
   obtain ⟨l127, hl127, H⟩ := bnd H
   refine Tr.appendS 2 (t := fl_TPoint) (l := l125) (l2 := xL2) (wn rfl) rfl rfl rfl rfl (apT tr_TPoint (fun W hW => (Sl.inB hoku126_0 hW))) un_39 sz_44 zl_44 (by decide) by_44 rfl hl127 fun Al127 cl127 hAl127 => ?_
   refine Tr.asg rfl rfl ?_
   refine Tr.nil (Tr.normBlock (Tr.normThen ?_))
   refine Tr.region ?_
   refine Tr.va rfl (fun _ _ h1 h2 => run_add (h1.ev rfl) (h1.ev rfl)) ?_
   refine Tr.mv rfl rfl ?_
   refine Tr.nil ?_
   exact Tr.backThen leL2 (restL2, (iL2 + 1), l127, Al127, cl127) ⟨rfl, range_tl hdL2, range_lt hdL2, H, hAl127⟩ (.cons rfl (.cons rfl (.cons rfl (.cons (congrArg (fun z => some (Value.int .i64 z)) (range_up hdL2 hp0_0.form)) .nil)))) (.cons rfl .nil)
 | cons xL1 restL1 =>
  rw [F_slices_Concat_Point_L1.eq_2] at H
  refine Tr.sr ?_
  refine Tr.va rfl (fun _ _ h1 h2 => run_lss (h1.ev rfl) (h1.ev rfl)) ?_
  refine Tr.nil (Tr.normThen ?_)
  refine Tr.seq ?_
  refine Tr.condT rfl (range_on hdL1) ?_
  refine Tr.skip (Tr.normThen ?_)
  refine Tr.seq ?_
  refine Tr.block ?_
  refine Tr.sr ?_
  obtain ⟨u128, hRu128, hoku128, hcu128⟩ := (hp0_0).el (range_at hdL1)
  obtain ⟨Au128_0, cu128_0⟩ := u128
  have hoku128_0 := hoku128
  replace hoku128_0 : Sl w.R w.W fl_TPoint Au128_0 cu128_0 xL1 := hoku128_0
  refine Tr.va rfl (fun _ _ h1 h2 => run_indexAddr el_23 (h1.ev rfl) hp0_0.form (h1.ev rfl) (Int.natCast_nonneg _) (range_lt hdL1)) ?_
  refine Tr.va rfl (fun _ _ h1 h2 => run_load1 ag_39 (h1.ev rfl) (rdR hRu128 hcu128 h2) rfl) ?_
  refine Tr.asg rfl rfl ?_
  refine Tr.nil (Tr.normThen ?_)
  refine Tr.sr ?_
  refine Tr.mv rfl rfl ?_
  refine Tr.mv rfl rfl ?_
  refine Tr.va rfl (fun _ _ h1 h2 => run_len un_39 (h1.ev rfl)) ?_
  refine Tr.va rfl (fun _ _ h1 h2 => run_add (h1.ev rfl) (h1.ev rfl)) ?_
  refine Tr.asg rfl rfl ?_
  refine Tr.nil (Tr.normThen ?_)
  refine Tr.sr ?_
  refine Tr.mv rfl rfl ?_
  refine Tr.va rfl (fun _ _ h1 h2 => run_lss (h1.ev rfl) (h1.ev rfl)) ?_
  refine Tr.nil (Tr.normThen ?_)
  refine Tr.cond rfl H (fun H => ?_) (fun H => ?_)
  ·cases H
  ·refine Tr.skip (Tr.normBlock (Tr.normThen ?_))
   refine Tr.region ?_
   refine Tr.va rfl (fun _ _ h1 h2 => run_add (h1.ev rfl) (h1.ev rfl)) ?_
   refine Tr.mv rfl rfl ?_
   refine Tr.nil ?_
   exact Tr.backThen leL1 (restL1, (iL1 + 1), (w64 (x110 + (xL1.length : Int)))) ⟨rfl, range_tl hdL1, range_lt hdL1, H⟩ (.cons rfl (.cons rfl (.cons rfl (.cons rfl (.cons (congrArg (fun z => some (Value.int .i64 z)) (range_up hdL1 hp0_0.form)) .nil))))) .nil

theorem F_shape_corners_ok {w : Bs} (p0 : (List TSide)) (Ap0_0 : Option Addr) (cp0_0 : Nat) (hp0_0 : Sl w.R w.W fl_TSide Ap0_0 cp0_0 p0) (r : (List TPoint)) (H : F_shape_corners p0 = some r) (hE : HF w w.W (LEn [emp])) : Calls Try.prog 34 [(.slice Ap0_0 (p0).length cp0_0)].toArray w.W fun e W' => ∃ u : (Option Addr × Nat), e = .returned (.slice u.1 (r).length u.2) ∧ (SlF u.1 (r).length u.2) ∧ HF w W' (LEn [ow u.1 u.2 44 fl_TPoint r]) := by
 unfold F_shape_corners at H
 have leB := Bs.Le.refl w
 refine Tr.enter (n := 60) Try.func34 rfl rfl rfl hE ?_
 refine Tr.sr ?_
 refine Tr.asg rfl rfl ?_
 refine Tr.nilOwn 1 44 fl_TPoint ?_
 show Tr _ _ (uf _ 2 (.slice none (([] : List TPoint)).length 0)) _ _
 refine Tr.nil (Tr.normThen ?_)
 refine Tr.sr ?_
 refine Tr.asg rfl rfl ?_
 refine Tr.nilOwn 2 44 fl_TPoint ?_
 show Tr _ _ (uf _ 3 (.slice none (([] : List TPoint)).length 0)) _ _
 refine Tr.nil (Tr.normThen ?_)
 refine Tr.seq ?_
 refine Tr.sr ?_
 refine Tr.mv rfl rfl ?_
 refine Tr.va rfl (fun _ _ h1 h2 => run_len un_62 (h1.ev rfl)) ?_
 refine Tr.mv rfl rfl ?_
 refine Tr.nil (Tr.normThen ?_)
 refine Tr.block ?_
 refine Tr.loop (σ := (List TSide) × Nat × (List TPoint) × (Option Addr) × Nat) (fun m w s => m = s.1.length + 1 ∧ s.1 = List.drop s.2.1 p0 ∧ s.2.1 ≤ p0.length ∧ F_shape_corners_L1 p0 s.1 s.2.1 s.2.2.1 = some r ∧ SlF s.2.2.2.1 (s.2.2.1).length s.2.2.2.2) (fun s => [(0, (.slice Ap0_0 (p0).length cp0_0)), (3, (.slice s.2.2.2.1 (s.2.2.1).length s.2.2.2.2)), (9, (.slice Ap0_0 (p0).length cp0_0)), (10, (iv (p0.length : Int))), (11, (iv (s.2.1 : Int)))]) (fun s => [(2, ow s.2.2.2.1 s.2.2.2.2 44 fl_TPoint s.2.2.1)]) (p0.length + 1) (p0, 0, ([] : List TPoint), none, 0) ⟨rfl, rfl, Nat.zero_le _, H, slf_nil⟩ (.cons rfl (.cons rfl (.cons rfl (.cons rfl (.cons rfl .nil))))) (.cons rfl .nil) (fun _ _ h => absurd h.1 (by simp)) ?_
 intro w leL1 m s hs
 obtain ⟨restL1, iL1, l122, Al122, cl122⟩ := s
 obtain ⟨hmL1, hdL1, hiL1, H, hl122⟩ := hs
 replace hdL1 : restL1 = List.drop iL1 p0 := hdL1
 replace H : F_shape_corners_L1 p0 restL1 iL1 l122 = some r := H
 replace hmL1 : m + 1 = restL1.length + 1 := hmL1
 replace hp0_0 := hp0_0.leR leL1
 replace leB := leB.trans leL1
 replace hl122 : SlF Al122 (l122).length cl122 := hl122
 obtain rfl : m = restL1.length := by omega
 clear hmL1
 show Tr _ _ (LF [(0, (.slice Ap0_0 (p0).length cp0_0)), (3, (.slice Al122 (l122).length cl122)), (9, (.slice Ap0_0 (p0).length cp0_0)), (10, (iv (p0.length : Int))), (11, (iv (iL1 : Int)))]) (LE [(2, ow Al122 cl122 44 fl_TPoint l122)]) _
 cases restL1 with
 | nil =>
  rw [F_shape_corners_L1.eq_1] at H
  refine Tr.sr ?_
  refine Tr.va rfl (fun _ _ h1 h2 => run_lss (h1.ev rfl) (h1.ev rfl)) ?_
  refine Tr.nil (Tr.normThen ?_)
  refine Tr.seq ?_
  refine Tr.condF rfl (range_nil hdL1) ?_
  refine Tr.exit (Tr.exitThen (Tr.exitThen (Tr.exitBlock (Tr.normThen ?_))))
  refine Tr.sr ?_
  refine Tr.asg rfl rfl ?_
  refine Tr.nil (Tr.normThen ?_)
  refine Tr.seq ?_
  refine Tr.sr ?_
  refine Tr.mv rfl rfl ?_
  refine Tr.va rfl (fun _ _ h1 h2 => run_len un_39 (h1.ev rfl)) ?_
  refine Tr.mv rfl rfl ?_
  refine Tr.nil (Tr.normThen ?_)
  refine Tr.block ?_
  refine Tr.loop (σ := (List TPoint) × Nat × Int) (fun m w s => m = s.1.length + 1 ∧ s.1 = List.drop s.2.1 l122 ∧ s.2.1 ≤ l122.length ∧ F_shape_corners_L2 l122 s.1 s.2.1 s.2.2 = some r) (fun s => [(3, (.slice Al122 (l122).length cl122)), (6, (iv s.2.2)), (37, (.slice Al122 (l122).length cl122)), (38, (iv (l122.length : Int))), (39, (iv (s.2.1 : Int)))]) (fun s => [(2, ow Al122 cl122 44 fl_TPoint l122)]) (l122.length + 1) (l122, 0, 0) ⟨rfl, rfl, Nat.zero_le _, H⟩ (.cons rfl (.cons rfl (.cons rfl (.cons rfl (.cons rfl .nil))))) (.cons rfl .nil) (fun _ _ h => absurd h.1 (by simp)) ?_
  intro w leL2 m s hs
  obtain ⟨restL2, iL2, x137⟩ := s
  obtain ⟨hmL2, hdL2, hiL2, H⟩ := hs
  replace hdL2 : restL2 = List.drop iL2 l122 := hdL2
  replace H : F_shape_corners_L2 l122 restL2 iL2 x137 = some r := H
  replace hmL2 : m + 1 = restL2.length + 1 := hmL2
  replace leB := leB.trans leL2
  replace leL1 := leL1.trans leL2
  obtain rfl : m = restL2.length := by omega
  clear hmL2
  show Tr _ _ (LF [(3, (.slice Al122 (l122).length cl122)), (6, (iv x137)), (37, (.slice Al122 (l122).length cl122)), (38, (iv (l122.length : Int))), (39, (iv (iL2 : Int)))]) (LE [(2, ow Al122 cl122 44 fl_TPoint l122)]) _
  cases restL2 with
  | nil =>
   rw [F_shape_corners_L2.eq_1] at H
   refine Tr.sr ?_
   refine Tr.va rfl (fun _ _ h1 h2 => run_lss (h1.ev rfl) (h1.ev rfl)) ?_
   refine Tr.nil (Tr.normThen ?_)
   refine Tr.seq ?_
   refine Tr.condF rfl (range_nil hdL2) ?_
   refine Tr.exit (Tr.exitThen (Tr.exitThen (Tr.exitBlock (Tr.normThen ?_))))
   refine Tr.seq ?_
   refine Tr.drawTail 6 (by kernel_rfl) (by kernel_rfl) ?_
   refine Tq.mv rfl rfl ?_
   refine Tq.mv rfl rfl ?_
   obtain ⟨l138, hl138, H⟩ := bnd H
   refine Tq.va rfl (fun _ _ h1 h2 => run_cutL el_39 (h1.ev rfl) hl122 (h1.ev rfl) hl138) ?_
   refine Tq.mv rfl rfl ?_
   refine Tq.mv rfl rfl ?_
   obtain ⟨l139, hl139, H⟩ := bnd H
   refine Tq.va rfl (fun _ _ h1 h2 => run_pre el_39 (h1.ev rfl) hl122 (h1.ev rfl) hl139) ?_
   refine Tq.nil ?_
   refine Tr.freeze 2 rfl fun w le141 hz140 => ?_
   replace leB := leB.trans le141
   replace leL1 := leL1.trans le141
   replace leL2 := leL2.trans le141
   refine Tr.buildSlice 9 (e := 39) (vs := [(0, (.slice (cutA Al122 x137.toNat 2 cl122) (l138).length (cl122 - x137.toNat))), (1, (.slice Al122 (l139).length cl122))]) (cs := [(.slice (cutA Al122 x137.toNat 2 cl122) (l138).length (cl122 - x137.toNat)), (.slice Al122 (l139).length cl122)]) (wn rfl) rfl (evs_cons rfl (evs_cons rfl evs_nil)) (by kernel_rfl) fun b142 => ?_
   refine Tr.own 9 fl_LTPoint [l138, l139] (css := [[(.slice (cutA Al122 x137.toNat 2 cl122) (l138).length (cl122 - x137.toNat))], [(.slice Al122 (l139).length cl122)]]) rfl (.cons ⟨((cutA Al122 x137.toNat 2 cl122), (cl122 - x137.toNat)), (Sl.cut hz140 hl138), rfl⟩ (.cons ⟨(Al122, cl122), (Sl.pre hz140 hl139), rfl⟩ .nil)) rfl (by decide) (lit_max rfl) ?_
   obtain ⟨y143, hy143, H⟩ := bnd H
   refine Tr.callM [10] [emp] (U := (Option Addr × Nat)) (fun u => (.slice u.1 (y143).length u.2)) (fun u => SlF u.1 (y143).length u.2) (fun u => [ow u.1 u.2 44 fl_TPoint y143]) rfl (pk_cons rfl pk_nil) (fun _ => rfl) (wn rfl) rfl Try.call56 (evl_cons rfl evl_nil) (fun W hW hp hE => F_slices_Concat_Point_ok [l138, l139] (some ⟨b142, 0, none⟩) 2 (hW.slS (k := 9) rfl hp rfl) y143 hy143 hE) ?_
   intro u hu
   obtain ⟨Ay143_0, cy143_0⟩ := u
   have gy143_0 := hu
   have hgy143_0 : SlF Ay143_0 (y143).length cy143_0 := gy143_0 --@phi
   show Tr _ _ (uf _ 59 (.slice Ay143_0 (y143).length cy143_0)) (up _ 10 (ow Ay143_0 cy143_0 44 fl_TPoint y143)) _
   refine Tr.asg rfl rfl ?_
   refine Tr.nil (Tr.normThen ?_)
   refine Tr.ret ?_
   obtain rfl := Option.some.inj H
   exact Tr.out (m := [(.slice Ay143_0 (y143).length cy143_0)]) [] (res_tmp rfl res_nil) (fun W hW => ⟨(Ay143_0, cy143_0), rfl, hgy143_0, HF.lowE leB (hW.pick (ks := [10]) (by decide) (pk_cons rfl pk_nil)) ⟨ow_any _ _ _ _ tr_TPoint, trivial⟩⟩)
  | cons xL2 restL2 =>
   rw [F_shape_corners_L2.eq_2] at H
   refine Tr.sr ?_
   refine Tr.va rfl (fun _ _ h1 h2 => run_lss (h1.ev rfl) (h1.ev rfl)) ?_
   refine Tr.nil (Tr.normThen ?_)
   refine Tr.seq ?_
   refine Tr.condT rfl (range_on hdL2) ?_
   refine Tr.skip (Tr.normThen ?_)
   refine Tr.seq ?_
   refine Tr.block ?_
   refine Tr.sr ?_
   refine Tr.mv rfl rfl ?_
   refine Tr.va rfl (fun _ _ h1 h2 => run_indexAddr el_39 (h1.ev rfl) hl122 (h1.ev rfl) (Int.natCast_nonneg _) (range_lt hdL2)) ?_
   refine Tr.va rfl (fun _ _ h1 h2 => run_loadN (cs := [(iv xL2.X), (iv xL2.Y)]) ag_44 sz_44 (h1.ev rfl) (CellsAt.take (rdo ef_TPoint (k := 2) h2 rfl (range_at hdL2)) 2) rfl) ?_
   refine Tr.alloc 11 (wn rfl) rfl ze_44 fun b145 => ?_
   refine Tr.asg rfl rfl ?_
   refine Tr.store 11 (cs := [(iv xL2.X), (iv xL2.Y)]) [(iv xL2.X), (iv xL2.Y)] (wn rfl) rfl rfl rfl rfl sz_44 rfl rfl rfl ?_
   refine Tr.nil (Tr.normThen ?_)
   refine Tr.seq ?_
   refine Tr.draw (by kernel_rfl) (by kernel_rfl) ?_
   refine Tq.va rfl (fun _ _ h1 h2 => run_loadN (cs := [(iv xL2.X), (iv xL2.Y)]) ag_44 sz_44 (h1.ev rfl) (CellsAt.take (rdb h2 (vs := [(iv xL2.X), (iv xL2.Y)]) (k := 11) rfl 0) 2) rfl) ?_
   refine Tq.mv rfl rfl ?_
   refine Tq.mv rfl rfl ?_
   obtain ⟨x146, hx146, H⟩ := bnd H
   obtain ⟨hx1460, hx1461, hx1462⟩ := idx_some hx146
   refine Tq.va rfl (fun _ _ h1 h2 => run_indexAddr el_39 (h1.ev rfl) hl122 (h1.ev rfl) hx1460 hx1461) ?_
   refine Tq.va rfl (fun _ _ h1 h2 => run_loadN (cs := [(iv x146.X), (iv x146.Y)]) ag_44 sz_44 (h1.ev rfl) (CellsAt.take (rdo ef_TPoint (k := 2) h2 rfl hx1462) 2) rfl) ?_
   obtain ⟨y147, hy147, H⟩ := bnd H
   refine Tq.call0 (r := (.bool y147)) (wn rfl) rfl Try.call37 (evl_cons rfl (evl_cons rfl evl_nil)) (fun W hW => F_shape_less_ok xL2 x146 y147 hy147 (HF.start _)) ?_
   refine Tq.nil (Tr.normThen ?_)
   refine Tr.cond rfl H (fun H => ?_) (fun H => ?_)
   ·refine Tr.region ?_
    refine Tr.mv rfl rfl ?_
    refine Tr.asg rfl rfl ?_
    refine Tr.nil (Tr.normBlock (Tr.normThen ?_))
    refine Tr.region ?_
    refine Tr.va rfl (fun _ _ h1 h2 => run_add (h1.ev rfl) (h1.ev rfl)) ?_
    refine Tr.mv rfl rfl ?_
    refine Tr.nil ?_
    exact Tr.backThen leL2 (restL2, (iL2 + 1), (iL2 : Int)) ⟨rfl, range_tl hdL2, range_lt hdL2, H⟩ (.cons rfl (.cons rfl (.cons rfl (.cons rfl (.cons (congrArg (fun z => some (Value.int .i64 z)) (range_up hdL2 hl122)) .nil))))) (.cons rfl .nil)
   ·refine Tr.skip (Tr.normBlock (Tr.normThen ?_))
    refine Tr.region ?_
    refine Tr.va rfl (fun _ _ h1 h2 => run_add (h1.ev rfl) (h1.ev rfl)) ?_
    refine Tr.mv rfl rfl ?_
    refine Tr.nil ?_
    exact Tr.backThen leL2 (restL2, (iL2 + 1), x137) ⟨rfl, range_tl hdL2, range_lt hdL2, H⟩ (.cons rfl (.cons rfl (.cons rfl (.cons rfl (.cons (congrArg (fun z => some (Value.int .i64 z)) (range_up hdL2 hl122)) .nil))))) (.cons rfl .nil)
 | cons xL1 restL1 =>
  rw [F_shape_corners_L1.eq_2] at H
  refine Tr.sr ?_
  refine Tr.va rfl (fun _ _ h1 h2 => run_lss (h1.ev rfl) (h1.ev rfl)) ?_
  refine Tr.nil (Tr.normThen ?_)
  refine Tr.seq ?_
  refine Tr.condT rfl (range_on hdL1) ?_
  refine Tr.skip (Tr.normThen ?_)
  refine Tr.seq ?_
  refine Tr.block ?_
  refine Tr.sr ?_
  refine Tr.mv rfl rfl ?_
  refine Tr.va rfl (fun _ _ h1 h2 => run_indexAddr el_62 (h1.ev rfl) hp0_0.form (h1.ev rfl) (Int.natCast_nonneg _) (range_lt hdL1)) ?_
  refine Tr.va rfl (fun _ _ h1 h2 => run_loadN (cs := [(iv xL1.from_.X), (iv xL1.from_.Y), (iv xL1.to_.X), (iv xL1.to_.Y)]) ag_66 sz_66 (h1.ev rfl) (CellsAt.take (rdF ef_TSide hp0_0 (range_at hdL1) h2) 4) rfl) ?_
  refine Tr.alloc 12 (wn rfl) rfl ze_66 fun b148 => ?_
  refine Tr.asg rfl rfl ?_
  refine Tr.store 12 (cs := [(iv xL1.from_.X), (iv xL1.from_.Y), (iv xL1.to_.X), (iv xL1.to_.Y)]) [(iv xL1.from_.X), (iv xL1.from_.Y), (iv xL1.to_.X), (iv xL1.to_.Y)] (wn rfl) rfl rfl rfl rfl sz_66 rfl rfl rfl ?_
  refine Tr.nil (Tr.normThen ?_)
  refine Tr.seq ?_
  refine Tr.draw (by kernel_rfl) (by kernel_rfl) ?_
  refine Tq.va rfl (fun _ _ h1 h2 => run_loadN (cs := [(iv xL1.from_.X), (iv xL1.from_.Y), (iv xL1.to_.X), (iv xL1.to_.Y)]) ag_66 sz_66 (h1.ev rfl) (CellsAt.take (rdb h2 (vs := [(iv xL1.from_.X), (iv xL1.from_.Y), (iv xL1.to_.X), (iv xL1.to_.Y)]) (k := 12) rfl 0) 4) rfl) ?_
  obtain ⟨y149, hy149, H⟩ := bnd H
  refine Tq.call0 (r := (.agg #[(iv y149.X), (iv y149.Y)])) (wn rfl) rfl Try.call31 (evl_cons rfl evl_nil) (fun W hW => F_shape_side__direction_ok xL1 y149 hy149 (HF.start _)) ?_
  refine Tq.mv rfl rfl ?_
  refine Tq.mv rfl rfl ?_
  refine Tq.mv rfl rfl ?_
  refine Tq.va rfl (fun _ _ h1 h2 => run_len un_62 (h1.ev rfl)) ?_
  refine Tq.va rfl (fun _ _ h1 h2 => run_add (h1.ev rfl) (h1.ev rfl)) ?_
  refine Tq.va rfl (fun _ _ h1 h2 => run_sub (h1.ev rfl) (h1.ev rfl)) ?_
  refine Tq.mv rfl rfl ?_
  refine Tq.va rfl (fun _ _ h1 h2 => run_len un_62 (h1.ev rfl)) ?_
  obtain ⟨q150, hq150, H⟩ := bnd H
  refine Tq.va rfl (fun _ _ h1 h2 => run_md (h1.ev rfl) (h1.ev rfl) hq150) ?_
  obtain ⟨x151, hx151, H⟩ := bnd H
  obtain ⟨hx1510, hx1511, hx1512⟩ := idx_some hx151
  refine Tq.va rfl (fun _ _ h1 h2 => run_indexAddr el_62 (h1.ev rfl) hp0_0.form (h1.ev rfl) hx1510 hx1511) ?_
  refine Tq.va rfl (fun _ _ h1 h2 => run_loadN (cs := [(iv x151.from_.X), (iv x151.from_.Y), (iv x151.to_.X), (iv x151.to_.Y)]) ag_66 sz_66 (h1.ev rfl) (CellsAt.take (rdF ef_TSide hp0_0 hx1512 h2) 4) rfl) ?_
  obtain ⟨y152, hy152, H⟩ := bnd H
  refine Tq.call0 (r := (.agg #[(iv y152.X), (iv y152.Y)])) (wn rfl) rfl Try.call31 (evl_cons rfl evl_nil) (fun W hW => F_shape_side__direction_ok x151 y152 hy152 (HF.start _)) ?_
  refine Tq.va rfl (fun _ _ h1 h2 => run_neq_44 y149 y152 (h1.ev rfl) (h1.ev rfl)) ?_
  refine Tq.nil (Tr.normThen ?_)
  refine Tr.cond rfl H (fun H => ?_) (fun H => ?_)
  ·refine Tr.region ?_
   refine Tr.mv rfl rfl ?_
   refine Tr.va rfl (fun _ _ h1 h2 => run_fieldAddr fo_66_0 (h1.ev rfl)) ?_
   refine Tr.va rfl (fun _ _ h1 h2 => run_loadN (cs := [(iv xL1.from_.X), (iv xL1.from_.Y)]) ag_44 sz_44 (h1.ev rfl) (CellsAt.take (rdb h2 (vs := [(iv xL1.from_.X), (iv xL1.from_.Y), (iv xL1.to_.X), (iv xL1.to_.Y)]) (k := 12) rfl 0) 2) rfl) ?_
   refine Tr.buildSlice 13 (e := 44) (vs := [(0, (.agg #[(iv xL1.from_.X), (iv xL1.from_.Y)]))]) (cs := [(iv xL1.from_.X), (iv xL1.from_.Y)]) (wn rfl) rfl (evs_cons rfl evs_nil) (by kernel_rfl) fun b153 => ?_
   obtain ⟨l154, hl154, H⟩ := bnd H
   refine Tr.append 2 (t := fl_TPoint) (l := l122) (l2 := [xL1.from_]) (wn rfl) rfl rfl rfl rfl (fun W hW => ⟨[[(iv xL1.from_.X), (iv xL1.from_.Y)]], (.cons ⟨(), trivial, rfl⟩ .nil), rdb hW (vs := [(iv xL1.from_.X), (iv xL1.from_.Y)]) (k := 13) rfl 0⟩) un_39 sz_44 zl_44 (by decide) by_44 rfl hl154 fun Al154 cl154 hAl154 => ?_
   refine Tr.asg rfl rfl ?_
   refine Tr.nil (Tr.normBlock (Tr.normThen ?_))
   refine Tr.region ?_
   refine Tr.va rfl (fun _ _ h1 h2 => run_add (h1.ev rfl) (h1.ev rfl)) ?_
   refine Tr.mv rfl rfl ?_
   refine Tr.nil ?_
   exact Tr.backThen leL1 (restL1, (iL1 + 1), l154, Al154, cl154) ⟨rfl, range_tl hdL1, range_lt hdL1, H, hAl154⟩ (.cons rfl (.cons rfl (.cons rfl (.cons rfl (.cons (congrArg (fun z => some (Value.int .i64 z)) (range_up hdL1 hp0_0.form)) .nil))))) (.cons rfl .nil)
  ·refine Tr.skip (Tr.normBlock (Tr.normThen ?_))
   refine Tr.region ?_
   refine Tr.va rfl (fun _ _ h1 h2 => run_add (h1.ev rfl) (h1.ev rfl)) ?_
   refine Tr.mv rfl rfl ?_
   refine Tr.nil ?_
   exact Tr.backThen leL1 (restL1, (iL1 + 1), l122, Al122, cl122) ⟨rfl, range_tl hdL1, range_lt hdL1, H, hl122⟩ (.cons rfl (.cons rfl (.cons rfl (.cons rfl (.cons (congrArg (fun z => some (Value.int .i64 z)) (range_up hdL1 hp0_0.form)) .nil))))) (.cons rfl .nil)

theorem F_slices_SortFunc_LTPoint_ok {w : Bs} (p0 : List (List TPoint)) (Ap0_0 : Option Addr) (cp0_0 : Nat) (p1 : (List TPoint) → (List TPoint) → Option Int) (fid1 : Nat) (cap1 : List Value) (hg1 : ∀ args W, (callFunc fid1 args).run Try.prog W = .ok (.enter fid1 args) W) (hf1 : ∀ (w' : Bs), w.Ext w' → ∀ (z0 : (List TPoint)) (A0 : Option Addr) (c0 : Nat), Sl w'.R w'.W fl_TPoint A0 c0 z0 → ∀ (z1 : (List TPoint)) (A1 : Option Addr) (c1 : Nat), Sl w'.R w'.W fl_TPoint A1 c1 z1 → ∀ y, p1 z0 z1 = some y → Calls Try.prog fid1 (([.slice A0 z0.length c0, .slice A1 z1.length c1] : List Value) ++ cap1).toArray w'.W fun e W'' => e = .returned (iv y) ∧ HF w' W'' E0) (r : List (List TPoint)) (H : srtU p0 p1 = some r) (hE : HF w w.W (LEn [ow Ap0_0 cp0_0 39 fl_LTPoint p0])) : Calls Try.prog 35 [(.slice Ap0_0 (p0).length cp0_0), (.func (.func fid1) #[] cap1.toArray)].toArray w.W fun e W' => ∃ u : Unit, e = .returned (.tuple #[]) ∧ ((r).length = (p0).length) ∧ HF w W' (LEn [ow Ap0_0 cp0_0 39 fl_LTPoint r]) :=
 sortFuncS_rule (ρ := Try.srt35_ren) Try.srt35 rfl (fun _ _ u x h => ⟨(u, x), rfl, rfl, h⟩) (fun _ _ p h => ⟨p.1, h, rfl⟩) hg1 hf1 H hE

theorem F_shape_Set__Borders_4_ok {w : Bs} (p0 : (List TPoint)) (Ap0_0 : Option Addr) (cp0_0 : Nat) (hp0_0 : Sl w.R w.W fl_TPoint Ap0_0 cp0_0 p0) (p1 : (List TPoint)) (Ap1_0 : Option Addr) (cp1_0 : Nat) (hp1_0 : Sl w.R w.W fl_TPoint Ap1_0 cp1_0 p1) (r : Int) (H : F_shape_Set__Borders_4 p0 p1 = some r) (hE : HF w w.W E0) : Calls Try.prog 36 [(.slice Ap0_0 (p0).length cp0_0), (.slice Ap1_0 (p1).length cp1_0)].toArray w.W fun e W' => e = .returned (iv r) ∧ HF w W' E0 := by
 unfold F_shape_Set__Borders_4 at H
 have leB := Bs.Le.refl w
 refine Tr.enter (n := 29) Try.func36 rfl rfl rfl hE ?_
 refine Tr.sr ?_
 refine Tr.asg rfl rfl ?_
 refine Tr.nil (Tr.normThen ?_)
 refine Tr.seq ?_
 refine Tr.block ?_
 have leJ113 := Bs.Le.refl w
 refine Tr.cutJ (σ := Bool) (fun w s => F_shape_Set__Borders_4_J1 s = some r) (fun s => [(5, (.bool s))]) (fun s => []) ?_ ?_
 ·refine Tr.seq ?_
  refine Tr.draw (by kernel_rfl) (by kernel_rfl) ?_
  refine Tq.mv rfl rfl ?_
  obtain ⟨x115, hx115, H⟩ := bnd H
  obtain ⟨hx1150, hx1151, hx1152⟩ := idx_some hx115
  refine Tq.va rfl (fun _ _ h1 h2 => run_indexAddr el_39 (h1.ev rfl) hp0_0.form (h1.ev rfl) hx1150 hx1151) ?_
  refine Tq.va rfl (fun _ _ h1 h2 => run_loadN (cs := [(iv x115.X), (iv x115.Y)]) ag_44 sz_44 (h1.ev rfl) (CellsAt.take (rdF ef_TPoint hp0_0 hx1152 h2) 2) rfl) ?_
  refine Tq.mv rfl rfl ?_
  obtain ⟨x116, hx116, H⟩ := bnd H
  obtain ⟨hx1160, hx1161, hx1162⟩ := idx_some hx116
  refine Tq.va rfl (fun _ _ h1 h2 => run_indexAddr el_39 (h1.ev rfl) hp1_0.form (h1.ev rfl) hx1160 hx1161) ?_
  refine Tq.va rfl (fun _ _ h1 h2 => run_loadN (cs := [(iv x116.X), (iv x116.Y)]) ag_44 sz_44 (h1.ev rfl) (CellsAt.take (rdF ef_TPoint hp1_0 hx1162 h2) 2) rfl) ?_
  obtain ⟨y117, hy117, H⟩ := bnd H
  refine Tq.call0 (r := (.bool y117)) (wn rfl) rfl Try.call37 (evl_cons rfl (evl_cons rfl evl_nil)) (fun W hW => F_shape_less_ok x115 x116 y117 hy117 (HF.start _)) ?_
  refine Tq.asg rfl rfl ?_
  refine Tq.nil (Tr.normThen ?_)
  refine Tr.cond rfl H (fun H => ?_) (fun H => ?_)
  ·refine Tr.skip ?_
   exact Tr.backThen leJ113 y117 H (.cons rfl .nil) .nil
  ·refine Tr.draw (by kernel_rfl) (by kernel_rfl) ?_
   refine Tq.mv rfl rfl ?_
   obtain ⟨x118, hx118, H⟩ := bnd H
   obtain ⟨hx1180, hx1181, hx1182⟩ := idx_some hx118
   refine Tq.va rfl (fun _ _ h1 h2 => run_indexAddr el_39 (h1.ev rfl) hp0_0.form (h1.ev rfl) hx1180 hx1181) ?_
   refine Tq.va rfl (fun _ _ h1 h2 => run_loadN (cs := [(iv x118.X), (iv x118.Y)]) ag_44 sz_44 (h1.ev rfl) (CellsAt.take (rdF ef_TPoint hp0_0 hx1182 h2) 2) rfl) ?_
   refine Tq.mv rfl rfl ?_
   obtain ⟨x119, hx119, H⟩ := bnd H
   obtain ⟨hx1190, hx1191, hx1192⟩ := idx_some hx119
   refine Tq.va rfl (fun _ _ h1 h2 => run_indexAddr el_39 (h1.ev rfl) hp1_0.form (h1.ev rfl) hx1190 hx1191) ?_
   refine Tq.va rfl (fun _ _ h1 h2 => run_loadN (cs := [(iv x119.X), (iv x119.Y)]) ag_44 sz_44 (h1.ev rfl) (CellsAt.take (rdF ef_TPoint hp1_0 hx1192 h2) 2) rfl) ?_
   refine Tq.va rfl (fun _ _ h1 h2 => run_eql_44 x118 x119 (h1.ev rfl) (h1.ev rfl)) ?_
   refine Tq.mv rfl rfl ?_
   obtain ⟨g123, hg123, H⟩ := bnd H
   refine Tq.mid 8 [(28, (.bool g123))] ?_ ?_
   ·cases hg126 : (eqTPoint x118 x119)
    ·rw [hg126] at hg123
     rw [if_neg (by decide)] at hg123
     have H := hg123
     obtain rfl := Option.some.inj H
     refine Tq.pass rfl rfl rfl rfl rfl (by decide) ?_
     refine Tq.pass rfl rfl rfl rfl rfl (by decide) ?_
     refine Tq.pass rfl rfl rfl rfl rfl (by decide) ?_
     refine Tq.pass rfl rfl rfl rfl rfl (by decide) ?_
     refine Tq.pass rfl rfl rfl rfl rfl (by decide) ?_
     refine Tq.pass rfl rfl rfl rfl rfl (by decide) ?_
     refine Tq.pass rfl rfl rfl rfl rfl (by decide) ?_
     refine Tq.va rfl (fun _ _ h1 h2 => run_pickF (h1.ev rfl) (h1.ev rfl)) ?_
     exact Tq.fin (.cons rfl .nil)
    ·rw [hg126] at hg123
     rw [if_pos rfl] at hg123
     have H := hg123
     refine Tq.val (wg rfl rfl rfl) rfl (fun _ _ h1 h2 => run_move (h1.ev rfl)) ?_
     obtain ⟨x124, hx124, H⟩ := bnd H
     obtain ⟨hx1240, hx1241, hx1242⟩ := idx_some hx124
     refine Tq.val (wg rfl rfl rfl) rfl (fun _ _ h1 h2 => run_indexAddr el_39 (h1.ev rfl) hp1_0.form (h1.ev rfl) hx1240 hx1241) ?_
     refine Tq.val (wg rfl rfl rfl) rfl (fun _ _ h1 h2 => run_loadN (cs := [(iv x124.X), (iv x124.Y)]) ag_44 sz_44 (h1.ev rfl) (CellsAt.take (rdF ef_TPoint hp1_0 hx1242 h2) 2) rfl) ?_
     refine Tq.val (wg rfl rfl rfl) rfl (fun _ _ h1 h2 => run_move (h1.ev rfl)) ?_
     obtain ⟨x125, hx125, H⟩ := bnd H
     obtain ⟨hx1250, hx1251, hx1252⟩ := idx_some hx125
     refine Tq.val (wg rfl rfl rfl) rfl (fun _ _ h1 h2 => run_indexAddr el_39 (h1.ev rfl) hp0_0.form (h1.ev rfl) hx1250 hx1251) ?_
     refine Tq.val (wg rfl rfl rfl) rfl (fun _ _ h1 h2 => run_loadN (cs := [(iv x125.X), (iv x125.Y)]) ag_44 sz_44 (h1.ev rfl) (CellsAt.take (rdF ef_TPoint hp0_0 hx1252 h2) 2) rfl) ?_
     obtain ⟨y126, hy126, H⟩ := bnd H
     refine Tq.call0 (r := (.bool y126)) (wg rfl rfl rfl) rfl Try.call37 (evl_cons rfl (evl_cons rfl evl_nil)) (fun W hW => F_shape_less_ok x124 x125 y126 hy126 (HF.start _)) ?_
     refine Tq.va rfl (fun _ _ h1 h2 => run_pickT (h1.ev rfl) (h1.ev rfl)) ?_
     obtain rfl := Option.some.inj H
     exact Tq.fin (.cons rfl .nil)
   ·refine Tq.asg rfl rfl ?_
    refine Tq.nil ?_
    exact Tr.backThen leJ113 g123 H (.cons rfl .nil) .nil
 ·intro w x112 hlJ114 hs
  have H := hs
  replace H : F_shape_Set__Borders_4_J1 x112 = some r := H
  replace leB := leB.trans hlJ114
  unfold F_shape_Set__Borders_4_J1 at H
  show Tr _ _ (LF [(5, (.bool x112))]) (LE []) _
  refine Tr.cond rfl H (fun H => ?_) (fun H => ?_)
  ·refine Tr.sr ?_
   refine Tr.asg rfl rfl ?_
   refine Tr.nil (Tr.normThen ?_)
   refine Tr.ret (Tr.retBlock (Tr.retThen ?_))
   obtain rfl := Option.some.inj H
   exact Tr.out (m := [(iv (-1))]) [] (res_tmp rfl res_nil) (fun W hW => ⟨rfl, hW.low leB⟩)
  ·refine Tr.skip (Tr.normBlock (Tr.normThen ?_))
   refine Tr.sr ?_
   refine Tr.asg rfl rfl ?_
   refine Tr.nil (Tr.normThen ?_)
   refine Tr.ret ?_
   obtain rfl := Option.some.inj H
   exact Tr.out (m := [(iv 1)]) [] (res_tmp rfl res_nil) (fun W hW => ⟨rfl, hW.low leB⟩)

theorem F_shape_Set__Borders_2__Borders_1_ok {w : Bs} (p0 : TSide) (p1 : TSide) (q0 : (List ((Int × Int) × List Int))) (bmq0 : Nat) (hmq0 : MRo w.R w.W encP okP bmq0 fl_i64 q0) (bq0 : Nat) (hb0 : w.R bq0) (hc0 : CellsAt w.W bq0 0 [(.map (some bmq0))]) (bq1 : Nat) (hb1 : w.R bq1) (hc1 : CellsAt w.W bq1 0 [(.func (.func 30) #[] #[])]) (r : Bool) (H : F_shape_Set__Borders_2__Borders_1 p0 p1 q0 = some r) (hE : HF w w.W E0) : Calls Try.prog 32 [(.agg #[(iv p0.from_.X), (iv p0.from_.Y), (iv p0.to_.X), (iv p0.to_.Y)]), (.agg #[(iv p1.from_.X), (iv p1.from_.Y), (iv p1.to_.X), (iv p1.to_.Y)]), (.pointer (some ⟨bq0, 0, none⟩)), (.pointer (some ⟨bq1, 0, none⟩))].toArray w.W fun e W' => e = .returned (.bool r) ∧ HF w W' E0 := by
 unfold F_shape_Set__Borders_2__Borders_1 at H
 have leB := Bs.Le.refl w
 refine Tr.enter (n := 21) Try.func32 rfl rfl rfl hE ?_
 refine Tr.sr ?_
 refine Tr.box 1 (cs := [(iv p0.from_.X), (iv p0.from_.Y), (iv p0.to_.X), (iv p0.to_.Y)]) (wn rfl) rfl rfl rfl fun b100 => ?_
 refine Tr.box 2 (cs := [(iv p1.from_.X), (iv p1.from_.Y), (iv p1.to_.X), (iv p1.to_.Y)]) (wn rfl) rfl rfl rfl fun b101 => ?_
 refine Tr.asg rfl rfl ?_
 refine Tr.nil (Tr.normThen ?_)
 refine Tr.seq ?_
 refine Tr.draw (by kernel_rfl) (by kernel_rfl) ?_
 refine Tq.va rfl (fun _ _ h1 h2 => run_load1 ag_64 (h1.ev rfl) (rdR hb0 hc0 h2) rfl) ?_
 refine Tq.va rfl (fun _ _ h1 h2 => run_fieldAddr fo_66_1 (h1.ev rfl)) ?_
 refine Tq.va rfl (fun _ _ h1 h2 => run_loadN (cs := [(iv p0.to_.X), (iv p0.to_.Y)]) ag_44 sz_44 (h1.ev rfl) (CellsAt.take (rdb h2 (vs := [(iv p0.from_.X), (iv p0.from_.Y), (iv p0.to_.X), (iv p0.to_.Y)]) (k := 1) rfl 2) 2) rfl) ?_
 obtain ⟨l102, hl102, H⟩ := bnd H
 obtain ⟨Al102, cl102, hsl102, hkl102⟩ := hmq0.look hl102
 refine Tq.va rfl (fun _ _ h1 h2 => hkl102 h2 un_64 kp_44 zs_53 (h1.ev rfl) (h1.ev rfl)) ?_
 refine Tq.va rfl (fun _ _ h1 h2 => run_len un_53 (h1.ev rfl)) ?_
 refine Tq.va rfl (fun _ _ h1 h2 => run_eql (h1.ev rfl) (h1.ev rfl)) ?_
 refine Tq.mv rfl rfl ?_
 obtain ⟨g105, hg105, H⟩ := bnd H
 refine Tq.mid 7 [(20, (.bool g105))] ?_ ?_
 ·cases hg107 : ((l102.length : Int) == 1)
  ·rw [hg107] at hg105
   rw [if_neg (by decide)] at hg105
   have H := hg105
   refine Tq.val (wg rfl rfl rfl) rfl (fun _ _ h1 h2 => run_loadN (cs := [(iv p1.from_.X), (iv p1.from_.Y), (iv p1.to_.X), (iv p1.to_.Y)]) ag_66 sz_66 (h1.ev rfl) (CellsAt.take (rdb h2 (vs := [(iv p1.from_.X), (iv p1.from_.Y), (iv p1.to_.X), (iv p1.to_.Y)]) (k := 2) rfl 0) 4) rfl) ?_
   obtain ⟨y106, hy106, H⟩ := bnd H
   refine Tq.call0 (r := (.agg #[(iv y106.X), (iv y106.Y)])) (wg rfl rfl rfl) rfl Try.call31 (evl_cons rfl evl_nil) (fun W hW => F_shape_side__direction_ok p1 y106 hy106 (HF.start _)) ?_
   refine Tq.val (wg rfl rfl rfl) rfl (fun _ _ h1 h2 => run_load1 ag_69 (h1.ev rfl) (rdR hb1 hc1 h2) rfl) ?_
   refine Tq.val (wg rfl rfl rfl) rfl (fun _ _ h1 h2 => run_loadN (cs := [(iv p0.from_.X), (iv p0.from_.Y), (iv p0.to_.X), (iv p0.to_.Y)]) ag_66 sz_66 (h1.ev rfl) (CellsAt.take (rdb h2 (vs := [(iv p0.from_.X), (iv p0.from_.Y), (iv p0.to_.X), (iv p0.to_.Y)]) (k := 1) rfl 0) 4) rfl) ?_
   obtain ⟨y107, hy107, H⟩ := bnd H
   refine Tq.callF (r := (.agg #[(iv y107.X), (iv y107.Y)])) (wg rfl rfl rfl) rfl rfl Try.call30 (evl_cons rfl evl_nil) (fun W hW => F_shape_Set__Borders_1_ok p0 y107 hy107 (HF.start _)) ?_
   refine Tq.val (wg rfl rfl rfl) rfl (fun _ _ h1 h2 => run_eql_44 y106 y107 (h1.ev rfl) (h1.ev rfl)) ?_
   refine Tq.va rfl (fun _ _ h1 h2 => run_pickF (h1.ev rfl) (h1.ev rfl)) ?_
   obtain rfl := Option.some.inj H
   exact Tq.fin (.cons rfl .nil)
  ·rw [hg107] at hg105
   rw [if_pos rfl] at hg105
   have H := hg105
   obtain rfl := Option.some.inj H
   refine Tq.pass rfl rfl rfl rfl rfl (by decide) ?_
   refine Tq.pass rfl rfl rfl rfl rfl (by decide) ?_
   refine Tq.pass rfl rfl rfl rfl rfl (by decide) ?_
   refine Tq.pass rfl rfl rfl rfl rfl (by decide) ?_
   refine Tq.pass rfl rfl rfl rfl rfl (by decide) ?_
   refine Tq.pass rfl rfl rfl rfl rfl (by decide) ?_
   refine Tq.va rfl (fun _ _ h1 h2 => run_pickT (h1.ev rfl) (h1.ev rfl)) ?_
   exact Tq.fin (.cons rfl .nil)
 ·refine Tq.asg rfl rfl ?_
  refine Tq.nil (Tr.normThen ?_)
  refine Tr.ret ?_
  obtain rfl := Option.some.inj H
  exact Tr.out (m := [(.bool g105)]) [] (res_tmp rfl res_nil) (fun W hW => ⟨rfl, hW.low leB⟩)

theorem F_shape_Set__Borders_3__Borders_2__Borders_1_ok {w : Bs} (p0 : TSide) (q0 : (List ((Int × Int) × List Int))) (bmq0 : Nat) (hmq0 : MRo w.R w.W encP okP bmq0 fl_i64 q0) (bq0 : Nat) (hb0 : w.R bq0) (hc0 : CellsAt w.W bq0 0 [(.map (some bmq0))]) (q1 : (List Bool)) (Aq1_0 : Option Addr) (cq1_0 : Nat) (hq1_0 : Sl w.R w.W fl_bool Aq1_0 cq1_0 q1) (bq1 : Nat) (hb1 : w.R bq1) (hc1 : CellsAt w.W bq1 0 [(.slice Aq1_0 (q1).length cq1_0)]) (bq2 : Nat) (q3 : (List TSide)) (Aq3_0 : Option Addr) (cq3_0 : Nat) (hq3_0 : Sl w.R w.W fl_TSide Aq3_0 cq3_0 q3) (bq3 : Nat) (hb3 : w.R bq3) (hc3 : CellsAt w.W bq3 0 [(.slice Aq3_0 (q3).length cq3_0)]) (q4 : (List ((Int × Int) × List Int))) (bmq4 : Nat) (hmq4 : MRo w.R w.W encP okP bmq4 fl_i64 q4) (bq4 : Nat) (hb4 : w.R bq4) (hc4 : CellsAt w.W bq4 0 [(.map (some bmq4))]) (bq5 : Nat) (hb2 : w.R bq2) (hc2 : CellsAt w.W bq2 0 [(.func (.func 32) #[] #[(.pointer (some ⟨bq4, 0, none⟩)), (.pointer (some ⟨bq5, 0, none⟩))])]) (hb5 : w.R bq5) (hc5 : CellsAt w.W bq5 0 [(.func (.func 30) #[] #[])]) (r : Int) (H : F_shape_Set__Borders_3__Borders_2__Borders_1 p0 q0 q1 q3 q4 = some r) (hE : HF w w.W E0) : Calls Try.prog 33 [(.agg #[(iv p0.from_.X), (iv p0.from_.Y), (iv p0.to_.X), (iv p0.to_.Y)]), (.pointer (some ⟨bq0, 0, none⟩)), (.pointer (some ⟨bq1, 0, none⟩)), (.pointer (some ⟨bq2, 0, none⟩)), (.pointer (some ⟨bq3, 0, none⟩))].toArray w.W fun e W' => e = .returned (iv r) ∧ HF w W' E0 := by
 unfold F_shape_Set__Borders_3__Borders_2__Borders_1 at H
 have leB := Bs.Le.refl w
 refine Tr.enter (n := 34) Try.func33 rfl rfl rfl hE ?_
 refine Tr.sr ?_
 refine Tr.box 1 (cs := [(iv p0.from_.X), (iv p0.from_.Y), (iv p0.to_.X), (iv p0.to_.Y)]) (wn rfl) rfl rfl rfl fun b100 => ?_
 refine Tr.asg rfl rfl ?_
 refine Tr.nil (Tr.normThen ?_)
 refine Tr.seq ?_
 refine Tr.sr ?_
 refine Tr.va rfl (fun _ _ h1 h2 => run_load1 ag_64 (h1.ev rfl) (rdR hb0 hc0 h2) rfl) ?_
 refine Tr.va rfl (fun _ _ h1 h2 => run_fieldAddr fo_66_1 (h1.ev rfl)) ?_
 refine Tr.va rfl (fun _ _ h1 h2 => run_loadN (cs := [(iv p0.to_.X), (iv p0.to_.Y)]) ag_44 sz_44 (h1.ev rfl) (CellsAt.take (rdb h2 (vs := [(iv p0.from_.X), (iv p0.from_.Y), (iv p0.to_.X), (iv p0.to_.Y)]) (k := 1) rfl 2) 2) rfl) ?_
 obtain ⟨l101, hl101, H⟩ := bnd H
 obtain ⟨Al101, cl101, hsl101, hkl101⟩ := hmq0.look hl101
 refine Tr.va rfl (fun _ _ h1 h2 => hkl101 h2 un_64 kp_44 zs_53 (h1.ev rfl) (h1.ev rfl)) ?_
 refine Tr.va rfl (fun _ _ h1 h2 => run_len un_53 (h1.ev rfl)) ?_
 refine Tr.mv rfl rfl ?_
 refine Tr.nil (Tr.normThen ?_)
 refine Tr.block ?_
 refine Tr.loop (σ := (List Int) × Nat) (fun m w s => m = s.1.length + 1 ∧ s.1 = List.drop s.2 l101 ∧ s.2 ≤ l101.length ∧ F_shape_Set__Borders_3__Borders_2__Borders_1_L1 p0 q1 q3 q4 s.1 s.2 = some r) (fun s => [(2, (.pointer (some ⟨bq1, 0, none⟩))), (3, (.pointer (some ⟨bq2, 0, none⟩))), (4, (.pointer (some ⟨bq3, 0, none⟩))), (5, (.pointer (some ⟨b100, 0, none⟩))), (12, (.slice Al101 (l101).length cl101)), (13, (iv (l101.length : Int))), (14, (iv (s.2 : Int)))]) (fun s => [(1, bx b100 #[(iv p0.from_.X), (iv p0.from_.Y), (iv p0.to_.X), (iv p0.to_.Y)] 66)]) (l101.length + 1) (l101, 0) ⟨rfl, rfl, Nat.zero_le _, H⟩ (.cons rfl (.cons rfl (.cons rfl (.cons rfl (.cons rfl (.cons rfl (.cons rfl .nil))))))) (.cons rfl .nil) (fun _ _ h => absurd h.1 (by simp)) ?_
 intro w leL1 m s hs
 obtain ⟨restL1, iL1⟩ := s
 obtain ⟨hmL1, hdL1, hiL1, H⟩ := hs
 replace hdL1 : restL1 = List.drop iL1 l101 := hdL1
 replace H : F_shape_Set__Borders_3__Borders_2__Borders_1_L1 p0 q1 q3 q4 restL1 iL1 = some r := H
 replace hmL1 : m + 1 = restL1.length + 1 := hmL1
 replace hc1 := leL1.ext.cells hb1 hc1
 replace hb1 := leL1.r _ hb1
 replace hq1_0 := hq1_0.leR leL1
 replace hc2 := leL1.ext.cells hb2 hc2
 replace hb2 := leL1.r _ hb2
 replace hc4 := leL1.ext.cells hb4 hc4
 replace hb4 := leL1.r _ hb4
 replace hmq4 := hmq4.leR leL1
 replace hc5 := leL1.ext.cells hb5 hc5
 replace hb5 := leL1.r _ hb5
 replace hc3 := leL1.ext.cells hb3 hc3
 replace hb3 := leL1.r _ hb3
 replace hq3_0 := hq3_0.leR leL1
 replace hsl101 := hsl101.leR leL1
 replace leB := leB.trans leL1
 obtain rfl : m = restL1.length := by omega
 clear hmL1
 show Tr _ _ (LF [(2, (.pointer (some ⟨bq1, 0, none⟩))), (3, (.pointer (some ⟨bq2, 0, none⟩))), (4, (.pointer (some ⟨bq3, 0, none⟩))), (5, (.pointer (some ⟨b100, 0, none⟩))), (12, (.slice Al101 (l101).length cl101)), (13, (iv (l101.length : Int))), (14, (iv (iL1 : Int)))]) (LE [(1, bx b100 #[(iv p0.from_.X), (iv p0.from_.Y), (iv p0.to_.X), (iv p0.to_.Y)] 66)]) _
 cases restL1 with
 | nil =>
  rw [F_shape_Set__Borders_3__Borders_2__Borders_1_L1.eq_1] at H
  refine Tr.sr ?_
  refine Tr.va rfl (fun _ _ h1 h2 => run_lss (h1.ev rfl) (h1.ev rfl)) ?_
  refine Tr.nil (Tr.normThen ?_)
  refine Tr.seq ?_
  refine Tr.condF rfl (range_nil hdL1) ?_
  refine Tr.exit (Tr.exitThen (Tr.exitThen (Tr.exitBlock (Tr.normThen ?_))))
  refine Tr.sr ?_
  refine Tr.asg rfl rfl ?_
  refine Tr.nil (Tr.normThen ?_)
  refine Tr.ret ?_
  obtain rfl := Option.some.inj H
  exact Tr.out (m := [(iv (-1))]) [] (res_tmp rfl res_nil) (fun W hW => ⟨rfl, hW.low leB⟩)
 | cons xL1 restL1 =>
  rw [F_shape_Set__Borders_3__Borders_2__Borders_1_L1.eq_2] at H
  refine Tr.sr ?_
  refine Tr.va rfl (fun _ _ h1 h2 => run_lss (h1.ev rfl) (h1.ev rfl)) ?_
  refine Tr.nil (Tr.normThen ?_)
  refine Tr.seq ?_
  refine Tr.condT rfl (range_on hdL1) ?_
  refine Tr.skip (Tr.normThen ?_)
  refine Tr.seq ?_
  refine Tr.block ?_
  refine Tr.sr ?_
  refine Tr.va rfl (fun _ _ h1 h2 => run_indexAddr el_53 (h1.ev rfl) hsl101.form (h1.ev rfl) (Int.natCast_nonneg _) (range_lt hdL1)) ?_
  refine Tr.va rfl (fun _ _ h1 h2 => run_load1 ag_3 (h1.ev rfl) (rdF ef_i64 hsl101 (range_at hdL1) h2) rfl) ?_
  refine Tr.asg rfl rfl ?_
  refine Tr.nil (Tr.normThen ?_)
  refine Tr.seq ?_
  refine Tr.draw (by kernel_rfl) (by kernel_rfl) ?_
  refine Tq.va rfl (fun _ _ h1 h2 => run_load1 ag_67 (h1.ev rfl) (rdR hb1 hc1 h2) rfl) ?_
  refine Tq.mv rfl rfl ?_
  obtain ⟨x110, hx110, H⟩ := bnd H
  obtain ⟨hx1100, hx1101, hx1102⟩ := idx_some hx110
  refine Tq.va rfl (fun _ _ h1 h2 => run_indexAddr el_67 (h1.ev rfl) hq1_0.form (h1.ev rfl) hx1100 hx1101) ?_
  refine Tq.va rfl (fun _ _ h1 h2 => run_load1 ag_4 (h1.ev rfl) (rdF ef_bool hq1_0 hx1102 h2) rfl) ?_
  refine Tq.va rfl (fun _ _ h1 h2 => run_not (h1.ev rfl)) ?_
  refine Tq.mv rfl rfl ?_
  obtain ⟨g113, hg113, H⟩ := bnd H
  refine Tq.mid 8 [(2, (.pointer (some ⟨bq1, 0, none⟩))), (3, (.pointer (some ⟨bq2, 0, none⟩))), (4, (.pointer (some ⟨bq3, 0, none⟩))), (5, (.pointer (some ⟨b100, 0, none⟩))), (8, (iv xL1)), (12, (.slice Al101 (l101).length cl101)), (13, (iv (l101.length : Int))), (14, (iv (iL1 : Int))), (31, (.bool g113))] ?_ ?_
  ·cases hg115 : (!x110)
   ·rw [hg115] at hg113
    rw [if_neg (by decide)] at hg113
    have H := hg113
    obtain rfl := Option.some.inj H
    refine Tq.pass rfl rfl rfl rfl rfl (by decide) ?_
    refine Tq.pass rfl rfl rfl rfl rfl (by decide) ?_
    refine Tq.pass rfl rfl rfl rfl rfl (by decide) ?_
    refine Tq.pass rfl rfl rfl rfl rfl (by decide) ?_
    refine Tq.pass rfl rfl rfl rfl rfl (by decide) ?_
    refine Tq.pass rfl rfl rfl rfl rfl (by decide) ?_
    refine Tq.pass rfl rfl rfl rfl rfl (by decide) ?_
    refine Tq.va rfl (fun _ _ h1 h2 => run_pickF (h1.ev rfl) (h1.ev rfl)) ?_
    exact Tq.fin (.cons rfl (.cons rfl (.cons rfl (.cons rfl (.cons rfl (.cons rfl (.cons rfl (.cons rfl (.cons rfl .nil)))))))))
   ·rw [hg115] at hg113
    rw [if_pos rfl] at hg113
    have H := hg113
    refine Tq.val (wg rfl rfl rfl) rfl (fun _ _ h1 h2 => run_load1 ag_70 (h1.ev rfl) (rdR hb2 hc2 h2) rfl) ?_
    refine Tq.val (wg rfl rfl rfl) rfl (fun _ _ h1 h2 => run_loadN (cs := [(iv p0.from_.X), (iv p0.from_.Y), (iv p0.to_.X), (iv p0.to_.Y)]) ag_66 sz_66 (h1.ev rfl) (CellsAt.take (rdb h2 (vs := [(iv p0.from_.X), (iv p0.from_.Y), (iv p0.to_.X), (iv p0.to_.Y)]) (k := 1) rfl 0) 4) rfl) ?_
    refine Tq.val (wg rfl rfl rfl) rfl (fun _ _ h1 h2 => run_load1 ag_62 (h1.ev rfl) (rdR hb3 hc3 h2) rfl) ?_
    refine Tq.val (wg rfl rfl rfl) rfl (fun _ _ h1 h2 => run_move (h1.ev rfl)) ?_
    obtain ⟨x114, hx114, H⟩ := bnd H
    obtain ⟨hx1140, hx1141, hx1142⟩ := idx_some hx114
    refine Tq.val (wg rfl rfl rfl) rfl (fun _ _ h1 h2 => run_indexAddr el_62 (h1.ev rfl) hq3_0.form (h1.ev rfl) hx1140 hx1141) ?_
    refine Tq.val (wg rfl rfl rfl) rfl (fun _ _ h1 h2 => run_loadN (cs := [(iv x114.from_.X), (iv x114.from_.Y), (iv x114.to_.X), (iv x114.to_.Y)]) ag_66 sz_66 (h1.ev rfl) (CellsAt.take (rdF ef_TSide hq3_0 hx1142 h2) 4) rfl) ?_
    obtain ⟨y115, hy115, H⟩ := bnd H
    refine Tq.callF (r := (.bool y115)) (wg rfl rfl rfl) rfl rfl Try.call32 (evl_cons rfl (evl_cons rfl evl_nil)) (fun W hW => F_shape_Set__Borders_2__Borders_1_ok p0 x114 q4 bmq4 (hmq4.ext hW.extAll) bq4 (hW.extAll.r _ hb4) (hW.extAll.cells hb4 hc4) bq5 (hW.extAll.r _ hb5) (hW.extAll.cells hb5 hc5) y115 hy115 (HF.start _)) ?_
    refine Tq.va rfl (fun _ _ h1 h2 => run_pickT (h1.ev rfl) (h1.ev rfl)) ?_
    obtain rfl := Option.some.inj H
    exact Tq.fin (.cons rfl (.cons rfl (.cons rfl (.cons rfl (.cons rfl (.cons rfl (.cons rfl (.cons rfl (.cons rfl .nil)))))))))
  ·refine Tq.nil (Tr.normThen ?_)
   refine Tr.cond rfl H (fun H => ?_) (fun H => ?_)
   ·refine Tr.sr ?_
    refine Tr.mv rfl rfl ?_
    refine Tr.asg rfl rfl ?_
    refine Tr.nil (Tr.normThen ?_)
    refine Tr.ret (Tr.retBlock (Tr.retThen (Tr.retThen (Tr.retBlock (Tr.retThen ?_)))))
    obtain rfl := Option.some.inj H
    exact Tr.out (m := [(iv xL1)]) [] (res_tmp rfl res_nil) (fun W hW => ⟨rfl, hW.low leB⟩)
   ·refine Tr.skip (Tr.normBlock (Tr.normThen ?_))
    refine Tr.region ?_
    refine Tr.va rfl (fun _ _ h1 h2 => run_add (h1.ev rfl) (h1.ev rfl)) ?_
    refine Tr.mv rfl rfl ?_
    refine Tr.nil ?_
    exact Tr.backThen leL1 (restL1, (iL1 + 1)) ⟨rfl, range_tl hdL1, range_lt hdL1, H⟩ (.cons rfl (.cons rfl (.cons rfl (.cons rfl (.cons rfl (.cons rfl (.cons (congrArg (fun z => some (Value.int .i64 z)) (range_up hdL1 hsl101.form)) .nil))))))) (.cons rfl .nil)

theorem F_shape_Set__Borders_ok (N : Nat) {w : Bs} (p0 : (List TBand)) (Ap0_0 : Option Addr) (cp0_0 : Nat) (hp0_0 : Sl w.R w.W fl_TBand Ap0_0 cp0_0 p0) (r : (List (List TPoint))) (H : F_shape_Set__Borders N p0 = some r) (hE : HF w w.W (LEn [emp])) : Calls Try.prog 10 [(.slice Ap0_0 (p0).length cp0_0)].toArray w.W fun e W' => ∃ (w' : Bs) (u : (Option Addr × Nat)), w.Le w' ∧ e = .returned (.slice u.1 (r).length u.2) ∧ (SlF u.1 (r).length u.2) ∧ HF w' W' (LEn [ow u.1 u.2 39 fl_LTPoint r]) := by
 unfold F_shape_Set__Borders at H
 have leB := Bs.Le.refl w
 refine Tr.enter (n := 100) Try.func10 rfl rfl rfl hE ?_
 refine Tr.sr ?_
 refine Tr.asg rfl rfl ?_
 refine Tr.nilOwn 1 39 fl_LTPoint ?_
 show Tr _ _ (uf _ 2 (.slice none (([] : List (List TPoint))).length 0)) _ _
 refine Tr.nil (Tr.normThen ?_)
 refine Tr.sr ?_
 refine Tr.mv rfl rfl ?_
 obtain ⟨y100, hy100, H⟩ := bnd H
 refine Tr.callM [2] [emp] (U := (Option Addr × Nat)) (fun u => (.slice u.1 (y100).length u.2)) (fun u => SlF u.1 (y100).length u.2) (fun u => [ow u.1 u.2 66 fl_TSide y100]) rfl (pk_cons rfl pk_nil) (fun _ => rfl) (wn rfl) rfl Try.call29 (evl_cons rfl evl_nil) (fun W hW hp hE => F_shape_Set__sides_ok N p0 Ap0_0 cp0_0 (hp0_0.ext (hW.extS hp)) y100 hy100 hE) ?_
 intro u hu
 obtain ⟨Ay100_0, cy100_0⟩ := u
 have gy100_0 := hu
 have hgy100_0 : SlF Ay100_0 (y100).length cy100_0 := gy100_0 --@phi
 show Tr _ _ (uf _ 16 (.slice Ay100_0 (y100).length cy100_0)) (up _ 2 (ow Ay100_0 cy100_0 66 fl_TSide y100)) _
 refine Tr.alloc 3 (wn rfl) rfl ze_62 fun b102 => ?_
 refine Tr.store 3 (cs := [(.slice Ay100_0 (y100).length cy100_0)]) [(.slice Ay100_0 (y100).length cy100_0)] (wn rfl) rfl rfl rfl rfl sz_62 rfl rfl rfl ?_
 refine Tr.nil (Tr.normThen ?_)
 refine Tr.sr ?_
 refine Tr.makeMapQ encP okP 4 3 fl_i64 (wn rfl) rfl fun b103 => ?_
 refine Tr.alloc 5 (wn rfl) rfl ze_64 fun b104 => ?_
 refine Tr.store 5 (cs := [(.map (some b103))]) [(.map (some b103))] (wn rfl) rfl rfl rfl rfl sz_64 rfl rfl rfl ?_
 refine Tr.nil (Tr.normThen ?_)
 refine Tr.seq ?_
 refine Tr.sr ?_
 refine Tr.va rfl (fun _ _ h1 h2 => run_load1 ag_62 (h1.ev rfl) (rdb h2 (vs := [(.slice Ay100_0 (y100).length cy100_0)]) (k := 3) rfl 0) rfl) ?_
 refine Tr.va rfl (fun _ _ h1 h2 => run_len un_62 (h1.ev rfl)) ?_
 refine Tr.mv rfl rfl ?_
 refine Tr.nil (Tr.normThen ?_)
 refine Tr.block ?_
 refine Tr.loop (σ := (List TSide) × Nat × (List ((Int × Int) × List Int)) × (List (KE (Int × Int) Int))) (fun m w s => m = s.1.length + 1 ∧ s.1 = List.drop s.2.1 y100 ∧ s.2.1 ≤ y100.length ∧ F_shape_Set__Borders_L1 N y100 s.1 s.2.1 s.2.2.1 = some r ∧ MQ s.2.2.2 s.2.2.1) (fun s => [(3, (.pointer (some ⟨b102, 0, none⟩))), (4, (.pointer (some ⟨b104, 0, none⟩))), (18, (.slice Ay100_0 (y100).length cy100_0)), (19, (iv (y100.length : Int))), (20, (iv (s.2.1 : Int)))]) (fun s => [(2, ow Ay100_0 cy100_0 66 fl_TSide y100), (3, bx b102 #[(.slice Ay100_0 (y100).length cy100_0)] 62), (4, mq encP okP b103 3 fl_i64 s.2.2.2), (5, bx b104 #[(.map (some b103))] 64)]) (y100.length + 1) (y100, 0, ([] : List ((Int × Int) × List Int)), ([] : List (KE (Int × Int) Int))) ⟨rfl, rfl, Nat.zero_le _, H, MQ.nil⟩ (.cons rfl (.cons rfl (.cons rfl (.cons rfl (.cons rfl .nil))))) (.cons rfl (.cons rfl (.cons rfl (.cons rfl .nil)))) (fun _ _ h => absurd h.1 (by simp)) ?_
 intro w leL1 m s hs
 obtain ⟨restL1, iL1, m123, msm123⟩ := s
 obtain ⟨hmL1, hdL1, hiL1, H, hm123⟩ := hs
 replace hdL1 : restL1 = List.drop iL1 y100 := hdL1
 replace H : F_shape_Set__Borders_L1 N y100 restL1 iL1 m123 = some r := H
 replace hmL1 : m + 1 = restL1.length + 1 := hmL1
 replace leB := leB.trans leL1
 replace hm123 : MQ msm123 m123 := hm123
 obtain rfl : m = restL1.length := by omega
 clear hmL1
 show Tr _ _ (LF [(3, (.pointer (some ⟨b102, 0, none⟩))), (4, (.pointer (some ⟨b104, 0, none⟩))), (18, (.slice Ay100_0 (y100).length cy100_0)), (19, (iv (y100.length : Int))), (20, (iv (iL1 : Int)))]) (LE [(2, ow Ay100_0 cy100_0 66 fl_TSide y100), (3, bx b102 #[(.slice Ay100_0 (y100).length cy100_0)] 62), (4, mq encP okP b103 3 fl_i64 msm123), (5, bx b104 #[(.map (some b103))] 64)]) _
 cases restL1 with
 | nil =>
  rw [F_shape_Set__Borders_L1.eq_1] at H
  refine Tr.sr ?_
  refine Tr.va rfl (fun _ _ h1 h2 => run_lss (h1.ev rfl) (h1.ev rfl)) ?_
  refine Tr.nil (Tr.normThen ?_)
  refine Tr.seq ?_
  refine Tr.condF rfl (range_nil hdL1) ?_
  refine Tr.exit (Tr.exitThen (Tr.exitThen (Tr.exitBlock (Tr.normThen ?_))))
  refine Tr.seq ?_
  refine Tr.mapFreeze 4 rfl hm123 fun w le125 hz124 => ?_
  replace leB := leB.trans le125
  replace leL1 := leL1.trans le125
  refine Tr.region ?_
  refine Tr.va rfl (fun _ _ h1 h2 => run_load1 ag_62 (h1.ev rfl) (rdb h2 (vs := [(.slice Ay100_0 (y100).length cy100_0)]) (k := 3) rfl 0) rfl) ?_
  refine Tr.va rfl (fun _ _ h1 h2 => run_len un_62 (h1.ev rfl)) ?_
  obtain ⟨l126, hl126, H⟩ := bnd H
  refine Tr.makeSlice 12 fl_bool false (wn rfl) rfl rfl rfl un_67 sz_4 rfl ze_4 by_4 rfl ⟨(), fun _ _ => tr_bool _ _ _ _, rfl⟩ hl126 fun b127 hfl126 => ?_
  refine Tr.alloc 13 (wn rfl) rfl ze_67 fun b128 => ?_
  refine Tr.store 13 (cs := [(.slice (some ⟨b127, 0, none⟩) (l126).length (l126).length)]) [(.slice (some ⟨b127, 0, none⟩) (l126).length (l126).length)] (wn rfl) rfl rfl rfl rfl sz_67 rfl rfl rfl ?_
  refine Tr.nil (Tr.normThen ?_)
  refine Tr.sr ?_
  refine Tr.alloc 14 (wn rfl) rfl ze_69 fun b129 => ?_
  refine Tr.store 14 (cs := [(.func (.func 30) #[] #[])]) [(.func (.func 30) #[] #[])] (wn rfl) rfl rfl rfl rfl sz_69 rfl rfl rfl ?_
  refine Tr.nil (Tr.normThen ?_)
  refine Tr.sr ?_
  refine Tr.mkFunc (vs := [(.pointer (some ⟨b104, 0, none⟩)), (.pointer (some ⟨b129, 0, none⟩))]) (wn rfl) rfl (evl_cons rfl (evl_cons rfl evl_nil)) ?_
  refine Tr.alloc 15 (wn rfl) rfl ze_70 fun b130 => ?_
  refine Tr.store 15 (cs := [(.func (.func 32) #[] #[(.pointer (some ⟨b104, 0, none⟩)), (.pointer (some ⟨b129, 0, none⟩))])]) [(.func (.func 32) #[] #[(.pointer (some ⟨b104, 0, none⟩)), (.pointer (some ⟨b129, 0, none⟩))])] (wn rfl) rfl rfl rfl rfl sz_70 rfl rfl rfl ?_
  refine Tr.nil (Tr.normThen ?_)
  refine Tr.sr ?_
  refine Tr.mkFunc (vs := [(.pointer (some ⟨b104, 0, none⟩)), (.pointer (some ⟨b128, 0, none⟩)), (.pointer (some ⟨b130, 0, none⟩)), (.pointer (some ⟨b102, 0, none⟩))]) (wn rfl) rfl (evl_cons rfl (evl_cons rfl (evl_cons rfl (evl_cons rfl evl_nil)))) ?_
  refine Tr.asg rfl rfl ?_
  refine Tr.nil (Tr.normThen ?_)
  refine Tr.sr ?_
  refine Tr.asg rfl rfl ?_
  refine Tr.nilOwn 16 39 fl_LTPoint ?_
  show Tr _ _ (uf _ 11 (.slice none (([] : List (List TPoint))).length 0)) _ _
  refine Tr.nil (Tr.normThen ?_)
  refine Tr.seq ?_
  refine Tr.sr ?_
  refine Tr.va rfl (fun _ _ h1 h2 => run_load1 ag_62 (h1.ev rfl) (rdb h2 (vs := [(.slice Ay100_0 (y100).length cy100_0)]) (k := 3) rfl 0) rfl) ?_
  refine Tr.va rfl (fun _ _ h1 h2 => run_len un_62 (h1.ev rfl)) ?_
  refine Tr.mv rfl rfl ?_
  refine Tr.nil (Tr.normThen ?_)
  refine Tr.block ?_
  refine Tr.loop (σ := (List TSide) × Nat × (List Bool) × (List (List TPoint)) × (Option Addr) × Nat × (Option Addr) × Nat) (fun m w s => m = s.1.length + 1 ∧ s.1 = List.drop s.2.1 y100 ∧ s.2.1 ≤ y100.length ∧ F_shape_Set__Borders_L8 N y100 m123 s.1 s.2.1 s.2.2.1 s.2.2.2.1 = some r ∧ SlF s.2.2.2.2.1 (s.2.2.1).length s.2.2.2.2.2.1 ∧ SlF s.2.2.2.2.2.2.1 (s.2.2.2.1).length s.2.2.2.2.2.2.2) (fun s => [(3, (.pointer (some ⟨b102, 0, none⟩))), (7, (.pointer (some ⟨b128, 0, none⟩))), (9, (.pointer (some ⟨b130, 0, none⟩))), (10, (.func (.func 33) #[] #[(.pointer (some ⟨b104, 0, none⟩)), (.pointer (some ⟨b128, 0, none⟩)), (.pointer (some ⟨b130, 0, none⟩)), (.pointer (some ⟨b102, 0, none⟩))])), (11, (.slice s.2.2.2.2.2.2.1 (s.2.2.2.1).length s.2.2.2.2.2.2.2)), (41, (iv (y100.length : Int))), (42, (iv (s.2.1 : Int)))]) (fun s => [(2, ow Ay100_0 cy100_0 66 fl_TSide y100), (3, bx b102 #[(.slice Ay100_0 (y100).length cy100_0)] 62), (5, bx b104 #[(.map (some b103))] 64), (12, ow s.2.2.2.2.1 s.2.2.2.2.2.1 4 fl_bool s.2.2.1), (13, bx b128 #[(.slice s.2.2.2.2.1 (s.2.2.1).length s.2.2.2.2.2.1)] 67), (14, bx b129 #[(.func (.func 30) #[] #[])] 69), (15, bx b130 #[(.func (.func 32) #[] #[(.pointer (some ⟨b104, 0, none⟩)), (.pointer (some ⟨b129, 0, none⟩))])] 70), (16, ow s.2.2.2.2.2.2.1 s.2.2.2.2.2.2.2 39 fl_LTPoint s.2.2.2.1)]) (y100.length + 1) (y100, 0, l126, ([] : List (List TPoint)), (some ⟨b127, 0, none⟩), (l126).length, none, 0) ⟨rfl, rfl, Nat.zero_le _, H, hfl126, slf_nil⟩ (.cons rfl (.cons rfl (.cons rfl (.cons rfl (.cons rfl (.cons rfl (.cons rfl .nil))))))) (.cons rfl (.cons rfl (.cons rfl (.cons rfl (.cons rfl (.cons rfl (.cons rfl (.cons rfl .nil)))))))) (fun _ _ h => absurd h.1 (by simp)) ?_
  intro w leL8 m s hs
  obtain ⟨restL8, iL8, l402, l403, Al402, cl402, Al403, cl403⟩ := s
  obtain ⟨hmL8, hdL8, hiL8, H, hl402, hl403⟩ := hs
  replace hdL8 : restL8 = List.drop iL8 y100 := hdL8
  replace H : F_shape_Set__Borders_L8 N y100 m123 restL8 iL8 l402 l403 = some r := H
  replace hmL8 : m + 1 = restL8.length + 1 := hmL8
  replace hz124 := hz124.leR leL8
  replace leB := leB.trans leL8
  replace leL1 := leL1.trans leL8
  replace hl402 : SlF Al402 (l402).length cl402 := hl402
  replace hl403 : SlF Al403 (l403).length cl403 := hl403
  obtain rfl : m = restL8.length := by omega
  clear hmL8
  show Tr _ _ (LF [(3, (.pointer (some ⟨b102, 0, none⟩))), (7, (.pointer (some ⟨b128, 0, none⟩))), (9, (.pointer (some ⟨b130, 0, none⟩))), (10, (.func (.func 33) #[] #[(.pointer (some ⟨b104, 0, none⟩)), (.pointer (some ⟨b128, 0, none⟩)), (.pointer (some ⟨b130, 0, none⟩)), (.pointer (some ⟨b102, 0, none⟩))])), (11, (.slice Al403 (l403).length cl403)), (41, (iv (y100.length : Int))), (42, (iv (iL8 : Int)))]) (LE [(2, ow Ay100_0 cy100_0 66 fl_TSide y100), (3, bx b102 #[(.slice Ay100_0 (y100).length cy100_0)] 62), (5, bx b104 #[(.map (some b103))] 64), (12, ow Al402 cl402 4 fl_bool l402), (13, bx b128 #[(.slice Al402 (l402).length cl402)] 67), (14, bx b129 #[(.func (.func 30) #[] #[])] 69), (15, bx b130 #[(.func (.func 32) #[] #[(.pointer (some ⟨b104, 0, none⟩)), (.pointer (some ⟨b129, 0, none⟩))])] 70), (16, ow Al403 cl403 39 fl_LTPoint l403)]) _
  cases restL8 with
  | nil =>
   rw [F_shape_Set__Borders_L8.eq_1] at H
   refine Tr.sr ?_
   refine Tr.va rfl (fun _ _ h1 h2 => run_lss (h1.ev rfl) (h1.ev rfl)) ?_
   refine Tr.nil (Tr.normThen ?_)
   refine Tr.seq ?_
   refine Tr.condF rfl (range_nil hdL8) ?_
   refine Tr.exit (Tr.exitThen (Tr.exitThen (Tr.exitBlock (Tr.normThen ?_))))
   refine Tr.sr ?_
   refine Tr.mv rfl rfl ?_
   obtain ⟨y404, hy404, H⟩ := bnd H
   refine Tr.callM [16] [ow Al403 cl403 39 fl_LTPoint l403] (U := Unit) (fun u => (.tuple #[])) (fun u => (y404).length = (l403).length) (fun u => [ow Al403 cl403 39 fl_LTPoint y404]) rfl (pk_cons rfl pk_nil) (fun _ => rfl) (wn rfl) rfl Try.call35 (evl_cons rfl (evl_cons rfl evl_nil)) (fun W hW hp hE => F_slices_SortFunc_LTPoint_ok l403 Al403 cl403 (fun z0 z1 => F_shape_Set__Borders_4 z0 z1) 36 [] Try.call36 (fun w' he z0 A0 c0 h0 z1 A1 c1 h1 y hy => F_shape_Set__Borders_4_ok z0 A0 c0 h0 z1 A1 c1 h1 y hy (HF.start _)) y404 hy404 hE) ?_
   intro u hu
   have gky404_0 := hu
   have hgky404_0 : (y404).length = (l403).length := gky404_0 --@phi
   have hfky404_0 : SlF Al403 (y404).length cl403 := by rw [hgky404_0]; exact hl403
   show Tr _ _ (uf _ 98 (.tuple #[])) (up _ 16 (ow Al403 cl403 39 fl_LTPoint y404)) _
   refine Tr.sel (lf := [(3, (.pointer (some ⟨b102, 0, none⟩))), (7, (.pointer (some ⟨b128, 0, none⟩))), (9, (.pointer (some ⟨b130, 0, none⟩))), (10, (.func (.func 33) #[] #[(.pointer (some ⟨b104, 0, none⟩)), (.pointer (some ⟨b128, 0, none⟩)), (.pointer (some ⟨b130, 0, none⟩)), (.pointer (some ⟨b102, 0, none⟩))])), (11, (.slice Al403 (y404).length cl403)), (41, (iv (y100.length : Int))), (42, (iv (iL8 : Int))), (43, (.bool (decide ((iL8 : Int) < (y100.length : Int))))), (97, (.slice Al403 (y404).length cl403)), (98, (.tuple #[]))]) (le := [(2, ow Ay100_0 cy100_0 66 fl_TSide y100), (3, bx b102 #[(.slice Ay100_0 (y100).length cy100_0)] 62), (5, bx b104 #[(.map (some b103))] 64), (12, ow Al402 cl402 4 fl_bool l402), (13, bx b128 #[(.slice Al402 (l402).length cl402)] 67), (14, bx b129 #[(.func (.func 30) #[] #[])] 69), (15, bx b130 #[(.func (.func 32) #[] #[(.pointer (some ⟨b104, 0, none⟩)), (.pointer (some ⟨b129, 0, none⟩))])] 70), (16, ow Al403 cl403 39 fl_LTPoint y404)]) (.cons rfl (.cons rfl (.cons rfl (.cons rfl (.cons (slenV rfl (by rw [hgky404_0])) (.cons rfl (.cons rfl (.cons rfl (.cons (slenV rfl (by rw [hgky404_0])) (.cons rfl .nil)))))))))) (.cons rfl (.cons rfl (.cons rfl (.cons rfl (.cons rfl (.cons rfl (.cons rfl (.cons rfl .nil)))))))) ?_
   refine Tr.nil (Tr.normThen ?_)
   refine Tr.sr ?_
   refine Tr.mv rfl rfl ?_
   refine Tr.asg rfl rfl ?_
   refine Tr.nil (Tr.normThen ?_)
   refine Tr.ret ?_
   obtain rfl := Option.some.inj H
   exact Tr.out (m := [(.slice Al403 (y404).length cl403)]) [] (res_tmp rfl res_nil) (fun W hW => ⟨w, (Al403, cl403), leB, rfl, hfky404_0, hW.pick (ks := [16]) (by decide) (pk_cons rfl pk_nil)⟩)
  | cons xL8 restL8 =>
   rw [F_shape_Set__Borders_L8.eq_2] at H
   refine Tr.sr ?_
   refine Tr.va rfl (fun _ _ h1 h2 => run_lss (h1.ev rfl) (h1.ev rfl)) ?_
   refine Tr.nil (Tr.normThen ?_)
   refine Tr.seq ?_
   refine Tr.condT rfl (range_on hdL8) ?_
   refine Tr.skip (Tr.normThen ?_)
   refine Tr.seq ?_
   refine Tr.block ?_
   refine Tr.sr ?_
   refine Tr.mv rfl rfl ?_
   refine Tr.asg rfl rfl ?_
   refine Tr.nil (Tr.normThen ?_)
   refine Tr.seq ?_
   refine Tr.sr ?_
   refine Tr.va rfl (fun _ _ h1 h2 => run_load1 ag_67 (h1.ev rfl) (rdb h2 (vs := [(.slice Al402 (l402).length cl402)]) (k := 13) rfl 0) rfl) ?_
   refine Tr.mv rfl rfl ?_
   obtain ⟨x406, hx406, H⟩ := bnd H
   obtain ⟨hx4060, hx4061, hx4062⟩ := idx_some hx406
   refine Tr.va rfl (fun _ _ h1 h2 => run_indexAddr el_67 (h1.ev rfl) hl402 (h1.ev rfl) hx4060 hx4061) ?_
   refine Tr.va rfl (fun _ _ h1 h2 => run_load1 ag_4 (h1.ev rfl) (rdo ef_bool (k := 12) h2 rfl hx4062) rfl) ?_
   refine Tr.nil (Tr.normThen ?_)
   refine Tr.cond rfl H (fun H => ?_) (fun H => ?_)
   ·refine Tr.exit (Tr.exitThen (Tr.exitBlock (Tr.normThen ?_)))
    refine Tr.region ?_
    refine Tr.va rfl (fun _ _ h1 h2 => run_add (h1.ev rfl) (h1.ev rfl)) ?_
    refine Tr.mv rfl rfl ?_
    refine Tr.nil ?_
    exact Tr.backThen leL8 (restL8, (iL8 + 1), l402, l403, Al402, cl402, Al403, cl403) ⟨rfl, range_tl hdL8, range_lt hdL8, H, hl402, hl403⟩ (.cons rfl (.cons rfl (.cons rfl (.cons rfl (.cons rfl (.cons rfl (.cons (congrArg (fun z => some (Value.int .i64 z)) (range_up hdL8 hgy100_0)) .nil))))))) (.cons rfl (.cons rfl (.cons rfl (.cons rfl (.cons rfl (.cons rfl (.cons rfl (.cons rfl .nil))))))))
   ·refine Tr.skip (Tr.normThen ?_)
    refine Tr.sr ?_
    refine Tr.asg rfl rfl ?_
    refine Tr.nilOwn 35 66 fl_TSide ?_
    show Tr _ _ (uf _ 13 (.slice none (([] : List TSide)).length 0)) _ _
    refine Tr.nil (Tr.normThen ?_)
    have leJ455 := Bs.Le.refl w
    refine Tr.cutJ (σ := (List Bool) × (List TSide) × (Option Addr) × Nat × (Option Addr) × Nat) (fun w s => F_shape_Set__Borders_J10 l403 (F_shape_Set__Borders_L8 N y100 m123 restL8 (iL8 + 1)) s.1 s.2.1 = some r ∧ SlF s.2.2.1 (s.1).length s.2.2.2.1 ∧ SlF s.2.2.2.2.1 (s.2.1).length s.2.2.2.2.2) (fun s => [(3, (.pointer (some ⟨b102, 0, none⟩))), (7, (.pointer (some ⟨b128, 0, none⟩))), (9, (.pointer (some ⟨b130, 0, none⟩))), (10, (.func (.func 33) #[] #[(.pointer (some ⟨b104, 0, none⟩)), (.pointer (some ⟨b128, 0, none⟩)), (.pointer (some ⟨b130, 0, none⟩)), (.pointer (some ⟨b102, 0, none⟩))])), (11, (.slice Al403 (l403).length cl403)), (13, (.slice s.2.2.2.2.1 (s.2.1).length s.2.2.2.2.2)), (41, (iv (y100.length : Int))), (42, (iv (iL8 : Int)))]) (fun s => [(2, ow Ay100_0 cy100_0 66 fl_TSide y100), (3, bx b102 #[(.slice Ay100_0 (y100).length cy100_0)] 62), (5, bx b104 #[(.map (some b103))] 64), (12, ow s.2.2.1 s.2.2.2.1 4 fl_bool s.1), (13, bx b128 #[(.slice s.2.2.1 (s.1).length s.2.2.2.1)] 67), (14, bx b129 #[(.func (.func 30) #[] #[])] 69), (15, bx b130 #[(.func (.func 32) #[] #[(.pointer (some ⟨b104, 0, none⟩)), (.pointer (some ⟨b129, 0, none⟩))])] 70), (16, ow Al403 cl403 39 fl_LTPoint l403), (35, ow s.2.2.2.2.1 s.2.2.2.2.2 66 fl_TSide s.2.1)]) ?_ ?_
    ·refine Tr.sr ?_
     refine Tr.mv rfl rfl ?_
     refine Tr.asg rfl rfl ?_
     refine Tr.nil (Tr.normThen ?_)
     refine Tr.block ?_
     refine Tr.loop (σ := (List Bool) × (List TSide) × Int × (Option Addr) × Nat × (Option Addr) × Nat) (fun m w s => F_shape_Set__Borders_L11 y100 m123 l403 (F_shape_Set__Borders_L8 N y100 m123 restL8 (iL8 + 1)) xL8 m s.1 s.2.1 s.2.2.1 = some r ∧ SlF s.2.2.2.1 (s.1).length s.2.2.2.2.1 ∧ SlF s.2.2.2.2.2.1 (s.2.1).length s.2.2.2.2.2.2) (fun s => [(3, (.pointer (some ⟨b102, 0, none⟩))), (7, (.pointer (some ⟨b128, 0, none⟩))), (9, (.pointer (some ⟨b130, 0, none⟩))), (10, (.func (.func 33) #[] #[(.pointer (some ⟨b104, 0, none⟩)), (.pointer (some ⟨b128, 0, none⟩)), (.pointer (some ⟨b130, 0, none⟩)), (.pointer (some ⟨b102, 0, none⟩))])), (11, (.slice Al403 (l403).length cl403)), (12, (iv (iL8 : Int))), (13, (.slice s.2.2.2.2.2.1 (s.2.1).length s.2.2.2.2.2.2)), (14, (iv s.2.2.1)), (41, (iv (y100.length : Int))), (42, (iv (iL8 : Int)))]) (fun s => [(2, ow Ay100_0 cy100_0 66 fl_TSide y100), (3, bx b102 #[(.slice Ay100_0 (y100).length cy100_0)] 62), (5, bx b104 #[(.map (some b103))] 64), (12, ow s.2.2.2.1 s.2.2.2.2.1 4 fl_bool s.1), (13, bx b128 #[(.slice s.2.2.2.1 (s.1).length s.2.2.2.2.1)] 67), (14, bx b129 #[(.func (.func 30) #[] #[])] 69), (15, bx b130 #[(.func (.func 32) #[] #[(.pointer (some ⟨b104, 0, none⟩)), (.pointer (some ⟨b129, 0, none⟩))])] 70), (16, ow Al403 cl403 39 fl_LTPoint l403), (35, ow s.2.2.2.2.2.1 s.2.2.2.2.2.2 66 fl_TSide s.2.1)]) N (l402, ([] : List TSide), (iL8 : Int), Al402, cl402, none, 0) ⟨H, hl402, slf_nil⟩ (.cons rfl (.cons rfl (.cons rfl (.cons rfl (.cons rfl (.cons rfl (.cons rfl (.cons rfl (.cons rfl (.cons rfl .nil)))))))))) (.cons rfl (.cons rfl (.cons rfl (.cons rfl (.cons rfl (.cons rfl (.cons rfl (.cons rfl (.cons rfl .nil))))))))) (fun _ _ h => noSome (h.1)) ?_
     intro w leL11 mL11 s hs
     obtain ⟨l493, l494, x495, Al493, cl493, Al494, cl494⟩ := s
     obtain ⟨H, hl493, hl494⟩ := hs
     replace H : F_shape_Set__Borders_L11 y100 m123 l403 (F_shape_Set__Borders_L8 N y100 m123 restL8 (iL8 + 1)) xL8 (mL11 + 1) l493 l494 x495 = some r := H
     replace hz124 := hz124.leR leL11
     replace leB := leB.trans leL11
     replace leL1 := leL1.trans leL11
     replace leL8 := leL8.trans leL11
     replace leJ455 := leJ455.trans leL11
     replace hl493 : SlF Al493 (l493).length cl493 := hl493
     replace hl494 : SlF Al494 (l494).length cl494 := hl494
     rw [F_shape_Set__Borders_L11.eq_2] at H
     show Tr _ _ (LF [(3, (.pointer (some ⟨b102, 0, none⟩))), (7, (.pointer (some ⟨b128, 0, none⟩))), (9, (.pointer (some ⟨b130, 0, none⟩))), (10, (.func (.func 33) #[] #[(.pointer (some ⟨b104, 0, none⟩)), (.pointer (some ⟨b128, 0, none⟩)), (.pointer (some ⟨b130, 0, none⟩)), (.pointer (some ⟨b102, 0, none⟩))])), (11, (.slice Al403 (l403).length cl403)), (12, (iv (iL8 : Int))), (13, (.slice Al494 (l494).length cl494)), (14, (iv x495)), (41, (iv (y100.length : Int))), (42, (iv (iL8 : Int)))]) (LE [(2, ow Ay100_0 cy100_0 66 fl_TSide y100), (3, bx b102 #[(.slice Ay100_0 (y100).length cy100_0)] 62), (5, bx b104 #[(.map (some b103))] 64), (12, ow Al493 cl493 4 fl_bool l493), (13, bx b128 #[(.slice Al493 (l493).length cl493)] 67), (14, bx b129 #[(.func (.func 30) #[] #[])] 69), (15, bx b130 #[(.func (.func 32) #[] #[(.pointer (some ⟨b104, 0, none⟩)), (.pointer (some ⟨b129, 0, none⟩))])] 70), (16, ow Al403 cl403 39 fl_LTPoint l403), (35, ow Al494 cl494 66 fl_TSide l494)]) _
     refine Tr.seq ?_
     refine Tr.sr ?_
     refine Tr.mv rfl rfl ?_
     refine Tr.va rfl (fun _ _ h1 h2 => run_geq (h1.ev rfl) (h1.ev rfl)) ?_
     refine Tr.nil (Tr.normThen ?_)
     refine Tr.cond rfl H (fun H => ?_) (fun H => ?_)
     ·refine Tr.skip (Tr.normThen ?_)
      refine Tr.seq ?_
      refine Tr.block ?_
      refine Tr.sr ?_
      refine Tr.va rfl (fun _ _ h1 h2 => run_load1 ag_67 (h1.ev rfl) (rdb h2 (vs := [(.slice Al493 (l493).length cl493)]) (k := 13) rfl 0) rfl) ?_
      refine Tr.mv rfl rfl ?_
      obtain ⟨x496, hx496, H⟩ := bnd H
      obtain ⟨hx4960, hx4961, hx4962⟩ := idx_some hx496
      refine Tr.va rfl (fun _ _ h1 h2 => run_indexAddr el_67 (h1.ev rfl) hl493 (h1.ev rfl) hx4960 hx4961) ?_
      obtain ⟨l497, hl497, H⟩ := bnd H
      have hnl497 := sets_len hl497
      refine Tr.storeEl 12 (t := fl_bool) (l := l493) (i := x495) (fo := 0) (cs := [(.bool true)]) true (wn rfl) rfl rfl rfl rfl rfl hx4962 sz_4 rfl (fun u _ => ⟨u, trivial, rfl⟩) rfl hl497 ?_
      have hfl497 : SlF Al493 (l497).length cl493 := by rw [hnl497]; exact hl493
      refine Tr.sel (lf := [(3, (.pointer (some ⟨b102, 0, none⟩))), (7, (.pointer (some ⟨b128, 0, none⟩))), (9, (.pointer (some ⟨b130, 0, none⟩))), (10, (.func (.func 33) #[] #[(.pointer (some ⟨b104, 0, none⟩)), (.pointer (some ⟨b128, 0, none⟩)), (.pointer (some ⟨b130, 0, none⟩)), (.pointer (some ⟨b102, 0, none⟩))])), (11, (.slice Al403 (l403).length cl403)), (12, (iv (iL8 : Int))), (13, (.slice Al494 (l494).length cl494)), (14, (iv x495)), (41, (iv (y100.length : Int))), (42, (iv (iL8 : Int))), (50, (iv x495)), (51, (.bool (decide (0 ≤ x495)))), (58, (.slice Al493 (l497).length cl493)), (59, (iv x495))]) (le := [(2, ow Ay100_0 cy100_0 66 fl_TSide y100), (3, bx b102 #[(.slice Ay100_0 (y100).length cy100_0)] 62), (5, bx b104 #[(.map (some b103))] 64), (12, ow Al493 cl493 4 fl_bool l497), (13, bx b128 #[(.slice Al493 (l497).length cl493)] 67), (14, bx b129 #[(.func (.func 30) #[] #[])] 69), (15, bx b130 #[(.func (.func 32) #[] #[(.pointer (some ⟨b104, 0, none⟩)), (.pointer (some ⟨b129, 0, none⟩))])] 70), (16, ow Al403 cl403 39 fl_LTPoint l403), (35, ow Al494 cl494 66 fl_TSide l494)]) (.cons rfl (.cons rfl (.cons rfl (.cons rfl (.cons rfl (.cons rfl (.cons rfl (.cons rfl (.cons rfl (.cons rfl (.cons rfl (.cons rfl (.cons (slenV rfl (by rw [hnl497])) (.cons rfl .nil)))))))))))))) (.cons rfl (.cons rfl (.cons rfl (.cons rfl (.cons (ebx rfl (by rw [hnl497])) (.cons rfl (.cons rfl (.cons rfl (.cons rfl .nil))))))))) ?_
      refine Tr.nil (Tr.normThen ?_)
      refine Tr.sr ?_
      refine Tr.mv rfl rfl ?_
      refine Tr.va rfl (fun _ _ h1 h2 => run_load1 ag_62 (h1.ev rfl) (rdb h2 (vs := [(.slice Ay100_0 (y100).length cy100_0)]) (k := 3) rfl 0) rfl) ?_
      refine Tr.mv rfl rfl ?_
      obtain ⟨x498, hx498, H⟩ := bnd H
      obtain ⟨hx4980, hx4981, hx4982⟩ := idx_some hx498
      refine Tr.va rfl (fun _ _ h1 h2 => run_indexAddr el_62 (h1.ev rfl) hgy100_0 (h1.ev rfl) hx4980 hx4981) ?_
      refine Tr.va rfl (fun _ _ h1 h2 => run_loadN (cs := [(iv x498.from_.X), (iv x498.from_.Y), (iv x498.to_.X), (iv x498.to_.Y)]) ag_66 sz_66 (h1.ev rfl) (CellsAt.take (rdo ef_TSide (k := 2) h2 rfl hx4982) 4) rfl) ?_
      refine Tr.buildSlice 43 (e := 66) (vs := [(0, (.agg #[(iv x498.from_.X), (iv x498.from_.Y), (iv x498.to_.X), (iv x498.to_.Y)]))]) (cs := [(iv x498.from_.X), (iv x498.from_.Y), (iv x498.to_.X), (iv x498.to_.Y)]) (wn rfl) rfl (evs_cons rfl evs_nil) (by kernel_rfl) fun b499 => ?_
      obtain ⟨l500, hl500, H⟩ := bnd H
      refine Tr.append 35 (t := fl_TSide) (l := l494) (l2 := [x498]) (wn rfl) rfl rfl rfl rfl (fun W hW => ⟨[[(iv x498.from_.X), (iv x498.from_.Y), (iv x498.to_.X), (iv x498.to_.Y)]], (.cons ⟨(), trivial, rfl⟩ .nil), rdb hW (vs := [(iv x498.from_.X), (iv x498.from_.Y), (iv x498.to_.X), (iv x498.to_.Y)]) (k := 43) rfl 0⟩) un_62 sz_66 zl_66 (by decide) by_66 rfl hl500 fun Al500 cl500 hAl500 => ?_
      refine Tr.asg rfl rfl ?_
      refine Tr.nil (Tr.normThen ?_)
      refine Tr.seq ?_
      refine Tr.draw (by kernel_rfl) (by kernel_rfl) ?_
      refine Tq.va rfl (fun _ _ h1 h2 => run_load1 ag_62 (h1.ev rfl) (rdb h2 (vs := [(.slice Ay100_0 (y100).length cy100_0)]) (k := 3) rfl 0) rfl) ?_
      refine Tq.mv rfl rfl ?_
      obtain ⟨x501, hx501, H⟩ := bnd H
      obtain ⟨hx5010, hx5011, hx5012⟩ := idx_some hx501
      refine Tq.va rfl (fun _ _ h1 h2 => run_indexAddr el_62 (h1.ev rfl) hgy100_0 (h1.ev rfl) hx5010 hx5011) ?_
      refine Tq.va rfl (fun _ _ h1 h2 => run_fieldAddr fo_66_1 (h1.ev rfl)) ?_
      refine Tq.va rfl (fun _ _ h1 h2 => run_loadN (cs := [(iv x501.to_.X), (iv x501.to_.Y)]) ag_44 sz_44 (h1.ev rfl) (CellsAt.take (CellsAt.drop (rdo ef_TSide (k := 2) h2 rfl hx5012) 2) 2) rfl) ?_
      refine Tq.va rfl (fun _ _ h1 h2 => run_load1 ag_62 (h1.ev rfl) (rdb h2 (vs := [(.slice Ay100_0 (y100).length cy100_0)]) (k := 3) rfl 0) rfl) ?_
      refine Tq.mv rfl rfl ?_
      refine Tq.va rfl (fun _ _ h1 h2 => run_indexAddr el_62 (h1.ev rfl) hgy100_0 (h1.ev rfl) (Int.natCast_nonneg _) (range_lt hdL8)) ?_
      refine Tq.va rfl (fun _ _ h1 h2 => run_fieldAddr fo_66_0 (h1.ev rfl)) ?_
      refine Tq.va rfl (fun _ _ h1 h2 => run_loadN (cs := [(iv xL8.from_.X), (iv xL8.from_.Y)]) ag_44 sz_44 (h1.ev rfl) (CellsAt.take (CellsAt.drop (rdo ef_TSide (k := 2) h2 rfl (range_at hdL8)) 0) 2) rfl) ?_
      refine Tq.va rfl (fun _ _ h1 h2 => run_eql_44 x501.to_ xL8.from_ (h1.ev rfl) (h1.ev rfl)) ?_
      refine Tq.mv rfl rfl ?_
      obtain ⟨g504, hg504, H⟩ := bnd H
      refine Tq.mid 11 [(3, (.pointer (some ⟨b102, 0, none⟩))), (7, (.pointer (some ⟨b128, 0, none⟩))), (9, (.pointer (some ⟨b130, 0, none⟩))), (10, (.func (.func 33) #[] #[(.pointer (some ⟨b104, 0, none⟩)), (.pointer (some ⟨b128, 0, none⟩)), (.pointer (some ⟨b130, 0, none⟩)), (.pointer (some ⟨b102, 0, none⟩))])), (11, (.slice Al403 (l403).length cl403)), (12, (iv (iL8 : Int))), (13, (.slice Al500 (l500).length cl500)), (14, (iv x495)), (41, (iv (y100.length : Int))), (42, (iv (iL8 : Int))), (90, (.bool g504))] ?_ ?_
      ·cases hg508 : (eqTPoint x501.to_ xL8.from_)
       ·rw [hg508] at hg504
        rw [if_neg (by decide)] at hg504
        have H := hg504
        obtain rfl := Option.some.inj H
        refine Tq.pass rfl rfl rfl rfl rfl (by decide) ?_
        refine Tq.pass rfl rfl rfl rfl rfl (by decide) ?_
        refine Tq.pass rfl rfl rfl rfl rfl (by decide) ?_
        refine Tq.pass rfl rfl rfl rfl rfl (by decide) ?_
        refine Tq.pass rfl rfl rfl rfl rfl (by decide) ?_
        refine Tq.pass rfl rfl rfl rfl rfl (by decide) ?_
        refine Tq.pass rfl rfl rfl rfl rfl (by decide) ?_
        refine Tq.pass rfl rfl rfl rfl rfl (by decide) ?_
        refine Tq.pass rfl rfl rfl rfl rfl (by decide) ?_
        refine Tq.pass rfl rfl rfl rfl rfl (by decide) ?_
        refine Tq.va rfl (fun _ _ h1 h2 => run_pickF (h1.ev rfl) (h1.ev rfl)) ?_
        exact Tq.fin (.cons rfl (.cons rfl (.cons rfl (.cons rfl (.cons rfl (.cons rfl (.cons rfl (.cons rfl (.cons rfl (.cons rfl (.cons rfl .nil)))))))))))
       ·rw [hg508] at hg504
        rw [if_pos rfl] at hg504
        have H := hg504
        refine Tq.val (wg rfl rfl rfl) rfl (fun _ _ h1 h2 => run_load1 ag_70 (h1.ev rfl) (rdb h2 (vs := [(.func (.func 32) #[] #[(.pointer (some ⟨b104, 0, none⟩)), (.pointer (some ⟨b129, 0, none⟩))])]) (k := 15) rfl 0) rfl) ?_
        refine Tq.val (wg rfl rfl rfl) rfl (fun _ _ h1 h2 => run_load1 ag_62 (h1.ev rfl) (rdb h2 (vs := [(.slice Ay100_0 (y100).length cy100_0)]) (k := 3) rfl 0) rfl) ?_
        refine Tq.val (wg rfl rfl rfl) rfl (fun _ _ h1 h2 => run_move (h1.ev rfl)) ?_
        obtain ⟨x505, hx505, H⟩ := bnd H
        obtain ⟨hx5050, hx5051, hx5052⟩ := idx_some hx505
        refine Tq.val (wg rfl rfl rfl) rfl (fun _ _ h1 h2 => run_indexAddr el_62 (h1.ev rfl) hgy100_0 (h1.ev rfl) hx5050 hx5051) ?_
        refine Tq.val (wg rfl rfl rfl) rfl (fun _ _ h1 h2 => run_loadN (cs := [(iv x505.from_.X), (iv x505.from_.Y), (iv x505.to_.X), (iv x505.to_.Y)]) ag_66 sz_66 (h1.ev rfl) (CellsAt.take (rdo ef_TSide (k := 2) h2 rfl hx5052) 4) rfl) ?_
        refine Tq.val (wg rfl rfl rfl) rfl (fun _ _ h1 h2 => run_load1 ag_62 (h1.ev rfl) (rdb h2 (vs := [(.slice Ay100_0 (y100).length cy100_0)]) (k := 3) rfl 0) rfl) ?_
        refine Tq.val (wg rfl rfl rfl) rfl (fun _ _ h1 h2 => run_move (h1.ev rfl)) ?_
        refine Tq.val (wg rfl rfl rfl) rfl (fun _ _ h1 h2 => run_indexAddr el_62 (h1.ev rfl) hgy100_0 (h1.ev rfl) (Int.natCast_nonneg _) (range_lt hdL8)) ?_
        refine Tq.val (wg rfl rfl rfl) rfl (fun _ _ h1 h2 => run_loadN (cs := [(iv xL8.from_.X), (iv xL8.from_.Y), (iv xL8.to_.X), (iv xL8.to_.Y)]) ag_66 sz_66 (h1.ev rfl) (CellsAt.take (rdo ef_TSide (k := 2) h2 rfl (range_at hdL8)) 4) rfl) ?_
        obtain ⟨y506, hy506, H⟩ := bnd H
        refine Tq.callF (r := (.bool y506)) (wg rfl rfl rfl) rfl rfl Try.call32 (evl_cons rfl (evl_cons rfl evl_nil)) (fun W hW => F_shape_Set__Borders_2__Borders_1_ok x505 xL8 m123 b103 (hz124.ext hW.extAll) b104 (hW.capR (k := 5) rfl) (hW.capC (k := 5) rfl) b129 (hW.capR (k := 14) rfl) (hW.capC (k := 14) rfl) y506 hy506 (HF.start _)) ?_
        refine Tq.va rfl (fun _ _ h1 h2 => run_pickT (h1.ev rfl) (h1.ev rfl)) ?_
        obtain rfl := Option.some.inj H
        exact Tq.fin (.cons rfl (.cons rfl (.cons rfl (.cons rfl (.cons rfl (.cons rfl (.cons rfl (.cons rfl (.cons rfl (.cons rfl (.cons rfl .nil)))))))))))
      ·refine Tq.nil (Tr.normThen ?_)
       refine Tr.cond rfl H (fun H => ?_) (fun H => ?_)
       ·refine Tr.exit (Tr.exitOver rfl (Tr.exitThen (Tr.exitThen (Tr.exitBlock ?_))))
        exact Tr.backThen leJ455 (l497, l500, Al493, cl493, Al500, cl500) ⟨H, hfl497, hAl500⟩ (.cons rfl (.cons rfl (.cons rfl (.cons rfl (.cons rfl (.cons rfl (.cons rfl (.cons rfl .nil)))))))) (.cons rfl (.cons rfl (.cons rfl (.cons rfl (.cons rfl (.cons rfl (.cons rfl (.cons rfl (.cons rfl .nil)))))))))
       ·refine Tr.skip (Tr.normBlock (Tr.normThen ?_))
        refine Tr.region ?_
        refine Tr.mv rfl rfl ?_
        refine Tr.va rfl (fun _ _ h1 h2 => run_load1 ag_62 (h1.ev rfl) (rdb h2 (vs := [(.slice Ay100_0 (y100).length cy100_0)]) (k := 3) rfl 0) rfl) ?_
        refine Tr.mv rfl rfl ?_
        obtain ⟨x507, hx507, H⟩ := bnd H
        obtain ⟨hx5070, hx5071, hx5072⟩ := idx_some hx507
        refine Tr.va rfl (fun _ _ h1 h2 => run_indexAddr el_62 (h1.ev rfl) hgy100_0 (h1.ev rfl) hx5070 hx5071) ?_
        refine Tr.va rfl (fun _ _ h1 h2 => run_loadN (cs := [(iv x507.from_.X), (iv x507.from_.Y), (iv x507.to_.X), (iv x507.to_.Y)]) ag_66 sz_66 (h1.ev rfl) (CellsAt.take (rdo ef_TSide (k := 2) h2 rfl hx5072) 4) rfl) ?_
        obtain ⟨y508, hy508, H⟩ := bnd H
        refine Tr.callF (r := (iv y508)) (wn rfl) rfl rfl Try.call33 (evl_cons rfl evl_nil) (fun W hW => F_shape_Set__Borders_3__Borders_2__Borders_1_ok x507 m123 b103 (hz124.ext hW.extAll) b104 (hW.capR (k := 5) rfl) (hW.capC (k := 5) rfl) l497 Al493 cl493 (hW.slCall (k := 12) rfl) b128 (hW.capR (k := 13) rfl) (hW.capC (k := 13) rfl) b130 y100 Ay100_0 cy100_0 (hW.slCall (k := 2) rfl) b102 (hW.capR (k := 3) rfl) (hW.capC (k := 3) rfl) m123 b103 (hz124.ext hW.extAll) b104 (hW.capR (k := 5) rfl) (hW.capC (k := 5) rfl) b129 (hW.capR (k := 15) rfl) (hW.capC (k := 15) rfl) (hW.capR (k := 14) rfl) (hW.capC (k := 14) rfl) y508 hy508 (HF.start _)) ?_
        refine Tr.asg rfl rfl ?_
        refine Tr.nil ?_
        exact Tr.backThen leL11 (l497, l500, y508, Al493, cl493, Al500, cl500) ⟨H, hfl497, hAl500⟩ (.cons rfl (.cons rfl (.cons rfl (.cons rfl (.cons rfl (.cons rfl (.cons rfl (.cons rfl (.cons rfl (.cons rfl .nil)))))))))) (.cons rfl (.cons rfl (.cons rfl (.cons rfl (.cons rfl (.cons rfl (.cons rfl (.cons rfl (.cons rfl .nil)))))))))
     ·refine Tr.exit (Tr.exitThen (Tr.exitThen (Tr.exitBlock ?_)))
      exact Tr.backThen leJ455 (l493, l494, Al493, cl493, Al494, cl494) ⟨H, hl493, hl494⟩ (.cons rfl (.cons rfl (.cons rfl (.cons rfl (.cons rfl (.cons rfl (.cons rfl (.cons rfl .nil)))))))) (.cons rfl (.cons rfl (.cons rfl (.cons rfl (.cons rfl (.cons rfl (.cons rfl (.cons rfl (.cons rfl .nil)))))))))
    ·intro w s hlJ456 hs
     obtain ⟨l453, l454, Al453, cl453, Al454, cl454⟩ := s
     obtain ⟨H, hl453, hl454⟩ := hs
     replace H : F_shape_Set__Borders_J10 l403 (F_shape_Set__Borders_L8 N y100 m123 restL8 (iL8 + 1)) l453 l454 = some r := H
     replace hz124 := hz124.leR hlJ456
     replace leB := leB.trans hlJ456
     replace leL1 := leL1.trans hlJ456
     replace leL8 := leL8.trans hlJ456
     replace hl453 : SlF Al453 (l453).length cl453 := hl453
     replace hl454 : SlF Al454 (l454).length cl454 := hl454
     unfold F_shape_Set__Borders_J10 at H
     show Tr _ _ (LF [(3, (.pointer (some ⟨b102, 0, none⟩))), (7, (.pointer (some ⟨b128, 0, none⟩))), (9, (.pointer (some ⟨b130, 0, none⟩))), (10, (.func (.func 33) #[] #[(.pointer (some ⟨b104, 0, none⟩)), (.pointer (some ⟨b128, 0, none⟩)), (.pointer (some ⟨b130, 0, none⟩)), (.pointer (some ⟨b102, 0, none⟩))])), (11, (.slice Al403 (l403).length cl403)), (13, (.slice Al454 (l454).length cl454)), (41, (iv (y100.length : Int))), (42, (iv (iL8 : Int)))]) (LE [(2, ow Ay100_0 cy100_0 66 fl_TSide y100), (3, bx b102 #[(.slice Ay100_0 (y100).length cy100_0)] 62), (5, bx b104 #[(.map (some b103))] 64), (12, ow Al453 cl453 4 fl_bool l453), (13, bx b128 #[(.slice Al453 (l453).length cl453)] 67), (14, bx b129 #[(.func (.func 30) #[] #[])] 69), (15, bx b130 #[(.func (.func 32) #[] #[(.pointer (some ⟨b104, 0, none⟩)), (.pointer (some ⟨b129, 0, none⟩))])] 70), (16, ow Al403 cl403 39 fl_LTPoint l403), (35, ow Al454 cl454 66 fl_TSide l454)]) _
     refine Tr.region ?_
     refine Tr.mv rfl rfl ?_
     refine Tr.mv rfl rfl ?_
     obtain ⟨y457, hy457, H⟩ := bnd H
     refine Tr.callM [39] [emp] (U := (Option Addr × Nat)) (fun u => (.slice u.1 (y457).length u.2)) (fun u => SlF u.1 (y457).length u.2) (fun u => [ow u.1 u.2 44 fl_TPoint y457]) rfl (pk_cons rfl pk_nil) (fun _ => rfl) (wn rfl) rfl Try.call34 (evl_cons rfl evl_nil) (fun W hW hp hE => F_shape_corners_ok l454 Al454 cl454 (hW.slS (k := 35) rfl hp rfl) y457 hy457 hE) ?_
     intro u hu
     obtain ⟨Ay457_0, cy457_0⟩ := u
     have gy457_0 := hu
     have hgy457_0 : SlF Ay457_0 (y457).length cy457_0 := gy457_0 --@phi
     show Tr _ _ (uf _ 93 (.slice Ay457_0 (y457).length cy457_0)) (up _ 39 (ow Ay457_0 cy457_0 44 fl_TPoint y457)) _
     refine Tr.freeze 39 rfl fun w le460 hz459 => ?_
     replace hz124 := hz124.leR le460
     replace leB := leB.trans le460
     replace leL1 := leL1.trans le460
     replace leL8 := leL8.trans le460
     refine Tr.buildSlice 40 (e := 39) (vs := [(0, (.slice Ay457_0 (y457).length cy457_0))]) (cs := [(.slice Ay457_0 (y457).length cy457_0)]) (wn rfl) rfl (evs_cons rfl evs_nil) (by kernel_rfl) fun b461 => ?_
     obtain ⟨l462, hl462, H⟩ := bnd H
     refine Tr.append 16 (t := fl_LTPoint) (l := l403) (l2 := [y457]) (wn rfl) rfl rfl rfl rfl (fun W hW => ⟨[[(.slice Ay457_0 (y457).length cy457_0)]], (.cons ⟨(Ay457_0, cy457_0), hz459, rfl⟩ .nil), rdb hW (vs := [(.slice Ay457_0 (y457).length cy457_0)]) (k := 40) rfl 0⟩) un_23 sz_39 zl_39 (by decide) by_39 rfl hl462 fun Al462 cl462 hAl462 => ?_
     refine Tr.asg rfl rfl ?_
     refine Tr.nil (Tr.normBlock (Tr.normThen ?_))
     refine Tr.region ?_
     refine Tr.va rfl (fun _ _ h1 h2 => run_add (h1.ev rfl) (h1.ev rfl)) ?_
     refine Tr.mv rfl rfl ?_
     refine Tr.nil ?_
     exact Tr.backThen leL8 (restL8, (iL8 + 1), l453, l462, Al453, cl453, Al462, cl462) ⟨rfl, range_tl hdL8, range_lt hdL8, H, hl453, hAl462⟩ (.cons rfl (.cons rfl (.cons rfl (.cons rfl (.cons rfl (.cons rfl (.cons (congrArg (fun z => some (Value.int .i64 z)) (range_up hdL8 hgy100_0)) .nil))))))) (.cons rfl (.cons rfl (.cons rfl (.cons rfl (.cons rfl (.cons rfl (.cons rfl (.cons rfl .nil))))))))
 | cons xL1 restL1 =>
  rw [F_shape_Set__Borders_L1.eq_2] at H
  refine Tr.sr ?_
  refine Tr.va rfl (fun _ _ h1 h2 => run_lss (h1.ev rfl) (h1.ev rfl)) ?_
  refine Tr.nil (Tr.normThen ?_)
  refine Tr.seq ?_
  refine Tr.condT rfl (range_on hdL1) ?_
  refine Tr.skip (Tr.normThen ?_)
  refine Tr.seq ?_
  refine Tr.block ?_
  refine Tr.sr ?_
  refine Tr.mv rfl rfl ?_
  refine Tr.va rfl (fun _ _ h1 h2 => run_indexAddr el_62 (h1.ev rfl) hgy100_0 (h1.ev rfl) (Int.natCast_nonneg _) (range_lt hdL1)) ?_
  refine Tr.va rfl (fun _ _ h1 h2 => run_loadN (cs := [(iv xL1.from_.X), (iv xL1.from_.Y), (iv xL1.to_.X), (iv xL1.to_.Y)]) ag_66 sz_66 (h1.ev rfl) (CellsAt.take (rdo ef_TSide (k := 2) h2 rfl (range_at hdL1)) 4) rfl) ?_
  refine Tr.alloc 44 (wn rfl) rfl ze_66 fun b509 => ?_
  refine Tr.asg rfl rfl ?_
  refine Tr.store 44 (cs := [(iv xL1.from_.X), (iv xL1.from_.Y), (iv xL1.to_.X), (iv xL1.to_.Y)]) [(iv xL1.from_.X), (iv xL1.from_.Y), (iv xL1.to_.X), (iv xL1.to_.Y)] (wn rfl) rfl rfl rfl rfl sz_66 rfl rfl rfl ?_
  refine Tr.nil (Tr.normThen ?_)
  refine Tr.region ?_
  refine Tr.va rfl (fun _ _ h1 h2 => run_load1 ag_64 (h1.ev rfl) (rdb h2 (vs := [(.map (some b103))]) (k := 5) rfl 0) rfl) ?_
  refine Tr.va rfl (fun _ _ h1 h2 => run_fieldAddr fo_66_0 (h1.ev rfl)) ?_
  refine Tr.va rfl (fun _ _ h1 h2 => run_loadN (cs := [(iv xL1.from_.X), (iv xL1.from_.Y)]) ag_44 sz_44 (h1.ev rfl) (CellsAt.take (rdb h2 (vs := [(iv xL1.from_.X), (iv xL1.from_.Y), (iv xL1.to_.X), (iv xL1.to_.Y)]) (k := 44) rfl 0) 2) rfl) ?_
  refine Tr.mv rfl rfl ?_
  refine Tr.buildSlice 45 (e := 3) (vs := [(0, (iv (iL1 : Int)))]) (cs := [(iv (iL1 : Int))]) (wn rfl) rfl (evs_cons rfl evs_nil) (by kernel_rfl) fun b510 => ?_
  obtain ⟨l511, hl511, H⟩ := bnd H
  refine Tr.entryTake 4 46 kp_44 (wn rfl) rfl un_64 zs_53 rfl rfl rfl rfl hm123 hl511 fun prl511 pol511 Al511 cl511 hQl511 hfl511 => ?_
  refine Tr.va rfl (fun _ _ h1 h2 => run_extract (h1.ev rfl) rfl) ?_
  obtain ⟨l512, hl512, H⟩ := bnd H
  refine Tr.append 46 (t := fl_i64) (l := l511) (l2 := [(iL1 : Int)]) (wn rfl) rfl rfl rfl rfl (fun W hW => ⟨[[(iv (iL1 : Int))]], (.cons ⟨(), trivial, rfl⟩ .nil), rdb hW (vs := [(iv (iL1 : Int))]) (k := 45) rfl 0⟩) un_53 sz_3 zl_3 (by decide) by_3 rfl hl512 fun Al512 cl512 hAl512 => ?_
  refine Tr.va rfl (fun _ _ h1 h2 => run_extract (h1.ev rfl) rfl) ?_
  refine Tr.entryPut 4 46 (wn rfl) rfl rfl rfl rfl rfl rfl hQl511 hAl512 fun ms513 hmms513 => ?_
  refine Tr.nil (Tr.normBlock (Tr.normThen ?_))
  refine Tr.region ?_
  refine Tr.va rfl (fun _ _ h1 h2 => run_add (h1.ev rfl) (h1.ev rfl)) ?_
  refine Tr.mv rfl rfl ?_
  refine Tr.nil ?_
  exact Tr.backThen leL1 (restL1, (iL1 + 1), (kmput m123 (xL1.from_.X, xL1.from_.Y) l512), ms513) ⟨rfl, range_tl hdL1, range_lt hdL1, H, hmms513⟩ (.cons rfl (.cons rfl (.cons rfl (.cons rfl (.cons (congrArg (fun z => some (Value.int .i64 z)) (range_up hdL1 hgy100_0)) .nil))))) (.cons rfl (.cons rfl (.cons rfl (.cons rfl .nil))))

theorem F_shape_Outlines_ok (N : Nat) {w : Bs} (p0 : (List TRect)) (Ap0_0 : Option Addr) (cp0_0 : Nat) (hp0_0 : Sl w.R w.W fl_TRect Ap0_0 cp0_0 p0) (r : ((List (List TPoint)) × Int)) (H : F_shape_Outlines N p0 = some r) (hE : HF w w.W (LEn [emp])) : Calls Try.prog 4 [(.slice Ap0_0 (p0).length cp0_0)].toArray w.W fun e W' => ∃ (w' : Bs) (u : (Option Addr × Nat)), w.Le w' ∧ e = .returned (.tuple #[(.slice u.1 (r.1).length u.2), (iv r.2)]) ∧ (SlF u.1 (r.1).length u.2) ∧ HF w' W' (LEn [ow u.1 u.2 39 fl_LTPoint r.1]) := by
 unfold F_shape_Outlines at H
 have leB := Bs.Le.refl w
 refine Tr.enter (n := 31) Try.func4 rfl rfl rfl hE ?_
 refine Tr.sr ?_
 refine Tr.asg rfl rfl ?_
 refine Tr.nilOwn 1 39 fl_LTPoint ?_
 show Tr _ _ (uf _ 2 (.slice none (([] : List (List TPoint))).length 0)) _ _
 refine Tr.asg rfl rfl ?_
 refine Tr.nil (Tr.normThen ?_)
 refine Tr.seq ?_
 refine Tr.sr ?_
 refine Tr.mv rfl rfl ?_
 obtain ⟨y100, hy100, H⟩ := bnd H
 refine Tr.call0 (r := (iv y100)) (wn rfl) rfl Try.call8 (evl_cons rfl evl_nil) (fun W hW => F_shape_CheckRegion_ok N p0 Ap0_0 cp0_0 (hp0_0.ext hW.extAll) y100 hy100 (HF.start _)) ?_
 refine Tr.asg rfl rfl ?_
 refine Tr.nil (Tr.normThen ?_)
 refine Tr.sr ?_
 refine Tr.mv rfl rfl ?_
 refine Tr.va rfl (fun _ _ h1 h2 => run_neq (h1.ev rfl) (h1.ev rfl)) ?_
 refine Tr.nil (Tr.normThen ?_)
 refine Tr.cond rfl H (fun H => ?_) (fun H => ?_)
 ·refine Tr.sr ?_
  refine Tr.mv rfl rfl ?_
  refine Tr.asg rfl rfl ?_
  refine Tr.nilOwn 2 39 fl_LTPoint ?_
  show Tr _ _ (uf _ 2 (.slice none (([] : List (List TPoint))).length 0)) _ _
  refine Tr.asg rfl rfl ?_
  refine Tr.nil (Tr.normThen ?_)
  refine Tr.ret (Tr.retThen ?_)
  obtain rfl := Option.some.inj H
  exact Tr.out (m := [(.slice none (([] : List (List TPoint))).length 0), (iv y100)]) [] (res_tmp rfl (res_tmp rfl res_nil)) (fun W hW => ⟨w, (none, 0), leB, rfl, slf_nil, hW.pick (ks := [2]) (by decide) (pk_cons rfl pk_nil)⟩)
 ·refine Tr.skip (Tr.normThen ?_)
  refine Tr.sr ?_
  refine Tr.mv rfl rfl ?_
  obtain ⟨y101, hy101, H⟩ := bnd H
  refine Tr.callG [3] [emp] (U := (Option Addr × Nat)) (fun u => (.slice u.1 (y101).length u.2)) (fun O W u => SlF u.1 (y101).length u.2) (fun u => [ow u.1 u.2 61 fl_TBand y101]) rfl (pk_cons rfl pk_nil) (fun _ => rfl) (wn rfl) rfl Try.call9 (evl_cons rfl evl_nil) (fun W hW hp hE => F_shape_SetOf_ok N p0 Ap0_0 cp0_0 (hp0_0.ext (hW.extS hp)) y101 hy101 hE) ?_
  intro w u le102 hu
  obtain ⟨Ay101_0, cy101_0⟩ := u
  have gy101_0 := hu
  replace hp0_0 := hp0_0.leR le102
  replace leB := leB.trans le102
  have hgy101_0 : SlF Ay101_0 (y101).length cy101_0 := gy101_0 --@phi
  show Tr _ _ (uf _ 15 (.slice Ay101_0 (y101).length cy101_0)) (up _ 3 (ow Ay101_0 cy101_0 61 fl_TBand y101)) _
  obtain ⟨y103, hy103, H⟩ := bnd H
  refine Tr.callG [4] [emp] (U := (Option Addr × Nat)) (fun u => (.slice u.1 (y103).length u.2)) (fun O W u => SlF u.1 (y103).length u.2) (fun u => [ow u.1 u.2 39 fl_LTPoint y103]) rfl (pk_cons rfl pk_nil) (fun _ => rfl) (wn rfl) rfl Try.call10 (evl_cons rfl evl_nil) (fun W hW hp hE => F_shape_Set__Borders_ok N y101 Ay101_0 cy101_0 (hW.slS (k := 3) rfl hp rfl) y103 hy103 hE) ?_
  intro w u le104 hu
  obtain ⟨Ay103_0, cy103_0⟩ := u
  have gy103_0 := hu
  replace hp0_0 := hp0_0.leR le104
  replace leB := leB.trans le104
  have hgy103_0 : SlF Ay103_0 (y103).length cy103_0 := gy103_0 --@phi
  show Tr _ _ (uf _ 16 (.slice Ay103_0 (y103).length cy103_0)) (up _ 4 (ow Ay103_0 cy103_0 39 fl_LTPoint y103)) _
  refine Tr.asg rfl rfl ?_
  refine Tr.nil (Tr.normThen ?_)
  refine Tr.sr ?_
  refine Tr.asg rfl rfl ?_
  refine Tr.nil (Tr.normThen ?_)
  refine Tr.seq ?_
  refine Tr.sr ?_
  refine Tr.mv rfl rfl ?_
  refine Tr.va rfl (fun _ _ h1 h2 => run_len un_23 (h1.ev rfl)) ?_
  refine Tr.mv rfl rfl ?_
  refine Tr.nil (Tr.normThen ?_)
  refine Tr.block ?_
  refine Tr.loop (σ := (List (List TPoint)) × Nat × Int) (fun m w s => m = s.1.length + 1 ∧ s.1 = List.drop s.2.1 y103 ∧ s.2.1 ≤ y103.length ∧ F_shape_Outlines_L1 y103 s.1 s.2.1 s.2.2 = some r) (fun s => [(5, (.slice Ay103_0 (y103).length cy103_0)), (6, (iv s.2.2)), (17, (.slice Ay103_0 (y103).length cy103_0)), (18, (iv (y103.length : Int))), (19, (iv (s.2.1 : Int)))]) (fun s => [(4, ow Ay103_0 cy103_0 39 fl_LTPoint y103)]) (y103.length + 1) (y103, 0, 0) ⟨rfl, rfl, Nat.zero_le _, H⟩ (.cons rfl (.cons rfl (.cons rfl (.cons rfl (.cons rfl .nil))))) (.cons rfl .nil) (fun _ _ h => absurd h.1 (by simp)) ?_
  intro w leL1 m s hs
  obtain ⟨restL1, iL1, x115⟩ := s
  obtain ⟨hmL1, hdL1, hiL1, H⟩ := hs
  replace hdL1 : restL1 = List.drop iL1 y103 := hdL1
  replace H : F_shape_Outlines_L1 y103 restL1 iL1 x115 = some r := H
  replace hmL1 : m + 1 = restL1.length + 1 := hmL1
  replace leB := leB.trans leL1
  obtain rfl : m = restL1.length := by omega
  clear hmL1
  show Tr _ _ (LF [(5, (.slice Ay103_0 (y103).length cy103_0)), (6, (iv x115)), (17, (.slice Ay103_0 (y103).length cy103_0)), (18, (iv (y103.length : Int))), (19, (iv (iL1 : Int)))]) (LE [(4, ow Ay103_0 cy103_0 39 fl_LTPoint y103)]) _
  cases restL1 with
  | nil =>
   rw [F_shape_Outlines_L1.eq_1] at H
   refine Tr.sr ?_
   refine Tr.va rfl (fun _ _ h1 h2 => run_lss (h1.ev rfl) (h1.ev rfl)) ?_
   refine Tr.nil (Tr.normThen ?_)
   refine Tr.seq ?_
   refine Tr.condF rfl (range_nil hdL1) ?_
   refine Tr.exit (Tr.exitThen (Tr.exitThen (Tr.exitBlock (Tr.normThen ?_))))
   refine Tr.seq ?_
   refine Tr.sr ?_
   refine Tr.mv rfl rfl ?_
   refine Tr.va rfl (fun _ _ h1 h2 => run_gtr (h1.ev rfl) (h1.ev rfl)) ?_
   refine Tr.nil (Tr.normThen ?_)
   refine Tr.cond rfl H (fun H => ?_) (fun H => ?_)
   ·refine Tr.sr ?_
    refine Tr.asg rfl rfl ?_
    refine Tr.nilOwn 5 39 fl_LTPoint ?_
    show Tr _ _ (uf _ 2 (.slice none (([] : List (List TPoint))).length 0)) _ _
    refine Tr.asg rfl rfl ?_
    refine Tr.nil (Tr.normThen ?_)
    refine Tr.ret (Tr.retThen ?_)
    obtain rfl := Option.some.inj H
    exact Tr.out (m := [(.slice none (([] : List (List TPoint))).length 0), (iv 2)]) [] (res_tmp rfl (res_tmp rfl res_nil)) (fun W hW => ⟨w, (none, 0), leB, rfl, slf_nil, hW.pick (ks := [5]) (by decide) (pk_cons rfl pk_nil)⟩)
   ·refine Tr.skip (Tr.normThen ?_)
    refine Tr.sr ?_
    refine Tr.mv rfl rfl ?_
    refine Tr.asg rfl rfl ?_
    refine Tr.asg rfl rfl ?_
    refine Tr.nil (Tr.normThen ?_)
    refine Tr.ret ?_
    obtain rfl := Option.some.inj H
    exact Tr.out (m := [(.slice Ay103_0 (y103).length cy103_0), (iv 0)]) [] (res_tmp rfl (res_tmp rfl res_nil)) (fun W hW => ⟨w, (Ay103_0, cy103_0), leB, rfl, hgy103_0, hW.pick (ks := [4]) (by decide) (pk_cons rfl pk_nil)⟩)
  | cons xL1 restL1 =>
   rw [F_shape_Outlines_L1.eq_2] at H
   refine Tr.sr ?_
   refine Tr.va rfl (fun _ _ h1 h2 => run_lss (h1.ev rfl) (h1.ev rfl)) ?_
   refine Tr.nil (Tr.normThen ?_)
   refine Tr.seq ?_
   refine Tr.condT rfl (range_on hdL1) ?_
   refine Tr.skip (Tr.normThen ?_)
   refine Tr.seq ?_
   refine Tr.block ?_
   refine Tr.sr ?_
   refine Tr.va rfl (fun _ _ h1 h2 => run_indexAddr el_23 (h1.ev rfl) hgy103_0 (h1.ev rfl) (Int.natCast_nonneg _) (range_lt hdL1)) ?_
   refine Tr.valE (U := (fl_LTPoint).Ad) (fun u => (fl_LTPoint).ok w.O w.W u xL1) (fun u => (.slice u.1 (xL1).length u.2)) (wn rfl) rfl (ldN (κ := 4) (t := fl_LTPoint) (V := fun u => (.slice u.1 (xL1).length u.2)) rfl (range_at hdL1) (fun _ _ u h1 hc => run_load1 ag_39 (h1.ev rfl) hc rfl)) ?_
   intro u116 hoku116
   obtain ⟨Au116_0, cu116_0⟩ := u116
   have hoku116_0 := hoku116
   replace hoku116_0 : Sl w.O w.W fl_TPoint Au116_0 cu116_0 xL1 := hoku116_0
   show Tr _ _ (uf _ 22 (.slice Au116_0 (xL1).length cu116_0)) _ _
   refine Tr.asg rfl rfl ?_
   refine Tr.nil (Tr.normThen ?_)
   refine Tr.region ?_
   refine Tr.mv rfl rfl ?_
   refine Tr.mv rfl rfl ?_
   refine Tr.va rfl (fun _ _ h1 h2 => run_len un_39 (h1.ev rfl)) ?_
   refine Tr.va rfl (fun _ _ h1 h2 => run_add (h1.ev rfl) (h1.ev rfl)) ?_
   refine Tr.asg rfl rfl ?_
   refine Tr.nil (Tr.normBlock (Tr.normThen ?_))
   refine Tr.region ?_
   refine Tr.va rfl (fun _ _ h1 h2 => run_add (h1.ev rfl) (h1.ev rfl)) ?_
   refine Tr.mv rfl rfl ?_
   refine Tr.nil ?_
   exact Tr.backThen leL1 (restL1, (iL1 + 1), (w64 (x115 + (xL1.length : Int)))) ⟨rfl, range_tl hdL1, range_lt hdL1, H⟩ (.cons rfl (.cons rfl (.cons rfl (.cons rfl (.cons (congrArg (fun z => some (Value.int .i64 z)) (range_up hdL1 hgy103_0)) .nil))))) (.cons rfl .nil)

theorem F_shape_AreaOf_ok {w : Bs} (p0 : (List TRect)) (Ap0_0 : Option Addr) (cp0_0 : Nat) (hp0_0 : Sl w.R w.W fl_TRect Ap0_0 cp0_0 p0) (r : Int) (H : F_shape_AreaOf p0 = some r) (hE : HF w w.W E0) : Calls Try.prog 38 [(.slice Ap0_0 (p0).length cp0_0)].toArray w.W fun e W' => e = .returned (iv r) ∧ HF w W' E0 := by
 unfold F_shape_AreaOf at H
 have leB := Bs.Le.refl w
 refine Tr.enter (n := 27) Try.func38 rfl rfl rfl hE ?_
 refine Tr.sr ?_
 refine Tr.asg rfl rfl ?_
 refine Tr.nil (Tr.normThen ?_)
 refine Tr.sr ?_
 refine Tr.asg rfl rfl ?_
 refine Tr.nil (Tr.normThen ?_)
 refine Tr.seq ?_
 refine Tr.sr ?_
 refine Tr.mv rfl rfl ?_
 refine Tr.va rfl (fun _ _ h1 h2 => run_len un_22 (h1.ev rfl)) ?_
 refine Tr.mv rfl rfl ?_
 refine Tr.nil (Tr.normThen ?_)
 refine Tr.block ?_
 refine Tr.loop (σ := (List TRect) × Nat × Int) (fun m w s => m = s.1.length + 1 ∧ s.1 = List.drop s.2.1 p0 ∧ s.2.1 ≤ p0.length ∧ F_shape_AreaOf_L1 s.1 s.2.1 s.2.2 = some r) (fun s => [(3, (iv s.2.2)), (6, (.slice Ap0_0 (p0).length cp0_0)), (7, (iv (p0.length : Int))), (8, (iv (s.2.1 : Int)))]) (fun s => []) (p0.length + 1) (p0, 0, 0) ⟨rfl, rfl, Nat.zero_le _, H⟩ (.cons rfl (.cons rfl (.cons rfl (.cons rfl .nil)))) .nil (fun _ _ h => absurd h.1 (by simp)) ?_
 intro w leL1 m s hs
 obtain ⟨restL1, iL1, x110⟩ := s
 obtain ⟨hmL1, hdL1, hiL1, H⟩ := hs
 replace hdL1 : restL1 = List.drop iL1 p0 := hdL1
 replace H : F_shape_AreaOf_L1 restL1 iL1 x110 = some r := H
 replace hmL1 : m + 1 = restL1.length + 1 := hmL1
 replace hp0_0 := hp0_0.leR leL1
 replace leB := leB.trans leL1
 obtain rfl : m = restL1.length := by omega
 clear hmL1
 show Tr _ _ (LF [(3, (iv x110)), (6, (.slice Ap0_0 (p0).length cp0_0)), (7, (iv (p0.length : Int))), (8, (iv (iL1 : Int)))]) (LE []) _
 cases restL1 with
 | nil =>
  rw [F_shape_AreaOf_L1.eq_1] at H
  refine Tr.sr ?_
  refine Tr.va rfl (fun _ _ h1 h2 => run_lss (h1.ev rfl) (h1.ev rfl)) ?_
  refine Tr.nil (Tr.normThen ?_)
  refine Tr.seq ?_
  refine Tr.condF rfl (range_nil hdL1) ?_
  refine Tr.exit (Tr.exitThen (Tr.exitThen (Tr.exitBlock (Tr.normThen ?_))))
  refine Tr.sr ?_
  refine Tr.mv rfl rfl ?_
  refine Tr.asg rfl rfl ?_
  refine Tr.nil (Tr.normThen ?_)
  refine Tr.ret ?_
  obtain rfl := Option.some.inj H
  exact Tr.out (m := [(iv x110)]) [] (res_tmp rfl res_nil) (fun W hW => ⟨rfl, hW.low leB⟩)
 | cons xL1 restL1 =>
  rw [F_shape_AreaOf_L1.eq_2] at H
  refine Tr.sr ?_
  refine Tr.va rfl (fun _ _ h1 h2 => run_lss (h1.ev rfl) (h1.ev rfl)) ?_
  refine Tr.nil (Tr.normThen ?_)
  refine Tr.seq ?_
  refine Tr.condT rfl (range_on hdL1) ?_
  refine Tr.skip (Tr.normThen ?_)
  refine Tr.seq ?_
  refine Tr.block ?_
  refine Tr.sr ?_
  refine Tr.va rfl (fun _ _ h1 h2 => run_indexAddr el_22 (h1.ev rfl) hp0_0.form (h1.ev rfl) (Int.natCast_nonneg _) (range_lt hdL1)) ?_
  refine Tr.va rfl (fun _ _ h1 h2 => run_loadN (cs := [(iv xL1.X0), (iv xL1.Y0), (iv xL1.X1), (iv xL1.Y1)]) ag_32 sz_32 (h1.ev rfl) (CellsAt.take (rdF ef_TRect hp0_0 (range_at hdL1) h2) 4) rfl) ?_
  refine Tr.alloc 3 (wn rfl) rfl ze_32 fun b111 => ?_
  refine Tr.store 3 (cs := [(iv xL1.X0), (iv xL1.Y0), (iv xL1.X1), (iv xL1.Y1)]) [(iv xL1.X0), (iv xL1.Y0), (iv xL1.X1), (iv xL1.Y1)] (wn rfl) rfl rfl rfl rfl sz_32 rfl rfl rfl ?_
  refine Tr.nil (Tr.normThen ?_)
  refine Tr.region ?_
  refine Tr.mv rfl rfl ?_
  refine Tr.va rfl (fun _ _ h1 h2 => run_fieldAddr fo_32_2 (h1.ev rfl)) ?_
  refine Tr.va rfl (fun _ _ h1 h2 => run_load1 ag_3 (h1.ev rfl) (rdb h2 (vs := [(iv xL1.X0), (iv xL1.Y0), (iv xL1.X1), (iv xL1.Y1)]) (k := 3) rfl 2) rfl) ?_
  refine Tr.va rfl (fun _ _ h1 h2 => run_fieldAddr fo_32_0 (h1.ev rfl)) ?_
  refine Tr.va rfl (fun _ _ h1 h2 => run_load1 ag_3 (h1.ev rfl) (rdb h2 (vs := [(iv xL1.X0), (iv xL1.Y0), (iv xL1.X1), (iv xL1.Y1)]) (k := 3) rfl 0) rfl) ?_
  refine Tr.va rfl (fun _ _ h1 h2 => run_sub (h1.ev rfl) (h1.ev rfl)) ?_
  refine Tr.va rfl (fun _ _ h1 h2 => run_fieldAddr fo_32_3 (h1.ev rfl)) ?_
  refine Tr.va rfl (fun _ _ h1 h2 => run_load1 ag_3 (h1.ev rfl) (rdb h2 (vs := [(iv xL1.X0), (iv xL1.Y0), (iv xL1.X1), (iv xL1.Y1)]) (k := 3) rfl 3) rfl) ?_
  refine Tr.va rfl (fun _ _ h1 h2 => run_fieldAddr fo_32_1 (h1.ev rfl)) ?_
  refine Tr.va rfl (fun _ _ h1 h2 => run_load1 ag_3 (h1.ev rfl) (rdb h2 (vs := [(iv xL1.X0), (iv xL1.Y0), (iv xL1.X1), (iv xL1.Y1)]) (k := 3) rfl 1) rfl) ?_
  refine Tr.va rfl (fun _ _ h1 h2 => run_sub (h1.ev rfl) (h1.ev rfl)) ?_
  refine Tr.va rfl (fun _ _ h1 h2 => run_mul (h1.ev rfl) (h1.ev rfl)) ?_
  refine Tr.va rfl (fun _ _ h1 h2 => run_add (h1.ev rfl) (h1.ev rfl)) ?_
  refine Tr.asg rfl rfl ?_
  refine Tr.nil (Tr.normBlock (Tr.normThen ?_))
  refine Tr.region ?_
  refine Tr.va rfl (fun _ _ h1 h2 => run_add (h1.ev rfl) (h1.ev rfl)) ?_
  refine Tr.mv rfl rfl ?_
  refine Tr.nil ?_
  exact Tr.backThen leL1 (restL1, (iL1 + 1), (w64 (x110 + (w64 ((w64 (xL1.X1 - xL1.X0)) * (w64 (xL1.Y1 - xL1.Y0))))))) ⟨rfl, range_tl hdL1, range_lt hdL1, H⟩ (.cons rfl (.cons rfl (.cons rfl (.cons (congrArg (fun z => some (Value.int .i64 z)) (range_up hdL1 hp0_0.form)) .nil)))) .nil

theorem F_shape_Area_ok (N : Nat) {w : Bs} (p0 : (List TRect)) (Ap0_0 : Option Addr) (cp0_0 : Nat) (hp0_0 : Sl w.R w.W fl_TRect Ap0_0 cp0_0 p0) (r : (Int × Int)) (H : F_shape_Area N p0 = some r) (hE : HF w w.W E0) : Calls Try.prog 11 [(.slice Ap0_0 (p0).length cp0_0)].toArray w.W fun e W' => e = .returned (.tuple #[(iv r.1), (iv r.2)]) ∧ HF w W' E0 := by
 unfold F_shape_Area at H
 have leB := Bs.Le.refl w
 refine Tr.enter (n := 12) Try.func11 rfl rfl rfl hE ?_
 refine Tr.sr ?_
 refine Tr.asg rfl rfl ?_
 refine Tr.asg rfl rfl ?_
 refine Tr.nil (Tr.normThen ?_)
 refine Tr.seq ?_
 refine Tr.sr ?_
 refine Tr.mv rfl rfl ?_
 obtain ⟨y100, hy100, H⟩ := bnd H
 refine Tr.call0 (r := (iv y100)) (wn rfl) rfl Try.call8 (evl_cons rfl evl_nil) (fun W hW => F_shape_CheckRegion_ok N p0 Ap0_0 cp0_0 (hp0_0.ext hW.extAll) y100 hy100 (HF.start _)) ?_
 refine Tr.asg rfl rfl ?_
 refine Tr.nil (Tr.normThen ?_)
 refine Tr.sr ?_
 refine Tr.mv rfl rfl ?_
 refine Tr.va rfl (fun _ _ h1 h2 => run_neq (h1.ev rfl) (h1.ev rfl)) ?_
 refine Tr.nil (Tr.normThen ?_)
 refine Tr.cond rfl H (fun H => ?_) (fun H => ?_)
 ·refine Tr.sr ?_
  refine Tr.mv rfl rfl ?_
  refine Tr.asg rfl rfl ?_
  refine Tr.asg rfl rfl ?_
  refine Tr.nil (Tr.normThen ?_)
  refine Tr.ret (Tr.retThen ?_)
  obtain rfl := Option.some.inj H
  exact Tr.out (m := [(iv 0), (iv y100)]) [] (res_tmp rfl (res_tmp rfl res_nil)) (fun W hW => ⟨rfl, hW.low leB⟩)
 ·refine Tr.skip (Tr.normThen ?_)
  refine Tr.sr ?_
  refine Tr.mv rfl rfl ?_
  obtain ⟨y101, hy101, H⟩ := bnd H
  refine Tr.call0 (r := (iv y101)) (wn rfl) rfl Try.call38 (evl_cons rfl evl_nil) (fun W hW => F_shape_AreaOf_ok p0 Ap0_0 cp0_0 (hp0_0.ext hW.extAll) y101 hy101 (HF.start _)) ?_
  refine Tr.asg rfl rfl ?_
  refine Tr.asg rfl rfl ?_
  refine Tr.nil (Tr.normThen ?_)
  refine Tr.ret ?_
  obtain rfl := Option.some.inj H
  exact Tr.out (m := [(iv y101), (iv 0)]) [] (res_tmp rfl (res_tmp rfl res_nil)) (fun W hW => ⟨rfl, hW.low leB⟩)

theorem F_etchhouselaw1_awake_ok (N : Nat) {w : Bs}  (r : Bool) (H : F_etchhouselaw1_awake N = some r) (hE : HF w w.W E0) : Calls Try.prog 5 [].toArray w.W fun e W' => e = .returned (.bool r) ∧ HF w W' E0 := by
 unfold F_etchhouselaw1_awake at H
 have leB := Bs.Le.refl w
 refine Tr.enter (n := 15) Try.func5 rfl rfl rfl hE ?_
 refine Tr.sr ?_
 refine Tr.asg rfl rfl ?_
 refine Tr.nil (Tr.normThen ?_)
 refine Tr.sr ?_
 refine Tr.build (vs := [(2, (iv 2)), (3, (iv 3))]) (cs := [(iv 0), (iv 0), (iv 2), (iv 3)]) (wn rfl) rfl (evs_cons rfl (evs_cons rfl evs_nil)) (by kernel_rfl) ?_
 refine Tr.buildSlice 1 (e := 32) (vs := [(0, (.agg #[(iv 0), (iv 0), (iv 2), (iv 3)]))]) (cs := [(iv 0), (iv 0), (iv 2), (iv 3)]) (wn rfl) rfl (evs_cons rfl evs_nil) (by kernel_rfl) fun b100 => ?_
 refine Tr.own 1 fl_TRect [(TRect.mk 0 0 2 3)] (css := [[(iv 0), (iv 0), (iv 2), (iv 3)]]) rfl (.cons ⟨(), trivial, rfl⟩ .nil) rfl (by decide) (lit_max rfl) ?_
 obtain ⟨y101, hy101, H⟩ := bnd H
 refine Tr.call0 (r := (.tuple #[(iv y101.1), (iv y101.2)])) (wn rfl) rfl Try.call11 (evl_cons rfl evl_nil) (fun W hW => F_shape_Area_ok N [(TRect.mk 0 0 2 3)] (some ⟨b100, 0, none⟩) 1 (hW.slCall (k := 1) rfl) y101 hy101 (HF.start _)) ?_
 refine Tr.mv rfl rfl ?_
 refine Tr.va rfl (fun _ _ h1 h2 => run_extract (h1.ev rfl) rfl) ?_
 refine Tr.va rfl (fun _ _ h1 h2 => run_extract (h1.ev rfl) rfl) ?_
 refine Tr.asg rfl rfl ?_
 refine Tr.asg rfl rfl ?_
 refine Tr.nil (Tr.normThen ?_)
 refine Tr.sr ?_
 refine Tr.mv rfl rfl ?_
 refine Tr.va rfl (fun _ _ h1 h2 => run_eql (h1.ev rfl) (h1.ev rfl)) ?_
 refine Tr.mv rfl rfl ?_
 refine Tr.mid0 3 [(14, (.bool ((y101.2 == 0) && (y101.1 == 6))))] [(1, ow (some ⟨b100, 0, none⟩) 1 32 fl_TRect [(TRect.mk 0 0 2 3)])] ?_ ?_
 ·cases hg101 : (y101.2 == 0)
  ·refine Tr.pass rfl rfl rfl rfl rfl (by decide) ?_
   refine Tr.pass rfl rfl rfl rfl rfl (by decide) ?_
   refine Tr.va rfl (fun _ _ h1 h2 => run_pickF (h1.ev rfl) (h1.ev rfl)) ?_
   exact Tr.nil (Tr.fin0 (.cons rfl .nil) (.cons rfl .nil))
  ·refine Tr.val (wg rfl rfl rfl) rfl (fun _ _ h1 h2 => run_move (h1.ev rfl)) ?_
   refine Tr.val (wg rfl rfl rfl) rfl (fun _ _ h1 h2 => run_eql (h1.ev rfl) (h1.ev rfl)) ?_
   refine Tr.va rfl (fun _ _ h1 h2 => run_pickT (h1.ev rfl) (h1.ev rfl)) ?_
   exact Tr.nil (Tr.fin0 (.cons rfl .nil) (.cons rfl .nil))
 ·show Tr _ _ (LF [(14, (.bool ((y101.2 == 0) && (y101.1 == 6))))]) (LE [(1, ow (some ⟨b100, 0, none⟩) 1 32 fl_TRect [(TRect.mk 0 0 2 3)])]) _
  refine Tr.asg rfl rfl ?_
  refine Tr.nil (Tr.normThen ?_)
  refine Tr.ret ?_
  obtain rfl := Option.some.inj H
  exact Tr.out (m := [(.bool ((y101.2 == 0) && (y101.1 == 6)))]) [] (res_tmp rfl res_nil) (fun W hW => ⟨rfl, hW.low leB⟩)

theorem F_slices_IndexFunc_Point_ok {w : Bs} (p0 : (List TPoint)) (Ap0_0 : Option Addr) (cp0_0 : Nat) (hp0_0 : Sl w.R w.W fl_TPoint Ap0_0 cp0_0 p0) (p1 : TPoint → Option Bool) (fid1 : Nat) (cap1 : List Value) (hg1 : ∀ args W, (callFunc fid1 args).run Try.prog W = .ok (.enter fid1 args) W) (hf1 : ∀ (w' : Bs), w.Ext w' → ∀ (z0 : TPoint), ∀ y, p1 z0 = some y → Calls Try.prog fid1 (([(.agg #[(iv z0.X), (iv z0.Y)])] : List Value) ++ cap1).toArray w'.W fun e W'' => e = .returned (.bool y) ∧ HF w' W'' E0) (r : Int) (H : F_slices_IndexFunc_Point p0 p1 = some r) (hE : HF w w.W E0) : Calls Try.prog 39 [(.slice Ap0_0 (p0).length cp0_0), (.func (.func fid1) #[] cap1.toArray)].toArray w.W fun e W' => e = .returned (iv r) ∧ HF w W' E0 := by
 unfold F_slices_IndexFunc_Point at H
 have leB := Bs.Le.refl w
 refine Tr.enter (n := 19) Try.func39 rfl rfl rfl hE ?_
 refine Tr.sr ?_
 refine Tr.asg rfl rfl ?_
 refine Tr.nil (Tr.normThen ?_)
 refine Tr.seq ?_
 refine Tr.sr ?_
 refine Tr.mv rfl rfl ?_
 refine Tr.va rfl (fun _ _ h1 h2 => run_len un_39 (h1.ev rfl)) ?_
 refine Tr.mv rfl rfl ?_
 refine Tr.nil (Tr.normThen ?_)
 refine Tr.block ?_
 refine Tr.loop (σ := (List TPoint) × Nat) (fun m w s => m = s.1.length + 1 ∧ s.1 = List.drop s.2 p0 ∧ s.2 ≤ p0.length ∧ F_slices_IndexFunc_Point_L1 p1 s.1 s.2 = some r) (fun s => [(0, (.slice Ap0_0 (p0).length cp0_0)), (1, (.func (.func fid1) #[] cap1.toArray)), (7, (iv (p0.length : Int))), (8, (iv (s.2 : Int)))]) (fun s => []) (p0.length + 1) (p0, 0) ⟨rfl, rfl, Nat.zero_le _, H⟩ (.cons rfl (.cons rfl (.cons rfl (.cons rfl .nil)))) .nil (fun _ _ h => absurd h.1 (by simp)) ?_
 intro w leL1 m s hs
 obtain ⟨restL1, iL1⟩ := s
 obtain ⟨hmL1, hdL1, hiL1, H⟩ := hs
 replace hdL1 : restL1 = List.drop iL1 p0 := hdL1
 replace H : F_slices_IndexFunc_Point_L1 p1 restL1 iL1 = some r := H
 replace hmL1 : m + 1 = restL1.length + 1 := hmL1
 replace hp0_0 := hp0_0.leR leL1
 replace hf1 := fun w' he => hf1 w' (leL1.ext.trans he)
 replace leB := leB.trans leL1
 obtain rfl : m = restL1.length := by omega
 clear hmL1
 show Tr _ _ (LF [(0, (.slice Ap0_0 (p0).length cp0_0)), (1, (.func (.func fid1) #[] cap1.toArray)), (7, (iv (p0.length : Int))), (8, (iv (iL1 : Int)))]) (LE []) _
 cases restL1 with
 | nil =>
  rw [F_slices_IndexFunc_Point_L1.eq_1] at H
  refine Tr.sr ?_
  refine Tr.va rfl (fun _ _ h1 h2 => run_lss (h1.ev rfl) (h1.ev rfl)) ?_
  refine Tr.nil (Tr.normThen ?_)
  refine Tr.seq ?_
  refine Tr.condF rfl (range_nil hdL1) ?_
  refine Tr.exit (Tr.exitThen (Tr.exitThen (Tr.exitBlock (Tr.normThen ?_))))
  refine Tr.sr ?_
  refine Tr.asg rfl rfl ?_
  refine Tr.nil (Tr.normThen ?_)
  refine Tr.ret ?_
  obtain rfl := Option.some.inj H
  exact Tr.out (m := [(iv (-1))]) [] (res_tmp rfl res_nil) (fun W hW => ⟨rfl, hW.low leB⟩)
 | cons xL1 restL1 =>
  rw [F_slices_IndexFunc_Point_L1.eq_2] at H
  refine Tr.sr ?_
  refine Tr.va rfl (fun _ _ h1 h2 => run_lss (h1.ev rfl) (h1.ev rfl)) ?_
  refine Tr.nil (Tr.normThen ?_)
  refine Tr.seq ?_
  refine Tr.condT rfl (range_on hdL1) ?_
  refine Tr.skip (Tr.normThen ?_)
  refine Tr.seq ?_
  refine Tr.block ?_
  refine Tr.sr ?_
  refine Tr.mv rfl rfl ?_
  refine Tr.asg rfl rfl ?_
  refine Tr.nil (Tr.normThen ?_)
  refine Tr.sr ?_
  refine Tr.mv rfl rfl ?_
  refine Tr.mv rfl rfl ?_
  refine Tr.mv rfl rfl ?_
  refine Tr.va rfl (fun _ _ h1 h2 => run_indexAddr el_39 (h1.ev rfl) hp0_0.form (h1.ev rfl) (Int.natCast_nonneg _) (range_lt hdL1)) ?_
  refine Tr.va rfl (fun _ _ h1 h2 => run_loadN (cs := [(iv xL1.X), (iv xL1.Y)]) ag_44 sz_44 (h1.ev rfl) (CellsAt.take (rdF ef_TPoint hp0_0 (range_at hdL1) h2) 2) rfl) ?_
  obtain ⟨y103, hy103, H⟩ := bnd H
  refine Tr.callF (r := (.bool y103)) (wn rfl) rfl rfl hg1 (evl_cons rfl evl_nil) (fun W hW => hf1 hW.all hW.extAll xL1 _ hy103) ?_
  refine Tr.nil (Tr.normThen ?_)
  refine Tr.cond rfl H (fun H => ?_) (fun H => ?_)
  ·refine Tr.sr ?_
   refine Tr.mv rfl rfl ?_
   refine Tr.asg rfl rfl ?_
   refine Tr.nil (Tr.normThen ?_)
   refine Tr.ret (Tr.retBlock (Tr.retThen (Tr.retThen (Tr.retBlock (Tr.retThen ?_)))))
   obtain rfl := Option.some.inj H
   exact Tr.out (m := [(iv (iL1 : Int))]) [] (res_tmp rfl res_nil) (fun W hW => ⟨rfl, hW.low leB⟩)
  ·refine Tr.skip (Tr.normBlock (Tr.normThen ?_))
   refine Tr.region ?_
   refine Tr.va rfl (fun _ _ h1 h2 => run_add (h1.ev rfl) (h1.ev rfl)) ?_
   refine Tr.mv rfl rfl ?_
   refine Tr.nil ?_
   exact Tr.backThen leL1 (restL1, (iL1 + 1)) ⟨rfl, range_tl hdL1, range_lt hdL1, H⟩ (.cons rfl (.cons rfl (.cons rfl (.cons (congrArg (fun z => some (Value.int .i64 z)) (range_up hdL1 hp0_0.form)) .nil)))) .nil

theorem F_slices_ContainsFunc_Point_ok {w : Bs} (p0 : (List TPoint)) (Ap0_0 : Option Addr) (cp0_0 : Nat) (hp0_0 : Sl w.R w.W fl_TPoint Ap0_0 cp0_0 p0) (p1 : TPoint → Option Bool) (fid1 : Nat) (cap1 : List Value) (hg1 : ∀ args W, (callFunc fid1 args).run Try.prog W = .ok (.enter fid1 args) W) (hf1 : ∀ (w' : Bs), w.Ext w' → ∀ (z0 : TPoint), ∀ y, p1 z0 = some y → Calls Try.prog fid1 (([(.agg #[(iv z0.X), (iv z0.Y)])] : List Value) ++ cap1).toArray w'.W fun e W'' => e = .returned (.bool y) ∧ HF w' W'' E0) (r : Bool) (H : F_slices_ContainsFunc_Point p0 p1 = some r) (hE : HF w w.W E0) : Calls Try.prog 12 [(.slice Ap0_0 (p0).length cp0_0), (.func (.func fid1) #[] cap1.toArray)].toArray w.W fun e W' => e = .returned (.bool r) ∧ HF w W' E0 := by
 unfold F_slices_ContainsFunc_Point at H
 have leB := Bs.Le.refl w
 refine Tr.enter (n := 9) Try.func12 rfl rfl rfl hE ?_
 refine Tr.sr ?_
 refine Tr.asg rfl rfl ?_
 refine Tr.nil (Tr.normThen ?_)
 refine Tr.sr ?_
 refine Tr.mv rfl rfl ?_
 refine Tr.mv rfl rfl ?_
 obtain ⟨y100, hy100, H⟩ := bnd H
 refine Tr.call0 (r := (iv y100)) (wn rfl) rfl Try.call39 (evl_cons rfl (evl_cons rfl evl_nil)) (fun W hW => F_slices_IndexFunc_Point_ok p0 Ap0_0 cp0_0 (hp0_0.ext hW.extAll) p1 fid1 cap1 hg1 (fun w' he => hf1 w' (hW.extAll.trans he)) y100 hy100 (HF.start _)) ?_
 refine Tr.va rfl (fun _ _ h1 h2 => run_geq (h1.ev rfl) (h1.ev rfl)) ?_
 refine Tr.asg rfl rfl ?_
 refine Tr.nil (Tr.normThen ?_)
 refine Tr.ret ?_
 obtain rfl := Option.some.inj H
 exact Tr.out (m := [(.bool (decide (0 ≤ y100)))]) [] (res_tmp rfl res_nil) (fun W hW => ⟨rfl, hW.low leB⟩)

theorem F_shape_IsPoint_ok {w : Bs} (p0 : TPoint) (r : Bool) (H : F_shape_IsPoint p0 = some r) (hE : HF w w.W E0) : Calls Try.prog 14 [(.agg #[(iv p0.X), (iv p0.Y)])].toArray w.W fun e W' => e = .returned (.bool r) ∧ HF w W' E0 := by
 unfold F_shape_IsPoint at H
 have leB := Bs.Le.refl w
 refine Tr.enter (n := 11) Try.func14 rfl rfl rfl hE ?_
 refine Tr.sr ?_
 refine Tr.box 1 (cs := [(iv p0.X), (iv p0.Y)]) (wn rfl) rfl rfl rfl fun b100 => ?_
 refine Tr.asg rfl rfl ?_
 refine Tr.nil (Tr.normThen ?_)
 refine Tr.sr ?_
 refine Tr.va rfl (fun _ _ h1 h2 => run_fieldAddr fo_44_0 (h1.ev rfl)) ?_
 refine Tr.va rfl (fun _ _ h1 h2 => run_load1 ag_3 (h1.ev rfl) (rdb h2 (vs := [(iv p0.X), (iv p0.Y)]) (k := 1) rfl 0) rfl) ?_
 obtain ⟨y101, hy101, H⟩ := bnd H
 refine Tr.call0 (r := (.bool y101)) (wn rfl) rfl Try.call40 (evl_cons rfl evl_nil) (fun W hW => F_shape_IsAt_ok p0.X y101 hy101 (HF.start _)) ?_
 refine Tr.mv rfl rfl ?_
 obtain ⟨g103, hg103, H⟩ := bnd H
 refine Tr.mid0 4 [(10, (.bool g103))] [(1, bx b100 #[(iv p0.X), (iv p0.Y)] 44)] ?_ ?_
 ·cases hg104 : y101
  ·rw [hg104] at hg103
   rw [if_neg (by decide)] at hg103
   have H := hg103
   obtain rfl := Option.some.inj H
   refine Tr.pass rfl rfl rfl rfl rfl (by decide) ?_
   refine Tr.pass rfl rfl rfl rfl rfl (by decide) ?_
   refine Tr.pass rfl rfl rfl rfl rfl (by decide) ?_
   refine Tr.va rfl (fun _ _ h1 h2 => run_pickF (h1.ev rfl) (h1.ev rfl)) ?_
   exact Tr.nil (Tr.fin0 (.cons rfl .nil) (.cons rfl .nil))
  ·rw [hg104] at hg103
   rw [if_pos rfl] at hg103
   have H := hg103
   refine Tr.val (wg rfl rfl rfl) rfl (fun _ _ h1 h2 => run_fieldAddr fo_44_1 (h1.ev rfl)) ?_
   refine Tr.val (wg rfl rfl rfl) rfl (fun _ _ h1 h2 => run_load1 ag_3 (h1.ev rfl) (rdb h2 (vs := [(iv p0.X), (iv p0.Y)]) (k := 1) rfl 1) rfl) ?_
   obtain ⟨y104, hy104, H⟩ := bnd H
   refine Tr.call0 (r := (.bool y104)) (wg rfl rfl rfl) rfl Try.call40 (evl_cons rfl evl_nil) (fun W hW => F_shape_IsAt_ok p0.Y y104 hy104 (HF.start _)) ?_
   refine Tr.va rfl (fun _ _ h1 h2 => run_pickT (h1.ev rfl) (h1.ev rfl)) ?_
   obtain rfl := Option.some.inj H
   exact Tr.nil (Tr.fin0 (.cons rfl .nil) (.cons rfl .nil))
 ·show Tr _ _ (LF [(10, (.bool g103))]) (LE [(1, bx b100 #[(iv p0.X), (iv p0.Y)] 44)]) _
  refine Tr.asg rfl rfl ?_
  refine Tr.nil (Tr.normThen ?_)
  refine Tr.ret ?_
  obtain rfl := Option.some.inj H
  exact Tr.out (m := [(.bool g103)]) [] (res_tmp rfl res_nil) (fun W hW => ⟨rfl, hW.low leB⟩)

theorem F_shape_Filled_1_ok {w : Bs} (p0 : TPoint) (r : Bool) (H : F_shape_Filled_1 p0 = some r) (hE : HF w w.W E0) : Calls Try.prog 13 [(.agg #[(iv p0.X), (iv p0.Y)])].toArray w.W fun e W' => e = .returned (.bool r) ∧ HF w W' E0 := by
 unfold F_shape_Filled_1 at H
 have leB := Bs.Le.refl w
 refine Tr.enter (n := 6) Try.func13 rfl rfl rfl hE ?_
 refine Tr.sr ?_
 refine Tr.box 1 (cs := [(iv p0.X), (iv p0.Y)]) (wn rfl) rfl rfl rfl fun b100 => ?_
 refine Tr.asg rfl rfl ?_
 refine Tr.nil (Tr.normThen ?_)
 refine Tr.sr ?_
 refine Tr.va rfl (fun _ _ h1 h2 => run_loadN (cs := [(iv p0.X), (iv p0.Y)]) ag_44 sz_44 (h1.ev rfl) (CellsAt.take (rdb h2 (vs := [(iv p0.X), (iv p0.Y)]) (k := 1) rfl 0) 2) rfl) ?_
 obtain ⟨y101, hy101, H⟩ := bnd H
 refine Tr.call0 (r := (.bool y101)) (wn rfl) rfl Try.call14 (evl_cons rfl evl_nil) (fun W hW => F_shape_IsPoint_ok p0 y101 hy101 (HF.start _)) ?_
 refine Tr.va rfl (fun _ _ h1 h2 => run_not (h1.ev rfl)) ?_
 refine Tr.asg rfl rfl ?_
 refine Tr.nil (Tr.normThen ?_)
 refine Tr.ret ?_
 obtain rfl := Option.some.inj H
 exact Tr.out (m := [(.bool (!y101))]) [] (res_tmp rfl res_nil) (fun W hW => ⟨rfl, hW.low leB⟩)

theorem F_shape_IsRow_ok {w : Bs} (p0 : (List TPoint)) (Ap0_0 : Option Addr) (cp0_0 : Nat) (hp0_0 : Sl w.R w.W fl_TPoint Ap0_0 cp0_0 p0) (r : Bool) (H : F_shape_IsRow p0 = some r) (hE : HF w w.W E0) : Calls Try.prog 15 [(.slice Ap0_0 (p0).length cp0_0)].toArray w.W fun e W' => e = .returned (.bool r) ∧ HF w W' E0 := by
 unfold F_shape_IsRow at H
 have leB := Bs.Le.refl w
 refine Tr.enter (n := 36) Try.func15 rfl rfl rfl hE ?_
 refine Tr.sr ?_
 refine Tr.asg rfl rfl ?_
 refine Tr.nil (Tr.normThen ?_)
 refine Tr.seq ?_
 refine Tr.sr ?_
 refine Tr.mv rfl rfl ?_
 refine Tr.va rfl (fun _ _ h1 h2 => run_len un_39 (h1.ev rfl)) ?_
 refine Tr.va rfl (fun _ _ h1 h2 => run_lss (h1.ev rfl) (h1.ev rfl)) ?_
 refine Tr.nil (Tr.normThen ?_)
 refine Tr.cond rfl H (fun H => ?_) (fun H => ?_)
 ·refine Tr.sr ?_
  refine Tr.asg rfl rfl ?_
  refine Tr.nil (Tr.normThen ?_)
  refine Tr.ret (Tr.retThen ?_)
  obtain rfl := Option.some.inj H
  exact Tr.out (m := [(.bool false)]) [] (res_tmp rfl res_nil) (fun W hW => ⟨rfl, hW.low leB⟩)
 ·refine Tr.skip (Tr.normThen ?_)
  refine Tr.seq ?_
  refine Tr.sr ?_
  refine Tr.mv rfl rfl ?_
  refine Tr.va rfl (fun _ _ h1 h2 => run_len un_39 (h1.ev rfl)) ?_
  refine Tr.mv rfl rfl ?_
  refine Tr.nil (Tr.normThen ?_)
  refine Tr.block ?_
  refine Tr.loop (σ := (List TPoint) × Nat) (fun m w s => m = s.1.length + 1 ∧ s.1 = List.drop s.2 p0 ∧ s.2 ≤ p0.length ∧ F_shape_IsRow_L1 p0 s.1 s.2 = some r) (fun s => [(0, (.slice Ap0_0 (p0).length cp0_0)), (9, (.slice Ap0_0 (p0).length cp0_0)), (10, (iv (p0.length : Int))), (11, (iv (s.2 : Int)))]) (fun s => []) (p0.length + 1) (p0, 0) ⟨rfl, rfl, Nat.zero_le _, H⟩ (.cons rfl (.cons rfl (.cons rfl (.cons rfl .nil)))) .nil (fun _ _ h => absurd h.1 (by simp)) ?_
  intro w leL1 m s hs
  obtain ⟨restL1, iL1⟩ := s
  obtain ⟨hmL1, hdL1, hiL1, H⟩ := hs
  replace hdL1 : restL1 = List.drop iL1 p0 := hdL1
  replace H : F_shape_IsRow_L1 p0 restL1 iL1 = some r := H
  replace hmL1 : m + 1 = restL1.length + 1 := hmL1
  replace hp0_0 := hp0_0.leR leL1
  replace leB := leB.trans leL1
  obtain rfl : m = restL1.length := by omega
  clear hmL1
  show Tr _ _ (LF [(0, (.slice Ap0_0 (p0).length cp0_0)), (9, (.slice Ap0_0 (p0).length cp0_0)), (10, (iv (p0.length : Int))), (11, (iv (iL1 : Int)))]) (LE []) _
  cases restL1 with
  | nil =>
   rw [F_shape_IsRow_L1.eq_1] at H
   refine Tr.sr ?_
   refine Tr.va rfl (fun _ _ h1 h2 => run_lss (h1.ev rfl) (h1.ev rfl)) ?_
   refine Tr.nil (Tr.normThen ?_)
   refine Tr.seq ?_
   refine Tr.condF rfl (range_nil hdL1) ?_
   refine Tr.exit (Tr.exitThen (Tr.exitThen (Tr.exitBlock (Tr.normThen ?_))))
   refine Tr.sr ?_
   refine Tr.asg rfl rfl ?_
   refine Tr.nil (Tr.normThen ?_)
   refine Tr.ret ?_
   obtain rfl := Option.some.inj H
   exact Tr.out (m := [(.bool true)]) [] (res_tmp rfl res_nil) (fun W hW => ⟨rfl, hW.low leB⟩)
  | cons xL1 restL1 =>
   rw [F_shape_IsRow_L1.eq_2] at H
   refine Tr.sr ?_
   refine Tr.va rfl (fun _ _ h1 h2 => run_lss (h1.ev rfl) (h1.ev rfl)) ?_
   refine Tr.nil (Tr.normThen ?_)
   refine Tr.seq ?_
   refine Tr.condT rfl (range_on hdL1) ?_
   refine Tr.skip (Tr.normThen ?_)
   refine Tr.seq ?_
   refine Tr.block ?_
   refine Tr.sr ?_
   refine Tr.mv rfl rfl ?_
   refine Tr.va rfl (fun _ _ h1 h2 => run_indexAddr el_39 (h1.ev rfl) hp0_0.form (h1.ev rfl) (Int.natCast_nonneg _) (range_lt hdL1)) ?_
   refine Tr.va rfl (fun _ _ h1 h2 => run_loadN (cs := [(iv xL1.X), (iv xL1.Y)]) ag_44 sz_44 (h1.ev rfl) (CellsAt.take (rdF ef_TPoint hp0_0 (range_at hdL1) h2) 2) rfl) ?_
   refine Tr.alloc 3 (wn rfl) rfl ze_44 fun b106 => ?_
   refine Tr.asg rfl rfl ?_
   refine Tr.store 3 (cs := [(iv xL1.X), (iv xL1.Y)]) [(iv xL1.X), (iv xL1.Y)] (wn rfl) rfl rfl rfl rfl sz_44 rfl rfl rfl ?_
   refine Tr.nil (Tr.normThen ?_)
   refine Tr.sr ?_
   refine Tr.mv rfl rfl ?_
   refine Tr.mv rfl rfl ?_
   refine Tr.va rfl (fun _ _ h1 h2 => run_add (h1.ev rfl) (h1.ev rfl)) ?_
   refine Tr.mv rfl rfl ?_
   refine Tr.va rfl (fun _ _ h1 h2 => run_len un_39 (h1.ev rfl)) ?_
   obtain ⟨q107, hq107, H⟩ := bnd H
   refine Tr.va rfl (fun _ _ h1 h2 => run_md (h1.ev rfl) (h1.ev rfl) hq107) ?_
   obtain ⟨x108, hx108, H⟩ := bnd H
   obtain ⟨hx1080, hx1081, hx1082⟩ := idx_some hx108
   refine Tr.va rfl (fun _ _ h1 h2 => run_indexAddr el_39 (h1.ev rfl) hp0_0.form (h1.ev rfl) hx1080 hx1081) ?_
   refine Tr.va rfl (fun _ _ h1 h2 => run_loadN (cs := [(iv x108.X), (iv x108.Y)]) ag_44 sz_44 (h1.ev rfl) (CellsAt.take (rdF ef_TPoint hp0_0 hx1082 h2) 2) rfl) ?_
   refine Tr.alloc 4 (wn rfl) rfl ze_44 fun b109 => ?_
   refine Tr.store 4 (cs := [(iv x108.X), (iv x108.Y)]) [(iv x108.X), (iv x108.Y)] (wn rfl) rfl rfl rfl rfl sz_44 rfl rfl rfl ?_
   refine Tr.nil (Tr.normThen ?_)
   refine Tr.sr ?_
   refine Tr.va rfl (fun _ _ h1 h2 => run_fieldAddr fo_44_0 (h1.ev rfl)) ?_
   refine Tr.va rfl (fun _ _ h1 h2 => run_load1 ag_3 (h1.ev rfl) (rdb h2 (vs := [(iv xL1.X), (iv xL1.Y)]) (k := 3) rfl 0) rfl) ?_
   refine Tr.va rfl (fun _ _ h1 h2 => run_fieldAddr fo_44_0 (h1.ev rfl)) ?_
   refine Tr.va rfl (fun _ _ h1 h2 => run_load1 ag_3 (h1.ev rfl) (rdb h2 (vs := [(iv x108.X), (iv x108.Y)]) (k := 4) rfl 0) rfl) ?_
   refine Tr.va rfl (fun _ _ h1 h2 => run_eql (h1.ev rfl) (h1.ev rfl)) ?_
   refine Tr.va rfl (fun _ _ h1 h2 => run_fieldAddr fo_44_1 (h1.ev rfl)) ?_
   refine Tr.va rfl (fun _ _ h1 h2 => run_load1 ag_3 (h1.ev rfl) (rdb h2 (vs := [(iv xL1.X), (iv xL1.Y)]) (k := 3) rfl 1) rfl) ?_
   refine Tr.va rfl (fun _ _ h1 h2 => run_fieldAddr fo_44_1 (h1.ev rfl)) ?_
   refine Tr.va rfl (fun _ _ h1 h2 => run_load1 ag_3 (h1.ev rfl) (rdb h2 (vs := [(iv x108.X), (iv x108.Y)]) (k := 4) rfl 1) rfl) ?_
   refine Tr.va rfl (fun _ _ h1 h2 => run_eql (h1.ev rfl) (h1.ev rfl)) ?_
   refine Tr.va rfl (fun _ _ h1 h2 => run_eqlB un_4 (h1.ev rfl) (h1.ev rfl)) ?_
   refine Tr.nil (Tr.normThen ?_)
   refine Tr.cond rfl H (fun H => ?_) (fun H => ?_)
   ·refine Tr.sr ?_
    refine Tr.asg rfl rfl ?_
    refine Tr.nil (Tr.normThen ?_)
    refine Tr.ret (Tr.retBlock (Tr.retThen (Tr.retThen (Tr.retBlock (Tr.retThen ?_)))))
    obtain rfl := Option.some.inj H
    exact Tr.out (m := [(.bool false)]) [] (res_tmp rfl res_nil) (fun W hW => ⟨rfl, hW.low leB⟩)
   ·refine Tr.skip (Tr.normBlock (Tr.normThen ?_))
    refine Tr.region ?_
    refine Tr.va rfl (fun _ _ h1 h2 => run_add (h1.ev rfl) (h1.ev rfl)) ?_
    refine Tr.mv rfl rfl ?_
    refine Tr.nil ?_
    exact Tr.backThen leL1 (restL1, (iL1 + 1)) ⟨rfl, range_tl hdL1, range_lt hdL1, H⟩ (.cons rfl (.cons rfl (.cons rfl (.cons (congrArg (fun z => some (Value.int .i64 z)) (range_up hdL1 hp0_0.form)) .nil)))) .nil

theorem F_shape_Around_1_ok {w : Bs} (p0 : TRect) (p1 : TRect) (r : Int) (H : F_shape_Around_1 p0 p1 = some r) (hE : HF w w.W E0) : Calls Try.prog 41 [(.agg #[(iv p0.X0), (iv p0.Y0), (iv p0.X1), (iv p0.Y1)]), (.agg #[(iv p1.X0), (iv p1.Y0), (iv p1.X1), (iv p1.Y1)])].toArray w.W fun e W' => e = .returned (iv r) ∧ HF w W' E0 := by
 unfold F_shape_Around_1 at H
 have leB := Bs.Le.refl w
 refine Tr.enter (n := 10) Try.func41 rfl rfl rfl hE ?_
 refine Tr.sr ?_
 refine Tr.box 1 (cs := [(iv p0.X0), (iv p0.Y0), (iv p0.X1), (iv p0.Y1)]) (wn rfl) rfl rfl rfl fun b100 => ?_
 refine Tr.box 2 (cs := [(iv p1.X0), (iv p1.Y0), (iv p1.X1), (iv p1.Y1)]) (wn rfl) rfl rfl rfl fun b101 => ?_
 refine Tr.asg rfl rfl ?_
 refine Tr.nil (Tr.normThen ?_)
 refine Tr.sr ?_
 refine Tr.va rfl (fun _ _ h1 h2 => run_fieldAddr fo_32_0 (h1.ev rfl)) ?_
 refine Tr.va rfl (fun _ _ h1 h2 => run_load1 ag_3 (h1.ev rfl) (rdb h2 (vs := [(iv p0.X0), (iv p0.Y0), (iv p0.X1), (iv p0.Y1)]) (k := 1) rfl 0) rfl) ?_
 refine Tr.va rfl (fun _ _ h1 h2 => run_fieldAddr fo_32_0 (h1.ev rfl)) ?_
 refine Tr.va rfl (fun _ _ h1 h2 => run_load1 ag_3 (h1.ev rfl) (rdb h2 (vs := [(iv p1.X0), (iv p1.Y0), (iv p1.X1), (iv p1.Y1)]) (k := 2) rfl 0) rfl) ?_
 refine Tr.va rfl (fun _ _ h1 h2 => run_sub (h1.ev rfl) (h1.ev rfl)) ?_
 refine Tr.asg rfl rfl ?_
 refine Tr.nil (Tr.normThen ?_)
 refine Tr.ret ?_
 obtain rfl := Option.some.inj H
 exact Tr.out (m := [(iv (w64 (p0.X0 - p1.X0)))]) [] (res_tmp rfl res_nil) (fun W hW => ⟨rfl, hW.low leB⟩)

theorem F_shape_Around_ok (N : Nat) {w : Bs} (p0 : (List (List TPoint))) (Ap0_0 : Option Addr) (cp0_0 : Nat) (hp0_0 : Sl w.R w.W fl_LTPoint Ap0_0 cp0_0 p0) (r : (List TBand)) (H : F_shape_Around N p0 = some r) (hE : HF w w.W (LEn [emp])) : Calls Try.prog 16 [(.slice Ap0_0 (p0).length cp0_0)].toArray w.W fun e W' => ∃ (w' : Bs) (u : (Option Addr × Nat)), w.Le w' ∧ e = .returned (.slice u.1 (r).length u.2) ∧ (SlF u.1 (r).length u.2) ∧ HF w' W' (LEn [ow u.1 u.2 61 fl_TBand r]) := by
 unfold F_shape_Around at H
 have leB := Bs.Le.refl w
 refine Tr.enter (n := 138) Try.func16 rfl rfl rfl hE ?_
 refine Tr.sr ?_
 refine Tr.asg rfl rfl ?_
 refine Tr.nilOwn 1 61 fl_TBand ?_
 show Tr _ _ (uf _ 2 (.slice none (([] : List TBand)).length 0)) _ _
 refine Tr.nil (Tr.normThen ?_)
 refine Tr.sr ?_
 refine Tr.asg rfl rfl ?_
 refine Tr.nilOwn 2 3 fl_i64 ?_
 show Tr _ _ (uf _ 3 (.slice none (([] : List Int)).length 0)) _ _
 refine Tr.nil (Tr.normThen ?_)
 refine Tr.sr ?_
 refine Tr.asg rfl rfl ?_
 refine Tr.nilOwn 3 32 fl_TRect ?_
 show Tr _ _ (uf _ 4 (.slice none (([] : List TRect)).length 0)) _ _
 refine Tr.nil (Tr.normThen ?_)
 refine Tr.seq ?_
 refine Tr.sr ?_
 refine Tr.mv rfl rfl ?_
 refine Tr.va rfl (fun _ _ h1 h2 => run_len un_23 (h1.ev rfl)) ?_
 refine Tr.mv rfl rfl ?_
 refine Tr.nil (Tr.normThen ?_)
 refine Tr.block ?_
 refine Tr.loop (σ := (List (List TPoint)) × Nat × (List Int) × (List TRect) × (Option Addr) × Nat × (Option Addr) × Nat) (fun m w s => m = s.1.length + 1 ∧ s.1 = List.drop s.2.1 p0 ∧ s.2.1 ≤ p0.length ∧ F_shape_Around_L3 N s.1 s.2.1 s.2.2.1 s.2.2.2.1 = some r ∧ SlF s.2.2.2.2.1 (s.2.2.1).length s.2.2.2.2.2.1 ∧ SlF s.2.2.2.2.2.2.1 (s.2.2.2.1).length s.2.2.2.2.2.2.2) (fun s => [(3, (.slice s.2.2.2.2.1 (s.2.2.1).length s.2.2.2.2.2.1)), (4, (.slice s.2.2.2.2.2.2.1 (s.2.2.2.1).length s.2.2.2.2.2.2.2)), (16, (.slice Ap0_0 (p0).length cp0_0)), (17, (iv (p0.length : Int))), (18, (iv (s.2.1 : Int)))]) (fun s => [(2, ow s.2.2.2.2.1 s.2.2.2.2.2.1 3 fl_i64 s.2.2.1), (3, ow s.2.2.2.2.2.2.1 s.2.2.2.2.2.2.2 32 fl_TRect s.2.2.2.1)]) (p0.length + 1) (p0, 0, ([] : List Int), ([] : List TRect), none, 0, none, 0) ⟨rfl, rfl, Nat.zero_le _, H, slf_nil, slf_nil⟩ (.cons rfl (.cons rfl (.cons rfl (.cons rfl (.cons rfl .nil))))) (.cons rfl (.cons rfl .nil)) (fun _ _ h => absurd h.1 (by simp)) ?_
 intro w leL3 m s hs
 obtain ⟨restL3, iL3, l187, l188, Al187, cl187, Al188, cl188⟩ := s
 obtain ⟨hmL3, hdL3, hiL3, H, hl187, hl188⟩ := hs
 replace hdL3 : restL3 = List.drop iL3 p0 := hdL3
 replace H : F_shape_Around_L3 N restL3 iL3 l187 l188 = some r := H
 replace hmL3 : m + 1 = restL3.length + 1 := hmL3
 replace hp0_0 := hp0_0.leR leL3
 replace leB := leB.trans leL3
 replace hl187 : SlF Al187 (l187).length cl187 := hl187
 replace hl188 : SlF Al188 (l188).length cl188 := hl188
 obtain rfl : m = restL3.length := by omega
 clear hmL3
 show Tr _ _ (LF [(3, (.slice Al187 (l187).length cl187)), (4, (.slice Al188 (l188).length cl188)), (16, (.slice Ap0_0 (p0).length cp0_0)), (17, (iv (p0.length : Int))), (18, (iv (iL3 : Int)))]) (LE [(2, ow Al187 cl187 3 fl_i64 l187), (3, ow Al188 cl188 32 fl_TRect l188)]) _
 cases restL3 with
 | nil =>
  rw [F_shape_Around_L3.eq_1] at H
  refine Tr.sr ?_
  refine Tr.va rfl (fun _ _ h1 h2 => run_lss (h1.ev rfl) (h1.ev rfl)) ?_
  refine Tr.nil (Tr.normThen ?_)
  refine Tr.seq ?_
  refine Tr.condF rfl (range_nil hdL3) ?_
  refine Tr.exit (Tr.exitThen (Tr.exitThen (Tr.exitBlock (Tr.normThen ?_))))
  refine Tr.sr ?_
  refine Tr.mv rfl rfl ?_
  obtain ⟨y189, hy189, H⟩ := bnd H
  refine Tr.callM [2] [ow Al187 cl187 3 fl_i64 l187] (U := Unit) (fun u => (.tuple #[])) (fun u => (y189).length = (l187).length) (fun u => [ow Al187 cl187 3 fl_i64 y189]) rfl (pk_cons rfl pk_nil) (fun _ => rfl) (wn rfl) rfl Try.call23 (evl_cons rfl evl_nil) (fun W hW hp hE => F_slices_Sort_int_ok l187 Al187 cl187 y189 hy189 hE) ?_
  intro u hu
  have gky189_0 := hu
  have hgky189_0 : (y189).length = (l187).length := gky189_0 --@phi
  have hfky189_0 : SlF Al187 (y189).length cl187 := by rw [hgky189_0]; exact hl187
  show Tr _ _ (uf _ 66 (.tuple #[])) (up _ 2 (ow Al187 cl187 3 fl_i64 y189)) _
  refine Tr.sel (lf := [(3, (.slice Al187 (y189).length cl187)), (4, (.slice Al188 (l188).length cl188)), (16, (.slice Ap0_0 (p0).length cp0_0)), (17, (iv (p0.length : Int))), (18, (iv (iL3 : Int))), (19, (.bool (decide ((iL3 : Int) < (p0.length : Int))))), (65, (.slice Al187 (y189).length cl187)), (66, (.tuple #[]))]) (le := [(2, ow Al187 cl187 3 fl_i64 y189), (3, ow Al188 cl188 32 fl_TRect l188)]) (.cons (slenV rfl (by rw [hgky189_0])) (.cons rfl (.cons rfl (.cons rfl (.cons rfl (.cons rfl (.cons (slenV rfl (by rw [hgky189_0])) (.cons rfl .nil)))))))) (.cons rfl (.cons rfl .nil)) ?_
  refine Tr.nil (Tr.normThen ?_)
  refine Tr.sr ?_
  refine Tr.mv rfl rfl ?_
  obtain ⟨y191, hy191, H⟩ := bnd H
  refine Tr.callM [2] [ow Al187 cl187 3 fl_i64 y189] (U := (Option Addr × Nat)) (fun u => (.slice u.1 (y191).length u.2)) (fun u => SlF u.1 (y191).length u.2) (fun u => [ow u.1 u.2 3 fl_i64 y191]) rfl (pk_cons rfl pk_nil) (fun _ => rfl) (wn rfl) rfl Try.call24 (evl_cons rfl evl_nil) (fun W hW hp hE => F_slices_Compact_int_ok y189 Al187 cl187 y191 hy191 hE) ?_
  intro u hu
  obtain ⟨Ay191_0, cy191_0⟩ := u
  have gy191_0 := hu
  have hgy191_0 : SlF Ay191_0 (y191).length cy191_0 := gy191_0 --@phi
  show Tr _ _ (uf _ 68 (.slice Ay191_0 (y191).length cy191_0)) (up _ 2 (ow Ay191_0 cy191_0 3 fl_i64 y191)) _
  refine Tr.asg rfl rfl ?_
  refine Tr.nil (Tr.normThen ?_)
  refine Tr.sr ?_
  refine Tr.mv rfl rfl ?_
  obtain ⟨y193, hy193, H⟩ := bnd H
  refine Tr.callM [3] [ow Al188 cl188 32 fl_TRect l188] (U := Unit) (fun u => (.tuple #[])) (fun u => (y193).length = (l188).length) (fun u => [ow Al188 cl188 32 fl_TRect y193]) rfl (pk_cons rfl pk_nil) (fun _ => rfl) (wn rfl) rfl Try.call21 (evl_cons rfl (evl_cons rfl evl_nil)) (fun W hW hp hE => F_slices_SortFunc_TRect_ok l188 Al188 cl188 (fun z0 z1 => F_shape_Around_1 z0 z1) 41 [] Try.call41 (fun w' he z0 z1 y hy => F_shape_Around_1_ok z0 z1 y hy (HF.start _)) y193 hy193 hE) ?_
  intro u hu
  have gky193_0 := hu
  have hgky193_0 : (y193).length = (l188).length := gky193_0 --@phi
  have hfky193_0 : SlF Al188 (y193).length cl188 := by rw [hgky193_0]; exact hl188
  show Tr _ _ (uf _ 70 (.tuple #[])) (up _ 3 (ow Al188 cl188 32 fl_TRect y193)) _
  refine Tr.sel (lf := [(3, (.slice Ay191_0 (y191).length cy191_0)), (4, (.slice Al188 (y193).length cl188)), (16, (.slice Ap0_0 (p0).length cp0_0)), (17, (iv (p0.length : Int))), (18, (iv (iL3 : Int))), (19, (.bool (decide ((iL3 : Int) < (p0.length : Int))))), (66, (.tuple #[])), (68, (.slice Ay191_0 (y191).length cy191_0)), (69, (.slice Al188 (y193).length cl188)), (70, (.tuple #[]))]) (le := [(2, ow Ay191_0 cy191_0 3 fl_i64 y191), (3, ow Al188 cl188 32 fl_TRect y193)]) (.cons rfl (.cons (slenV rfl (by rw [hgky193_0])) (.cons rfl (.cons rfl (.cons rfl (.cons rfl (.cons rfl (.cons rfl (.cons (slenV rfl (by rw [hgky193_0])) (.cons rfl .nil)))))))))) (.cons rfl (.cons rfl .nil)) ?_
  refine Tr.nil (Tr.normThen ?_)
  refine Tr.sr ?_
  refine Tr.asg rfl rfl ?_
  refine Tr.nilOwn 28 61 fl_TBand ?_
  show Tr _ _ (uf _ 10 (.slice none (([] : List TBand)).length 0)) _ _
  refine Tr.nil (Tr.normThen ?_)
  refine Tr.seq ?_
  refine Tr.sr ?_
  refine Tr.asg rfl rfl ?_
  refine Tr.nil (Tr.normThen ?_)
  refine Tr.block ?_
  refine Tr.loop (σ := (List TBand) × Int × (Option Addr) × Nat) (fun m w s => F_shape_Around_L6 y191 y193 m s.1 s.2.1 = some r ∧ SlF s.2.2.1 (s.1).length s.2.2.2) (fun s => [(3, (.slice Ay191_0 (y191).length cy191_0)), (4, (.slice Al188 (y193).length cl188)), (10, (.slice s.2.2.1 (s.1).length s.2.2.2)), (11, (iv s.2.1))]) (fun s => [(2, ow Ay191_0 cy191_0 3 fl_i64 y191), (3, ow Al188 cl188 32 fl_TRect y193), (28, ow s.2.2.1 s.2.2.2 61 fl_TBand s.1)]) N (([] : List TBand), 0, none, 0) ⟨H, slf_nil⟩ (.cons rfl (.cons rfl (.cons rfl (.cons rfl .nil)))) (.cons rfl (.cons rfl (.cons rfl .nil))) (fun _ _ h => noSome (h.1)) ?_
  intro w leL6 mL6 s hs
  obtain ⟨l297, x298, Al297, cl297⟩ := s
  obtain ⟨H, hl297⟩ := hs
  replace H : F_shape_Around_L6 y191 y193 (mL6 + 1) l297 x298 = some r := H
  replace leB := leB.trans leL6
  replace leL3 := leL3.trans leL6
  replace hl297 : SlF Al297 (l297).length cl297 := hl297
  rw [F_shape_Around_L6.eq_2] at H
  show Tr _ _ (LF [(3, (.slice Ay191_0 (y191).length cy191_0)), (4, (.slice Al188 (y193).length cl188)), (10, (.slice Al297 (l297).length cl297)), (11, (iv x298))]) (LE [(2, ow Ay191_0 cy191_0 3 fl_i64 y191), (3, ow Al188 cl188 32 fl_TRect y193), (28, ow Al297 cl297 61 fl_TBand l297)]) _
  refine Tr.seq ?_
  refine Tr.sr ?_
  refine Tr.mv rfl rfl ?_
  refine Tr.va rfl (fun _ _ h1 h2 => run_add (h1.ev rfl) (h1.ev rfl)) ?_
  refine Tr.mv rfl rfl ?_
  refine Tr.va rfl (fun _ _ h1 h2 => run_len un_53 (h1.ev rfl)) ?_
  refine Tr.va rfl (fun _ _ h1 h2 => run_lss (h1.ev rfl) (h1.ev rfl)) ?_
  refine Tr.nil (Tr.normThen ?_)
  refine Tr.cond rfl H (fun H => ?_) (fun H => ?_)
  ·refine Tr.skip (Tr.normThen ?_)
   refine Tr.seq ?_
   refine Tr.block ?_
   refine Tr.sr ?_
   refine Tr.asg rfl rfl ?_
   refine Tr.nilOwn 43 3 fl_i64 ?_
   show Tr _ _ (uf _ 12 (.slice none (([] : List Int)).length 0)) _ _
   refine Tr.nil (Tr.normThen ?_)
   refine Tr.seq ?_
   refine Tr.sr ?_
   refine Tr.mv rfl rfl ?_
   refine Tr.va rfl (fun _ _ h1 h2 => run_len un_22 (h1.ev rfl)) ?_
   refine Tr.mv rfl rfl ?_
   refine Tr.nil (Tr.normThen ?_)
   refine Tr.block ?_
   refine Tr.loop (σ := (List TRect) × Nat × (List Int) × (Option Addr) × Nat) (fun m w s => m = s.1.length + 1 ∧ s.1 = List.drop s.2.1 y193 ∧ s.2.1 ≤ y193.length ∧ F_shape_Around_L7 y191 l297 x298 (F_shape_Around_L6 y191 y193 mL6) s.1 s.2.1 s.2.2.1 = some r ∧ SlF s.2.2.2.1 (s.2.2.1).length s.2.2.2.2) (fun s => [(3, (.slice Ay191_0 (y191).length cy191_0)), (4, (.slice Al188 (y193).length cl188)), (10, (.slice Al297 (l297).length cl297)), (11, (iv x298)), (12, (.slice s.2.2.2.1 (s.2.2.1).length s.2.2.2.2)), (78, (.slice Al188 (y193).length cl188)), (79, (iv (y193.length : Int))), (80, (iv (s.2.1 : Int)))]) (fun s => [(2, ow Ay191_0 cy191_0 3 fl_i64 y191), (3, ow Al188 cl188 32 fl_TRect y193), (28, ow Al297 cl297 61 fl_TBand l297), (43, ow s.2.2.2.1 s.2.2.2.2 3 fl_i64 s.2.2.1)]) (y193.length + 1) (y193, 0, ([] : List Int), none, 0) ⟨rfl, rfl, Nat.zero_le _, H, slf_nil⟩ (.cons rfl (.cons rfl (.cons rfl (.cons rfl (.cons rfl (.cons rfl (.cons rfl (.cons rfl .nil)))))))) (.cons rfl (.cons rfl (.cons rfl (.cons rfl .nil)))) (fun _ _ h => absurd h.1 (by simp)) ?_
   intro w leL7 m s hs
   obtain ⟨restL7, iL7, l329, Al329, cl329⟩ := s
   obtain ⟨hmL7, hdL7, hiL7, H, hl329⟩ := hs
   replace hdL7 : restL7 = List.drop iL7 y193 := hdL7
   replace H : F_shape_Around_L7 y191 l297 x298 (F_shape_Around_L6 y191 y193 mL6) restL7 iL7 l329 = some r := H
   replace hmL7 : m + 1 = restL7.length + 1 := hmL7
   replace leB := leB.trans leL7
   replace leL3 := leL3.trans leL7
   replace leL6 := leL6.trans leL7
   replace hl329 : SlF Al329 (l329).length cl329 := hl329
   obtain rfl : m = restL7.length := by omega
   clear hmL7
   show Tr _ _ (LF [(3, (.slice Ay191_0 (y191).length cy191_0)), (4, (.slice Al188 (y193).length cl188)), (10, (.slice Al297 (l297).length cl297)), (11, (iv x298)), (12, (.slice Al329 (l329).length cl329)), (78, (.slice Al188 (y193).length cl188)), (79, (iv (y193.length : Int))), (80, (iv (iL7 : Int)))]) (LE [(2, ow Ay191_0 cy191_0 3 fl_i64 y191), (3, ow Al188 cl188 32 fl_TRect y193), (28, ow Al297 cl297 61 fl_TBand l297), (43, ow Al329 cl329 3 fl_i64 l329)]) _
   cases restL7 with
   | nil =>
    rw [F_shape_Around_L7.eq_1] at H
    refine Tr.sr ?_
    refine Tr.va rfl (fun _ _ h1 h2 => run_lss (h1.ev rfl) (h1.ev rfl)) ?_
    refine Tr.nil (Tr.normThen ?_)
    refine Tr.seq ?_
    refine Tr.condF rfl (range_nil hdL7) ?_
    refine Tr.exit (Tr.exitThen (Tr.exitThen (Tr.exitBlock (Tr.normThen ?_))))
    refine Tr.drawTail 12 (by kernel_rfl) (by kernel_rfl) ?_
    refine Tq.mv rfl rfl ?_
    refine Tq.mv rfl rfl ?_
    refine Tq.mv rfl rfl ?_
    obtain ⟨x330, hx330, H⟩ := bnd H
    obtain ⟨hx3300, hx3301, hx3302⟩ := idx_some hx330
    refine Tq.va rfl (fun _ _ h1 h2 => run_indexAddr el_53 (h1.ev rfl) hgy191_0 (h1.ev rfl) hx3300 hx3301) ?_
    refine Tq.va rfl (fun _ _ h1 h2 => run_load1 ag_3 (h1.ev rfl) (rdo ef_i64 (k := 2) h2 rfl hx3302) rfl) ?_
    refine Tq.mv rfl rfl ?_
    refine Tq.mv rfl rfl ?_
    refine Tq.va rfl (fun _ _ h1 h2 => run_add (h1.ev rfl) (h1.ev rfl)) ?_
    obtain ⟨x331, hx331, H⟩ := bnd H
    obtain ⟨hx3310, hx3311, hx3312⟩ := idx_some hx331
    refine Tq.va rfl (fun _ _ h1 h2 => run_indexAddr el_53 (h1.ev rfl) hgy191_0 (h1.ev rfl) hx3310 hx3311) ?_
    refine Tq.va rfl (fun _ _ h1 h2 => run_load1 ag_3 (h1.ev rfl) (rdo ef_i64 (k := 2) h2 rfl hx3312) rfl) ?_
    refine Tq.mv rfl rfl ?_
    refine Tq.build (vs := [(0, (iv x330)), (1, (iv x331)), (2, (.slice Al329 (l329).length cl329))]) (cs := [(iv x330), (iv x331), (.slice Al329 (l329).length cl329)]) (wn rfl) rfl (evs_cons rfl (evs_cons rfl (evs_cons rfl evs_nil))) (by kernel_rfl) ?_
    refine Tq.nil ?_
    refine Tr.freeze 43 rfl fun w le333 hz332 => ?_
    replace leB := leB.trans le333
    replace leL3 := leL3.trans le333
    replace leL6 := leL6.trans le333
    replace leL7 := leL7.trans le333
    obtain ⟨y334, hy334, H⟩ := bnd H
    refine Tr.callG [28] [ow Al297 cl297 61 fl_TBand l297] (U := (Option Addr × Nat)) (fun u => (.slice u.1 (y334).length u.2)) (fun O W u => SlF u.1 (y334).length u.2) (fun u => [ow u.1 u.2 61 fl_TBand y334]) rfl (pk_cons rfl pk_nil) (fun _ => rfl) (wn rfl) rfl Try.call27 (evl_cons rfl (evl_cons rfl evl_nil)) (fun W hW hp hE => F_shape_Set__push_ok l297 Al297 cl297 (TBand.mk x330 x331 l329) Al329 cl329 (hz332.extO (hW.extS hp)) y334 hy334 hE) ?_
    intro w u le335 hu
    obtain ⟨Ay334_0, cy334_0⟩ := u
    have gy334_0 := hu
    replace hz332 := hz332.le le335
    replace leB := leB.trans le335
    replace leL3 := leL3.trans le335
    replace leL6 := leL6.trans le335
    replace leL7 := leL7.trans le335
    have hgy334_0 : SlF Ay334_0 (y334).length cy334_0 := gy334_0 --@phi
    show Tr _ _ (uf _ 136 (.slice Ay334_0 (y334).length cy334_0)) (up _ 28 (ow Ay334_0 cy334_0 61 fl_TBand y334)) _
    refine Tr.asg rfl rfl ?_
    refine Tr.nil (Tr.normBlock (Tr.normThen ?_))
    refine Tr.region ?_
    refine Tr.mv rfl rfl ?_
    refine Tr.va rfl (fun _ _ h1 h2 => run_add (h1.ev rfl) (h1.ev rfl)) ?_
    refine Tr.asg rfl rfl ?_
    refine Tr.nil ?_
    exact Tr.backThen leL6 (y334, (w64 (x298 + 1)), Ay334_0, cy334_0) ⟨H, hgy334_0⟩ (.cons rfl (.cons rfl (.cons rfl (.cons rfl .nil)))) (.cons rfl (.cons rfl (.cons rfl .nil)))
   | cons xL7 restL7 =>
    rw [F_shape_Around_L7.eq_2] at H
    refine Tr.sr ?_
    refine Tr.va rfl (fun _ _ h1 h2 => run_lss (h1.ev rfl) (h1.ev rfl)) ?_
    refine Tr.nil (Tr.normThen ?_)
    refine Tr.seq ?_
    refine Tr.condT rfl (range_on hdL7) ?_
    refine Tr.skip (Tr.normThen ?_)
    refine Tr.seq ?_
    refine Tr.block ?_
    refine Tr.sr ?_
    refine Tr.va rfl (fun _ _ h1 h2 => run_indexAddr el_22 (h1.ev rfl) hfky193_0 (h1.ev rfl) (Int.natCast_nonneg _) (range_lt hdL7)) ?_
    refine Tr.va rfl (fun _ _ h1 h2 => run_loadN (cs := [(iv xL7.X0), (iv xL7.Y0), (iv xL7.X1), (iv xL7.Y1)]) ag_32 sz_32 (h1.ev rfl) (CellsAt.take (rdo ef_TRect (k := 3) h2 rfl (range_at hdL7)) 4) rfl) ?_
    refine Tr.alloc 48 (wn rfl) rfl ze_32 fun b336 => ?_
    refine Tr.store 48 (cs := [(iv xL7.X0), (iv xL7.Y0), (iv xL7.X1), (iv xL7.Y1)]) [(iv xL7.X0), (iv xL7.Y0), (iv xL7.X1), (iv xL7.Y1)] (wn rfl) rfl rfl rfl rfl sz_32 rfl rfl rfl ?_
    refine Tr.nil (Tr.normThen ?_)
    refine Tr.seq ?_
    refine Tr.seq ?_
    refine Tr.draw (by kernel_rfl) (by kernel_rfl) ?_
    refine Tq.va rfl (fun _ _ h1 h2 => run_fieldAddr fo_32_1 (h1.ev rfl)) ?_
    refine Tq.va rfl (fun _ _ h1 h2 => run_load1 ag_3 (h1.ev rfl) (rdb h2 (vs := [(iv xL7.X0), (iv xL7.Y0), (iv xL7.X1), (iv xL7.Y1)]) (k := 48) rfl 1) rfl) ?_
    refine Tq.mv rfl rfl ?_
    refine Tq.mv rfl rfl ?_
    obtain ⟨x337, hx337, H⟩ := bnd H
    obtain ⟨hx3370, hx3371, hx3372⟩ := idx_some hx337
    refine Tq.va rfl (fun _ _ h1 h2 => run_indexAddr el_53 (h1.ev rfl) hgy191_0 (h1.ev rfl) hx3370 hx3371) ?_
    refine Tq.va rfl (fun _ _ h1 h2 => run_load1 ag_3 (h1.ev rfl) (rdo ef_i64 (k := 2) h2 rfl hx3372) rfl) ?_
    refine Tq.va rfl (fun _ _ h1 h2 => run_gtr (h1.ev rfl) (h1.ev rfl)) ?_
    refine Tq.mv rfl rfl ?_
    obtain ⟨g339, hg339, H⟩ := bnd H
    refine Tq.mid 8 [(3, (.slice Ay191_0 (y191).length cy191_0)), (4, (.slice Al188 (y193).length cl188)), (10, (.slice Al297 (l297).length cl297)), (11, (iv x298)), (12, (.slice Al329 (l329).length cl329)), (14, (.pointer (some ⟨b336, 0, none⟩))), (78, (.slice Al188 (y193).length cl188)), (79, (iv (y193.length : Int))), (80, (iv (iL7 : Int))), (99, (.bool g339))] ?_ ?_
    ·cases hg346 : (decide (x337 < xL7.Y0))
     ·rw [hg346] at hg339
      rw [if_neg (by decide)] at hg339
      have H := hg339
      refine Tq.val (wg rfl rfl rfl) rfl (fun _ _ h1 h2 => run_fieldAddr fo_32_3 (h1.ev rfl)) ?_
      refine Tq.val (wg rfl rfl rfl) rfl (fun _ _ h1 h2 => run_load1 ag_3 (h1.ev rfl) (rdb h2 (vs := [(iv xL7.X0), (iv xL7.Y0), (iv xL7.X1), (iv xL7.Y1)]) (k := 48) rfl 3) rfl) ?_
      refine Tq.val (wg rfl rfl rfl) rfl (fun _ _ h1 h2 => run_move (h1.ev rfl)) ?_
      refine Tq.val (wg rfl rfl rfl) rfl (fun _ _ h1 h2 => run_move (h1.ev rfl)) ?_
      obtain ⟨x340, hx340, H⟩ := bnd H
      obtain ⟨hx3400, hx3401, hx3402⟩ := idx_some hx340
      refine Tq.val (wg rfl rfl rfl) rfl (fun _ _ h1 h2 => run_indexAddr el_53 (h1.ev rfl) hgy191_0 (h1.ev rfl) hx3400 hx3401) ?_
      refine Tq.val (wg rfl rfl rfl) rfl (fun _ _ h1 h2 => run_load1 ag_3 (h1.ev rfl) (rdo ef_i64 (k := 2) h2 rfl hx3402) rfl) ?_
      refine Tq.val (wg rfl rfl rfl) rfl (fun _ _ h1 h2 => run_leq (h1.ev rfl) (h1.ev rfl)) ?_
      refine Tq.va rfl (fun _ _ h1 h2 => run_pickF (h1.ev rfl) (h1.ev rfl)) ?_
      obtain rfl := Option.some.inj H
      exact Tq.fin (.cons rfl (.cons rfl (.cons rfl (.cons rfl (.cons rfl (.cons rfl (.cons rfl (.cons rfl (.cons rfl (.cons rfl .nil))))))))))
     ·rw [hg346] at hg339
      rw [if_pos rfl] at hg339
      have H := hg339
      obtain rfl := Option.some.inj H
      refine Tq.pass rfl rfl rfl rfl rfl (by decide) ?_
      refine Tq.pass rfl rfl rfl rfl rfl (by decide) ?_
      refine Tq.pass rfl rfl rfl rfl rfl (by decide) ?_
      refine Tq.pass rfl rfl rfl rfl rfl (by decide) ?_
      refine Tq.pass rfl rfl rfl rfl rfl (by decide) ?_
      refine Tq.pass rfl rfl rfl rfl rfl (by decide) ?_
      refine Tq.pass rfl rfl rfl rfl rfl (by decide) ?_
      refine Tq.va rfl (fun _ _ h1 h2 => run_pickT (h1.ev rfl) (h1.ev rfl)) ?_
      exact Tq.fin (.cons rfl (.cons rfl (.cons rfl (.cons rfl (.cons rfl (.cons rfl (.cons rfl (.cons rfl (.cons rfl (.cons rfl .nil))))))))))
    ·refine Tq.nil (Tr.normThen ?_)
     refine Tr.cond rfl H (fun H => ?_) (fun H => ?_)
     ·refine Tr.exit (Tr.exitThen (Tr.exitBlock (Tr.normThen ?_)))
      refine Tr.region ?_
      refine Tr.va rfl (fun _ _ h1 h2 => run_add (h1.ev rfl) (h1.ev rfl)) ?_
      refine Tr.mv rfl rfl ?_
      refine Tr.nil ?_
      exact Tr.backThen leL7 (restL7, (iL7 + 1), l329, Al329, cl329) ⟨rfl, range_tl hdL7, range_lt hdL7, H, hl329⟩ (.cons rfl (.cons rfl (.cons rfl (.cons rfl (.cons rfl (.cons rfl (.cons rfl (.cons (congrArg (fun z => some (Value.int .i64 z)) (range_up hdL7 hfky193_0)) .nil)))))))) (.cons rfl (.cons rfl (.cons rfl (.cons rfl .nil))))
     ·refine Tr.skip (Tr.normThen ?_)
      refine Tr.sr ?_
      refine Tr.mv rfl rfl ?_
      refine Tr.va rfl (fun _ _ h1 h2 => run_len un_53 (h1.ev rfl)) ?_
      refine Tr.asg rfl rfl ?_
      refine Tr.nil (Tr.normThen ?_)
      refine Tr.seq ?_
      refine Tr.draw (by kernel_rfl) (by kernel_rfl) ?_
      refine Tq.mv rfl rfl ?_
      refine Tq.va rfl (fun _ _ h1 h2 => run_gtr (h1.ev rfl) (h1.ev rfl)) ?_
      refine Tq.mv rfl rfl ?_
      obtain ⟨g342, hg342, H⟩ := bnd H
      refine Tq.mid 9 [(3, (.slice Ay191_0 (y191).length cy191_0)), (4, (.slice Al188 (y193).length cl188)), (10, (.slice Al297 (l297).length cl297)), (11, (iv x298)), (12, (.slice Al329 (l329).length cl329)), (14, (.pointer (some ⟨b336, 0, none⟩))), (15, (iv (l329.length : Int))), (78, (.slice Al188 (y193).length cl188)), (79, (iv (y193.length : Int))), (80, (iv (iL7 : Int))), (113, (.bool g342))] ?_ ?_
      ·cases hg346 : (decide (0 < (l329.length : Int)))
       ·rw [hg346] at hg342
        rw [if_neg (by decide)] at hg342
        have H := hg342
        obtain rfl := Option.some.inj H
        refine Tq.pass rfl rfl rfl rfl rfl (by decide) ?_
        refine Tq.pass rfl rfl rfl rfl rfl (by decide) ?_
        refine Tq.pass rfl rfl rfl rfl rfl (by decide) ?_
        refine Tq.pass rfl rfl rfl rfl rfl (by decide) ?_
        refine Tq.pass rfl rfl rfl rfl rfl (by decide) ?_
        refine Tq.pass rfl rfl rfl rfl rfl (by decide) ?_
        refine Tq.pass rfl rfl rfl rfl rfl (by decide) ?_
        refine Tq.pass rfl rfl rfl rfl rfl (by decide) ?_
        refine Tq.va rfl (fun _ _ h1 h2 => run_pickF (h1.ev rfl) (h1.ev rfl)) ?_
        exact Tq.fin (.cons rfl (.cons rfl (.cons rfl (.cons rfl (.cons rfl (.cons rfl (.cons rfl (.cons rfl (.cons rfl (.cons rfl (.cons rfl .nil)))))))))))
       ·rw [hg346] at hg342
        rw [if_pos rfl] at hg342
        have H := hg342
        refine Tq.val (wg rfl rfl rfl) rfl (fun _ _ h1 h2 => run_move (h1.ev rfl)) ?_
        refine Tq.val (wg rfl rfl rfl) rfl (fun _ _ h1 h2 => run_move (h1.ev rfl)) ?_
        refine Tq.val (wg rfl rfl rfl) rfl (fun _ _ h1 h2 => run_sub (h1.ev rfl) (h1.ev rfl)) ?_
        obtain ⟨x343, hx343, H⟩ := bnd H
        obtain ⟨hx3430, hx3431, hx3432⟩ := idx_some hx343
        refine Tq.val (wg rfl rfl rfl) rfl (fun _ _ h1 h2 => run_indexAddr el_53 (h1.ev rfl) hl329 (h1.ev rfl) hx3430 hx3431) ?_
        refine Tq.val (wg rfl rfl rfl) rfl (fun _ _ h1 h2 => run_load1 ag_3 (h1.ev rfl) (rdo ef_i64 (k := 43) h2 rfl hx3432) rfl) ?_
        refine Tq.val (wg rfl rfl rfl) rfl (fun _ _ h1 h2 => run_fieldAddr fo_32_0 (h1.ev rfl)) ?_
        refine Tq.val (wg rfl rfl rfl) rfl (fun _ _ h1 h2 => run_load1 ag_3 (h1.ev rfl) (rdb h2 (vs := [(iv xL7.X0), (iv xL7.Y0), (iv xL7.X1), (iv xL7.Y1)]) (k := 48) rfl 0) rfl) ?_
        refine Tq.val (wg rfl rfl rfl) rfl (fun _ _ h1 h2 => run_eql (h1.ev rfl) (h1.ev rfl)) ?_
        refine Tq.va rfl (fun _ _ h1 h2 => run_pickT (h1.ev rfl) (h1.ev rfl)) ?_
        obtain rfl := Option.some.inj H
        exact Tq.fin (.cons rfl (.cons rfl (.cons rfl (.cons rfl (.cons rfl (.cons rfl (.cons rfl (.cons rfl (.cons rfl (.cons rfl (.cons rfl .nil)))))))))))
      ·refine Tq.nil (Tr.normThen ?_)
       refine Tr.cond rfl H (fun H => ?_) (fun H => ?_)
       ·refine Tr.region ?_
        refine Tr.mv rfl rfl ?_
        refine Tr.mv rfl rfl ?_
        refine Tr.va rfl (fun _ _ h1 h2 => run_sub (h1.ev rfl) (h1.ev rfl)) ?_
        obtain ⟨l344, hl344, H⟩ := bnd H
        refine Tr.va rfl (fun _ _ h1 h2 => run_pre el_53 (h1.ev rfl) hl329 (h1.ev rfl) hl344) ?_
        refine Tr.asg rfl rfl ?_
        refine Tr.nil (Tr.normBlock (Tr.normThen ?_))
        refine Tr.region ?_
        refine Tr.va rfl (fun _ _ h1 h2 => run_add (h1.ev rfl) (h1.ev rfl)) ?_
        refine Tr.mv rfl rfl ?_
        refine Tr.nil ?_
        refine Tr.shrinkP 43 hl344 rfl ?_
        exact Tr.backThen leL7 (restL7, (iL7 + 1), l344, Al329, cl329) ⟨rfl, range_tl hdL7, range_lt hdL7, H, (pre_form hl329 hl344)⟩ (.cons rfl (.cons rfl (.cons rfl (.cons rfl (.cons rfl (.cons rfl (.cons rfl (.cons (congrArg (fun z => some (Value.int .i64 z)) (range_up hdL7 hfky193_0)) .nil)))))))) (.cons rfl (.cons rfl (.cons rfl (.cons rfl .nil))))
       ·refine Tr.region ?_
        refine Tr.mv rfl rfl ?_
        refine Tr.va rfl (fun _ _ h1 h2 => run_fieldAddr fo_32_0 (h1.ev rfl)) ?_
        refine Tr.va rfl (fun _ _ h1 h2 => run_load1 ag_3 (h1.ev rfl) (rdb h2 (vs := [(iv xL7.X0), (iv xL7.Y0), (iv xL7.X1), (iv xL7.Y1)]) (k := 48) rfl 0) rfl) ?_
        refine Tr.buildSlice 49 (e := 3) (vs := [(0, (iv xL7.X0))]) (cs := [(iv xL7.X0)]) (wn rfl) rfl (evs_cons rfl evs_nil) (by kernel_rfl) fun b345 => ?_
        obtain ⟨l346, hl346, H⟩ := bnd H
        refine Tr.append 43 (t := fl_i64) (l := l329) (l2 := [xL7.X0]) (wn rfl) rfl rfl rfl rfl (fun W hW => ⟨[[(iv xL7.X0)]], (.cons ⟨(), trivial, rfl⟩ .nil), rdb hW (vs := [(iv xL7.X0)]) (k := 49) rfl 0⟩) un_53 sz_3 zl_3 (by decide) by_3 rfl hl346 fun Al346 cl346 hAl346 => ?_
        refine Tr.asg rfl rfl ?_
        refine Tr.nil (Tr.normBlock (Tr.normThen ?_))
        refine Tr.region ?_
        refine Tr.va rfl (fun _ _ h1 h2 => run_add (h1.ev rfl) (h1.ev rfl)) ?_
        refine Tr.mv rfl rfl ?_
        refine Tr.nil ?_
        exact Tr.backThen leL7 (restL7, (iL7 + 1), l346, Al346, cl346) ⟨rfl, range_tl hdL7, range_lt hdL7, H, hAl346⟩ (.cons rfl (.cons rfl (.cons rfl (.cons rfl (.cons rfl (.cons rfl (.cons rfl (.cons (congrArg (fun z => some (Value.int .i64 z)) (range_up hdL7 hfky193_0)) .nil)))))))) (.cons rfl (.cons rfl (.cons rfl (.cons rfl .nil))))
  ·refine Tr.exit (Tr.exitThen (Tr.exitThen (Tr.exitBlock (Tr.normThen ?_))))
   refine Tr.sr ?_
   refine Tr.mv rfl rfl ?_
   refine Tr.asg rfl rfl ?_
   refine Tr.nil (Tr.normThen ?_)
   refine Tr.ret ?_
   obtain rfl := Option.some.inj H
   exact Tr.out (m := [(.slice Al297 (l297).length cl297)]) [] (res_tmp rfl res_nil) (fun W hW => ⟨w, (Al297, cl297), leB, rfl, hl297, hW.pick (ks := [28]) (by decide) (pk_cons rfl pk_nil)⟩)
 | cons xL3 restL3 =>
  rw [F_shape_Around_L3.eq_2] at H
  refine Tr.sr ?_
  refine Tr.va rfl (fun _ _ h1 h2 => run_lss (h1.ev rfl) (h1.ev rfl)) ?_
  refine Tr.nil (Tr.normThen ?_)
  refine Tr.seq ?_
  refine Tr.condT rfl (range_on hdL3) ?_
  refine Tr.skip (Tr.normThen ?_)
  refine Tr.seq ?_
  refine Tr.block ?_
  refine Tr.sr ?_
  obtain ⟨u347, hRu347, hoku347, hcu347⟩ := (hp0_0).el (range_at hdL3)
  obtain ⟨Au347_0, cu347_0⟩ := u347
  have hoku347_0 := hoku347
  replace hoku347_0 : Sl w.R w.W fl_TPoint Au347_0 cu347_0 xL3 := hoku347_0
  refine Tr.va rfl (fun _ _ h1 h2 => run_indexAddr el_23 (h1.ev rfl) hp0_0.form (h1.ev rfl) (Int.natCast_nonneg _) (range_lt hdL3)) ?_
  refine Tr.va rfl (fun _ _ h1 h2 => run_load1 ag_39 (h1.ev rfl) (rdR hRu347 hcu347 h2) rfl) ?_
  refine Tr.asg rfl rfl ?_
  refine Tr.nil (Tr.normThen ?_)
  refine Tr.sr ?_
  refine Tr.mv rfl rfl ?_
  refine Tr.va rfl (fun _ _ h1 h2 => run_len un_39 (h1.ev rfl)) ?_
  refine Tr.mv rfl rfl ?_
  refine Tr.nil (Tr.normThen ?_)
  refine Tr.block ?_
  refine Tr.loop (σ := (List TPoint) × Nat × (List Int) × (List TRect) × (Option Addr) × Nat × (Option Addr) × Nat) (fun m w s => m = s.1.length + 1 ∧ s.1 = List.drop s.2.1 xL3 ∧ s.2.1 ≤ xL3.length ∧ F_shape_Around_L8 (F_shape_Around_L3 N restL3 (iL3 + 1)) xL3 s.1 s.2.1 s.2.2.1 s.2.2.2.1 = some r ∧ SlF s.2.2.2.2.1 (s.2.2.1).length s.2.2.2.2.2.1 ∧ SlF s.2.2.2.2.2.2.1 (s.2.2.2.1).length s.2.2.2.2.2.2.2) (fun s => [(3, (.slice s.2.2.2.2.1 (s.2.2.1).length s.2.2.2.2.2.1)), (4, (.slice s.2.2.2.2.2.2.1 (s.2.2.2.1).length s.2.2.2.2.2.2.2)), (6, (.slice Au347_0 (xL3).length cu347_0)), (16, (.slice Ap0_0 (p0).length cp0_0)), (17, (iv (p0.length : Int))), (18, (iv (iL3 : Int))), (22, (.slice Au347_0 (xL3).length cu347_0)), (23, (iv (xL3.length : Int))), (24, (iv (s.2.1 : Int)))]) (fun s => [(2, ow s.2.2.2.2.1 s.2.2.2.2.2.1 3 fl_i64 s.2.2.1), (3, ow s.2.2.2.2.2.2.1 s.2.2.2.2.2.2.2 32 fl_TRect s.2.2.2.1)]) (xL3.length + 1) (xL3, 0, l187, l188, Al187, cl187, Al188, cl188) ⟨rfl, rfl, Nat.zero_le _, H, hl187, hl188⟩ (.cons rfl (.cons rfl (.cons rfl (.cons rfl (.cons rfl (.cons rfl (.cons rfl (.cons rfl (.cons rfl .nil))))))))) (.cons rfl (.cons rfl .nil)) (fun _ _ h => absurd h.1 (by simp)) ?_
  intro w leL8 m s hs
  obtain ⟨restL8, iL8, l375, l376, Al375, cl375, Al376, cl376⟩ := s
  obtain ⟨hmL8, hdL8, hiL8, H, hl375, hl376⟩ := hs
  replace hdL8 : restL8 = List.drop iL8 xL3 := hdL8
  replace H : F_shape_Around_L8 (F_shape_Around_L3 N restL3 (iL3 + 1)) xL3 restL8 iL8 l375 l376 = some r := H
  replace hmL8 : m + 1 = restL8.length + 1 := hmL8
  replace hoku347_0 := hoku347_0.leR leL8
  replace hp0_0 := hp0_0.leR leL8
  replace leB := leB.trans leL8
  replace leL3 := leL3.trans leL8
  replace hl375 : SlF Al375 (l375).length cl375 := hl375
  replace hl376 : SlF Al376 (l376).length cl376 := hl376
  obtain rfl : m = restL8.length := by omega
  clear hmL8
  show Tr _ _ (LF [(3, (.slice Al375 (l375).length cl375)), (4, (.slice Al376 (l376).length cl376)), (6, (.slice Au347_0 (xL3).length cu347_0)), (16, (.slice Ap0_0 (p0).length cp0_0)), (17, (iv (p0.length : Int))), (18, (iv (iL3 : Int))), (22, (.slice Au347_0 (xL3).length cu347_0)), (23, (iv (xL3.length : Int))), (24, (iv (iL8 : Int)))]) (LE [(2, ow Al375 cl375 3 fl_i64 l375), (3, ow Al376 cl376 32 fl_TRect l376)]) _
  cases restL8 with
  | nil =>
   rw [F_shape_Around_L8.eq_1] at H
   refine Tr.sr ?_
   refine Tr.va rfl (fun _ _ h1 h2 => run_lss (h1.ev rfl) (h1.ev rfl)) ?_
   refine Tr.nil (Tr.normThen ?_)
   refine Tr.seq ?_
   refine Tr.condF rfl (range_nil hdL8) ?_
   refine Tr.exit (Tr.exitThen (Tr.exitThen (Tr.exitBlock (Tr.normBlock (Tr.normThen ?_)))))
   refine Tr.region ?_
   refine Tr.va rfl (fun _ _ h1 h2 => run_add (h1.ev rfl) (h1.ev rfl)) ?_
   refine Tr.mv rfl rfl ?_
   refine Tr.nil ?_
   exact Tr.backThen leL3 (restL3, (iL3 + 1), l375, l376, Al375, cl375, Al376, cl376) ⟨rfl, range_tl hdL3, range_lt hdL3, H, hl375, hl376⟩ (.cons rfl (.cons rfl (.cons rfl (.cons rfl (.cons (congrArg (fun z => some (Value.int .i64 z)) (range_up hdL3 hp0_0.form)) .nil))))) (.cons rfl (.cons rfl .nil))
  | cons xL8 restL8 =>
   rw [F_shape_Around_L8.eq_2] at H
   refine Tr.sr ?_
   refine Tr.va rfl (fun _ _ h1 h2 => run_lss (h1.ev rfl) (h1.ev rfl)) ?_
   refine Tr.nil (Tr.normThen ?_)
   refine Tr.seq ?_
   refine Tr.condT rfl (range_on hdL8) ?_
   refine Tr.skip (Tr.normThen ?_)
   refine Tr.seq ?_
   refine Tr.block ?_
   refine Tr.sr ?_
   refine Tr.mv rfl rfl ?_
   refine Tr.va rfl (fun _ _ h1 h2 => run_indexAddr el_39 (h1.ev rfl) hoku347_0.form (h1.ev rfl) (Int.natCast_nonneg _) (range_lt hdL8)) ?_
   refine Tr.va rfl (fun _ _ h1 h2 => run_loadN (cs := [(iv xL8.X), (iv xL8.Y)]) ag_44 sz_44 (h1.ev rfl) (CellsAt.take (rdF ef_TPoint hoku347_0 (range_at hdL8) h2) 2) rfl) ?_
   refine Tr.alloc 58 (wn rfl) rfl ze_44 fun b377 => ?_
   refine Tr.asg rfl rfl ?_
   refine Tr.store 58 (cs := [(iv xL8.X), (iv xL8.Y)]) [(iv xL8.X), (iv xL8.Y)] (wn rfl) rfl rfl rfl rfl sz_44 rfl rfl rfl ?_
   refine Tr.nil (Tr.normThen ?_)
   refine Tr.sr ?_
   refine Tr.mv rfl rfl ?_
   refine Tr.mv rfl rfl ?_
   refine Tr.va rfl (fun _ _ h1 h2 => run_add (h1.ev rfl) (h1.ev rfl)) ?_
   refine Tr.mv rfl rfl ?_
   refine Tr.va rfl (fun _ _ h1 h2 => run_len un_39 (h1.ev rfl)) ?_
   obtain ⟨q378, hq378, H⟩ := bnd H
   refine Tr.va rfl (fun _ _ h1 h2 => run_md (h1.ev rfl) (h1.ev rfl) hq378) ?_
   obtain ⟨x379, hx379, H⟩ := bnd H
   obtain ⟨hx3790, hx3791, hx3792⟩ := idx_some hx379
   refine Tr.va rfl (fun _ _ h1 h2 => run_indexAddr el_39 (h1.ev rfl) hoku347_0.form (h1.ev rfl) hx3790 hx3791) ?_
   refine Tr.va rfl (fun _ _ h1 h2 => run_loadN (cs := [(iv x379.X), (iv x379.Y)]) ag_44 sz_44 (h1.ev rfl) (CellsAt.take (rdF ef_TPoint hoku347_0 hx3792 h2) 2) rfl) ?_
   refine Tr.alloc 59 (wn rfl) rfl ze_44 fun b380 => ?_
   refine Tr.store 59 (cs := [(iv x379.X), (iv x379.Y)]) [(iv x379.X), (iv x379.Y)] (wn rfl) rfl rfl rfl rfl sz_44 rfl rfl rfl ?_
   refine Tr.nil (Tr.normThen ?_)
   refine Tr.sr ?_
   refine Tr.mv rfl rfl ?_
   refine Tr.va rfl (fun _ _ h1 h2 => run_fieldAddr fo_44_1 (h1.ev rfl)) ?_
   refine Tr.va rfl (fun _ _ h1 h2 => run_load1 ag_3 (h1.ev rfl) (rdb h2 (vs := [(iv xL8.X), (iv xL8.Y)]) (k := 58) rfl 1) rfl) ?_
   refine Tr.buildSlice 60 (e := 3) (vs := [(0, (iv xL8.Y))]) (cs := [(iv xL8.Y)]) (wn rfl) rfl (evs_cons rfl evs_nil) (by kernel_rfl) fun b381 => ?_
   obtain ⟨l382, hl382, H⟩ := bnd H
   refine Tr.append 2 (t := fl_i64) (l := l375) (l2 := [xL8.Y]) (wn rfl) rfl rfl rfl rfl (fun W hW => ⟨[[(iv xL8.Y)]], (.cons ⟨(), trivial, rfl⟩ .nil), rdb hW (vs := [(iv xL8.Y)]) (k := 60) rfl 0⟩) un_53 sz_3 zl_3 (by decide) by_3 rfl hl382 fun Al382 cl382 hAl382 => ?_
   refine Tr.asg rfl rfl ?_
   refine Tr.nil (Tr.normThen ?_)
   refine Tr.sr ?_
   refine Tr.va rfl (fun _ _ h1 h2 => run_fieldAddr fo_44_0 (h1.ev rfl)) ?_
   refine Tr.va rfl (fun _ _ h1 h2 => run_load1 ag_3 (h1.ev rfl) (rdb h2 (vs := [(iv xL8.X), (iv xL8.Y)]) (k := 58) rfl 0) rfl) ?_
   refine Tr.va rfl (fun _ _ h1 h2 => run_fieldAddr fo_44_0 (h1.ev rfl)) ?_
   refine Tr.va rfl (fun _ _ h1 h2 => run_load1 ag_3 (h1.ev rfl) (rdb h2 (vs := [(iv x379.X), (iv x379.Y)]) (k := 59) rfl 0) rfl) ?_
   refine Tr.va rfl (fun _ _ h1 h2 => run_eql (h1.ev rfl) (h1.ev rfl)) ?_
   refine Tr.nil (Tr.normThen ?_)
   refine Tr.cond rfl H (fun H => ?_) (fun H => ?_)
   ·refine Tr.region ?_
    refine Tr.mv rfl rfl ?_
    refine Tr.va rfl (fun _ _ h1 h2 => run_fieldAddr fo_44_0 (h1.ev rfl)) ?_
    refine Tr.va rfl (fun _ _ h1 h2 => run_load1 ag_3 (h1.ev rfl) (rdb h2 (vs := [(iv xL8.X), (iv xL8.Y)]) (k := 58) rfl 0) rfl) ?_
    refine Tr.va rfl (fun _ _ h1 h2 => run_fieldAddr fo_44_1 (h1.ev rfl)) ?_
    refine Tr.va rfl (fun _ _ h1 h2 => run_load1 ag_3 (h1.ev rfl) (rdb h2 (vs := [(iv xL8.X), (iv xL8.Y)]) (k := 58) rfl 1) rfl) ?_
    refine Tr.va rfl (fun _ _ h1 h2 => run_fieldAddr fo_44_1 (h1.ev rfl)) ?_
    refine Tr.va rfl (fun _ _ h1 h2 => run_load1 ag_3 (h1.ev rfl) (rdb h2 (vs := [(iv x379.X), (iv x379.Y)]) (k := 59) rfl 1) rfl) ?_
    refine Tr.va rfl (fun _ _ h1 h2 => run_min (h1.ev rfl) (h1.ev rfl) _) ?_
    refine Tr.va rfl (fun _ _ h1 h2 => run_fieldAddr fo_44_1 (h1.ev rfl)) ?_
    refine Tr.va rfl (fun _ _ h1 h2 => run_load1 ag_3 (h1.ev rfl) (rdb h2 (vs := [(iv xL8.X), (iv xL8.Y)]) (k := 58) rfl 1) rfl) ?_
    refine Tr.va rfl (fun _ _ h1 h2 => run_fieldAddr fo_44_1 (h1.ev rfl)) ?_
    refine Tr.va rfl (fun _ _ h1 h2 => run_load1 ag_3 (h1.ev rfl) (rdb h2 (vs := [(iv x379.X), (iv x379.Y)]) (k := 59) rfl 1) rfl) ?_
    refine Tr.va rfl (fun _ _ h1 h2 => run_max (h1.ev rfl) (h1.ev rfl) _) ?_
    refine Tr.build (vs := [(0, (iv xL8.X)), (1, (iv (min xL8.Y x379.Y))), (3, (iv (max xL8.Y x379.Y)))]) (cs := [(iv xL8.X), (iv (min xL8.Y x379.Y)), (iv 0), (iv (max xL8.Y x379.Y))]) (wn rfl) rfl (evs_cons rfl (evs_cons rfl (evs_cons rfl evs_nil))) (by kernel_rfl) ?_
    refine Tr.buildSlice 61 (e := 32) (vs := [(0, (.agg #[(iv xL8.X), (iv (min xL8.Y x379.Y)), (iv 0), (iv (max xL8.Y x379.Y))]))]) (cs := [(iv xL8.X), (iv (min xL8.Y x379.Y)), (iv 0), (iv (max xL8.Y x379.Y))]) (wn rfl) rfl (evs_cons rfl evs_nil) (by kernel_rfl) fun b383 => ?_
    obtain ⟨l384, hl384, H⟩ := bnd H
    refine Tr.append 3 (t := fl_TRect) (l := l376) (l2 := [(TRect.mk xL8.X (min xL8.Y x379.Y) 0 (max xL8.Y x379.Y))]) (wn rfl) rfl rfl rfl rfl (fun W hW => ⟨[[(iv xL8.X), (iv (min xL8.Y x379.Y)), (iv 0), (iv (max xL8.Y x379.Y))]], (.cons ⟨(), trivial, rfl⟩ .nil), rdb hW (vs := [(iv xL8.X), (iv (min xL8.Y x379.Y)), (iv 0), (iv (max xL8.Y x379.Y))]) (k := 61) rfl 0⟩) un_22 sz_32 zl_32 (by decide) by_32 rfl hl384 fun Al384 cl384 hAl384 => ?_
    refine Tr.asg rfl rfl ?_
    refine Tr.nil (Tr.normBlock (Tr.normThen ?_))
    refine Tr.region ?_
    refine Tr.va rfl (fun _ _ h1 h2 => run_add (h1.ev rfl) (h1.ev rfl)) ?_
    refine Tr.mv rfl rfl ?_
    refine Tr.nil ?_
    exact Tr.backThen leL8 (restL8, (iL8 + 1), l382, l384, Al382, cl382, Al384, cl384) ⟨rfl, range_tl hdL8, range_lt hdL8, H, hAl382, hAl384⟩ (.cons rfl (.cons rfl (.cons rfl (.cons rfl (.cons rfl (.cons rfl (.cons rfl (.cons rfl (.cons (congrArg (fun z => some (Value.int .i64 z)) (range_up hdL8 hoku347_0.form)) .nil))))))))) (.cons rfl (.cons rfl .nil))
   ·refine Tr.skip (Tr.normBlock (Tr.normThen ?_))
    refine Tr.region ?_
    refine Tr.va rfl (fun _ _ h1 h2 => run_add (h1.ev rfl) (h1.ev rfl)) ?_
    refine Tr.mv rfl rfl ?_
    refine Tr.nil ?_
    exact Tr.backThen leL8 (restL8, (iL8 + 1), l382, l376, Al382, cl382, Al376, cl376) ⟨rfl, range_tl hdL8, range_lt hdL8, H, hAl382, hl376⟩ (.cons rfl (.cons rfl (.cons rfl (.cons rfl (.cons rfl (.cons rfl (.cons rfl (.cons rfl (.cons (congrArg (fun z => some (Value.int .i64 z)) (range_up hdL8 hoku347_0.form)) .nil))))))))) (.cons rfl (.cons rfl .nil))

theorem F_shape_Set__Many_ok {w : Bs} (p0 : (List TBand)) (Ap0_0 : Option Addr) (cp0_0 : Nat) (hp0_0 : Sl w.R w.W fl_TBand Ap0_0 cp0_0 p0) (r : Int) (H : F_shape_Set__Many p0 = some r) (hE : HF w w.W E0) : Calls Try.prog 42 [(.slice Ap0_0 (p0).length cp0_0)].toArray w.W fun e W' => e = .returned (iv r) ∧ HF w W' E0 := by
 unfold F_shape_Set__Many at H
 have leB := Bs.Le.refl w
 refine Tr.enter (n := 20) Try.func42 rfl rfl rfl hE ?_
 refine Tr.sr ?_
 refine Tr.asg rfl rfl ?_
 refine Tr.nil (Tr.normThen ?_)
 refine Tr.sr ?_
 refine Tr.asg rfl rfl ?_
 refine Tr.nil (Tr.normThen ?_)
 refine Tr.seq ?_
 refine Tr.sr ?_
 refine Tr.mv rfl rfl ?_
 refine Tr.va rfl (fun _ _ h1 h2 => run_len un_36 (h1.ev rfl)) ?_
 refine Tr.mv rfl rfl ?_
 refine Tr.nil (Tr.normThen ?_)
 refine Tr.block ?_
 refine Tr.loop (σ := (List TBand) × Nat × Int) (fun m w s => m = s.1.length + 1 ∧ s.1 = List.drop s.2.1 p0 ∧ s.2.1 ≤ p0.length ∧ F_shape_Set__Many_L1 s.1 s.2.1 s.2.2 = some r) (fun s => [(3, (iv s.2.2)), (6, (.slice Ap0_0 (p0).length cp0_0)), (7, (iv (p0.length : Int))), (8, (iv (s.2.1 : Int)))]) (fun s => []) (p0.length + 1) (p0, 0, 0) ⟨rfl, rfl, Nat.zero_le _, H⟩ (.cons rfl (.cons rfl (.cons rfl (.cons rfl .nil)))) .nil (fun _ _ h => absurd h.1 (by simp)) ?_
 intro w leL1 m s hs
 obtain ⟨restL1, iL1, x112⟩ := s
 obtain ⟨hmL1, hdL1, hiL1, H⟩ := hs
 replace hdL1 : restL1 = List.drop iL1 p0 := hdL1
 replace H : F_shape_Set__Many_L1 restL1 iL1 x112 = some r := H
 replace hmL1 : m + 1 = restL1.length + 1 := hmL1
 replace hp0_0 := hp0_0.leR leL1
 replace leB := leB.trans leL1
 obtain rfl : m = restL1.length := by omega
 clear hmL1
 show Tr _ _ (LF [(3, (iv x112)), (6, (.slice Ap0_0 (p0).length cp0_0)), (7, (iv (p0.length : Int))), (8, (iv (iL1 : Int)))]) (LE []) _
 cases restL1 with
 | nil =>
  rw [F_shape_Set__Many_L1.eq_1] at H
  refine Tr.sr ?_
  refine Tr.va rfl (fun _ _ h1 h2 => run_lss (h1.ev rfl) (h1.ev rfl)) ?_
  refine Tr.nil (Tr.normThen ?_)
  refine Tr.seq ?_
  refine Tr.condF rfl (range_nil hdL1) ?_
  refine Tr.exit (Tr.exitThen (Tr.exitThen (Tr.exitBlock (Tr.normThen ?_))))
  refine Tr.sr ?_
  refine Tr.mv rfl rfl ?_
  refine Tr.asg rfl rfl ?_
  refine Tr.nil (Tr.normThen ?_)
  refine Tr.ret ?_
  obtain rfl := Option.some.inj H
  exact Tr.out (m := [(iv x112)]) [] (res_tmp rfl res_nil) (fun W hW => ⟨rfl, hW.low leB⟩)
 | cons xL1 restL1 =>
  rw [F_shape_Set__Many_L1.eq_2] at H
  refine Tr.sr ?_
  refine Tr.va rfl (fun _ _ h1 h2 => run_lss (h1.ev rfl) (h1.ev rfl)) ?_
  refine Tr.nil (Tr.normThen ?_)
  refine Tr.seq ?_
  refine Tr.condT rfl (range_on hdL1) ?_
  refine Tr.skip (Tr.normThen ?_)
  refine Tr.seq ?_
  refine Tr.block ?_
  refine Tr.sr ?_
  obtain ⟨u113, hRu113, hoku113, hcu113⟩ := (hp0_0).el (range_at hdL1)
  obtain ⟨Au113_0, cu113_0⟩ := u113
  have hoku113_0 := hoku113
  replace hoku113_0 : Sl w.R w.W fl_i64 Au113_0 cu113_0 xL1.Xs := hoku113_0
  refine Tr.va rfl (fun _ _ h1 h2 => run_indexAddr el_36 (h1.ev rfl) hp0_0.form (h1.ev rfl) (Int.natCast_nonneg _) (range_lt hdL1)) ?_
  refine Tr.va rfl (fun _ _ h1 h2 => run_loadN (cs := [(iv xL1.Y0), (iv xL1.Y1), (.slice Au113_0 (xL1.Xs).length cu113_0)]) ag_61 sz_61 (h1.ev rfl) (CellsAt.take (rdR hRu113 hcu113 h2) 3) rfl) ?_
  refine Tr.alloc 3 (wn rfl) rfl ze_61 fun b114 => ?_
  refine Tr.store 3 (cs := [(iv xL1.Y0), (iv xL1.Y1), (.slice Au113_0 (xL1.Xs).length cu113_0)]) [(iv xL1.Y0), (iv xL1.Y1), (.slice Au113_0 (xL1.Xs).length cu113_0)] (wn rfl) rfl rfl rfl rfl sz_61 rfl rfl rfl ?_
  refine Tr.nil (Tr.normThen ?_)
  refine Tr.region ?_
  refine Tr.mv rfl rfl ?_
  refine Tr.va rfl (fun _ _ h1 h2 => run_fieldAddr fo_61_2 (h1.ev rfl)) ?_
  refine Tr.va rfl (fun _ _ h1 h2 => run_load1 ag_53 (h1.ev rfl) (rdb h2 (vs := [(iv xL1.Y0), (iv xL1.Y1), (.slice Au113_0 (xL1.Xs).length cu113_0)]) (k := 3) rfl 2) rfl) ?_
  refine Tr.va rfl (fun _ _ h1 h2 => run_len un_53 (h1.ev rfl)) ?_
  refine Tr.va rfl (fun _ _ h1 h2 => run_quo (h1.ev rfl) (h1.ev rfl) (by decide)) ?_
  refine Tr.va rfl (fun _ _ h1 h2 => run_add (h1.ev rfl) (h1.ev rfl)) ?_
  refine Tr.asg rfl rfl ?_
  refine Tr.nil (Tr.normBlock (Tr.normThen ?_))
  refine Tr.region ?_
  refine Tr.va rfl (fun _ _ h1 h2 => run_add (h1.ev rfl) (h1.ev rfl)) ?_
  refine Tr.mv rfl rfl ?_
  refine Tr.nil ?_
  exact Tr.backThen leL1 (restL1, (iL1 + 1), (w64 (x112 + (w64 (Int.tdiv (xL1.Xs.length : Int) 2))))) ⟨rfl, range_tl hdL1, range_lt hdL1, H⟩ (.cons rfl (.cons rfl (.cons rfl (.cons (congrArg (fun z => some (Value.int .i64 z)) (range_up hdL1 hp0_0.form)) .nil)))) .nil

theorem F_shape_Set__Told_ok (N : Nat) {w : Bs} (p0 : (List TBand)) (Ap0_0 : Option Addr) (cp0_0 : Nat) (hp0_0 : Sl w.R w.W fl_TBand Ap0_0 cp0_0 p0) (r : ((List TRect) × Int)) (H : F_shape_Set__Told N p0 = some r) (hE : HF w w.W (LEn [emp])) : Calls Try.prog 17 [(.slice Ap0_0 (p0).length cp0_0)].toArray w.W fun e W' => ∃ u : (Option Addr × Nat), e = .returned (.tuple #[(.slice u.1 (r.1).length u.2), (iv r.2)]) ∧ (SlF u.1 (r.1).length u.2) ∧ HF w W' (LEn [ow u.1 u.2 32 fl_TRect r.1]) := by
 unfold F_shape_Set__Told at H
 have leB := Bs.Le.refl w
 refine Tr.enter (n := 9) Try.func17 rfl rfl rfl hE ?_
 refine Tr.sr ?_
 refine Tr.asg rfl rfl ?_
 refine Tr.nilOwn 1 32 fl_TRect ?_
 show Tr _ _ (uf _ 2 (.slice none (([] : List TRect)).length 0)) _ _
 refine Tr.asg rfl rfl ?_
 refine Tr.nil (Tr.normThen ?_)
 refine Tr.seq ?_
 refine Tr.sr ?_
 refine Tr.mv rfl rfl ?_
 obtain ⟨y100, hy100, H⟩ := bnd H
 refine Tr.call0 (r := (iv y100)) (wn rfl) rfl Try.call42 (evl_cons rfl evl_nil) (fun W hW => F_shape_Set__Many_ok p0 Ap0_0 cp0_0 (hp0_0.ext hW.extAll) y100 hy100 (HF.start _)) ?_
 refine Tr.va rfl (fun _ _ h1 h2 => run_gtr (h1.ev rfl) (h1.ev rfl)) ?_
 refine Tr.nil (Tr.normThen ?_)
 refine Tr.cond rfl H (fun H => ?_) (fun H => ?_)
 ·refine Tr.sr ?_
  refine Tr.asg rfl rfl ?_
  refine Tr.nilOwn 2 32 fl_TRect ?_
  show Tr _ _ (uf _ 2 (.slice none (([] : List TRect)).length 0)) _ _
  refine Tr.asg rfl rfl ?_
  refine Tr.nil (Tr.normThen ?_)
  refine Tr.ret (Tr.retThen ?_)
  obtain rfl := Option.some.inj H
  exact Tr.out (m := [(.slice none (([] : List TRect)).length 0), (iv 2)]) [] (res_tmp rfl (res_tmp rfl res_nil)) (fun W hW => ⟨(none, 0), rfl, slf_nil, HF.lowE leB (hW.pick (ks := [2]) (by decide) (pk_cons rfl pk_nil)) ⟨ow_any _ _ _ _ tr_TRect, trivial⟩⟩)
 ·refine Tr.skip (Tr.normThen ?_)
  refine Tr.sr ?_
  refine Tr.mv rfl rfl ?_
  obtain ⟨y101, hy101, H⟩ := bnd H
  refine Tr.callM [3] [emp] (U := (Option Addr × Nat)) (fun u => (.slice u.1 (y101).length u.2)) (fun u => SlF u.1 (y101).length u.2) (fun u => [ow u.1 u.2 32 fl_TRect y101]) rfl (pk_cons rfl pk_nil) (fun _ => rfl) (wn rfl) rfl Try.call19 (evl_cons rfl evl_nil) (fun W hW hp hE => F_shape_Set__Rects_ok N p0 Ap0_0 cp0_0 (hp0_0.ext (hW.extS hp)) y101 hy101 hE) ?_
  intro u hu
  obtain ⟨Ay101_0, cy101_0⟩ := u
  have gy101_0 := hu
  have hgy101_0 : SlF Ay101_0 (y101).length cy101_0 := gy101_0 --@phi
  show Tr _ _ (uf _ 8 (.slice Ay101_0 (y101).length cy101_0)) (up _ 3 (ow Ay101_0 cy101_0 32 fl_TRect y101)) _
  refine Tr.asg rfl rfl ?_
  refine Tr.asg rfl rfl ?_
  refine Tr.nil (Tr.normThen ?_)
  refine Tr.ret ?_
  obtain rfl := Option.some.inj H
  exact Tr.out (m := [(.slice Ay101_0 (y101).length cy101_0), (iv 0)]) [] (res_tmp rfl (res_tmp rfl res_nil)) (fun W hW => ⟨(Ay101_0, cy101_0), rfl, hgy101_0, HF.lowE leB (hW.pick (ks := [3]) (by decide) (pk_cons rfl pk_nil)) ⟨ow_any _ _ _ _ tr_TRect, trivial⟩⟩)

theorem F_shape_Filled_ok (N : Nat) {w : Bs} (p0 : (List (List TPoint))) (Ap0_0 : Option Addr) (cp0_0 : Nat) (hp0_0 : Sl w.R w.W fl_LTPoint Ap0_0 cp0_0 p0) (r : ((List TRect) × Int)) (H : F_shape_Filled N p0 = some r) (hE : HF w w.W (LEn [emp])) : Calls Try.prog 6 [(.slice Ap0_0 (p0).length cp0_0)].toArray w.W fun e W' => ∃ u : (Option Addr × Nat), e = .returned (.tuple #[(.slice u.1 (r.1).length u.2), (iv r.2)]) ∧ (SlF u.1 (r.1).length u.2) ∧ HF w W' (LEn [ow u.1 u.2 32 fl_TRect r.1]) := by
 unfold F_shape_Filled at H
 have leB := Bs.Le.refl w
 refine Tr.enter (n := 45) Try.func6 rfl rfl rfl hE ?_
 refine Tr.sr ?_
 refine Tr.asg rfl rfl ?_
 refine Tr.nilOwn 1 32 fl_TRect ?_
 show Tr _ _ (uf _ 2 (.slice none (([] : List TRect)).length 0)) _ _
 refine Tr.asg rfl rfl ?_
 refine Tr.nil (Tr.normThen ?_)
 refine Tr.sr ?_
 refine Tr.asg rfl rfl ?_
 refine Tr.nil (Tr.normThen ?_)
 refine Tr.seq ?_
 refine Tr.sr ?_
 refine Tr.mv rfl rfl ?_
 refine Tr.va rfl (fun _ _ h1 h2 => run_len un_23 (h1.ev rfl)) ?_
 refine Tr.mv rfl rfl ?_
 refine Tr.nil (Tr.normThen ?_)
 refine Tr.block ?_
 refine Tr.loop (σ := (List (List TPoint)) × Nat × Int) (fun m w s => m = s.1.length + 1 ∧ s.1 = List.drop s.2.1 p0 ∧ s.2.1 ≤ p0.length ∧ F_shape_Filled_L1 N p0 s.1 s.2.1 s.2.2 = some r) (fun s => [(0, (.slice Ap0_0 (p0).length cp0_0)), (4, (iv s.2.2)), (9, (.slice Ap0_0 (p0).length cp0_0)), (10, (iv (p0.length : Int))), (11, (iv (s.2.1 : Int)))]) (fun s => []) (p0.length + 1) (p0, 0, 0) ⟨rfl, rfl, Nat.zero_le _, H⟩ (.cons rfl (.cons rfl (.cons rfl (.cons rfl (.cons rfl .nil))))) .nil (fun _ _ h => absurd h.1 (by simp)) ?_
 intro w leL1 m s hs
 obtain ⟨restL1, iL1, x110⟩ := s
 obtain ⟨hmL1, hdL1, hiL1, H⟩ := hs
 replace hdL1 : restL1 = List.drop iL1 p0 := hdL1
 replace H : F_shape_Filled_L1 N p0 restL1 iL1 x110 = some r := H
 replace hmL1 : m + 1 = restL1.length + 1 := hmL1
 replace hp0_0 := hp0_0.leR leL1
 replace leB := leB.trans leL1
 obtain rfl : m = restL1.length := by omega
 clear hmL1
 show Tr _ _ (LF [(0, (.slice Ap0_0 (p0).length cp0_0)), (4, (iv x110)), (9, (.slice Ap0_0 (p0).length cp0_0)), (10, (iv (p0.length : Int))), (11, (iv (iL1 : Int)))]) (LE []) _
 cases restL1 with
 | nil =>
  rw [F_shape_Filled_L1.eq_1] at H
  refine Tr.sr ?_
  refine Tr.va rfl (fun _ _ h1 h2 => run_lss (h1.ev rfl) (h1.ev rfl)) ?_
  refine Tr.nil (Tr.normThen ?_)
  refine Tr.seq ?_
  refine Tr.condF rfl (range_nil hdL1) ?_
  refine Tr.exit (Tr.exitThen (Tr.exitThen (Tr.exitBlock (Tr.normThen ?_))))
  refine Tr.seq ?_
  refine Tr.sr ?_
  refine Tr.mv rfl rfl ?_
  refine Tr.va rfl (fun _ _ h1 h2 => run_gtr (h1.ev rfl) (h1.ev rfl)) ?_
  refine Tr.nil (Tr.normThen ?_)
  refine Tr.cond rfl H (fun H => ?_) (fun H => ?_)
  ·refine Tr.sr ?_
   refine Tr.asg rfl rfl ?_
   refine Tr.nilOwn 2 32 fl_TRect ?_
   show Tr _ _ (uf _ 2 (.slice none (([] : List TRect)).length 0)) _ _
   refine Tr.asg rfl rfl ?_
   refine Tr.nil (Tr.normThen ?_)
   refine Tr.ret (Tr.retThen ?_)
   obtain rfl := Option.some.inj H
   exact Tr.out (m := [(.slice none (([] : List TRect)).length 0), (iv 2)]) [] (res_tmp rfl (res_tmp rfl res_nil)) (fun W hW => ⟨(none, 0), rfl, slf_nil, HF.lowE leB (hW.pick (ks := [2]) (by decide) (pk_cons rfl pk_nil)) ⟨ow_any _ _ _ _ tr_TRect, trivial⟩⟩)
  ·refine Tr.skip (Tr.normThen ?_)
   refine Tr.seq ?_
   refine Tr.sr ?_
   refine Tr.mv rfl rfl ?_
   refine Tr.va rfl (fun _ _ h1 h2 => run_len un_23 (h1.ev rfl)) ?_
   refine Tr.mv rfl rfl ?_
   refine Tr.nil (Tr.normThen ?_)
   refine Tr.block ?_
   refine Tr.loop (σ := (List (List TPoint)) × Nat) (fun m w s => m = s.1.length + 1 ∧ s.1 = List.drop s.2 p0 ∧ s.2 ≤ p0.length ∧ F_shape_Filled_L2 N p0 s.1 s.2 = some r) (fun s => [(0, (.slice Ap0_0 (p0).length cp0_0)), (22, (.slice Ap0_0 (p0).length cp0_0)), (23, (iv (p0.length : Int))), (24, (iv (s.2 : Int)))]) (fun s => []) (p0.length + 1) (p0, 0) ⟨rfl, rfl, Nat.zero_le _, H⟩ (.cons rfl (.cons rfl (.cons rfl (.cons rfl .nil)))) .nil (fun _ _ h => absurd h.1 (by simp)) ?_
   intro w leL2 m s hs
   obtain ⟨restL2, iL2⟩ := s
   obtain ⟨hmL2, hdL2, hiL2, H⟩ := hs
   replace hdL2 : restL2 = List.drop iL2 p0 := hdL2
   replace H : F_shape_Filled_L2 N p0 restL2 iL2 = some r := H
   replace hmL2 : m + 1 = restL2.length + 1 := hmL2
   replace hp0_0 := hp0_0.leR leL2
   replace leB := leB.trans leL2
   replace leL1 := leL1.trans leL2
   obtain rfl : m = restL2.length := by omega
   clear hmL2
   show Tr _ _ (LF [(0, (.slice Ap0_0 (p0).length cp0_0)), (22, (.slice Ap0_0 (p0).length cp0_0)), (23, (iv (p0.length : Int))), (24, (iv (iL2 : Int)))]) (LE []) _
   cases restL2 with
   | nil =>
    rw [F_shape_Filled_L2.eq_1] at H
    refine Tr.sr ?_
    refine Tr.va rfl (fun _ _ h1 h2 => run_lss (h1.ev rfl) (h1.ev rfl)) ?_
    refine Tr.nil (Tr.normThen ?_)
    refine Tr.seq ?_
    refine Tr.condF rfl (range_nil hdL2) ?_
    refine Tr.exit (Tr.exitThen (Tr.exitThen (Tr.exitBlock (Tr.normThen ?_))))
    refine Tr.sr ?_
    refine Tr.mv rfl rfl ?_
    obtain ⟨y116, hy116, H⟩ := bnd H
    refine Tr.callG [6] [emp] (U := (Option Addr × Nat)) (fun u => (.slice u.1 (y116).length u.2)) (fun O W u => SlF u.1 (y116).length u.2) (fun u => [ow u.1 u.2 61 fl_TBand y116]) rfl (pk_cons rfl pk_nil) (fun _ => rfl) (wn rfl) rfl Try.call16 (evl_cons rfl evl_nil) (fun W hW hp hE => F_shape_Around_ok N p0 Ap0_0 cp0_0 (hp0_0.ext (hW.extS hp)) y116 hy116 hE) ?_
    intro w u le117 hu
    obtain ⟨Ay116_0, cy116_0⟩ := u
    have gy116_0 := hu
    replace hp0_0 := hp0_0.leR le117
    replace leB := leB.trans le117
    replace leL1 := leL1.trans le117
    replace leL2 := leL2.trans le117
    have hgy116_0 : SlF Ay116_0 (y116).length cy116_0 := gy116_0 --@phi
    show Tr _ _ (uf _ 41 (.slice Ay116_0 (y116).length cy116_0)) (up _ 6 (ow Ay116_0 cy116_0 61 fl_TBand y116)) _
    obtain ⟨y118, hy118, H⟩ := bnd H
    refine Tr.callM [7] [emp] (U := (Option Addr × Nat)) (fun u => (.tuple #[(.slice u.1 (y118.1).length u.2), (iv y118.2)])) (fun u => SlF u.1 (y118.1).length u.2) (fun u => [ow u.1 u.2 32 fl_TRect y118.1]) rfl (pk_cons rfl pk_nil) (fun _ => rfl) (wn rfl) rfl Try.call17 (evl_cons rfl evl_nil) (fun W hW hp hE => F_shape_Set__Told_ok N y116 Ay116_0 cy116_0 (hW.slS (k := 6) rfl hp rfl) y118 hy118 hE) ?_
    intro u hu
    obtain ⟨Ay118_0, cy118_0⟩ := u
    have gy118_0 := hu
    have hgy118_0 : SlF Ay118_0 (y118.1).length cy118_0 := gy118_0 --@phi
    show Tr _ _ (uf _ 42 (.tuple #[(.slice Ay118_0 (y118.1).length cy118_0), (iv y118.2)])) (up _ 7 (ow Ay118_0 cy118_0 32 fl_TRect y118.1)) _
    refine Tr.va rfl (fun _ _ h1 h2 => run_extract (h1.ev rfl) rfl) ?_
    refine Tr.va rfl (fun _ _ h1 h2 => run_extract (h1.ev rfl) rfl) ?_
    refine Tr.asg rfl rfl ?_
    refine Tr.asg rfl rfl ?_
    refine Tr.nil (Tr.normThen ?_)
    refine Tr.ret ?_
    obtain rfl := Option.some.inj H
    exact Tr.out (m := [(.slice Ay118_0 (y118.1).length cy118_0), (iv y118.2)]) [] (res_tmp rfl (res_tmp rfl res_nil)) (fun W hW => ⟨(Ay118_0, cy118_0), rfl, hgy118_0, HF.lowE leB (hW.pick (ks := [7]) (by decide) (pk_cons rfl pk_nil)) ⟨ow_any _ _ _ _ tr_TRect, trivial⟩⟩)
   | cons xL2 restL2 =>
    rw [F_shape_Filled_L2.eq_2] at H
    refine Tr.sr ?_
    refine Tr.va rfl (fun _ _ h1 h2 => run_lss (h1.ev rfl) (h1.ev rfl)) ?_
    refine Tr.nil (Tr.normThen ?_)
    refine Tr.seq ?_
    refine Tr.condT rfl (range_on hdL2) ?_
    refine Tr.skip (Tr.normThen ?_)
    refine Tr.seq ?_
    refine Tr.block ?_
    refine Tr.sr ?_
    obtain ⟨u120, hRu120, hoku120, hcu120⟩ := (hp0_0).el (range_at hdL2)
    obtain ⟨Au120_0, cu120_0⟩ := u120
    have hoku120_0 := hoku120
    replace hoku120_0 : Sl w.R w.W fl_TPoint Au120_0 cu120_0 xL2 := hoku120_0
    refine Tr.va rfl (fun _ _ h1 h2 => run_indexAddr el_23 (h1.ev rfl) hp0_0.form (h1.ev rfl) (Int.natCast_nonneg _) (range_lt hdL2)) ?_
    refine Tr.va rfl (fun _ _ h1 h2 => run_load1 ag_39 (h1.ev rfl) (rdR hRu120 hcu120 h2) rfl) ?_
    refine Tr.asg rfl rfl ?_
    refine Tr.nil (Tr.normThen ?_)
    refine Tr.block ?_
    refine Tr.sr ?_
    refine Tr.mv rfl rfl ?_
    refine Tr.va rfl (fun _ _ h1 h2 => run_len un_39 (h1.ev rfl)) ?_
    refine Tr.va rfl (fun _ _ h1 h2 => run_lss (h1.ev rfl) (h1.ev rfl)) ?_
    refine Tr.asg rfl rfl ?_
    refine Tr.nil (Tr.normThen ?_)
    refine Tr.cond rfl H (fun H => ?_) (fun H => ?_)
    ·refine Tr.sr ?_
     refine Tr.asg rfl rfl ?_
     refine Tr.nilOwn 8 32 fl_TRect ?_
     show Tr _ _ (uf _ 2 (.slice none (([] : List TRect)).length 0)) _ _
     refine Tr.asg rfl rfl ?_
     refine Tr.nil (Tr.normThen ?_)
     refine Tr.ret (Tr.retBlock (Tr.retBlock (Tr.retThen (Tr.retThen (Tr.retBlock (Tr.retThen ?_))))))
     obtain rfl := Option.some.inj H
     exact Tr.out (m := [(.slice none (([] : List TRect)).length 0), (iv 3)]) [] (res_tmp rfl (res_tmp rfl res_nil)) (fun W hW => ⟨(none, 0), rfl, slf_nil, HF.lowE leB (hW.pick (ks := [8]) (by decide) (pk_cons rfl pk_nil)) ⟨ow_any _ _ _ _ tr_TRect, trivial⟩⟩)
    ·refine Tr.sr ?_
     refine Tr.mv rfl rfl ?_
     obtain ⟨y121, hy121, H⟩ := bnd H
     refine Tr.call0 (r := (.bool y121)) (wn rfl) rfl Try.call12 (evl_cons rfl (evl_cons rfl evl_nil)) (fun W hW => F_slices_ContainsFunc_Point_ok xL2 Au120_0 cu120_0 (hoku120_0.ext hW.extAll) (fun z0 => F_shape_Filled_1 z0) 13 [] Try.call13 (fun w' he z0 y hy => F_shape_Filled_1_ok z0 y hy (HF.start _)) y121 hy121 (HF.start _)) ?_
     refine Tr.asg rfl rfl ?_
     refine Tr.nil (Tr.normThen ?_)
     refine Tr.cond rfl H (fun H => ?_) (fun H => ?_)
     ·refine Tr.sr ?_
      refine Tr.asg rfl rfl ?_
      refine Tr.nilOwn 9 32 fl_TRect ?_
      show Tr _ _ (uf _ 2 (.slice none (([] : List TRect)).length 0)) _ _
      refine Tr.asg rfl rfl ?_
      refine Tr.nil (Tr.normThen ?_)
      refine Tr.ret (Tr.retBlock (Tr.retBlock (Tr.retThen (Tr.retThen (Tr.retBlock (Tr.retThen ?_))))))
      obtain rfl := Option.some.inj H
      exact Tr.out (m := [(.slice none (([] : List TRect)).length 0), (iv 1)]) [] (res_tmp rfl (res_tmp rfl res_nil)) (fun W hW => ⟨(none, 0), rfl, slf_nil, HF.lowE leB (hW.pick (ks := [9]) (by decide) (pk_cons rfl pk_nil)) ⟨ow_any _ _ _ _ tr_TRect, trivial⟩⟩)
     ·refine Tr.sr ?_
      refine Tr.mv rfl rfl ?_
      obtain ⟨y122, hy122, H⟩ := bnd H
      refine Tr.call0 (r := (.bool y122)) (wn rfl) rfl Try.call15 (evl_cons rfl evl_nil) (fun W hW => F_shape_IsRow_ok xL2 Au120_0 cu120_0 (hoku120_0.ext hW.extAll) y122 hy122 (HF.start _)) ?_
      refine Tr.va rfl (fun _ _ h1 h2 => run_not (h1.ev rfl)) ?_
      refine Tr.asg rfl rfl ?_
      refine Tr.nil (Tr.normThen ?_)
      refine Tr.cond rfl H (fun H => ?_) (fun H => ?_)
      ·refine Tr.sr ?_
       refine Tr.asg rfl rfl ?_
       refine Tr.nilOwn 10 32 fl_TRect ?_
       show Tr _ _ (uf _ 2 (.slice none (([] : List TRect)).length 0)) _ _
       refine Tr.asg rfl rfl ?_
       refine Tr.nil (Tr.normThen ?_)
       refine Tr.ret (Tr.retBlock (Tr.retBlock (Tr.retThen (Tr.retThen (Tr.retBlock (Tr.retThen ?_))))))
       obtain rfl := Option.some.inj H
       exact Tr.out (m := [(.slice none (([] : List TRect)).length 0), (iv 3)]) [] (res_tmp rfl (res_tmp rfl res_nil)) (fun W hW => ⟨(none, 0), rfl, slf_nil, HF.lowE leB (hW.pick (ks := [10]) (by decide) (pk_cons rfl pk_nil)) ⟨ow_any _ _ _ _ tr_TRect, trivial⟩⟩)
      ·refine Tr.skip (Tr.normBlock (Tr.normBlock (Tr.normThen ?_)))
       refine Tr.region ?_
       refine Tr.va rfl (fun _ _ h1 h2 => run_add (h1.ev rfl) (h1.ev rfl)) ?_
       refine Tr.mv rfl rfl ?_
       refine Tr.nil ?_
       exact Tr.backThen leL2 (restL2, (iL2 + 1)) ⟨rfl, range_tl hdL2, range_lt hdL2, H⟩ (.cons rfl (.cons rfl (.cons rfl (.cons (congrArg (fun z => some (Value.int .i64 z)) (range_up hdL2 hp0_0.form)) .nil)))) .nil
 | cons xL1 restL1 =>
  rw [F_shape_Filled_L1.eq_2] at H
  refine Tr.sr ?_
  refine Tr.va rfl (fun _ _ h1 h2 => run_lss (h1.ev rfl) (h1.ev rfl)) ?_
  refine Tr.nil (Tr.normThen ?_)
  refine Tr.seq ?_
  refine Tr.condT rfl (range_on hdL1) ?_
  refine Tr.skip (Tr.normThen ?_)
  refine Tr.seq ?_
  refine Tr.block ?_
  refine Tr.sr ?_
  obtain ⟨u123, hRu123, hoku123, hcu123⟩ := (hp0_0).el (range_at hdL1)
  obtain ⟨Au123_0, cu123_0⟩ := u123
  have hoku123_0 := hoku123
  replace hoku123_0 : Sl w.R w.W fl_TPoint Au123_0 cu123_0 xL1 := hoku123_0
  refine Tr.va rfl (fun _ _ h1 h2 => run_indexAddr el_23 (h1.ev rfl) hp0_0.form (h1.ev rfl) (Int.natCast_nonneg _) (range_lt hdL1)) ?_
  refine Tr.va rfl (fun _ _ h1 h2 => run_load1 ag_39 (h1.ev rfl) (rdR hRu123 hcu123 h2) rfl) ?_
  refine Tr.asg rfl rfl ?_
  refine Tr.nil (Tr.normThen ?_)
  refine Tr.region ?_
  refine Tr.mv rfl rfl ?_
  refine Tr.mv rfl rfl ?_
  refine Tr.va rfl (fun _ _ h1 h2 => run_len un_39 (h1.ev rfl)) ?_
  refine Tr.va rfl (fun _ _ h1 h2 => run_add (h1.ev rfl) (h1.ev rfl)) ?_
  refine Tr.asg rfl rfl ?_
  refine Tr.nil (Tr.normBlock (Tr.normThen ?_))
  refine Tr.region ?_
  refine Tr.va rfl (fun _ _ h1 h2 => run_add (h1.ev rfl) (h1.ev rfl)) ?_
  refine Tr.mv rfl rfl ?_
  refine Tr.nil ?_
  exact Tr.backThen leL1 (restL1, (iL1 + 1), (w64 (x110 + (xL1.length : Int)))) ⟨rfl, range_tl hdL1, range_lt hdL1, H⟩ (.cons rfl (.cons rfl (.cons rfl (.cons rfl (.cons (congrArg (fun z => some (Value.int .i64 z)) (range_up hdL1 hp0_0.form)) .nil))))) .nil

theorem F_etchhouselaw1_OutlinesComeBack_ok (N : Nat) {w : Bs} (p0 : (List TRect)) (Ap0_0 : Option Addr) (cp0_0 : Nat) (hp0_0 : Sl w.R w.W fl_TRect Ap0_0 cp0_0 p0) (r : Bool) (H : F_etchhouselaw1_OutlinesComeBack N p0 = some r) (hE : HF w w.W E0) : Calls Try.prog 3 [(.slice Ap0_0 (p0).length cp0_0)].toArray w.W fun e W' => e = .returned (.bool r) ∧ HF w W' E0 := by
 unfold F_etchhouselaw1_OutlinesComeBack at H
 have leB := Bs.Le.refl w
 refine Tr.enter (n := 34) Try.func3 rfl rfl rfl hE ?_
 refine Tr.sr ?_
 refine Tr.asg rfl rfl ?_
 refine Tr.nil (Tr.normThen ?_)
 refine Tr.sr ?_
 refine Tr.mv rfl rfl ?_
 obtain ⟨y100, hy100, H⟩ := bnd H
 refine Tr.callG [1] [emp] (U := (Option Addr × Nat)) (fun u => (.tuple #[(.slice u.1 (y100.1).length u.2), (iv y100.2)])) (fun O W u => SlF u.1 (y100.1).length u.2) (fun u => [ow u.1 u.2 39 fl_LTPoint y100.1]) rfl (pk_cons rfl pk_nil) (fun _ => rfl) (wn rfl) rfl Try.call4 (evl_cons rfl evl_nil) (fun W hW hp hE => F_shape_Outlines_ok N p0 Ap0_0 cp0_0 (hp0_0.ext (hW.extS hp)) y100 hy100 hE) ?_
 intro w u le101 hu
 obtain ⟨Ay100_0, cy100_0⟩ := u
 have gy100_0 := hu
 replace hp0_0 := hp0_0.leR le101
 replace leB := leB.trans le101
 have hgy100_0 : SlF Ay100_0 (y100.1).length cy100_0 := gy100_0 --@phi
 show Tr _ _ (uf _ 8 (.tuple #[(.slice Ay100_0 (y100.1).length cy100_0), (iv y100.2)])) (up _ 1 (ow Ay100_0 cy100_0 39 fl_LTPoint y100.1)) _
 refine Tr.mv rfl rfl ?_
 refine Tr.va rfl (fun _ _ h1 h2 => run_extract (h1.ev rfl) rfl) ?_
 refine Tr.va rfl (fun _ _ h1 h2 => run_extract (h1.ev rfl) rfl) ?_
 refine Tr.asg rfl rfl ?_
 refine Tr.asg rfl rfl ?_
 refine Tr.nil (Tr.normThen ?_)
 refine Tr.seq ?_
 refine Tr.sr ?_
 refine Tr.mv rfl rfl ?_
 refine Tr.va rfl (fun _ _ h1 h2 => run_neq (h1.ev rfl) (h1.ev rfl)) ?_
 refine Tr.nil (Tr.normThen ?_)
 refine Tr.cond rfl H (fun H => ?_) (fun H => ?_)
 ·refine Tr.sr ?_
  refine Tr.mv rfl rfl ?_
  refine Tr.va rfl (fun _ _ h1 h2 => run_len un_23 (h1.ev rfl)) ?_
  refine Tr.va rfl (fun _ _ h1 h2 => run_eql (h1.ev rfl) (h1.ev rfl)) ?_
  refine Tr.mv rfl rfl ?_
  obtain ⟨g103, hg103, H⟩ := bnd H
  refine Tr.mid0 2 [(18, (.bool g103))] [(1, ow Ay100_0 cy100_0 39 fl_LTPoint y100.1)] ?_ ?_
  ·cases hg104 : ((y100.1.length : Int) == 0)
   ·rw [hg104] at hg103
    rw [if_neg (by decide)] at hg103
    have H := hg103
    obtain rfl := Option.some.inj H
    refine Tr.pass rfl rfl rfl rfl rfl (by decide) ?_
    refine Tr.va rfl (fun _ _ h1 h2 => run_pickF (h1.ev rfl) (h1.ev rfl)) ?_
    exact Tr.nil (Tr.fin0 (.cons rfl .nil) (.cons rfl .nil))
   ·rw [hg104] at hg103
    rw [if_pos rfl] at hg103
    have H := hg103
    obtain ⟨y104, hy104, H⟩ := bnd H
    refine Tr.call0 (r := (.bool y104)) (wg rfl rfl rfl) rfl Try.call5 evl_nil (fun W hW => F_etchhouselaw1_awake_ok N y104 hy104 (HF.start _)) ?_
    refine Tr.va rfl (fun _ _ h1 h2 => run_pickT (h1.ev rfl) (h1.ev rfl)) ?_
    obtain rfl := Option.some.inj H
    exact Tr.nil (Tr.fin0 (.cons rfl .nil) (.cons rfl .nil))
  ·show Tr _ _ (LF [(18, (.bool g103))]) (LE [(1, ow Ay100_0 cy100_0 39 fl_LTPoint y100.1)]) _
   refine Tr.asg rfl rfl ?_
   refine Tr.nil (Tr.normThen ?_)
   refine Tr.ret (Tr.retThen ?_)
   obtain rfl := Option.some.inj H
   exact Tr.out (m := [(.bool g103)]) [] (res_tmp rfl res_nil) (fun W hW => ⟨rfl, hW.low leB⟩)
 ·refine Tr.skip (Tr.normThen ?_)
  refine Tr.sr ?_
  refine Tr.mv rfl rfl ?_
  obtain ⟨y105, hy105, H⟩ := bnd H
  refine Tr.callM [2] [emp] (U := (Option Addr × Nat)) (fun u => (.tuple #[(.slice u.1 (y105.1).length u.2), (iv y105.2)])) (fun u => SlF u.1 (y105.1).length u.2) (fun u => [ow u.1 u.2 32 fl_TRect y105.1]) rfl (pk_cons rfl pk_nil) (fun _ => rfl) (wn rfl) rfl Try.call6 (evl_cons rfl evl_nil) (fun W hW hp hE => F_shape_Filled_ok N y100.1 Ay100_0 cy100_0 (hW.slS (k := 1) rfl hp rfl) y105 hy105 hE) ?_
  intro u hu
  obtain ⟨Ay105_0, cy105_0⟩ := u
  have gy105_0 := hu
  have hgy105_0 : SlF Ay105_0 (y105.1).length cy105_0 := gy105_0 --@phi
  show Tr _ _ (uf _ 21 (.tuple #[(.slice Ay105_0 (y105.1).length cy105_0), (iv y105.2)])) (up _ 2 (ow Ay105_0 cy105_0 32 fl_TRect y105.1)) _
  refine Tr.mv rfl rfl ?_
  refine Tr.va rfl (fun _ _ h1 h2 => run_extract (h1.ev rfl) rfl) ?_
  refine Tr.va rfl (fun _ _ h1 h2 => run_extract (h1.ev rfl) rfl) ?_
  refine Tr.asg rfl rfl ?_
  refine Tr.asg rfl rfl ?_
  refine Tr.nil (Tr.normThen ?_)
  refine Tr.sr ?_
  refine Tr.mv rfl rfl ?_
  refine Tr.va rfl (fun _ _ h1 h2 => run_eql (h1.ev rfl) (h1.ev rfl)) ?_
  refine Tr.mv rfl rfl ?_
  obtain ⟨g108, hg108, H⟩ := bnd H
  refine Tr.mid0 4 [(30, (.bool g108))] [(1, ow Ay100_0 cy100_0 39 fl_LTPoint y100.1), (2, ow Ay105_0 cy105_0 32 fl_TRect y105.1)] ?_ ?_
  ·cases hg112 : (y105.2 == 0)
   ·rw [hg112] at hg108
    rw [if_neg (by decide)] at hg108
    have H := hg108
    obtain rfl := Option.some.inj H
    refine Tr.pass rfl rfl rfl rfl rfl (by decide) ?_
    refine Tr.pass rfl rfl rfl rfl rfl (by decide) ?_
    refine Tr.pass rfl rfl rfl rfl rfl (by decide) ?_
    refine Tr.va rfl (fun _ _ h1 h2 => run_pickF (h1.ev rfl) (h1.ev rfl)) ?_
    exact Tr.nil (Tr.fin0 (.cons rfl .nil) (.cons rfl (.cons rfl .nil)))
   ·rw [hg112] at hg108
    rw [if_pos rfl] at hg108
    have H := hg108
    refine Tr.val (wg rfl rfl rfl) rfl (fun _ _ h1 h2 => run_move (h1.ev rfl)) ?_
    refine Tr.val (wg rfl rfl rfl) rfl (fun _ _ h1 h2 => run_move (h1.ev rfl)) ?_
    obtain ⟨y109, hy109, H⟩ := bnd H
    refine Tr.call0 (r := (.bool y109)) (wg rfl rfl rfl) rfl Try.call7 (evl_cons rfl (evl_cons rfl evl_nil)) (fun W hW => F_slices_Equal_Rect_ok y105.1 Ay105_0 cy105_0 (hW.slCall (k := 2) rfl) p0 Ap0_0 cp0_0 (hp0_0.ext hW.extAll) y109 hy109 (HF.start _)) ?_
    refine Tr.va rfl (fun _ _ h1 h2 => run_pickT (h1.ev rfl) (h1.ev rfl)) ?_
    obtain rfl := Option.some.inj H
    exact Tr.nil (Tr.fin0 (.cons rfl .nil) (.cons rfl (.cons rfl .nil)))
  ·show Tr _ _ (LF [(30, (.bool g108))]) (LE [(1, ow Ay100_0 cy100_0 39 fl_LTPoint y100.1), (2, ow Ay105_0 cy105_0 32 fl_TRect y105.1)]) _
   refine Tr.mv rfl rfl ?_
   obtain ⟨g111, hg111, H⟩ := bnd H
   refine Tr.mid0 2 [(33, (.bool g111))] [(1, ow Ay100_0 cy100_0 39 fl_LTPoint y100.1), (2, ow Ay105_0 cy105_0 32 fl_TRect y105.1)] ?_ ?_
   ·cases hg112 : g108
    ·rw [hg112] at hg111
     rw [if_neg (by decide)] at hg111
     have H := hg111
     obtain rfl := Option.some.inj H
     refine Tr.pass rfl rfl rfl rfl rfl (by decide) ?_
     refine Tr.va rfl (fun _ _ h1 h2 => run_pickF (h1.ev rfl) (h1.ev rfl)) ?_
     exact Tr.nil (Tr.fin0 (.cons rfl .nil) (.cons rfl (.cons rfl .nil)))
    ·rw [hg112] at hg111
     rw [if_pos rfl] at hg111
     have H := hg111
     obtain ⟨y112, hy112, H⟩ := bnd H
     refine Tr.call0 (r := (.bool y112)) (wg rfl rfl rfl) rfl Try.call5 evl_nil (fun W hW => F_etchhouselaw1_awake_ok N y112 hy112 (HF.start _)) ?_
     refine Tr.va rfl (fun _ _ h1 h2 => run_pickT (h1.ev rfl) (h1.ev rfl)) ?_
     obtain rfl := Option.some.inj H
     exact Tr.nil (Tr.fin0 (.cons rfl .nil) (.cons rfl (.cons rfl .nil)))
   ·show Tr _ _ (LF [(33, (.bool g111))]) (LE [(1, ow Ay100_0 cy100_0 39 fl_LTPoint y100.1), (2, ow Ay105_0 cy105_0 32 fl_TRect y105.1)]) _
    refine Tr.asg rfl rfl ?_
    refine Tr.nil (Tr.normThen ?_)
    refine Tr.ret ?_
    obtain rfl := Option.some.inj H
    exact Tr.out (m := [(.bool g111)]) [] (res_tmp rfl res_nil) (fun W hW => ⟨rfl, hW.low leB⟩)

end Go.Proofs.Ytacapjleiadkkaa
