/- The walks: each function computes its plain function. -/
import Derived.Test.YtcjeebkoafonpaaGreatDoorXWc
namespace Go.Proofs.YtcjeebkoafonpaaGreatDoor
open Go.RowKit
set_option maxRecDepth 100000
set_option maxHeartbeats 1000000
theorem F_etchhouseref1_next_ok (N : Nat) {w : Bs} (p0 : (List Tetchhouseref1Side)) (Ap0_0 : Option Addr) (cp0_0 : Nat) (hp0_0 : Sl w.R w.W fl_Tetchhouseref1Side Ap0_0 cp0_0 p0) (p1 : (List Bool)) (Ap1_0 : Option Addr) (cp1_0 : Nat) (hp1_0 : Sl w.R w.W fl_bool Ap1_0 cp1_0 p1) (p2 : Tetchhouseref1Side) (r : Int) (H : F_etchhouseref1_next N p0 p1 p2 = some r) (hE : HF w w.W E0) : Calls Tryz.prog 83 [(.slice Ap0_0 (p0).length cp0_0), (.slice Ap1_0 (p1).length cp1_0), (.agg #[(iv p2.from_.X), (iv p2.from_.Y), (iv p2.to_.X), (iv p2.to_.Y)])].toArray w.W fun e W' => e = .returned (iv r) ∧ HF w W' E0 := by
 unfold F_etchhouseref1_next at H
 have leB := Bs.Le.refl w
 refine Tr.enter (n := 58) Tryz.func83 rfl rfl rfl hE ?_
 refine Tr.sr ?_
 refine Tr.box 1 (cs := [(iv p2.from_.X), (iv p2.from_.Y), (iv p2.to_.X), (iv p2.to_.Y)]) (wn rfl) rfl rfl rfl fun b100 => ?_
 refine Tr.asg rfl rfl ?_
 refine Tr.nil (Tr.normThen ?_)
 refine Tr.sr ?_
 refine Tr.asg rfl rfl ?_
 refine Tr.nil (Tr.normThen ?_)
 refine Tr.sr ?_
 refine Tr.va rfl (fun _ _ h1 h2 => run_loadN (cs := [(iv p2.from_.X), (iv p2.from_.Y), (iv p2.to_.X), (iv p2.to_.Y)]) ag_142 sz_142 (h1.ev rfl) (CellsAt.take (rdb h2 (vs := [(iv p2.from_.X), (iv p2.from_.Y), (iv p2.to_.X), (iv p2.to_.Y)]) (k := 1) rfl 0) 4) rfl) ?_
 obtain ⟨y101, hy101, H⟩ := bnd H
 refine Tr.call0 (r := (.agg #[(iv y101.X), (iv y101.Y)])) (wn rfl) rfl Tryz.call127 (evl_cons rfl evl_nil) (fun W hW => F_etchhouseref1_way_ok p2 y101 hy101 (HF.start _)) ?_
 refine Tr.alloc 2 (wn rfl) rfl ze_47 fun b102 => ?_
 refine Tr.store 2 (cs := [(iv y101.X), (iv y101.Y)]) [(iv y101.X), (iv y101.Y)] (wn rfl) rfl rfl rfl rfl sz_47 rfl rfl rfl ?_
 refine Tr.nil (Tr.normThen ?_)
 refine Tr.seq ?_
 refine Tr.sr ?_
 refine Tr.asg rfl rfl ?_
 refine Tr.nil (Tr.normThen ?_)
 refine Tr.block ?_
 refine Tr.loop (σ := Int × Int) (fun m w s => F_etchhouseref1_next_L1 p0 p1 p2 y101 m s.1 s.2 = some r) (fun s => [(0, (.slice Ap0_0 (p0).length cp0_0)), (1, (.slice Ap1_0 (p1).length cp1_0)), (5, (.pointer (some ⟨b100, 0, none⟩))), (7, (iv s.1)), (8, (.pointer (some ⟨b102, 0, none⟩))), (9, (iv s.2))]) (fun s => [(1, bx b100 #[(iv p2.from_.X), (iv p2.from_.Y), (iv p2.to_.X), (iv p2.to_.Y)] 142), (2, bx b102 #[(iv y101.X), (iv y101.Y)] 47)]) N ((-1), 0) H (.r rfl) (.r rfl) (fun _ _ h => noSome (h)) ?_
 intro w leL1 mL1 s hs
 obtain ⟨x123, x124⟩ := s
 have H := hs
 replace H : F_etchhouseref1_next_L1 p0 p1 p2 y101 (mL1 + 1) x123 x124 = some r := H
 replace hp0_0 := hp0_0.leR leL1
 replace hp1_0 := hp1_0.leR leL1
 replace leB := leB.trans leL1
 rw [F_etchhouseref1_next_L1.eq_2] at H
 show Tr _ _ (LF [(0, (.slice Ap0_0 (p0).length cp0_0)), (1, (.slice Ap1_0 (p1).length cp1_0)), (5, (.pointer (some ⟨b100, 0, none⟩))), (7, (iv x123)), (8, (.pointer (some ⟨b102, 0, none⟩))), (9, (iv x124))]) (LE [(1, bx b100 #[(iv p2.from_.X), (iv p2.from_.Y), (iv p2.to_.X), (iv p2.to_.Y)] 142), (2, bx b102 #[(iv y101.X), (iv y101.Y)] 47)]) _
 refine Tr.seq ?_
 refine Tr.sr ?_
 refine Tr.mv rfl rfl ?_
 refine Tr.mv rfl rfl ?_
 refine Tr.v1 rfl (run_len un_138) rfl ?_
 refine Tr.v2 rfl run_lss rfl rfl ?_
 refine Tr.nil (Tr.normThen ?_)
 refine Tr.cond rfl H (fun H => ?_) (fun H => ?_)
 ·refine Tr.skip (Tr.normThen ?_)
  refine Tr.seq ?_
  refine Tr.block ?_
  refine Tr.seq ?_
  refine Tr.seq ?_
  refine Tr.draw (by kernel_rfl) (by kernel_rfl) ?_
  refine Tq.mv rfl rfl ?_
  refine Tq.mv rfl rfl ?_
  obtain ⟨x125, hx125, H⟩ := bnd H
  obtain ⟨hx1250, hx1251, hx1252⟩ := idx_some hx125
  refine Tq.va rfl (fun _ _ h1 h2 => run_indexAddr el_126 (h1.ev rfl) hp1_0.form (h1.ev rfl) hx1250 hx1251) ?_
  refine Tq.va rfl (fun _ _ h1 h2 => run_load1 ag_4 (h1.ev rfl) (rdF ef_bool hp1_0 hx1252 h2) rfl) ?_
  refine Tq.mv rfl rfl ?_
  obtain ⟨g127, hg127, H⟩ := bnd H
  refine Tq.mid 9 [(0, (.slice Ap0_0 (p0).length cp0_0)), (1, (.slice Ap1_0 (p1).length cp1_0)), (5, (.pointer (some ⟨b100, 0, none⟩))), (7, (iv x123)), (8, (.pointer (some ⟨b102, 0, none⟩))), (9, (iv x124)), (33, (.bool g127))] ?_ ?_
  ·cases hg131 : x125
   ·rw [hg131] at hg127
    rw [if_neg (by decide)] at hg127
    have H := hg127
    refine Tq.w1 (wg rfl rfl rfl) rfl run_move rfl ?_
    refine Tq.w1 (wg rfl rfl rfl) rfl run_move rfl ?_
    obtain ⟨x128, hx128, H⟩ := bnd H
    obtain ⟨hx1280, hx1281, hx1282⟩ := idx_some hx128
    refine Tq.val (wg rfl rfl rfl) rfl (fun _ _ h1 h2 => run_indexAddr el_138 (h1.ev rfl) hp0_0.form (h1.ev rfl) hx1280 hx1281) ?_
    refine Tq.w1 (wg rfl rfl rfl) rfl (run_fieldAddr fo_142_0) rfl ?_
    refine Tq.val (wg rfl rfl rfl) rfl (fun _ _ h1 h2 => run_loadN (cs := [(iv x128.from_.X), (iv x128.from_.Y)]) ag_47 sz_47 (h1.ev rfl) (CellsAt.take (CellsAt.drop (rdF ef_Tetchhouseref1Side hp0_0 hx1282 h2) 0) 2) rfl) ?_
    refine Tq.w1 (wg rfl rfl rfl) rfl (run_fieldAddr fo_142_1) rfl ?_
    refine Tq.val (wg rfl rfl rfl) rfl (fun _ _ h1 h2 => run_loadN (cs := [(iv p2.to_.X), (iv p2.to_.Y)]) ag_47 sz_47 (h1.ev rfl) (CellsAt.take (rdb h2 (vs := [(iv p2.from_.X), (iv p2.from_.Y), (iv p2.to_.X), (iv p2.to_.Y)]) (k := 1) rfl 2) 2) rfl) ?_
    refine Tq.w2 (wg rfl rfl rfl) rfl (run_neq_47 x128.from_ p2.to_) rfl rfl ?_
    refine Tq.v2 rfl run_pickF rfl rfl ?_
    obtain rfl := Option.some.inj H
    exact Tq.fin (.r rfl)
   ·rw [hg131] at hg127
    rw [if_pos rfl] at hg127
    have H := hg127
    obtain rfl := Option.some.inj H
    refine Tq.ps ?_
    refine Tq.ps ?_
    refine Tq.ps ?_
    refine Tq.ps ?_
    refine Tq.ps ?_
    refine Tq.ps ?_
    refine Tq.ps ?_
    refine Tq.ps ?_
    refine Tq.v2 rfl run_pickT rfl rfl ?_
    exact Tq.fin (.r rfl)
  ·refine Tq.nil (Tr.normThen ?_)
   refine Tr.cond rfl H (fun H => ?_) (fun H => ?_)
   ·refine Tr.exit (Tr.exitThen (Tr.exitBlock (Tr.normThen ?_)))
    refine Tr.region ?_
    refine Tr.mv rfl rfl ?_
    refine Tr.v2 rfl run_add rfl rfl ?_
    refine Tr.asg rfl rfl ?_
    refine Tr.nil ?_
    exact Tr.backThen leL1 (x123, (w64 (x124 + 1))) H (.r rfl) (.r rfl)
   ·refine Tr.skip (Tr.normThen ?_)
    refine Tr.sr ?_
    refine Tr.mv rfl rfl ?_
    refine Tr.mv rfl rfl ?_
    obtain ⟨x129, hx129, H⟩ := bnd H
    obtain ⟨hx1290, hx1291, hx1292⟩ := idx_some hx129
    refine Tr.va rfl (fun _ _ h1 h2 => run_indexAddr el_138 (h1.ev rfl) hp0_0.form (h1.ev rfl) hx1290 hx1291) ?_
    refine Tr.va rfl (fun _ _ h1 h2 => run_loadN (cs := [(iv x129.from_.X), (iv x129.from_.Y), (iv x129.to_.X), (iv x129.to_.Y)]) ag_142 sz_142 (h1.ev rfl) (CellsAt.take (rdF ef_Tetchhouseref1Side hp0_0 hx1292 h2) 4) rfl) ?_
    obtain ⟨y130, hy130, H⟩ := bnd H
    refine Tr.call0 (r := (.agg #[(iv y130.X), (iv y130.Y)])) (wn rfl) rfl Tryz.call127 (evl_cons rfl evl_nil) (fun W hW => F_etchhouseref1_way_ok x129 y130 hy130 (HF.start _)) ?_
    refine Tr.alloc 5 (wn rfl) rfl ze_47 fun b131 => ?_
    refine Tr.store 5 (cs := [(iv y130.X), (iv y130.Y)]) [(iv y130.X), (iv y130.Y)] (wn rfl) rfl rfl rfl rfl sz_47 rfl rfl rfl ?_
    refine Tr.nil (Tr.normThen ?_)
    refine Tr.sr ?_
    refine Tr.v1 rfl (run_fieldAddr fo_47_0) rfl ?_
    refine Tr.va rfl (fun _ _ h1 h2 => run_load1 ag_3 (h1.ev rfl) (rdb h2 (vs := [(iv y101.X), (iv y101.Y)]) (k := 2) rfl 0) rfl) ?_
    refine Tr.v1 rfl (run_fieldAddr fo_47_1) rfl ?_
    refine Tr.va rfl (fun _ _ h1 h2 => run_load1 ag_3 (h1.ev rfl) (rdb h2 (vs := [(iv y130.X), (iv y130.Y)]) (k := 5) rfl 1) rfl) ?_
    refine Tr.v2 rfl run_mul rfl rfl ?_
    refine Tr.v1 rfl (run_fieldAddr fo_47_1) rfl ?_
    refine Tr.va rfl (fun _ _ h1 h2 => run_load1 ag_3 (h1.ev rfl) (rdb h2 (vs := [(iv y101.X), (iv y101.Y)]) (k := 2) rfl 1) rfl) ?_
    refine Tr.v1 rfl (run_fieldAddr fo_47_0) rfl ?_
    refine Tr.va rfl (fun _ _ h1 h2 => run_load1 ag_3 (h1.ev rfl) (rdb h2 (vs := [(iv y130.X), (iv y130.Y)]) (k := 5) rfl 0) rfl) ?_
    refine Tr.v2 rfl run_mul rfl rfl ?_
    refine Tr.v2 rfl run_sub rfl rfl ?_
    refine Tr.v2 rfl run_gtr rfl rfl ?_
    refine Tr.asg rfl rfl ?_
    refine Tr.nil (Tr.normThen ?_)
    refine Tr.sr ?_
    refine Tr.mv rfl rfl ?_
    refine Tr.v2 rfl run_lss rfl rfl ?_
    refine Tr.mv rfl rfl ?_
    refine Tr.mid0 2 [(0, (.slice Ap0_0 (p0).length cp0_0)), (1, (.slice Ap1_0 (p1).length cp1_0)), (5, (.pointer (some ⟨b100, 0, none⟩))), (7, (iv x123)), (8, (.pointer (some ⟨b102, 0, none⟩))), (9, (iv x124)), (55, (.bool ((decide (x123 < 0)) || (decide (0 < (w64 ((w64 (y101.X * y130.Y)) - (w64 (y101.Y * y130.X)))))))))] [(1, bx b100 #[(iv p2.from_.X), (iv p2.from_.Y), (iv p2.to_.X), (iv p2.to_.Y)] 142), (2, bx b102 #[(iv y101.X), (iv y101.Y)] 47), (5, bx b131 #[(iv y130.X), (iv y130.Y)] 47)] ?_ ?_
    ·cases hg131 : (decide (x123 < 0))
     ·refine Tr.w1 (wg rfl rfl rfl) rfl run_move rfl ?_
      refine Tr.v2 rfl run_pickF rfl rfl ?_
      exact Tr.nil (Tr.fin0 (.r rfl) (.r rfl))
     ·refine Tr.ps ?_
      refine Tr.v2 rfl run_pickT rfl rfl ?_
      exact Tr.nil (Tr.fin0 (.r rfl) (.r rfl))
    ·show Tr _ _ (LF [(0, (.slice Ap0_0 (p0).length cp0_0)), (1, (.slice Ap1_0 (p1).length cp1_0)), (5, (.pointer (some ⟨b100, 0, none⟩))), (7, (iv x123)), (8, (.pointer (some ⟨b102, 0, none⟩))), (9, (iv x124)), (55, (.bool ((decide (x123 < 0)) || (decide (0 < (w64 ((w64 (y101.X * y130.Y)) - (w64 (y101.Y * y130.X)))))))))]) (LE [(1, bx b100 #[(iv p2.from_.X), (iv p2.from_.Y), (iv p2.to_.X), (iv p2.to_.Y)] 142), (2, bx b102 #[(iv y101.X), (iv y101.Y)] 47), (5, bx b131 #[(iv y130.X), (iv y130.Y)] 47)]) _
     refine Tr.nil (Tr.normThen ?_)
     refine Tr.cond rfl H (fun H => ?_) (fun H => ?_)
     ·refine Tr.region ?_
      refine Tr.mv rfl rfl ?_
      refine Tr.asg rfl rfl ?_
      refine Tr.nil (Tr.normBlock (Tr.normThen ?_))
      refine Tr.region ?_
      refine Tr.mv rfl rfl ?_
      refine Tr.v2 rfl run_add rfl rfl ?_
      refine Tr.asg rfl rfl ?_
      refine Tr.nil ?_
      exact Tr.backThen leL1 (x124, (w64 (x124 + 1))) H (.r rfl) (.r rfl)
     ·refine Tr.skip (Tr.normBlock (Tr.normThen ?_))
      refine Tr.region ?_
      refine Tr.mv rfl rfl ?_
      refine Tr.v2 rfl run_add rfl rfl ?_
      refine Tr.asg rfl rfl ?_
      refine Tr.nil ?_
      exact Tr.backThen leL1 (x123, (w64 (x124 + 1))) H (.r rfl) (.r rfl)
 ·refine Tr.exit (Tr.exitThen (Tr.exitThen (Tr.exitBlock (Tr.normThen ?_))))
  refine Tr.sr ?_
  refine Tr.mv rfl rfl ?_
  refine Tr.asg rfl rfl ?_
  refine Tr.nil (Tr.normThen ?_)
  refine Tr.ret ?_
  obtain rfl := Option.some.inj H
  exact Tr.out (m := [(iv x123)]) [] (res_tmp rfl res_nil) (fun W hW => ⟨rfl, hW.low leB⟩)

theorem F_etchhouseref1_less_ok {w : Bs} (p0 : TPoint) (p1 : TPoint) (r : Bool) (H : F_etchhouseref1_less p0 p1 = some r) (hE : HF w w.W E0) : Calls Tryz.prog 85 [(.agg #[(iv p0.X), (iv p0.Y)]), (.agg #[(iv p1.X), (iv p1.Y)])].toArray w.W fun e W' => e = .returned (.bool r) ∧ HF w W' E0 := by
 unfold F_etchhouseref1_less at H
 have leB := Bs.Le.refl w
 refine Tr.enter (n := 24) Tryz.func85 rfl rfl rfl hE ?_
 refine Tr.sr ?_
 refine Tr.box 1 (cs := [(iv p0.X), (iv p0.Y)]) (wn rfl) rfl rfl rfl fun b100 => ?_
 refine Tr.box 2 (cs := [(iv p1.X), (iv p1.Y)]) (wn rfl) rfl rfl rfl fun b101 => ?_
 refine Tr.asg rfl rfl ?_
 refine Tr.nil (Tr.normThen ?_)
 refine Tr.sr ?_
 refine Tr.v1 rfl (run_fieldAddr fo_47_1) rfl ?_
 refine Tr.va rfl (fun _ _ h1 h2 => run_load1 ag_3 (h1.ev rfl) (rdb h2 (vs := [(iv p0.X), (iv p0.Y)]) (k := 1) rfl 1) rfl) ?_
 refine Tr.v1 rfl (run_fieldAddr fo_47_1) rfl ?_
 refine Tr.va rfl (fun _ _ h1 h2 => run_load1 ag_3 (h1.ev rfl) (rdb h2 (vs := [(iv p1.X), (iv p1.Y)]) (k := 2) rfl 1) rfl) ?_
 refine Tr.v2 rfl run_lss rfl rfl ?_
 refine Tr.mv rfl rfl ?_
 refine Tr.mid0 13 [(23, (.bool ((decide (p0.Y < p1.Y)) || ((p0.Y == p1.Y) && (decide (p0.X < p1.X))))))] [(1, bx b100 #[(iv p0.X), (iv p0.Y)] 47), (2, bx b101 #[(iv p1.X), (iv p1.Y)] 47)] ?_ ?_
 ·cases hg101 : (decide (p0.Y < p1.Y))
  ·refine Tr.w1 (wg rfl rfl rfl) rfl (run_fieldAddr fo_47_1) rfl ?_
   refine Tr.val (wg rfl rfl rfl) rfl (fun _ _ h1 h2 => run_load1 ag_3 (h1.ev rfl) (rdb h2 (vs := [(iv p0.X), (iv p0.Y)]) (k := 1) rfl 1) rfl) ?_
   refine Tr.w1 (wg rfl rfl rfl) rfl (run_fieldAddr fo_47_1) rfl ?_
   refine Tr.val (wg rfl rfl rfl) rfl (fun _ _ h1 h2 => run_load1 ag_3 (h1.ev rfl) (rdb h2 (vs := [(iv p1.X), (iv p1.Y)]) (k := 2) rfl 1) rfl) ?_
   refine Tr.w2 (wg rfl rfl rfl) rfl run_eql rfl rfl ?_
   refine Tr.w1 (wg rfl rfl rfl) rfl run_move rfl ?_
   refine Tr.mid0 6 [(10, (.bool false)), (22, (.bool ((p0.Y == p1.Y) && (decide (p0.X < p1.X)))))] [(1, bx b100 #[(iv p0.X), (iv p0.Y)] 47), (2, bx b101 #[(iv p1.X), (iv p1.Y)] 47)] ?_ ?_
   ·cases hg101 : (p0.Y == p1.Y)
    ·refine Tr.ps ?_
     refine Tr.ps ?_
     refine Tr.ps ?_
     refine Tr.ps ?_
     refine Tr.ps ?_
     refine Tr.w2 (wg rfl rfl rfl) rfl run_pickF rfl rfl ?_
     exact Tr.nil (Tr.fin0 (.r rfl) (.r rfl))
    ·refine Tr.w1 (wg rfl rfl rfl) rfl (run_fieldAddr fo_47_0) rfl ?_
     refine Tr.val (wg rfl rfl rfl) rfl (fun _ _ h1 h2 => run_load1 ag_3 (h1.ev rfl) (rdb h2 (vs := [(iv p0.X), (iv p0.Y)]) (k := 1) rfl 0) rfl) ?_
     refine Tr.w1 (wg rfl rfl rfl) rfl (run_fieldAddr fo_47_0) rfl ?_
     refine Tr.val (wg rfl rfl rfl) rfl (fun _ _ h1 h2 => run_load1 ag_3 (h1.ev rfl) (rdb h2 (vs := [(iv p1.X), (iv p1.Y)]) (k := 2) rfl 0) rfl) ?_
     refine Tr.w2 (wg rfl rfl rfl) rfl run_lss rfl rfl ?_
     refine Tr.w2 (wg rfl rfl rfl) rfl run_pickT rfl rfl ?_
     exact Tr.nil (Tr.fin0 (.r rfl) (.r rfl))
   ·show Tr _ _ (LF [(10, (.bool false)), (22, (.bool ((p0.Y == p1.Y) && (decide (p0.X < p1.X)))))]) (LE [(1, bx b100 #[(iv p0.X), (iv p0.Y)] 47), (2, bx b101 #[(iv p1.X), (iv p1.Y)] 47)]) _
    refine Tr.v2 rfl run_pickF rfl rfl ?_
    exact Tr.nil (Tr.fin0 (.r rfl) (.r rfl))
  ·refine Tr.ps ?_
   refine Tr.ps ?_
   refine Tr.ps ?_
   refine Tr.ps ?_
   refine Tr.ps ?_
   refine Tr.ps ?_
   refine Tr.pu ?_
   refine Tr.pu ?_
   refine Tr.pu ?_
   refine Tr.pu ?_
   refine Tr.pu ?_
   refine Tr.ps ?_
   refine Tr.v2 rfl run_pickT rfl rfl ?_
   exact Tr.nil (Tr.fin0 (.r rfl) (.r rfl))
 ·show Tr _ _ (LF [(23, (.bool ((decide (p0.Y < p1.Y)) || ((p0.Y == p1.Y) && (decide (p0.X < p1.X))))))]) (LE [(1, bx b100 #[(iv p0.X), (iv p0.Y)] 47), (2, bx b101 #[(iv p1.X), (iv p1.Y)] 47)]) _
  refine Tr.asg rfl rfl ?_
  refine Tr.nil (Tr.normThen ?_)
  refine Tr.ret ?_
  obtain rfl := Option.some.inj H
  exact Tr.out (m := [(.bool ((decide (p0.Y < p1.Y)) || ((p0.Y == p1.Y) && (decide (p0.X < p1.X)))))]) [] (res_tmp rfl res_nil) (fun W hW => ⟨rfl, hW.low leB⟩)

theorem F_etchhouseref1_corners_ok (N : Nat) {w : Bs} (p0 : (List Tetchhouseref1Side)) (Ap0_0 : Option Addr) (cp0_0 : Nat) (hp0_0 : Sl w.R w.W fl_Tetchhouseref1Side Ap0_0 cp0_0 p0) (r : (List TPoint)) (H : F_etchhouseref1_corners N p0 = some r) (hE : HF w w.W (LEn [emp])) : Calls Tryz.prog 84 [(.slice Ap0_0 (p0).length cp0_0)].toArray w.W fun e W' => ∃ u : (Option Addr × Nat), e = .returned (.slice u.1 (r).length u.2) ∧ (SlF u.1 (r).length u.2) ∧ HF w W' (LEn [ow u.1 u.2 47 fl_TPoint r]) := by
 unfold F_etchhouseref1_corners at H
 have leB := Bs.Le.refl w
 refine Tr.enter (n := 68) Tryz.func84 rfl rfl rfl hE ?_
 refine Tr.sr ?_
 refine Tr.asg rfl rfl ?_
 refine Tr.nilOwn 1 47 fl_TPoint ?_
 show Tr _ _ (uf _ 2 (.slice none (([] : List TPoint)).length 0)) _ _
 refine Tr.nil (Tr.normThen ?_)
 refine Tr.sr ?_
 refine Tr.asg rfl rfl ?_
 refine Tr.nilOwn 2 47 fl_TPoint ?_
 show Tr _ _ (uf _ 3 (.slice none (([] : List TPoint)).length 0)) _ _
 refine Tr.nil (Tr.normThen ?_)
 refine Tr.seq ?_
 refine Tr.sr ?_
 refine Tr.asg rfl rfl ?_
 refine Tr.nil (Tr.normThen ?_)
 refine Tr.block ?_
 refine Tr.loop (σ := (List TPoint) × Int × (Option Addr) × Nat) (fun m w s => F_etchhouseref1_corners_L1 N p0 m s.1 s.2.1 = some r ∧ SlF s.2.2.1 (s.1).length s.2.2.2) (fun s => [(0, (.slice Ap0_0 (p0).length cp0_0)), (3, (.slice s.2.2.1 (s.1).length s.2.2.2)), (4, (iv s.2.1))]) (fun s => [(2, ow s.2.2.1 s.2.2.2 47 fl_TPoint s.1)]) N (([] : List TPoint), 0, none, 0) ⟨H, slf_nil⟩ (.r rfl) (.r rfl) (fun _ _ h => noSome (h.1)) ?_
 intro w leL1 mL1 s hs
 obtain ⟨l124, x125, Al124, cl124⟩ := s
 obtain ⟨H, hl124⟩ := hs
 replace H : F_etchhouseref1_corners_L1 N p0 (mL1 + 1) l124 x125 = some r := H
 replace hp0_0 := hp0_0.leR leL1
 replace leB := leB.trans leL1
 replace hl124 : SlF Al124 (l124).length cl124 := hl124
 rw [F_etchhouseref1_corners_L1.eq_2] at H
 show Tr _ _ (LF [(0, (.slice Ap0_0 (p0).length cp0_0)), (3, (.slice Al124 (l124).length cl124)), (4, (iv x125))]) (LE [(2, ow Al124 cl124 47 fl_TPoint l124)]) _
 refine Tr.seq ?_
 refine Tr.sr ?_
 refine Tr.mv rfl rfl ?_
 refine Tr.mv rfl rfl ?_
 refine Tr.v1 rfl (run_len un_138) rfl ?_
 refine Tr.v2 rfl run_lss rfl rfl ?_
 refine Tr.nil (Tr.normThen ?_)
 refine Tr.cond rfl H (fun H => ?_) (fun H => ?_)
 ·refine Tr.skip (Tr.normThen ?_)
  refine Tr.seq ?_
  refine Tr.block ?_
  refine Tr.sr ?_
  refine Tr.mv rfl rfl ?_
  refine Tr.mv rfl rfl ?_
  refine Tr.mv rfl rfl ?_
  refine Tr.v1 rfl (run_len un_138) rfl ?_
  refine Tr.v2 rfl run_add rfl rfl ?_
  refine Tr.v2 rfl run_sub rfl rfl ?_
  refine Tr.mv rfl rfl ?_
  refine Tr.v1 rfl (run_len un_138) rfl ?_
  obtain ⟨q126, hq126, H⟩ := bnd H
  refine Tr.va rfl (fun _ _ h1 h2 => run_md (h1.ev rfl) (h1.ev rfl) hq126) ?_
  obtain ⟨x127, hx127, H⟩ := bnd H
  obtain ⟨hx1270, hx1271, hx1272⟩ := idx_some hx127
  refine Tr.va rfl (fun _ _ h1 h2 => run_indexAddr el_138 (h1.ev rfl) hp0_0.form (h1.ev rfl) hx1270 hx1271) ?_
  refine Tr.va rfl (fun _ _ h1 h2 => run_loadN (cs := [(iv x127.from_.X), (iv x127.from_.Y), (iv x127.to_.X), (iv x127.to_.Y)]) ag_142 sz_142 (h1.ev rfl) (CellsAt.take (rdF ef_Tetchhouseref1Side hp0_0 hx1272 h2) 4) rfl) ?_
  refine Tr.alloc 7 (wn rfl) rfl ze_142 fun b128 => ?_
  refine Tr.store 7 (cs := [(iv x127.from_.X), (iv x127.from_.Y), (iv x127.to_.X), (iv x127.to_.Y)]) [(iv x127.from_.X), (iv x127.from_.Y), (iv x127.to_.X), (iv x127.to_.Y)] (wn rfl) rfl rfl rfl rfl sz_142 rfl rfl rfl ?_
  refine Tr.nil (Tr.normThen ?_)
  refine Tr.seq ?_
  refine Tr.draw (by kernel_rfl) (by kernel_rfl) ?_
  refine Tq.va rfl (fun _ _ h1 h2 => run_loadN (cs := [(iv x127.from_.X), (iv x127.from_.Y), (iv x127.to_.X), (iv x127.to_.Y)]) ag_142 sz_142 (h1.ev rfl) (CellsAt.take (rdb h2 (vs := [(iv x127.from_.X), (iv x127.from_.Y), (iv x127.to_.X), (iv x127.to_.Y)]) (k := 7) rfl 0) 4) rfl) ?_
  obtain ⟨y129, hy129, H⟩ := bnd H
  refine Tq.call0 (r := (.agg #[(iv y129.X), (iv y129.Y)])) (wn rfl) rfl Tryz.call127 (evl_cons rfl evl_nil) (fun W hW => F_etchhouseref1_way_ok x127 y129 hy129 (HF.start _)) ?_
  refine Tq.mv rfl rfl ?_
  refine Tq.mv rfl rfl ?_
  obtain ⟨x130, hx130, H⟩ := bnd H
  obtain ⟨hx1300, hx1301, hx1302⟩ := idx_some hx130
  refine Tq.va rfl (fun _ _ h1 h2 => run_indexAddr el_138 (h1.ev rfl) hp0_0.form (h1.ev rfl) hx1300 hx1301) ?_
  refine Tq.va rfl (fun _ _ h1 h2 => run_loadN (cs := [(iv x130.from_.X), (iv x130.from_.Y), (iv x130.to_.X), (iv x130.to_.Y)]) ag_142 sz_142 (h1.ev rfl) (CellsAt.take (rdF ef_Tetchhouseref1Side hp0_0 hx1302 h2) 4) rfl) ?_
  obtain ⟨y131, hy131, H⟩ := bnd H
  refine Tq.call0 (r := (.agg #[(iv y131.X), (iv y131.Y)])) (wn rfl) rfl Tryz.call127 (evl_cons rfl evl_nil) (fun W hW => F_etchhouseref1_way_ok x130 y131 hy131 (HF.start _)) ?_
  refine Tq.v2 rfl (run_neq_47 y129 y131) rfl rfl ?_
  refine Tq.nil (Tr.normThen ?_)
  refine Tr.cond rfl H (fun H => ?_) (fun H => ?_)
  ·refine Tr.region ?_
   refine Tr.mv rfl rfl ?_
   refine Tr.mv rfl rfl ?_
   refine Tr.mv rfl rfl ?_
   obtain ⟨x132, hx132, H⟩ := bnd H
   obtain ⟨hx1320, hx1321, hx1322⟩ := idx_some hx132
   refine Tr.va rfl (fun _ _ h1 h2 => run_indexAddr el_138 (h1.ev rfl) hp0_0.form (h1.ev rfl) hx1320 hx1321) ?_
   refine Tr.v1 rfl (run_fieldAddr fo_142_0) rfl ?_
   refine Tr.va rfl (fun _ _ h1 h2 => run_loadN (cs := [(iv x132.from_.X), (iv x132.from_.Y)]) ag_47 sz_47 (h1.ev rfl) (CellsAt.take (CellsAt.drop (rdF ef_Tetchhouseref1Side hp0_0 hx1322 h2) 0) 2) rfl) ?_
   refine Tr.buildSlice 8 (e := 47) (vs := [(0, (.agg #[(iv x132.from_.X), (iv x132.from_.Y)]))]) (cs := [(iv x132.from_.X), (iv x132.from_.Y)]) (wn rfl) rfl (evs_cons rfl evs_nil) (by kernel_rfl) fun b133 => ?_
   obtain ⟨l134, hl134, H⟩ := bnd H
   refine Tr.append 2 (t := fl_TPoint) (l := l124) (l2 := [x132.from_]) (wn rfl) rfl rfl rfl rfl (fun W hW => ⟨[[(iv x132.from_.X), (iv x132.from_.Y)]], (.cons ⟨(), trivial, rfl⟩ .nil), rdb hW (vs := [(iv x132.from_.X), (iv x132.from_.Y)]) (k := 8) rfl 0⟩) un_43 sz_47 zl_47 (by decide) by_47 rfl hl134 fun Al134 cl134 hAl134 => ?_
   refine Tr.asg rfl rfl ?_
   refine Tr.nil (Tr.normBlock (Tr.normThen ?_))
   refine Tr.region ?_
   refine Tr.mv rfl rfl ?_
   refine Tr.v2 rfl run_add rfl rfl ?_
   refine Tr.asg rfl rfl ?_
   refine Tr.nil ?_
   exact Tr.backThen leL1 (l134, (w64 (x125 + 1)), Al134, cl134) ⟨H, hAl134⟩ (.r rfl) (.r rfl)
  ·refine Tr.skip (Tr.normBlock (Tr.normThen ?_))
   refine Tr.region ?_
   refine Tr.mv rfl rfl ?_
   refine Tr.v2 rfl run_add rfl rfl ?_
   refine Tr.asg rfl rfl ?_
   refine Tr.nil ?_
   exact Tr.backThen leL1 (l124, (w64 (x125 + 1)), Al124, cl124) ⟨H, hl124⟩ (.r rfl) (.r rfl)
 ·refine Tr.exit (Tr.exitThen (Tr.exitThen (Tr.exitBlock (Tr.normThen ?_))))
  refine Tr.sr ?_
  refine Tr.asg rfl rfl ?_
  refine Tr.nil (Tr.normThen ?_)
  refine Tr.seq ?_
  refine Tr.sr ?_
  refine Tr.asg rfl rfl ?_
  refine Tr.nil (Tr.normThen ?_)
  refine Tr.block ?_
  refine Tr.loop (σ := Int × Int) (fun m w s => F_etchhouseref1_corners_L2 l124 m s.1 s.2 = some r) (fun s => [(3, (.slice Al124 (l124).length cl124)), (6, (iv s.1)), (7, (iv s.2))]) (fun s => [(2, ow Al124 cl124 47 fl_TPoint l124)]) N (0, 0) H (.r rfl) (.r rfl) (fun _ _ h => noSome (h)) ?_
  intro w leL2 mL2 s hs
  obtain ⟨x152, x153⟩ := s
  have H := hs
  replace H : F_etchhouseref1_corners_L2 l124 (mL2 + 1) x152 x153 = some r := H
  replace leB := leB.trans leL2
  replace leL1 := leL1.trans leL2
  rw [F_etchhouseref1_corners_L2.eq_2] at H
  show Tr _ _ (LF [(3, (.slice Al124 (l124).length cl124)), (6, (iv x152)), (7, (iv x153))]) (LE [(2, ow Al124 cl124 47 fl_TPoint l124)]) _
  refine Tr.seq ?_
  refine Tr.sr ?_
  refine Tr.mv rfl rfl ?_
  refine Tr.mv rfl rfl ?_
  refine Tr.v1 rfl (run_len un_43) rfl ?_
  refine Tr.v2 rfl run_lss rfl rfl ?_
  refine Tr.nil (Tr.normThen ?_)
  refine Tr.cond rfl H (fun H => ?_) (fun H => ?_)
  ·refine Tr.skip (Tr.normThen ?_)
   refine Tr.seq ?_
   refine Tr.block ?_
   refine Tr.seq ?_
   refine Tr.draw (by kernel_rfl) (by kernel_rfl) ?_
   refine Tq.mv rfl rfl ?_
   refine Tq.mv rfl rfl ?_
   obtain ⟨x154, hx154, H⟩ := bnd H
   obtain ⟨hx1540, hx1541, hx1542⟩ := idx_some hx154
   refine Tq.va rfl (fun _ _ h1 h2 => run_indexAddr el_43 (h1.ev rfl) hl124 (h1.ev rfl) hx1540 hx1541) ?_
   refine Tq.va rfl (fun _ _ h1 h2 => run_loadN (cs := [(iv x154.X), (iv x154.Y)]) ag_47 sz_47 (h1.ev rfl) (CellsAt.take (rdo ef_TPoint (k := 2) h2 rfl hx1542) 2) rfl) ?_
   refine Tq.mv rfl rfl ?_
   refine Tq.mv rfl rfl ?_
   obtain ⟨x155, hx155, H⟩ := bnd H
   obtain ⟨hx1550, hx1551, hx1552⟩ := idx_some hx155
   refine Tq.va rfl (fun _ _ h1 h2 => run_indexAddr el_43 (h1.ev rfl) hl124 (h1.ev rfl) hx1550 hx1551) ?_
   refine Tq.va rfl (fun _ _ h1 h2 => run_loadN (cs := [(iv x155.X), (iv x155.Y)]) ag_47 sz_47 (h1.ev rfl) (CellsAt.take (rdo ef_TPoint (k := 2) h2 rfl hx1552) 2) rfl) ?_
   obtain ⟨y156, hy156, H⟩ := bnd H
   refine Tq.call0 (r := (.bool y156)) (wn rfl) rfl Tryz.call85 (evl_cons rfl (evl_cons rfl evl_nil)) (fun W hW => F_etchhouseref1_less_ok x154 x155 y156 hy156 (HF.start _)) ?_
   refine Tq.nil (Tr.normThen ?_)
   refine Tr.cond rfl H (fun H => ?_) (fun H => ?_)
   ·refine Tr.region ?_
    refine Tr.mv rfl rfl ?_
    refine Tr.asg rfl rfl ?_
    refine Tr.nil (Tr.normBlock (Tr.normThen ?_))
    refine Tr.region ?_
    refine Tr.mv rfl rfl ?_
    refine Tr.v2 rfl run_add rfl rfl ?_
    refine Tr.asg rfl rfl ?_
    refine Tr.nil ?_
    exact Tr.backThen leL2 (x153, (w64 (x153 + 1))) H (.r rfl) (.r rfl)
   ·refine Tr.skip (Tr.normBlock (Tr.normThen ?_))
    refine Tr.region ?_
    refine Tr.mv rfl rfl ?_
    refine Tr.v2 rfl run_add rfl rfl ?_
    refine Tr.asg rfl rfl ?_
    refine Tr.nil ?_
    exact Tr.backThen leL2 (x152, (w64 (x153 + 1))) H (.r rfl) (.r rfl)
  ·refine Tr.exit (Tr.exitThen (Tr.exitThen (Tr.exitBlock (Tr.normThen ?_))))
   refine Tr.sr ?_
   refine Tr.asg rfl rfl ?_
   refine Tr.nilOwn 9 47 fl_TPoint ?_
   show Tr _ _ (uf _ 8 (.slice none (([] : List TPoint)).length 0)) _ _
   refine Tr.nil (Tr.normThen ?_)
   refine Tr.sr ?_
   refine Tr.mv rfl rfl ?_
   refine Tr.mv rfl rfl ?_
   refine Tr.mv rfl rfl ?_
   obtain ⟨l157, hl157, H⟩ := bnd H
   refine Tr.va rfl (fun _ _ h1 h2 => run_cutL el_43 (h1.ev rfl) hl124 (h1.ev rfl) hl157) ?_
   obtain ⟨l158, hl158, H⟩ := bnd H
   refine Tr.appendS 9 (t := fl_TPoint) (l := ([] : List TPoint)) (l2 := l157) (wn rfl) rfl rfl rfl rfl (apT tr_TPoint (fun W hW => (Sl.cut (hW.slB (k := 2) rfl) hl157))) un_43 sz_47 zl_47 (by decide) by_47 rfl hl158 fun Al158 cl158 hAl158 => ?_
   refine Tr.asg rfl rfl ?_
   refine Tr.nil (Tr.normThen ?_)
   refine Tr.sr ?_
   refine Tr.mv rfl rfl ?_
   refine Tr.mv rfl rfl ?_
   refine Tr.mv rfl rfl ?_
   obtain ⟨l159, hl159, H⟩ := bnd H
   refine Tr.va rfl (fun _ _ h1 h2 => run_pre el_43 (h1.ev rfl) hl124 (h1.ev rfl) hl159) ?_
   obtain ⟨l160, hl160, H⟩ := bnd H
   refine Tr.appendS 9 (t := fl_TPoint) (l := l158) (l2 := l159) (wn rfl) rfl rfl rfl rfl (apT tr_TPoint (fun W hW => (Sl.pre (hW.slB (k := 2) rfl) hl159))) un_43 sz_47 zl_47 (by decide) by_47 rfl hl160 fun Al160 cl160 hAl160 => ?_
   refine Tr.asg rfl rfl ?_
   refine Tr.nil (Tr.normThen ?_)
   refine Tr.ret ?_
   obtain rfl := Option.some.inj H
   exact Tr.out (m := [(.slice Al160 (l160).length cl160)]) [] (res_tmp rfl res_nil) (fun W hW => ⟨(Al160, cl160), rfl, hAl160, HF.lowE leB (hW.pick (ks := [9]) (by decide) (pk_cons rfl pk_nil)) ⟨ow_any _ _ _ _ tr_TPoint, trivial⟩⟩)

theorem F_etchhouseref1_OutlinesOf_ok (N : Nat) {w : Bs} (p0 : (List TRect)) (Ap0_0 : Option Addr) (cp0_0 : Nat) (hp0_0 : Sl w.R w.W fl_TRect Ap0_0 cp0_0 p0) (r : (List (List TPoint))) (H : F_etchhouseref1_OutlinesOf N p0 = some r) (hE : HF w w.W (LEn [emp])) : Calls Tryz.prog 37 [(.slice Ap0_0 (p0).length cp0_0)].toArray w.W fun e W' => ∃ (w' : Bs) (u : (Option Addr × Nat)), w.Le w' ∧ e = .returned (.slice u.1 (r).length u.2) ∧ (SlF u.1 (r).length u.2) ∧ HF w' W' (LEn [ow u.1 u.2 43 fl_LTPoint r]) := by
 unfold F_etchhouseref1_OutlinesOf at H
 have leB := Bs.Le.refl w
 refine Tr.enter (n := 109) Tryz.func37 rfl rfl rfl hE ?_
 refine Tr.sr ?_
 refine Tr.asg rfl rfl ?_
 refine Tr.nilOwn 1 43 fl_LTPoint ?_
 show Tr _ _ (uf _ 2 (.slice none (([] : List (List TPoint))).length 0)) _ _
 refine Tr.nil (Tr.normThen ?_)
 refine Tr.sr ?_
 refine Tr.mv rfl rfl ?_
 obtain ⟨y100, hy100, H⟩ := bnd H
 refine Tr.callM [2] [emp] (U := (Option Addr × Nat)) (fun u => (.slice u.1 (y100).length u.2)) (fun u => SlF u.1 (y100).length u.2) (fun u => [ow u.1 u.2 142 fl_Tetchhouseref1Side y100]) rfl (pk_cons rfl pk_nil) (fun _ => rfl) (wn rfl) rfl Tryz.call82 (evl_cons rfl evl_nil) (fun W hW hp hE => F_etchhouseref1_sides_ok N p0 Ap0_0 cp0_0 (hp0_0.ext (hW.extS hp)) y100 hy100 hE) ?_
 intro u hu
 obtain ⟨Ay100_0, cy100_0⟩ := u
 have gy100_0 := hu
 have hgy100_0 : SlF Ay100_0 (y100).length cy100_0 := gy100_0 --@phi
 show Tr _ _ (uf _ 13 (.slice Ay100_0 (y100).length cy100_0)) (up _ 2 (ow Ay100_0 cy100_0 142 fl_Tetchhouseref1Side y100)) _
 refine Tr.asg rfl rfl ?_
 refine Tr.nil (Tr.normThen ?_)
 refine Tr.sr ?_
 refine Tr.mv rfl rfl ?_
 refine Tr.v1 rfl (run_len un_138) rfl ?_
 obtain ⟨l102, hl102, H⟩ := bnd H
 refine Tr.makeSlice 3 fl_bool false (wn rfl) rfl rfl rfl un_126 sz_4 rfl ze_4 by_4 rfl ⟨(), fun _ _ => tr_bool _ _ _ _, rfl⟩ hl102 fun b103 hfl102 => ?_
 refine Tr.asg rfl rfl ?_
 refine Tr.nil (Tr.normThen ?_)
 refine Tr.sr ?_
 refine Tr.asg rfl rfl ?_
 refine Tr.nilOwn 4 43 fl_LTPoint ?_
 show Tr _ _ (uf _ 5 (.slice none (([] : List (List TPoint))).length 0)) _ _
 refine Tr.nil (Tr.normThen ?_)
 refine Tr.seq ?_
 refine Tr.sr ?_
 refine Tr.asg rfl rfl ?_
 refine Tr.nil (Tr.normThen ?_)
 refine Tr.block ?_
 refine Tr.ren 4 22 rfl rfl rfl ?_
 refine Tr.loop (σ := (List Bool) × (List (List TPoint)) × Int × (Option Addr) × Nat × (Option Addr) × Nat) (fun m w s => F_etchhouseref1_OutlinesOf_L5 N y100 m s.1 s.2.1 s.2.2.1 = some r ∧ SlF s.2.2.2.1 (s.1).length s.2.2.2.2.1 ∧ SlF s.2.2.2.2.2.1 (s.2.1).length s.2.2.2.2.2.2) (fun s => [(3, (.slice Ay100_0 (y100).length cy100_0)), (4, (.slice s.2.2.2.1 (s.1).length s.2.2.2.2.1)), (5, (.slice s.2.2.2.2.2.1 (s.2.1).length s.2.2.2.2.2.2)), (6, (iv s.2.2.1))]) (fun s => [(2, ow Ay100_0 cy100_0 142 fl_Tetchhouseref1Side y100), (3, ow s.2.2.2.1 s.2.2.2.2.1 4 fl_bool s.1), (22, ow s.2.2.2.2.2.1 s.2.2.2.2.2.2 43 fl_LTPoint s.2.1)]) N (l102, ([] : List (List TPoint)), 0, (some ⟨b103, 0, none⟩), (l102).length, none, 0) ⟨H, hfl102, slf_nil⟩ (.r rfl) (.r rfl) (fun _ _ h => noSome (h.1)) ?_
 intro w leL5 mL5 s hs
 obtain ⟨l651, l652, x653, Al651, cl651, Al652, cl652⟩ := s
 obtain ⟨H, hl651, hl652⟩ := hs
 replace H : F_etchhouseref1_OutlinesOf_L5 N y100 (mL5 + 1) l651 l652 x653 = some r := H
 replace leB := leB.trans leL5
 replace hl651 : SlF Al651 (l651).length cl651 := hl651
 replace hl652 : SlF Al652 (l652).length cl652 := hl652
 rw [F_etchhouseref1_OutlinesOf_L5.eq_2] at H
 show Tr _ _ (LF [(3, (.slice Ay100_0 (y100).length cy100_0)), (4, (.slice Al651 (l651).length cl651)), (5, (.slice Al652 (l652).length cl652)), (6, (iv x653))]) (LE [(2, ow Ay100_0 cy100_0 142 fl_Tetchhouseref1Side y100), (3, ow Al651 cl651 4 fl_bool l651), (22, ow Al652 cl652 43 fl_LTPoint l652)]) _
 refine Tr.seq ?_
 refine Tr.sr ?_
 refine Tr.mv rfl rfl ?_
 refine Tr.mv rfl rfl ?_
 refine Tr.v1 rfl (run_len un_138) rfl ?_
 refine Tr.v2 rfl run_lss rfl rfl ?_
 refine Tr.nil (Tr.normThen ?_)
 refine Tr.cond rfl H (fun H => ?_) (fun H => ?_)
 ·refine Tr.skip (Tr.normThen ?_)
  refine Tr.seq ?_
  refine Tr.block ?_
  refine Tr.seq ?_
  refine Tr.sr ?_
  refine Tr.mv rfl rfl ?_
  refine Tr.mv rfl rfl ?_
  obtain ⟨x654, hx654, H⟩ := bnd H
  obtain ⟨hx6540, hx6541, hx6542⟩ := idx_some hx654
  refine Tr.va rfl (fun _ _ h1 h2 => run_indexAddr el_126 (h1.ev rfl) hl651 (h1.ev rfl) hx6540 hx6541) ?_
  refine Tr.va rfl (fun _ _ h1 h2 => run_load1 ag_4 (h1.ev rfl) (rdo ef_bool (k := 3) h2 rfl hx6542) rfl) ?_
  refine Tr.nil (Tr.normThen ?_)
  refine Tr.cond rfl H (fun H => ?_) (fun H => ?_)
  ·refine Tr.exit (Tr.exitThen (Tr.exitBlock (Tr.normThen ?_)))
   refine Tr.region ?_
   refine Tr.mv rfl rfl ?_
   refine Tr.v2 rfl run_add rfl rfl ?_
   refine Tr.asg rfl rfl ?_
   refine Tr.nil ?_
   exact Tr.backThen leL5 (l651, l652, (w64 (x653 + 1)), Al651, cl651, Al652, cl652) ⟨H, hl651, hl652⟩ (.r rfl) (.r rfl)
  ·refine Tr.skip (Tr.normThen ?_)
   refine Tr.sr ?_
   refine Tr.asg rfl rfl ?_
   refine Tr.nilOwn 23 142 fl_Tetchhouseref1Side ?_
   show Tr _ _ (uf _ 7 (.slice none (([] : List Tetchhouseref1Side)).length 0)) _ _
   refine Tr.nil (Tr.normThen ?_)
   refine Tr.seq ?_
   refine Tr.sr ?_
   refine Tr.mv rfl rfl ?_
   refine Tr.asg rfl rfl ?_
   refine Tr.nil (Tr.normThen ?_)
   refine Tr.block ?_
   refine Tr.loop (σ := (List Bool) × (List Tetchhouseref1Side) × Int × (Option Addr) × Nat × (Option Addr) × Nat) (fun m w s => F_etchhouseref1_OutlinesOf_L6 N y100 l652 x653 (F_etchhouseref1_OutlinesOf_L5 N y100 mL5) m s.1 s.2.1 s.2.2.1 = some r ∧ SlF s.2.2.2.1 (s.1).length s.2.2.2.2.1 ∧ SlF s.2.2.2.2.2.1 (s.2.1).length s.2.2.2.2.2.2) (fun s => [(3, (.slice Ay100_0 (y100).length cy100_0)), (4, (.slice s.2.2.2.1 (s.1).length s.2.2.2.2.1)), (5, (.slice Al652 (l652).length cl652)), (6, (iv x653)), (7, (.slice s.2.2.2.2.2.1 (s.2.1).length s.2.2.2.2.2.2)), (8, (iv s.2.2.1))]) (fun s => [(2, ow Ay100_0 cy100_0 142 fl_Tetchhouseref1Side y100), (3, ow s.2.2.2.1 s.2.2.2.2.1 4 fl_bool s.1), (22, ow Al652 cl652 43 fl_LTPoint l652), (23, ow s.2.2.2.2.2.1 s.2.2.2.2.2.2 142 fl_Tetchhouseref1Side s.2.1)]) N (l651, ([] : List Tetchhouseref1Side), x653, Al651, cl651, none, 0) ⟨H, hl651, slf_nil⟩ (.r rfl) (.r rfl) (fun _ _ h => noSome (h.1)) ?_
   intro w leL6 mL6 s hs
   obtain ⟨l678, l679, x680, Al678, cl678, Al679, cl679⟩ := s
   obtain ⟨H, hl678, hl679⟩ := hs
   replace H : F_etchhouseref1_OutlinesOf_L6 N y100 l652 x653 (F_etchhouseref1_OutlinesOf_L5 N y100 mL5) (mL6 + 1) l678 l679 x680 = some r := H
   replace leB := leB.trans leL6
   replace leL5 := leL5.trans leL6
   replace hl678 : SlF Al678 (l678).length cl678 := hl678
   replace hl679 : SlF Al679 (l679).length cl679 := hl679
   rw [F_etchhouseref1_OutlinesOf_L6.eq_2] at H
   show Tr _ _ (LF [(3, (.slice Ay100_0 (y100).length cy100_0)), (4, (.slice Al678 (l678).length cl678)), (5, (.slice Al652 (l652).length cl652)), (6, (iv x653)), (7, (.slice Al679 (l679).length cl679)), (8, (iv x680))]) (LE [(2, ow Ay100_0 cy100_0 142 fl_Tetchhouseref1Side y100), (3, ow Al678 cl678 4 fl_bool l678), (22, ow Al652 cl652 43 fl_LTPoint l652), (23, ow Al679 cl679 142 fl_Tetchhouseref1Side l679)]) _
   refine Tr.seq ?_
   refine Tr.sr ?_
   refine Tr.mv rfl rfl ?_
   refine Tr.v2 rfl run_geq rfl rfl ?_
   refine Tr.nil (Tr.normThen ?_)
   refine Tr.cond rfl H (fun H => ?_) (fun H => ?_)
   ·refine Tr.skip (Tr.normThen ?_)
    refine Tr.seq ?_
    refine Tr.block ?_
    refine Tr.sr ?_
    refine Tr.mv rfl rfl ?_
    refine Tr.mv rfl rfl ?_
    obtain ⟨x681, hx681, H⟩ := bnd H
    obtain ⟨hx6810, hx6811, hx6812⟩ := idx_some hx681
    refine Tr.va rfl (fun _ _ h1 h2 => run_indexAddr el_126 (h1.ev rfl) hl678 (h1.ev rfl) hx6810 hx6811) ?_
    obtain ⟨l682, hl682, H⟩ := bnd H
    have hnl682 := sets_len hl682
    refine Tr.storeEl 3 (t := fl_bool) (l := l678) (i := x680) (fo := 0) (cs := [(.bool true)]) true (wn rfl) rfl rfl rfl rfl rfl hx6812 sz_4 rfl (fun u _ => ⟨u, trivial, rfl⟩) rfl hl682 ?_
    have hfl682 : SlF Al678 (l682).length cl678 := by rw [hnl682]; exact hl678
    refine Tr.sel (lf := [(3, (.slice Ay100_0 (y100).length cy100_0)), (4, (.slice Al678 (l682).length cl678)), (5, (.slice Al652 (l652).length cl652)), (6, (iv x653)), (7, (.slice Al679 (l679).length cl679)), (8, (iv x680)), (28, (iv x680)), (29, (.bool (decide (0 ≤ x680)))), (37, (.slice Al678 (l682).length cl678)), (38, (iv x680))]) (le := [(2, ow Ay100_0 cy100_0 142 fl_Tetchhouseref1Side y100), (3, ow Al678 cl678 4 fl_bool l682), (22, ow Al652 cl652 43 fl_LTPoint l652), (23, ow Al679 cl679 142 fl_Tetchhouseref1Side l679)]) (.cons rfl (.cons (slenV rfl (by rw [hnl682])) (.cons rfl (.cons rfl (.cons rfl (.cons rfl (.cons rfl (.cons rfl (.cons (slenV rfl (by rw [hnl682])) (.r rfl)))))))))) (.r rfl) ?_
    refine Tr.nil (Tr.normThen ?_)
    refine Tr.region ?_
    refine Tr.mv rfl rfl ?_
    refine Tr.mv rfl rfl ?_
    refine Tr.mv rfl rfl ?_
    obtain ⟨x683, hx683, H⟩ := bnd H
    obtain ⟨hx6830, hx6831, hx6832⟩ := idx_some hx683
    refine Tr.va rfl (fun _ _ h1 h2 => run_indexAddr el_138 (h1.ev rfl) hgy100_0 (h1.ev rfl) hx6830 hx6831) ?_
    refine Tr.va rfl (fun _ _ h1 h2 => run_loadN (cs := [(iv x683.from_.X), (iv x683.from_.Y), (iv x683.to_.X), (iv x683.to_.Y)]) ag_142 sz_142 (h1.ev rfl) (CellsAt.take (rdo ef_Tetchhouseref1Side (k := 2) h2 rfl hx6832) 4) rfl) ?_
    refine Tr.buildSlice 26 (e := 142) (vs := [(0, (.agg #[(iv x683.from_.X), (iv x683.from_.Y), (iv x683.to_.X), (iv x683.to_.Y)]))]) (cs := [(iv x683.from_.X), (iv x683.from_.Y), (iv x683.to_.X), (iv x683.to_.Y)]) (wn rfl) rfl (evs_cons rfl evs_nil) (by kernel_rfl) fun b684 => ?_
    obtain ⟨l685, hl685, H⟩ := bnd H
    refine Tr.append 23 (t := fl_Tetchhouseref1Side) (l := l679) (l2 := [x683]) (wn rfl) rfl rfl rfl rfl (fun W hW => ⟨[[(iv x683.from_.X), (iv x683.from_.Y), (iv x683.to_.X), (iv x683.to_.Y)]], (.cons ⟨(), trivial, rfl⟩ .nil), rdb hW (vs := [(iv x683.from_.X), (iv x683.from_.Y), (iv x683.to_.X), (iv x683.to_.Y)]) (k := 26) rfl 0⟩) un_138 sz_142 zl_142 (by decide) by_142 rfl hl685 fun Al685 cl685 hAl685 => ?_
    refine Tr.asg rfl rfl ?_
    refine Tr.nil (Tr.normBlock (Tr.normThen ?_))
    refine Tr.region ?_
    refine Tr.mv rfl rfl ?_
    refine Tr.mv rfl rfl ?_
    refine Tr.mv rfl rfl ?_
    refine Tr.mv rfl rfl ?_
    obtain ⟨x686, hx686, H⟩ := bnd H
    obtain ⟨hx6860, hx6861, hx6862⟩ := idx_some hx686
    refine Tr.va rfl (fun _ _ h1 h2 => run_indexAddr el_138 (h1.ev rfl) hgy100_0 (h1.ev rfl) hx6860 hx6861) ?_
    refine Tr.va rfl (fun _ _ h1 h2 => run_loadN (cs := [(iv x686.from_.X), (iv x686.from_.Y), (iv x686.to_.X), (iv x686.to_.Y)]) ag_142 sz_142 (h1.ev rfl) (CellsAt.take (rdo ef_Tetchhouseref1Side (k := 2) h2 rfl hx6862) 4) rfl) ?_
    obtain ⟨y687, hy687, H⟩ := bnd H
    refine Tr.call0 (r := (iv y687)) (wn rfl) rfl Tryz.call83 (evl_cons rfl (evl_cons rfl (evl_cons rfl evl_nil))) (fun W hW => F_etchhouseref1_next_ok N y100 Ay100_0 cy100_0 (hW.slCall (k := 2) rfl) l682 Al678 cl678 (hW.slCall (k := 3) rfl) x686 y687 hy687 (HF.start _)) ?_
    refine Tr.asg rfl rfl ?_
    refine Tr.nil ?_
    exact Tr.backThen leL6 (l682, l685, y687, Al678, cl678, Al685, cl685) ⟨H, hfl682, hAl685⟩ (.r rfl) (.r rfl)
   ·refine Tr.exit (Tr.exitThen (Tr.exitThen (Tr.exitBlock (Tr.normThen ?_))))
    refine Tr.sr ?_
    refine Tr.mv rfl rfl ?_
    obtain ⟨y688, hy688, H⟩ := bnd H
    refine Tr.callM [27] [emp] (U := (Option Addr × Nat)) (fun u => (.slice u.1 (y688).length u.2)) (fun u => SlF u.1 (y688).length u.2) (fun u => [ow u.1 u.2 47 fl_TPoint y688]) rfl (pk_cons rfl pk_nil) (fun _ => rfl) (wn rfl) rfl Tryz.call84 (evl_cons rfl evl_nil) (fun W hW hp hE => F_etchhouseref1_corners_ok N l679 Al679 cl679 (hW.slS (k := 23) rfl hp rfl) y688 hy688 hE) ?_
    intro u hu
    obtain ⟨Ay688_0, cy688_0⟩ := u
    have gy688_0 := hu
    have hgy688_0 : SlF Ay688_0 (y688).length cy688_0 := gy688_0 --@phi
    show Tr _ _ (uf _ 48 (.slice Ay688_0 (y688).length cy688_0)) (up _ 27 (ow Ay688_0 cy688_0 47 fl_TPoint y688)) _
    refine Tr.asg rfl rfl ?_
    refine Tr.nil (Tr.normThen ?_)
    refine Tr.sr ?_
    refine Tr.mv rfl rfl ?_
    refine Tr.v1 rfl (run_len un_39) rfl ?_
    refine Tr.asg rfl rfl ?_
    refine Tr.nil (Tr.normThen ?_)
    refine Tr.seq ?_
    refine Tr.block ?_
    refine Tr.loop (σ := Int) (fun m w s => F_etchhouseref1_OutlinesOf_L7 l652 x653 (F_etchhouseref1_OutlinesOf_L5 N y100 mL5) l678 y688 m s = some r) (fun s => [(3, (.slice Ay100_0 (y100).length cy100_0)), (4, (.slice Al678 (l678).length cl678)), (5, (.slice Al652 (l652).length cl652)), (6, (iv x653)), (9, (.slice Ay688_0 (y688).length cy688_0)), (10, (iv s))]) (fun s => [(2, ow Ay100_0 cy100_0 142 fl_Tetchhouseref1Side y100), (3, ow Al678 cl678 4 fl_bool l678), (22, ow Al652 cl652 43 fl_LTPoint l652), (27, ow Ay688_0 cy688_0 47 fl_TPoint y688)]) N (l652.length : Int) H (.r rfl) (.r rfl) (fun _ _ h => noSome (h)) ?_
    intro w leL7 mL7 x839 hs
    have H := hs
    replace H : F_etchhouseref1_OutlinesOf_L7 l652 x653 (F_etchhouseref1_OutlinesOf_L5 N y100 mL5) l678 y688 (mL7 + 1) x839 = some r := H
    replace leB := leB.trans leL7
    replace leL5 := leL5.trans leL7
    replace leL6 := leL6.trans leL7
    rw [F_etchhouseref1_OutlinesOf_L7.eq_2] at H
    show Tr _ _ (LF [(3, (.slice Ay100_0 (y100).length cy100_0)), (4, (.slice Al678 (l678).length cl678)), (5, (.slice Al652 (l652).length cl652)), (6, (iv x653)), (9, (.slice Ay688_0 (y688).length cy688_0)), (10, (iv x839))]) (LE [(2, ow Ay100_0 cy100_0 142 fl_Tetchhouseref1Side y100), (3, ow Al678 cl678 4 fl_bool l678), (22, ow Al652 cl652 43 fl_LTPoint l652), (27, ow Ay688_0 cy688_0 47 fl_TPoint y688)]) _
    refine Tr.seq ?_
    refine Tr.seq ?_
    refine Tr.draw (by kernel_rfl) (by kernel_rfl) ?_
    refine Tq.mv rfl rfl ?_
    refine Tq.v2 rfl run_gtr rfl rfl ?_
    refine Tq.mv rfl rfl ?_
    obtain ⟨g876, hg876, H⟩ := bnd H
    refine Tq.mid 38 [(3, (.slice Ay100_0 (y100).length cy100_0)), (4, (.slice Al678 (l678).length cl678)), (5, (.slice Al652 (l652).length cl652)), (6, (iv x653)), (9, (.slice Ay688_0 (y688).length cy688_0)), (10, (iv x839)), (91, (.bool g876))] ?_ ?_
    ·cases hg922 : (decide (0 < x839))
     ·rw [hg922] at hg876
      rw [if_neg (by decide)] at hg876
      have H := hg876
      obtain rfl := Option.some.inj H
      refine Tq.ps ?_
      refine Tq.ps ?_
      refine Tq.ps ?_
      refine Tq.ps ?_
      refine Tq.ps ?_
      refine Tq.ps ?_
      refine Tq.ps ?_
      refine Tq.ps ?_
      refine Tq.ps ?_
      refine Tq.ps ?_
      refine Tq.ps ?_
      refine Tq.ps ?_
      refine Tq.pu ?_
      refine Tq.pu ?_
      refine Tq.pu ?_
      refine Tq.pu ?_
      refine Tq.pu ?_
      refine Tq.pu ?_
      refine Tq.pu ?_
      refine Tq.pu ?_
      refine Tq.pu ?_
      refine Tq.pu ?_
      refine Tq.pu ?_
      refine Tq.pu ?_
      refine Tq.pu ?_
      refine Tq.pu ?_
      refine Tq.pu ?_
      refine Tq.pu ?_
      refine Tq.pu ?_
      refine Tq.pu ?_
      refine Tq.pu ?_
      refine Tq.pu ?_
      refine Tq.pu ?_
      refine Tq.pu ?_
      refine Tq.pu ?_
      refine Tq.pu ?_
      refine Tq.ps ?_
      refine Tq.v2 rfl run_pickF rfl rfl ?_
      exact Tq.fin (.r rfl)
     ·rw [hg922] at hg876
      rw [if_pos rfl] at hg876
      have H := hg876
      refine Tq.w1 (wg rfl rfl rfl) rfl run_move rfl ?_
      obtain ⟨x877, hx877, H⟩ := bnd H
      obtain ⟨hx8770, hx8771, hx8772⟩ := idx_some hx877
      refine Tq.val (wg rfl rfl rfl) rfl (fun _ _ h1 h2 => run_indexAddr el_43 (h1.ev rfl) hgy688_0 (h1.ev rfl) hx8770 hx8771) ?_
      refine Tq.val (wg rfl rfl rfl) rfl (fun _ _ h1 h2 => run_loadN (cs := [(iv x877.X), (iv x877.Y)]) ag_47 sz_47 (h1.ev rfl) (CellsAt.take (rdo ef_TPoint (k := 27) h2 rfl hx8772) 2) rfl) ?_
      refine Tq.w1 (wg rfl rfl rfl) rfl run_move rfl ?_
      refine Tq.w1 (wg rfl rfl rfl) rfl run_move rfl ?_
      refine Tq.w2 (wg rfl rfl rfl) rfl run_sub rfl rfl ?_
      obtain ⟨x878, hx878, H⟩ := bnd H
      obtain ⟨hx8780, hx8781, hx8782⟩ := idx_some hx878
      refine Tq.val (wg rfl rfl rfl) rfl (fun _ _ h1 h2 => run_indexAddr el_39 (h1.ev rfl) hl652 (h1.ev rfl) hx8780 hx8781) ?_
      refine Tq.valE (U := (fl_LTPoint).Ad) (fun u => (fl_LTPoint).ok w.O w.W u x878) (fun u => (.slice u.1 (x878).length u.2)) (wg rfl rfl rfl) rfl (ldN (κ := 22) (t := fl_LTPoint) (V := fun u => (.slice u.1 (x878).length u.2)) rfl hx8782 (fun _ _ u h1 hc => run_load1 ag_43 (h1.ev rfl) hc rfl)) ?_
      intro u879 hoku879
      obtain ⟨Au879_0, cu879_0⟩ := u879
      have hoku879_0 := hoku879
      replace hoku879_0 : Sl w.O w.W fl_TPoint Au879_0 cu879_0 x878 := hoku879_0
      show Tq _ _ _ _ (uf _ 61 (.slice Au879_0 (x878).length cu879_0)) _ _ _
      obtain ⟨x880, hx880, H⟩ := bnd H
      obtain ⟨hx8800, hx8801, hx8802⟩ := idx_some hx880
      refine Tq.val (wg rfl rfl rfl) rfl (fun _ _ h1 h2 => run_indexAddr el_43 (h1.ev rfl) hoku879_0.form (h1.ev rfl) hx8800 hx8801) ?_
      refine Tq.val (wg rfl rfl rfl) rfl (fun _ _ h1 h2 => run_loadN (cs := [(iv x880.X), (iv x880.Y)]) ag_47 sz_47 (h1.ev rfl) (CellsAt.take (rdF ef_TPoint (hoku879_0.rl) hx8802 h2) 2) rfl) ?_
      obtain ⟨y881, hy881, H⟩ := bnd H
      refine Tq.call0 (r := (.bool y881)) (wg rfl rfl rfl) rfl Tryz.call85 (evl_cons rfl (evl_cons rfl evl_nil)) (fun W hW => F_etchhouseref1_less_ok x877 x880 y881 hy881 (HF.start _)) ?_
      refine Tq.w1 (wg rfl rfl rfl) rfl run_move rfl ?_
      obtain ⟨g897, hg897, H⟩ := bnd H
      refine Tq.mid 25 [(3, (.slice Ay100_0 (y100).length cy100_0)), (4, (.slice Al678 (l678).length cl678)), (5, (.slice Al652 (l652).length cl652)), (6, (iv x653)), (9, (.slice Ay688_0 (y688).length cy688_0)), (10, (iv x839)), (53, (.bool true)), (90, (.bool g897))] ?_ ?_
      ·cases hg912 : y881
       ·rw [hg912] at hg897
        rw [if_neg (by decide)] at hg897
        have H := hg897
        refine Tq.w1 (wg rfl rfl rfl) rfl run_move rfl ?_
        obtain ⟨x898, hx898, H⟩ := bnd H
        obtain ⟨hx8980, hx8981, hx8982⟩ := idx_some hx898
        refine Tq.val (wg rfl rfl rfl) rfl (fun _ _ h1 h2 => run_indexAddr el_43 (h1.ev rfl) hgy688_0 (h1.ev rfl) hx8980 hx8981) ?_
        refine Tq.val (wg rfl rfl rfl) rfl (fun _ _ h1 h2 => run_loadN (cs := [(iv x898.X), (iv x898.Y)]) ag_47 sz_47 (h1.ev rfl) (CellsAt.take (rdo ef_TPoint (k := 27) h2 rfl hx8982) 2) rfl) ?_
        refine Tq.w1 (wg rfl rfl rfl) rfl run_move rfl ?_
        refine Tq.w1 (wg rfl rfl rfl) rfl run_move rfl ?_
        refine Tq.w2 (wg rfl rfl rfl) rfl run_sub rfl rfl ?_
        obtain ⟨x899, hx899, H⟩ := bnd H
        obtain ⟨hx8990, hx8991, hx8992⟩ := idx_some hx899
        refine Tq.val (wg rfl rfl rfl) rfl (fun _ _ h1 h2 => run_indexAddr el_39 (h1.ev rfl) hl652 (h1.ev rfl) hx8990 hx8991) ?_
        refine Tq.valE (U := (fl_LTPoint).Ad) (fun u => (fl_LTPoint).ok w.O w.W u x899) (fun u => (.slice u.1 (x899).length u.2)) (wg rfl rfl rfl) rfl (ldN (κ := 22) (t := fl_LTPoint) (V := fun u => (.slice u.1 (x899).length u.2)) rfl hx8992 (fun _ _ u h1 hc => run_load1 ag_43 (h1.ev rfl) hc rfl)) ?_
        intro u900 hoku900
        obtain ⟨Au900_0, cu900_0⟩ := u900
        have hoku900_0 := hoku900
        replace hoku900_0 : Sl w.O w.W fl_TPoint Au900_0 cu900_0 x899 := hoku900_0
        show Tq _ _ _ _ (uf _ 73 (.slice Au900_0 (x899).length cu900_0)) _ _ _
        obtain ⟨x901, hx901, H⟩ := bnd H
        obtain ⟨hx9010, hx9011, hx9012⟩ := idx_some hx901
        refine Tq.val (wg rfl rfl rfl) rfl (fun _ _ h1 h2 => run_indexAddr el_43 (h1.ev rfl) hoku900_0.form (h1.ev rfl) hx9010 hx9011) ?_
        refine Tq.val (wg rfl rfl rfl) rfl (fun _ _ h1 h2 => run_loadN (cs := [(iv x901.X), (iv x901.Y)]) ag_47 sz_47 (h1.ev rfl) (CellsAt.take (rdF ef_TPoint (hoku900_0.rl) hx9012 h2) 2) rfl) ?_
        refine Tq.w2 (wg rfl rfl rfl) rfl (run_eql_47 x898 x901) rfl rfl ?_
        refine Tq.w1 (wg rfl rfl rfl) rfl run_move rfl ?_
        obtain ⟨g907, hg907, H⟩ := bnd H
        refine Tq.mid 12 [(3, (.slice Ay100_0 (y100).length cy100_0)), (4, (.slice Al678 (l678).length cl678)), (5, (.slice Al652 (l652).length cl652)), (6, (iv x653)), (9, (.slice Ay688_0 (y688).length cy688_0)), (10, (iv x839)), (53, (.bool true)), (65, (.bool false)), (89, (.bool g907))] ?_ ?_
        ·cases hg912 : (eqTPoint x898 x901)
         ·rw [hg912] at hg907
          rw [if_neg (by decide)] at hg907
          have H := hg907
          obtain rfl := Option.some.inj H
          refine Tq.ps ?_
          refine Tq.ps ?_
          refine Tq.ps ?_
          refine Tq.ps ?_
          refine Tq.ps ?_
          refine Tq.ps ?_
          refine Tq.ps ?_
          refine Tq.ps ?_
          refine Tq.ps ?_
          refine Tq.ps ?_
          refine Tq.ps ?_
          refine Tq.w2 (wg rfl rfl rfl) rfl run_pickF rfl rfl ?_
          exact Tq.fin (.r rfl)
         ·rw [hg912] at hg907
          rw [if_pos rfl] at hg907
          have H := hg907
          refine Tq.w1 (wg rfl rfl rfl) rfl run_move rfl ?_
          refine Tq.w1 (wg rfl rfl rfl) rfl run_move rfl ?_
          refine Tq.w2 (wg rfl rfl rfl) rfl run_sub rfl rfl ?_
          obtain ⟨x908, hx908, H⟩ := bnd H
          obtain ⟨hx9080, hx9081, hx9082⟩ := idx_some hx908
          refine Tq.val (wg rfl rfl rfl) rfl (fun _ _ h1 h2 => run_indexAddr el_39 (h1.ev rfl) hl652 (h1.ev rfl) hx9080 hx9081) ?_
          refine Tq.valE (U := (fl_LTPoint).Ad) (fun u => (fl_LTPoint).ok w.O w.W u x908) (fun u => (.slice u.1 (x908).length u.2)) (wg rfl rfl rfl) rfl (ldN (κ := 22) (t := fl_LTPoint) (V := fun u => (.slice u.1 (x908).length u.2)) rfl hx9082 (fun _ _ u h1 hc => run_load1 ag_43 (h1.ev rfl) hc rfl)) ?_
          intro u909 hoku909
          obtain ⟨Au909_0, cu909_0⟩ := u909
          have hoku909_0 := hoku909
          replace hoku909_0 : Sl w.O w.W fl_TPoint Au909_0 cu909_0 x908 := hoku909_0
          show Tq _ _ _ _ (uf _ 82 (.slice Au909_0 (x908).length cu909_0)) _ _ _
          obtain ⟨x910, hx910, H⟩ := bnd H
          obtain ⟨hx9100, hx9101, hx9102⟩ := idx_some hx910
          refine Tq.val (wg rfl rfl rfl) rfl (fun _ _ h1 h2 => run_indexAddr el_43 (h1.ev rfl) hoku909_0.form (h1.ev rfl) hx9100 hx9101) ?_
          refine Tq.val (wg rfl rfl rfl) rfl (fun _ _ h1 h2 => run_loadN (cs := [(iv x910.X), (iv x910.Y)]) ag_47 sz_47 (h1.ev rfl) (CellsAt.take (rdF ef_TPoint (hoku909_0.rl) hx9102 h2) 2) rfl) ?_
          refine Tq.w1 (wg rfl rfl rfl) rfl run_move rfl ?_
          obtain ⟨x911, hx911, H⟩ := bnd H
          obtain ⟨hx9110, hx9111, hx9112⟩ := idx_some hx911
          refine Tq.val (wg rfl rfl rfl) rfl (fun _ _ h1 h2 => run_indexAddr el_43 (h1.ev rfl) hgy688_0 (h1.ev rfl) hx9110 hx9111) ?_
          refine Tq.val (wg rfl rfl rfl) rfl (fun _ _ h1 h2 => run_loadN (cs := [(iv x911.X), (iv x911.Y)]) ag_47 sz_47 (h1.ev rfl) (CellsAt.take (rdo ef_TPoint (k := 27) h2 rfl hx9112) 2) rfl) ?_
          obtain ⟨y912, hy912, H⟩ := bnd H
          refine Tq.call0 (r := (.bool y912)) (wg rfl rfl rfl) rfl Tryz.call85 (evl_cons rfl (evl_cons rfl evl_nil)) (fun W hW => F_etchhouseref1_less_ok x910 x911 y912 hy912 (HF.start _)) ?_
          refine Tq.w2 (wg rfl rfl rfl) rfl run_pickT rfl rfl ?_
          obtain rfl := Option.some.inj H
          exact Tq.fin (.r rfl)
        ·refine Tq.w2 (wg rfl rfl rfl) rfl run_pickF rfl rfl ?_
         obtain rfl := Option.some.inj H
         exact Tq.fin (.r rfl)
       ·rw [hg912] at hg897
        rw [if_pos rfl] at hg897
        have H := hg897
        obtain rfl := Option.some.inj H
        refine Tq.ps ?_
        refine Tq.ps ?_
        refine Tq.ps ?_
        refine Tq.ps ?_
        refine Tq.ps ?_
        refine Tq.ps ?_
        refine Tq.ps ?_
        refine Tq.ps ?_
        refine Tq.ps ?_
        refine Tq.ps ?_
        refine Tq.ps ?_
        refine Tq.ps ?_
        refine Tq.pu ?_
        refine Tq.pu ?_
        refine Tq.pu ?_
        refine Tq.pu ?_
        refine Tq.pu ?_
        refine Tq.pu ?_
        refine Tq.pu ?_
        refine Tq.pu ?_
        refine Tq.pu ?_
        refine Tq.pu ?_
        refine Tq.pu ?_
        refine Tq.ps ?_
        refine Tq.w2 (wg rfl rfl rfl) rfl run_pickT rfl rfl ?_
        exact Tq.fin (.r rfl)
      ·refine Tq.v2 rfl run_pickT rfl rfl ?_
       obtain rfl := Option.some.inj H
       exact Tq.fin (.r rfl)
    ·refine Tq.nil (Tr.normThen ?_)
     refine Tr.cond rfl H (fun H => ?_) (fun H => ?_)
     ·refine Tr.skip (Tr.normThen ?_)
      refine Tr.block ?_
      refine Tr.region ?_
      refine Tr.mv rfl rfl ?_
      refine Tr.v2 rfl run_sub rfl rfl ?_
      refine Tr.asg rfl rfl ?_
      refine Tr.nil (Tr.normBlock ?_)
      exact Tr.backThen leL7 (w64 (x839 - 1)) H (.r rfl) (.r rfl)
     ·refine Tr.exit (Tr.exitThen (Tr.exitThen (Tr.exitBlock (Tr.normThen ?_))))
      refine Tr.sr ?_
      refine Tr.asg rfl rfl ?_
      refine Tr.nilOwn 28 43 fl_LTPoint ?_
      show Tr _ _ (uf _ 11 (.slice none (([] : List (List TPoint))).length 0)) _ _
      refine Tr.nil (Tr.normThen ?_)
      refine Tr.sr ?_
      refine Tr.mv rfl rfl ?_
      refine Tr.mv rfl rfl ?_
      refine Tr.mv rfl rfl ?_
      obtain ⟨l913, hl913, H⟩ := bnd H
      refine Tr.va rfl (fun _ _ h1 h2 => run_pre el_39 (h1.ev rfl) hl652 (h1.ev rfl) hl913) ?_
      refine Tr.freeze 22 rfl fun w le915 hz914 => ?_
      replace leB := leB.trans le915
      replace leL5 := leL5.trans le915
      replace leL6 := leL6.trans le915
      replace leL7 := leL7.trans le915
      obtain ⟨l916, hl916, H⟩ := bnd H
      refine Tr.appendS 28 (t := fl_LTPoint) (l := ([] : List (List TPoint))) (l2 := l913) (wn rfl) rfl rfl rfl rfl (apO (Sl.pre hz914 hl913)) un_39 sz_43 zl_43 (by decide) by_43 rfl hl916 fun Al916 cl916 hAl916 => ?_
      refine Tr.asg rfl rfl ?_
      refine Tr.nil (Tr.normThen ?_)
      refine Tr.sr ?_
      refine Tr.mv rfl rfl ?_
      refine Tr.mv rfl rfl ?_
      refine Tr.freeze 27 rfl fun w le918 hz917 => ?_
      replace hz914 := hz914.le le918
      replace leB := leB.trans le918
      replace leL5 := leL5.trans le918
      replace leL6 := leL6.trans le918
      replace leL7 := leL7.trans le918
      refine Tr.buildSlice 29 (e := 43) (vs := [(0, (.slice Ay688_0 (y688).length cy688_0))]) (cs := [(.slice Ay688_0 (y688).length cy688_0)]) (wn rfl) rfl (evs_cons rfl evs_nil) (by kernel_rfl) fun b919 => ?_
      obtain ⟨l920, hl920, H⟩ := bnd H
      refine Tr.append 28 (t := fl_LTPoint) (l := l916) (l2 := [y688]) (wn rfl) rfl rfl rfl rfl (fun W hW => ⟨[[(.slice Ay688_0 (y688).length cy688_0)]], (.cons ⟨(Ay688_0, cy688_0), hz917, rfl⟩ .nil), rdb hW (vs := [(.slice Ay688_0 (y688).length cy688_0)]) (k := 29) rfl 0⟩) un_39 sz_43 zl_43 (by decide) by_43 rfl hl920 fun Al920 cl920 hAl920 => ?_
      refine Tr.asg rfl rfl ?_
      refine Tr.nil (Tr.normThen ?_)
      refine Tr.region ?_
      refine Tr.mv rfl rfl ?_
      refine Tr.mv rfl rfl ?_
      refine Tr.mv rfl rfl ?_
      obtain ⟨l921, hl921, H⟩ := bnd H
      refine Tr.va rfl (fun _ _ h1 h2 => run_cutL el_39 (h1.ev rfl) hz914.form (h1.ev rfl) hl921) ?_
      obtain ⟨l922, hl922, H⟩ := bnd H
      refine Tr.appendS 28 (t := fl_LTPoint) (l := l920) (l2 := l921) (wn rfl) rfl rfl rfl rfl (apO (Sl.cut hz914 hl921)) un_39 sz_43 zl_43 (by decide) by_43 rfl hl922 fun Al922 cl922 hAl922 => ?_
      refine Tr.asg rfl rfl ?_
      refine Tr.nil (Tr.normBlock (Tr.normThen ?_))
      refine Tr.region ?_
      refine Tr.mv rfl rfl ?_
      refine Tr.v2 rfl run_add rfl rfl ?_
      refine Tr.asg rfl rfl ?_
      refine Tr.nil ?_
      refine Tr.ren 28 22 rfl rfl rfl ?_
      exact Tr.backThen leL5 (l678, l922, (w64 (x653 + 1)), Al678, cl678, Al922, cl922) ⟨H, hl678, hAl922⟩ (.r rfl) (.r rfl)
 ·refine Tr.exit (Tr.exitThen (Tr.exitThen (Tr.exitBlock (Tr.normThen ?_))))
  refine Tr.sr ?_
  refine Tr.mv rfl rfl ?_
  refine Tr.asg rfl rfl ?_
  refine Tr.nil (Tr.normThen ?_)
  refine Tr.ret ?_
  obtain rfl := Option.some.inj H
  exact Tr.out (m := [(.slice Al652 (l652).length cl652)]) [] (res_tmp rfl res_nil) (fun W hW => ⟨w, (Al652, cl652), leB, rfl, hl652, hW.pick (ks := [22]) (by decide) (pk_cons rfl pk_nil)⟩)

theorem F_etchhouseref1_Outlines_ok (N : Nat) {w : Bs} (p0 : (List TRect)) (Ap0_0 : Option Addr) (cp0_0 : Nat) (hp0_0 : Sl w.R w.W fl_TRect Ap0_0 cp0_0 p0) (r : ((List (List TPoint)) × Int)) (H : F_etchhouseref1_Outlines N p0 = some r) (hE : HF w w.W (LEn [emp])) : Calls Tryz.prog 17 [(.slice Ap0_0 (p0).length cp0_0)].toArray w.W fun e W' => ∃ (w' : Bs) (u : (Option Addr × Nat)), w.Le w' ∧ e = .returned (.tuple #[(.slice u.1 (r.1).length u.2), (iv r.2)]) ∧ (SlF u.1 (r.1).length u.2) ∧ HF w' W' (LEn [ow u.1 u.2 43 fl_LTPoint r.1]) := by
 unfold F_etchhouseref1_Outlines at H
 have leB := Bs.Le.refl w
 refine Tr.enter (n := 31) Tryz.func17 rfl rfl rfl hE ?_
 refine Tr.sr ?_
 refine Tr.asg rfl rfl ?_
 refine Tr.nilOwn 1 43 fl_LTPoint ?_
 show Tr _ _ (uf _ 2 (.slice none (([] : List (List TPoint))).length 0)) _ _
 refine Tr.asg rfl rfl ?_
 refine Tr.nil (Tr.normThen ?_)
 refine Tr.seq ?_
 refine Tr.sr ?_
 refine Tr.mv rfl rfl ?_
 obtain ⟨y100, hy100, H⟩ := bnd H
 refine Tr.call0 (r := (iv y100)) (wn rfl) rfl Tryz.call36 (evl_cons rfl evl_nil) (fun W hW => F_etchhouseref1_CheckRegion_ok N p0 Ap0_0 cp0_0 (hp0_0.ext hW.extAll) y100 hy100 (HF.start _)) ?_
 refine Tr.asg rfl rfl ?_
 refine Tr.nil (Tr.normThen ?_)
 refine Tr.sr ?_
 refine Tr.mv rfl rfl ?_
 refine Tr.v2 rfl run_neq rfl rfl ?_
 refine Tr.nil (Tr.normThen ?_)
 refine Tr.cond rfl H (fun H => ?_) (fun H => ?_)
 ·refine Tr.sr ?_
  refine Tr.mv rfl rfl ?_
  refine Tr.asg rfl rfl ?_
  refine Tr.nilOwn 2 43 fl_LTPoint ?_
  show Tr _ _ (uf _ 2 (.slice none (([] : List (List TPoint))).length 0)) _ _
  refine Tr.asg rfl rfl ?_
  refine Tr.nil (Tr.normThen ?_)
  refine Tr.ret (Tr.retThen ?_)
  obtain rfl := Option.some.inj H
  exact Tr.out (m := [(.slice none (([] : List (List TPoint))).length 0), (iv y100)]) [] (res_tmp rfl (res_tmp rfl res_nil)) (fun W hW => ⟨w, (none, 0), leB, rfl, slf_nil, hW.pick (ks := [2]) (by decide) (pk_cons rfl pk_nil)⟩)
 ·refine Tr.skip (Tr.normThen ?_)
  refine Tr.sr ?_
  refine Tr.mv rfl rfl ?_
  obtain ⟨y101, hy101, H⟩ := bnd H
  refine Tr.callG [3] [emp] (U := (Option Addr × Nat)) (fun u => (.slice u.1 (y101).length u.2)) (fun O W u => SlF u.1 (y101).length u.2) (fun u => [ow u.1 u.2 43 fl_LTPoint y101]) rfl (pk_cons rfl pk_nil) (fun _ => rfl) (wn rfl) rfl Tryz.call37 (evl_cons rfl evl_nil) (fun W hW hp hE => F_etchhouseref1_OutlinesOf_ok N p0 Ap0_0 cp0_0 (hp0_0.ext (hW.extS hp)) y101 hy101 hE) ?_
  intro w u le102 hu
  obtain ⟨Ay101_0, cy101_0⟩ := u
  have gy101_0 := hu
  replace hp0_0 := hp0_0.leR le102
  replace leB := leB.trans le102
  have hgy101_0 : SlF Ay101_0 (y101).length cy101_0 := gy101_0 --@phi
  show Tr _ _ (uf _ 14 (.slice Ay101_0 (y101).length cy101_0)) (up _ 3 (ow Ay101_0 cy101_0 43 fl_LTPoint y101)) _
  refine Tr.asg rfl rfl ?_
  refine Tr.nil (Tr.normThen ?_)
  refine Tr.sr ?_
  refine Tr.asg rfl rfl ?_
  refine Tr.nil (Tr.normThen ?_)
  refine Tr.seq ?_
  refine Tr.sr ?_
  refine Tr.asg rfl rfl ?_
  refine Tr.nil (Tr.normThen ?_)
  refine Tr.block ?_
  refine Tr.loop (σ := Int × Int) (fun m w s => F_etchhouseref1_Outlines_L1 y101 m s.1 s.2 = some r) (fun s => [(5, (.slice Ay101_0 (y101).length cy101_0)), (6, (iv s.1)), (7, (iv s.2))]) (fun s => [(3, ow Ay101_0 cy101_0 43 fl_LTPoint y101)]) N (0, 0) H (.r rfl) (.r rfl) (fun _ _ h => noSome (h)) ?_
  intro w leL1 mL1 s hs
  obtain ⟨x113, x114⟩ := s
  have H := hs
  replace H : F_etchhouseref1_Outlines_L1 y101 (mL1 + 1) x113 x114 = some r := H
  replace leB := leB.trans leL1
  rw [F_etchhouseref1_Outlines_L1.eq_2] at H
  show Tr _ _ (LF [(5, (.slice Ay101_0 (y101).length cy101_0)), (6, (iv x113)), (7, (iv x114))]) (LE [(3, ow Ay101_0 cy101_0 43 fl_LTPoint y101)]) _
  refine Tr.seq ?_
  refine Tr.sr ?_
  refine Tr.mv rfl rfl ?_
  refine Tr.mv rfl rfl ?_
  refine Tr.v1 rfl (run_len un_39) rfl ?_
  refine Tr.v2 rfl run_lss rfl rfl ?_
  refine Tr.nil (Tr.normThen ?_)
  refine Tr.cond rfl H (fun H => ?_) (fun H => ?_)
  ·refine Tr.skip (Tr.normThen ?_)
   refine Tr.seq ?_
   refine Tr.block ?_
   refine Tr.region ?_
   refine Tr.mv rfl rfl ?_
   refine Tr.mv rfl rfl ?_
   refine Tr.mv rfl rfl ?_
   obtain ⟨x115, hx115, H⟩ := bnd H
   obtain ⟨hx1150, hx1151, hx1152⟩ := idx_some hx115
   refine Tr.va rfl (fun _ _ h1 h2 => run_indexAddr el_39 (h1.ev rfl) hgy101_0 (h1.ev rfl) hx1150 hx1151) ?_
   refine Tr.valE (U := (fl_LTPoint).Ad) (fun u => (fl_LTPoint).ok w.O w.W u x115) (fun u => (.slice u.1 (x115).length u.2)) (wn rfl) rfl (ldN (κ := 3) (t := fl_LTPoint) (V := fun u => (.slice u.1 (x115).length u.2)) rfl hx1152 (fun _ _ u h1 hc => run_load1 ag_43 (h1.ev rfl) hc rfl)) ?_
   intro u116 hoku116
   obtain ⟨Au116_0, cu116_0⟩ := u116
   have hoku116_0 := hoku116
   replace hoku116_0 : Sl w.O w.W fl_TPoint Au116_0 cu116_0 x115 := hoku116_0
   show Tr _ _ (uf _ 25 (.slice Au116_0 (x115).length cu116_0)) _ _
   refine Tr.v1 rfl (run_len un_43) rfl ?_
   refine Tr.v2 rfl run_add rfl rfl ?_
   refine Tr.asg rfl rfl ?_
   refine Tr.nil (Tr.normBlock (Tr.normThen ?_))
   refine Tr.region ?_
   refine Tr.mv rfl rfl ?_
   refine Tr.v2 rfl run_add rfl rfl ?_
   refine Tr.asg rfl rfl ?_
   refine Tr.nil ?_
   exact Tr.backThen leL1 ((w64 (x113 + (x115.length : Int))), (w64 (x114 + 1))) H (.r rfl) (.r rfl)
  ·refine Tr.exit (Tr.exitThen (Tr.exitThen (Tr.exitBlock (Tr.normThen ?_))))
   refine Tr.seq ?_
   refine Tr.sr ?_
   refine Tr.mv rfl rfl ?_
   refine Tr.v2 rfl run_gtr rfl rfl ?_
   refine Tr.nil (Tr.normThen ?_)
   refine Tr.cond rfl H (fun H => ?_) (fun H => ?_)
   ·refine Tr.sr ?_
    refine Tr.asg rfl rfl ?_
    refine Tr.nilOwn 4 43 fl_LTPoint ?_
    show Tr _ _ (uf _ 2 (.slice none (([] : List (List TPoint))).length 0)) _ _
    refine Tr.asg rfl rfl ?_
    refine Tr.nil (Tr.normThen ?_)
    refine Tr.ret (Tr.retThen ?_)
    obtain rfl := Option.some.inj H
    exact Tr.out (m := [(.slice none (([] : List (List TPoint))).length 0), (iv 2)]) [] (res_tmp rfl (res_tmp rfl res_nil)) (fun W hW => ⟨w, (none, 0), leB, rfl, slf_nil, hW.pick (ks := [4]) (by decide) (pk_cons rfl pk_nil)⟩)
   ·refine Tr.skip (Tr.normThen ?_)
    refine Tr.sr ?_
    refine Tr.mv rfl rfl ?_
    refine Tr.asg rfl rfl ?_
    refine Tr.asg rfl rfl ?_
    refine Tr.nil (Tr.normThen ?_)
    refine Tr.ret ?_
    obtain rfl := Option.some.inj H
    exact Tr.out (m := [(.slice Ay101_0 (y101).length cy101_0), (iv 0)]) [] (res_tmp rfl (res_tmp rfl res_nil)) (fun W hW => ⟨w, (Ay101_0, cy101_0), leB, rfl, hgy101_0, hW.pick (ks := [3]) (by decide) (pk_cons rfl pk_nil)⟩)

theorem F_etchhouseref3_around_ok (N : Nat) {w : Bs} (p0 : (List TPoint)) (Ap0_0 : Option Addr) (cp0_0 : Nat) (hp0_0 : Sl w.R w.W fl_TPoint Ap0_0 cp0_0 p0) (r : Int) (H : F_etchhouseref3_around N p0 = some r) (hE : HF w w.W E0) : Calls Tryz.prog 19 [(.slice Ap0_0 (p0).length cp0_0)].toArray w.W fun e W' => e = .returned (iv r) ∧ HF w W' E0 := by
 unfold F_etchhouseref3_around at H
 have leB := Bs.Le.refl w
 refine Tr.enter (n := 39) Tryz.func19 rfl rfl rfl hE ?_
 refine Tr.sr ?_
 refine Tr.asg rfl rfl ?_
 refine Tr.nil (Tr.normThen ?_)
 refine Tr.sr ?_
 refine Tr.asg rfl rfl ?_
 refine Tr.nil (Tr.normThen ?_)
 refine Tr.seq ?_
 refine Tr.sr ?_
 refine Tr.asg rfl rfl ?_
 refine Tr.nil (Tr.normThen ?_)
 refine Tr.block ?_
 refine Tr.loop (σ := Int × Int) (fun m w s => F_etchhouseref3_around_L1 p0 m s.1 s.2 = some r) (fun s => [(0, (.slice Ap0_0 (p0).length cp0_0)), (3, (iv s.1)), (4, (iv s.2))]) (fun s => []) N (0, 0) H (.r rfl) .nil (fun _ _ h => noSome (h)) ?_
 intro w leL1 mL1 s hs
 obtain ⟨x120, x121⟩ := s
 have H := hs
 replace H : F_etchhouseref3_around_L1 p0 (mL1 + 1) x120 x121 = some r := H
 replace hp0_0 := hp0_0.leR leL1
 replace leB := leB.trans leL1
 rw [F_etchhouseref3_around_L1.eq_2] at H
 show Tr _ _ (LF [(0, (.slice Ap0_0 (p0).length cp0_0)), (3, (iv x120)), (4, (iv x121))]) (LE []) _
 refine Tr.seq ?_
 refine Tr.sr ?_
 refine Tr.mv rfl rfl ?_
 refine Tr.mv rfl rfl ?_
 refine Tr.v1 rfl (run_len un_43) rfl ?_
 refine Tr.v2 rfl run_lss rfl rfl ?_
 refine Tr.nil (Tr.normThen ?_)
 refine Tr.cond rfl H (fun H => ?_) (fun H => ?_)
 ·refine Tr.skip (Tr.normThen ?_)
  refine Tr.seq ?_
  refine Tr.block ?_
  refine Tr.seq ?_
  refine Tr.drawC 15 [] [14] (by kernel_rfl) (by kernel_rfl) fun sz122 hlosz122 hEsz122 => ?_
  refine Dr.quiet 0 [(13, (.slice Ap0_0 (p0).length cp0_0))] (by kernel_rfl) rfl rfl (by kernel_rfl) ?_ rfl rfl ?_
  ·refine Tq.mv rfl rfl ?_
   exact Tq.fin (.r rfl)
  refine Dr.quiet 1 [(14, (iv x121))] (by kernel_rfl) rfl rfl (by kernel_rfl) ?_ rfl rfl ?_
  ·refine Tq.mv rfl rfl ?_
   exact Tq.fin (.r rfl)
  obtain ⟨x123, hx123, H⟩ := bnd H
  obtain ⟨hx1230, hx1231, hx1232⟩ := idx_some hx123
  refine Dr.quiet 2 [(15, (.pointer (some ⟨adB Ap0_0, adO Ap0_0 + (x121).toNat * 2, none⟩)))] (by kernel_rfl) rfl rfl (by kernel_rfl) ?_ rfl rfl ?_
  ·refine Tq.va rfl (fun _ _ h1 h2 => run_indexAddr el_43 (h1.ev rfl) hp0_0.form (h1.ev rfl) hx1230 hx1231) ?_
   exact Tq.fin (.r rfl)
  refine Dr.quiet 3 [(16, (.agg #[(iv x123.X), (iv x123.Y)]))] (by kernel_rfl) rfl rfl (by kernel_rfl) ?_ rfl rfl ?_
  ·refine Tq.va rfl (fun _ _ h1 h2 => run_loadN (cs := [(iv x123.X), (iv x123.Y)]) ag_47 sz_47 (h1.ev rfl) (CellsAt.take (rdF ef_TPoint hp0_0 hx1232 h2) 2) rfl) ?_
   exact Tq.fin (.r rfl)
  refine Dr.quietP 4 (by kernel_rfl) rfl (wn rfl) rfl (by kernel_rfl) (fun _ _ h1 => run_move (h1.ev rfl)) rfl ?_
  refine Dr.quietP 5 (by kernel_rfl) rfl (wn rfl) rfl (by kernel_rfl) (fun _ _ h1 => run_move (h1.ev rfl)) rfl ?_
  refine Dr.quietP 6 (by kernel_rfl) rfl (wn rfl) rfl (by kernel_rfl) (fun _ _ h1 => run_add (h1.ev rfl) (h1.ev rfl)) rfl ?_
  refine Dr.quietP 7 (by kernel_rfl) rfl (wn rfl) rfl (by kernel_rfl) (fun _ _ h1 => run_move (h1.ev rfl)) rfl ?_
  refine Dr.quietP 8 (by kernel_rfl) rfl (wn rfl) rfl (by kernel_rfl) (fun _ _ h1 => run_len un_43 (h1.ev rfl)) rfl ?_
  obtain ⟨q124, hq124, H⟩ := bnd H
  refine Dr.quietP 9 (by kernel_rfl) rfl (wn rfl) rfl (by kernel_rfl) (fun _ _ h1 => run_md (h1.ev rfl) (h1.ev rfl) hq124) rfl ?_
  obtain ⟨x125, hx125, H⟩ := bnd H
  obtain ⟨hx1250, hx1251, hx1252⟩ := idx_some hx125
  refine Dr.quietP 10 (by kernel_rfl) rfl (wn rfl) rfl (by kernel_rfl) (fun _ _ h1 => run_indexAddr el_43 (h1.ev rfl) hp0_0.form (h1.ev rfl) hx1250 hx1251) rfl ?_
  refine Dr.quietZ 11 [(24, (.agg #[(iv x125.X), (iv x125.Y)]))] [] true (by kernel_rfl) rfl rfl (by kernel_rfl) (fun W W' h2 hsW hk => HF.keepZ (le := []) (ks := []) (s0 := sz122) true h2 hk (fun _ => hlosz122) .nil (fun b hb => hb.elim (fun ⟨_, hp, _⟩ => nomatch hp) (fun hb => .inr ⟨rfl, hb.2, (fun _ h => nomatch h)⟩)) (fun _ h => nomatch h) rfl) ?_ rfl rfl ?_
  ·refine Tq.va rfl (fun _ _ h1 h2 => run_loadN (cs := [(iv x125.X), (iv x125.Y)]) ag_47 sz_47 (h1.ev rfl) (CellsAt.take (rdF ef_TPoint hp0_0 hx1252 h2) 2) rfl) ?_
   exact Tq.fin (.r rfl)
  refine Dr.cut (U := Nat × Nat) [12, 13] 1 (fun u => sz122 ≤ u.1 ∧ sz122 ≤ u.2) (fun u => [(0, (.slice Ap0_0 (p0).length cp0_0)), (3, (iv x120)), (4, (iv x121)), (5, (.pointer (some ⟨u.1, 0, none⟩))), (6, (.pointer (some ⟨u.2, 0, none⟩))), (7, (iv x121)), (8, (.slice Ap0_0 (p0).length cp0_0)), (9, (iv (p0.length : Int))), (10, (.bool (decide (x121 < (p0.length : Int))))), (13, (.slice Ap0_0 (p0).length cp0_0)), (14, (iv x121)), (15, (.pointer (some ⟨adB Ap0_0, adO Ap0_0 + (x121).toNat * 2, none⟩))), (16, (.agg #[(iv x123.X), (iv x123.Y)])), (17, (.slice Ap0_0 (p0).length cp0_0)), (18, (iv x121)), (19, (iv (w64 (x121 + 1)))), (20, (.slice Ap0_0 (p0).length cp0_0)), (21, (iv (p0.length : Int))), (22, (iv q124)), (23, (.pointer (some ⟨adB Ap0_0, adO Ap0_0 + (q124).toNat * 2, none⟩))), (24, (.agg #[(iv x125.X), (iv x125.Y)]))]) (fun u => [(5, bx u.1 #[(iv 0), (iv 0)] 47), (6, bx u.2 #[(iv 0), (iv 0)] 47)]) ?_ ?_
  ·intro hC
   refine Dr.pair 12 13 (by kernel_rfl) ?_ ?_
   ·refine St.alloc 12 5 rfl (wn rfl) rfl ze_47 fun b126 hb126 => ?_
    refine Dr.one 13 (by kernel_rfl) ?_
    refine St.alloc 13 6 rfl (wn rfl) rfl ze_47 fun b127 hb127 => ?_
    exact (hC ⟨b126, b127⟩ ⟨hb126, hb127⟩).use (by kernel_rfl) (.r rfl) (.r rfl)
   ·refine St.alloc 13 6 rfl (wn rfl) rfl ze_47 fun b127 hb127 => ?_
    refine Dr.one 12 (by kernel_rfl) ?_
    refine St.alloc 12 5 rfl (wn rfl) rfl ze_47 fun b126 hb126 => ?_
    exact (hC ⟨b126, b127⟩ ⟨hb126, hb127⟩).use (by kernel_rfl) (.r rfl) (.r rfl)
  intro u hu
  obtain ⟨b126, b127⟩ := u
  obtain ⟨hb126, hb127⟩ := hu
  replace hb126 : sz122 ≤ b126 := hb126
  replace hb127 : sz122 ≤ b127 := hb127
  show Dr _ _ _ _ _ _ _ _ _ (LF [(0, (.slice Ap0_0 (p0).length cp0_0)), (3, (iv x120)), (4, (iv x121)), (5, (.pointer (some ⟨b126, 0, none⟩))), (6, (.pointer (some ⟨b127, 0, none⟩))), (7, (iv x121)), (8, (.slice Ap0_0 (p0).length cp0_0)), (9, (iv (p0.length : Int))), (10, (.bool (decide (x121 < (p0.length : Int))))), (13, (.slice Ap0_0 (p0).length cp0_0)), (14, (iv x121)), (15, (.pointer (some ⟨adB Ap0_0, adO Ap0_0 + (x121).toNat * 2, none⟩))), (16, (.agg #[(iv x123.X), (iv x123.Y)])), (17, (.slice Ap0_0 (p0).length cp0_0)), (18, (iv x121)), (19, (iv (w64 (x121 + 1)))), (20, (.slice Ap0_0 (p0).length cp0_0)), (21, (iv (p0.length : Int))), (22, (iv q124)), (23, (.pointer (some ⟨adB Ap0_0, adO Ap0_0 + (q124).toNat * 2, none⟩))), (24, (.agg #[(iv x125.X), (iv x125.Y)]))]) (LE [(5, bx b126 #[(iv 0), (iv 0)] 47), (6, bx b127 #[(iv 0), (iv 0)] 47)])
  refine Dr.one 14 (by kernel_rfl) ?_
  refine St.store 14 5 (cs := [(iv x123.X), (iv x123.Y)]) [(iv x123.X), (iv x123.Y)] rfl (wn rfl) (.inr ⟨by simp, hb126⟩) rfl rfl rfl rfl sz_47 rfl rfl rfl ?_
  refine Dr.tail (by kernel_rfl) ?_
  refine Tr.store 6 (cs := [(iv x125.X), (iv x125.Y)]) [(iv x125.X), (iv x125.Y)] (wn rfl) rfl rfl rfl rfl sz_47 rfl rfl rfl ?_
  refine Tr.nil (Tr.normThen ?_)
  refine Tr.region ?_
  refine Tr.mv rfl rfl ?_
  refine Tr.v1 rfl (run_fieldAddr fo_47_0) rfl ?_
  refine Tr.va rfl (fun _ _ h1 h2 => run_load1 ag_3 (h1.ev rfl) (rdb h2 (vs := [(iv x123.X), (iv x123.Y)]) (k := 5) rfl 0) rfl) ?_
  refine Tr.v1 rfl (run_fieldAddr fo_47_1) rfl ?_
  refine Tr.va rfl (fun _ _ h1 h2 => run_load1 ag_3 (h1.ev rfl) (rdb h2 (vs := [(iv x125.X), (iv x125.Y)]) (k := 6) rfl 1) rfl) ?_
  refine Tr.v2 rfl run_mul rfl rfl ?_
  refine Tr.v1 rfl (run_fieldAddr fo_47_0) rfl ?_
  refine Tr.va rfl (fun _ _ h1 h2 => run_load1 ag_3 (h1.ev rfl) (rdb h2 (vs := [(iv x125.X), (iv x125.Y)]) (k := 6) rfl 0) rfl) ?_
  refine Tr.v1 rfl (run_fieldAddr fo_47_1) rfl ?_
  refine Tr.va rfl (fun _ _ h1 h2 => run_load1 ag_3 (h1.ev rfl) (rdb h2 (vs := [(iv x123.X), (iv x123.Y)]) (k := 5) rfl 1) rfl) ?_
  refine Tr.v2 rfl run_mul rfl rfl ?_
  refine Tr.v2 rfl run_sub rfl rfl ?_
  refine Tr.v2 rfl run_add rfl rfl ?_
  refine Tr.asg rfl rfl ?_
  refine Tr.nil (Tr.normBlock (Tr.normThen ?_))
  refine Tr.region ?_
  refine Tr.mv rfl rfl ?_
  refine Tr.v2 rfl run_add rfl rfl ?_
  refine Tr.asg rfl rfl ?_
  refine Tr.nil ?_
  exact Tr.backThen leL1 ((w64 (x120 + (w64 ((w64 (x123.X * x125.Y)) - (w64 (x125.X * x123.Y)))))), (w64 (x121 + 1))) H (.r rfl) .nil
 ·refine Tr.exit (Tr.exitThen (Tr.exitThen (Tr.exitBlock (Tr.normThen ?_))))
  refine Tr.sr ?_
  refine Tr.mv rfl rfl ?_
  refine Tr.asg rfl rfl ?_
  refine Tr.nil (Tr.normThen ?_)
  refine Tr.ret ?_
  obtain rfl := Option.some.inj H
  exact Tr.out (m := [(iv x120)]) [] (res_tmp rfl res_nil) (fun W hW => ⟨rfl, hW.low leB⟩)

theorem F_etchhouseref3_size_ok {w : Bs} (p0 : Int) (r : Int) (H : F_etchhouseref3_size p0 = some r) (hE : HF w w.W E0) : Calls Tryz.prog 18 [(iv p0)].toArray w.W fun e W' => e = .returned (iv r) ∧ HF w W' E0 := by
 unfold F_etchhouseref3_size at H
 have leB := Bs.Le.refl w
 refine Tr.enter (n := 7) Tryz.func18 rfl rfl rfl hE ?_
 refine Tr.sr ?_
 refine Tr.asg rfl rfl ?_
 refine Tr.nil (Tr.normThen ?_)
 refine Tr.sr ?_
 refine Tr.mv rfl rfl ?_
 refine Tr.mv rfl rfl ?_
 refine Tr.v1 rfl run_neg rfl ?_
 refine Tr.va rfl (fun _ _ h1 h2 => run_max (h1.ev rfl) (h1.ev rfl) _) ?_
 refine Tr.asg rfl rfl ?_
 refine Tr.nil (Tr.normThen ?_)
 refine Tr.ret ?_
 obtain rfl := Option.some.inj H
 exact Tr.out (m := [(iv (max p0 (w64 (0 - p0))))]) [] (res_tmp rfl res_nil) (fun W hW => ⟨rfl, hW.low leB⟩)

theorem F_etchhouseref3_within_ok {w : Bs} (p0 : Int) (p1 : Int) (p2 : Int) (r : Bool) (H : F_etchhouseref3_within p0 p1 p2 = some r) (hE : HF w w.W E0) : Calls Tryz.prog 86 [(iv p0), (iv p1), (iv p2)].toArray w.W fun e W' => e = .returned (.bool r) ∧ HF w W' E0 := by
 unfold F_etchhouseref3_within at H
 have leB := Bs.Le.refl w
 refine Tr.enter (n := 15) Tryz.func86 rfl rfl rfl hE ?_
 refine Tr.sr ?_
 refine Tr.asg rfl rfl ?_
 refine Tr.nil (Tr.normThen ?_)
 refine Tr.sr ?_
 refine Tr.mv rfl rfl ?_
 refine Tr.mv rfl rfl ?_
 refine Tr.v2 rfl run_geq rfl rfl ?_
 refine Tr.mv rfl rfl ?_
 refine Tr.mid0 4 [(14, (.bool ((decide (p1 ≤ p0)) && (decide (p0 ≤ p2)))))] [] ?_ ?_
 ·cases hg99 : (decide (p1 ≤ p0))
  ·refine Tr.ps ?_
   refine Tr.ps ?_
   refine Tr.ps ?_
   refine Tr.v2 rfl run_pickF rfl rfl ?_
   exact Tr.nil (Tr.fin0 (.r rfl) .nil)
  ·refine Tr.w1 (wg rfl rfl rfl) rfl run_move rfl ?_
   refine Tr.w1 (wg rfl rfl rfl) rfl run_move rfl ?_
   refine Tr.w2 (wg rfl rfl rfl) rfl run_leq rfl rfl ?_
   refine Tr.v2 rfl run_pickT rfl rfl ?_
   exact Tr.nil (Tr.fin0 (.r rfl) .nil)
 ·show Tr _ _ (LF [(14, (.bool ((decide (p1 ≤ p0)) && (decide (p0 ≤ p2)))))]) (LE []) _
  refine Tr.asg rfl rfl ?_
  refine Tr.nil (Tr.normThen ?_)
  refine Tr.ret ?_
  obtain rfl := Option.some.inj H
  exact Tr.out (m := [(.bool ((decide (p1 ≤ p0)) && (decide (p0 ≤ p2))))]) [] (res_tmp rfl res_nil) (fun W hW => ⟨rfl, hW.low leB⟩)

theorem F_etchhouseref3_fits_ok {w : Bs} (p0 : Int) (p1 : Int) (r : Bool) (H : F_etchhouseref3_fits p0 p1 = some r) (hE : HF w w.W E0) : Calls Tryz.prog 128 [(iv p0), (iv p1)].toArray w.W fun e W' => e = .returned (.bool r) ∧ HF w W' E0 := by
 unfold F_etchhouseref3_fits at H
 have leB := Bs.Le.refl w
 refine Tr.enter (n := 13) Tryz.func128 rfl rfl rfl hE ?_
 refine Tr.sr ?_
 refine Tr.asg rfl rfl ?_
 refine Tr.nil (Tr.normThen ?_)
 refine Tr.sr ?_
 refine Tr.mv rfl rfl ?_
 obtain ⟨y100, hy100, H⟩ := bnd H
 refine Tr.call0 (r := (.bool y100)) (wn rfl) rfl Tryz.call120 (evl_cons rfl evl_nil) (fun W hW => F_etchhouseref1_At_ok p0 y100 hy100 (HF.start _)) ?_
 refine Tr.mv rfl rfl ?_
 obtain ⟨g102, hg102, H⟩ := bnd H
 refine Tr.mid0 5 [(12, (.bool g102))] [] ?_ ?_
 ·cases hg103 : y100
  ·rw [hg103] at hg102
   rw [if_neg (by decide)] at hg102
   have H := hg102
   obtain rfl := Option.some.inj H
   refine Tr.ps ?_
   refine Tr.ps ?_
   refine Tr.ps ?_
   refine Tr.ps ?_
   refine Tr.v2 rfl run_pickF rfl rfl ?_
   exact Tr.nil (Tr.fin0 (.r rfl) .nil)
  ·rw [hg103] at hg102
   rw [if_pos rfl] at hg102
   have H := hg102
   refine Tr.w1 (wg rfl rfl rfl) rfl run_move rfl ?_
   refine Tr.w1 (wg rfl rfl rfl) rfl run_move rfl ?_
   refine Tr.w2 (wg rfl rfl rfl) rfl run_mul rfl rfl ?_
   obtain ⟨y103, hy103, H⟩ := bnd H
   refine Tr.call0 (r := (.bool y103)) (wg rfl rfl rfl) rfl Tryz.call120 (evl_cons rfl evl_nil) (fun W hW => F_etchhouseref1_At_ok (w64 (p0 * p1)) y103 hy103 (HF.start _)) ?_
   refine Tr.v2 rfl run_pickT rfl rfl ?_
   obtain rfl := Option.some.inj H
   exact Tr.nil (Tr.fin0 (.r rfl) .nil)
 ·show Tr _ _ (LF [(12, (.bool g102))]) (LE []) _
  refine Tr.asg rfl rfl ?_
  refine Tr.nil (Tr.normThen ?_)
  refine Tr.ret ?_
  obtain rfl := Option.some.inj H
  exact Tr.out (m := [(.bool g102)]) [] (res_tmp rfl res_nil) (fun W hW => ⟨rfl, hW.low leB⟩)

theorem F_etchhouseref3_count_b_ok (N : Nat) (rec : (List TPlotStep) → Option Int) (hrec : ∀ {w : Bs} (p0 : (List TPlotStep)) (Ap0_0 : Option Addr) (cp0_0 : Nat) (hp0_0 : Sl w.R w.W fl_TPlotStep Ap0_0 cp0_0 p0) (r : Int) (H : rec p0 = some r) (hE : HF w w.W E0), Calls Tryz.prog 89 [(.slice Ap0_0 (p0).length cp0_0)].toArray w.W fun e W' => e = .returned (iv r) ∧ HF w W' E0) {w : Bs} (p0 : (List TPlotStep)) (Ap0_0 : Option Addr) (cp0_0 : Nat) (hp0_0 : Sl w.R w.W fl_TPlotStep Ap0_0 cp0_0 p0) (r : Int) (H : F_etchhouseref3_count_b N rec p0 = some r) (hE : HF w w.W E0) : Calls Tryz.prog 89 [(.slice Ap0_0 (p0).length cp0_0)].toArray w.W fun e W' => e = .returned (iv r) ∧ HF w W' E0 := by
 unfold F_etchhouseref3_count_b at H
 have leB := Bs.Le.refl w
 refine Tr.enter (n := 55) Tryz.func89 rfl rfl rfl hE ?_
 refine Tr.sr ?_
 refine Tr.asg rfl rfl ?_
 refine Tr.nil (Tr.normThen ?_)
 refine Tr.sr ?_
 refine Tr.asg rfl rfl ?_
 refine Tr.nil (Tr.normThen ?_)
 refine Tr.seq ?_
 refine Tr.sr ?_
 refine Tr.asg rfl rfl ?_
 refine Tr.nil (Tr.normThen ?_)
 refine Tr.block ?_
 refine Tr.loop (σ := Int × Int) (fun m w s => F_etchhouseref3_count_L5 p0 rec m s.1 s.2 = some r) (fun s => [(0, (.slice Ap0_0 (p0).length cp0_0)), (3, (iv s.1)), (4, (iv s.2))]) (fun s => []) N (0, 0) H (.r rfl) .nil (fun _ _ h => noSome (h)) ?_
 intro w leL5 mL5 s hs
 obtain ⟨x144, x145⟩ := s
 have H := hs
 replace H : F_etchhouseref3_count_L5 p0 rec (mL5 + 1) x144 x145 = some r := H
 replace hp0_0 := hp0_0.leR leL5
 replace leB := leB.trans leL5
 rw [F_etchhouseref3_count_L5.eq_2] at H
 show Tr _ _ (LF [(0, (.slice Ap0_0 (p0).length cp0_0)), (3, (iv x144)), (4, (iv x145))]) (LE []) _
 refine Tr.seq ?_
 refine Tr.sr ?_
 refine Tr.mv rfl rfl ?_
 refine Tr.mv rfl rfl ?_
 refine Tr.v1 rfl (run_len un_24) rfl ?_
 refine Tr.v2 rfl run_lss rfl rfl ?_
 refine Tr.mv rfl rfl ?_
 refine Tr.mid0 3 [(0, (.slice Ap0_0 (p0).length cp0_0)), (3, (iv x144)), (4, (iv x145)), (14, (.bool ((decide (x145 < (p0.length : Int))) && (decide (x144 ≤ 3000)))))] [] ?_ ?_
 ·cases hg164 : (decide (x145 < (p0.length : Int)))
  ·refine Tr.ps ?_
   refine Tr.ps ?_
   refine Tr.v2 rfl run_pickF rfl rfl ?_
   exact Tr.nil (Tr.fin0 (.r rfl) .nil)
  ·refine Tr.w1 (wg rfl rfl rfl) rfl run_move rfl ?_
   refine Tr.w2 (wg rfl rfl rfl) rfl run_leq rfl rfl ?_
   refine Tr.v2 rfl run_pickT rfl rfl ?_
   exact Tr.nil (Tr.fin0 (.r rfl) .nil)
 ·show Tr _ _ (LF [(0, (.slice Ap0_0 (p0).length cp0_0)), (3, (iv x144)), (4, (iv x145)), (14, (.bool ((decide (x145 < (p0.length : Int))) && (decide (x144 ≤ 3000)))))]) (LE []) _
  refine Tr.nil (Tr.normThen ?_)
  refine Tr.cond rfl H (fun H => ?_) (fun H => ?_)
  ·refine Tr.skip (Tr.normThen ?_)
   refine Tr.seq ?_
   refine Tr.block ?_
   refine Tr.sr ?_
   refine Tr.mv rfl rfl ?_
   refine Tr.v2 rfl run_add rfl rfl ?_
   refine Tr.asg rfl rfl ?_
   refine Tr.nil (Tr.normThen ?_)
   refine Tr.sr ?_
   refine Tr.asg rfl rfl ?_
   refine Tr.asg rfl rfl ?_
   refine Tr.nil (Tr.normThen ?_)
   have leJ149 := Bs.Le.refl w
   refine Tr.cutJ (σ := Unit) (fun w _ => F_etchhouseref3_count_J7 p0 rec x144 x145 (F_etchhouseref3_count_L5 p0 rec mL5) = some r) (fun _ => [(0, (.slice Ap0_0 (p0).length cp0_0)), (3, (iv (w64 (x144 + 1)))), (4, (iv x145)), (5, (iv 1)), (6, (iv 1))]) (fun _ => []) ?_ ?_
   ·refine Tr.sr ?_
    refine Tr.mv rfl rfl ?_
    refine Tr.mv rfl rfl ?_
    obtain ⟨x162, hx162, H⟩ := bnd H
    obtain ⟨hx1620, hx1621, hx1622⟩ := idx_some hx162
    obtain ⟨u163, hRu163, hoku163, hcu163⟩ := (hp0_0).el hx1622
    obtain ⟨⟨Au163_0, cu163_0⟩, ⟨Au163_1, cu163_1⟩⟩ := u163
    obtain ⟨hoku163_0, hoku163_1⟩ := TPlotStep_ok.1 hoku163
    replace hoku163_0 : Sl w.R w.W fl_TPoint Au163_0 cu163_0 x162.Points := hoku163_0
    replace hoku163_1 : Sl w.R w.W fl_TPlotStep Au163_1 cu163_1 x162.Steps := hoku163_1
    refine Tr.va rfl (fun _ _ h1 h2 => run_indexAddr el_24 (h1.ev rfl) hp0_0.form (h1.ev rfl) hx1620 hx1621) ?_
    refine Tr.v1 rfl (run_fieldAddr fo_53_4) rfl ?_
    refine Tr.va rfl (fun _ _ h1 h2 => run_load1 ag_3 (h1.ev rfl) (CellsAt.drop (rdR hRu163 hcu163 h2) 5) rfl) ?_
    obtain ⟨y164, hy164, H⟩ := bnd H
    refine Tr.call0 (r := (.bool y164)) (wn rfl) rfl Tryz.call86 (evl_cons rfl (evl_cons rfl (evl_cons rfl evl_nil))) (fun W hW => F_etchhouseref3_within_ok x162.NX 1 100 y164 hy164 (HF.start _)) ?_
    refine Tr.nil (Tr.normThen ?_)
    refine Tr.cond rfl H (fun H => ?_) (fun H => ?_)
    ·cases H
    ·refine Tr.skip ?_
     exact Tr.backThen leJ149 () H (.r rfl) .nil
   ·intro w _ hlJ150 hs
    have H := hs
    replace H : F_etchhouseref3_count_J7 p0 rec x144 x145 (F_etchhouseref3_count_L5 p0 rec mL5) = some r := H
    replace hp0_0 := hp0_0.leR hlJ150
    replace leB := leB.trans hlJ150
    replace leL5 := leL5.trans hlJ150
    unfold F_etchhouseref3_count_J7 at H
    show Tr _ _ (LF [(0, (.slice Ap0_0 (p0).length cp0_0)), (3, (iv (w64 (x144 + 1)))), (4, (iv x145)), (5, (iv 1)), (6, (iv 1))]) (LE []) _
    have leJ154 := Bs.Le.refl w
    refine Tr.cutJ (σ := Unit) (fun w _ => F_etchhouseref3_count_J6 p0 rec x144 x145 (F_etchhouseref3_count_L5 p0 rec mL5) = some r) (fun _ => [(0, (.slice Ap0_0 (p0).length cp0_0)), (3, (iv (w64 (x144 + 1)))), (4, (iv x145)), (5, (iv 1)), (6, (iv 1))]) (fun _ => []) ?_ ?_
    ·refine Tr.sr ?_
     refine Tr.mv rfl rfl ?_
     refine Tr.mv rfl rfl ?_
     obtain ⟨x159, hx159, H⟩ := bnd H
     obtain ⟨hx1590, hx1591, hx1592⟩ := idx_some hx159
     obtain ⟨u160, hRu160, hoku160, hcu160⟩ := (hp0_0).el hx1592
     obtain ⟨⟨Au160_0, cu160_0⟩, ⟨Au160_1, cu160_1⟩⟩ := u160
     obtain ⟨hoku160_0, hoku160_1⟩ := TPlotStep_ok.1 hoku160
     replace hoku160_0 : Sl w.R w.W fl_TPoint Au160_0 cu160_0 x159.Points := hoku160_0
     replace hoku160_1 : Sl w.R w.W fl_TPlotStep Au160_1 cu160_1 x159.Steps := hoku160_1
     refine Tr.va rfl (fun _ _ h1 h2 => run_indexAddr el_24 (h1.ev rfl) hp0_0.form (h1.ev rfl) hx1590 hx1591) ?_
     refine Tr.v1 rfl (run_fieldAddr fo_53_5) rfl ?_
     refine Tr.va rfl (fun _ _ h1 h2 => run_load1 ag_3 (h1.ev rfl) (CellsAt.drop (rdR hRu160 hcu160 h2) 6) rfl) ?_
     obtain ⟨y161, hy161, H⟩ := bnd H
     refine Tr.call0 (r := (.bool y161)) (wn rfl) rfl Tryz.call86 (evl_cons rfl (evl_cons rfl (evl_cons rfl evl_nil))) (fun W hW => F_etchhouseref3_within_ok x159.NY 1 100 y161 hy161 (HF.start _)) ?_
     refine Tr.nil (Tr.normThen ?_)
     refine Tr.cond rfl H (fun H => ?_) (fun H => ?_)
     ·cases H
     ·refine Tr.skip ?_
      exact Tr.backThen leJ154 () H (.r rfl) .nil
    ·intro w _ hlJ155 hs
     have H := hs
     replace H : F_etchhouseref3_count_J6 p0 rec x144 x145 (F_etchhouseref3_count_L5 p0 rec mL5) = some r := H
     replace hp0_0 := hp0_0.leR hlJ155
     replace leB := leB.trans hlJ155
     replace leL5 := leL5.trans hlJ155
     unfold F_etchhouseref3_count_J6 at H
     show Tr _ _ (LF [(0, (.slice Ap0_0 (p0).length cp0_0)), (3, (iv (w64 (x144 + 1)))), (4, (iv x145)), (5, (iv 1)), (6, (iv 1))]) (LE []) _
     refine Tr.region ?_
     refine Tr.mv rfl rfl ?_
     refine Tr.mv rfl rfl ?_
     refine Tr.mv rfl rfl ?_
     refine Tr.v2 rfl run_mul rfl rfl ?_
     refine Tr.mv rfl rfl ?_
     refine Tr.mv rfl rfl ?_
     obtain ⟨x156, hx156, H⟩ := bnd H
     obtain ⟨hx1560, hx1561, hx1562⟩ := idx_some hx156
     obtain ⟨u157, hRu157, hoku157, hcu157⟩ := (hp0_0).el hx1562
     obtain ⟨⟨Au157_0, cu157_0⟩, ⟨Au157_1, cu157_1⟩⟩ := u157
     obtain ⟨hoku157_0, hoku157_1⟩ := TPlotStep_ok.1 hoku157
     replace hoku157_0 : Sl w.R w.W fl_TPoint Au157_0 cu157_0 x156.Points := hoku157_0
     replace hoku157_1 : Sl w.R w.W fl_TPlotStep Au157_1 cu157_1 x156.Steps := hoku157_1
     refine Tr.va rfl (fun _ _ h1 h2 => run_indexAddr el_24 (h1.ev rfl) hp0_0.form (h1.ev rfl) hx1560 hx1561) ?_
     refine Tr.v1 rfl (run_fieldAddr fo_53_6) rfl ?_
     refine Tr.va rfl (fun _ _ h1 h2 => run_load1 ag_24 (h1.ev rfl) (CellsAt.drop (rdR hRu157 hcu157 h2) 7) rfl) ?_
     obtain ⟨y158, hy158, H⟩ := bnd H
     refine Tr.call0 (r := (iv y158)) (wn rfl) rfl Tryz.call89 (evl_cons rfl evl_nil) (fun W hW => hrec x156.Steps Au157_1 cu157_1 (hoku157_1.ext hW.extAll) y158 hy158 (HF.start _)) ?_
     refine Tr.v2 rfl run_mul rfl rfl ?_
     refine Tr.v2 rfl run_add rfl rfl ?_
     refine Tr.asg rfl rfl ?_
     refine Tr.nil (Tr.normBlock (Tr.normThen ?_))
     refine Tr.region ?_
     refine Tr.mv rfl rfl ?_
     refine Tr.v2 rfl run_add rfl rfl ?_
     refine Tr.asg rfl rfl ?_
     refine Tr.nil ?_
     exact Tr.backThen leL5 ((w64 ((w64 (x144 + 1)) + (w64 ((w64 (1 * 1)) * y158)))), (w64 (x145 + 1))) H (.r rfl) .nil
  ·refine Tr.exit (Tr.exitThen (Tr.exitThen (Tr.exitBlock (Tr.normThen ?_))))
   refine Tr.sr ?_
   refine Tr.mv rfl rfl ?_
   refine Tr.va rfl (fun _ _ h1 h2 => run_min (h1.ev rfl) (h1.ev rfl) _) ?_
   refine Tr.asg rfl rfl ?_
   refine Tr.nil (Tr.normThen ?_)
   refine Tr.ret ?_
   obtain rfl := Option.some.inj H
   exact Tr.out (m := [(iv (min x144 3001))]) [] (res_tmp rfl res_nil) (fun W hW => ⟨rfl, hW.low leB⟩)
theorem F_etchhouseref3_count_ok : ∀ (N : Nat) {w : Bs} (p0 : (List TPlotStep)) (Ap0_0 : Option Addr) (cp0_0 : Nat) (hp0_0 : Sl w.R w.W fl_TPlotStep Ap0_0 cp0_0 p0) (r : Int) (H : F_etchhouseref3_count N p0 = some r) (hE : HF w w.W E0), Calls Tryz.prog 89 [(.slice Ap0_0 (p0).length cp0_0)].toArray w.W fun e W' => e = .returned (iv r) ∧ HF w W' E0
 | 0 => by intros; rename_i H _; cases H
 | N + 1 => F_etchhouseref3_count_b_ok N (F_etchhouseref3_count N) (F_etchhouseref3_count_ok N)

theorem F_etchhouseref3_fields_ok {w : Bs} (p0 : TPlotStep) (Ap0_0 : Option Addr) (cp0_0 : Nat) (hp0_0 : Sl w.R w.W fl_TPoint Ap0_0 cp0_0 p0.Points) (Ap0_1 : Option Addr) (cp0_1 : Nat) (hp0_1 : Sl w.R w.W fl_TPlotStep Ap0_1 cp0_1 p0.Steps) (r : Bool) (H : F_etchhouseref3_fields p0 = some r) (hE : HF w w.W E0) : Calls Tryz.prog 177 [(.agg #[(iv p0.Kind), (sv p0.Name), (iv p0.At.X), (iv p0.At.Y), (.slice Ap0_0 (p0.Points).length cp0_0), (iv p0.NX), (iv p0.NY), (.slice Ap0_1 (p0.Steps).length cp0_1)])].toArray w.W fun e W' => e = .returned (.bool r) ∧ HF w W' E0 := by
 unfold F_etchhouseref3_fields at H
 have leB := Bs.Le.refl w
 refine Tr.enter (n := 62) Tryz.func177 rfl rfl rfl hE ?_
 refine Tr.sr ?_
 refine Tr.box 1 (cs := [(iv p0.Kind), (sv p0.Name), (iv p0.At.X), (iv p0.At.Y), (.slice Ap0_0 (p0.Points).length cp0_0), (iv p0.NX), (iv p0.NY), (.slice Ap0_1 (p0.Steps).length cp0_1)]) (wn rfl) rfl rfl rfl fun b100 => ?_
 refine Tr.asg rfl rfl ?_
 refine Tr.nil (Tr.normThen ?_)
 refine Tr.sr ?_
 refine Tr.asg rfl rfl ?_
 refine Tr.asg rfl rfl ?_
 refine Tr.asg rfl rfl ?_
 refine Tr.asg rfl rfl ?_
 refine Tr.nil (Tr.normThen ?_)
 have leJ106 := Bs.Le.refl w
 refine Tr.cutJ (σ := Bool × Bool) (fun w s => F_etchhouseref3_fields_J2 p0 s.1 s.2 = some r) (fun s => [(1, (.pointer (some ⟨b100, 0, none⟩))), (3, (.bool s.1)), (4, (.bool false)), (5, (.bool s.2)), (6, (.bool false))]) (fun s => [(1, bx b100 #[(iv p0.Kind), (sv p0.Name), (iv p0.At.X), (iv p0.At.Y), (.slice Ap0_0 (p0.Points).length cp0_0), (iv p0.NX), (iv p0.NY), (.slice Ap0_1 (p0.Steps).length cp0_1)] 53)]) ?_ ?_
 ·refine Tr.sr ?_
  refine Tr.v1 rfl (run_fieldAddr fo_53_0) rfl ?_
  refine Tr.va rfl (fun _ _ h1 h2 => run_load1 ag_3 (h1.ev rfl) (rdb h2 (vs := [(iv p0.Kind), (sv p0.Name), (iv p0.At.X), (iv p0.At.Y), (.slice Ap0_0 (p0.Points).length cp0_0), (iv p0.NX), (iv p0.NY), (.slice Ap0_1 (p0.Steps).length cp0_1)]) (k := 1) rfl 0) rfl) ?_
  refine Tr.nil (Tr.normThen ?_)
  refine Tr.block ?_
  refine Tr.sr ?_
  refine Tr.v2 rfl run_eql rfl rfl ?_
  refine Tr.asg rfl rfl ?_
  refine Tr.nil (Tr.normThen ?_)
  refine Tr.cond rfl H (fun H => ?_) (fun H => ?_)
  ·refine Tr.region ?_
   refine Tr.asg rfl rfl ?_
   refine Tr.nil (Tr.normBlock ?_)
   exact Tr.backThen leJ106 (true, false) H (.r rfl) (.r rfl)
  ·have leJ109 := Bs.Le.refl w
   refine Tr.cutJ (σ := Bool) (fun w s => F_etchhouseref3_fields_J3 p0 s = some r) (fun s => [(1, (.pointer (some ⟨b100, 0, none⟩))), (3, (.bool false)), (4, (.bool false)), (5, (.bool false)), (6, (.bool false)), (8, (iv p0.Kind)), (11, (.bool s))]) (fun s => [(1, bx b100 #[(iv p0.Kind), (sv p0.Name), (iv p0.At.X), (iv p0.At.Y), (.slice Ap0_0 (p0.Points).length cp0_0), (iv p0.NX), (iv p0.NY), (.slice Ap0_1 (p0.Steps).length cp0_1)] 53)]) ?_ ?_
   ·refine Tr.sr ?_
    refine Tr.v2 rfl run_eql rfl rfl ?_
    refine Tr.asg rfl rfl ?_
    refine Tr.nil (Tr.normThen ?_)
    refine Tr.cond rfl H (fun H => ?_) (fun H => ?_)
    ·refine Tr.skip ?_
     exact Tr.backThen leJ109 (p0.Kind == 4) H (.r rfl) (.r rfl)
    ·refine Tr.sr ?_
     refine Tr.v2 rfl run_eql rfl rfl ?_
     refine Tr.asg rfl rfl ?_
     refine Tr.nil (Tr.normThen ?_)
     refine Tr.cond rfl H (fun H => ?_) (fun H => ?_)
     ·refine Tr.skip ?_
      exact Tr.backThen leJ109 (p0.Kind == 5) H (.r rfl) (.r rfl)
     ·refine Tr.region ?_
      refine Tr.v2 rfl run_eql rfl rfl ?_
      refine Tr.asg rfl rfl ?_
      refine Tr.nil ?_
      exact Tr.backThen leJ109 (p0.Kind == 6) H (.r rfl) (.r rfl)
   ·intro w x108 hlJ110 hs
    have H := hs
    replace H : F_etchhouseref3_fields_J3 p0 x108 = some r := H
    replace hp0_0 := hp0_0.leR hlJ110
    replace hp0_1 := hp0_1.leR hlJ110
    replace leB := leB.trans hlJ110
    replace leJ106 := leJ106.trans hlJ110
    unfold F_etchhouseref3_fields_J3 at H
    show Tr _ _ (LF [(1, (.pointer (some ⟨b100, 0, none⟩))), (3, (.bool false)), (4, (.bool false)), (5, (.bool false)), (6, (.bool false)), (8, (iv p0.Kind)), (11, (.bool x108))]) (LE [(1, bx b100 #[(iv p0.Kind), (sv p0.Name), (iv p0.At.X), (iv p0.At.Y), (.slice Ap0_0 (p0.Points).length cp0_0), (iv p0.NX), (iv p0.NY), (.slice Ap0_1 (p0.Steps).length cp0_1)] 53)]) _
    refine Tr.cond rfl H (fun H => ?_) (fun H => ?_)
    ·cases H
    ·refine Tr.sr ?_
     refine Tr.v2 rfl run_eql rfl rfl ?_
     refine Tr.asg rfl rfl ?_
     refine Tr.nil (Tr.normThen ?_)
     refine Tr.cond rfl H (fun H => ?_) (fun H => ?_)
     ·refine Tr.region ?_
      refine Tr.asg rfl rfl ?_
      refine Tr.nil (Tr.normBlock ?_)
      exact Tr.backThen leJ106 (false, true) H (.r rfl) (.r rfl)
     ·refine Tr.sr ?_
      refine Tr.v2 rfl run_eql rfl rfl ?_
      refine Tr.asg rfl rfl ?_
      refine Tr.nil (Tr.normThen ?_)
      refine Tr.cond rfl H (fun H => ?_) (fun H => ?_)
      ·cases H
      ·refine Tr.skip (Tr.normBlock ?_)
       exact Tr.backThen leJ106 (false, false) H (.r rfl) (.r rfl)
 ·intro w s hlJ107 hs
  obtain ⟨x104, x105⟩ := s
  have H := hs
  replace H : F_etchhouseref3_fields_J2 p0 x104 x105 = some r := H
  replace hp0_0 := hp0_0.leR hlJ107
  replace hp0_1 := hp0_1.leR hlJ107
  replace leB := leB.trans hlJ107
  unfold F_etchhouseref3_fields_J2 at H
  show Tr _ _ (LF [(1, (.pointer (some ⟨b100, 0, none⟩))), (3, (.bool x104)), (4, (.bool false)), (5, (.bool x105)), (6, (.bool false))]) (LE [(1, bx b100 #[(iv p0.Kind), (sv p0.Name), (iv p0.At.X), (iv p0.At.Y), (.slice Ap0_0 (p0.Points).length cp0_0), (iv p0.NX), (iv p0.NY), (.slice Ap0_1 (p0.Steps).length cp0_1)] 53)]) _
  refine Tr.sr ?_
  refine Tr.mv rfl rfl ?_
  refine Tr.mv rfl rfl ?_
  refine Tr.mid0 4 [(1, (.pointer (some ⟨b100, 0, none⟩))), (4, (.bool false)), (5, (.bool x105)), (6, (.bool false)), (24, (.bool (x104 || (sEq p0.Name ByteArray.empty))))] [(1, bx b100 #[(iv p0.Kind), (sv p0.Name), (iv p0.At.X), (iv p0.At.Y), (.slice Ap0_0 (p0.Points).length cp0_0), (iv p0.NX), (iv p0.NY), (.slice Ap0_1 (p0.Steps).length cp0_1)] 53)] ?_ ?_
  ·cases hg107 : x104
   ·refine Tr.w1 (wg rfl rfl rfl) rfl (run_fieldAddr fo_53_1) rfl ?_
    refine Tr.val (wg rfl rfl rfl) rfl (fun _ _ h1 h2 => run_load1 ag_9 (h1.ev rfl) (rdb h2 (vs := [(iv p0.Kind), (sv p0.Name), (iv p0.At.X), (iv p0.At.Y), (.slice Ap0_0 (p0.Points).length cp0_0), (iv p0.NX), (iv p0.NY), (.slice Ap0_1 (p0.Steps).length cp0_1)]) (k := 1) rfl 1) rfl) ?_
    refine Tr.w2 (wg rfl rfl rfl) rfl run_eqlS rfl rfl ?_
    refine Tr.v2 rfl run_pickF rfl rfl ?_
    exact Tr.nil (Tr.fin0 (.r rfl) (.r rfl))
   ·refine Tr.ps ?_
    refine Tr.ps ?_
    refine Tr.ps ?_
    refine Tr.v2 rfl run_pickT rfl rfl ?_
    exact Tr.nil (Tr.fin0 (.r rfl) (.r rfl))
  ·show Tr _ _ (LF [(1, (.pointer (some ⟨b100, 0, none⟩))), (4, (.bool false)), (5, (.bool x105)), (6, (.bool false)), (24, (.bool (x104 || (sEq p0.Name ByteArray.empty))))]) (LE [(1, bx b100 #[(iv p0.Kind), (sv p0.Name), (iv p0.At.X), (iv p0.At.Y), (.slice Ap0_0 (p0.Points).length cp0_0), (iv p0.NX), (iv p0.NY), (.slice Ap0_1 (p0.Steps).length cp0_1)] 53)]) _
   refine Tr.mv rfl rfl ?_
   refine Tr.mid0 8 [(1, (.pointer (some ⟨b100, 0, none⟩))), (5, (.bool x105)), (6, (.bool false)), (33, (.bool ((x104 || (sEq p0.Name ByteArray.empty)) && (eqTPoint p0.At (TPoint.mk 0 0)))))] [(1, bx b100 #[(iv p0.Kind), (sv p0.Name), (iv p0.At.X), (iv p0.At.Y), (.slice Ap0_0 (p0.Points).length cp0_0), (iv p0.NX), (iv p0.NY), (.slice Ap0_1 (p0.Steps).length cp0_1)] 53)] ?_ ?_
   ·cases hg107 : (x104 || (sEq p0.Name ByteArray.empty))
    ·refine Tr.ps ?_
     refine Tr.ps ?_
     refine Tr.pu ?_
     refine Tr.pu ?_
     refine Tr.pu ?_
     refine Tr.pu ?_
     refine Tr.ps ?_
     refine Tr.v2 rfl run_pickF rfl rfl ?_
     exact Tr.nil (Tr.fin0 (.r rfl) (.r rfl))
    ·refine Tr.w1 (wg rfl rfl rfl) rfl run_move rfl ?_
     refine Tr.w1 (wg rfl rfl rfl) rfl run_move rfl ?_
     refine Tr.w1 (wg rfl rfl rfl) rfl (run_fieldAddr fo_53_2) rfl ?_
     refine Tr.val (wg rfl rfl rfl) rfl (fun _ _ h1 h2 => run_loadN (cs := [(iv p0.At.X), (iv p0.At.Y)]) ag_47 sz_47 (h1.ev rfl) (CellsAt.take (rdb h2 (vs := [(iv p0.Kind), (sv p0.Name), (iv p0.At.X), (iv p0.At.Y), (.slice Ap0_0 (p0.Points).length cp0_0), (iv p0.NX), (iv p0.NY), (.slice Ap0_1 (p0.Steps).length cp0_1)]) (k := 1) rfl 2) 2) rfl) ?_
     refine Tr.build (vs := []) (cs := [(iv 0), (iv 0)]) (wg rfl rfl rfl) rfl evs_nil (by kernel_rfl) ?_
     refine Tr.w2 (wg rfl rfl rfl) rfl (run_eql_47 p0.At (TPoint.mk 0 0)) rfl rfl ?_
     refine Tr.w2 (wg rfl rfl rfl) rfl run_pickF rfl rfl ?_
     refine Tr.v2 rfl run_pickT rfl rfl ?_
     exact Tr.nil (Tr.fin0 (.r rfl) (.r rfl))
   ·show Tr _ _ (LF [(1, (.pointer (some ⟨b100, 0, none⟩))), (5, (.bool x105)), (6, (.bool false)), (33, (.bool ((x104 || (sEq p0.Name ByteArray.empty)) && (eqTPoint p0.At (TPoint.mk 0 0)))))]) (LE [(1, bx b100 #[(iv p0.Kind), (sv p0.Name), (iv p0.At.X), (iv p0.At.Y), (.slice Ap0_0 (p0.Points).length cp0_0), (iv p0.NX), (iv p0.NY), (.slice Ap0_1 (p0.Steps).length cp0_1)] 53)]) _
    refine Tr.mv rfl rfl ?_
    refine Tr.mid0 8 [(1, (.pointer (some ⟨b100, 0, none⟩))), (6, (.bool false)), (42, (.bool (((x104 || (sEq p0.Name ByteArray.empty)) && (eqTPoint p0.At (TPoint.mk 0 0))) && (x105 || ((p0.Points.length : Int) == 0)))))] [(1, bx b100 #[(iv p0.Kind), (sv p0.Name), (iv p0.At.X), (iv p0.At.Y), (.slice Ap0_0 (p0.Points).length cp0_0), (iv p0.NX), (iv p0.NY), (.slice Ap0_1 (p0.Steps).length cp0_1)] 53)] ?_ ?_
    ·cases hg107 : ((x104 || (sEq p0.Name ByteArray.empty)) && (eqTPoint p0.At (TPoint.mk 0 0)))
     ·refine Tr.ps ?_
      refine Tr.ps ?_
      refine Tr.pu ?_
      refine Tr.pu ?_
      refine Tr.pu ?_
      refine Tr.pu ?_
      refine Tr.ps ?_
      refine Tr.v2 rfl run_pickF rfl rfl ?_
      exact Tr.nil (Tr.fin0 (.r rfl) (.r rfl))
     ·refine Tr.w1 (wg rfl rfl rfl) rfl run_move rfl ?_
      refine Tr.w1 (wg rfl rfl rfl) rfl run_move rfl ?_
      refine Tr.mid0 5 [(1, (.pointer (some ⟨b100, 0, none⟩))), (6, (.bool false)), (34, (.bool true)), (41, (.bool (x105 || ((p0.Points.length : Int) == 0))))] [(1, bx b100 #[(iv p0.Kind), (sv p0.Name), (iv p0.At.X), (iv p0.At.Y), (.slice Ap0_0 (p0.Points).length cp0_0), (iv p0.NX), (iv p0.NY), (.slice Ap0_1 (p0.Steps).length cp0_1)] 53)] ?_ ?_
      ·cases hg107 : x105
       ·refine Tr.w1 (wg rfl rfl rfl) rfl (run_fieldAddr fo_53_3) rfl ?_
        refine Tr.val (wg rfl rfl rfl) rfl (fun _ _ h1 h2 => run_load1 ag_43 (h1.ev rfl) (rdb h2 (vs := [(iv p0.Kind), (sv p0.Name), (iv p0.At.X), (iv p0.At.Y), (.slice Ap0_0 (p0.Points).length cp0_0), (iv p0.NX), (iv p0.NY), (.slice Ap0_1 (p0.Steps).length cp0_1)]) (k := 1) rfl 4) rfl) ?_
        refine Tr.w1 (wg rfl rfl rfl) rfl (run_len un_43) rfl ?_
        refine Tr.w2 (wg rfl rfl rfl) rfl run_eql rfl rfl ?_
        refine Tr.w2 (wg rfl rfl rfl) rfl run_pickF rfl rfl ?_
        exact Tr.nil (Tr.fin0 (.r rfl) (.r rfl))
       ·refine Tr.ps ?_
        refine Tr.ps ?_
        refine Tr.ps ?_
        refine Tr.ps ?_
        refine Tr.w2 (wg rfl rfl rfl) rfl run_pickT rfl rfl ?_
        exact Tr.nil (Tr.fin0 (.r rfl) (.r rfl))
      ·show Tr _ _ (LF [(1, (.pointer (some ⟨b100, 0, none⟩))), (6, (.bool false)), (34, (.bool true)), (41, (.bool (x105 || ((p0.Points.length : Int) == 0))))]) (LE [(1, bx b100 #[(iv p0.Kind), (sv p0.Name), (iv p0.At.X), (iv p0.At.Y), (.slice Ap0_0 (p0.Points).length cp0_0), (iv p0.NX), (iv p0.NY), (.slice Ap0_1 (p0.Steps).length cp0_1)] 53)]) _
       refine Tr.v2 rfl run_pickT rfl rfl ?_
       exact Tr.nil (Tr.fin0 (.r rfl) (.r rfl))
    ·show Tr _ _ (LF [(1, (.pointer (some ⟨b100, 0, none⟩))), (6, (.bool false)), (42, (.bool (((x104 || (sEq p0.Name ByteArray.empty)) && (eqTPoint p0.At (TPoint.mk 0 0))) && (x105 || ((p0.Points.length : Int) == 0)))))]) (LE [(1, bx b100 #[(iv p0.Kind), (sv p0.Name), (iv p0.At.X), (iv p0.At.Y), (.slice Ap0_0 (p0.Points).length cp0_0), (iv p0.NX), (iv p0.NY), (.slice Ap0_1 (p0.Steps).length cp0_1)] 53)]) _
     refine Tr.mv rfl rfl ?_
     refine Tr.mid0 18 [(61, (.bool ((((x104 || (sEq p0.Name ByteArray.empty)) && (eqTPoint p0.At (TPoint.mk 0 0))) && (x105 || ((p0.Points.length : Int) == 0))) && (((p0.NX == 0) && (p0.NY == 0)) && ((p0.Steps.length : Int) == 0)))))] [(1, bx b100 #[(iv p0.Kind), (sv p0.Name), (iv p0.At.X), (iv p0.At.Y), (.slice Ap0_0 (p0.Points).length cp0_0), (iv p0.NX), (iv p0.NY), (.slice Ap0_1 (p0.Steps).length cp0_1)] 53)] ?_ ?_
     ·cases hg107 : (((x104 || (sEq p0.Name ByteArray.empty)) && (eqTPoint p0.At (TPoint.mk 0 0))) && (x105 || ((p0.Points.length : Int) == 0)))
      ·refine Tr.ps ?_
       refine Tr.ps ?_
       refine Tr.pu ?_
       refine Tr.pu ?_
       refine Tr.pu ?_
       refine Tr.pu ?_
       refine Tr.pu ?_
       refine Tr.pu ?_
       refine Tr.pu ?_
       refine Tr.pu ?_
       refine Tr.pu ?_
       refine Tr.pu ?_
       refine Tr.pu ?_
       refine Tr.pu ?_
       refine Tr.pu ?_
       refine Tr.pu ?_
       refine Tr.ps ?_
       refine Tr.v2 rfl run_pickF rfl rfl ?_
       exact Tr.nil (Tr.fin0 (.r rfl) (.r rfl))
      ·refine Tr.w1 (wg rfl rfl rfl) rfl run_move rfl ?_
       refine Tr.w1 (wg rfl rfl rfl) rfl run_move rfl ?_
       refine Tr.w1 (wg rfl rfl rfl) rfl (run_fieldAddr fo_53_4) rfl ?_
       refine Tr.val (wg rfl rfl rfl) rfl (fun _ _ h1 h2 => run_load1 ag_3 (h1.ev rfl) (rdb h2 (vs := [(iv p0.Kind), (sv p0.Name), (iv p0.At.X), (iv p0.At.Y), (.slice Ap0_0 (p0.Points).length cp0_0), (iv p0.NX), (iv p0.NY), (.slice Ap0_1 (p0.Steps).length cp0_1)]) (k := 1) rfl 5) rfl) ?_
       refine Tr.w2 (wg rfl rfl rfl) rfl run_eql rfl rfl ?_
       refine Tr.w1 (wg rfl rfl rfl) rfl run_move rfl ?_
       refine Tr.mid0 4 [(1, (.pointer (some ⟨b100, 0, none⟩))), (43, (.bool true)), (45, (.bool false)), (53, (.bool ((p0.NX == 0) && (p0.NY == 0))))] [(1, bx b100 #[(iv p0.Kind), (sv p0.Name), (iv p0.At.X), (iv p0.At.Y), (.slice Ap0_0 (p0.Points).length cp0_0), (iv p0.NX), (iv p0.NY), (.slice Ap0_1 (p0.Steps).length cp0_1)] 53)] ?_ ?_
       ·cases hg107 : (p0.NX == 0)
        ·refine Tr.ps ?_
         refine Tr.ps ?_
         refine Tr.ps ?_
         refine Tr.w2 (wg rfl rfl rfl) rfl run_pickF rfl rfl ?_
         exact Tr.nil (Tr.fin0 (.r rfl) (.r rfl))
        ·refine Tr.w1 (wg rfl rfl rfl) rfl (run_fieldAddr fo_53_5) rfl ?_
         refine Tr.val (wg rfl rfl rfl) rfl (fun _ _ h1 h2 => run_load1 ag_3 (h1.ev rfl) (rdb h2 (vs := [(iv p0.Kind), (sv p0.Name), (iv p0.At.X), (iv p0.At.Y), (.slice Ap0_0 (p0.Points).length cp0_0), (iv p0.NX), (iv p0.NY), (.slice Ap0_1 (p0.Steps).length cp0_1)]) (k := 1) rfl 6) rfl) ?_
         refine Tr.w2 (wg rfl rfl rfl) rfl run_eql rfl rfl ?_
         refine Tr.w2 (wg rfl rfl rfl) rfl run_pickT rfl rfl ?_
         exact Tr.nil (Tr.fin0 (.r rfl) (.r rfl))
       ·show Tr _ _ (LF [(1, (.pointer (some ⟨b100, 0, none⟩))), (43, (.bool true)), (45, (.bool false)), (53, (.bool ((p0.NX == 0) && (p0.NY == 0))))]) (LE [(1, bx b100 #[(iv p0.Kind), (sv p0.Name), (iv p0.At.X), (iv p0.At.Y), (.slice Ap0_0 (p0.Points).length cp0_0), (iv p0.NX), (iv p0.NY), (.slice Ap0_1 (p0.Steps).length cp0_1)] 53)]) _
        refine Tr.w1 (wg rfl rfl rfl) rfl run_move rfl ?_
        refine Tr.mid0 5 [(43, (.bool true)), (45, (.bool false)), (59, (.bool (((p0.NX == 0) && (p0.NY == 0)) && ((p0.Steps.length : Int) == 0))))] [(1, bx b100 #[(iv p0.Kind), (sv p0.Name), (iv p0.At.X), (iv p0.At.Y), (.slice Ap0_0 (p0.Points).length cp0_0), (iv p0.NX), (iv p0.NY), (.slice Ap0_1 (p0.Steps).length cp0_1)] 53)] ?_ ?_
        ·cases hg107 : ((p0.NX == 0) && (p0.NY == 0))
         ·refine Tr.ps ?_
          refine Tr.ps ?_
          refine Tr.ps ?_
          refine Tr.ps ?_
          refine Tr.w2 (wg rfl rfl rfl) rfl run_pickF rfl rfl ?_
          exact Tr.nil (Tr.fin0 (.r rfl) (.r rfl))
         ·refine Tr.w1 (wg rfl rfl rfl) rfl (run_fieldAddr fo_53_6) rfl ?_
          refine Tr.val (wg rfl rfl rfl) rfl (fun _ _ h1 h2 => run_load1 ag_24 (h1.ev rfl) (rdb h2 (vs := [(iv p0.Kind), (sv p0.Name), (iv p0.At.X), (iv p0.At.Y), (.slice Ap0_0 (p0.Points).length cp0_0), (iv p0.NX), (iv p0.NY), (.slice Ap0_1 (p0.Steps).length cp0_1)]) (k := 1) rfl 7) rfl) ?_
          refine Tr.w1 (wg rfl rfl rfl) rfl (run_len un_24) rfl ?_
          refine Tr.w2 (wg rfl rfl rfl) rfl run_eql rfl rfl ?_
          refine Tr.w2 (wg rfl rfl rfl) rfl run_pickT rfl rfl ?_
          exact Tr.nil (Tr.fin0 (.r rfl) (.r rfl))
        ·show Tr _ _ (LF [(43, (.bool true)), (45, (.bool false)), (59, (.bool (((p0.NX == 0) && (p0.NY == 0)) && ((p0.Steps.length : Int) == 0))))]) (LE [(1, bx b100 #[(iv p0.Kind), (sv p0.Name), (iv p0.At.X), (iv p0.At.Y), (.slice Ap0_0 (p0.Points).length cp0_0), (iv p0.NX), (iv p0.NY), (.slice Ap0_1 (p0.Steps).length cp0_1)] 53)]) _
         refine Tr.w2 (wg rfl rfl rfl) rfl run_pickF rfl rfl ?_
         refine Tr.v2 rfl run_pickT rfl rfl ?_
         exact Tr.nil (Tr.fin0 (.r rfl) (.r rfl))
     ·show Tr _ _ (LF [(61, (.bool ((((x104 || (sEq p0.Name ByteArray.empty)) && (eqTPoint p0.At (TPoint.mk 0 0))) && (x105 || ((p0.Points.length : Int) == 0))) && (((p0.NX == 0) && (p0.NY == 0)) && ((p0.Steps.length : Int) == 0)))))]) (LE [(1, bx b100 #[(iv p0.Kind), (sv p0.Name), (iv p0.At.X), (iv p0.At.Y), (.slice Ap0_0 (p0.Points).length cp0_0), (iv p0.NX), (iv p0.NY), (.slice Ap0_1 (p0.Steps).length cp0_1)] 53)]) _
      refine Tr.asg rfl rfl ?_
      refine Tr.nil (Tr.normThen ?_)
      refine Tr.ret ?_
      obtain rfl := Option.some.inj H
      exact Tr.out (m := [(.bool ((((x104 || (sEq p0.Name ByteArray.empty)) && (eqTPoint p0.At (TPoint.mk 0 0))) && (x105 || ((p0.Points.length : Int) == 0))) && (((p0.NX == 0) && (p0.NY == 0)) && ((p0.Steps.length : Int) == 0))))]) [] (res_tmp rfl res_nil) (fun W hW => ⟨rfl, hW.low leB⟩)

theorem F_etchhouseref3_tool_ok {w : Bs} (p0 : TPlot) (Ap0_0 : Option Addr) (cp0_0 : Nat) (hp0_0 : Sl w.R w.W fl_TPlotTool Ap0_0 cp0_0 p0.Tools) (Ap0_1 : Option Addr) (cp0_1 : Nat) (hp0_1 : Sl w.R w.W fl_TPlotStep Ap0_1 cp0_1 p0.Steps) (p1 : ByteArray) (r : Int) (H : F_etchhouseref3_tool p0 p1 = some r) (hE : HF w w.W E0) : Calls Tryz.prog 178 [(.agg #[(iv p0.Unit), (.slice Ap0_0 (p0.Tools).length cp0_0), (.slice Ap0_1 (p0.Steps).length cp0_1)]), (sv p1)].toArray w.W fun e W' => e = .returned (iv r) ∧ HF w W' E0 := by
 unfold F_etchhouseref3_tool at H
 have leB := Bs.Le.refl w
 refine Tr.enter (n := 22) Tryz.func178 rfl rfl rfl hE ?_
 refine Tr.seq ?_
 cases H

theorem F_etchhouseref3_pointFits_ok {w : Bs} (p0 : TPoint) (p1 : Int) (r : Bool) (H : F_etchhouseref3_pointFits p0 p1 = some r) (hE : HF w w.W E0) : Calls Tryz.prog 179 [(.agg #[(iv p0.X), (iv p0.Y)]), (iv p1)].toArray w.W fun e W' => e = .returned (.bool r) ∧ HF w W' E0 := by
 unfold F_etchhouseref3_pointFits at H
 have leB := Bs.Le.refl w
 refine Tr.enter (n := 15) Tryz.func179 rfl rfl rfl hE ?_
 refine Tr.sr ?_
 refine Tr.box 1 (cs := [(iv p0.X), (iv p0.Y)]) (wn rfl) rfl rfl rfl fun b100 => ?_
 refine Tr.asg rfl rfl ?_
 refine Tr.nil (Tr.normThen ?_)
 refine Tr.sr ?_
 refine Tr.v1 rfl (run_fieldAddr fo_47_0) rfl ?_
 refine Tr.va rfl (fun _ _ h1 h2 => run_load1 ag_3 (h1.ev rfl) (rdb h2 (vs := [(iv p0.X), (iv p0.Y)]) (k := 1) rfl 0) rfl) ?_
 refine Tr.mv rfl rfl ?_
 obtain ⟨y101, hy101, H⟩ := bnd H
 refine Tr.call0 (r := (.bool y101)) (wn rfl) rfl Tryz.call128 (evl_cons rfl (evl_cons rfl evl_nil)) (fun W hW => F_etchhouseref3_fits_ok p0.X p1 y101 hy101 (HF.start _)) ?_
 refine Tr.mv rfl rfl ?_
 obtain ⟨g103, hg103, H⟩ := bnd H
 refine Tr.mid0 5 [(14, (.bool g103))] [(1, bx b100 #[(iv p0.X), (iv p0.Y)] 47)] ?_ ?_
 ·cases hg104 : y101
  ·rw [hg104] at hg103
   rw [if_neg (by decide)] at hg103
   have H := hg103
   obtain rfl := Option.some.inj H
   refine Tr.ps ?_
   refine Tr.ps ?_
   refine Tr.ps ?_
   refine Tr.ps ?_
   refine Tr.v2 rfl run_pickF rfl rfl ?_
   exact Tr.nil (Tr.fin0 (.r rfl) (.r rfl))
  ·rw [hg104] at hg103
   rw [if_pos rfl] at hg103
   have H := hg103
   refine Tr.w1 (wg rfl rfl rfl) rfl (run_fieldAddr fo_47_1) rfl ?_
   refine Tr.val (wg rfl rfl rfl) rfl (fun _ _ h1 h2 => run_load1 ag_3 (h1.ev rfl) (rdb h2 (vs := [(iv p0.X), (iv p0.Y)]) (k := 1) rfl 1) rfl) ?_
   refine Tr.w1 (wg rfl rfl rfl) rfl run_move rfl ?_
   obtain ⟨y104, hy104, H⟩ := bnd H
   refine Tr.call0 (r := (.bool y104)) (wg rfl rfl rfl) rfl Tryz.call128 (evl_cons rfl (evl_cons rfl evl_nil)) (fun W hW => F_etchhouseref3_fits_ok p0.Y p1 y104 hy104 (HF.start _)) ?_
   refine Tr.v2 rfl run_pickT rfl rfl ?_
   obtain rfl := Option.some.inj H
   exact Tr.nil (Tr.fin0 (.r rfl) (.r rfl))
 ·show Tr _ _ (LF [(14, (.bool g103))]) (LE [(1, bx b100 #[(iv p0.X), (iv p0.Y)] 47)]) _
  refine Tr.asg rfl rfl ?_
  refine Tr.nil (Tr.normThen ?_)
  refine Tr.ret ?_
  obtain rfl := Option.some.inj H
  exact Tr.out (m := [(.bool g103)]) [] (res_tmp rfl res_nil) (fun W hW => ⟨rfl, hW.low leB⟩)

theorem F_etchhouseref3_checkArea_ok (N : Nat) {w : Bs} (p0 : (List TPoint)) (Ap0_0 : Option Addr) (cp0_0 : Nat) (hp0_0 : Sl w.R w.W fl_TPoint Ap0_0 cp0_0 p0) (p1 : Int) (r : Int) (H : F_etchhouseref3_checkArea N p0 p1 = some r) (hE : HF w w.W E0) : Calls Tryz.prog 180 [(.slice Ap0_0 (p0).length cp0_0), (iv p1)].toArray w.W fun e W' => e = .returned (iv r) ∧ HF w W' E0 := by
 unfold F_etchhouseref3_checkArea at H
 have leB := Bs.Le.refl w
 refine Tr.enter (n := 57) Tryz.func180 rfl rfl rfl hE ?_
 refine Tr.sr ?_
 refine Tr.asg rfl rfl ?_
 refine Tr.nil (Tr.normThen ?_)
 refine Tr.seq ?_
 refine Tr.sr ?_
 refine Tr.asg rfl rfl ?_
 refine Tr.nil (Tr.normThen ?_)
 refine Tr.block ?_
 refine Tr.loop (σ := Int) (fun m w s => F_etchhouseref3_checkArea_L1 N p0 p1 m s = some r) (fun s => [(0, (.slice Ap0_0 (p0).length cp0_0)), (1, (iv p1)), (5, (iv s))]) (fun s => []) N 0 H (.r rfl) .nil (fun _ _ h => noSome (h)) ?_
 intro w leL1 mL1 x107 hs
 have H := hs
 replace H : F_etchhouseref3_checkArea_L1 N p0 p1 (mL1 + 1) x107 = some r := H
 replace hp0_0 := hp0_0.leR leL1
 replace leB := leB.trans leL1
 rw [F_etchhouseref3_checkArea_L1.eq_2] at H
 show Tr _ _ (LF [(0, (.slice Ap0_0 (p0).length cp0_0)), (1, (iv p1)), (5, (iv x107))]) (LE []) _
 refine Tr.seq ?_
 refine Tr.sr ?_
 refine Tr.mv rfl rfl ?_
 refine Tr.mv rfl rfl ?_
 refine Tr.v1 rfl (run_len un_43) rfl ?_
 refine Tr.v2 rfl run_lss rfl rfl ?_
 refine Tr.nil (Tr.normThen ?_)
 refine Tr.cond rfl H (fun H => ?_) (fun H => ?_)
 ·refine Tr.skip (Tr.normThen ?_)
  refine Tr.seq ?_
  refine Tr.block ?_
  refine Tr.sr ?_
  refine Tr.mv rfl rfl ?_
  refine Tr.mv rfl rfl ?_
  obtain ⟨x108, hx108, H⟩ := bnd H
  obtain ⟨hx1080, hx1081, hx1082⟩ := idx_some hx108
  refine Tr.va rfl (fun _ _ h1 h2 => run_indexAddr el_43 (h1.ev rfl) hp0_0.form (h1.ev rfl) hx1080 hx1081) ?_
  refine Tr.va rfl (fun _ _ h1 h2 => run_loadN (cs := [(iv x108.X), (iv x108.Y)]) ag_47 sz_47 (h1.ev rfl) (CellsAt.take (rdF ef_TPoint hp0_0 hx1082 h2) 2) rfl) ?_
  refine Tr.mv rfl rfl ?_
  obtain ⟨y109, hy109, H⟩ := bnd H
  refine Tr.call0 (r := (.bool y109)) (wn rfl) rfl Tryz.call179 (evl_cons rfl (evl_cons rfl evl_nil)) (fun W hW => F_etchhouseref3_pointFits_ok x108 p1 y109 hy109 (HF.start _)) ?_
  refine Tr.v1 rfl run_not rfl ?_
  refine Tr.nil (Tr.normThen ?_)
  refine Tr.cond rfl H (fun H => ?_) (fun H => ?_)
  ·refine Tr.sr ?_
   refine Tr.asg rfl rfl ?_
   refine Tr.nil (Tr.normThen ?_)
   refine Tr.ret (Tr.retBlock (Tr.retThen (Tr.retThen (Tr.retBlock (Tr.retThen ?_)))))
   obtain rfl := Option.some.inj H
   exact Tr.out (m := [(iv 1)]) [] (res_tmp rfl res_nil) (fun W hW => ⟨rfl, hW.low leB⟩)
  ·refine Tr.skip (Tr.normBlock (Tr.normThen ?_))
   refine Tr.region ?_
   refine Tr.mv rfl rfl ?_
   refine Tr.v2 rfl run_add rfl rfl ?_
   refine Tr.asg rfl rfl ?_
   refine Tr.nil ?_
   exact Tr.backThen leL1 (w64 (x107 + 1)) H (.r rfl) .nil
 ·refine Tr.exit (Tr.exitThen (Tr.exitThen (Tr.exitBlock (Tr.normThen ?_))))
  refine Tr.seq ?_
  refine Tr.sr ?_
  refine Tr.mv rfl rfl ?_
  refine Tr.v1 rfl (run_len un_43) rfl ?_
  refine Tr.v2 rfl run_gtr rfl rfl ?_
  refine Tr.nil (Tr.normThen ?_)
  refine Tr.cond rfl H (fun H => ?_) (fun H => ?_)
  ·refine Tr.sr ?_
   refine Tr.asg rfl rfl ?_
   refine Tr.nil (Tr.normThen ?_)
   refine Tr.ret (Tr.retThen ?_)
   obtain rfl := Option.some.inj H
   exact Tr.out (m := [(iv 2)]) [] (res_tmp rfl res_nil) (fun W hW => ⟨rfl, hW.low leB⟩)
  ·refine Tr.skip (Tr.normThen ?_)
   refine Tr.seq ?_
   refine Tr.sr ?_
   refine Tr.mv rfl rfl ?_
   refine Tr.v1 rfl (run_len un_43) rfl ?_
   refine Tr.v2 rfl run_lss rfl rfl ?_
   refine Tr.nil (Tr.normThen ?_)
   refine Tr.cond rfl H (fun H => ?_) (fun H => ?_)
   ·refine Tr.sr ?_
    refine Tr.asg rfl rfl ?_
    refine Tr.nil (Tr.normThen ?_)
    refine Tr.ret (Tr.retThen ?_)
    obtain rfl := Option.some.inj H
    exact Tr.out (m := [(iv 3)]) [] (res_tmp rfl res_nil) (fun W hW => ⟨rfl, hW.low leB⟩)
   ·refine Tr.skip (Tr.normThen ?_)
    refine Tr.seq ?_
    refine Tr.sr ?_
    refine Tr.asg rfl rfl ?_
    refine Tr.nil (Tr.normThen ?_)
    refine Tr.block ?_
    refine Tr.loop (σ := Int) (fun m w s => F_etchhouseref3_checkArea_L2 p0 m s = some r) (fun s => [(0, (.slice Ap0_0 (p0).length cp0_0)), (6, (iv s))]) (fun s => []) N 0 H (.r rfl) .nil (fun _ _ h => noSome (h)) ?_
    intro w leL2 mL2 x127 hs
    have H := hs
    replace H : F_etchhouseref3_checkArea_L2 p0 (mL2 + 1) x127 = some r := H
    replace hp0_0 := hp0_0.leR leL2
    replace leB := leB.trans leL2
    replace leL1 := leL1.trans leL2
    rw [F_etchhouseref3_checkArea_L2.eq_2] at H
    show Tr _ _ (LF [(0, (.slice Ap0_0 (p0).length cp0_0)), (6, (iv x127))]) (LE []) _
    refine Tr.seq ?_
    refine Tr.sr ?_
    refine Tr.mv rfl rfl ?_
    refine Tr.mv rfl rfl ?_
    refine Tr.v1 rfl (run_len un_43) rfl ?_
    refine Tr.v2 rfl run_lss rfl rfl ?_
    refine Tr.nil (Tr.normThen ?_)
    refine Tr.cond rfl H (fun H => ?_) (fun H => ?_)
    ·refine Tr.skip (Tr.normThen ?_)
     refine Tr.seq ?_
     refine Tr.block ?_
     refine Tr.seq ?_
     refine Tr.drawC 15 [] [14] (by kernel_rfl) (by kernel_rfl) fun sz128 hlosz128 hEsz128 => ?_
     refine Dr.quiet 0 [(34, (.slice Ap0_0 (p0).length cp0_0))] (by kernel_rfl) rfl rfl (by kernel_rfl) ?_ rfl rfl ?_
     ·refine Tq.mv rfl rfl ?_
      exact Tq.fin (.r rfl)
     refine Dr.quiet 1 [(35, (iv x127))] (by kernel_rfl) rfl rfl (by kernel_rfl) ?_ rfl rfl ?_
     ·refine Tq.mv rfl rfl ?_
      exact Tq.fin (.r rfl)
     obtain ⟨x129, hx129, H⟩ := bnd H
     obtain ⟨hx1290, hx1291, hx1292⟩ := idx_some hx129
     refine Dr.quiet 2 [(36, (.pointer (some ⟨adB Ap0_0, adO Ap0_0 + (x127).toNat * 2, none⟩)))] (by kernel_rfl) rfl rfl (by kernel_rfl) ?_ rfl rfl ?_
     ·refine Tq.va rfl (fun _ _ h1 h2 => run_indexAddr el_43 (h1.ev rfl) hp0_0.form (h1.ev rfl) hx1290 hx1291) ?_
      exact Tq.fin (.r rfl)
     refine Dr.quiet 3 [(37, (.agg #[(iv x129.X), (iv x129.Y)]))] (by kernel_rfl) rfl rfl (by kernel_rfl) ?_ rfl rfl ?_
     ·refine Tq.va rfl (fun _ _ h1 h2 => run_loadN (cs := [(iv x129.X), (iv x129.Y)]) ag_47 sz_47 (h1.ev rfl) (CellsAt.take (rdF ef_TPoint hp0_0 hx1292 h2) 2) rfl) ?_
      exact Tq.fin (.r rfl)
     refine Dr.quietP 4 (by kernel_rfl) rfl (wn rfl) rfl (by kernel_rfl) (fun _ _ h1 => run_move (h1.ev rfl)) rfl ?_
     refine Dr.quietP 5 (by kernel_rfl) rfl (wn rfl) rfl (by kernel_rfl) (fun _ _ h1 => run_move (h1.ev rfl)) rfl ?_
     refine Dr.quietP 6 (by kernel_rfl) rfl (wn rfl) rfl (by kernel_rfl) (fun _ _ h1 => run_add (h1.ev rfl) (h1.ev rfl)) rfl ?_
     refine Dr.quietP 7 (by kernel_rfl) rfl (wn rfl) rfl (by kernel_rfl) (fun _ _ h1 => run_move (h1.ev rfl)) rfl ?_
     refine Dr.quietP 8 (by kernel_rfl) rfl (wn rfl) rfl (by kernel_rfl) (fun _ _ h1 => run_len un_43 (h1.ev rfl)) rfl ?_
     obtain ⟨q130, hq130, H⟩ := bnd H
     refine Dr.quietP 9 (by kernel_rfl) rfl (wn rfl) rfl (by kernel_rfl) (fun _ _ h1 => run_md (h1.ev rfl) (h1.ev rfl) hq130) rfl ?_
     obtain ⟨x131, hx131, H⟩ := bnd H
     obtain ⟨hx1310, hx1311, hx1312⟩ := idx_some hx131
     refine Dr.quietP 10 (by kernel_rfl) rfl (wn rfl) rfl (by kernel_rfl) (fun _ _ h1 => run_indexAddr el_43 (h1.ev rfl) hp0_0.form (h1.ev rfl) hx1310 hx1311) rfl ?_
     refine Dr.quietZ 11 [(45, (.agg #[(iv x131.X), (iv x131.Y)]))] [] true (by kernel_rfl) rfl rfl (by kernel_rfl) (fun W W' h2 hsW hk => HF.keepZ (le := []) (ks := []) (s0 := sz128) true h2 hk (fun _ => hlosz128) .nil (fun b hb => hb.elim (fun ⟨_, hp, _⟩ => nomatch hp) (fun hb => .inr ⟨rfl, hb.2, (fun _ h => nomatch h)⟩)) (fun _ h => nomatch h) rfl) ?_ rfl rfl ?_
     ·refine Tq.va rfl (fun _ _ h1 h2 => run_loadN (cs := [(iv x131.X), (iv x131.Y)]) ag_47 sz_47 (h1.ev rfl) (CellsAt.take (rdF ef_TPoint hp0_0 hx1312 h2) 2) rfl) ?_
      exact Tq.fin (.r rfl)
     refine Dr.cut (U := Nat × Nat) [12, 13] 1 (fun u => sz128 ≤ u.1 ∧ sz128 ≤ u.2) (fun u => [(0, (.slice Ap0_0 (p0).length cp0_0)), (6, (iv x127)), (7, (.pointer (some ⟨u.1, 0, none⟩))), (8, (.pointer (some ⟨u.2, 0, none⟩))), (28, (iv x127)), (29, (.slice Ap0_0 (p0).length cp0_0)), (30, (iv (p0.length : Int))), (31, (.bool (decide (x127 < (p0.length : Int))))), (34, (.slice Ap0_0 (p0).length cp0_0)), (35, (iv x127)), (36, (.pointer (some ⟨adB Ap0_0, adO Ap0_0 + (x127).toNat * 2, none⟩))), (37, (.agg #[(iv x129.X), (iv x129.Y)])), (38, (.slice Ap0_0 (p0).length cp0_0)), (39, (iv x127)), (40, (iv (w64 (x127 + 1)))), (41, (.slice Ap0_0 (p0).length cp0_0)), (42, (iv (p0.length : Int))), (43, (iv q130)), (44, (.pointer (some ⟨adB Ap0_0, adO Ap0_0 + (q130).toNat * 2, none⟩))), (45, (.agg #[(iv x131.X), (iv x131.Y)]))]) (fun u => [(5, bx u.1 #[(iv 0), (iv 0)] 47), (6, bx u.2 #[(iv 0), (iv 0)] 47)]) ?_ ?_
     ·intro hC
      refine Dr.pair 12 13 (by kernel_rfl) ?_ ?_
      ·refine St.alloc 12 5 rfl (wn rfl) rfl ze_47 fun b132 hb132 => ?_
       refine Dr.one 13 (by kernel_rfl) ?_
       refine St.alloc 13 6 rfl (wn rfl) rfl ze_47 fun b133 hb133 => ?_
       exact (hC ⟨b132, b133⟩ ⟨hb132, hb133⟩).use (by kernel_rfl) (.r rfl) (.r rfl)
      ·refine St.alloc 13 6 rfl (wn rfl) rfl ze_47 fun b133 hb133 => ?_
       refine Dr.one 12 (by kernel_rfl) ?_
       refine St.alloc 12 5 rfl (wn rfl) rfl ze_47 fun b132 hb132 => ?_
       exact (hC ⟨b132, b133⟩ ⟨hb132, hb133⟩).use (by kernel_rfl) (.r rfl) (.r rfl)
     intro u hu
     obtain ⟨b132, b133⟩ := u
     obtain ⟨hb132, hb133⟩ := hu
     replace hb132 : sz128 ≤ b132 := hb132
     replace hb133 : sz128 ≤ b133 := hb133
     show Dr _ _ _ _ _ _ _ _ _ (LF [(0, (.slice Ap0_0 (p0).length cp0_0)), (6, (iv x127)), (7, (.pointer (some ⟨b132, 0, none⟩))), (8, (.pointer (some ⟨b133, 0, none⟩))), (28, (iv x127)), (29, (.slice Ap0_0 (p0).length cp0_0)), (30, (iv (p0.length : Int))), (31, (.bool (decide (x127 < (p0.length : Int))))), (34, (.slice Ap0_0 (p0).length cp0_0)), (35, (iv x127)), (36, (.pointer (some ⟨adB Ap0_0, adO Ap0_0 + (x127).toNat * 2, none⟩))), (37, (.agg #[(iv x129.X), (iv x129.Y)])), (38, (.slice Ap0_0 (p0).length cp0_0)), (39, (iv x127)), (40, (iv (w64 (x127 + 1)))), (41, (.slice Ap0_0 (p0).length cp0_0)), (42, (iv (p0.length : Int))), (43, (iv q130)), (44, (.pointer (some ⟨adB Ap0_0, adO Ap0_0 + (q130).toNat * 2, none⟩))), (45, (.agg #[(iv x131.X), (iv x131.Y)]))]) (LE [(5, bx b132 #[(iv 0), (iv 0)] 47), (6, bx b133 #[(iv 0), (iv 0)] 47)])
     refine Dr.one 14 (by kernel_rfl) ?_
     refine St.store 14 5 (cs := [(iv x129.X), (iv x129.Y)]) [(iv x129.X), (iv x129.Y)] rfl (wn rfl) (.inr ⟨by simp, hb132⟩) rfl rfl rfl rfl sz_47 rfl rfl rfl ?_
     refine Dr.tail (by kernel_rfl) ?_
     refine Tr.store 6 (cs := [(iv x131.X), (iv x131.Y)]) [(iv x131.X), (iv x131.Y)] (wn rfl) rfl rfl rfl rfl sz_47 rfl rfl rfl ?_
     refine Tr.nil (Tr.normThen ?_)
     refine Tr.sr ?_
     refine Tr.v1 rfl (run_fieldAddr fo_47_0) rfl ?_
     refine Tr.va rfl (fun _ _ h1 h2 => run_load1 ag_3 (h1.ev rfl) (rdb h2 (vs := [(iv x129.X), (iv x129.Y)]) (k := 5) rfl 0) rfl) ?_
     refine Tr.v1 rfl (run_fieldAddr fo_47_0) rfl ?_
     refine Tr.va rfl (fun _ _ h1 h2 => run_load1 ag_3 (h1.ev rfl) (rdb h2 (vs := [(iv x131.X), (iv x131.Y)]) (k := 6) rfl 0) rfl) ?_
     refine Tr.v2 rfl run_eql rfl rfl ?_
     refine Tr.v1 rfl (run_fieldAddr fo_47_1) rfl ?_
     refine Tr.va rfl (fun _ _ h1 h2 => run_load1 ag_3 (h1.ev rfl) (rdb h2 (vs := [(iv x129.X), (iv x129.Y)]) (k := 5) rfl 1) rfl) ?_
     refine Tr.v1 rfl (run_fieldAddr fo_47_1) rfl ?_
     refine Tr.va rfl (fun _ _ h1 h2 => run_load1 ag_3 (h1.ev rfl) (rdb h2 (vs := [(iv x131.X), (iv x131.Y)]) (k := 6) rfl 1) rfl) ?_
     refine Tr.v2 rfl run_eql rfl rfl ?_
     refine Tr.v2 rfl (run_eqlB un_4) rfl rfl ?_
     refine Tr.nil (Tr.normThen ?_)
     refine Tr.cond rfl H (fun H => ?_) (fun H => ?_)
     ·refine Tr.sr ?_
      refine Tr.asg rfl rfl ?_
      refine Tr.nil (Tr.normThen ?_)
      refine Tr.ret (Tr.retBlock (Tr.retThen (Tr.retThen (Tr.retBlock (Tr.retThen ?_)))))
      obtain rfl := Option.some.inj H
      exact Tr.out (m := [(iv 3)]) [] (res_tmp rfl res_nil) (fun W hW => ⟨rfl, hW.low leB⟩)
     ·refine Tr.skip (Tr.normBlock (Tr.normThen ?_))
      refine Tr.region ?_
      refine Tr.mv rfl rfl ?_
      refine Tr.v2 rfl run_add rfl rfl ?_
      refine Tr.asg rfl rfl ?_
      refine Tr.nil ?_
      exact Tr.backThen leL2 (w64 (x127 + 1)) H (.r rfl) .nil
    ·refine Tr.exit (Tr.exitThen (Tr.exitThen (Tr.exitBlock (Tr.normThen ?_))))
     refine Tr.sr ?_
     refine Tr.asg rfl rfl ?_
     refine Tr.nil (Tr.normThen ?_)
     refine Tr.ret ?_
     obtain rfl := Option.some.inj H
     exact Tr.out (m := [(iv 0)]) [] (res_tmp rfl res_nil) (fun W hW => ⟨rfl, hW.low leB⟩)

theorem F_etchhouseref3_checkStep_ok (N : Nat) {w : Bs} (p0 : TPlot) (Ap0_0 : Option Addr) (cp0_0 : Nat) (hp0_0 : Sl w.R w.W fl_TPlotTool Ap0_0 cp0_0 p0.Tools) (Ap0_1 : Option Addr) (cp0_1 : Nat) (hp0_1 : Sl w.R w.W fl_TPlotStep Ap0_1 cp0_1 p0.Steps) (p1 : TPlotStep) (Ap1_0 : Option Addr) (cp1_0 : Nat) (hp1_0 : Sl w.R w.W fl_TPoint Ap1_0 cp1_0 p1.Points) (Ap1_1 : Option Addr) (cp1_1 : Nat) (hp1_1 : Sl w.R w.W fl_TPlotStep Ap1_1 cp1_1 p1.Steps) (p2 : Int) (r : Int) (H : F_etchhouseref3_checkStep N p0 p1 p2 = some r) (hE : HF w w.W E0) : Calls Tryz.prog 129 [(.agg #[(iv p0.Unit), (.slice Ap0_0 (p0.Tools).length cp0_0), (.slice Ap0_1 (p0.Steps).length cp0_1)]), (.agg #[(iv p1.Kind), (sv p1.Name), (iv p1.At.X), (iv p1.At.Y), (.slice Ap1_0 (p1.Points).length cp1_0), (iv p1.NX), (iv p1.NY), (.slice Ap1_1 (p1.Steps).length cp1_1)]), (iv p2)].toArray w.W fun e W' => e = .returned (iv r) ∧ HF w W' E0 := by
 unfold F_etchhouseref3_checkStep at H
 have leB := Bs.Le.refl w
 refine Tr.enter (n := 57) Tryz.func129 rfl rfl rfl hE ?_
 refine Tr.sr ?_
 refine Tr.box 1 (cs := [(iv p0.Unit), (.slice Ap0_0 (p0.Tools).length cp0_0), (.slice Ap0_1 (p0.Steps).length cp0_1)]) (wn rfl) rfl rfl rfl fun b100 => ?_
 refine Tr.box 2 (cs := [(iv p1.Kind), (sv p1.Name), (iv p1.At.X), (iv p1.At.Y), (.slice Ap1_0 (p1.Points).length cp1_0), (iv p1.NX), (iv p1.NY), (.slice Ap1_1 (p1.Steps).length cp1_1)]) (wn rfl) rfl rfl rfl fun b101 => ?_
 refine Tr.asg rfl rfl ?_
 refine Tr.nil (Tr.normThen ?_)
 refine Tr.seq ?_
 refine Tr.sr ?_
 refine Tr.v1 rfl (run_fieldAddr fo_53_0) rfl ?_
 refine Tr.va rfl (fun _ _ h1 h2 => run_load1 ag_3 (h1.ev rfl) (rdb h2 (vs := [(iv p1.Kind), (sv p1.Name), (iv p1.At.X), (iv p1.At.Y), (.slice Ap1_0 (p1.Points).length cp1_0), (iv p1.NX), (iv p1.NY), (.slice Ap1_1 (p1.Steps).length cp1_1)]) (k := 2) rfl 0) rfl) ?_
 obtain ⟨y102, hy102, H⟩ := bnd H
 refine Tr.call0 (r := (.bool y102)) (wn rfl) rfl Tryz.call86 (evl_cons rfl (evl_cons rfl (evl_cons rfl evl_nil))) (fun W hW => F_etchhouseref3_within_ok p1.Kind 1 8 y102 hy102 (HF.start _)) ?_
 refine Tr.v1 rfl run_not rfl ?_
 refine Tr.nil (Tr.normThen ?_)
 refine Tr.cond rfl H (fun H => ?_) (fun H => ?_)
 ·refine Tr.sr ?_
  refine Tr.asg rfl rfl ?_
  refine Tr.nil (Tr.normThen ?_)
  refine Tr.ret (Tr.retThen ?_)
  obtain rfl := Option.some.inj H
  exact Tr.out (m := [(iv 4)]) [] (res_tmp rfl res_nil) (fun W hW => ⟨rfl, hW.low leB⟩)
 ·refine Tr.skip (Tr.normThen ?_)
  refine Tr.seq ?_
  refine Tr.sr ?_
  refine Tr.va rfl (fun _ _ h1 h2 => run_loadN (cs := [(iv p1.Kind), (sv p1.Name), (iv p1.At.X), (iv p1.At.Y), (.slice Ap1_0 (p1.Points).length cp1_0), (iv p1.NX), (iv p1.NY), (.slice Ap1_1 (p1.Steps).length cp1_1)]) ag_53 sz_53 (h1.ev rfl) (CellsAt.take (rdb h2 (vs := [(iv p1.Kind), (sv p1.Name), (iv p1.At.X), (iv p1.At.Y), (.slice Ap1_0 (p1.Points).length cp1_0), (iv p1.NX), (iv p1.NY), (.slice Ap1_1 (p1.Steps).length cp1_1)]) (k := 2) rfl 0) 8) rfl) ?_
  obtain ⟨y103, hy103, H⟩ := bnd H
  refine Tr.call0 (r := (.bool y103)) (wn rfl) rfl Tryz.call177 (evl_cons rfl evl_nil) (fun W hW => F_etchhouseref3_fields_ok p1 Ap1_0 cp1_0 (hp1_0.ext hW.extAll) Ap1_1 cp1_1 (hp1_1.ext hW.extAll) y103 hy103 (HF.start _)) ?_
  refine Tr.v1 rfl run_not rfl ?_
  refine Tr.nil (Tr.normThen ?_)
  refine Tr.cond rfl H (fun H => ?_) (fun H => ?_)
  ·refine Tr.sr ?_
   refine Tr.asg rfl rfl ?_
   refine Tr.nil (Tr.normThen ?_)
   refine Tr.ret (Tr.retThen ?_)
   obtain rfl := Option.some.inj H
   exact Tr.out (m := [(iv 3)]) [] (res_tmp rfl res_nil) (fun W hW => ⟨rfl, hW.low leB⟩)
  ·refine Tr.skip (Tr.normThen ?_)
   refine Tr.seq ?_
   refine Tr.sr ?_
   refine Tr.v1 rfl (run_fieldAddr fo_53_0) rfl ?_
   refine Tr.va rfl (fun _ _ h1 h2 => run_load1 ag_3 (h1.ev rfl) (rdb h2 (vs := [(iv p1.Kind), (sv p1.Name), (iv p1.At.X), (iv p1.At.Y), (.slice Ap1_0 (p1.Points).length cp1_0), (iv p1.NX), (iv p1.NY), (.slice Ap1_1 (p1.Steps).length cp1_1)]) (k := 2) rfl 0) rfl) ?_
   refine Tr.v2 rfl run_eql rfl rfl ?_
   refine Tr.mv rfl rfl ?_
   obtain ⟨g105, hg105, H⟩ := bnd H
   refine Tr.mid0 6 [(2, (iv p2)), (3, (.pointer (some ⟨b100, 0, none⟩))), (4, (.pointer (some ⟨b101, 0, none⟩))), (23, (.bool g105))] [(1, bx b100 #[(iv p0.Unit), (.slice Ap0_0 (p0.Tools).length cp0_0), (.slice Ap0_1 (p0.Steps).length cp0_1)] 26), (2, bx b101 #[(iv p1.Kind), (sv p1.Name), (iv p1.At.X), (iv p1.At.Y), (.slice Ap1_0 (p1.Points).length cp1_0), (iv p1.NX), (iv p1.NY), (.slice Ap1_1 (p1.Steps).length cp1_1)] 53)] ?_ ?_
   ·cases hg110 : (p1.Kind == 3)
    ·rw [hg110] at hg105
     rw [if_neg (by decide)] at hg105
     have H := hg105
     obtain rfl := Option.some.inj H
     refine Tr.ps ?_
     refine Tr.ps ?_
     refine Tr.ps ?_
     refine Tr.ps ?_
     refine Tr.ps ?_
     refine Tr.v2 rfl run_pickF rfl rfl ?_
     exact Tr.nil (Tr.fin0 (.r rfl) (.r rfl))
    ·rw [hg110] at hg105
     rw [if_pos rfl] at hg105
     have H := hg105
     refine Tr.val (wg rfl rfl rfl) rfl (fun _ _ h1 h2 => run_loadN (cs := [(iv p0.Unit), (.slice Ap0_0 (p0.Tools).length cp0_0), (.slice Ap0_1 (p0.Steps).length cp0_1)]) ag_26 sz_26 (h1.ev rfl) (CellsAt.take (rdb h2 (vs := [(iv p0.Unit), (.slice Ap0_0 (p0.Tools).length cp0_0), (.slice Ap0_1 (p0.Steps).length cp0_1)]) (k := 1) rfl 0) 3) rfl) ?_
     refine Tr.w1 (wg rfl rfl rfl) rfl (run_fieldAddr fo_53_1) rfl ?_
     refine Tr.val (wg rfl rfl rfl) rfl (fun _ _ h1 h2 => run_load1 ag_9 (h1.ev rfl) (rdb h2 (vs := [(iv p1.Kind), (sv p1.Name), (iv p1.At.X), (iv p1.At.Y), (.slice Ap1_0 (p1.Points).length cp1_0), (iv p1.NX), (iv p1.NY), (.slice Ap1_1 (p1.Steps).length cp1_1)]) (k := 2) rfl 1) rfl) ?_
     obtain ⟨y106, hy106, H⟩ := bnd H
     refine Tr.call0 (r := (iv y106)) (wg rfl rfl rfl) rfl Tryz.call178 (evl_cons rfl (evl_cons rfl evl_nil)) (fun W hW => F_etchhouseref3_tool_ok p0 Ap0_0 cp0_0 (hp0_0.ext hW.extAll) Ap0_1 cp0_1 (hp0_1.ext hW.extAll) p1.Name y106 hy106 (HF.start _)) ?_
     refine Tr.w2 (wg rfl rfl rfl) rfl run_lss rfl rfl ?_
     refine Tr.v2 rfl run_pickT rfl rfl ?_
     obtain rfl := Option.some.inj H
     exact Tr.nil (Tr.fin0 (.r rfl) (.r rfl))
   ·show Tr _ _ (LF [(2, (iv p2)), (3, (.pointer (some ⟨b100, 0, none⟩))), (4, (.pointer (some ⟨b101, 0, none⟩))), (23, (.bool g105))]) (LE [(1, bx b100 #[(iv p0.Unit), (.slice Ap0_0 (p0.Tools).length cp0_0), (.slice Ap0_1 (p0.Steps).length cp0_1)] 26), (2, bx b101 #[(iv p1.Kind), (sv p1.Name), (iv p1.At.X), (iv p1.At.Y), (.slice Ap1_0 (p1.Points).length cp1_0), (iv p1.NX), (iv p1.NY), (.slice Ap1_1 (p1.Steps).length cp1_1)] 53)]) _
    refine Tr.nil (Tr.normThen ?_)
    refine Tr.cond rfl H (fun H => ?_) (fun H => ?_)
    ·refine Tr.sr ?_
     refine Tr.asg rfl rfl ?_
     refine Tr.nil (Tr.normThen ?_)
     refine Tr.ret (Tr.retThen ?_)
     obtain rfl := Option.some.inj H
     exact Tr.out (m := [(iv 5)]) [] (res_tmp rfl res_nil) (fun W hW => ⟨rfl, hW.low leB⟩)
    ·refine Tr.skip (Tr.normThen ?_)
     refine Tr.seq ?_
     refine Tr.sr ?_
     refine Tr.v1 rfl (run_fieldAddr fo_53_2) rfl ?_
     refine Tr.va rfl (fun _ _ h1 h2 => run_loadN (cs := [(iv p1.At.X), (iv p1.At.Y)]) ag_47 sz_47 (h1.ev rfl) (CellsAt.take (rdb h2 (vs := [(iv p1.Kind), (sv p1.Name), (iv p1.At.X), (iv p1.At.Y), (.slice Ap1_0 (p1.Points).length cp1_0), (iv p1.NX), (iv p1.NY), (.slice Ap1_1 (p1.Steps).length cp1_1)]) (k := 2) rfl 2) 2) rfl) ?_
     refine Tr.v1 rfl (run_fieldAddr fo_26_0) rfl ?_
     refine Tr.va rfl (fun _ _ h1 h2 => run_load1 ag_3 (h1.ev rfl) (rdb h2 (vs := [(iv p0.Unit), (.slice Ap0_0 (p0.Tools).length cp0_0), (.slice Ap0_1 (p0.Steps).length cp0_1)]) (k := 1) rfl 0) rfl) ?_
     obtain ⟨y107, hy107, H⟩ := bnd H
     refine Tr.call0 (r := (.bool y107)) (wn rfl) rfl Tryz.call179 (evl_cons rfl (evl_cons rfl evl_nil)) (fun W hW => F_etchhouseref3_pointFits_ok p1.At p0.Unit y107 hy107 (HF.start _)) ?_
     refine Tr.v1 rfl run_not rfl ?_
     refine Tr.nil (Tr.normThen ?_)
     refine Tr.cond rfl H (fun H => ?_) (fun H => ?_)
     ·refine Tr.sr ?_
      refine Tr.asg rfl rfl ?_
      refine Tr.nil (Tr.normThen ?_)
      refine Tr.ret (Tr.retThen ?_)
      obtain rfl := Option.some.inj H
      exact Tr.out (m := [(iv 1)]) [] (res_tmp rfl res_nil) (fun W hW => ⟨rfl, hW.low leB⟩)
     ·refine Tr.skip (Tr.normThen ?_)
      refine Tr.seq ?_
      refine Tr.sr ?_
      refine Tr.v1 rfl (run_fieldAddr fo_53_0) rfl ?_
      refine Tr.va rfl (fun _ _ h1 h2 => run_load1 ag_3 (h1.ev rfl) (rdb h2 (vs := [(iv p1.Kind), (sv p1.Name), (iv p1.At.X), (iv p1.At.Y), (.slice Ap1_0 (p1.Points).length cp1_0), (iv p1.NX), (iv p1.NY), (.slice Ap1_1 (p1.Steps).length cp1_1)]) (k := 2) rfl 0) rfl) ?_
      refine Tr.v2 rfl run_eql rfl rfl ?_
      refine Tr.nil (Tr.normThen ?_)
      refine Tr.cond rfl H (fun H => ?_) (fun H => ?_)
      ·refine Tr.sr ?_
       refine Tr.v1 rfl (run_fieldAddr fo_53_3) rfl ?_
       refine Tr.va rfl (fun _ _ h1 h2 => run_load1 ag_43 (h1.ev rfl) (rdb h2 (vs := [(iv p1.Kind), (sv p1.Name), (iv p1.At.X), (iv p1.At.Y), (.slice Ap1_0 (p1.Points).length cp1_0), (iv p1.NX), (iv p1.NY), (.slice Ap1_1 (p1.Steps).length cp1_1)]) (k := 2) rfl 4) rfl) ?_
       refine Tr.v1 rfl (run_fieldAddr fo_26_0) rfl ?_
       refine Tr.va rfl (fun _ _ h1 h2 => run_load1 ag_3 (h1.ev rfl) (rdb h2 (vs := [(iv p0.Unit), (.slice Ap0_0 (p0.Tools).length cp0_0), (.slice Ap0_1 (p0.Steps).length cp0_1)]) (k := 1) rfl 0) rfl) ?_
       obtain ⟨y108, hy108, H⟩ := bnd H
       refine Tr.call0 (r := (iv y108)) (wn rfl) rfl Tryz.call180 (evl_cons rfl (evl_cons rfl evl_nil)) (fun W hW => F_etchhouseref3_checkArea_ok N p1.Points Ap1_0 cp1_0 (hp1_0.ext hW.extAll) p0.Unit y108 hy108 (HF.start _)) ?_
       refine Tr.asg rfl rfl ?_
       refine Tr.nil (Tr.normThen ?_)
       refine Tr.ret (Tr.retThen ?_)
       obtain rfl := Option.some.inj H
       exact Tr.out (m := [(iv y108)]) [] (res_tmp rfl res_nil) (fun W hW => ⟨rfl, hW.low leB⟩)
      ·refine Tr.skip (Tr.normThen ?_)
       have leJ109 := Bs.Le.refl w
       refine Tr.cutJ (σ := Unit) (fun w _ => F_etchhouseref3_checkStep_J1 = some r) (fun _ => []) (fun _ => []) ?_ ?_
       ·refine Tr.sr ?_
        refine Tr.v1 rfl (run_fieldAddr fo_53_0) rfl ?_
        refine Tr.va rfl (fun _ _ h1 h2 => run_load1 ag_3 (h1.ev rfl) (rdb h2 (vs := [(iv p1.Kind), (sv p1.Name), (iv p1.At.X), (iv p1.At.Y), (.slice Ap1_0 (p1.Points).length cp1_0), (iv p1.NX), (iv p1.NY), (.slice Ap1_1 (p1.Steps).length cp1_1)]) (k := 2) rfl 0) rfl) ?_
        refine Tr.v2 rfl run_eql rfl rfl ?_
        refine Tr.nil (Tr.normThen ?_)
        refine Tr.cond rfl H (fun H => ?_) (fun H => ?_)
        ·refine Tr.seq ?_
         refine Tr.seq ?_
         cases H
        ·refine Tr.skip ?_
         exact Tr.backThen leJ109 () H .nil .nil
       ·intro w _ hlJ110 hs
        have H := hs
        replace H : F_etchhouseref3_checkStep_J1 = some r := H
        replace leB := leB.trans hlJ110
        unfold F_etchhouseref3_checkStep_J1 at H
        show Tr _ _ (LF []) (LE []) _
        refine Tr.sr ?_
        refine Tr.asg rfl rfl ?_
        refine Tr.nil (Tr.normThen ?_)
        refine Tr.ret ?_
        obtain rfl := Option.some.inj H
        exact Tr.out (m := [(iv 0)]) [] (res_tmp rfl res_nil) (fun W hW => ⟨rfl, hW.low leB⟩)

theorem F_etchhouseref3_checkSteps_b_ok (N : Nat) (rec : TPlot → (List TPlotStep) → Int → Option Int) (hrec : ∀ {w : Bs} (p0 : TPlot) (Ap0_0 : Option Addr) (cp0_0 : Nat) (hp0_0 : Sl w.R w.W fl_TPlotTool Ap0_0 cp0_0 p0.Tools) (Ap0_1 : Option Addr) (cp0_1 : Nat) (hp0_1 : Sl w.R w.W fl_TPlotStep Ap0_1 cp0_1 p0.Steps) (p1 : (List TPlotStep)) (Ap1_0 : Option Addr) (cp1_0 : Nat) (hp1_0 : Sl w.R w.W fl_TPlotStep Ap1_0 cp1_0 p1) (p2 : Int) (r : Int) (H : rec p0 p1 p2 = some r) (hE : HF w w.W E0), Calls Tryz.prog 90 [(.agg #[(iv p0.Unit), (.slice Ap0_0 (p0.Tools).length cp0_0), (.slice Ap0_1 (p0.Steps).length cp0_1)]), (.slice Ap1_0 (p1).length cp1_0), (iv p2)].toArray w.W fun e W' => e = .returned (iv r) ∧ HF w W' E0) {w : Bs} (p0 : TPlot) (Ap0_0 : Option Addr) (cp0_0 : Nat) (hp0_0 : Sl w.R w.W fl_TPlotTool Ap0_0 cp0_0 p0.Tools) (Ap0_1 : Option Addr) (cp0_1 : Nat) (hp0_1 : Sl w.R w.W fl_TPlotStep Ap0_1 cp0_1 p0.Steps) (p1 : (List TPlotStep)) (Ap1_0 : Option Addr) (cp1_0 : Nat) (hp1_0 : Sl w.R w.W fl_TPlotStep Ap1_0 cp1_0 p1) (p2 : Int) (r : Int) (H : F_etchhouseref3_checkSteps_b N rec p0 p1 p2 = some r) (hE : HF w w.W E0) : Calls Tryz.prog 90 [(.agg #[(iv p0.Unit), (.slice Ap0_0 (p0.Tools).length cp0_0), (.slice Ap0_1 (p0.Steps).length cp0_1)]), (.slice Ap1_0 (p1).length cp1_0), (iv p2)].toArray w.W fun e W' => e = .returned (iv r) ∧ HF w W' E0 := by
 unfold F_etchhouseref3_checkSteps_b at H
 have leB := Bs.Le.refl w
 refine Tr.enter (n := 38) Tryz.func90 rfl rfl rfl hE ?_
 refine Tr.sr ?_
 refine Tr.box 1 (cs := [(iv p0.Unit), (.slice Ap0_0 (p0.Tools).length cp0_0), (.slice Ap0_1 (p0.Steps).length cp0_1)]) (wn rfl) rfl rfl rfl fun b100 => ?_
 refine Tr.asg rfl rfl ?_
 refine Tr.nil (Tr.normThen ?_)
 refine Tr.seq ?_
 refine Tr.sr ?_
 refine Tr.asg rfl rfl ?_
 refine Tr.nil (Tr.normThen ?_)
 refine Tr.block ?_
 refine Tr.loop (σ := Int) (fun m w s => F_etchhouseref3_checkSteps_L1 N p0 p1 p2 rec m s = some r) (fun s => [(1, (.slice Ap1_0 (p1).length cp1_0)), (2, (iv p2)), (3, (.pointer (some ⟨b100, 0, none⟩))), (7, (iv s))]) (fun s => [(1, bx b100 #[(iv p0.Unit), (.slice Ap0_0 (p0.Tools).length cp0_0), (.slice Ap0_1 (p0.Steps).length cp0_1)] 26)]) N 0 H (.r rfl) (.r rfl) (fun _ _ h => noSome (h)) ?_
 intro w leL1 mL1 x116 hs
 have H := hs
 replace H : F_etchhouseref3_checkSteps_L1 N p0 p1 p2 rec (mL1 + 1) x116 = some r := H
 replace hp1_0 := hp1_0.leR leL1
 replace hp0_0 := hp0_0.leR leL1
 replace hp0_1 := hp0_1.leR leL1
 replace leB := leB.trans leL1
 rw [F_etchhouseref3_checkSteps_L1.eq_2] at H
 show Tr _ _ (LF [(1, (.slice Ap1_0 (p1).length cp1_0)), (2, (iv p2)), (3, (.pointer (some ⟨b100, 0, none⟩))), (7, (iv x116))]) (LE [(1, bx b100 #[(iv p0.Unit), (.slice Ap0_0 (p0.Tools).length cp0_0), (.slice Ap0_1 (p0.Steps).length cp0_1)] 26)]) _
 refine Tr.seq ?_
 refine Tr.sr ?_
 refine Tr.mv rfl rfl ?_
 refine Tr.mv rfl rfl ?_
 refine Tr.v1 rfl (run_len un_24) rfl ?_
 refine Tr.v2 rfl run_lss rfl rfl ?_
 refine Tr.nil (Tr.normThen ?_)
 refine Tr.cond rfl H (fun H => ?_) (fun H => ?_)
 ·refine Tr.skip (Tr.normThen ?_)
  refine Tr.seq ?_
  refine Tr.block ?_
  refine Tr.seq ?_
  refine Tr.seq ?_
  refine Tr.draw (by kernel_rfl) (by kernel_rfl) ?_
  refine Tq.va rfl (fun _ _ h1 h2 => run_loadN (cs := [(iv p0.Unit), (.slice Ap0_0 (p0.Tools).length cp0_0), (.slice Ap0_1 (p0.Steps).length cp0_1)]) ag_26 sz_26 (h1.ev rfl) (CellsAt.take (rdb h2 (vs := [(iv p0.Unit), (.slice Ap0_0 (p0.Tools).length cp0_0), (.slice Ap0_1 (p0.Steps).length cp0_1)]) (k := 1) rfl 0) 3) rfl) ?_
  refine Tq.mv rfl rfl ?_
  refine Tq.mv rfl rfl ?_
  obtain ⟨x117, hx117, H⟩ := bnd H
  obtain ⟨hx1170, hx1171, hx1172⟩ := idx_some hx117
  obtain ⟨u118, hRu118, hoku118, hcu118⟩ := (hp1_0).el hx1172
  obtain ⟨⟨Au118_0, cu118_0⟩, ⟨Au118_1, cu118_1⟩⟩ := u118
  obtain ⟨hoku118_0, hoku118_1⟩ := TPlotStep_ok.1 hoku118
  replace hoku118_0 : Sl w.R w.W fl_TPoint Au118_0 cu118_0 x117.Points := hoku118_0
  replace hoku118_1 : Sl w.R w.W fl_TPlotStep Au118_1 cu118_1 x117.Steps := hoku118_1
  refine Tq.va rfl (fun _ _ h1 h2 => run_indexAddr el_24 (h1.ev rfl) hp1_0.form (h1.ev rfl) hx1170 hx1171) ?_
  refine Tq.va rfl (fun _ _ h1 h2 => run_loadN (cs := [(iv x117.Kind), (sv x117.Name), (iv x117.At.X), (iv x117.At.Y), (.slice Au118_0 (x117.Points).length cu118_0), (iv x117.NX), (iv x117.NY), (.slice Au118_1 (x117.Steps).length cu118_1)]) ag_53 sz_53 (h1.ev rfl) (CellsAt.take (rdR hRu118 hcu118 h2) 8) rfl) ?_
  refine Tq.mv rfl rfl ?_
  obtain ⟨y119, hy119, H⟩ := bnd H
  refine Tq.call0 (r := (iv y119)) (wn rfl) rfl Tryz.call129 (evl_cons rfl (evl_cons rfl (evl_cons rfl evl_nil))) (fun W hW => F_etchhouseref3_checkStep_ok N p0 Ap0_0 cp0_0 (hp0_0.ext hW.extAll) Ap0_1 cp0_1 (hp0_1.ext hW.extAll) x117 Au118_0 cu118_0 (hoku118_0.ext hW.extAll) Au118_1 cu118_1 (hoku118_1.ext hW.extAll) p2 y119 hy119 (HF.start _)) ?_
  refine Tq.asg rfl rfl ?_
  refine Tq.nil (Tr.normThen ?_)
  refine Tr.sr ?_
  refine Tr.mv rfl rfl ?_
  refine Tr.v2 rfl run_neq rfl rfl ?_
  refine Tr.nil (Tr.normThen ?_)
  refine Tr.cond rfl H (fun H => ?_) (fun H => ?_)
  ·refine Tr.sr ?_
   refine Tr.mv rfl rfl ?_
   refine Tr.asg rfl rfl ?_
   refine Tr.nil (Tr.normThen ?_)
   refine Tr.ret (Tr.retThen (Tr.retBlock (Tr.retThen (Tr.retThen (Tr.retBlock (Tr.retThen ?_))))))
   obtain rfl := Option.some.inj H
   exact Tr.out (m := [(iv y119)]) [] (res_tmp rfl res_nil) (fun W hW => ⟨rfl, hW.low leB⟩)
  ·refine Tr.skip (Tr.normThen ?_)
   refine Tr.seq ?_
   refine Tr.draw (by kernel_rfl) (by kernel_rfl) ?_
   refine Tq.va rfl (fun _ _ h1 h2 => run_loadN (cs := [(iv p0.Unit), (.slice Ap0_0 (p0.Tools).length cp0_0), (.slice Ap0_1 (p0.Steps).length cp0_1)]) ag_26 sz_26 (h1.ev rfl) (CellsAt.take (rdb h2 (vs := [(iv p0.Unit), (.slice Ap0_0 (p0.Tools).length cp0_0), (.slice Ap0_1 (p0.Steps).length cp0_1)]) (k := 1) rfl 0) 3) rfl) ?_
   refine Tq.mv rfl rfl ?_
   refine Tq.mv rfl rfl ?_
   obtain ⟨x120, hx120, H⟩ := bnd H
   obtain ⟨hx1200, hx1201, hx1202⟩ := idx_some hx120
   obtain ⟨u121, hRu121, hoku121, hcu121⟩ := (hp1_0).el hx1202
   obtain ⟨⟨Au121_0, cu121_0⟩, ⟨Au121_1, cu121_1⟩⟩ := u121
   obtain ⟨hoku121_0, hoku121_1⟩ := TPlotStep_ok.1 hoku121
   replace hoku121_0 : Sl w.R w.W fl_TPoint Au121_0 cu121_0 x120.Points := hoku121_0
   replace hoku121_1 : Sl w.R w.W fl_TPlotStep Au121_1 cu121_1 x120.Steps := hoku121_1
   refine Tq.va rfl (fun _ _ h1 h2 => run_indexAddr el_24 (h1.ev rfl) hp1_0.form (h1.ev rfl) hx1200 hx1201) ?_
   refine Tq.v1 rfl (run_fieldAddr fo_53_6) rfl ?_
   refine Tq.va rfl (fun _ _ h1 h2 => run_load1 ag_24 (h1.ev rfl) (CellsAt.drop (rdR hRu121 hcu121 h2) 7) rfl) ?_
   refine Tq.mv rfl rfl ?_
   refine Tq.v2 rfl run_add rfl rfl ?_
   obtain ⟨y122, hy122, H⟩ := bnd H
   refine Tq.call0 (r := (iv y122)) (wn rfl) rfl Tryz.call90 (evl_cons rfl (evl_cons rfl (evl_cons rfl evl_nil))) (fun W hW => hrec p0 Ap0_0 cp0_0 (hp0_0.ext hW.extAll) Ap0_1 cp0_1 (hp0_1.ext hW.extAll) x120.Steps Au121_1 cu121_1 (hoku121_1.ext hW.extAll) (w64 (p2 + 1)) y122 hy122 (HF.start _)) ?_
   refine Tq.asg rfl rfl ?_
   refine Tq.nil (Tr.normThen ?_)
   refine Tr.sr ?_
   refine Tr.mv rfl rfl ?_
   refine Tr.v2 rfl run_neq rfl rfl ?_
   refine Tr.nil (Tr.normThen ?_)
   refine Tr.cond rfl H (fun H => ?_) (fun H => ?_)
   ·refine Tr.sr ?_
    refine Tr.mv rfl rfl ?_
    refine Tr.asg rfl rfl ?_
    refine Tr.nil (Tr.normThen ?_)
    refine Tr.ret (Tr.retBlock (Tr.retThen (Tr.retThen (Tr.retBlock (Tr.retThen ?_)))))
    obtain rfl := Option.some.inj H
    exact Tr.out (m := [(iv y122)]) [] (res_tmp rfl res_nil) (fun W hW => ⟨rfl, hW.low leB⟩)
   ·refine Tr.skip (Tr.normBlock (Tr.normThen ?_))
    refine Tr.region ?_
    refine Tr.mv rfl rfl ?_
    refine Tr.v2 rfl run_add rfl rfl ?_
    refine Tr.asg rfl rfl ?_
    refine Tr.nil ?_
    exact Tr.backThen leL1 (w64 (x116 + 1)) H (.r rfl) (.r rfl)
 ·refine Tr.exit (Tr.exitThen (Tr.exitThen (Tr.exitBlock (Tr.normThen ?_))))
  refine Tr.sr ?_
  refine Tr.asg rfl rfl ?_
  refine Tr.nil (Tr.normThen ?_)
  refine Tr.ret ?_
  obtain rfl := Option.some.inj H
  exact Tr.out (m := [(iv 0)]) [] (res_tmp rfl res_nil) (fun W hW => ⟨rfl, hW.low leB⟩)
theorem F_etchhouseref3_checkSteps_ok : ∀ (N : Nat) {w : Bs} (p0 : TPlot) (Ap0_0 : Option Addr) (cp0_0 : Nat) (hp0_0 : Sl w.R w.W fl_TPlotTool Ap0_0 cp0_0 p0.Tools) (Ap0_1 : Option Addr) (cp0_1 : Nat) (hp0_1 : Sl w.R w.W fl_TPlotStep Ap0_1 cp0_1 p0.Steps) (p1 : (List TPlotStep)) (Ap1_0 : Option Addr) (cp1_0 : Nat) (hp1_0 : Sl w.R w.W fl_TPlotStep Ap1_0 cp1_0 p1) (p2 : Int) (r : Int) (H : F_etchhouseref3_checkSteps N p0 p1 p2 = some r) (hE : HF w w.W E0), Calls Tryz.prog 90 [(.agg #[(iv p0.Unit), (.slice Ap0_0 (p0.Tools).length cp0_0), (.slice Ap0_1 (p0.Steps).length cp0_1)]), (.slice Ap1_0 (p1).length cp1_0), (iv p2)].toArray w.W fun e W' => e = .returned (iv r) ∧ HF w W' E0
 | 0 => by intros; rename_i H _; cases H
 | N + 1 => F_etchhouseref3_checkSteps_b_ok N (F_etchhouseref3_checkSteps N) (F_etchhouseref3_checkSteps_ok N)

theorem F_etchhouseref3_CheckPlot_ok (N : Nat) {w : Bs} (p0 : TPlot) (Ap0_0 : Option Addr) (cp0_0 : Nat) (hp0_0 : Sl w.R w.W fl_TPlotTool Ap0_0 cp0_0 p0.Tools) (Ap0_1 : Option Addr) (cp0_1 : Nat) (hp0_1 : Sl w.R w.W fl_TPlotStep Ap0_1 cp0_1 p0.Steps) (r : Int) (H : F_etchhouseref3_CheckPlot N p0 = some r) (hE : HF w w.W E0) : Calls Tryz.prog 38 [(.agg #[(iv p0.Unit), (.slice Ap0_0 (p0.Tools).length cp0_0), (.slice Ap0_1 (p0.Steps).length cp0_1)])].toArray w.W fun e W' => e = .returned (iv r) ∧ HF w W' E0 := by
 unfold F_etchhouseref3_CheckPlot at H
 have leB := Bs.Le.refl w
 refine Tr.enter (n := 60) Tryz.func38 rfl rfl rfl hE ?_
 refine Tr.sr ?_
 refine Tr.box 1 (cs := [(iv p0.Unit), (.slice Ap0_0 (p0.Tools).length cp0_0), (.slice Ap0_1 (p0.Steps).length cp0_1)]) (wn rfl) rfl rfl rfl fun b100 => ?_
 refine Tr.asg rfl rfl ?_
 refine Tr.nil (Tr.normThen ?_)
 refine Tr.seq ?_
 refine Tr.sr ?_
 refine Tr.v1 rfl (run_fieldAddr fo_26_0) rfl ?_
 refine Tr.va rfl (fun _ _ h1 h2 => run_load1 ag_3 (h1.ev rfl) (rdb h2 (vs := [(iv p0.Unit), (.slice Ap0_0 (p0.Tools).length cp0_0), (.slice Ap0_1 (p0.Steps).length cp0_1)]) (k := 1) rfl 0) rfl) ?_
 obtain ⟨y101, hy101, H⟩ := bnd H
 refine Tr.call0 (r := (.bool y101)) (wn rfl) rfl Tryz.call86 (evl_cons rfl (evl_cons rfl (evl_cons rfl evl_nil))) (fun W hW => F_etchhouseref3_within_ok p0.Unit 1 1000 y101 hy101 (HF.start _)) ?_
 refine Tr.v1 rfl run_not rfl ?_
 refine Tr.nil (Tr.normThen ?_)
 refine Tr.cond rfl H (fun H => ?_) (fun H => ?_)
 ·refine Tr.sr ?_
  refine Tr.asg rfl rfl ?_
  refine Tr.nil (Tr.normThen ?_)
  refine Tr.ret (Tr.retThen ?_)
  obtain rfl := Option.some.inj H
  exact Tr.out (m := [(iv 1)]) [] (res_tmp rfl res_nil) (fun W hW => ⟨rfl, hW.low leB⟩)
 ·refine Tr.skip (Tr.normThen ?_)
  refine Tr.seq ?_
  refine Tr.sr ?_
  refine Tr.v1 rfl (run_fieldAddr fo_26_1) rfl ?_
  refine Tr.va rfl (fun _ _ h1 h2 => run_load1 ag_23 (h1.ev rfl) (rdb h2 (vs := [(iv p0.Unit), (.slice Ap0_0 (p0.Tools).length cp0_0), (.slice Ap0_1 (p0.Steps).length cp0_1)]) (k := 1) rfl 1) rfl) ?_
  refine Tr.v1 rfl (run_len un_23) rfl ?_
  refine Tr.v2 rfl run_gtr rfl rfl ?_
  refine Tr.nil (Tr.normThen ?_)
  refine Tr.cond rfl H (fun H => ?_) (fun H => ?_)
  ·refine Tr.sr ?_
   refine Tr.asg rfl rfl ?_
   refine Tr.nil (Tr.normThen ?_)
   refine Tr.ret (Tr.retThen ?_)
   obtain rfl := Option.some.inj H
   exact Tr.out (m := [(iv 2)]) [] (res_tmp rfl res_nil) (fun W hW => ⟨rfl, hW.low leB⟩)
  ·refine Tr.skip (Tr.normThen ?_)
   refine Tr.seq ?_
   refine Tr.sr ?_
   refine Tr.asg rfl rfl ?_
   refine Tr.nil (Tr.normThen ?_)
   refine Tr.block ?_
   refine Tr.loop (σ := Unit) (fun m w _ => F_etchhouseref3_CheckPlot_L1 N p0 m = some r) (fun _ => [(1, (.pointer (some ⟨b100, 0, none⟩))), (3, (iv 0))]) (fun _ => [(1, bx b100 #[(iv p0.Unit), (.slice Ap0_0 (p0.Tools).length cp0_0), (.slice Ap0_1 (p0.Steps).length cp0_1)] 26)]) N () H (.r rfl) (.r rfl) (fun _ _ h => noSome (h)) ?_
   intro w leL1 mL1 _ hs
   have H := hs
   replace H : F_etchhouseref3_CheckPlot_L1 N p0 (mL1 + 1) = some r := H
   replace hp0_0 := hp0_0.leR leL1
   replace hp0_1 := hp0_1.leR leL1
   replace leB := leB.trans leL1
   rw [F_etchhouseref3_CheckPlot_L1.eq_2] at H
   show Tr _ _ (LF [(1, (.pointer (some ⟨b100, 0, none⟩))), (3, (iv 0))]) (LE [(1, bx b100 #[(iv p0.Unit), (.slice Ap0_0 (p0.Tools).length cp0_0), (.slice Ap0_1 (p0.Steps).length cp0_1)] 26)]) _
   refine Tr.seq ?_
   refine Tr.sr ?_
   refine Tr.mv rfl rfl ?_
   refine Tr.v1 rfl (run_fieldAddr fo_26_1) rfl ?_
   refine Tr.va rfl (fun _ _ h1 h2 => run_load1 ag_23 (h1.ev rfl) (rdb h2 (vs := [(iv p0.Unit), (.slice Ap0_0 (p0.Tools).length cp0_0), (.slice Ap0_1 (p0.Steps).length cp0_1)]) (k := 1) rfl 1) rfl) ?_
   refine Tr.v1 rfl (run_len un_23) rfl ?_
   refine Tr.v2 rfl run_lss rfl rfl ?_
   refine Tr.nil (Tr.normThen ?_)
   refine Tr.cond rfl H (fun H => ?_) (fun H => ?_)
   ·refine Tr.skip (Tr.normThen ?_)
    refine Tr.seq ?_
    refine Tr.block ?_
    refine Tr.seq ?_
    cases H
   ·refine Tr.exit (Tr.exitThen (Tr.exitThen (Tr.exitBlock (Tr.normThen ?_))))
    refine Tr.seq ?_
    refine Tr.sr ?_
    refine Tr.v1 rfl (run_fieldAddr fo_26_2) rfl ?_
    refine Tr.va rfl (fun _ _ h1 h2 => run_load1 ag_24 (h1.ev rfl) (rdb h2 (vs := [(iv p0.Unit), (.slice Ap0_0 (p0.Tools).length cp0_0), (.slice Ap0_1 (p0.Steps).length cp0_1)]) (k := 1) rfl 2) rfl) ?_
    obtain ⟨y102, hy102, H⟩ := bnd H
    refine Tr.call0 (r := (iv y102)) (wn rfl) rfl Tryz.call89 (evl_cons rfl evl_nil) (fun W hW => F_etchhouseref3_count_ok N p0.Steps Ap0_1 cp0_1 (hp0_1.ext hW.extAll) y102 hy102 (HF.start _)) ?_
    refine Tr.v2 rfl run_gtr rfl rfl ?_
    refine Tr.nil (Tr.normThen ?_)
    refine Tr.cond rfl H (fun H => ?_) (fun H => ?_)
    ·refine Tr.sr ?_
     refine Tr.asg rfl rfl ?_
     refine Tr.nil (Tr.normThen ?_)
     refine Tr.ret (Tr.retThen ?_)
     obtain rfl := Option.some.inj H
     exact Tr.out (m := [(iv 2)]) [] (res_tmp rfl res_nil) (fun W hW => ⟨rfl, hW.low leB⟩)
    ·refine Tr.skip (Tr.normThen ?_)
     refine Tr.sr ?_
     refine Tr.va rfl (fun _ _ h1 h2 => run_loadN (cs := [(iv p0.Unit), (.slice Ap0_0 (p0.Tools).length cp0_0), (.slice Ap0_1 (p0.Steps).length cp0_1)]) ag_26 sz_26 (h1.ev rfl) (CellsAt.take (rdb h2 (vs := [(iv p0.Unit), (.slice Ap0_0 (p0.Tools).length cp0_0), (.slice Ap0_1 (p0.Steps).length cp0_1)]) (k := 1) rfl 0) 3) rfl) ?_
     refine Tr.v1 rfl (run_fieldAddr fo_26_2) rfl ?_
     refine Tr.va rfl (fun _ _ h1 h2 => run_load1 ag_24 (h1.ev rfl) (rdb h2 (vs := [(iv p0.Unit), (.slice Ap0_0 (p0.Tools).length cp0_0), (.slice Ap0_1 (p0.Steps).length cp0_1)]) (k := 1) rfl 2) rfl) ?_
     obtain ⟨y103, hy103, H⟩ := bnd H
     refine Tr.call0 (r := (iv y103)) (wn rfl) rfl Tryz.call90 (evl_cons rfl (evl_cons rfl (evl_cons rfl evl_nil))) (fun W hW => F_etchhouseref3_checkSteps_ok N p0 Ap0_0 cp0_0 (hp0_0.ext hW.extAll) Ap0_1 cp0_1 (hp0_1.ext hW.extAll) p0.Steps Ap0_1 cp0_1 (hp0_1.ext hW.extAll) 0 y103 hy103 (HF.start _)) ?_
     refine Tr.asg rfl rfl ?_
     refine Tr.nil (Tr.normThen ?_)
     refine Tr.ret ?_
     obtain rfl := Option.some.inj H
     exact Tr.out (m := [(iv y103)]) [] (res_tmp rfl res_nil) (fun W hW => ⟨rfl, hW.low leB⟩)

theorem F_etchhouseref3_right_ok (N : Nat) {w : Bs} (p0 : TPlot) (Ap0_0 : Option Addr) (cp0_0 : Nat) (hp0_0 : Sl w.O w.W fl_TPlotTool Ap0_0 cp0_0 p0.Tools) (Ap0_1 : Option Addr) (cp0_1 : Nat) (hp0_1 : Sl w.O w.W fl_TPlotStep Ap0_1 cp0_1 p0.Steps) (r : (TPlot × Int)) (H : F_etchhouseref3_right N p0 = some r) (hE : HF w w.W (LEn [])) : Calls Tryz.prog 20 [(.agg #[(iv p0.Unit), (.slice Ap0_0 (p0.Tools).length cp0_0), (.slice Ap0_1 (p0.Steps).length cp0_1)])].toArray w.W fun e W' => ∃ (w' : Bs) (u : (Option Addr × Nat) × (Option Addr × Nat)), w.Le w' ∧ e = .returned (.tuple #[(.agg #[(iv r.1.Unit), (.slice u.1.1 (r.1.Tools).length u.1.2), (.slice u.2.1 (r.1.Steps).length u.2.2)]), (iv r.2)]) ∧ (Sl w'.O w'.W fl_TPlotTool u.1.1 u.1.2 r.1.Tools ∧ Sl w'.O w'.W fl_TPlotStep u.2.1 u.2.2 r.1.Steps) ∧ HF w' W' (LEn []) := by
 unfold F_etchhouseref3_right at H
 have leB := Bs.Le.refl w
 refine Tr.enter (n := 12) Tryz.func20 rfl rfl rfl hE ?_
 refine Tr.sr ?_
 refine Tr.box 1 (cs := [(iv p0.Unit), (.slice Ap0_0 (p0.Tools).length cp0_0), (.slice Ap0_1 (p0.Steps).length cp0_1)]) (wn rfl) rfl rfl rfl fun b100 => ?_
 refine Tr.alloc 2 (wn rfl) rfl ze_26 fun b101 => ?_
 refine Tr.asg rfl rfl ?_
 refine Tr.nil (Tr.normThen ?_)
 refine Tr.seq ?_
 refine Tr.sr ?_
 refine Tr.va rfl (fun _ _ h1 h2 => run_loadN (cs := [(iv p0.Unit), (.slice Ap0_0 (p0.Tools).length cp0_0), (.slice Ap0_1 (p0.Steps).length cp0_1)]) ag_26 sz_26 (h1.ev rfl) (CellsAt.take (rdb h2 (vs := [(iv p0.Unit), (.slice Ap0_0 (p0.Tools).length cp0_0), (.slice Ap0_1 (p0.Steps).length cp0_1)]) (k := 1) rfl 0) 3) rfl) ?_
 obtain ⟨y102, hy102, H⟩ := bnd H
 refine Tr.call0 (r := (iv y102)) (wn rfl) rfl Tryz.call38 (evl_cons rfl evl_nil) (fun W hW => F_etchhouseref3_CheckPlot_ok N p0 Ap0_0 cp0_0 (hp0_0.rl.ext hW.extAll) Ap0_1 cp0_1 (hp0_1.rl.ext hW.extAll) y102 hy102 (HF.start _)) ?_
 refine Tr.asg rfl rfl ?_
 refine Tr.nil (Tr.normThen ?_)
 refine Tr.sr ?_
 refine Tr.mv rfl rfl ?_
 refine Tr.v2 rfl run_neq rfl rfl ?_
 refine Tr.nil (Tr.normThen ?_)
 refine Tr.cond rfl H (fun H => ?_) (fun H => ?_)
 ·refine Tr.sr ?_
  refine Tr.build (vs := []) (cs := [(iv 0), (.slice none 0 0), (.slice none 0 0)]) (wn rfl) rfl evs_nil (by kernel_rfl) ?_
  refine Tr.mv rfl rfl ?_
  refine Tr.store 2 (cs := [(iv 0), (.slice none 0 0), (.slice none 0 0)]) [(iv 0), (.slice none 0 0), (.slice none 0 0)] (wn rfl) rfl rfl rfl rfl sz_26 rfl rfl rfl ?_
  refine Tr.asg rfl rfl ?_
  refine Tr.nil (Tr.normThen ?_)
  refine Tr.ret (Tr.retThen ?_)
  obtain rfl := Option.some.inj H
  exact Tr.out (m := [(.agg #[(iv 0), (.slice none 0 0), (.slice none 0 0)]), (iv y102)]) [2] (res_cell rfl rfl ag_26 sz_26 (res_tmp rfl res_nil)) (fun W hW => ⟨w, ((none, 0), (none, 0)), leB, rfl, ⟨(Sl.nil _ _ _), (Sl.nil _ _ _)⟩, hW.pick (ks := []) (by decide) pk_nil⟩)
 ·refine Tr.skip (Tr.normThen ?_)
  refine Tr.sr ?_
  refine Tr.va rfl (fun _ _ h1 h2 => run_loadN (cs := [(iv p0.Unit), (.slice Ap0_0 (p0.Tools).length cp0_0), (.slice Ap0_1 (p0.Steps).length cp0_1)]) ag_26 sz_26 (h1.ev rfl) (CellsAt.take (rdb h2 (vs := [(iv p0.Unit), (.slice Ap0_0 (p0.Tools).length cp0_0), (.slice Ap0_1 (p0.Steps).length cp0_1)]) (k := 1) rfl 0) 3) rfl) ?_
  refine Tr.store 2 (cs := [(iv p0.Unit), (.slice Ap0_0 (p0.Tools).length cp0_0), (.slice Ap0_1 (p0.Steps).length cp0_1)]) [(iv p0.Unit), (.slice Ap0_0 (p0.Tools).length cp0_0), (.slice Ap0_1 (p0.Steps).length cp0_1)] (wn rfl) rfl rfl rfl rfl sz_26 rfl rfl rfl ?_
  refine Tr.asg rfl rfl ?_
  refine Tr.nil (Tr.normThen ?_)
  refine Tr.ret ?_
  obtain rfl := Option.some.inj H
  exact Tr.out (m := [(.agg #[(iv p0.Unit), (.slice Ap0_0 (p0.Tools).length cp0_0), (.slice Ap0_1 (p0.Steps).length cp0_1)]), (iv 0)]) [2] (res_cell rfl rfl ag_26 sz_26 (res_tmp rfl res_nil)) (fun W hW => ⟨w, ((Ap0_0, cp0_0), (Ap0_1, cp0_1)), leB, rfl, ⟨hp0_0, hp0_1⟩, hW.pick (ks := []) (by decide) pk_nil⟩)

theorem F_etchhouseref3_Of_ok (N : Nat) {w : Bs} (p0 : (List TRect)) (Ap0_0 : Option Addr) (cp0_0 : Nat) (hp0_0 : Sl w.R w.W fl_TRect Ap0_0 cp0_0 p0) (r : (TPlot × Int)) (H : F_etchhouseref3_Of N p0 = some r) (hE : HF w w.W (LEn [])) : Calls Tryz.prog 6 [(.slice Ap0_0 (p0).length cp0_0)].toArray w.W fun e W' => ∃ (w' : Bs) (u : (Option Addr × Nat) × (Option Addr × Nat)), w.Le w' ∧ e = .returned (.tuple #[(.agg #[(iv r.1.Unit), (.slice u.1.1 (r.1.Tools).length u.1.2), (.slice u.2.1 (r.1.Steps).length u.2.2)]), (iv r.2)]) ∧ (Sl w'.O w'.W fl_TPlotTool u.1.1 u.1.2 r.1.Tools ∧ Sl w'.O w'.W fl_TPlotStep u.2.1 u.2.2 r.1.Steps) ∧ HF w' W' (LEn []) := by
 unfold F_etchhouseref3_Of at H
 have leB := Bs.Le.refl w
 refine Tr.enter (n := 106) Tryz.func6 rfl rfl rfl hE ?_
 refine Tr.sr ?_
 refine Tr.alloc 1 (wn rfl) rfl ze_26 fun b100 => ?_
 refine Tr.asg rfl rfl ?_
 refine Tr.nil (Tr.normThen ?_)
 refine Tr.sr ?_
 refine Tr.mv rfl rfl ?_
 obtain ⟨y101, hy101, H⟩ := bnd H
 refine Tr.callG [2] [emp] (U := (Option Addr × Nat)) (fun u => (.tuple #[(.slice u.1 (y101.1).length u.2), (iv y101.2)])) (fun O W u => SlF u.1 (y101.1).length u.2) (fun u => [ow u.1 u.2 43 fl_LTPoint y101.1]) rfl (pk_cons rfl pk_nil) (fun _ => rfl) (wn rfl) rfl Tryz.call17 (evl_cons rfl evl_nil) (fun W hW hp hE => F_etchhouseref1_Outlines_ok N p0 Ap0_0 cp0_0 (hp0_0.ext (hW.extS hp)) y101 hy101 hE) ?_
 intro w u le102 hu
 obtain ⟨Ay101_0, cy101_0⟩ := u
 have gy101_0 := hu
 replace hp0_0 := hp0_0.leR le102
 replace leB := leB.trans le102
 have hgy101_0 : SlF Ay101_0 (y101.1).length cy101_0 := gy101_0 --@phi
 show Tr _ _ (uf _ 16 (.tuple #[(.slice Ay101_0 (y101.1).length cy101_0), (iv y101.2)])) (up _ 2 (ow Ay101_0 cy101_0 43 fl_LTPoint y101.1)) _
 refine Tr.mv rfl rfl ?_
 refine Tr.va rfl (fun _ _ h1 h2 => run_extract (h1.ev rfl) rfl) ?_
 refine Tr.va rfl (fun _ _ h1 h2 => run_extract (h1.ev rfl) rfl) ?_
 refine Tr.asg rfl rfl ?_
 refine Tr.asg rfl rfl ?_
 refine Tr.nil (Tr.normThen ?_)
 refine Tr.seq ?_
 refine Tr.sr ?_
 refine Tr.mv rfl rfl ?_
 refine Tr.v2 rfl run_neq rfl rfl ?_
 refine Tr.nil (Tr.normThen ?_)
 refine Tr.cond rfl H (fun H => ?_) (fun H => ?_)
 ·refine Tr.sr ?_
  refine Tr.build (vs := []) (cs := [(iv 0), (.slice none 0 0), (.slice none 0 0)]) (wn rfl) rfl evs_nil (by kernel_rfl) ?_
  refine Tr.mv rfl rfl ?_
  refine Tr.store 1 (cs := [(iv 0), (.slice none 0 0), (.slice none 0 0)]) [(iv 0), (.slice none 0 0), (.slice none 0 0)] (wn rfl) rfl rfl rfl rfl sz_26 rfl rfl rfl ?_
  refine Tr.asg rfl rfl ?_
  refine Tr.nil (Tr.normThen ?_)
  refine Tr.ret (Tr.retThen ?_)
  obtain rfl := Option.some.inj H
  exact Tr.out (m := [(.agg #[(iv 0), (.slice none 0 0), (.slice none 0 0)]), (iv y101.2)]) [1] (res_cell rfl rfl ag_26 sz_26 (res_tmp rfl res_nil)) (fun W hW => ⟨w, ((none, 0), (none, 0)), leB, rfl, ⟨(Sl.nil _ _ _), (Sl.nil _ _ _)⟩, hW.pick (ks := []) (by decide) pk_nil⟩)
 ·refine Tr.skip (Tr.normThen ?_)
  refine Tr.sr ?_
  refine Tr.asg rfl rfl ?_
  refine Tr.nilOwn 3 43 fl_LTPoint ?_
  show Tr _ _ (uf _ 6 (.slice none (([] : List (List TPoint))).length 0)) _ _
  refine Tr.nil (Tr.normThen ?_)
  refine Tr.seq ?_
  refine Tr.sr ?_
  refine Tr.asg rfl rfl ?_
  refine Tr.nil (Tr.normThen ?_)
  refine Tr.block ?_
  refine Tr.ren 3 11 rfl rfl rfl ?_
  refine Tr.loop (σ := (List (List TPoint)) × Int × (Option Addr) × Nat) (fun m w s => F_etchhouseref3_Of_L3 N y101 m s.1 s.2.1 = some r ∧ SlF s.2.2.1 (s.1).length s.2.2.2) (fun s => [(2, (.pointer (some ⟨b100, 0, none⟩))), (4, (.slice Ay101_0 (y101.1).length cy101_0)), (6, (.slice s.2.2.1 (s.1).length s.2.2.2)), (7, (iv s.2.1))]) (fun s => [(1, bx b100 #[(iv 0), (.slice none 0 0), (.slice none 0 0)] 26), (2, ow Ay101_0 cy101_0 43 fl_LTPoint y101.1), (11, ow s.2.2.1 s.2.2.2 43 fl_LTPoint s.1)]) N (([] : List (List TPoint)), 0, none, 0) ⟨H, slf_nil⟩ (.r rfl) (.r rfl) (fun _ _ h => noSome (h.1)) ?_
  intro w leL3 mL3 s hs
  obtain ⟨l239, x240, Al239, cl239⟩ := s
  obtain ⟨H, hl239⟩ := hs
  replace H : F_etchhouseref3_Of_L3 N y101 (mL3 + 1) l239 x240 = some r := H
  replace leB := leB.trans leL3
  replace hl239 : SlF Al239 (l239).length cl239 := hl239
  rw [F_etchhouseref3_Of_L3.eq_2] at H
  show Tr _ _ (LF [(2, (.pointer (some ⟨b100, 0, none⟩))), (4, (.slice Ay101_0 (y101.1).length cy101_0)), (6, (.slice Al239 (l239).length cl239)), (7, (iv x240))]) (LE [(1, bx b100 #[(iv 0), (.slice none 0 0), (.slice none 0 0)] 26), (2, ow Ay101_0 cy101_0 43 fl_LTPoint y101.1), (11, ow Al239 cl239 43 fl_LTPoint l239)]) _
  refine Tr.seq ?_
  refine Tr.sr ?_
  refine Tr.mv rfl rfl ?_
  refine Tr.mv rfl rfl ?_
  refine Tr.v1 rfl (run_len un_39) rfl ?_
  refine Tr.v2 rfl run_lss rfl rfl ?_
  refine Tr.nil (Tr.normThen ?_)
  refine Tr.cond rfl H (fun H => ?_) (fun H => ?_)
  ·refine Tr.skip (Tr.normThen ?_)
   refine Tr.seq ?_
   refine Tr.block ?_
   refine Tr.sr ?_
   refine Tr.mv rfl rfl ?_
   refine Tr.v1 rfl (run_len un_39) rfl ?_
   refine Tr.asg rfl rfl ?_
   refine Tr.nil (Tr.normThen ?_)
   refine Tr.seq ?_
   refine Tr.block ?_
   refine Tr.loop (σ := Int) (fun m w s => F_etchhouseref3_Of_L4 N y101 l239 x240 (F_etchhouseref3_Of_L3 N y101 mL3) m s = some r) (fun s => [(2, (.pointer (some ⟨b100, 0, none⟩))), (4, (.slice Ay101_0 (y101.1).length cy101_0)), (6, (.slice Al239 (l239).length cl239)), (7, (iv x240)), (8, (iv s))]) (fun s => [(1, bx b100 #[(iv 0), (.slice none 0 0), (.slice none 0 0)] 26), (2, ow Ay101_0 cy101_0 43 fl_LTPoint y101.1), (11, ow Al239 cl239 43 fl_LTPoint l239)]) N (l239.length : Int) H (.r rfl) (.r rfl) (fun _ _ h => noSome (h)) ?_
   intro w leL4 mL4 x278 hs
   have H := hs
   replace H : F_etchhouseref3_Of_L4 N y101 l239 x240 (F_etchhouseref3_Of_L3 N y101 mL3) (mL4 + 1) x278 = some r := H
   replace leB := leB.trans leL4
   replace leL3 := leL3.trans leL4
   rw [F_etchhouseref3_Of_L4.eq_2] at H
   show Tr _ _ (LF [(2, (.pointer (some ⟨b100, 0, none⟩))), (4, (.slice Ay101_0 (y101.1).length cy101_0)), (6, (.slice Al239 (l239).length cl239)), (7, (iv x240)), (8, (iv x278))]) (LE [(1, bx b100 #[(iv 0), (.slice none 0 0), (.slice none 0 0)] 26), (2, ow Ay101_0 cy101_0 43 fl_LTPoint y101.1), (11, ow Al239 cl239 43 fl_LTPoint l239)]) _
   refine Tr.seq ?_
   refine Tr.seq ?_
   refine Tr.draw (by kernel_rfl) (by kernel_rfl) ?_
   refine Tq.mv rfl rfl ?_
   refine Tq.v2 rfl run_gtr rfl rfl ?_
   refine Tq.mv rfl rfl ?_
   obtain ⟨g287, hg287, H⟩ := bnd H
   refine Tq.mid 15 [(2, (.pointer (some ⟨b100, 0, none⟩))), (4, (.slice Ay101_0 (y101.1).length cy101_0)), (6, (.slice Al239 (l239).length cl239)), (7, (iv x240)), (8, (iv x278)), (48, (.bool g287))] ?_ ?_
   ·cases hg305 : (decide (0 < x278))
    ·rw [hg305] at hg287
     rw [if_neg (by decide)] at hg287
     have H := hg287
     obtain rfl := Option.some.inj H
     refine Tq.ps ?_
     refine Tq.ps ?_
     refine Tq.ps ?_
     refine Tq.ps ?_
     refine Tq.ps ?_
     refine Tq.ps ?_
     refine Tq.ps ?_
     refine Tq.ps ?_
     refine Tq.ps ?_
     refine Tq.ps ?_
     refine Tq.ps ?_
     refine Tq.ps ?_
     refine Tq.ps ?_
     refine Tq.ps ?_
     refine Tq.v2 rfl run_pickF rfl rfl ?_
     exact Tq.fin (.r rfl)
    ·rw [hg305] at hg287
     rw [if_pos rfl] at hg287
     have H := hg287
     refine Tq.w1 (wg rfl rfl rfl) rfl run_move rfl ?_
     refine Tq.w1 (wg rfl rfl rfl) rfl run_move rfl ?_
     refine Tq.w2 (wg rfl rfl rfl) rfl run_sub rfl rfl ?_
     obtain ⟨x288, hx288, H⟩ := bnd H
     obtain ⟨hx2880, hx2881, hx2882⟩ := idx_some hx288
     refine Tq.val (wg rfl rfl rfl) rfl (fun _ _ h1 h2 => run_indexAddr el_39 (h1.ev rfl) hl239 (h1.ev rfl) hx2880 hx2881) ?_
     refine Tq.valE (U := (fl_LTPoint).Ad) (fun u => (fl_LTPoint).ok w.O w.W u x288) (fun u => (.slice u.1 (x288).length u.2)) (wg rfl rfl rfl) rfl (ldN (κ := 11) (t := fl_LTPoint) (V := fun u => (.slice u.1 (x288).length u.2)) rfl hx2882 (fun _ _ u h1 hc => run_load1 ag_43 (h1.ev rfl) hc rfl)) ?_
     intro u289 hoku289
     obtain ⟨Au289_0, cu289_0⟩ := u289
     have hoku289_0 := hoku289
     replace hoku289_0 : Sl w.O w.W fl_TPoint Au289_0 cu289_0 x288 := hoku289_0
     show Tq _ _ _ _ (uf _ 38 (.slice Au289_0 (x288).length cu289_0)) _ _ _
     obtain ⟨y290, hy290, H⟩ := bnd H
     refine Tq.call0 (r := (iv y290)) (wg rfl rfl rfl) rfl Tryz.call19 (evl_cons rfl evl_nil) (fun W hW => F_etchhouseref3_around_ok N x288 Au289_0 cu289_0 (hoku289_0.rl.ext hW.extAll) y290 hy290 (HF.start _)) ?_
     obtain ⟨y291, hy291, H⟩ := bnd H
     refine Tq.call0 (r := (iv y291)) (wg rfl rfl rfl) rfl Tryz.call18 (evl_cons rfl evl_nil) (fun W hW => F_etchhouseref3_size_ok y290 y291 hy291 (HF.start _)) ?_
     refine Tq.w1 (wg rfl rfl rfl) rfl run_move rfl ?_
     refine Tq.w1 (wg rfl rfl rfl) rfl run_move rfl ?_
     obtain ⟨x292, hx292, H⟩ := bnd H
     obtain ⟨hx2920, hx2921, hx2922⟩ := idx_some hx292
     refine Tq.val (wg rfl rfl rfl) rfl (fun _ _ h1 h2 => run_indexAddr el_39 (h1.ev rfl) hgy101_0 (h1.ev rfl) hx2920 hx2921) ?_
     refine Tq.valE (U := (fl_LTPoint).Ad) (fun u => (fl_LTPoint).ok w.O w.W u x292) (fun u => (.slice u.1 (x292).length u.2)) (wg rfl rfl rfl) rfl (ldN (κ := 2) (t := fl_LTPoint) (V := fun u => (.slice u.1 (x292).length u.2)) rfl hx2922 (fun _ _ u h1 hc => run_load1 ag_43 (h1.ev rfl) hc rfl)) ?_
     intro u293 hoku293
     obtain ⟨Au293_0, cu293_0⟩ := u293
     have hoku293_0 := hoku293
     replace hoku293_0 : Sl w.O w.W fl_TPoint Au293_0 cu293_0 x292 := hoku293_0
     show Tq _ _ _ _ (uf _ 44 (.slice Au293_0 (x292).length cu293_0)) _ _ _
     obtain ⟨y294, hy294, H⟩ := bnd H
     refine Tq.call0 (r := (iv y294)) (wg rfl rfl rfl) rfl Tryz.call19 (evl_cons rfl evl_nil) (fun W hW => F_etchhouseref3_around_ok N x292 Au293_0 cu293_0 (hoku293_0.rl.ext hW.extAll) y294 hy294 (HF.start _)) ?_
     obtain ⟨y295, hy295, H⟩ := bnd H
     refine Tq.call0 (r := (iv y295)) (wg rfl rfl rfl) rfl Tryz.call18 (evl_cons rfl evl_nil) (fun W hW => F_etchhouseref3_size_ok y294 y295 hy295 (HF.start _)) ?_
     refine Tq.w2 (wg rfl rfl rfl) rfl run_lss rfl rfl ?_
     refine Tq.v2 rfl run_pickT rfl rfl ?_
     obtain rfl := Option.some.inj H
     exact Tq.fin (.r rfl)
   ·refine Tq.nil (Tr.normThen ?_)
    refine Tr.cond rfl H (fun H => ?_) (fun H => ?_)
    ·refine Tr.skip (Tr.normThen ?_)
     refine Tr.block ?_
     refine Tr.region ?_
     refine Tr.mv rfl rfl ?_
     refine Tr.v2 rfl run_sub rfl rfl ?_
     refine Tr.asg rfl rfl ?_
     refine Tr.nil (Tr.normBlock ?_)
     exact Tr.backThen leL4 (w64 (x278 - 1)) H (.r rfl) (.r rfl)
    ·refine Tr.exit (Tr.exitThen (Tr.exitThen (Tr.exitBlock (Tr.normThen ?_))))
     refine Tr.sr ?_
     refine Tr.asg rfl rfl ?_
     refine Tr.nilOwn 12 43 fl_LTPoint ?_
     show Tr _ _ (uf _ 9 (.slice none (([] : List (List TPoint))).length 0)) _ _
     refine Tr.nil (Tr.normThen ?_)
     refine Tr.sr ?_
     refine Tr.mv rfl rfl ?_
     refine Tr.mv rfl rfl ?_
     refine Tr.mv rfl rfl ?_
     obtain ⟨l296, hl296, H⟩ := bnd H
     refine Tr.va rfl (fun _ _ h1 h2 => run_pre el_39 (h1.ev rfl) hl239 (h1.ev rfl) hl296) ?_
     refine Tr.freeze 11 rfl fun w le298 hz297 => ?_
     replace leB := leB.trans le298
     replace leL3 := leL3.trans le298
     replace leL4 := leL4.trans le298
     obtain ⟨l299, hl299, H⟩ := bnd H
     refine Tr.appendS 12 (t := fl_LTPoint) (l := ([] : List (List TPoint))) (l2 := l296) (wn rfl) rfl rfl rfl rfl (apO (Sl.pre hz297 hl296)) un_39 sz_43 zl_43 (by decide) by_43 rfl hl299 fun Al299 cl299 hAl299 => ?_
     refine Tr.asg rfl rfl ?_
     refine Tr.nil (Tr.normThen ?_)
     refine Tr.sr ?_
     refine Tr.mv rfl rfl ?_
     refine Tr.mv rfl rfl ?_
     refine Tr.mv rfl rfl ?_
     obtain ⟨x300, hx300, H⟩ := bnd H
     obtain ⟨hx3000, hx3001, hx3002⟩ := idx_some hx300
     refine Tr.va rfl (fun _ _ h1 h2 => run_indexAddr el_39 (h1.ev rfl) hgy101_0 (h1.ev rfl) hx3000 hx3001) ?_
     refine Tr.valE (U := (fl_LTPoint).Ad) (fun u => (fl_LTPoint).ok w.O w.W u x300) (fun u => (.slice u.1 (x300).length u.2)) (wn rfl) rfl (ldN (κ := 2) (t := fl_LTPoint) (V := fun u => (.slice u.1 (x300).length u.2)) rfl hx3002 (fun _ _ u h1 hc => run_load1 ag_43 (h1.ev rfl) hc rfl)) ?_
     intro u301 hoku301
     obtain ⟨Au301_0, cu301_0⟩ := u301
     have hoku301_0 := hoku301
     replace hoku301_0 : Sl w.O w.W fl_TPoint Au301_0 cu301_0 x300 := hoku301_0
     show Tr _ _ (uf _ 60 (.slice Au301_0 (x300).length cu301_0)) _ _
     refine Tr.buildSlice 13 (e := 43) (vs := [(0, (.slice Au301_0 (x300).length cu301_0))]) (cs := [(.slice Au301_0 (x300).length cu301_0)]) (wn rfl) rfl (evs_cons rfl evs_nil) (by kernel_rfl) fun b302 => ?_
     obtain ⟨l303, hl303, H⟩ := bnd H
     refine Tr.append 12 (t := fl_LTPoint) (l := l299) (l2 := [x300]) (wn rfl) rfl rfl rfl rfl (fun W hW => ⟨[[(.slice Au301_0 (x300).length cu301_0)]], (.cons ⟨(Au301_0, cu301_0), hoku301_0, rfl⟩ .nil), rdb hW (vs := [(.slice Au301_0 (x300).length cu301_0)]) (k := 13) rfl 0⟩) un_39 sz_43 zl_43 (by decide) by_43 rfl hl303 fun Al303 cl303 hAl303 => ?_
     refine Tr.asg rfl rfl ?_
     refine Tr.nil (Tr.normThen ?_)
     refine Tr.region ?_
     refine Tr.mv rfl rfl ?_
     refine Tr.mv rfl rfl ?_
     refine Tr.mv rfl rfl ?_
     obtain ⟨l304, hl304, H⟩ := bnd H
     refine Tr.va rfl (fun _ _ h1 h2 => run_cutL el_39 (h1.ev rfl) hz297.form (h1.ev rfl) hl304) ?_
     obtain ⟨l305, hl305, H⟩ := bnd H
     refine Tr.appendS 12 (t := fl_LTPoint) (l := l303) (l2 := l304) (wn rfl) rfl rfl rfl rfl (apO (Sl.cut hz297 hl304)) un_39 sz_43 zl_43 (by decide) by_43 rfl hl305 fun Al305 cl305 hAl305 => ?_
     refine Tr.asg rfl rfl ?_
     refine Tr.nil (Tr.normBlock (Tr.normThen ?_))
     refine Tr.region ?_
     refine Tr.mv rfl rfl ?_
     refine Tr.v2 rfl run_add rfl rfl ?_
     refine Tr.asg rfl rfl ?_
     refine Tr.nil ?_
     refine Tr.ren 12 11 rfl rfl rfl ?_
     exact Tr.backThen leL3 (l305, (w64 (x240 + 1)), Al305, cl305) ⟨H, hAl305⟩ (.r rfl) (.r rfl)
  ·refine Tr.exit (Tr.exitThen (Tr.exitThen (Tr.exitBlock (Tr.normThen ?_))))
   refine Tr.seq ?_
   refine Tr.freeze 11 rfl fun w le307 hz306 => ?_
   replace leB := leB.trans le307
   replace leL3 := leL3.trans le307
   refine Tr.region ?_
   refine Tr.build (vs := [(0, (iv 1))]) (cs := [(iv 1), (.slice none 0 0), (.slice none 0 0)]) (wn rfl) rfl (evs_cons rfl evs_nil) (by kernel_rfl) ?_
   refine Tr.alloc 14 (wn rfl) rfl ze_26 fun b308 => ?_
   refine Tr.store 14 (cs := [(iv 1), (.slice none 0 0), (.slice none 0 0)]) [(iv 1), (.slice none 0 0), (.slice none 0 0)] (wn rfl) rfl rfl rfl rfl sz_26 rfl rfl rfl ?_
   refine Tr.nil (Tr.normThen ?_)
   refine Tr.sr ?_
   refine Tr.asg rfl rfl ?_
   refine Tr.nil (Tr.normThen ?_)
   refine Tr.seq ?_
   refine Tr.sr ?_
   refine Tr.asg rfl rfl ?_
   refine Tr.nil (Tr.normThen ?_)
   refine Tr.block ?_
   refine Tr.nilOwn 27 53 fl_TPlotStep ?_
   refine Tr.loop (σ := (List TPlotStep) × Int × Int × (Option Addr) × Nat) (fun m w s => F_etchhouseref3_Of_L9 N l239 m s.1 s.2.1 s.2.2.1 = some r ∧ SlF s.2.2.2.1 (s.1).length s.2.2.2.2) (fun s => [(2, (.pointer (some ⟨b100, 0, none⟩))), (6, (.slice Al239 (l239).length cl239)), (10, (.pointer (some ⟨b308, 0, none⟩))), (11, (iv s.2.1)), (12, (iv s.2.2.1))]) (fun s => [(1, bx b100 #[(iv 0), (.slice none 0 0), (.slice none 0 0)] 26), (14, bx b308 #[(iv 1), (.slice none 0 0), (.slice s.2.2.2.1 (s.1).length s.2.2.2.2)] 26), (27, ow s.2.2.2.1 s.2.2.2.2 53 fl_TPlotStep s.1)]) N (([] : List TPlotStep), 1, 0, none, 0) ⟨H, slf_nil⟩ (.r rfl) (.r rfl) (fun _ _ h => noSome (h.1)) ?_
   intro w leL9 mL9 s hs
   obtain ⟨l360, x361, x362, Al360, cl360⟩ := s
   obtain ⟨H, hl360⟩ := hs
   replace H : F_etchhouseref3_Of_L9 N l239 (mL9 + 1) l360 x361 x362 = some r := H
   replace hz306 := hz306.le leL9
   replace leB := leB.trans leL9
   replace leL3 := leL3.trans leL9
   replace hl360 : SlF Al360 (l360).length cl360 := hl360
   rw [F_etchhouseref3_Of_L9.eq_2] at H
   show Tr _ _ (LF [(2, (.pointer (some ⟨b100, 0, none⟩))), (6, (.slice Al239 (l239).length cl239)), (10, (.pointer (some ⟨b308, 0, none⟩))), (11, (iv x361)), (12, (iv x362))]) (LE [(1, bx b100 #[(iv 0), (.slice none 0 0), (.slice none 0 0)] 26), (14, bx b308 #[(iv 1), (.slice none 0 0), (.slice Al360 (l360).length cl360)] 26), (27, ow Al360 cl360 53 fl_TPlotStep l360)]) _
   refine Tr.seq ?_
   refine Tr.sr ?_
   refine Tr.mv rfl rfl ?_
   refine Tr.mv rfl rfl ?_
   refine Tr.v1 rfl (run_len un_39) rfl ?_
   refine Tr.v2 rfl run_lss rfl rfl ?_
   refine Tr.nil (Tr.normThen ?_)
   refine Tr.cond rfl H (fun H => ?_) (fun H => ?_)
   ·refine Tr.skip (Tr.normThen ?_)
    refine Tr.seq ?_
    refine Tr.block ?_
    refine Tr.sr ?_
    refine Tr.asg rfl rfl ?_
    refine Tr.nil (Tr.normThen ?_)
    have leJ367 := Bs.Le.refl w
    refine Tr.cutJ (σ := Int) (fun w s => F_etchhouseref3_Of_J11 l239 l360 x361 x362 (F_etchhouseref3_Of_L9 N l239 mL9) s = some r) (fun s => [(2, (.pointer (some ⟨b100, 0, none⟩))), (6, (.slice Al239 (l239).length cl239)), (10, (.pointer (some ⟨b308, 0, none⟩))), (11, (iv x361)), (12, (iv x362)), (13, (iv s))]) (fun s => [(1, bx b100 #[(iv 0), (.slice none 0 0), (.slice none 0 0)] 26), (14, bx b308 #[(iv 1), (.slice none 0 0), (.slice Al360 (l360).length cl360)] 26), (27, ow Al360 cl360 53 fl_TPlotStep l360)]) ?_ ?_
    ·refine Tr.sr ?_
     refine Tr.mv rfl rfl ?_
     refine Tr.mv rfl rfl ?_
     obtain ⟨x381, hx381, H⟩ := bnd H
     obtain ⟨hx3810, hx3811, hx3812⟩ := idx_some hx381
     obtain ⟨u382, hRu382, hoku382, hcu382⟩ := (hz306).el hx3812
     obtain ⟨Au382_0, cu382_0⟩ := u382
     have hoku382_0 := hoku382
     replace hoku382_0 : Sl w.O w.W fl_TPoint Au382_0 cu382_0 x381 := hoku382_0
     replace hRu382 : w.R (adB Al239) := Or.inl hRu382
     refine Tr.va rfl (fun _ _ h1 h2 => run_indexAddr el_39 (h1.ev rfl) hz306.form (h1.ev rfl) hx3810 hx3811) ?_
     refine Tr.va rfl (fun _ _ h1 h2 => run_load1 ag_43 (h1.ev rfl) (rdR hRu382 hcu382 h2) rfl) ?_
     obtain ⟨y383, hy383, H⟩ := bnd H
     refine Tr.call0 (r := (iv y383)) (wn rfl) rfl Tryz.call19 (evl_cons rfl evl_nil) (fun W hW => F_etchhouseref3_around_ok N x381 Au382_0 cu382_0 (hoku382_0.rl.ext hW.extAll) y383 hy383 (HF.start _)) ?_
     refine Tr.v2 rfl run_lss rfl rfl ?_
     refine Tr.nil (Tr.normThen ?_)
     refine Tr.cond rfl H (fun H => ?_) (fun H => ?_)
     ·refine Tr.region ?_
      refine Tr.asg rfl rfl ?_
      refine Tr.nil ?_
      exact Tr.backThen leJ367 2 H (.r rfl) (.r rfl)
     ·refine Tr.skip ?_
      exact Tr.backThen leJ367 1 H (.r rfl) (.r rfl)
    ·intro w x366 hlJ368 hs
     have H := hs
     replace H : F_etchhouseref3_Of_J11 l239 l360 x361 x362 (F_etchhouseref3_Of_L9 N l239 mL9) x366 = some r := H
     replace hz306 := hz306.le hlJ368
     replace leB := leB.trans hlJ368
     replace leL3 := leL3.trans hlJ368
     replace leL9 := leL9.trans hlJ368
     unfold F_etchhouseref3_Of_J11 at H
     show Tr _ _ (LF [(2, (.pointer (some ⟨b100, 0, none⟩))), (6, (.slice Al239 (l239).length cl239)), (10, (.pointer (some ⟨b308, 0, none⟩))), (11, (iv x361)), (12, (iv x362)), (13, (iv x366))]) (LE [(1, bx b100 #[(iv 0), (.slice none 0 0), (.slice none 0 0)] 26), (14, bx b308 #[(iv 1), (.slice none 0 0), (.slice Al360 (l360).length cl360)] 26), (27, ow Al360 cl360 53 fl_TPlotStep l360)]) _
     have leJ373 := Bs.Le.refl w
     refine Tr.cutJ (σ := (List TPlotStep) × Int × (Option Addr) × Nat) (fun w s => F_etchhouseref3_Of_J10 l239 x362 (F_etchhouseref3_Of_L9 N l239 mL9) s.1 s.2.1 = some r ∧ SlF s.2.2.1 (s.1).length s.2.2.2) (fun s => [(2, (.pointer (some ⟨b100, 0, none⟩))), (6, (.slice Al239 (l239).length cl239)), (10, (.pointer (some ⟨b308, 0, none⟩))), (11, (iv s.2.1)), (12, (iv x362))]) (fun s => [(1, bx b100 #[(iv 0), (.slice none 0 0), (.slice none 0 0)] 26), (14, bx b308 #[(iv 1), (.slice none 0 0), (.slice s.2.2.1 (s.1).length s.2.2.2)] 26), (27, ow s.2.2.1 s.2.2.2 53 fl_TPlotStep s.1)]) ?_ ?_
     ·refine Tr.sr ?_
      refine Tr.mv rfl rfl ?_
      refine Tr.mv rfl rfl ?_
      refine Tr.v2 rfl run_neq rfl rfl ?_
      refine Tr.nil (Tr.normThen ?_)
      refine Tr.cond rfl H (fun H => ?_) (fun H => ?_)
      ·refine Tr.sr ?_
       refine Tr.v1 rfl (run_fieldAddr fo_26_2) rfl ?_
       refine Tr.va rfl (fun _ _ h1 h2 => run_load1 ag_24 (h1.ev rfl) (rdb h2 (vs := [(iv 1), (.slice none 0 0), (.slice Al360 (l360).length cl360)]) (k := 14) rfl 2) rfl) ?_
       refine Tr.mv rfl rfl ?_
       refine Tr.build (vs := [(0, (iv x366))]) (cs := [(iv x366), (sv ⟨#[]⟩), (iv 0), (iv 0), (.slice none 0 0), (iv 0), (iv 0), (.slice none 0 0)]) (wn rfl) rfl (evs_cons rfl evs_nil) (by kernel_rfl) ?_
       refine Tr.buildSlice 30 (e := 53) (vs := [(0, (.agg #[(iv x366), (sv ⟨#[]⟩), (iv 0), (iv 0), (.slice none 0 0), (iv 0), (iv 0), (.slice none 0 0)]))]) (cs := [(iv x366), (sv ⟨#[]⟩), (iv 0), (iv 0), (.slice none 0 0), (iv 0), (iv 0), (.slice none 0 0)]) (wn rfl) rfl (evs_cons rfl evs_nil) (by kernel_rfl) fun b379 => ?_
       obtain ⟨l380, hl380, H⟩ := bnd H
       refine Tr.append 27 (t := fl_TPlotStep) (l := l360) (l2 := [(TPlotStep.mk x366 (⟨#[]⟩) (TPoint.mk 0 0) [] 0 0 [])]) (wn rfl) rfl rfl rfl rfl (fun W hW => ⟨[[(iv x366), (sv ⟨#[]⟩), (iv 0), (iv 0), (.slice none 0 0), (iv 0), (iv 0), (.slice none 0 0)]], (.cons ⟨((none, 0), (none, 0)), (TPlotStep_ok.2 ⟨(Sl.nil _ _ _), (Sl.nil _ _ _)⟩), rfl⟩ .nil), rdb hW (vs := [(iv x366), (sv ⟨#[]⟩), (iv 0), (iv 0), (.slice none 0 0), (iv 0), (iv 0), (.slice none 0 0)]) (k := 30) rfl 0⟩) un_24 sz_53 zl_53 (by decide) by_53 rfl hl380 fun Al380 cl380 hAl380 => ?_
       refine Tr.v1 rfl (run_fieldAddr fo_26_2) rfl ?_
       refine Tr.store 14 (cs := [(.slice Al380 (l380).length cl380)]) [(iv 1), (.slice none 0 0), (.slice Al380 (l380).length cl380)] (wn rfl) rfl rfl rfl rfl sz_24 rfl rfl rfl ?_
       refine Tr.nil (Tr.normThen ?_)
       refine Tr.region ?_
       refine Tr.mv rfl rfl ?_
       refine Tr.asg rfl rfl ?_
       refine Tr.nil ?_
       exact Tr.backThen leJ373 (l380, x366, Al380, cl380) ⟨H, hAl380⟩ (.r rfl) (.r rfl)
      ·refine Tr.skip ?_
       exact Tr.backThen leJ373 (l360, x361, Al360, cl360) ⟨H, hl360⟩ (.r rfl) (.r rfl)
     ·intro w s hlJ374 hs
      obtain ⟨l371, x372, Al371, cl371⟩ := s
      obtain ⟨H, hl371⟩ := hs
      replace H : F_etchhouseref3_Of_J10 l239 x362 (F_etchhouseref3_Of_L9 N l239 mL9) l371 x372 = some r := H
      replace hz306 := hz306.le hlJ374
      replace leB := leB.trans hlJ374
      replace leL3 := leL3.trans hlJ374
      replace leL9 := leL9.trans hlJ374
      replace hl371 : SlF Al371 (l371).length cl371 := hl371
      unfold F_etchhouseref3_Of_J10 at H
      show Tr _ _ (LF [(2, (.pointer (some ⟨b100, 0, none⟩))), (6, (.slice Al239 (l239).length cl239)), (10, (.pointer (some ⟨b308, 0, none⟩))), (11, (iv x372)), (12, (iv x362))]) (LE [(1, bx b100 #[(iv 0), (.slice none 0 0), (.slice none 0 0)] 26), (14, bx b308 #[(iv 1), (.slice none 0 0), (.slice Al371 (l371).length cl371)] 26), (27, ow Al371 cl371 53 fl_TPlotStep l371)]) _
      obtain ⟨x376, hx376, H⟩ := bnd H
      obtain ⟨hx3760, hx3761, hx3762⟩ := idx_some hx376
      obtain ⟨u377, hRu377, hoku377, hcu377⟩ := (hz306).el hx3762
      obtain ⟨Au377_0, cu377_0⟩ := u377
      have hoku377_0 := hoku377
      replace hoku377_0 : Sl w.O w.W fl_TPoint Au377_0 cu377_0 x376 := hoku377_0
      replace hRu377 : w.R (adB Al239) := Or.inl hRu377
      refine Tr.drawF 8 [(7, .makeFunc (.func 0) #[] #[.tmp 98])] [(7, ⟨99, 29, (.func (.func 0) #[] #[(.agg #[(iv 7), (sv ⟨#[]⟩), (iv 0), (iv 0), (.slice Au377_0 (x376).length cu377_0), (iv 0), (iv 0), (.slice none 0 0)])]), fun b => .slice (some ⟨b, 0, none⟩) 1 1, fun b => bx b #[(iv 7), (sv ⟨#[]⟩), (iv 0), (iv 0), (.slice Au377_0 (x376).length cu377_0), (iv 0), (iv 0), (.slice none 0 0)] 53⟩)] [(2, (.pointer (some ⟨b100, 0, none⟩))), (6, (.slice Al239 (l239).length cl239)), (10, (.pointer (some ⟨b308, 0, none⟩))), (11, (iv x372)), (12, (iv x362)), (92, (.pointer (some ⟨b308, 2, none⟩))), (93, (.slice Al371 (l371).length cl371)), (94, (.slice Al239 (l239).length cl239)), (95, (iv x362)), (96, (.pointer (some ⟨adB Al239, adO Al239 + (x362).toNat * 1, none⟩))), (97, (.slice Au377_0 (x376).length cu377_0)), (98, (.agg #[(iv 7), (sv ⟨#[]⟩), (iv 0), (iv 0), (.slice Au377_0 (x376).length cu377_0), (iv 0), (iv 0), (.slice none 0 0)])), (99, (.func (.func 0) #[] #[(.agg #[(iv 7), (sv ⟨#[]⟩), (iv 0), (iv 0), (.slice Au377_0 (x376).length cu377_0), (iv 0), (iv 0), (.slice none 0 0)])]))] (by kernel_rfl) (by kernel_rfl) (by kernel_rfl) (by kernel_rfl) (by kernel_rfl) (by kernel_rfl) (by kernel_rfl) (fall_cons (fr_lit (vs := [(0, (.agg #[(iv 7), (sv ⟨#[]⟩), (iv 0), (iv 0), (.slice Au377_0 (x376).length cu377_0), (iv 0), (iv 0), (.slice none 0 0)]))]) rfl rfl rfl (by kernel_rfl)) fall_nil) (fall_cons rfl fall_nil) (fall_cons rfl fall_nil) ?_ ?_
      ·refine Tq.v1 rfl (run_fieldAddr fo_26_2) rfl ?_
       refine Tq.va rfl (fun _ _ h1 h2 => run_load1 ag_24 (h1.ev rfl) (rdb h2 (vs := [(iv 1), (.slice none 0 0), (.slice Al371 (l371).length cl371)]) (k := 14) rfl 2) rfl) ?_
       refine Tq.mv rfl rfl ?_
       refine Tq.mv rfl rfl ?_
       refine Tq.va rfl (fun _ _ h1 h2 => run_indexAddr el_39 (h1.ev rfl) hz306.form (h1.ev rfl) hx3760 hx3761) ?_
       refine Tq.va rfl (fun _ _ h1 h2 => run_load1 ag_43 (h1.ev rfl) (rdR hRu377 hcu377 h2) rfl) ?_
       refine Tq.build (vs := [(0, (iv 7)), (3, (.slice Au377_0 (x376).length cu377_0))]) (cs := [(iv 7), (sv ⟨#[]⟩), (iv 0), (iv 0), (.slice Au377_0 (x376).length cu377_0), (iv 0), (iv 0), (.slice none 0 0)]) (wn rfl) rfl (evs_cons rfl (evs_cons rfl evs_nil)) (by kernel_rfl) ?_
       refine Tq.mkFunc (vs := [(.agg #[(iv 7), (sv ⟨#[]⟩), (iv 0), (iv 0), (.slice Au377_0 (x376).length cu377_0), (iv 0), (iv 0), (.slice none 0 0)])]) (wn rfl) rfl (evl_cons rfl evl_nil) ?_
       exact Tq.fin (.r rfl)
      ·intro bs375
       refine Tr.sel (lf := [(2, (.pointer (some ⟨b100, 0, none⟩))), (6, (.slice Al239 (l239).length cl239)), (10, (.pointer (some ⟨b308, 0, none⟩))), (11, (iv x372)), (12, (iv x362)), (93, (.slice Al371 (l371).length cl371)), (99, (.slice (some ⟨(bs375 7), 0, none⟩) 1 1))]) (le := [(1, bx b100 #[(iv 0), (.slice none 0 0), (.slice none 0 0)] 26), (14, bx b308 #[(iv 1), (.slice none 0 0), (.slice Al371 (l371).length cl371)] 26), (27, ow Al371 cl371 53 fl_TPlotStep l371), (29, bx (bs375 7) #[(iv 7), (sv ⟨#[]⟩), (iv 0), (iv 0), (.slice Au377_0 (x376).length cu377_0), (iv 0), (iv 0), (.slice none 0 0)] 53)]) (.r rfl) (.r rfl) ?_
       obtain ⟨l378, hl378, H⟩ := bnd H
       refine Tr.append 27 (t := fl_TPlotStep) (l := l371) (l2 := [(TPlotStep.mk 7 (⟨#[]⟩) (TPoint.mk 0 0) x376 0 0 [])]) (wn rfl) rfl rfl rfl rfl (fun W hW => ⟨[[(iv 7), (sv ⟨#[]⟩), (iv 0), (iv 0), (.slice Au377_0 (x376).length cu377_0), (iv 0), (iv 0), (.slice none 0 0)]], (.cons ⟨((Au377_0, cu377_0), (none, 0)), (TPlotStep_ok.2 ⟨hoku377_0, (Sl.nil _ _ _)⟩), rfl⟩ .nil), rdb hW (vs := [(iv 7), (sv ⟨#[]⟩), (iv 0), (iv 0), (.slice Au377_0 (x376).length cu377_0), (iv 0), (iv 0), (.slice none 0 0)]) (k := 29) rfl 0⟩) un_24 sz_53 zl_53 (by decide) by_53 rfl hl378 fun Al378 cl378 hAl378 => ?_
       refine Tr.v1 rfl (run_fieldAddr fo_26_2) rfl ?_
       refine Tr.store 14 (cs := [(.slice Al378 (l378).length cl378)]) [(iv 1), (.slice none 0 0), (.slice Al378 (l378).length cl378)] (wn rfl) rfl rfl rfl rfl sz_24 rfl rfl rfl ?_
       refine Tr.nil (Tr.normBlock (Tr.normThen ?_))
       refine Tr.region ?_
       refine Tr.mv rfl rfl ?_
       refine Tr.v2 rfl run_add rfl rfl ?_
       refine Tr.asg rfl rfl ?_
       refine Tr.nil ?_
       exact Tr.backThen leL9 (l378, x372, (w64 (x362 + 1)), Al378, cl378) ⟨H, hAl378⟩ (.r rfl) (.r rfl)
   ·refine Tr.exit (Tr.exitThen (Tr.exitThen (Tr.exitBlock (Tr.normThen ?_))))
    refine Tr.sr ?_
    refine Tr.va rfl (fun _ _ h1 h2 => run_loadN (cs := [(iv 1), (.slice none 0 0), (.slice Al360 (l360).length cl360)]) ag_26 sz_26 (h1.ev rfl) (CellsAt.take (rdb h2 (vs := [(iv 1), (.slice none 0 0), (.slice Al360 (l360).length cl360)]) (k := 14) rfl 0) 3) rfl) ?_
    refine Tr.freeze 27 rfl fun w le385 hz384 => ?_
    replace hz306 := hz306.le le385
    replace leB := leB.trans le385
    replace leL3 := leL3.trans le385
    replace leL9 := leL9.trans le385
    obtain ⟨y386, hy386, H⟩ := bnd H
    refine Tr.callG [] [] (U := (Option Addr × Nat) × (Option Addr × Nat)) (fun u => (.tuple #[(.agg #[(iv y386.1.Unit), (.slice u.1.1 (y386.1.Tools).length u.1.2), (.slice u.2.1 (y386.1.Steps).length u.2.2)]), (iv y386.2)])) (fun O W u => Sl O W fl_TPlotTool u.1.1 u.1.2 y386.1.Tools ∧ Sl O W fl_TPlotStep u.2.1 u.2.2 y386.1.Steps) (fun u => []) rfl pk_nil (fun _ => rfl) (wn rfl) rfl Tryz.call20 (evl_cons rfl evl_nil) (fun W hW hp hE => F_etchhouseref3_right_ok N (TPlot.mk 1 [] l360) none 0 (Sl.nil _ _ _) Al360 cl360 (hz384.extO (hW.extS hp)) y386 hy386 hE) ?_
    intro w u le387 hu
    obtain ⟨⟨Ay386_0, cy386_0⟩, ⟨Ay386_1, cy386_1⟩⟩ := u
    obtain ⟨gy386_0, gy386_1⟩ := hu
    replace hz306 := hz306.le le387
    replace hz384 := hz384.le le387
    replace leB := leB.trans le387
    replace leL3 := leL3.trans le387
    replace leL9 := leL9.trans le387
    have hgy386_0 : Sl w.O w.W fl_TPlotTool Ay386_0 cy386_0 y386.1.Tools := gy386_0 --@phi
    have hgy386_1 : Sl w.O w.W fl_TPlotStep Ay386_1 cy386_1 y386.1.Steps := gy386_1 --@phi
    show Tr _ _ (uf _ 103 (.tuple #[(.agg #[(iv y386.1.Unit), (.slice Ay386_0 (y386.1.Tools).length cy386_0), (.slice Ay386_1 (y386.1.Steps).length cy386_1)]), (iv y386.2)])) (_) _
    refine Tr.va rfl (fun _ _ h1 h2 => run_extract (h1.ev rfl) rfl) ?_
    refine Tr.va rfl (fun _ _ h1 h2 => run_extract (h1.ev rfl) rfl) ?_
    refine Tr.store 1 (cs := [(iv y386.1.Unit), (.slice Ay386_0 (y386.1.Tools).length cy386_0), (.slice Ay386_1 (y386.1.Steps).length cy386_1)]) [(iv y386.1.Unit), (.slice Ay386_0 (y386.1.Tools).length cy386_0), (.slice Ay386_1 (y386.1.Steps).length cy386_1)] (wn rfl) rfl rfl rfl rfl sz_26 rfl rfl rfl ?_
    refine Tr.asg rfl rfl ?_
    refine Tr.nil (Tr.normThen ?_)
    refine Tr.ret ?_
    obtain rfl := Option.some.inj H
    exact Tr.out (m := [(.agg #[(iv y386.1.Unit), (.slice Ay386_0 (y386.1.Tools).length cy386_0), (.slice Ay386_1 (y386.1.Steps).length cy386_1)]), (iv y386.2)]) [1] (res_cell rfl rfl ag_26 sz_26 (res_tmp rfl res_nil)) (fun W hW => ⟨w, ((Ay386_0, cy386_0), (Ay386_1, cy386_1)), leB, rfl, ⟨hgy386_0, hgy386_1⟩, hW.pick (ks := []) (by decide) pk_nil⟩)

theorem F_etchhouseref3_samePoints_ok (N : Nat) {w : Bs} (p0 : (List TPoint)) (Ap0_0 : Option Addr) (cp0_0 : Nat) (hp0_0 : Sl w.R w.W fl_TPoint Ap0_0 cp0_0 p0) (p1 : (List TPoint)) (Ap1_0 : Option Addr) (cp1_0 : Nat) (hp1_0 : Sl w.R w.W fl_TPoint Ap1_0 cp1_0 p1) (r : Bool) (H : F_etchhouseref3_samePoints N p0 p1 = some r) (hE : HF w w.W E0) : Calls Tryz.prog 39 [(.slice Ap0_0 (p0).length cp0_0), (.slice Ap1_0 (p1).length cp1_0)].toArray w.W fun e W' => e = .returned (.bool r) ∧ HF w W' E0 := by
 unfold F_etchhouseref3_samePoints at H
 have leB := Bs.Le.refl w
 refine Tr.enter (n := 26) Tryz.func39 rfl rfl rfl hE ?_
 refine Tr.sr ?_
 refine Tr.asg rfl rfl ?_
 refine Tr.nil (Tr.normThen ?_)
 refine Tr.seq ?_
 refine Tr.sr ?_
 refine Tr.mv rfl rfl ?_
 refine Tr.v1 rfl (run_len un_43) rfl ?_
 refine Tr.mv rfl rfl ?_
 refine Tr.v1 rfl (run_len un_43) rfl ?_
 refine Tr.v2 rfl run_neq rfl rfl ?_
 refine Tr.nil (Tr.normThen ?_)
 refine Tr.cond rfl H (fun H => ?_) (fun H => ?_)
 ·refine Tr.sr ?_
  refine Tr.asg rfl rfl ?_
  refine Tr.nil (Tr.normThen ?_)
  refine Tr.ret (Tr.retThen ?_)
  obtain rfl := Option.some.inj H
  exact Tr.out (m := [(.bool false)]) [] (res_tmp rfl res_nil) (fun W hW => ⟨rfl, hW.low leB⟩)
 ·refine Tr.skip (Tr.normThen ?_)
  refine Tr.seq ?_
  refine Tr.sr ?_
  refine Tr.asg rfl rfl ?_
  refine Tr.nil (Tr.normThen ?_)
  refine Tr.block ?_
  refine Tr.loop (σ := Int) (fun m w s => F_etchhouseref3_samePoints_L1 p0 p1 m s = some r) (fun s => [(0, (.slice Ap0_0 (p0).length cp0_0)), (1, (.slice Ap1_0 (p1).length cp1_0)), (5, (iv s))]) (fun s => []) N 0 H (.r rfl) .nil (fun _ _ h => noSome (h)) ?_
  intro w leL1 mL1 x107 hs
  have H := hs
  replace H : F_etchhouseref3_samePoints_L1 p0 p1 (mL1 + 1) x107 = some r := H
  replace hp0_0 := hp0_0.leR leL1
  replace hp1_0 := hp1_0.leR leL1
  replace leB := leB.trans leL1
  rw [F_etchhouseref3_samePoints_L1.eq_2] at H
  show Tr _ _ (LF [(0, (.slice Ap0_0 (p0).length cp0_0)), (1, (.slice Ap1_0 (p1).length cp1_0)), (5, (iv x107))]) (LE []) _
  refine Tr.seq ?_
  refine Tr.sr ?_
  refine Tr.mv rfl rfl ?_
  refine Tr.mv rfl rfl ?_
  refine Tr.v1 rfl (run_len un_43) rfl ?_
  refine Tr.v2 rfl run_lss rfl rfl ?_
  refine Tr.nil (Tr.normThen ?_)
  refine Tr.cond rfl H (fun H => ?_) (fun H => ?_)
  ·refine Tr.skip (Tr.normThen ?_)
   refine Tr.seq ?_
   refine Tr.block ?_
   refine Tr.seq ?_
   refine Tr.draw (by kernel_rfl) (by kernel_rfl) ?_
   refine Tq.mv rfl rfl ?_
   refine Tq.mv rfl rfl ?_
   obtain ⟨x108, hx108, H⟩ := bnd H
   obtain ⟨hx1080, hx1081, hx1082⟩ := idx_some hx108
   refine Tq.va rfl (fun _ _ h1 h2 => run_indexAddr el_43 (h1.ev rfl) hp0_0.form (h1.ev rfl) hx1080 hx1081) ?_
   refine Tq.va rfl (fun _ _ h1 h2 => run_loadN (cs := [(iv x108.X), (iv x108.Y)]) ag_47 sz_47 (h1.ev rfl) (CellsAt.take (rdF ef_TPoint hp0_0 hx1082 h2) 2) rfl) ?_
   refine Tq.mv rfl rfl ?_
   refine Tq.mv rfl rfl ?_
   obtain ⟨x109, hx109, H⟩ := bnd H
   obtain ⟨hx1090, hx1091, hx1092⟩ := idx_some hx109
   refine Tq.va rfl (fun _ _ h1 h2 => run_indexAddr el_43 (h1.ev rfl) hp1_0.form (h1.ev rfl) hx1090 hx1091) ?_
   refine Tq.va rfl (fun _ _ h1 h2 => run_loadN (cs := [(iv x109.X), (iv x109.Y)]) ag_47 sz_47 (h1.ev rfl) (CellsAt.take (rdF ef_TPoint hp1_0 hx1092 h2) 2) rfl) ?_
   refine Tq.v2 rfl (run_neq_47 x108 x109) rfl rfl ?_
   refine Tq.nil (Tr.normThen ?_)
   refine Tr.cond rfl H (fun H => ?_) (fun H => ?_)
   ·refine Tr.sr ?_
    refine Tr.asg rfl rfl ?_
    refine Tr.nil (Tr.normThen ?_)
    refine Tr.ret (Tr.retBlock (Tr.retThen (Tr.retThen (Tr.retBlock (Tr.retThen ?_)))))
    obtain rfl := Option.some.inj H
    exact Tr.out (m := [(.bool false)]) [] (res_tmp rfl res_nil) (fun W hW => ⟨rfl, hW.low leB⟩)
   ·refine Tr.skip (Tr.normBlock (Tr.normThen ?_))
    refine Tr.region ?_
    refine Tr.mv rfl rfl ?_
    refine Tr.v2 rfl run_add rfl rfl ?_
    refine Tr.asg rfl rfl ?_
    refine Tr.nil ?_
    exact Tr.backThen leL1 (w64 (x107 + 1)) H (.r rfl) .nil
  ·refine Tr.exit (Tr.exitThen (Tr.exitThen (Tr.exitBlock (Tr.normThen ?_))))
   refine Tr.sr ?_
   refine Tr.asg rfl rfl ?_
   refine Tr.nil (Tr.normThen ?_)
   refine Tr.ret ?_
   obtain rfl := Option.some.inj H
   exact Tr.out (m := [(.bool true)]) [] (res_tmp rfl res_nil) (fun W hW => ⟨rfl, hW.low leB⟩)

theorem F_etchhouseref3_sameSteps_b_ok (N : Nat) (rec : (List TPlotStep) → (List TPlotStep) → Option Bool) (hrec : ∀ {w : Bs} (p0 : (List TPlotStep)) (Ap0_0 : Option Addr) (cp0_0 : Nat) (hp0_0 : Sl w.R w.W fl_TPlotStep Ap0_0 cp0_0 p0) (p1 : (List TPlotStep)) (Ap1_0 : Option Addr) (cp1_0 : Nat) (hp1_0 : Sl w.R w.W fl_TPlotStep Ap1_0 cp1_0 p1) (r : Bool) (H : rec p0 p1 = some r) (hE : HF w w.W E0), Calls Tryz.prog 21 [(.slice Ap0_0 (p0).length cp0_0), (.slice Ap1_0 (p1).length cp1_0)].toArray w.W fun e W' => e = .returned (.bool r) ∧ HF w W' E0) {w : Bs} (p0 : (List TPlotStep)) (Ap0_0 : Option Addr) (cp0_0 : Nat) (hp0_0 : Sl w.R w.W fl_TPlotStep Ap0_0 cp0_0 p0) (p1 : (List TPlotStep)) (Ap1_0 : Option Addr) (cp1_0 : Nat) (hp1_0 : Sl w.R w.W fl_TPlotStep Ap1_0 cp1_0 p1) (r : Bool) (H : F_etchhouseref3_sameSteps_b N rec p0 p1 = some r) (hE : HF w w.W E0) : Calls Tryz.prog 21 [(.slice Ap0_0 (p0).length cp0_0), (.slice Ap1_0 (p1).length cp1_0)].toArray w.W fun e W' => e = .returned (.bool r) ∧ HF w W' E0 := by
 unfold F_etchhouseref3_sameSteps_b at H
 have leB := Bs.Le.refl w
 refine Tr.enter (n := 76) Tryz.func21 rfl rfl rfl hE ?_
 refine Tr.sr ?_
 refine Tr.asg rfl rfl ?_
 refine Tr.nil (Tr.normThen ?_)
 refine Tr.seq ?_
 refine Tr.sr ?_
 refine Tr.mv rfl rfl ?_
 refine Tr.v1 rfl (run_len un_24) rfl ?_
 refine Tr.mv rfl rfl ?_
 refine Tr.v1 rfl (run_len un_24) rfl ?_
 refine Tr.v2 rfl run_neq rfl rfl ?_
 refine Tr.nil (Tr.normThen ?_)
 refine Tr.cond rfl H (fun H => ?_) (fun H => ?_)
 ·refine Tr.sr ?_
  refine Tr.asg rfl rfl ?_
  refine Tr.nil (Tr.normThen ?_)
  refine Tr.ret (Tr.retThen ?_)
  obtain rfl := Option.some.inj H
  exact Tr.out (m := [(.bool false)]) [] (res_tmp rfl res_nil) (fun W hW => ⟨rfl, hW.low leB⟩)
 ·refine Tr.skip (Tr.normThen ?_)
  refine Tr.seq ?_
  refine Tr.sr ?_
  refine Tr.asg rfl rfl ?_
  refine Tr.nil (Tr.normThen ?_)
  refine Tr.block ?_
  refine Tr.loop (σ := Int) (fun m w s => F_etchhouseref3_sameSteps_L1 N p0 p1 rec m s = some r) (fun s => [(0, (.slice Ap0_0 (p0).length cp0_0)), (1, (.slice Ap1_0 (p1).length cp1_0)), (5, (iv s))]) (fun s => []) N 0 H (.r rfl) .nil (fun _ _ h => noSome (h)) ?_
  intro w leL1 mL1 x131 hs
  have H := hs
  replace H : F_etchhouseref3_sameSteps_L1 N p0 p1 rec (mL1 + 1) x131 = some r := H
  replace hp0_0 := hp0_0.leR leL1
  replace hp1_0 := hp1_0.leR leL1
  replace leB := leB.trans leL1
  rw [F_etchhouseref3_sameSteps_L1.eq_2] at H
  show Tr _ _ (LF [(0, (.slice Ap0_0 (p0).length cp0_0)), (1, (.slice Ap1_0 (p1).length cp1_0)), (5, (iv x131))]) (LE []) _
  refine Tr.seq ?_
  refine Tr.sr ?_
  refine Tr.mv rfl rfl ?_
  refine Tr.mv rfl rfl ?_
  refine Tr.v1 rfl (run_len un_24) rfl ?_
  refine Tr.v2 rfl run_lss rfl rfl ?_
  refine Tr.nil (Tr.normThen ?_)
  refine Tr.cond rfl H (fun H => ?_) (fun H => ?_)
  ·refine Tr.skip (Tr.normThen ?_)
   refine Tr.seq ?_
   refine Tr.block ?_
   refine Tr.seq ?_
   refine Tr.drawC 11 [] [10] (by kernel_rfl) (by kernel_rfl) fun sz132 hlosz132 hEsz132 => ?_
   refine Dr.quiet 0 [(19, (.slice Ap0_0 (p0).length cp0_0))] (by kernel_rfl) rfl rfl (by kernel_rfl) ?_ rfl rfl ?_
   ·refine Tq.mv rfl rfl ?_
    exact Tq.fin (.r rfl)
   refine Dr.quiet 1 [(20, (iv x131))] (by kernel_rfl) rfl rfl (by kernel_rfl) ?_ rfl rfl ?_
   ·refine Tq.mv rfl rfl ?_
    exact Tq.fin (.r rfl)
   obtain ⟨x133, hx133, H⟩ := bnd H
   obtain ⟨hx1330, hx1331, hx1332⟩ := idx_some hx133
   obtain ⟨u134, hRu134, hoku134, hcu134⟩ := (hp0_0).el hx1332
   obtain ⟨⟨Au134_0, cu134_0⟩, ⟨Au134_1, cu134_1⟩⟩ := u134
   obtain ⟨hoku134_0, hoku134_1⟩ := TPlotStep_ok.1 hoku134
   replace hoku134_0 : Sl w.R w.W fl_TPoint Au134_0 cu134_0 x133.Points := hoku134_0
   replace hoku134_1 : Sl w.R w.W fl_TPlotStep Au134_1 cu134_1 x133.Steps := hoku134_1
   refine Dr.quiet 2 [(21, (.pointer (some ⟨adB Ap0_0, adO Ap0_0 + (x131).toNat * 8, none⟩)))] (by kernel_rfl) rfl rfl (by kernel_rfl) ?_ rfl rfl ?_
   ·refine Tq.va rfl (fun _ _ h1 h2 => run_indexAddr el_24 (h1.ev rfl) hp0_0.form (h1.ev rfl) hx1330 hx1331) ?_
    exact Tq.fin (.r rfl)
   refine Dr.quiet 3 [(22, (.agg #[(iv x133.Kind), (sv x133.Name), (iv x133.At.X), (iv x133.At.Y), (.slice Au134_0 (x133.Points).length cu134_0), (iv x133.NX), (iv x133.NY), (.slice Au134_1 (x133.Steps).length cu134_1)]))] (by kernel_rfl) rfl rfl (by kernel_rfl) ?_ rfl rfl ?_
   ·refine Tq.va rfl (fun _ _ h1 h2 => run_loadN (cs := [(iv x133.Kind), (sv x133.Name), (iv x133.At.X), (iv x133.At.Y), (.slice Au134_0 (x133.Points).length cu134_0), (iv x133.NX), (iv x133.NY), (.slice Au134_1 (x133.Steps).length cu134_1)]) ag_53 sz_53 (h1.ev rfl) (CellsAt.take (rdR hRu134 hcu134 h2) 8) rfl) ?_
    exact Tq.fin (.r rfl)
   refine Dr.quietP 4 (by kernel_rfl) rfl (wn rfl) rfl (by kernel_rfl) (fun _ _ h1 => run_move (h1.ev rfl)) rfl ?_
   refine Dr.quietP 5 (by kernel_rfl) rfl (wn rfl) rfl (by kernel_rfl) (fun _ _ h1 => run_move (h1.ev rfl)) rfl ?_
   obtain ⟨x135, hx135, H⟩ := bnd H
   obtain ⟨hx1350, hx1351, hx1352⟩ := idx_some hx135
   obtain ⟨u136, hRu136, hoku136, hcu136⟩ := (hp1_0).el hx1352
   obtain ⟨⟨Au136_0, cu136_0⟩, ⟨Au136_1, cu136_1⟩⟩ := u136
   obtain ⟨hoku136_0, hoku136_1⟩ := TPlotStep_ok.1 hoku136
   replace hoku136_0 : Sl w.R w.W fl_TPoint Au136_0 cu136_0 x135.Points := hoku136_0
   replace hoku136_1 : Sl w.R w.W fl_TPlotStep Au136_1 cu136_1 x135.Steps := hoku136_1
   refine Dr.quietP 6 (by kernel_rfl) rfl (wn rfl) rfl (by kernel_rfl) (fun _ _ h1 => run_indexAddr el_24 (h1.ev rfl) hp1_0.form (h1.ev rfl) hx1350 hx1351) rfl ?_
   refine Dr.quietZ 7 [(26, (.agg #[(iv x135.Kind), (sv x135.Name), (iv x135.At.X), (iv x135.At.Y), (.slice Au136_0 (x135.Points).length cu136_0), (iv x135.NX), (iv x135.NY), (.slice Au136_1 (x135.Steps).length cu136_1)]))] [] true (by kernel_rfl) rfl rfl (by kernel_rfl) (fun W W' h2 hsW hk => HF.keepZ (le := []) (ks := []) (s0 := sz132) true h2 hk (fun _ => hlosz132) .nil (fun b hb => hb.elim (fun ⟨_, hp, _⟩ => nomatch hp) (fun hb => .inr ⟨rfl, hb.2, (fun _ h => nomatch h)⟩)) (fun _ h => nomatch h) rfl) ?_ rfl rfl ?_
   ·refine Tq.va rfl (fun _ _ h1 h2 => run_loadN (cs := [(iv x135.Kind), (sv x135.Name), (iv x135.At.X), (iv x135.At.Y), (.slice Au136_0 (x135.Points).length cu136_0), (iv x135.NX), (iv x135.NY), (.slice Au136_1 (x135.Steps).length cu136_1)]) ag_53 sz_53 (h1.ev rfl) (CellsAt.take (rdR hRu136 hcu136 h2) 8) rfl) ?_
    exact Tq.fin (.r rfl)
   refine Dr.cut (U := Nat × Nat) [8, 9] 1 (fun u => sz132 ≤ u.1 ∧ sz132 ≤ u.2) (fun u => [(0, (.slice Ap0_0 (p0).length cp0_0)), (1, (.slice Ap1_0 (p1).length cp1_0)), (5, (iv x131)), (6, (.pointer (some ⟨u.1, 0, none⟩))), (7, (.pointer (some ⟨u.2, 0, none⟩))), (13, (iv x131)), (14, (.slice Ap0_0 (p0).length cp0_0)), (15, (iv (p0.length : Int))), (16, (.bool (decide (x131 < (p0.length : Int))))), (19, (.slice Ap0_0 (p0).length cp0_0)), (20, (iv x131)), (21, (.pointer (some ⟨adB Ap0_0, adO Ap0_0 + (x131).toNat * 8, none⟩))), (22, (.agg #[(iv x133.Kind), (sv x133.Name), (iv x133.At.X), (iv x133.At.Y), (.slice Au134_0 (x133.Points).length cu134_0), (iv x133.NX), (iv x133.NY), (.slice Au134_1 (x133.Steps).length cu134_1)])), (23, (.slice Ap1_0 (p1).length cp1_0)), (24, (iv x131)), (25, (.pointer (some ⟨adB Ap1_0, adO Ap1_0 + (x131).toNat * 8, none⟩))), (26, (.agg #[(iv x135.Kind), (sv x135.Name), (iv x135.At.X), (iv x135.At.Y), (.slice Au136_0 (x135.Points).length cu136_0), (iv x135.NX), (iv x135.NY), (.slice Au136_1 (x135.Steps).length cu136_1)]))]) (fun u => [(5, bx u.1 #[(iv 0), (sv ⟨#[]⟩), (iv 0), (iv 0), (.slice none 0 0), (iv 0), (iv 0), (.slice none 0 0)] 53), (6, bx u.2 #[(iv 0), (sv ⟨#[]⟩), (iv 0), (iv 0), (.slice none 0 0), (iv 0), (iv 0), (.slice none 0 0)] 53)]) ?_ ?_
   ·intro hC
    refine Dr.pair 8 9 (by kernel_rfl) ?_ ?_
    ·refine St.alloc 8 5 rfl (wn rfl) rfl ze_53 fun b137 hb137 => ?_
     refine Dr.one 9 (by kernel_rfl) ?_
     refine St.alloc 9 6 rfl (wn rfl) rfl ze_53 fun b138 hb138 => ?_
     exact (hC ⟨b137, b138⟩ ⟨hb137, hb138⟩).use (by kernel_rfl) (.r rfl) (.r rfl)
    ·refine St.alloc 9 6 rfl (wn rfl) rfl ze_53 fun b138 hb138 => ?_
     refine Dr.one 8 (by kernel_rfl) ?_
     refine St.alloc 8 5 rfl (wn rfl) rfl ze_53 fun b137 hb137 => ?_
     exact (hC ⟨b137, b138⟩ ⟨hb137, hb138⟩).use (by kernel_rfl) (.r rfl) (.r rfl)
   intro u hu
   obtain ⟨b137, b138⟩ := u
   obtain ⟨hb137, hb138⟩ := hu
   replace hb137 : sz132 ≤ b137 := hb137
   replace hb138 : sz132 ≤ b138 := hb138
   show Dr _ _ _ _ _ _ _ _ _ (LF [(0, (.slice Ap0_0 (p0).length cp0_0)), (1, (.slice Ap1_0 (p1).length cp1_0)), (5, (iv x131)), (6, (.pointer (some ⟨b137, 0, none⟩))), (7, (.pointer (some ⟨b138, 0, none⟩))), (13, (iv x131)), (14, (.slice Ap0_0 (p0).length cp0_0)), (15, (iv (p0.length : Int))), (16, (.bool (decide (x131 < (p0.length : Int))))), (19, (.slice Ap0_0 (p0).length cp0_0)), (20, (iv x131)), (21, (.pointer (some ⟨adB Ap0_0, adO Ap0_0 + (x131).toNat * 8, none⟩))), (22, (.agg #[(iv x133.Kind), (sv x133.Name), (iv x133.At.X), (iv x133.At.Y), (.slice Au134_0 (x133.Points).length cu134_0), (iv x133.NX), (iv x133.NY), (.slice Au134_1 (x133.Steps).length cu134_1)])), (23, (.slice Ap1_0 (p1).length cp1_0)), (24, (iv x131)), (25, (.pointer (some ⟨adB Ap1_0, adO Ap1_0 + (x131).toNat * 8, none⟩))), (26, (.agg #[(iv x135.Kind), (sv x135.Name), (iv x135.At.X), (iv x135.At.Y), (.slice Au136_0 (x135.Points).length cu136_0), (iv x135.NX), (iv x135.NY), (.slice Au136_1 (x135.Steps).length cu136_1)]))]) (LE [(5, bx b137 #[(iv 0), (sv ⟨#[]⟩), (iv 0), (iv 0), (.slice none 0 0), (iv 0), (iv 0), (.slice none 0 0)] 53), (6, bx b138 #[(iv 0), (sv ⟨#[]⟩), (iv 0), (iv 0), (.slice none 0 0), (iv 0), (iv 0), (.slice none 0 0)] 53)])
   refine Dr.one 10 (by kernel_rfl) ?_
   refine St.store 10 5 (cs := [(iv x133.Kind), (sv x133.Name), (iv x133.At.X), (iv x133.At.Y), (.slice Au134_0 (x133.Points).length cu134_0), (iv x133.NX), (iv x133.NY), (.slice Au134_1 (x133.Steps).length cu134_1)]) [(iv x133.Kind), (sv x133.Name), (iv x133.At.X), (iv x133.At.Y), (.slice Au134_0 (x133.Points).length cu134_0), (iv x133.NX), (iv x133.NY), (.slice Au134_1 (x133.Steps).length cu134_1)] rfl (wn rfl) (.inr ⟨by simp, hb137⟩) rfl rfl rfl rfl sz_53 rfl rfl rfl ?_
   refine Dr.tail (by kernel_rfl) ?_
   refine Tr.store 6 (cs := [(iv x135.Kind), (sv x135.Name), (iv x135.At.X), (iv x135.At.Y), (.slice Au136_0 (x135.Points).length cu136_0), (iv x135.NX), (iv x135.NY), (.slice Au136_1 (x135.Steps).length cu136_1)]) [(iv x135.Kind), (sv x135.Name), (iv x135.At.X), (iv x135.At.Y), (.slice Au136_0 (x135.Points).length cu136_0), (iv x135.NX), (iv x135.NY), (.slice Au136_1 (x135.Steps).length cu136_1)] (wn rfl) rfl rfl rfl rfl sz_53 rfl rfl rfl ?_
   refine Tr.nil (Tr.normThen ?_)
   refine Tr.sr ?_
   refine Tr.v1 rfl (run_fieldAddr fo_53_0) rfl ?_
   refine Tr.va rfl (fun _ _ h1 h2 => run_load1 ag_3 (h1.ev rfl) (rdb h2 (vs := [(iv x133.Kind), (sv x133.Name), (iv x133.At.X), (iv x133.At.Y), (.slice Au134_0 (x133.Points).length cu134_0), (iv x133.NX), (iv x133.NY), (.slice Au134_1 (x133.Steps).length cu134_1)]) (k := 5) rfl 0) rfl) ?_
   refine Tr.v1 rfl (run_fieldAddr fo_53_0) rfl ?_
   refine Tr.va rfl (fun _ _ h1 h2 => run_load1 ag_3 (h1.ev rfl) (rdb h2 (vs := [(iv x135.Kind), (sv x135.Name), (iv x135.At.X), (iv x135.At.Y), (.slice Au136_0 (x135.Points).length cu136_0), (iv x135.NX), (iv x135.NY), (.slice Au136_1 (x135.Steps).length cu136_1)]) (k := 6) rfl 0) rfl) ?_
   refine Tr.v2 rfl run_neq rfl rfl ?_
   refine Tr.mv rfl rfl ?_
   refine Tr.mid0 6 [(0, (.slice Ap0_0 (p0).length cp0_0)), (1, (.slice Ap1_0 (p1).length cp1_0)), (5, (iv x131)), (6, (.pointer (some ⟨b137, 0, none⟩))), (7, (.pointer (some ⟨b138, 0, none⟩))), (38, (.bool ((x133.Kind != x135.Kind) || (!sEq x133.Name x135.Name))))] [(5, bx b137 #[(iv x133.Kind), (sv x133.Name), (iv x133.At.X), (iv x133.At.Y), (.slice Au134_0 (x133.Points).length cu134_0), (iv x133.NX), (iv x133.NY), (.slice Au134_1 (x133.Steps).length cu134_1)] 53), (6, bx b138 #[(iv x135.Kind), (sv x135.Name), (iv x135.At.X), (iv x135.At.Y), (.slice Au136_0 (x135.Points).length cu136_0), (iv x135.NX), (iv x135.NY), (.slice Au136_1 (x135.Steps).length cu136_1)] 53)] ?_ ?_
   ·cases hg144 : (x133.Kind != x135.Kind)
    ·refine Tr.w1 (wg rfl rfl rfl) rfl (run_fieldAddr fo_53_1) rfl ?_
     refine Tr.val (wg rfl rfl rfl) rfl (fun _ _ h1 h2 => run_load1 ag_9 (h1.ev rfl) (rdb h2 (vs := [(iv x133.Kind), (sv x133.Name), (iv x133.At.X), (iv x133.At.Y), (.slice Au134_0 (x133.Points).length cu134_0), (iv x133.NX), (iv x133.NY), (.slice Au134_1 (x133.Steps).length cu134_1)]) (k := 5) rfl 1) rfl) ?_
     refine Tr.w1 (wg rfl rfl rfl) rfl (run_fieldAddr fo_53_1) rfl ?_
     refine Tr.val (wg rfl rfl rfl) rfl (fun _ _ h1 h2 => run_load1 ag_9 (h1.ev rfl) (rdb h2 (vs := [(iv x135.Kind), (sv x135.Name), (iv x135.At.X), (iv x135.At.Y), (.slice Au136_0 (x135.Points).length cu136_0), (iv x135.NX), (iv x135.NY), (.slice Au136_1 (x135.Steps).length cu136_1)]) (k := 6) rfl 1) rfl) ?_
     refine Tr.w2 (wg rfl rfl rfl) rfl run_neqS rfl rfl ?_
     refine Tr.v2 rfl run_pickF rfl rfl ?_
     exact Tr.nil (Tr.fin0 (.r rfl) (.r rfl))
    ·refine Tr.ps ?_
     refine Tr.ps ?_
     refine Tr.ps ?_
     refine Tr.ps ?_
     refine Tr.ps ?_
     refine Tr.v2 rfl run_pickT rfl rfl ?_
     exact Tr.nil (Tr.fin0 (.r rfl) (.r rfl))
   ·show Tr _ _ (LF [(0, (.slice Ap0_0 (p0).length cp0_0)), (1, (.slice Ap1_0 (p1).length cp1_0)), (5, (iv x131)), (6, (.pointer (some ⟨b137, 0, none⟩))), (7, (.pointer (some ⟨b138, 0, none⟩))), (38, (.bool ((x133.Kind != x135.Kind) || (!sEq x133.Name x135.Name))))]) (LE [(5, bx b137 #[(iv x133.Kind), (sv x133.Name), (iv x133.At.X), (iv x133.At.Y), (.slice Au134_0 (x133.Points).length cu134_0), (iv x133.NX), (iv x133.NY), (.slice Au134_1 (x133.Steps).length cu134_1)] 53), (6, bx b138 #[(iv x135.Kind), (sv x135.Name), (iv x135.At.X), (iv x135.At.Y), (.slice Au136_0 (x135.Points).length cu136_0), (iv x135.NX), (iv x135.NY), (.slice Au136_1 (x135.Steps).length cu136_1)] 53)]) _
    refine Tr.mv rfl rfl ?_
    refine Tr.mid0 6 [(0, (.slice Ap0_0 (p0).length cp0_0)), (1, (.slice Ap1_0 (p1).length cp1_0)), (5, (iv x131)), (6, (.pointer (some ⟨b137, 0, none⟩))), (7, (.pointer (some ⟨b138, 0, none⟩))), (45, (.bool (((x133.Kind != x135.Kind) || (!sEq x133.Name x135.Name)) || (!(eqTPoint x133.At x135.At)))))] [(5, bx b137 #[(iv x133.Kind), (sv x133.Name), (iv x133.At.X), (iv x133.At.Y), (.slice Au134_0 (x133.Points).length cu134_0), (iv x133.NX), (iv x133.NY), (.slice Au134_1 (x133.Steps).length cu134_1)] 53), (6, bx b138 #[(iv x135.Kind), (sv x135.Name), (iv x135.At.X), (iv x135.At.Y), (.slice Au136_0 (x135.Points).length cu136_0), (iv x135.NX), (iv x135.NY), (.slice Au136_1 (x135.Steps).length cu136_1)] 53)] ?_ ?_
    ·cases hg144 : ((x133.Kind != x135.Kind) || (!sEq x133.Name x135.Name))
     ·refine Tr.w1 (wg rfl rfl rfl) rfl (run_fieldAddr fo_53_2) rfl ?_
      refine Tr.val (wg rfl rfl rfl) rfl (fun _ _ h1 h2 => run_loadN (cs := [(iv x133.At.X), (iv x133.At.Y)]) ag_47 sz_47 (h1.ev rfl) (CellsAt.take (rdb h2 (vs := [(iv x133.Kind), (sv x133.Name), (iv x133.At.X), (iv x133.At.Y), (.slice Au134_0 (x133.Points).length cu134_0), (iv x133.NX), (iv x133.NY), (.slice Au134_1 (x133.Steps).length cu134_1)]) (k := 5) rfl 2) 2) rfl) ?_
      refine Tr.w1 (wg rfl rfl rfl) rfl (run_fieldAddr fo_53_2) rfl ?_
      refine Tr.val (wg rfl rfl rfl) rfl (fun _ _ h1 h2 => run_loadN (cs := [(iv x135.At.X), (iv x135.At.Y)]) ag_47 sz_47 (h1.ev rfl) (CellsAt.take (rdb h2 (vs := [(iv x135.Kind), (sv x135.Name), (iv x135.At.X), (iv x135.At.Y), (.slice Au136_0 (x135.Points).length cu136_0), (iv x135.NX), (iv x135.NY), (.slice Au136_1 (x135.Steps).length cu136_1)]) (k := 6) rfl 2) 2) rfl) ?_
      refine Tr.w2 (wg rfl rfl rfl) rfl (run_neq_47 x133.At x135.At) rfl rfl ?_
      refine Tr.v2 rfl run_pickF rfl rfl ?_
      exact Tr.nil (Tr.fin0 (.r rfl) (.r rfl))
     ·refine Tr.ps ?_
      refine Tr.ps ?_
      refine Tr.ps ?_
      refine Tr.ps ?_
      refine Tr.ps ?_
      refine Tr.v2 rfl run_pickT rfl rfl ?_
      exact Tr.nil (Tr.fin0 (.r rfl) (.r rfl))
    ·show Tr _ _ (LF [(0, (.slice Ap0_0 (p0).length cp0_0)), (1, (.slice Ap1_0 (p1).length cp1_0)), (5, (iv x131)), (6, (.pointer (some ⟨b137, 0, none⟩))), (7, (.pointer (some ⟨b138, 0, none⟩))), (45, (.bool (((x133.Kind != x135.Kind) || (!sEq x133.Name x135.Name)) || (!(eqTPoint x133.At x135.At)))))]) (LE [(5, bx b137 #[(iv x133.Kind), (sv x133.Name), (iv x133.At.X), (iv x133.At.Y), (.slice Au134_0 (x133.Points).length cu134_0), (iv x133.NX), (iv x133.NY), (.slice Au134_1 (x133.Steps).length cu134_1)] 53), (6, bx b138 #[(iv x135.Kind), (sv x135.Name), (iv x135.At.X), (iv x135.At.Y), (.slice Au136_0 (x135.Points).length cu136_0), (iv x135.NX), (iv x135.NY), (.slice Au136_1 (x135.Steps).length cu136_1)] 53)]) _
     refine Tr.mv rfl rfl ?_
     refine Tr.mid0 6 [(0, (.slice Ap0_0 (p0).length cp0_0)), (1, (.slice Ap1_0 (p1).length cp1_0)), (5, (iv x131)), (6, (.pointer (some ⟨b137, 0, none⟩))), (7, (.pointer (some ⟨b138, 0, none⟩))), (52, (.bool ((((x133.Kind != x135.Kind) || (!sEq x133.Name x135.Name)) || (!(eqTPoint x133.At x135.At))) || (x133.NX != x135.NX))))] [(5, bx b137 #[(iv x133.Kind), (sv x133.Name), (iv x133.At.X), (iv x133.At.Y), (.slice Au134_0 (x133.Points).length cu134_0), (iv x133.NX), (iv x133.NY), (.slice Au134_1 (x133.Steps).length cu134_1)] 53), (6, bx b138 #[(iv x135.Kind), (sv x135.Name), (iv x135.At.X), (iv x135.At.Y), (.slice Au136_0 (x135.Points).length cu136_0), (iv x135.NX), (iv x135.NY), (.slice Au136_1 (x135.Steps).length cu136_1)] 53)] ?_ ?_
     ·cases hg144 : (((x133.Kind != x135.Kind) || (!sEq x133.Name x135.Name)) || (!(eqTPoint x133.At x135.At)))
      ·refine Tr.w1 (wg rfl rfl rfl) rfl (run_fieldAddr fo_53_4) rfl ?_
       refine Tr.val (wg rfl rfl rfl) rfl (fun _ _ h1 h2 => run_load1 ag_3 (h1.ev rfl) (rdb h2 (vs := [(iv x133.Kind), (sv x133.Name), (iv x133.At.X), (iv x133.At.Y), (.slice Au134_0 (x133.Points).length cu134_0), (iv x133.NX), (iv x133.NY), (.slice Au134_1 (x133.Steps).length cu134_1)]) (k := 5) rfl 5) rfl) ?_
       refine Tr.w1 (wg rfl rfl rfl) rfl (run_fieldAddr fo_53_4) rfl ?_
       refine Tr.val (wg rfl rfl rfl) rfl (fun _ _ h1 h2 => run_load1 ag_3 (h1.ev rfl) (rdb h2 (vs := [(iv x135.Kind), (sv x135.Name), (iv x135.At.X), (iv x135.At.Y), (.slice Au136_0 (x135.Points).length cu136_0), (iv x135.NX), (iv x135.NY), (.slice Au136_1 (x135.Steps).length cu136_1)]) (k := 6) rfl 5) rfl) ?_
       refine Tr.w2 (wg rfl rfl rfl) rfl run_neq rfl rfl ?_
       refine Tr.v2 rfl run_pickF rfl rfl ?_
       exact Tr.nil (Tr.fin0 (.r rfl) (.r rfl))
      ·refine Tr.ps ?_
       refine Tr.ps ?_
       refine Tr.ps ?_
       refine Tr.ps ?_
       refine Tr.ps ?_
       refine Tr.v2 rfl run_pickT rfl rfl ?_
       exact Tr.nil (Tr.fin0 (.r rfl) (.r rfl))
     ·show Tr _ _ (LF [(0, (.slice Ap0_0 (p0).length cp0_0)), (1, (.slice Ap1_0 (p1).length cp1_0)), (5, (iv x131)), (6, (.pointer (some ⟨b137, 0, none⟩))), (7, (.pointer (some ⟨b138, 0, none⟩))), (52, (.bool ((((x133.Kind != x135.Kind) || (!sEq x133.Name x135.Name)) || (!(eqTPoint x133.At x135.At))) || (x133.NX != x135.NX))))]) (LE [(5, bx b137 #[(iv x133.Kind), (sv x133.Name), (iv x133.At.X), (iv x133.At.Y), (.slice Au134_0 (x133.Points).length cu134_0), (iv x133.NX), (iv x133.NY), (.slice Au134_1 (x133.Steps).length cu134_1)] 53), (6, bx b138 #[(iv x135.Kind), (sv x135.Name), (iv x135.At.X), (iv x135.At.Y), (.slice Au136_0 (x135.Points).length cu136_0), (iv x135.NX), (iv x135.NY), (.slice Au136_1 (x135.Steps).length cu136_1)] 53)]) _
      refine Tr.mv rfl rfl ?_
      refine Tr.mid0 6 [(0, (.slice Ap0_0 (p0).length cp0_0)), (1, (.slice Ap1_0 (p1).length cp1_0)), (5, (iv x131)), (6, (.pointer (some ⟨b137, 0, none⟩))), (7, (.pointer (some ⟨b138, 0, none⟩))), (59, (.bool (((((x133.Kind != x135.Kind) || (!sEq x133.Name x135.Name)) || (!(eqTPoint x133.At x135.At))) || (x133.NX != x135.NX)) || (x133.NY != x135.NY))))] [(5, bx b137 #[(iv x133.Kind), (sv x133.Name), (iv x133.At.X), (iv x133.At.Y), (.slice Au134_0 (x133.Points).length cu134_0), (iv x133.NX), (iv x133.NY), (.slice Au134_1 (x133.Steps).length cu134_1)] 53), (6, bx b138 #[(iv x135.Kind), (sv x135.Name), (iv x135.At.X), (iv x135.At.Y), (.slice Au136_0 (x135.Points).length cu136_0), (iv x135.NX), (iv x135.NY), (.slice Au136_1 (x135.Steps).length cu136_1)] 53)] ?_ ?_
      ·cases hg144 : ((((x133.Kind != x135.Kind) || (!sEq x133.Name x135.Name)) || (!(eqTPoint x133.At x135.At))) || (x133.NX != x135.NX))
       ·refine Tr.w1 (wg rfl rfl rfl) rfl (run_fieldAddr fo_53_5) rfl ?_
        refine Tr.val (wg rfl rfl rfl) rfl (fun _ _ h1 h2 => run_load1 ag_3 (h1.ev rfl) (rdb h2 (vs := [(iv x133.Kind), (sv x133.Name), (iv x133.At.X), (iv x133.At.Y), (.slice Au134_0 (x133.Points).length cu134_0), (iv x133.NX), (iv x133.NY), (.slice Au134_1 (x133.Steps).length cu134_1)]) (k := 5) rfl 6) rfl) ?_
        refine Tr.w1 (wg rfl rfl rfl) rfl (run_fieldAddr fo_53_5) rfl ?_
        refine Tr.val (wg rfl rfl rfl) rfl (fun _ _ h1 h2 => run_load1 ag_3 (h1.ev rfl) (rdb h2 (vs := [(iv x135.Kind), (sv x135.Name), (iv x135.At.X), (iv x135.At.Y), (.slice Au136_0 (x135.Points).length cu136_0), (iv x135.NX), (iv x135.NY), (.slice Au136_1 (x135.Steps).length cu136_1)]) (k := 6) rfl 6) rfl) ?_
        refine Tr.w2 (wg rfl rfl rfl) rfl run_neq rfl rfl ?_
        refine Tr.v2 rfl run_pickF rfl rfl ?_
        exact Tr.nil (Tr.fin0 (.r rfl) (.r rfl))
       ·refine Tr.ps ?_
        refine Tr.ps ?_
        refine Tr.ps ?_
        refine Tr.ps ?_
        refine Tr.ps ?_
        refine Tr.v2 rfl run_pickT rfl rfl ?_
        exact Tr.nil (Tr.fin0 (.r rfl) (.r rfl))
      ·show Tr _ _ (LF [(0, (.slice Ap0_0 (p0).length cp0_0)), (1, (.slice Ap1_0 (p1).length cp1_0)), (5, (iv x131)), (6, (.pointer (some ⟨b137, 0, none⟩))), (7, (.pointer (some ⟨b138, 0, none⟩))), (59, (.bool (((((x133.Kind != x135.Kind) || (!sEq x133.Name x135.Name)) || (!(eqTPoint x133.At x135.At))) || (x133.NX != x135.NX)) || (x133.NY != x135.NY))))]) (LE [(5, bx b137 #[(iv x133.Kind), (sv x133.Name), (iv x133.At.X), (iv x133.At.Y), (.slice Au134_0 (x133.Points).length cu134_0), (iv x133.NX), (iv x133.NY), (.slice Au134_1 (x133.Steps).length cu134_1)] 53), (6, bx b138 #[(iv x135.Kind), (sv x135.Name), (iv x135.At.X), (iv x135.At.Y), (.slice Au136_0 (x135.Points).length cu136_0), (iv x135.NX), (iv x135.NY), (.slice Au136_1 (x135.Steps).length cu136_1)] 53)]) _
       refine Tr.mv rfl rfl ?_
       obtain ⟨g140, hg140, H⟩ := bnd H
       refine Tr.mid0 7 [(0, (.slice Ap0_0 (p0).length cp0_0)), (1, (.slice Ap1_0 (p1).length cp1_0)), (5, (iv x131)), (6, (.pointer (some ⟨b137, 0, none⟩))), (7, (.pointer (some ⟨b138, 0, none⟩))), (67, (.bool g140))] [(5, bx b137 #[(iv x133.Kind), (sv x133.Name), (iv x133.At.X), (iv x133.At.Y), (.slice Au134_0 (x133.Points).length cu134_0), (iv x133.NX), (iv x133.NY), (.slice Au134_1 (x133.Steps).length cu134_1)] 53), (6, bx b138 #[(iv x135.Kind), (sv x135.Name), (iv x135.At.X), (iv x135.At.Y), (.slice Au136_0 (x135.Points).length cu136_0), (iv x135.NX), (iv x135.NY), (.slice Au136_1 (x135.Steps).length cu136_1)] 53)] ?_ ?_
       ·cases hg144 : (((((x133.Kind != x135.Kind) || (!sEq x133.Name x135.Name)) || (!(eqTPoint x133.At x135.At))) || (x133.NX != x135.NX)) || (x133.NY != x135.NY))
        ·rw [hg144] at hg140
         rw [if_neg (by decide)] at hg140
         have H := hg140
         refine Tr.w1 (wg rfl rfl rfl) rfl (run_fieldAddr fo_53_3) rfl ?_
         refine Tr.val (wg rfl rfl rfl) rfl (fun _ _ h1 h2 => run_load1 ag_43 (h1.ev rfl) (rdb h2 (vs := [(iv x133.Kind), (sv x133.Name), (iv x133.At.X), (iv x133.At.Y), (.slice Au134_0 (x133.Points).length cu134_0), (iv x133.NX), (iv x133.NY), (.slice Au134_1 (x133.Steps).length cu134_1)]) (k := 5) rfl 4) rfl) ?_
         refine Tr.w1 (wg rfl rfl rfl) rfl (run_fieldAddr fo_53_3) rfl ?_
         refine Tr.val (wg rfl rfl rfl) rfl (fun _ _ h1 h2 => run_load1 ag_43 (h1.ev rfl) (rdb h2 (vs := [(iv x135.Kind), (sv x135.Name), (iv x135.At.X), (iv x135.At.Y), (.slice Au136_0 (x135.Points).length cu136_0), (iv x135.NX), (iv x135.NY), (.slice Au136_1 (x135.Steps).length cu136_1)]) (k := 6) rfl 4) rfl) ?_
         obtain ⟨y141, hy141, H⟩ := bnd H
         refine Tr.call0 (r := (.bool y141)) (wg rfl rfl rfl) rfl Tryz.call39 (evl_cons rfl (evl_cons rfl evl_nil)) (fun W hW => F_etchhouseref3_samePoints_ok N x133.Points Au134_0 cu134_0 (hoku134_0.ext hW.extAll) x135.Points Au136_0 cu136_0 (hoku136_0.ext hW.extAll) y141 hy141 (HF.start _)) ?_
         refine Tr.w1 (wg rfl rfl rfl) rfl run_not rfl ?_
         refine Tr.v2 rfl run_pickF rfl rfl ?_
         obtain rfl := Option.some.inj H
         exact Tr.nil (Tr.fin0 (.r rfl) (.r rfl))
        ·rw [hg144] at hg140
         rw [if_pos rfl] at hg140
         have H := hg140
         obtain rfl := Option.some.inj H
         refine Tr.ps ?_
         refine Tr.ps ?_
         refine Tr.ps ?_
         refine Tr.ps ?_
         refine Tr.ps ?_
         refine Tr.ps ?_
         refine Tr.v2 rfl run_pickT rfl rfl ?_
         exact Tr.nil (Tr.fin0 (.r rfl) (.r rfl))
       ·show Tr _ _ (LF [(0, (.slice Ap0_0 (p0).length cp0_0)), (1, (.slice Ap1_0 (p1).length cp1_0)), (5, (iv x131)), (6, (.pointer (some ⟨b137, 0, none⟩))), (7, (.pointer (some ⟨b138, 0, none⟩))), (67, (.bool g140))]) (LE [(5, bx b137 #[(iv x133.Kind), (sv x133.Name), (iv x133.At.X), (iv x133.At.Y), (.slice Au134_0 (x133.Points).length cu134_0), (iv x133.NX), (iv x133.NY), (.slice Au134_1 (x133.Steps).length cu134_1)] 53), (6, bx b138 #[(iv x135.Kind), (sv x135.Name), (iv x135.At.X), (iv x135.At.Y), (.slice Au136_0 (x135.Points).length cu136_0), (iv x135.NX), (iv x135.NY), (.slice Au136_1 (x135.Steps).length cu136_1)] 53)]) _
        refine Tr.mv rfl rfl ?_
        obtain ⟨g143, hg143, H⟩ := bnd H
        refine Tr.mid0 7 [(0, (.slice Ap0_0 (p0).length cp0_0)), (1, (.slice Ap1_0 (p1).length cp1_0)), (5, (iv x131)), (75, (.bool g143))] [(5, bx b137 #[(iv x133.Kind), (sv x133.Name), (iv x133.At.X), (iv x133.At.Y), (.slice Au134_0 (x133.Points).length cu134_0), (iv x133.NX), (iv x133.NY), (.slice Au134_1 (x133.Steps).length cu134_1)] 53), (6, bx b138 #[(iv x135.Kind), (sv x135.Name), (iv x135.At.X), (iv x135.At.Y), (.slice Au136_0 (x135.Points).length cu136_0), (iv x135.NX), (iv x135.NY), (.slice Au136_1 (x135.Steps).length cu136_1)] 53)] ?_ ?_
        ·cases hg144 : g140
         ·rw [hg144] at hg143
          rw [if_neg (by decide)] at hg143
          have H := hg143
          refine Tr.w1 (wg rfl rfl rfl) rfl (run_fieldAddr fo_53_6) rfl ?_
          refine Tr.val (wg rfl rfl rfl) rfl (fun _ _ h1 h2 => run_load1 ag_24 (h1.ev rfl) (rdb h2 (vs := [(iv x133.Kind), (sv x133.Name), (iv x133.At.X), (iv x133.At.Y), (.slice Au134_0 (x133.Points).length cu134_0), (iv x133.NX), (iv x133.NY), (.slice Au134_1 (x133.Steps).length cu134_1)]) (k := 5) rfl 7) rfl) ?_
          refine Tr.w1 (wg rfl rfl rfl) rfl (run_fieldAddr fo_53_6) rfl ?_
          refine Tr.val (wg rfl rfl rfl) rfl (fun _ _ h1 h2 => run_load1 ag_24 (h1.ev rfl) (rdb h2 (vs := [(iv x135.Kind), (sv x135.Name), (iv x135.At.X), (iv x135.At.Y), (.slice Au136_0 (x135.Points).length cu136_0), (iv x135.NX), (iv x135.NY), (.slice Au136_1 (x135.Steps).length cu136_1)]) (k := 6) rfl 7) rfl) ?_
          obtain ⟨y144, hy144, H⟩ := bnd H
          refine Tr.call0 (r := (.bool y144)) (wg rfl rfl rfl) rfl Tryz.call21 (evl_cons rfl (evl_cons rfl evl_nil)) (fun W hW => hrec x133.Steps Au134_1 cu134_1 (hoku134_1.ext hW.extAll) x135.Steps Au136_1 cu136_1 (hoku136_1.ext hW.extAll) y144 hy144 (HF.start _)) ?_
          refine Tr.w1 (wg rfl rfl rfl) rfl run_not rfl ?_
          refine Tr.v2 rfl run_pickF rfl rfl ?_
          obtain rfl := Option.some.inj H
          exact Tr.nil (Tr.fin0 (.r rfl) (.r rfl))
         ·rw [hg144] at hg143
          rw [if_pos rfl] at hg143
          have H := hg143
          obtain rfl := Option.some.inj H
          refine Tr.ps ?_
          refine Tr.ps ?_
          refine Tr.ps ?_
          refine Tr.ps ?_
          refine Tr.ps ?_
          refine Tr.ps ?_
          refine Tr.v2 rfl run_pickT rfl rfl ?_
          exact Tr.nil (Tr.fin0 (.r rfl) (.r rfl))
        ·show Tr _ _ (LF [(0, (.slice Ap0_0 (p0).length cp0_0)), (1, (.slice Ap1_0 (p1).length cp1_0)), (5, (iv x131)), (75, (.bool g143))]) (LE [(5, bx b137 #[(iv x133.Kind), (sv x133.Name), (iv x133.At.X), (iv x133.At.Y), (.slice Au134_0 (x133.Points).length cu134_0), (iv x133.NX), (iv x133.NY), (.slice Au134_1 (x133.Steps).length cu134_1)] 53), (6, bx b138 #[(iv x135.Kind), (sv x135.Name), (iv x135.At.X), (iv x135.At.Y), (.slice Au136_0 (x135.Points).length cu136_0), (iv x135.NX), (iv x135.NY), (.slice Au136_1 (x135.Steps).length cu136_1)] 53)]) _
         refine Tr.nil (Tr.normThen ?_)
         refine Tr.cond rfl H (fun H => ?_) (fun H => ?_)
         ·refine Tr.sr ?_
          refine Tr.asg rfl rfl ?_
          refine Tr.nil (Tr.normThen ?_)
          refine Tr.ret (Tr.retBlock (Tr.retThen (Tr.retThen (Tr.retBlock (Tr.retThen ?_)))))
          obtain rfl := Option.some.inj H
          exact Tr.out (m := [(.bool false)]) [] (res_tmp rfl res_nil) (fun W hW => ⟨rfl, hW.low leB⟩)
         ·refine Tr.skip (Tr.normBlock (Tr.normThen ?_))
          refine Tr.region ?_
          refine Tr.mv rfl rfl ?_
          refine Tr.v2 rfl run_add rfl rfl ?_
          refine Tr.asg rfl rfl ?_
          refine Tr.nil ?_
          exact Tr.backThen leL1 (w64 (x131 + 1)) H (.r rfl) .nil
  ·refine Tr.exit (Tr.exitThen (Tr.exitThen (Tr.exitBlock (Tr.normThen ?_))))
   refine Tr.sr ?_
   refine Tr.asg rfl rfl ?_
   refine Tr.nil (Tr.normThen ?_)
   refine Tr.ret ?_
   obtain rfl := Option.some.inj H
   exact Tr.out (m := [(.bool true)]) [] (res_tmp rfl res_nil) (fun W hW => ⟨rfl, hW.low leB⟩)
theorem F_etchhouseref3_sameSteps_ok : ∀ (N : Nat) {w : Bs} (p0 : (List TPlotStep)) (Ap0_0 : Option Addr) (cp0_0 : Nat) (hp0_0 : Sl w.R w.W fl_TPlotStep Ap0_0 cp0_0 p0) (p1 : (List TPlotStep)) (Ap1_0 : Option Addr) (cp1_0 : Nat) (hp1_0 : Sl w.R w.W fl_TPlotStep Ap1_0 cp1_0 p1) (r : Bool) (H : F_etchhouseref3_sameSteps N p0 p1 = some r) (hE : HF w w.W E0), Calls Tryz.prog 21 [(.slice Ap0_0 (p0).length cp0_0), (.slice Ap1_0 (p1).length cp1_0)].toArray w.W fun e W' => e = .returned (.bool r) ∧ HF w W' E0
 | 0 => by intros; rename_i H _; cases H
 | N + 1 => F_etchhouseref3_sameSteps_b_ok N (F_etchhouseref3_sameSteps N) (F_etchhouseref3_sameSteps_ok N)

end Go.Proofs.YtcjeebkoafonpaaGreatDoor
