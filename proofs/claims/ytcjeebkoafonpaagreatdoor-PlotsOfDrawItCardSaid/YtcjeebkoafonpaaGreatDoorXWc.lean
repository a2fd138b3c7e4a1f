/- The walks: each function computes its plain function. -/
import Derived.Test.YtcjeebkoafonpaaGreatDoorXWb
namespace Go.Proofs.YtcjeebkoafonpaaGreatDoor
open Go.RowKit
set_option maxRecDepth 100000
set_option maxHeartbeats 1000000
theorem F_plot_Of_ok (N : Nat) {w : Bs} (p0 : (List TRect)) (Ap0_0 : Option Addr) (cp0_0 : Nat) (hp0_0 : Sl w.R w.W fl_TRect Ap0_0 cp0_0 p0) (r : (TPlot × Int)) (H : F_plot_Of N p0 = some r) (hE : HF w w.W (LEn [emp, emp])) : Calls Tryz.prog 5 [(.slice Ap0_0 (p0).length cp0_0)].toArray w.W fun e W' => ∃ (w' : Bs) (u : (Option Addr × Nat) × (Option Addr × Nat)), w.Le w' ∧ e = .returned (.tuple #[(.agg #[(iv r.1.Unit), (.slice u.1.1 (r.1.Tools).length u.1.2), (.slice u.2.1 (r.1.Steps).length u.2.2)]), (iv r.2)]) ∧ (SlF u.1.1 (r.1.Tools).length u.1.2 ∧ SlF u.2.1 (r.1.Steps).length u.2.2) ∧ HF w' W' (LEn [ow u.1.1 u.1.2 58 fl_TPlotTool r.1.Tools, ow u.2.1 u.2.2 53 fl_TPlotStep r.1.Steps]) := by
 unfold F_plot_Of at H
 have leB := Bs.Le.refl w
 refine Tr.enter (n := 106) Tryz.func5 rfl rfl rfl hE ?_
 refine Tr.sr ?_
 refine Tr.alloc 1 (wn rfl) rfl ze_26 fun b100 => ?_
 refine Tr.asg rfl rfl ?_
 refine Tr.nil (Tr.normThen ?_)
 refine Tr.sr ?_
 refine Tr.mv rfl rfl ?_
 obtain ⟨y101, hy101, H⟩ := bnd H
 refine Tr.callG [2] [emp] (U := (Option Addr × Nat)) (fun u => (.tuple #[(.slice u.1 (y101.1).length u.2), (iv y101.2)])) (fun O W u => SlF u.1 (y101.1).length u.2) (fun u => [ow u.1 u.2 43 fl_LTPoint y101.1]) rfl (pk_cons rfl pk_nil) (fun _ => rfl) (wn rfl) rfl Tryz.call12 (evl_cons rfl evl_nil) (fun W hW hp hE => F_shape_Outlines_ok N p0 Ap0_0 cp0_0 (hp0_0.ext (hW.extS hp)) y101 hy101 hE) ?_
 intro w u le102 hu
 obtain ⟨Ay101_0, cy101_0⟩ := u
 have gy101_0 := hu
 replace hp0_0 := hp0_0.leR le102
 replace leB := leB.trans le102
 have hgy101_0 : SlF Ay101_0 (y101.1).length cy101_0 := gy101_0 --@phi
 show Tr _ _ (uf _ 21 (.tuple #[(.slice Ay101_0 (y101.1).length cy101_0), (iv y101.2)])) (up _ 2 (ow Ay101_0 cy101_0 43 fl_LTPoint y101.1)) _
 refine Tr.mv rfl rfl ?_
 refine Tr.va rfl (fun _ _ h1 h2 => run_extract (h1.ev rfl) rfl) ?_
 refine Tr.va rfl (fun _ _ h1 h2 => run_extract (h1.ev rfl) rfl) ?_
 refine Tr.asg rfl rfl ?_
 refine Tr.asg rfl rfl ?_
 refine Tr.nil (Tr.normThen ?_)
 refine Tr.seq ?_
 refine Tr.sr ?_
 refine Tr.mv rfl rfl ?_
 refine Tr.v2 rfl run_neq rfl rfl ?_
 refine Tr.nil (Tr.normThen ?_)
 refine Tr.cond rfl H (fun H => ?_) (fun H => ?_)
 ·refine Tr.sr ?_
  refine Tr.build (vs := []) (cs := [(iv 0), (.slice none 0 0), (.slice none 0 0)]) (wn rfl) rfl evs_nil (by kernel_rfl) ?_
  refine Tr.mv rfl rfl ?_
  refine Tr.store 1 (cs := [(iv 0), (.slice none 0 0), (.slice none 0 0)]) [(iv 0), (.slice none 0 0), (.slice none 0 0)] (wn rfl) rfl rfl rfl rfl sz_26 rfl rfl rfl ?_
  refine Tr.asg rfl rfl ?_
  refine Tr.nil (Tr.normThen ?_)
  refine Tr.ret (Tr.retThen ?_)
  obtain rfl := Option.some.inj H
  refine Tr.nilOwn 3 58 fl_TPlotTool ?_
  refine Tr.nilOwn 4 53 fl_TPlotStep ?_
  exact Tr.out (m := [(.agg #[(iv 0), (.slice none 0 0), (.slice none 0 0)]), (iv y101.2)]) [1] (res_cell rfl rfl ag_26 sz_26 (res_tmp rfl res_nil)) (fun W hW => ⟨w, ((none, 0), (none, 0)), leB, rfl, ⟨slf_nil, slf_nil⟩, hW.pick (ks := [3, 4]) (by decide) (pk_cons rfl (pk_cons rfl pk_nil))⟩)
 ·refine Tr.skip (Tr.normThen ?_)
  refine Tr.sr ?_
  refine Tr.asg rfl rfl ?_
  refine Tr.nilOwn 5 45 fl_TRow ?_
  show Tr _ _ (uf _ 6 (.slice none (([] : List TRow)).length 0)) _ _
  refine Tr.nil (Tr.normThen ?_)
  refine Tr.seq ?_
  refine Tr.sr ?_
  refine Tr.mv rfl rfl ?_
  refine Tr.v1 rfl (run_len un_39) rfl ?_
  refine Tr.mv rfl rfl ?_
  refine Tr.nil (Tr.normThen ?_)
  refine Tr.block ?_
  refine Tr.loop (σ := (List (List TPoint)) × Nat × (List TRow) × (Option Addr) × Nat) (fun m w s => m = s.1.length + 1 ∧ s.1 = List.drop s.2.1 y101.1 ∧ s.2.1 ≤ y101.1.length ∧ F_plot_Of_L3 N s.1 s.2.1 s.2.2.1 = some r ∧ SlF s.2.2.2.1 (s.2.2.1).length s.2.2.2.2) (fun s => [(2, (.pointer (some ⟨b100, 0, none⟩))), (6, (.slice s.2.2.2.1 (s.2.2.1).length s.2.2.2.2)), (28, (.slice Ay101_0 (y101.1).length cy101_0)), (29, (iv (y101.1.length : Int))), (30, (iv (s.2.1 : Int)))]) (fun s => [(1, bx b100 #[(iv 0), (.slice none 0 0), (.slice none 0 0)] 26), (2, ow Ay101_0 cy101_0 43 fl_LTPoint y101.1), (5, ow s.2.2.2.1 s.2.2.2.2 45 fl_TRow s.2.2.1)]) (y101.1.length + 1) (y101.1, 0, ([] : List TRow), none, 0) ⟨rfl, rfl, Nat.zero_le _, H, slf_nil⟩ (.r rfl) (.r rfl) (fun _ _ h => absurd h.1 (by simp)) ?_
  intro w leL3 m s hs
  obtain ⟨restL3, iL3, l161, Al161, cl161⟩ := s
  obtain ⟨hmL3, hdL3, hiL3, H, hl161⟩ := hs
  replace hdL3 : restL3 = List.drop iL3 y101.1 := hdL3
  replace H : F_plot_Of_L3 N restL3 iL3 l161 = some r := H
  replace hmL3 : m + 1 = restL3.length + 1 := hmL3
  replace leB := leB.trans leL3
  replace hl161 : SlF Al161 (l161).length cl161 := hl161
  obtain rfl : m = restL3.length := by omega
  clear hmL3
  show Tr _ _ (LF [(2, (.pointer (some ⟨b100, 0, none⟩))), (6, (.slice Al161 (l161).length cl161)), (28, (.slice Ay101_0 (y101.1).length cy101_0)), (29, (iv (y101.1.length : Int))), (30, (iv (iL3 : Int)))]) (LE [(1, bx b100 #[(iv 0), (.slice none 0 0), (.slice none 0 0)] 26), (2, ow Ay101_0 cy101_0 43 fl_LTPoint y101.1), (5, ow Al161 cl161 45 fl_TRow l161)]) _
  cases restL3 with
  | nil =>
   rw [F_plot_Of_L3.eq_1] at H
   refine Tr.sr ?_
   refine Tr.v2 rfl run_lss rfl rfl ?_
   refine Tr.nil (Tr.normThen ?_)
   refine Tr.seq ?_
   refine Tr.condF rfl (range_nil hdL3) ?_
   refine Tr.exit (Tr.exitThen (Tr.exitThen (Tr.exitBlock (Tr.normThen ?_))))
   refine Tr.sr ?_
   refine Tr.alloc 22 (wn rfl) rfl ze_48 fun b162 => ?_
   refine Tr.store 22 (cs := [(.func (.func 13) #[] #[])]) [(.func (.func 13) #[] #[])] (wn rfl) rfl rfl rfl rfl sz_48 rfl rfl rfl ?_
   refine Tr.nil (Tr.normThen ?_)
   refine Tr.sr ?_
   refine Tr.mv rfl rfl ?_
   refine Tr.mkFunc (vs := [(.pointer (some ⟨b162, 0, none⟩))]) (wn rfl) rfl (evl_cons rfl evl_nil) ?_
   obtain ⟨y163, hy163, H⟩ := bnd H
   refine Tr.callG [5] [ow Al161 cl161 45 fl_TRow l161] (U := Unit) (fun u => (.tuple #[])) (fun O W u => (y163).length = (l161).length) (fun u => [ow Al161 cl161 45 fl_TRow y163]) rfl (pk_cons rfl pk_nil) (fun _ => rfl) (wn rfl) rfl Tryz.call14 (evl_cons rfl (evl_cons rfl evl_nil)) (fun W hW hp hE => F_slices_SortStableFunc_row__Of_2__Of_1_ok N l161 Al161 cl161 b162 (hW.boxS (k := 22) rfl hp rfl) (hW.boxC (k := 22) rfl) y163 hy163 hE) ?_
   intro w u le164 hu
   have gky163_0 := hu
   replace leB := leB.trans le164
   replace leL3 := leL3.trans le164
   have hgky163_0 : (y163).length = (l161).length := gky163_0 --@phi
   have hfky163_0 : SlF Al161 (y163).length cl161 := by rw [hgky163_0]; exact hl161
   show Tr _ _ (uf _ 74 (.tuple #[])) (up _ 5 (ow Al161 cl161 45 fl_TRow y163)) _
   refine Tr.sel (lf := [(2, (.pointer (some ⟨b100, 0, none⟩))), (6, (.slice Al161 (y163).length cl161)), (13, (.pointer (some ⟨b162, 0, none⟩))), (28, (.slice Ay101_0 (y101.1).length cy101_0)), (29, (iv (y101.1.length : Int))), (30, (iv (iL3 : Int))), (31, (.bool (decide ((iL3 : Int) < (y101.1.length : Int))))), (72, (.slice Al161 (y163).length cl161)), (73, (.func (.func 15) #[] #[(.pointer (some ⟨b162, 0, none⟩))])), (74, (.tuple #[]))]) (le := [(1, bx b100 #[(iv 0), (.slice none 0 0), (.slice none 0 0)] 26), (2, ow Ay101_0 cy101_0 43 fl_LTPoint y101.1), (5, ow Al161 cl161 45 fl_TRow y163), (22, bx b162 #[(.func (.func 13) #[] #[])] 48)]) (.cons rfl (.cons (slenV rfl (by rw [hgky163_0])) (.cons rfl (.cons rfl (.cons rfl (.cons rfl (.cons rfl (.cons (slenV rfl (by rw [hgky163_0])) (.r rfl))))))))) (.r rfl) ?_
   refine Tr.nil (Tr.normThen ?_)
   refine Tr.sr ?_
   refine Tr.build (vs := [(0, (iv 1))]) (cs := [(iv 1), (.slice none 0 0), (.slice none 0 0)]) (wn rfl) rfl (evs_cons rfl evs_nil) (by kernel_rfl) ?_
   refine Tr.alloc 23 (wn rfl) rfl ze_26 fun b165 => ?_
   refine Tr.store 23 (cs := [(iv 1), (.slice none 0 0), (.slice none 0 0)]) [(iv 1), (.slice none 0 0), (.slice none 0 0)] (wn rfl) rfl rfl rfl rfl sz_26 rfl rfl rfl ?_
   refine Tr.nil (Tr.normThen ?_)
   refine Tr.sr ?_
   refine Tr.asg rfl rfl ?_
   refine Tr.nil (Tr.normThen ?_)
   refine Tr.seq ?_
   refine Tr.seq ?_
   refine Tr.freeze 5 rfl fun w le167 hz166 => ?_
   replace leB := leB.trans le167
   replace leL3 := leL3.trans le167
   refine Tr.region ?_
   refine Tr.mv rfl rfl ?_
   refine Tr.v1 rfl (run_len un_42) rfl ?_
   refine Tr.mv rfl rfl ?_
   refine Tr.nil (Tr.normThen ?_)
   refine Tr.block ?_
   refine Tr.nilOwn 38 53 fl_TPlotStep ?_
   refine Tr.loop (σ := (List TRow) × Nat × (List TPlotStep) × Int × (Option Addr) × Nat) (fun m w s => m = s.1.length + 1 ∧ s.1 = List.drop s.2.1 y163 ∧ s.2.1 ≤ y163.length ∧ F_plot_Of_L8 s.1 s.2.1 s.2.2.1 s.2.2.2.1 = some r ∧ SlF s.2.2.2.2.1 (s.2.2.1).length s.2.2.2.2.2) (fun s => [(2, (.pointer (some ⟨b100, 0, none⟩))), (14, (.pointer (some ⟨b165, 0, none⟩))), (15, (iv s.2.2.2.1)), (76, (.slice Al161 (y163).length cl161)), (77, (iv (y163.length : Int))), (78, (iv (s.2.1 : Int)))]) (fun s => [(1, bx b100 #[(iv 0), (.slice none 0 0), (.slice none 0 0)] 26), (23, bx b165 #[(iv 1), (.slice none 0 0), (.slice s.2.2.2.2.1 (s.2.2.1).length s.2.2.2.2.2)] 26), (38, ow s.2.2.2.2.1 s.2.2.2.2.2 53 fl_TPlotStep s.2.2.1)]) (y163.length + 1) (y163, 0, ([] : List TPlotStep), 1, none, 0) ⟨rfl, rfl, Nat.zero_le _, H, slf_nil⟩ (.r rfl) (.r rfl) (fun _ _ h => absurd h.1 (by simp)) ?_
   intro w leL8 m s hs
   obtain ⟨restL8, iL8, l209, x210, Al209, cl209⟩ := s
   obtain ⟨hmL8, hdL8, hiL8, H, hl209⟩ := hs
   replace hdL8 : restL8 = List.drop iL8 y163 := hdL8
   replace H : F_plot_Of_L8 restL8 iL8 l209 x210 = some r := H
   replace hmL8 : m + 1 = restL8.length + 1 := hmL8
   replace hz166 := hz166.le leL8
   replace leB := leB.trans leL8
   replace leL3 := leL3.trans leL8
   replace hl209 : SlF Al209 (l209).length cl209 := hl209
   obtain rfl : m = restL8.length := by omega
   clear hmL8
   show Tr _ _ (LF [(2, (.pointer (some ⟨b100, 0, none⟩))), (14, (.pointer (some ⟨b165, 0, none⟩))), (15, (iv x210)), (76, (.slice Al161 (y163).length cl161)), (77, (iv (y163.length : Int))), (78, (iv (iL8 : Int)))]) (LE [(1, bx b100 #[(iv 0), (.slice none 0 0), (.slice none 0 0)] 26), (23, bx b165 #[(iv 1), (.slice none 0 0), (.slice Al209 (l209).length cl209)] 26), (38, ow Al209 cl209 53 fl_TPlotStep l209)]) _
   cases restL8 with
   | nil =>
    rw [F_plot_Of_L8.eq_1] at H
    refine Tr.sr ?_
    refine Tr.v2 rfl run_lss rfl rfl ?_
    refine Tr.nil (Tr.normThen ?_)
    refine Tr.seq ?_
    refine Tr.condF rfl (range_nil hdL8) ?_
    refine Tr.exit (Tr.exitThen (Tr.exitThen (Tr.exitBlock (Tr.normThen ?_))))
    refine Tr.sr ?_
    refine Tr.va rfl (fun _ _ h1 h2 => run_loadN (cs := [(iv 1), (.slice none 0 0), (.slice Al209 (l209).length cl209)]) ag_26 sz_26 (h1.ev rfl) (CellsAt.take (rdb h2 (vs := [(iv 1), (.slice none 0 0), (.slice Al209 (l209).length cl209)]) (k := 23) rfl 0) 3) rfl) ?_
    refine Tr.store 1 (cs := [(iv 1), (.slice none 0 0), (.slice Al209 (l209).length cl209)]) [(iv 1), (.slice none 0 0), (.slice Al209 (l209).length cl209)] (wn rfl) rfl rfl rfl rfl sz_26 rfl rfl rfl ?_
    refine Tr.asg rfl rfl ?_
    refine Tr.nil (Tr.normThen ?_)
    refine Tr.ret ?_
    obtain rfl := Option.some.inj H
    refine Tr.nilOwn 39 58 fl_TPlotTool ?_
    exact Tr.out (m := [(.agg #[(iv 1), (.slice none 0 0), (.slice Al209 (l209).length cl209)]), (iv 0)]) [1] (res_cell rfl rfl ag_26 sz_26 (res_tmp rfl res_nil)) (fun W hW => ⟨w, ((none, 0), (Al209, cl209)), leB, rfl, ⟨slf_nil, hl209⟩, hW.pick (ks := [39, 38]) (by decide) (pk_cons rfl (pk_cons rfl pk_nil))⟩)
   | cons xL8 restL8 =>
    rw [F_plot_Of_L8.eq_2] at H
    refine Tr.sr ?_
    refine Tr.v2 rfl run_lss rfl rfl ?_
    refine Tr.nil (Tr.normThen ?_)
    refine Tr.seq ?_
    refine Tr.condT rfl (range_on hdL8) ?_
    refine Tr.skip (Tr.normThen ?_)
    refine Tr.seq ?_
    refine Tr.block ?_
    refine Tr.sr ?_
    obtain ⟨u211, hRu211, hoku211, hcu211⟩ := (hz166).el (range_at hdL8)
    obtain ⟨Au211_0, cu211_0⟩ := u211
    have hoku211_0 := hoku211
    replace hoku211_0 : Sl w.O w.W fl_TPoint Au211_0 cu211_0 xL8.points := hoku211_0
    replace hRu211 : w.R (adB Al161) := Or.inl hRu211
    refine Tr.va rfl (fun _ _ h1 h2 => run_indexAddr el_42 (h1.ev rfl) hz166.form (h1.ev rfl) (Int.natCast_nonneg _) (range_lt hdL8)) ?_
    refine Tr.va rfl (fun _ _ h1 h2 => run_loadN (cs := [(.slice Au211_0 (xL8.points).length cu211_0), (iv xL8.area)]) ag_45 sz_45 (h1.ev rfl) (CellsAt.take (rdR hRu211 hcu211 h2) 2) rfl) ?_
    refine Tr.alloc 40 (wn rfl) rfl ze_45 fun b212 => ?_
    refine Tr.store 40 (cs := [(.slice Au211_0 (xL8.points).length cu211_0), (iv xL8.area)]) [(.slice Au211_0 (xL8.points).length cu211_0), (iv xL8.area)] (wn rfl) rfl rfl rfl rfl sz_45 rfl rfl rfl ?_
    refine Tr.nil (Tr.normThen ?_)
    refine Tr.sr ?_
    refine Tr.asg rfl rfl ?_
    refine Tr.nil (Tr.normThen ?_)
    have leJ214 := Bs.Le.refl w
    refine Tr.cutJ (σ := Int) (fun w s => F_plot_Of_J10 l209 x210 (F_plot_Of_L8 restL8 (iL8 + 1)) xL8 s = some r) (fun s => [(2, (.pointer (some ⟨b100, 0, none⟩))), (14, (.pointer (some ⟨b165, 0, none⟩))), (15, (iv x210)), (17, (.pointer (some ⟨b212, 0, none⟩))), (18, (iv s)), (76, (.slice Al161 (y163).length cl161)), (77, (iv (y163.length : Int))), (78, (iv (iL8 : Int)))]) (fun s => [(1, bx b100 #[(iv 0), (.slice none 0 0), (.slice none 0 0)] 26), (23, bx b165 #[(iv 1), (.slice none 0 0), (.slice Al209 (l209).length cl209)] 26), (38, ow Al209 cl209 53 fl_TPlotStep l209), (40, bx b212 #[(.slice Au211_0 (xL8.points).length cu211_0), (iv xL8.area)] 45)]) ?_ ?_
    ·refine Tr.sr ?_
     refine Tr.v1 rfl (run_fieldAddr fo_45_1) rfl ?_
     refine Tr.va rfl (fun _ _ h1 h2 => run_load1 ag_3 (h1.ev rfl) (rdb h2 (vs := [(.slice Au211_0 (xL8.points).length cu211_0), (iv xL8.area)]) (k := 40) rfl 1) rfl) ?_
     refine Tr.v2 rfl run_lss rfl rfl ?_
     refine Tr.nil (Tr.normThen ?_)
     refine Tr.cond rfl H (fun H => ?_) (fun H => ?_)
     ·refine Tr.region ?_
      refine Tr.asg rfl rfl ?_
      refine Tr.nil ?_
      exact Tr.backThen leJ214 2 H (.r rfl) (.r rfl)
     ·refine Tr.skip ?_
      exact Tr.backThen leJ214 1 H (.r rfl) (.r rfl)
    ·intro w x213 hlJ215 hs
     have H := hs
     replace H : F_plot_Of_J10 l209 x210 (F_plot_Of_L8 restL8 (iL8 + 1)) xL8 x213 = some r := H
     replace hoku211_0 := hoku211_0.le hlJ215
     replace hz166 := hz166.le hlJ215
     replace leB := leB.trans hlJ215
     replace leL3 := leL3.trans hlJ215
     replace leL8 := leL8.trans hlJ215
     unfold F_plot_Of_J10 at H
     show Tr _ _ (LF [(2, (.pointer (some ⟨b100, 0, none⟩))), (14, (.pointer (some ⟨b165, 0, none⟩))), (15, (iv x210)), (17, (.pointer (some ⟨b212, 0, none⟩))), (18, (iv x213)), (76, (.slice Al161 (y163).length cl161)), (77, (iv (y163.length : Int))), (78, (iv (iL8 : Int)))]) (LE [(1, bx b100 #[(iv 0), (.slice none 0 0), (.slice none 0 0)] 26), (23, bx b165 #[(iv 1), (.slice none 0 0), (.slice Al209 (l209).length cl209)] 26), (38, ow Al209 cl209 53 fl_TPlotStep l209), (40, bx b212 #[(.slice Au211_0 (xL8.points).length cu211_0), (iv xL8.area)] 45)]) _
     have leJ220 := Bs.Le.refl w
     refine Tr.cutJ (σ := (List TPlotStep) × Int × (Option Addr) × Nat) (fun w s => F_plot_Of_J9 (F_plot_Of_L8 restL8 (iL8 + 1)) xL8 s.1 s.2.1 = some r ∧ SlF s.2.2.1 (s.1).length s.2.2.2) (fun s => [(2, (.pointer (some ⟨b100, 0, none⟩))), (14, (.pointer (some ⟨b165, 0, none⟩))), (15, (iv s.2.1)), (17, (.pointer (some ⟨b212, 0, none⟩))), (76, (.slice Al161 (y163).length cl161)), (77, (iv (y163.length : Int))), (78, (iv (iL8 : Int)))]) (fun s => [(1, bx b100 #[(iv 0), (.slice none 0 0), (.slice none 0 0)] 26), (23, bx b165 #[(iv 1), (.slice none 0 0), (.slice s.2.2.1 (s.1).length s.2.2.2)] 26), (38, ow s.2.2.1 s.2.2.2 53 fl_TPlotStep s.1), (40, bx b212 #[(.slice Au211_0 (xL8.points).length cu211_0), (iv xL8.area)] 45)]) ?_ ?_
     ·refine Tr.sr ?_
      refine Tr.mv rfl rfl ?_
      refine Tr.mv rfl rfl ?_
      refine Tr.v2 rfl run_neq rfl rfl ?_
      refine Tr.nil (Tr.normThen ?_)
      refine Tr.cond rfl H (fun H => ?_) (fun H => ?_)
      ·refine Tr.region ?_
       refine Tr.v1 rfl (run_fieldAddr fo_26_2) rfl ?_
       refine Tr.va rfl (fun _ _ h1 h2 => run_load1 ag_24 (h1.ev rfl) (rdb h2 (vs := [(iv 1), (.slice none 0 0), (.slice Al209 (l209).length cl209)]) (k := 23) rfl 2) rfl) ?_
       refine Tr.mv rfl rfl ?_
       refine Tr.build (vs := [(0, (iv x213))]) (cs := [(iv x213), (sv ⟨#[]⟩), (iv 0), (iv 0), (.slice none 0 0), (iv 0), (iv 0), (.slice none 0 0)]) (wn rfl) rfl (evs_cons rfl evs_nil) (by kernel_rfl) ?_
       refine Tr.buildSlice 43 (e := 53) (vs := [(0, (.agg #[(iv x213), (sv ⟨#[]⟩), (iv 0), (iv 0), (.slice none 0 0), (iv 0), (iv 0), (.slice none 0 0)]))]) (cs := [(iv x213), (sv ⟨#[]⟩), (iv 0), (iv 0), (.slice none 0 0), (iv 0), (iv 0), (.slice none 0 0)]) (wn rfl) rfl (evs_cons rfl evs_nil) (by kernel_rfl) fun b224 => ?_
       obtain ⟨l225, hl225, H⟩ := bnd H
       refine Tr.append 38 (t := fl_TPlotStep) (l := l209) (l2 := [(TPlotStep.mk x213 (⟨#[]⟩) (TPoint.mk 0 0) [] 0 0 [])]) (wn rfl) rfl rfl rfl rfl (fun W hW => ⟨[[(iv x213), (sv ⟨#[]⟩), (iv 0), (iv 0), (.slice none 0 0), (iv 0), (iv 0), (.slice none 0 0)]], (.cons ⟨((none, 0), (none, 0)), (TPlotStep_ok.2 ⟨(Sl.nil _ _ _), (Sl.nil _ _ _)⟩), rfl⟩ .nil), rdb hW (vs := [(iv x213), (sv ⟨#[]⟩), (iv 0), (iv 0), (.slice none 0 0), (iv 0), (iv 0), (.slice none 0 0)]) (k := 43) rfl 0⟩) un_24 sz_53 zl_53 (by decide) by_53 rfl hl225 fun Al225 cl225 hAl225 => ?_
       refine Tr.mv rfl rfl ?_
       refine Tr.v1 rfl (run_fieldAddr fo_26_2) rfl ?_
       refine Tr.store 23 (cs := [(.slice Al225 (l225).length cl225)]) [(iv 1), (.slice none 0 0), (.slice Al225 (l225).length cl225)] (wn rfl) rfl rfl rfl rfl sz_24 rfl rfl rfl ?_
       refine Tr.asg rfl rfl ?_
       refine Tr.nil ?_
       exact Tr.backThen leJ220 (l225, x213, Al225, cl225) ⟨H, hAl225⟩ (.r rfl) (.r rfl)
      ·refine Tr.skip ?_
       exact Tr.backThen leJ220 (l209, x210, Al209, cl209) ⟨H, hl209⟩ (.r rfl) (.r rfl)
     ·intro w s hlJ221 hs
      obtain ⟨l218, x219, Al218, cl218⟩ := s
      obtain ⟨H, hl218⟩ := hs
      replace H : F_plot_Of_J9 (F_plot_Of_L8 restL8 (iL8 + 1)) xL8 l218 x219 = some r := H
      replace hoku211_0 := hoku211_0.le hlJ221
      replace hz166 := hz166.le hlJ221
      replace leB := leB.trans hlJ221
      replace leL3 := leL3.trans hlJ221
      replace leL8 := leL8.trans hlJ221
      replace hl218 : SlF Al218 (l218).length cl218 := hl218
      unfold F_plot_Of_J9 at H
      show Tr _ _ (LF [(2, (.pointer (some ⟨b100, 0, none⟩))), (14, (.pointer (some ⟨b165, 0, none⟩))), (15, (iv x219)), (17, (.pointer (some ⟨b212, 0, none⟩))), (76, (.slice Al161 (y163).length cl161)), (77, (iv (y163.length : Int))), (78, (iv (iL8 : Int)))]) (LE [(1, bx b100 #[(iv 0), (.slice none 0 0), (.slice none 0 0)] 26), (23, bx b165 #[(iv 1), (.slice none 0 0), (.slice Al218 (l218).length cl218)] 26), (38, ow Al218 cl218 53 fl_TPlotStep l218), (40, bx b212 #[(.slice Au211_0 (xL8.points).length cu211_0), (iv xL8.area)] 45)]) _
      refine Tr.region ?_
      refine Tr.v1 rfl (run_fieldAddr fo_26_2) rfl ?_
      refine Tr.va rfl (fun _ _ h1 h2 => run_load1 ag_24 (h1.ev rfl) (rdb h2 (vs := [(iv 1), (.slice none 0 0), (.slice Al218 (l218).length cl218)]) (k := 23) rfl 2) rfl) ?_
      refine Tr.v1 rfl (run_fieldAddr fo_45_0) rfl ?_
      refine Tr.va rfl (fun _ _ h1 h2 => run_load1 ag_43 (h1.ev rfl) (rdb h2 (vs := [(.slice Au211_0 (xL8.points).length cu211_0), (iv xL8.area)]) (k := 40) rfl 0) rfl) ?_
      refine Tr.build (vs := [(0, (iv 7)), (3, (.slice Au211_0 (xL8.points).length cu211_0))]) (cs := [(iv 7), (sv ⟨#[]⟩), (iv 0), (iv 0), (.slice Au211_0 (xL8.points).length cu211_0), (iv 0), (iv 0), (.slice none 0 0)]) (wn rfl) rfl (evs_cons rfl (evs_cons rfl evs_nil)) (by kernel_rfl) ?_
      refine Tr.buildSlice 42 (e := 53) (vs := [(0, (.agg #[(iv 7), (sv ⟨#[]⟩), (iv 0), (iv 0), (.slice Au211_0 (xL8.points).length cu211_0), (iv 0), (iv 0), (.slice none 0 0)]))]) (cs := [(iv 7), (sv ⟨#[]⟩), (iv 0), (iv 0), (.slice Au211_0 (xL8.points).length cu211_0), (iv 0), (iv 0), (.slice none 0 0)]) (wn rfl) rfl (evs_cons rfl evs_nil) (by kernel_rfl) fun b222 => ?_
      obtain ⟨l223, hl223, H⟩ := bnd H
      refine Tr.append 38 (t := fl_TPlotStep) (l := l218) (l2 := [(TPlotStep.mk 7 (⟨#[]⟩) (TPoint.mk 0 0) xL8.points 0 0 [])]) (wn rfl) rfl rfl rfl rfl (fun W hW => ⟨[[(iv 7), (sv ⟨#[]⟩), (iv 0), (iv 0), (.slice Au211_0 (xL8.points).length cu211_0), (iv 0), (iv 0), (.slice none 0 0)]], (.cons ⟨((Au211_0, cu211_0), (none, 0)), (TPlotStep_ok.2 ⟨hoku211_0, (Sl.nil _ _ _)⟩), rfl⟩ .nil), rdb hW (vs := [(iv 7), (sv ⟨#[]⟩), (iv 0), (iv 0), (.slice Au211_0 (xL8.points).length cu211_0), (iv 0), (iv 0), (.slice none 0 0)]) (k := 42) rfl 0⟩) un_24 sz_53 zl_53 (by decide) by_53 rfl hl223 fun Al223 cl223 hAl223 => ?_
      refine Tr.v1 rfl (run_fieldAddr fo_26_2) rfl ?_
      refine Tr.store 23 (cs := [(.slice Al223 (l223).length cl223)]) [(iv 1), (.slice none 0 0), (.slice Al223 (l223).length cl223)] (wn rfl) rfl rfl rfl rfl sz_24 rfl rfl rfl ?_
      refine Tr.nil (Tr.normBlock (Tr.normThen ?_))
      refine Tr.region ?_
      refine Tr.v2 rfl run_add rfl rfl ?_
      refine Tr.mv rfl rfl ?_
      refine Tr.nil ?_
      exact Tr.backThen leL8 (restL8, (iL8 + 1), l223, x219, Al223, cl223) ⟨rfl, range_tl hdL8, range_lt hdL8, H, hAl223⟩ (.cons rfl (.cons rfl (.cons rfl (.cons rfl (.cons rfl (.cons (congrArg (fun z => some (Value.int .i64 z)) (range_up hdL8 hz166.form)) .nil)))))) (.r rfl)
  | cons xL3 restL3 =>
   rw [F_plot_Of_L3.eq_2] at H
   refine Tr.sr ?_
   refine Tr.v2 rfl run_lss rfl rfl ?_
   refine Tr.nil (Tr.normThen ?_)
   refine Tr.seq ?_
   refine Tr.condT rfl (range_on hdL3) ?_
   refine Tr.skip (Tr.normThen ?_)
   refine Tr.seq ?_
   refine Tr.block ?_
   refine Tr.sr ?_
   refine Tr.va rfl (fun _ _ h1 h2 => run_indexAddr el_39 (h1.ev rfl) hgy101_0 (h1.ev rfl) (Int.natCast_nonneg _) (range_lt hdL3)) ?_
   refine Tr.valE (U := (fl_LTPoint).Ad) (fun u => (fl_LTPoint).ok w.O w.W u xL3) (fun u => (.slice u.1 (xL3).length u.2)) (wn rfl) rfl (ldN (κ := 2) (t := fl_LTPoint) (V := fun u => (.slice u.1 (xL3).length u.2)) rfl (range_at hdL3) (fun _ _ u h1 hc => run_load1 ag_43 (h1.ev rfl) hc rfl)) ?_
   intro u226 hoku226
   obtain ⟨Au226_0, cu226_0⟩ := u226
   have hoku226_0 := hoku226
   replace hoku226_0 : Sl w.O w.W fl_TPoint Au226_0 cu226_0 xL3 := hoku226_0
   show Tr _ _ (uf _ 33 (.slice Au226_0 (xL3).length cu226_0)) _ _
   refine Tr.asg rfl rfl ?_
   refine Tr.nil (Tr.normThen ?_)
   refine Tr.sr ?_
   refine Tr.mv rfl rfl ?_
   refine Tr.build (vs := [(0, (.slice Au226_0 (xL3).length cu226_0))]) (cs := [(.slice Au226_0 (xL3).length cu226_0), (iv 0)]) (wn rfl) rfl (evs_cons rfl evs_nil) (by kernel_rfl) ?_
   refine Tr.alloc 44 (wn rfl) rfl ze_45 fun b227 => ?_
   refine Tr.store 44 (cs := [(.slice Au226_0 (xL3).length cu226_0), (iv 0)]) [(.slice Au226_0 (xL3).length cu226_0), (iv 0)] (wn rfl) rfl rfl rfl rfl sz_45 rfl rfl rfl ?_
   refine Tr.nil (Tr.normThen ?_)
   refine Tr.seq ?_
   refine Tr.sr ?_
   refine Tr.mv rfl rfl ?_
   refine Tr.v1 rfl (run_len un_43) rfl ?_
   refine Tr.mv rfl rfl ?_
   refine Tr.nil (Tr.normThen ?_)
   refine Tr.block ?_
   refine Tr.loop (σ := (List TPoint) × Nat × Int) (fun m w s => m = s.1.length + 1 ∧ s.1 = List.drop s.2.1 xL3 ∧ s.2.1 ≤ xL3.length ∧ F_plot_Of_L11 l161 (F_plot_Of_L3 N restL3 (iL3 + 1)) xL3 s.1 s.2.1 s.2.2 = some r) (fun s => [(2, (.pointer (some ⟨b100, 0, none⟩))), (6, (.slice Al161 (l161).length cl161)), (8, (.slice Au226_0 (xL3).length cu226_0)), (9, (.pointer (some ⟨b227, 0, none⟩))), (28, (.slice Ay101_0 (y101.1).length cy101_0)), (29, (iv (y101.1.length : Int))), (30, (iv (iL3 : Int))), (36, (.slice Au226_0 (xL3).length cu226_0)), (37, (iv (xL3.length : Int))), (38, (iv (s.2.1 : Int)))]) (fun s => [(1, bx b100 #[(iv 0), (.slice none 0 0), (.slice none 0 0)] 26), (2, ow Ay101_0 cy101_0 43 fl_LTPoint y101.1), (5, ow Al161 cl161 45 fl_TRow l161), (44, bx b227 #[(.slice Au226_0 (xL3).length cu226_0), (iv s.2.2)] 45)]) (xL3.length + 1) (xL3, 0, 0) ⟨rfl, rfl, Nat.zero_le _, H⟩ (.r rfl) (.r rfl) (fun _ _ h => absurd h.1 (by simp)) ?_
   intro w leL11 m s hs
   obtain ⟨restL11, iL11, x244⟩ := s
   obtain ⟨hmL11, hdL11, hiL11, H⟩ := hs
   replace hdL11 : restL11 = List.drop iL11 xL3 := hdL11
   replace H : F_plot_Of_L11 l161 (F_plot_Of_L3 N restL3 (iL3 + 1)) xL3 restL11 iL11 x244 = some r := H
   replace hmL11 : m + 1 = restL11.length + 1 := hmL11
   replace hoku226_0 := hoku226_0.le leL11
   replace leB := leB.trans leL11
   replace leL3 := leL3.trans leL11
   obtain rfl : m = restL11.length := by omega
   clear hmL11
   show Tr _ _ (LF [(2, (.pointer (some ⟨b100, 0, none⟩))), (6, (.slice Al161 (l161).length cl161)), (8, (.slice Au226_0 (xL3).length cu226_0)), (9, (.pointer (some ⟨b227, 0, none⟩))), (28, (.slice Ay101_0 (y101.1).length cy101_0)), (29, (iv (y101.1.length : Int))), (30, (iv (iL3 : Int))), (36, (.slice Au226_0 (xL3).length cu226_0)), (37, (iv (xL3.length : Int))), (38, (iv (iL11 : Int)))]) (LE [(1, bx b100 #[(iv 0), (.slice none 0 0), (.slice none 0 0)] 26), (2, ow Ay101_0 cy101_0 43 fl_LTPoint y101.1), (5, ow Al161 cl161 45 fl_TRow l161), (44, bx b227 #[(.slice Au226_0 (xL3).length cu226_0), (iv x244)] 45)]) _
   cases restL11 with
   | nil =>
    rw [F_plot_Of_L11.eq_1] at H
    refine Tr.sr ?_
    refine Tr.v2 rfl run_lss rfl rfl ?_
    refine Tr.nil (Tr.normThen ?_)
    refine Tr.seq ?_
    refine Tr.condF rfl (range_nil hdL11) ?_
    refine Tr.exit (Tr.exitThen (Tr.exitThen (Tr.exitBlock (Tr.normThen ?_))))
    refine Tr.region ?_
    refine Tr.mv rfl rfl ?_
    refine Tr.va rfl (fun _ _ h1 h2 => run_loadN (cs := [(.slice Au226_0 (xL3).length cu226_0), (iv x244)]) ag_45 sz_45 (h1.ev rfl) (CellsAt.take (rdb h2 (vs := [(.slice Au226_0 (xL3).length cu226_0), (iv x244)]) (k := 44) rfl 0) 2) rfl) ?_
    refine Tr.buildSlice 49 (e := 45) (vs := [(0, (.agg #[(.slice Au226_0 (xL3).length cu226_0), (iv x244)]))]) (cs := [(.slice Au226_0 (xL3).length cu226_0), (iv x244)]) (wn rfl) rfl (evs_cons rfl evs_nil) (by kernel_rfl) fun b245 => ?_
    obtain ⟨l246, hl246, H⟩ := bnd H
    refine Tr.append 5 (t := fl_TRow) (l := l161) (l2 := [(TRow.mk xL3 x244)]) (wn rfl) rfl rfl rfl rfl (fun W hW => ⟨[[(.slice Au226_0 (xL3).length cu226_0), (iv x244)]], (.cons ⟨(Au226_0, cu226_0), hoku226_0, rfl⟩ .nil), rdb hW (vs := [(.slice Au226_0 (xL3).length cu226_0), (iv x244)]) (k := 49) rfl 0⟩) un_42 sz_45 zl_45 (by decide) by_45 rfl hl246 fun Al246 cl246 hAl246 => ?_
    refine Tr.asg rfl rfl ?_
    refine Tr.nil (Tr.normBlock (Tr.normThen ?_))
    refine Tr.region ?_
    refine Tr.v2 rfl run_add rfl rfl ?_
    refine Tr.mv rfl rfl ?_
    refine Tr.nil ?_
    exact Tr.backThen leL3 (restL3, (iL3 + 1), l246, Al246, cl246) ⟨rfl, range_tl hdL3, range_lt hdL3, H, hAl246⟩ (.cons rfl (.cons rfl (.cons rfl (.cons rfl (.cons (congrArg (fun z => some (Value.int .i64 z)) (range_up hdL3 hgy101_0)) .nil))))) (.r rfl)
   | cons xL11 restL11 =>
    rw [F_plot_Of_L11.eq_2] at H
    refine Tr.sr ?_
    refine Tr.v2 rfl run_lss rfl rfl ?_
    refine Tr.nil (Tr.normThen ?_)
    refine Tr.seq ?_
    refine Tr.condT rfl (range_on hdL11) ?_
    refine Tr.skip (Tr.normThen ?_)
    refine Tr.seq ?_
    refine Tr.block ?_
    refine Tr.sr ?_
    refine Tr.mv rfl rfl ?_
    refine Tr.va rfl (fun _ _ h1 h2 => run_indexAddr el_43 (h1.ev rfl) hoku226_0.form (h1.ev rfl) (Int.natCast_nonneg _) (range_lt hdL11)) ?_
    refine Tr.va rfl (fun _ _ h1 h2 => run_loadN (cs := [(iv xL11.X), (iv xL11.Y)]) ag_47 sz_47 (h1.ev rfl) (CellsAt.take (rdF ef_TPoint (hoku226_0.rl) (range_at hdL11) h2) 2) rfl) ?_
    refine Tr.alloc 50 (wn rfl) rfl ze_47 fun b247 => ?_
    refine Tr.asg rfl rfl ?_
    refine Tr.store 50 (cs := [(iv xL11.X), (iv xL11.Y)]) [(iv xL11.X), (iv xL11.Y)] (wn rfl) rfl rfl rfl rfl sz_47 rfl rfl rfl ?_
    refine Tr.nil (Tr.normThen ?_)
    refine Tr.sr ?_
    refine Tr.mv rfl rfl ?_
    refine Tr.mv rfl rfl ?_
    refine Tr.v2 rfl run_add rfl rfl ?_
    refine Tr.mv rfl rfl ?_
    refine Tr.v1 rfl (run_len un_43) rfl ?_
    obtain ⟨q248, hq248, H⟩ := bnd H
    refine Tr.va rfl (fun _ _ h1 h2 => run_md (h1.ev rfl) (h1.ev rfl) hq248) ?_
    obtain ⟨x249, hx249, H⟩ := bnd H
    obtain ⟨hx2490, hx2491, hx2492⟩ := idx_some hx249
    refine Tr.va rfl (fun _ _ h1 h2 => run_indexAddr el_43 (h1.ev rfl) hoku226_0.form (h1.ev rfl) hx2490 hx2491) ?_
    refine Tr.va rfl (fun _ _ h1 h2 => run_loadN (cs := [(iv x249.X), (iv x249.Y)]) ag_47 sz_47 (h1.ev rfl) (CellsAt.take (rdF ef_TPoint (hoku226_0.rl) hx2492 h2) 2) rfl) ?_
    refine Tr.alloc 51 (wn rfl) rfl ze_47 fun b250 => ?_
    refine Tr.store 51 (cs := [(iv x249.X), (iv x249.Y)]) [(iv x249.X), (iv x249.Y)] (wn rfl) rfl rfl rfl rfl sz_47 rfl rfl rfl ?_
    refine Tr.nil (Tr.normThen ?_)
    refine Tr.region ?_
    refine Tr.v1 rfl (run_fieldAddr fo_45_1) rfl ?_
    refine Tr.va rfl (fun _ _ h1 h2 => run_load1 ag_3 (h1.ev rfl) (rdb h2 (vs := [(.slice Au226_0 (xL3).length cu226_0), (iv x244)]) (k := 44) rfl 1) rfl) ?_
    refine Tr.v1 rfl (run_fieldAddr fo_47_0) rfl ?_
    refine Tr.va rfl (fun _ _ h1 h2 => run_load1 ag_3 (h1.ev rfl) (rdb h2 (vs := [(iv xL11.X), (iv xL11.Y)]) (k := 50) rfl 0) rfl) ?_
    refine Tr.v1 rfl (run_fieldAddr fo_47_1) rfl ?_
    refine Tr.va rfl (fun _ _ h1 h2 => run_load1 ag_3 (h1.ev rfl) (rdb h2 (vs := [(iv x249.X), (iv x249.Y)]) (k := 51) rfl 1) rfl) ?_
    refine Tr.v2 rfl run_mul rfl rfl ?_
    refine Tr.v1 rfl (run_fieldAddr fo_47_0) rfl ?_
    refine Tr.va rfl (fun _ _ h1 h2 => run_load1 ag_3 (h1.ev rfl) (rdb h2 (vs := [(iv x249.X), (iv x249.Y)]) (k := 51) rfl 0) rfl) ?_
    refine Tr.v1 rfl (run_fieldAddr fo_47_1) rfl ?_
    refine Tr.va rfl (fun _ _ h1 h2 => run_load1 ag_3 (h1.ev rfl) (rdb h2 (vs := [(iv xL11.X), (iv xL11.Y)]) (k := 50) rfl 1) rfl) ?_
    refine Tr.v2 rfl run_mul rfl rfl ?_
    refine Tr.v2 rfl run_sub rfl rfl ?_
    refine Tr.v2 rfl run_add rfl rfl ?_
    refine Tr.v1 rfl (run_fieldAddr fo_45_1) rfl ?_
    refine Tr.store 44 (cs := [(iv (w64 (x244 + (w64 ((w64 (xL11.X * x249.Y)) - (w64 (x249.X * xL11.Y)))))))]) [(.slice Au226_0 (xL3).length cu226_0), (iv (w64 (x244 + (w64 ((w64 (xL11.X * x249.Y)) - (w64 (x249.X * xL11.Y)))))))] (wn rfl) rfl rfl rfl rfl sz_3 rfl rfl rfl ?_
    refine Tr.nil (Tr.normBlock (Tr.normThen ?_))
    refine Tr.region ?_
    refine Tr.v2 rfl run_add rfl rfl ?_
    refine Tr.mv rfl rfl ?_
    refine Tr.nil ?_
    exact Tr.backThen leL11 (restL11, (iL11 + 1), (w64 (x244 + (w64 ((w64 (xL11.X * x249.Y)) - (w64 (x249.X * xL11.Y))))))) ⟨rfl, range_tl hdL11, range_lt hdL11, H⟩ (.cons rfl (.cons rfl (.cons rfl (.cons rfl (.cons rfl (.cons rfl (.cons rfl (.cons rfl (.cons rfl (.cons (congrArg (fun z => some (Value.int .i64 z)) (range_up hdL11 hoku226_0.form)) .nil)))))))))) (.r rfl)

theorem F_plot_within_ok {w : Bs} (p0 : Int) (p1 : Int) (p2 : Int) (r : Bool) (H : F_plot_within p0 p1 p2 = some r) (hE : HF w w.W E0) : Calls Tryz.prog 47 [(iv p0), (iv p1), (iv p2)].toArray w.W fun e W' => e = .returned (.bool r) ∧ HF w W' E0 := by
 unfold F_plot_within at H
 have leB := Bs.Le.refl w
 refine Tr.enter (n := 15) Tryz.func47 rfl rfl rfl hE ?_
 refine Tr.sr ?_
 refine Tr.asg rfl rfl ?_
 refine Tr.nil (Tr.normThen ?_)
 refine Tr.sr ?_
 refine Tr.mv rfl rfl ?_
 refine Tr.mv rfl rfl ?_
 refine Tr.v2 rfl run_geq rfl rfl ?_
 refine Tr.mv rfl rfl ?_
 refine Tr.mid0 4 [(14, (.bool ((decide (p1 ≤ p0)) && (decide (p0 ≤ p2)))))] [] ?_ ?_
 ·cases hg99 : (decide (p1 ≤ p0))
  ·refine Tr.ps ?_
   refine Tr.ps ?_
   refine Tr.ps ?_
   refine Tr.v2 rfl run_pickF rfl rfl ?_
   exact Tr.nil (Tr.fin0 (.r rfl) .nil)
  ·refine Tr.w1 (wg rfl rfl rfl) rfl run_move rfl ?_
   refine Tr.w1 (wg rfl rfl rfl) rfl run_move rfl ?_
   refine Tr.w2 (wg rfl rfl rfl) rfl run_leq rfl rfl ?_
   refine Tr.v2 rfl run_pickT rfl rfl ?_
   exact Tr.nil (Tr.fin0 (.r rfl) .nil)
 ·show Tr _ _ (LF [(14, (.bool ((decide (p1 ≤ p0)) && (decide (p0 ≤ p2)))))]) (LE []) _
  refine Tr.asg rfl rfl ?_
  refine Tr.nil (Tr.normThen ?_)
  refine Tr.ret ?_
  obtain rfl := Option.some.inj H
  exact Tr.out (m := [(.bool ((decide (p1 ≤ p0)) && (decide (p0 ≤ p2))))]) [] (res_tmp rfl res_nil) (fun W hW => ⟨rfl, hW.low leB⟩)

theorem F_plot_isAt_ok {w : Bs} (p0 : Int) (p1 : Int) (r : Bool) (H : F_plot_isAt p0 p1 = some r) (hE : HF w w.W E0) : Calls Tryz.prog 96 [(iv p0), (iv p1)].toArray w.W fun e W' => e = .returned (.bool r) ∧ HF w W' E0 := by
 unfold F_plot_isAt at H
 have leB := Bs.Le.refl w
 refine Tr.enter (n := 11) Tryz.func96 rfl rfl rfl hE ?_
 refine Tr.sr ?_
 refine Tr.asg rfl rfl ?_
 refine Tr.nil (Tr.normThen ?_)
 refine Tr.seq ?_
 refine Tr.draw (by kernel_rfl) (by kernel_rfl) ?_
 refine Tq.mv rfl rfl ?_
 refine Tq.mv rfl rfl ?_
 obtain ⟨q100, hq100, H⟩ := bnd H
 refine Tq.va rfl (fun _ _ h1 h2 => run_dv (h1.ev rfl) (h1.ev rfl) hq100) ?_
 refine Tq.mv rfl rfl ?_
 obtain ⟨q101, hq101, H⟩ := bnd H
 refine Tq.va rfl (fun _ _ h1 h2 => run_dv (h1.ev rfl) (h1.ev rfl) hq101) ?_
 obtain ⟨y102, hy102, H⟩ := bnd H
 refine Tq.call0 (r := (.bool y102)) (wn rfl) rfl Tryz.call47 (evl_cons rfl (evl_cons rfl (evl_cons rfl evl_nil))) (fun W hW => F_plot_within_ok p0 q100 q101 y102 hy102 (HF.start _)) ?_
 refine Tq.asg rfl rfl ?_
 refine Tq.nil (Tr.normThen ?_)
 refine Tr.ret ?_
 obtain rfl := Option.some.inj H
 exact Tr.out (m := [(.bool y102)]) [] (res_tmp rfl res_nil) (fun W hW => ⟨rfl, hW.low leB⟩)

theorem F_plot_count_b_ok (N : Nat) (rec : (List TPlotStep) → Option Int) (hrec : ∀ {w : Bs} (p0 : (List TPlotStep)) (Ap0_0 : Option Addr) (cp0_0 : Nat) (hp0_0 : Sl w.R w.W fl_TPlotStep Ap0_0 cp0_0 p0) (r : Int) (H : rec p0 = some r) (hE : HF w w.W E0), Calls Tryz.prog 49 [(.slice Ap0_0 (p0).length cp0_0)].toArray w.W fun e W' => e = .returned (iv r) ∧ HF w W' E0) {w : Bs} (p0 : (List TPlotStep)) (Ap0_0 : Option Addr) (cp0_0 : Nat) (hp0_0 : Sl w.R w.W fl_TPlotStep Ap0_0 cp0_0 p0) (r : Int) (H : F_plot_count_b N rec p0 = some r) (hE : HF w w.W E0) : Calls Tryz.prog 49 [(.slice Ap0_0 (p0).length cp0_0)].toArray w.W fun e W' => e = .returned (iv r) ∧ HF w W' E0 := by
 unfold F_plot_count_b at H
 have leB := Bs.Le.refl w
 refine Tr.enter (n := 30) Tryz.func49 rfl rfl rfl hE ?_
 refine Tr.sr ?_
 refine Tr.asg rfl rfl ?_
 refine Tr.nil (Tr.normThen ?_)
 refine Tr.sr ?_
 refine Tr.asg rfl rfl ?_
 refine Tr.nil (Tr.normThen ?_)
 refine Tr.seq ?_
 refine Tr.sr ?_
 refine Tr.mv rfl rfl ?_
 refine Tr.v1 rfl (run_len un_24) rfl ?_
 refine Tr.mv rfl rfl ?_
 refine Tr.nil (Tr.normThen ?_)
 refine Tr.block ?_
 refine Tr.loop (σ := (List TPlotStep) × Nat × Int) (fun m w s => m = s.1.length + 1 ∧ s.1 = List.drop s.2.1 p0 ∧ s.2.1 ≤ p0.length ∧ F_plot_count_L3 s.1 s.2.1 s.2.2 = some r) (fun s => [(3, (iv s.2.2)), (6, (.slice Ap0_0 (p0).length cp0_0)), (7, (iv (p0.length : Int))), (8, (iv (s.2.1 : Int)))]) (fun s => []) (p0.length + 1) (p0, 0, 0) ⟨rfl, rfl, Nat.zero_le _, H⟩ (.r rfl) .nil (fun _ _ h => absurd h.1 (by simp)) ?_
 intro w leL3 m s hs
 obtain ⟨restL3, iL3, x116⟩ := s
 obtain ⟨hmL3, hdL3, hiL3, H⟩ := hs
 replace hdL3 : restL3 = List.drop iL3 p0 := hdL3
 replace H : F_plot_count_L3 restL3 iL3 x116 = some r := H
 replace hmL3 : m + 1 = restL3.length + 1 := hmL3
 replace hp0_0 := hp0_0.leR leL3
 replace leB := leB.trans leL3
 obtain rfl : m = restL3.length := by omega
 clear hmL3
 show Tr _ _ (LF [(3, (iv x116)), (6, (.slice Ap0_0 (p0).length cp0_0)), (7, (iv (p0.length : Int))), (8, (iv (iL3 : Int)))]) (LE []) _
 cases restL3 with
 | nil =>
  rw [F_plot_count_L3.eq_1] at H
  refine Tr.sr ?_
  refine Tr.v2 rfl run_lss rfl rfl ?_
  refine Tr.nil (Tr.normThen ?_)
  refine Tr.seq ?_
  refine Tr.condF rfl (range_nil hdL3) ?_
  refine Tr.exit (Tr.exitThen (Tr.exitThen (Tr.exitBlock (Tr.normThen ?_))))
  refine Tr.sr ?_
  refine Tr.mv rfl rfl ?_
  refine Tr.asg rfl rfl ?_
  refine Tr.nil (Tr.normThen ?_)
  refine Tr.ret ?_
  obtain rfl := Option.some.inj H
  exact Tr.out (m := [(iv x116)]) [] (res_tmp rfl res_nil) (fun W hW => ⟨rfl, hW.low leB⟩)
 | cons xL3 restL3 =>
  rw [F_plot_count_L3.eq_2] at H
  refine Tr.sr ?_
  refine Tr.v2 rfl run_lss rfl rfl ?_
  refine Tr.nil (Tr.normThen ?_)
  refine Tr.seq ?_
  refine Tr.condT rfl (range_on hdL3) ?_
  refine Tr.skip (Tr.normThen ?_)
  refine Tr.seq ?_
  refine Tr.block ?_
  refine Tr.sr ?_
  obtain ⟨u117, hRu117, hoku117, hcu117⟩ := (hp0_0).el (range_at hdL3)
  obtain ⟨⟨Au117_0, cu117_0⟩, ⟨Au117_1, cu117_1⟩⟩ := u117
  obtain ⟨hoku117_0, hoku117_1⟩ := TPlotStep_ok.1 hoku117
  replace hoku117_0 : Sl w.R w.W fl_TPoint Au117_0 cu117_0 xL3.Points := hoku117_0
  replace hoku117_1 : Sl w.R w.W fl_TPlotStep Au117_1 cu117_1 xL3.Steps := hoku117_1
  refine Tr.va rfl (fun _ _ h1 h2 => run_indexAddr el_24 (h1.ev rfl) hp0_0.form (h1.ev rfl) (Int.natCast_nonneg _) (range_lt hdL3)) ?_
  refine Tr.va rfl (fun _ _ h1 h2 => run_loadN (cs := [(iv xL3.Kind), (sv xL3.Name), (iv xL3.At.X), (iv xL3.At.Y), (.slice Au117_0 (xL3.Points).length cu117_0), (iv xL3.NX), (iv xL3.NY), (.slice Au117_1 (xL3.Steps).length cu117_1)]) ag_53 sz_53 (h1.ev rfl) (CellsAt.take (rdR hRu117 hcu117 h2) 8) rfl) ?_
  refine Tr.alloc 3 (wn rfl) rfl ze_53 fun b118 => ?_
  refine Tr.store 3 (cs := [(iv xL3.Kind), (sv xL3.Name), (iv xL3.At.X), (iv xL3.At.Y), (.slice Au117_0 (xL3.Points).length cu117_0), (iv xL3.NX), (iv xL3.NY), (.slice Au117_1 (xL3.Steps).length cu117_1)]) [(iv xL3.Kind), (sv xL3.Name), (iv xL3.At.X), (iv xL3.At.Y), (.slice Au117_0 (xL3.Points).length cu117_0), (iv xL3.NX), (iv xL3.NY), (.slice Au117_1 (xL3.Steps).length cu117_1)] (wn rfl) rfl rfl rfl rfl sz_53 rfl rfl rfl ?_
  refine Tr.nil (Tr.normThen ?_)
  refine Tr.sr ?_
  refine Tr.mv rfl rfl ?_
  refine Tr.v2 rfl run_add rfl rfl ?_
  refine Tr.asg rfl rfl ?_
  refine Tr.nil (Tr.normThen ?_)
  have leJ119 := Bs.Le.refl w
  refine Tr.cutJ (σ := Unit) (fun w _ => F_plot_count_J4 x116 (F_plot_count_L3 restL3 (iL3 + 1)) = some r) (fun _ => [(3, (iv (w64 (x116 + 1)))), (6, (.slice Ap0_0 (p0).length cp0_0)), (7, (iv (p0.length : Int))), (8, (iv (iL3 : Int)))]) (fun _ => []) ?_ ?_
  ·refine Tr.sr ?_
   refine Tr.v1 rfl (run_fieldAddr fo_53_6) rfl ?_
   refine Tr.va rfl (fun _ _ h1 h2 => run_load1 ag_24 (h1.ev rfl) (rdb h2 (vs := [(iv xL3.Kind), (sv xL3.Name), (iv xL3.At.X), (iv xL3.At.Y), (.slice Au117_0 (xL3.Points).length cu117_0), (iv xL3.NX), (iv xL3.NY), (.slice Au117_1 (xL3.Steps).length cu117_1)]) (k := 3) rfl 7) rfl) ?_
   refine Tr.v1 rfl (run_len un_24) rfl ?_
   refine Tr.v2 rfl run_gtr rfl rfl ?_
   refine Tr.nil (Tr.normThen ?_)
   refine Tr.cond rfl H (fun H => ?_) (fun H => ?_)
   ·cases H
   ·refine Tr.skip ?_
    exact Tr.backThen leJ119 () H (.r rfl) .nil
  ·intro w _ hlJ120 hs
   have H := hs
   replace H : F_plot_count_J4 x116 (F_plot_count_L3 restL3 (iL3 + 1)) = some r := H
   replace hp0_0 := hp0_0.leR hlJ120
   replace leB := leB.trans hlJ120
   replace leL3 := leL3.trans hlJ120
   unfold F_plot_count_J4 at H
   show Tr _ _ (LF [(3, (iv (w64 (x116 + 1)))), (6, (.slice Ap0_0 (p0).length cp0_0)), (7, (iv (p0.length : Int))), (8, (iv (iL3 : Int)))]) (LE []) _
   refine Tr.sr ?_
   refine Tr.mv rfl rfl ?_
   refine Tr.v2 rfl run_gtr rfl rfl ?_
   refine Tr.nil (Tr.normThen ?_)
   refine Tr.cond rfl H (fun H => ?_) (fun H => ?_)
   ·refine Tr.seq ?_
    cases H
   ·refine Tr.skip (Tr.normBlock (Tr.normThen ?_))
    refine Tr.region ?_
    refine Tr.v2 rfl run_add rfl rfl ?_
    refine Tr.mv rfl rfl ?_
    refine Tr.nil ?_
    exact Tr.backThen leL3 (restL3, (iL3 + 1), (w64 (x116 + 1))) ⟨rfl, range_tl hdL3, range_lt hdL3, H⟩ (.cons rfl (.cons rfl (.cons rfl (.cons (congrArg (fun z => some (Value.int .i64 z)) (range_up hdL3 hp0_0.form)) .nil)))) .nil
theorem F_plot_count_ok : ∀ (N : Nat) {w : Bs} (p0 : (List TPlotStep)) (Ap0_0 : Option Addr) (cp0_0 : Nat) (hp0_0 : Sl w.R w.W fl_TPlotStep Ap0_0 cp0_0 p0) (r : Int) (H : F_plot_count N p0 = some r) (hE : HF w w.W E0), Calls Tryz.prog 49 [(.slice Ap0_0 (p0).length cp0_0)].toArray w.W fun e W' => e = .returned (iv r) ∧ HF w W' E0
 | 0 => by intros; rename_i H _; cases H
 | N + 1 => F_plot_count_b_ok N (F_plot_count N) (F_plot_count_ok N)

theorem F_plot_fieldsOf_ok {w : Bs} (p0 : Int) (r : TFields) (H : F_plot_fieldsOf p0 = some r) (hE : HF w w.W E0) : Calls Tryz.prog 134 [(iv p0)].toArray w.W fun e W' => e = .returned (.agg #[(.bool r.name), (.bool r.at_), (.bool r.points), (.bool r.repeat_)]) ∧ HF w W' E0 := by
 unfold F_plot_fieldsOf at H
 have leB := Bs.Le.refl w
 refine Tr.enter (n := 19) Tryz.func134 rfl rfl rfl hE ?_
 refine Tr.sr ?_
 refine Tr.alloc 1 (wn rfl) rfl ze_185 fun b100 => ?_
 refine Tr.nil (Tr.normThen ?_)
 refine Tr.seq ?_
 refine Tr.sr ?_
 refine Tr.mv rfl rfl ?_
 refine Tr.nil (Tr.normThen ?_)
 refine Tr.block ?_
 refine Tr.sr ?_
 refine Tr.v2 rfl run_eql rfl rfl ?_
 refine Tr.asg rfl rfl ?_
 refine Tr.nil (Tr.normThen ?_)
 refine Tr.cond rfl H (fun H => ?_) (fun H => ?_)
 ·refine Tr.seq ?_
  cases H
 ·have leJ102 := Bs.Le.refl w
  refine Tr.cutJ (σ := Bool) (fun w s => F_plot_fieldsOf_J1 p0 s = some r) (fun s => [(2, (.pointer (some ⟨b100, 0, none⟩))), (3, (iv p0)), (7, (.bool s))]) (fun s => [(1, bx b100 #[(.bool false), (.bool false), (.bool false), (.bool false)] 185)]) ?_ ?_
  ·refine Tr.sr ?_
   refine Tr.v2 rfl run_eql rfl rfl ?_
   refine Tr.asg rfl rfl ?_
   refine Tr.nil (Tr.normThen ?_)
   refine Tr.cond rfl H (fun H => ?_) (fun H => ?_)
   ·refine Tr.skip ?_
    exact Tr.backThen leJ102 (p0 == 4) H (.r rfl) (.r rfl)
   ·refine Tr.sr ?_
    refine Tr.v2 rfl run_eql rfl rfl ?_
    refine Tr.asg rfl rfl ?_
    refine Tr.nil (Tr.normThen ?_)
    refine Tr.cond rfl H (fun H => ?_) (fun H => ?_)
    ·refine Tr.skip ?_
     exact Tr.backThen leJ102 (p0 == 5) H (.r rfl) (.r rfl)
    ·refine Tr.region ?_
     refine Tr.v2 rfl run_eql rfl rfl ?_
     refine Tr.asg rfl rfl ?_
     refine Tr.nil ?_
     exact Tr.backThen leJ102 (p0 == 6) H (.r rfl) (.r rfl)
  ·intro w x101 hlJ103 hs
   have H := hs
   replace H : F_plot_fieldsOf_J1 p0 x101 = some r := H
   replace leB := leB.trans hlJ103
   unfold F_plot_fieldsOf_J1 at H
   show Tr _ _ (LF [(2, (.pointer (some ⟨b100, 0, none⟩))), (3, (iv p0)), (7, (.bool x101))]) (LE [(1, bx b100 #[(.bool false), (.bool false), (.bool false), (.bool false)] 185)]) _
   refine Tr.cond rfl H (fun H => ?_) (fun H => ?_)
   ·refine Tr.seq ?_
    cases H
   ·refine Tr.sr ?_
    refine Tr.v2 rfl run_eql rfl rfl ?_
    refine Tr.asg rfl rfl ?_
    refine Tr.nil (Tr.normThen ?_)
    refine Tr.cond rfl H (fun H => ?_) (fun H => ?_)
    ·refine Tr.sr ?_
     refine Tr.build (vs := [(2, (.bool true))]) (cs := [(.bool false), (.bool false), (.bool true), (.bool false)]) (wn rfl) rfl (evs_cons rfl evs_nil) (by kernel_rfl) ?_
     refine Tr.store 1 (cs := [(.bool false), (.bool false), (.bool true), (.bool false)]) [(.bool false), (.bool false), (.bool true), (.bool false)] (wn rfl) rfl rfl rfl rfl sz_185 rfl rfl rfl ?_
     refine Tr.nil (Tr.normThen ?_)
     refine Tr.ret (Tr.retBlock (Tr.retThen ?_))
     obtain rfl := Option.some.inj H
     exact Tr.out (m := [(.agg #[(.bool false), (.bool false), (.bool true), (.bool false)])]) [1] (res_cell rfl rfl ag_185 sz_185 res_nil) (fun W hW => ⟨rfl, hW.low leB⟩)
    ·refine Tr.sr ?_
     refine Tr.v2 rfl run_eql rfl rfl ?_
     refine Tr.asg rfl rfl ?_
     refine Tr.nil (Tr.normThen ?_)
     refine Tr.cond rfl H (fun H => ?_) (fun H => ?_)
     ·refine Tr.seq ?_
      cases H
     ·refine Tr.skip (Tr.normBlock (Tr.normThen ?_))
      refine Tr.sr ?_
      refine Tr.build (vs := []) (cs := [(.bool false), (.bool false), (.bool false), (.bool false)]) (wn rfl) rfl evs_nil (by kernel_rfl) ?_
      refine Tr.store 1 (cs := [(.bool false), (.bool false), (.bool false), (.bool false)]) [(.bool false), (.bool false), (.bool false), (.bool false)] (wn rfl) rfl rfl rfl rfl sz_185 rfl rfl rfl ?_
      refine Tr.nil (Tr.normThen ?_)
      refine Tr.ret ?_
      obtain rfl := Option.some.inj H
      exact Tr.out (m := [(.agg #[(.bool false), (.bool false), (.bool false), (.bool false)])]) [1] (res_cell rfl rfl ag_185 sz_185 res_nil) (fun W hW => ⟨rfl, hW.low leB⟩)

theorem F_plot_toolAt_ok {w : Bs} (p0 : TPlot) (Ap0_0 : Option Addr) (cp0_0 : Nat) (hp0_0 : Sl w.R w.W fl_TPlotTool Ap0_0 cp0_0 p0.Tools) (Ap0_1 : Option Addr) (cp0_1 : Nat) (hp0_1 : Sl w.R w.W fl_TPlotStep Ap0_1 cp0_1 p0.Steps) (p1 : ByteArray) (r : Int) (H : F_plot_toolAt p0 p1 = some r) (hE : HF w w.W E0) : Calls Tryz.prog 135 [(.agg #[(iv p0.Unit), (.slice Ap0_0 (p0.Tools).length cp0_0), (.slice Ap0_1 (p0.Steps).length cp0_1)]), (sv p1)].toArray w.W fun e W' => e = .returned (iv r) ∧ HF w W' E0 := by
 unfold F_plot_toolAt at H
 have leB := Bs.Le.refl w
 refine Tr.enter (n := 9) Tryz.func135 rfl rfl rfl hE ?_
 refine Tr.seq ?_
 cases H

theorem F_plot_isPoint_ok {w : Bs} (p0 : TPoint) (p1 : Int) (r : Bool) (H : F_plot_isPoint p0 p1 = some r) (hE : HF w w.W E0) : Calls Tryz.prog 136 [(.agg #[(iv p0.X), (iv p0.Y)]), (iv p1)].toArray w.W fun e W' => e = .returned (.bool r) ∧ HF w W' E0 := by
 unfold F_plot_isPoint at H
 have leB := Bs.Le.refl w
 refine Tr.enter (n := 15) Tryz.func136 rfl rfl rfl hE ?_
 refine Tr.sr ?_
 refine Tr.box 1 (cs := [(iv p0.X), (iv p0.Y)]) (wn rfl) rfl rfl rfl fun b100 => ?_
 refine Tr.asg rfl rfl ?_
 refine Tr.nil (Tr.normThen ?_)
 refine Tr.sr ?_
 refine Tr.v1 rfl (run_fieldAddr fo_47_0) rfl ?_
 refine Tr.va rfl (fun _ _ h1 h2 => run_load1 ag_3 (h1.ev rfl) (rdb h2 (vs := [(iv p0.X), (iv p0.Y)]) (k := 1) rfl 0) rfl) ?_
 refine Tr.mv rfl rfl ?_
 obtain ⟨y101, hy101, H⟩ := bnd H
 refine Tr.call0 (r := (.bool y101)) (wn rfl) rfl Tryz.call96 (evl_cons rfl (evl_cons rfl evl_nil)) (fun W hW => F_plot_isAt_ok p0.X p1 y101 hy101 (HF.start _)) ?_
 refine Tr.mv rfl rfl ?_
 obtain ⟨g103, hg103, H⟩ := bnd H
 refine Tr.mid0 5 [(14, (.bool g103))] [(1, bx b100 #[(iv p0.X), (iv p0.Y)] 47)] ?_ ?_
 ·cases hg104 : y101
  ·rw [hg104] at hg103
   rw [if_neg (by decide)] at hg103
   have H := hg103
   obtain rfl := Option.some.inj H
   refine Tr.ps ?_
   refine Tr.ps ?_
   refine Tr.ps ?_
   refine Tr.ps ?_
   refine Tr.v2 rfl run_pickF rfl rfl ?_
   exact Tr.nil (Tr.fin0 (.r rfl) (.r rfl))
  ·rw [hg104] at hg103
   rw [if_pos rfl] at hg103
   have H := hg103
   refine Tr.w1 (wg rfl rfl rfl) rfl (run_fieldAddr fo_47_1) rfl ?_
   refine Tr.val (wg rfl rfl rfl) rfl (fun _ _ h1 h2 => run_load1 ag_3 (h1.ev rfl) (rdb h2 (vs := [(iv p0.X), (iv p0.Y)]) (k := 1) rfl 1) rfl) ?_
   refine Tr.w1 (wg rfl rfl rfl) rfl run_move rfl ?_
   obtain ⟨y104, hy104, H⟩ := bnd H
   refine Tr.call0 (r := (.bool y104)) (wg rfl rfl rfl) rfl Tryz.call96 (evl_cons rfl (evl_cons rfl evl_nil)) (fun W hW => F_plot_isAt_ok p0.Y p1 y104 hy104 (HF.start _)) ?_
   refine Tr.v2 rfl run_pickT rfl rfl ?_
   obtain rfl := Option.some.inj H
   exact Tr.nil (Tr.fin0 (.r rfl) (.r rfl))
 ·show Tr _ _ (LF [(14, (.bool g103))]) (LE [(1, bx b100 #[(iv p0.X), (iv p0.Y)] 47)]) _
  refine Tr.asg rfl rfl ?_
  refine Tr.nil (Tr.normThen ?_)
  refine Tr.ret ?_
  obtain rfl := Option.some.inj H
  exact Tr.out (m := [(.bool g103)]) [] (res_tmp rfl res_nil) (fun W hW => ⟨rfl, hW.low leB⟩)

theorem F_plot_checkStep_1_ok {w : Bs} (p0 : TPoint) (q0 : TPlot) (Aq0_0 : Option Addr) (cq0_0 : Nat) (hq0_0 : Sl w.R w.W fl_TPlotTool Aq0_0 cq0_0 q0.Tools) (Aq0_1 : Option Addr) (cq0_1 : Nat) (hq0_1 : Sl w.R w.W fl_TPlotStep Aq0_1 cq0_1 q0.Steps) (bq0 : Nat) (hb0 : w.R bq0) (hc0 : CellsAt w.W bq0 0 [(iv q0.Unit), (.slice Aq0_0 (q0.Tools).length cq0_0), (.slice Aq0_1 (q0.Steps).length cq0_1)]) (r : Bool) (H : F_plot_checkStep_1 p0 q0 = some r) (hE : HF w w.W E0) : Calls Tryz.prog 138 [(.agg #[(iv p0.X), (iv p0.Y)]), (.pointer (some ⟨bq0, 0, none⟩))].toArray w.W fun e W' => e = .returned (.bool r) ∧ HF w W' E0 := by
 unfold F_plot_checkStep_1 at H
 have leB := Bs.Le.refl w
 refine Tr.enter (n := 9) Tryz.func138 rfl rfl rfl hE ?_
 refine Tr.sr ?_
 refine Tr.box 1 (cs := [(iv p0.X), (iv p0.Y)]) (wn rfl) rfl rfl rfl fun b100 => ?_
 refine Tr.asg rfl rfl ?_
 refine Tr.nil (Tr.normThen ?_)
 refine Tr.sr ?_
 refine Tr.va rfl (fun _ _ h1 h2 => run_loadN (cs := [(iv p0.X), (iv p0.Y)]) ag_47 sz_47 (h1.ev rfl) (CellsAt.take (rdb h2 (vs := [(iv p0.X), (iv p0.Y)]) (k := 1) rfl 0) 2) rfl) ?_
 refine Tr.v1 rfl (run_fieldAddr fo_26_0) rfl ?_
 refine Tr.va rfl (fun _ _ h1 h2 => run_load1 ag_3 (h1.ev rfl) (CellsAt.drop (rdR hb0 hc0 h2) 0) rfl) ?_
 obtain ⟨y101, hy101, H⟩ := bnd H
 refine Tr.call0 (r := (.bool y101)) (wn rfl) rfl Tryz.call136 (evl_cons rfl (evl_cons rfl evl_nil)) (fun W hW => F_plot_isPoint_ok p0 q0.Unit y101 hy101 (HF.start _)) ?_
 refine Tr.v1 rfl run_not rfl ?_
 refine Tr.asg rfl rfl ?_
 refine Tr.nil (Tr.normThen ?_)
 refine Tr.ret ?_
 obtain rfl := Option.some.inj H
 exact Tr.out (m := [(.bool (!y101))]) [] (res_tmp rfl res_nil) (fun W hW => ⟨rfl, hW.low leB⟩)

theorem F_slices_IndexFunc_Point_ok {w : Bs} (p0 : (List TPoint)) (Ap0_0 : Option Addr) (cp0_0 : Nat) (hp0_0 : Sl w.R w.W fl_TPoint Ap0_0 cp0_0 p0) (p1 : TPoint → Option Bool) (fid1 : Nat) (cap1 : List Value) (hg1 : ∀ args W, (callFunc fid1 args).run Tryz.prog W = .ok (.enter fid1 args) W) (hf1 : ∀ (w' : Bs), w.Ext w' → ∀ (z0 : TPoint), ∀ y, p1 z0 = some y → Calls Tryz.prog fid1 (([(.agg #[(iv z0.X), (iv z0.Y)])] : List Value) ++ cap1).toArray w'.W fun e W'' => e = .returned (.bool y) ∧ HF w' W'' E0) (r : Int) (H : F_slices_IndexFunc_Point p0 p1 = some r) (hE : HF w w.W E0) : Calls Tryz.prog 192 [(.slice Ap0_0 (p0).length cp0_0), (.func (.func fid1) #[] cap1.toArray)].toArray w.W fun e W' => e = .returned (iv r) ∧ HF w W' E0 := by
 unfold F_slices_IndexFunc_Point at H
 have leB := Bs.Le.refl w
 refine Tr.enter (n := 19) Tryz.func192 rfl rfl rfl hE ?_
 refine Tr.sr ?_
 refine Tr.asg rfl rfl ?_
 refine Tr.nil (Tr.normThen ?_)
 refine Tr.seq ?_
 refine Tr.sr ?_
 refine Tr.mv rfl rfl ?_
 refine Tr.v1 rfl (run_len un_43) rfl ?_
 refine Tr.mv rfl rfl ?_
 refine Tr.nil (Tr.normThen ?_)
 refine Tr.block ?_
 refine Tr.loop (σ := (List TPoint) × Nat) (fun m w s => m = s.1.length + 1 ∧ s.1 = List.drop s.2 p0 ∧ s.2 ≤ p0.length ∧ F_slices_IndexFunc_Point_L1 p1 s.1 s.2 = some r) (fun s => [(0, (.slice Ap0_0 (p0).length cp0_0)), (1, (.func (.func fid1) #[] cap1.toArray)), (7, (iv (p0.length : Int))), (8, (iv (s.2 : Int)))]) (fun s => []) (p0.length + 1) (p0, 0) ⟨rfl, rfl, Nat.zero_le _, H⟩ (.r rfl) .nil (fun _ _ h => absurd h.1 (by simp)) ?_
 intro w leL1 m s hs
 obtain ⟨restL1, iL1⟩ := s
 obtain ⟨hmL1, hdL1, hiL1, H⟩ := hs
 replace hdL1 : restL1 = List.drop iL1 p0 := hdL1
 replace H : F_slices_IndexFunc_Point_L1 p1 restL1 iL1 = some r := H
 replace hmL1 : m + 1 = restL1.length + 1 := hmL1
 replace hp0_0 := hp0_0.leR leL1
 replace hf1 := fun w' he => hf1 w' (leL1.ext.trans he)
 replace leB := leB.trans leL1
 obtain rfl : m = restL1.length := by omega
 clear hmL1
 show Tr _ _ (LF [(0, (.slice Ap0_0 (p0).length cp0_0)), (1, (.func (.func fid1) #[] cap1.toArray)), (7, (iv (p0.length : Int))), (8, (iv (iL1 : Int)))]) (LE []) _
 cases restL1 with
 | nil =>
  rw [F_slices_IndexFunc_Point_L1.eq_1] at H
  refine Tr.sr ?_
  refine Tr.v2 rfl run_lss rfl rfl ?_
  refine Tr.nil (Tr.normThen ?_)
  refine Tr.seq ?_
  refine Tr.condF rfl (range_nil hdL1) ?_
  refine Tr.exit (Tr.exitThen (Tr.exitThen (Tr.exitBlock (Tr.normThen ?_))))
  refine Tr.sr ?_
  refine Tr.asg rfl rfl ?_
  refine Tr.nil (Tr.normThen ?_)
  refine Tr.ret ?_
  obtain rfl := Option.some.inj H
  exact Tr.out (m := [(iv (-1))]) [] (res_tmp rfl res_nil) (fun W hW => ⟨rfl, hW.low leB⟩)
 | cons xL1 restL1 =>
  rw [F_slices_IndexFunc_Point_L1.eq_2] at H
  refine Tr.sr ?_
  refine Tr.v2 rfl run_lss rfl rfl ?_
  refine Tr.nil (Tr.normThen ?_)
  refine Tr.seq ?_
  refine Tr.condT rfl (range_on hdL1) ?_
  refine Tr.skip (Tr.normThen ?_)
  refine Tr.seq ?_
  refine Tr.block ?_
  refine Tr.sr ?_
  refine Tr.mv rfl rfl ?_
  refine Tr.asg rfl rfl ?_
  refine Tr.nil (Tr.normThen ?_)
  refine Tr.sr ?_
  refine Tr.mv rfl rfl ?_
  refine Tr.mv rfl rfl ?_
  refine Tr.mv rfl rfl ?_
  refine Tr.va rfl (fun _ _ h1 h2 => run_indexAddr el_43 (h1.ev rfl) hp0_0.form (h1.ev rfl) (Int.natCast_nonneg _) (range_lt hdL1)) ?_
  refine Tr.va rfl (fun _ _ h1 h2 => run_loadN (cs := [(iv xL1.X), (iv xL1.Y)]) ag_47 sz_47 (h1.ev rfl) (CellsAt.take (rdF ef_TPoint hp0_0 (range_at hdL1) h2) 2) rfl) ?_
  obtain ⟨y103, hy103, H⟩ := bnd H
  refine Tr.callF (r := (.bool y103)) (wn rfl) rfl rfl hg1 (evl_cons rfl evl_nil) (fun W hW => hf1 hW.all hW.extAll xL1 _ hy103) ?_
  refine Tr.nil (Tr.normThen ?_)
  refine Tr.cond rfl H (fun H => ?_) (fun H => ?_)
  ·refine Tr.sr ?_
   refine Tr.mv rfl rfl ?_
   refine Tr.asg rfl rfl ?_
   refine Tr.nil (Tr.normThen ?_)
   refine Tr.ret (Tr.retBlock (Tr.retThen (Tr.retThen (Tr.retBlock (Tr.retThen ?_)))))
   obtain rfl := Option.some.inj H
   exact Tr.out (m := [(iv (iL1 : Int))]) [] (res_tmp rfl res_nil) (fun W hW => ⟨rfl, hW.low leB⟩)
  ·refine Tr.skip (Tr.normBlock (Tr.normThen ?_))
   refine Tr.region ?_
   refine Tr.v2 rfl run_add rfl rfl ?_
   refine Tr.mv rfl rfl ?_
   refine Tr.nil ?_
   exact Tr.backThen leL1 (restL1, (iL1 + 1)) ⟨rfl, range_tl hdL1, range_lt hdL1, H⟩ (.cons rfl (.cons rfl (.cons rfl (.cons (congrArg (fun z => some (Value.int .i64 z)) (range_up hdL1 hp0_0.form)) .nil)))) .nil

theorem F_slices_ContainsFunc_Point_ok {w : Bs} (p0 : (List TPoint)) (Ap0_0 : Option Addr) (cp0_0 : Nat) (hp0_0 : Sl w.R w.W fl_TPoint Ap0_0 cp0_0 p0) (p1 : TPoint → Option Bool) (fid1 : Nat) (cap1 : List Value) (hg1 : ∀ args W, (callFunc fid1 args).run Tryz.prog W = .ok (.enter fid1 args) W) (hf1 : ∀ (w' : Bs), w.Ext w' → ∀ (z0 : TPoint), ∀ y, p1 z0 = some y → Calls Tryz.prog fid1 (([(.agg #[(iv z0.X), (iv z0.Y)])] : List Value) ++ cap1).toArray w'.W fun e W'' => e = .returned (.bool y) ∧ HF w' W'' E0) (r : Bool) (H : F_slices_ContainsFunc_Point p0 p1 = some r) (hE : HF w w.W E0) : Calls Tryz.prog 137 [(.slice Ap0_0 (p0).length cp0_0), (.func (.func fid1) #[] cap1.toArray)].toArray w.W fun e W' => e = .returned (.bool r) ∧ HF w W' E0 := by
 unfold F_slices_ContainsFunc_Point at H
 have leB := Bs.Le.refl w
 refine Tr.enter (n := 9) Tryz.func137 rfl rfl rfl hE ?_
 refine Tr.sr ?_
 refine Tr.asg rfl rfl ?_
 refine Tr.nil (Tr.normThen ?_)
 refine Tr.sr ?_
 refine Tr.mv rfl rfl ?_
 refine Tr.mv rfl rfl ?_
 obtain ⟨y100, hy100, H⟩ := bnd H
 refine Tr.call0 (r := (iv y100)) (wn rfl) rfl Tryz.call192 (evl_cons rfl (evl_cons rfl evl_nil)) (fun W hW => F_slices_IndexFunc_Point_ok p0 Ap0_0 cp0_0 (hp0_0.ext hW.extAll) p1 fid1 cap1 hg1 (fun w' he => hf1 w' (hW.extAll.trans he)) y100 hy100 (HF.start _)) ?_
 refine Tr.v2 rfl run_geq rfl rfl ?_
 refine Tr.asg rfl rfl ?_
 refine Tr.nil (Tr.normThen ?_)
 refine Tr.ret ?_
 obtain rfl := Option.some.inj H
 exact Tr.out (m := [(.bool (decide (0 ≤ y100)))]) [] (res_tmp rfl res_nil) (fun W hW => ⟨rfl, hW.low leB⟩)

theorem F_shape_IsRow_ok {w : Bs} (p0 : (List TPoint)) (Ap0_0 : Option Addr) (cp0_0 : Nat) (hp0_0 : Sl w.R w.W fl_TPoint Ap0_0 cp0_0 p0) (r : Bool) (H : F_shape_IsRow p0 = some r) (hE : HF w w.W E0) : Calls Tryz.prog 139 [(.slice Ap0_0 (p0).length cp0_0)].toArray w.W fun e W' => e = .returned (.bool r) ∧ HF w W' E0 := by
 unfold F_shape_IsRow at H
 have leB := Bs.Le.refl w
 refine Tr.enter (n := 36) Tryz.func139 rfl rfl rfl hE ?_
 refine Tr.sr ?_
 refine Tr.asg rfl rfl ?_
 refine Tr.nil (Tr.normThen ?_)
 refine Tr.seq ?_
 refine Tr.sr ?_
 refine Tr.mv rfl rfl ?_
 refine Tr.v1 rfl (run_len un_43) rfl ?_
 refine Tr.v2 rfl run_lss rfl rfl ?_
 refine Tr.nil (Tr.normThen ?_)
 refine Tr.cond rfl H (fun H => ?_) (fun H => ?_)
 ·refine Tr.sr ?_
  refine Tr.asg rfl rfl ?_
  refine Tr.nil (Tr.normThen ?_)
  refine Tr.ret (Tr.retThen ?_)
  obtain rfl := Option.some.inj H
  exact Tr.out (m := [(.bool false)]) [] (res_tmp rfl res_nil) (fun W hW => ⟨rfl, hW.low leB⟩)
 ·refine Tr.skip (Tr.normThen ?_)
  refine Tr.seq ?_
  refine Tr.sr ?_
  refine Tr.mv rfl rfl ?_
  refine Tr.v1 rfl (run_len un_43) rfl ?_
  refine Tr.mv rfl rfl ?_
  refine Tr.nil (Tr.normThen ?_)
  refine Tr.block ?_
  refine Tr.loop (σ := (List TPoint) × Nat) (fun m w s => m = s.1.length + 1 ∧ s.1 = List.drop s.2 p0 ∧ s.2 ≤ p0.length ∧ F_shape_IsRow_L1 p0 s.1 s.2 = some r) (fun s => [(0, (.slice Ap0_0 (p0).length cp0_0)), (9, (.slice Ap0_0 (p0).length cp0_0)), (10, (iv (p0.length : Int))), (11, (iv (s.2 : Int)))]) (fun s => []) (p0.length + 1) (p0, 0) ⟨rfl, rfl, Nat.zero_le _, H⟩ (.r rfl) .nil (fun _ _ h => absurd h.1 (by simp)) ?_
  intro w leL1 m s hs
  obtain ⟨restL1, iL1⟩ := s
  obtain ⟨hmL1, hdL1, hiL1, H⟩ := hs
  replace hdL1 : restL1 = List.drop iL1 p0 := hdL1
  replace H : F_shape_IsRow_L1 p0 restL1 iL1 = some r := H
  replace hmL1 : m + 1 = restL1.length + 1 := hmL1
  replace hp0_0 := hp0_0.leR leL1
  replace leB := leB.trans leL1
  obtain rfl : m = restL1.length := by omega
  clear hmL1
  show Tr _ _ (LF [(0, (.slice Ap0_0 (p0).length cp0_0)), (9, (.slice Ap0_0 (p0).length cp0_0)), (10, (iv (p0.length : Int))), (11, (iv (iL1 : Int)))]) (LE []) _
  cases restL1 with
  | nil =>
   rw [F_shape_IsRow_L1.eq_1] at H
   refine Tr.sr ?_
   refine Tr.v2 rfl run_lss rfl rfl ?_
   refine Tr.nil (Tr.normThen ?_)
   refine Tr.seq ?_
   refine Tr.condF rfl (range_nil hdL1) ?_
   refine Tr.exit (Tr.exitThen (Tr.exitThen (Tr.exitBlock (Tr.normThen ?_))))
   refine Tr.sr ?_
   refine Tr.asg rfl rfl ?_
   refine Tr.nil (Tr.normThen ?_)
   refine Tr.ret ?_
   obtain rfl := Option.some.inj H
   exact Tr.out (m := [(.bool true)]) [] (res_tmp rfl res_nil) (fun W hW => ⟨rfl, hW.low leB⟩)
  | cons xL1 restL1 =>
   rw [F_shape_IsRow_L1.eq_2] at H
   refine Tr.sr ?_
   refine Tr.v2 rfl run_lss rfl rfl ?_
   refine Tr.nil (Tr.normThen ?_)
   refine Tr.seq ?_
   refine Tr.condT rfl (range_on hdL1) ?_
   refine Tr.skip (Tr.normThen ?_)
   refine Tr.seq ?_
   refine Tr.block ?_
   refine Tr.sr ?_
   refine Tr.mv rfl rfl ?_
   refine Tr.va rfl (fun _ _ h1 h2 => run_indexAddr el_43 (h1.ev rfl) hp0_0.form (h1.ev rfl) (Int.natCast_nonneg _) (range_lt hdL1)) ?_
   refine Tr.va rfl (fun _ _ h1 h2 => run_loadN (cs := [(iv xL1.X), (iv xL1.Y)]) ag_47 sz_47 (h1.ev rfl) (CellsAt.take (rdF ef_TPoint hp0_0 (range_at hdL1) h2) 2) rfl) ?_
   refine Tr.alloc 3 (wn rfl) rfl ze_47 fun b106 => ?_
   refine Tr.asg rfl rfl ?_
   refine Tr.store 3 (cs := [(iv xL1.X), (iv xL1.Y)]) [(iv xL1.X), (iv xL1.Y)] (wn rfl) rfl rfl rfl rfl sz_47 rfl rfl rfl ?_
   refine Tr.nil (Tr.normThen ?_)
   refine Tr.sr ?_
   refine Tr.mv rfl rfl ?_
   refine Tr.mv rfl rfl ?_
   refine Tr.v2 rfl run_add rfl rfl ?_
   refine Tr.mv rfl rfl ?_
   refine Tr.v1 rfl (run_len un_43) rfl ?_
   obtain ⟨q107, hq107, H⟩ := bnd H
   refine Tr.va rfl (fun _ _ h1 h2 => run_md (h1.ev rfl) (h1.ev rfl) hq107) ?_
   obtain ⟨x108, hx108, H⟩ := bnd H
   obtain ⟨hx1080, hx1081, hx1082⟩ := idx_some hx108
   refine Tr.va rfl (fun _ _ h1 h2 => run_indexAddr el_43 (h1.ev rfl) hp0_0.form (h1.ev rfl) hx1080 hx1081) ?_
   refine Tr.va rfl (fun _ _ h1 h2 => run_loadN (cs := [(iv x108.X), (iv x108.Y)]) ag_47 sz_47 (h1.ev rfl) (CellsAt.take (rdF ef_TPoint hp0_0 hx1082 h2) 2) rfl) ?_
   refine Tr.alloc 4 (wn rfl) rfl ze_47 fun b109 => ?_
   refine Tr.store 4 (cs := [(iv x108.X), (iv x108.Y)]) [(iv x108.X), (iv x108.Y)] (wn rfl) rfl rfl rfl rfl sz_47 rfl rfl rfl ?_
   refine Tr.nil (Tr.normThen ?_)
   refine Tr.sr ?_
   refine Tr.v1 rfl (run_fieldAddr fo_47_0) rfl ?_
   refine Tr.va rfl (fun _ _ h1 h2 => run_load1 ag_3 (h1.ev rfl) (rdb h2 (vs := [(iv xL1.X), (iv xL1.Y)]) (k := 3) rfl 0) rfl) ?_
   refine Tr.v1 rfl (run_fieldAddr fo_47_0) rfl ?_
   refine Tr.va rfl (fun _ _ h1 h2 => run_load1 ag_3 (h1.ev rfl) (rdb h2 (vs := [(iv x108.X), (iv x108.Y)]) (k := 4) rfl 0) rfl) ?_
   refine Tr.v2 rfl run_eql rfl rfl ?_
   refine Tr.v1 rfl (run_fieldAddr fo_47_1) rfl ?_
   refine Tr.va rfl (fun _ _ h1 h2 => run_load1 ag_3 (h1.ev rfl) (rdb h2 (vs := [(iv xL1.X), (iv xL1.Y)]) (k := 3) rfl 1) rfl) ?_
   refine Tr.v1 rfl (run_fieldAddr fo_47_1) rfl ?_
   refine Tr.va rfl (fun _ _ h1 h2 => run_load1 ag_3 (h1.ev rfl) (rdb h2 (vs := [(iv x108.X), (iv x108.Y)]) (k := 4) rfl 1) rfl) ?_
   refine Tr.v2 rfl run_eql rfl rfl ?_
   refine Tr.v2 rfl (run_eqlB un_4) rfl rfl ?_
   refine Tr.nil (Tr.normThen ?_)
   refine Tr.cond rfl H (fun H => ?_) (fun H => ?_)
   ·refine Tr.sr ?_
    refine Tr.asg rfl rfl ?_
    refine Tr.nil (Tr.normThen ?_)
    refine Tr.ret (Tr.retBlock (Tr.retThen (Tr.retThen (Tr.retBlock (Tr.retThen ?_)))))
    obtain rfl := Option.some.inj H
    exact Tr.out (m := [(.bool false)]) [] (res_tmp rfl res_nil) (fun W hW => ⟨rfl, hW.low leB⟩)
   ·refine Tr.skip (Tr.normBlock (Tr.normThen ?_))
    refine Tr.region ?_
    refine Tr.v2 rfl run_add rfl rfl ?_
    refine Tr.mv rfl rfl ?_
    refine Tr.nil ?_
    exact Tr.backThen leL1 (restL1, (iL1 + 1)) ⟨rfl, range_tl hdL1, range_lt hdL1, H⟩ (.cons rfl (.cons rfl (.cons rfl (.cons (congrArg (fun z => some (Value.int .i64 z)) (range_up hdL1 hp0_0.form)) .nil)))) .nil

theorem F_plot_checkStep_ok {w : Bs} (p0 : TPlot) (Ap0_0 : Option Addr) (cp0_0 : Nat) (hp0_0 : Sl w.R w.W fl_TPlotTool Ap0_0 cp0_0 p0.Tools) (Ap0_1 : Option Addr) (cp0_1 : Nat) (hp0_1 : Sl w.R w.W fl_TPlotStep Ap0_1 cp0_1 p0.Steps) (p1 : TPlotStep) (Ap1_0 : Option Addr) (cp1_0 : Nat) (hp1_0 : Sl w.R w.W fl_TPoint Ap1_0 cp1_0 p1.Points) (Ap1_1 : Option Addr) (cp1_1 : Nat) (hp1_1 : Sl w.R w.W fl_TPlotStep Ap1_1 cp1_1 p1.Steps) (p2 : Int) (r : Int) (H : F_plot_checkStep p0 p1 p2 = some r) (hE : HF w w.W E0) : Calls Tryz.prog 98 [(.agg #[(iv p0.Unit), (.slice Ap0_0 (p0.Tools).length cp0_0), (.slice Ap0_1 (p0.Steps).length cp0_1)]), (.agg #[(iv p1.Kind), (sv p1.Name), (iv p1.At.X), (iv p1.At.Y), (.slice Ap1_0 (p1.Points).length cp1_0), (iv p1.NX), (iv p1.NY), (.slice Ap1_1 (p1.Steps).length cp1_1)]), (iv p2)].toArray w.W fun e W' => e = .returned (iv r) ∧ HF w W' E0 := by
 unfold F_plot_checkStep at H
 have leB := Bs.Le.refl w
 refine Tr.enter (n := 120) Tryz.func98 rfl rfl rfl hE ?_
 refine Tr.sr ?_
 refine Tr.box 1 (cs := [(iv p0.Unit), (.slice Ap0_0 (p0.Tools).length cp0_0), (.slice Ap0_1 (p0.Steps).length cp0_1)]) (wn rfl) rfl rfl rfl fun b100 => ?_
 refine Tr.box 2 (cs := [(iv p1.Kind), (sv p1.Name), (iv p1.At.X), (iv p1.At.Y), (.slice Ap1_0 (p1.Points).length cp1_0), (iv p1.NX), (iv p1.NY), (.slice Ap1_1 (p1.Steps).length cp1_1)]) (wn rfl) rfl rfl rfl fun b101 => ?_
 refine Tr.asg rfl rfl ?_
 refine Tr.nil (Tr.normThen ?_)
 refine Tr.seq ?_
 refine Tr.sr ?_
 refine Tr.v1 rfl (run_fieldAddr fo_53_0) rfl ?_
 refine Tr.va rfl (fun _ _ h1 h2 => run_load1 ag_3 (h1.ev rfl) (rdb h2 (vs := [(iv p1.Kind), (sv p1.Name), (iv p1.At.X), (iv p1.At.Y), (.slice Ap1_0 (p1.Points).length cp1_0), (iv p1.NX), (iv p1.NY), (.slice Ap1_1 (p1.Steps).length cp1_1)]) (k := 2) rfl 0) rfl) ?_
 obtain ⟨y102, hy102, H⟩ := bnd H
 refine Tr.call0 (r := (.bool y102)) (wn rfl) rfl Tryz.call47 (evl_cons rfl (evl_cons rfl (evl_cons rfl evl_nil))) (fun W hW => F_plot_within_ok p1.Kind 1 8 y102 hy102 (HF.start _)) ?_
 refine Tr.v1 rfl run_not rfl ?_
 refine Tr.nil (Tr.normThen ?_)
 refine Tr.cond rfl H (fun H => ?_) (fun H => ?_)
 ·refine Tr.sr ?_
  refine Tr.asg rfl rfl ?_
  refine Tr.nil (Tr.normThen ?_)
  refine Tr.ret (Tr.retThen ?_)
  obtain rfl := Option.some.inj H
  exact Tr.out (m := [(iv 4)]) [] (res_tmp rfl res_nil) (fun W hW => ⟨rfl, hW.low leB⟩)
 ·refine Tr.skip (Tr.normThen ?_)
  refine Tr.sr ?_
  refine Tr.v1 rfl (run_fieldAddr fo_53_0) rfl ?_
  refine Tr.va rfl (fun _ _ h1 h2 => run_load1 ag_3 (h1.ev rfl) (rdb h2 (vs := [(iv p1.Kind), (sv p1.Name), (iv p1.At.X), (iv p1.At.Y), (.slice Ap1_0 (p1.Points).length cp1_0), (iv p1.NX), (iv p1.NY), (.slice Ap1_1 (p1.Steps).length cp1_1)]) (k := 2) rfl 0) rfl) ?_
  obtain ⟨y103, hy103, H⟩ := bnd H
  refine Tr.call0 (r := (.agg #[(.bool y103.name), (.bool y103.at_), (.bool y103.points), (.bool y103.repeat_)])) (wn rfl) rfl Tryz.call134 (evl_cons rfl evl_nil) (fun W hW => F_plot_fieldsOf_ok p1.Kind y103 hy103 (HF.start _)) ?_
  refine Tr.alloc 3 (wn rfl) rfl ze_185 fun b104 => ?_
  refine Tr.store 3 (cs := [(.bool y103.name), (.bool y103.at_), (.bool y103.points), (.bool y103.repeat_)]) [(.bool y103.name), (.bool y103.at_), (.bool y103.points), (.bool y103.repeat_)] (wn rfl) rfl rfl rfl rfl sz_185 rfl rfl rfl ?_
  refine Tr.nil (Tr.normThen ?_)
  refine Tr.seq ?_
  refine Tr.block ?_
  have leJ106 := Bs.Le.refl w
  refine Tr.cutJ (σ := Bool) (fun w s => F_plot_checkStep_J1 p0 p1 y103 s = some r) (fun s => [(2, (iv p2)), (3, (.pointer (some ⟨b100, 0, none⟩))), (4, (.pointer (some ⟨b101, 0, none⟩))), (7, (.pointer (some ⟨b104, 0, none⟩))), (15, (.bool s))]) (fun s => [(1, bx b100 #[(iv p0.Unit), (.slice Ap0_0 (p0.Tools).length cp0_0), (.slice Ap0_1 (p0.Steps).length cp0_1)] 26), (2, bx b101 #[(iv p1.Kind), (sv p1.Name), (iv p1.At.X), (iv p1.At.Y), (.slice Ap1_0 (p1.Points).length cp1_0), (iv p1.NX), (iv p1.NY), (.slice Ap1_1 (p1.Steps).length cp1_1)] 53), (3, bx b104 #[(.bool y103.name), (.bool y103.at_), (.bool y103.points), (.bool y103.repeat_)] 185)]) ?_ ?_
  ·refine Tr.sr ?_
   refine Tr.v1 rfl (run_fieldAddr fo_185_0) rfl ?_
   refine Tr.va rfl (fun _ _ h1 h2 => run_load1 ag_4 (h1.ev rfl) (rdb h2 (vs := [(.bool y103.name), (.bool y103.at_), (.bool y103.points), (.bool y103.repeat_)]) (k := 3) rfl 0) rfl) ?_
   refine Tr.v1 rfl run_not rfl ?_
   refine Tr.mv rfl rfl ?_
   refine Tr.mid0 4 [(2, (iv p2)), (3, (.pointer (some ⟨b100, 0, none⟩))), (4, (.pointer (some ⟨b101, 0, none⟩))), (7, (.pointer (some ⟨b104, 0, none⟩))), (23, (.bool ((!y103.name) && (!sEq p1.Name ByteArray.empty))))] [(1, bx b100 #[(iv p0.Unit), (.slice Ap0_0 (p0.Tools).length cp0_0), (.slice Ap0_1 (p0.Steps).length cp0_1)] 26), (2, bx b101 #[(iv p1.Kind), (sv p1.Name), (iv p1.At.X), (iv p1.At.Y), (.slice Ap1_0 (p1.Points).length cp1_0), (iv p1.NX), (iv p1.NY), (.slice Ap1_1 (p1.Steps).length cp1_1)] 53), (3, bx b104 #[(.bool y103.name), (.bool y103.at_), (.bool y103.points), (.bool y103.repeat_)] 185)] ?_ ?_
   ·cases hg117 : (!y103.name)
    ·refine Tr.ps ?_
     refine Tr.ps ?_
     refine Tr.ps ?_
     refine Tr.v2 rfl run_pickF rfl rfl ?_
     exact Tr.nil (Tr.fin0 (.r rfl) (.r rfl))
    ·refine Tr.w1 (wg rfl rfl rfl) rfl (run_fieldAddr fo_53_1) rfl ?_
     refine Tr.val (wg rfl rfl rfl) rfl (fun _ _ h1 h2 => run_load1 ag_9 (h1.ev rfl) (rdb h2 (vs := [(iv p1.Kind), (sv p1.Name), (iv p1.At.X), (iv p1.At.Y), (.slice Ap1_0 (p1.Points).length cp1_0), (iv p1.NX), (iv p1.NY), (.slice Ap1_1 (p1.Steps).length cp1_1)]) (k := 2) rfl 1) rfl) ?_
     refine Tr.w2 (wg rfl rfl rfl) rfl run_neqS rfl rfl ?_
     refine Tr.v2 rfl run_pickT rfl rfl ?_
     exact Tr.nil (Tr.fin0 (.r rfl) (.r rfl))
   ·show Tr _ _ (LF [(2, (iv p2)), (3, (.pointer (some ⟨b100, 0, none⟩))), (4, (.pointer (some ⟨b101, 0, none⟩))), (7, (.pointer (some ⟨b104, 0, none⟩))), (23, (.bool ((!y103.name) && (!sEq p1.Name ByteArray.empty))))]) (LE [(1, bx b100 #[(iv p0.Unit), (.slice Ap0_0 (p0.Tools).length cp0_0), (.slice Ap0_1 (p0.Steps).length cp0_1)] 26), (2, bx b101 #[(iv p1.Kind), (sv p1.Name), (iv p1.At.X), (iv p1.At.Y), (.slice Ap1_0 (p1.Points).length cp1_0), (iv p1.NX), (iv p1.NY), (.slice Ap1_1 (p1.Steps).length cp1_1)] 53), (3, bx b104 #[(.bool y103.name), (.bool y103.at_), (.bool y103.points), (.bool y103.repeat_)] 185)]) _
    refine Tr.asg rfl rfl ?_
    refine Tr.nil (Tr.normThen ?_)
    refine Tr.cond rfl H (fun H => ?_) (fun H => ?_)
    ·refine Tr.skip ?_
     exact Tr.backThen leJ106 ((!y103.name) && (!sEq p1.Name ByteArray.empty)) H (.r rfl) (.r rfl)
    ·refine Tr.sr ?_
     refine Tr.v1 rfl (run_fieldAddr fo_185_1) rfl ?_
     refine Tr.va rfl (fun _ _ h1 h2 => run_load1 ag_4 (h1.ev rfl) (rdb h2 (vs := [(.bool y103.name), (.bool y103.at_), (.bool y103.points), (.bool y103.repeat_)]) (k := 3) rfl 1) rfl) ?_
     refine Tr.v1 rfl run_not rfl ?_
     refine Tr.mv rfl rfl ?_
     refine Tr.mid0 5 [(2, (iv p2)), (3, (.pointer (some ⟨b100, 0, none⟩))), (4, (.pointer (some ⟨b101, 0, none⟩))), (7, (.pointer (some ⟨b104, 0, none⟩))), (32, (.bool ((!y103.at_) && (!(eqTPoint p1.At (TPoint.mk 0 0))))))] [(1, bx b100 #[(iv p0.Unit), (.slice Ap0_0 (p0.Tools).length cp0_0), (.slice Ap0_1 (p0.Steps).length cp0_1)] 26), (2, bx b101 #[(iv p1.Kind), (sv p1.Name), (iv p1.At.X), (iv p1.At.Y), (.slice Ap1_0 (p1.Points).length cp1_0), (iv p1.NX), (iv p1.NY), (.slice Ap1_1 (p1.Steps).length cp1_1)] 53), (3, bx b104 #[(.bool y103.name), (.bool y103.at_), (.bool y103.points), (.bool y103.repeat_)] 185)] ?_ ?_
     ·cases hg117 : (!y103.at_)
      ·refine Tr.ps ?_
       refine Tr.ps ?_
       refine Tr.ps ?_
       refine Tr.ps ?_
       refine Tr.v2 rfl run_pickF rfl rfl ?_
       exact Tr.nil (Tr.fin0 (.r rfl) (.r rfl))
      ·refine Tr.w1 (wg rfl rfl rfl) rfl (run_fieldAddr fo_53_2) rfl ?_
       refine Tr.val (wg rfl rfl rfl) rfl (fun _ _ h1 h2 => run_loadN (cs := [(iv p1.At.X), (iv p1.At.Y)]) ag_47 sz_47 (h1.ev rfl) (CellsAt.take (rdb h2 (vs := [(iv p1.Kind), (sv p1.Name), (iv p1.At.X), (iv p1.At.Y), (.slice Ap1_0 (p1.Points).length cp1_0), (iv p1.NX), (iv p1.NY), (.slice Ap1_1 (p1.Steps).length cp1_1)]) (k := 2) rfl 2) 2) rfl) ?_
       refine Tr.build (vs := []) (cs := [(iv 0), (iv 0)]) (wg rfl rfl rfl) rfl evs_nil (by kernel_rfl) ?_
       refine Tr.w2 (wg rfl rfl rfl) rfl (run_neq_47 p1.At (TPoint.mk 0 0)) rfl rfl ?_
       refine Tr.v2 rfl run_pickT rfl rfl ?_
       exact Tr.nil (Tr.fin0 (.r rfl) (.r rfl))
     ·show Tr _ _ (LF [(2, (iv p2)), (3, (.pointer (some ⟨b100, 0, none⟩))), (4, (.pointer (some ⟨b101, 0, none⟩))), (7, (.pointer (some ⟨b104, 0, none⟩))), (32, (.bool ((!y103.at_) && (!(eqTPoint p1.At (TPoint.mk 0 0))))))]) (LE [(1, bx b100 #[(iv p0.Unit), (.slice Ap0_0 (p0.Tools).length cp0_0), (.slice Ap0_1 (p0.Steps).length cp0_1)] 26), (2, bx b101 #[(iv p1.Kind), (sv p1.Name), (iv p1.At.X), (iv p1.At.Y), (.slice Ap1_0 (p1.Points).length cp1_0), (iv p1.NX), (iv p1.NY), (.slice Ap1_1 (p1.Steps).length cp1_1)] 53), (3, bx b104 #[(.bool y103.name), (.bool y103.at_), (.bool y103.points), (.bool y103.repeat_)] 185)]) _
      refine Tr.asg rfl rfl ?_
      refine Tr.nil (Tr.normThen ?_)
      refine Tr.cond rfl H (fun H => ?_) (fun H => ?_)
      ·refine Tr.skip ?_
       exact Tr.backThen leJ106 ((!y103.at_) && (!(eqTPoint p1.At (TPoint.mk 0 0)))) H (.r rfl) (.r rfl)
      ·refine Tr.sr ?_
       refine Tr.v1 rfl (run_fieldAddr fo_185_2) rfl ?_
       refine Tr.va rfl (fun _ _ h1 h2 => run_load1 ag_4 (h1.ev rfl) (rdb h2 (vs := [(.bool y103.name), (.bool y103.at_), (.bool y103.points), (.bool y103.repeat_)]) (k := 3) rfl 2) rfl) ?_
       refine Tr.v1 rfl run_not rfl ?_
       refine Tr.mv rfl rfl ?_
       refine Tr.mid0 5 [(2, (iv p2)), (3, (.pointer (some ⟨b100, 0, none⟩))), (4, (.pointer (some ⟨b101, 0, none⟩))), (7, (.pointer (some ⟨b104, 0, none⟩))), (41, (.bool ((!y103.points) && (decide (0 < (p1.Points.length : Int))))))] [(1, bx b100 #[(iv p0.Unit), (.slice Ap0_0 (p0.Tools).length cp0_0), (.slice Ap0_1 (p0.Steps).length cp0_1)] 26), (2, bx b101 #[(iv p1.Kind), (sv p1.Name), (iv p1.At.X), (iv p1.At.Y), (.slice Ap1_0 (p1.Points).length cp1_0), (iv p1.NX), (iv p1.NY), (.slice Ap1_1 (p1.Steps).length cp1_1)] 53), (3, bx b104 #[(.bool y103.name), (.bool y103.at_), (.bool y103.points), (.bool y103.repeat_)] 185)] ?_ ?_
       ·cases hg117 : (!y103.points)
        ·refine Tr.ps ?_
         refine Tr.ps ?_
         refine Tr.ps ?_
         refine Tr.ps ?_
         refine Tr.v2 rfl run_pickF rfl rfl ?_
         exact Tr.nil (Tr.fin0 (.r rfl) (.r rfl))
        ·refine Tr.w1 (wg rfl rfl rfl) rfl (run_fieldAddr fo_53_3) rfl ?_
         refine Tr.val (wg rfl rfl rfl) rfl (fun _ _ h1 h2 => run_load1 ag_43 (h1.ev rfl) (rdb h2 (vs := [(iv p1.Kind), (sv p1.Name), (iv p1.At.X), (iv p1.At.Y), (.slice Ap1_0 (p1.Points).length cp1_0), (iv p1.NX), (iv p1.NY), (.slice Ap1_1 (p1.Steps).length cp1_1)]) (k := 2) rfl 4) rfl) ?_
         refine Tr.w1 (wg rfl rfl rfl) rfl (run_len un_43) rfl ?_
         refine Tr.w2 (wg rfl rfl rfl) rfl run_gtr rfl rfl ?_
         refine Tr.v2 rfl run_pickT rfl rfl ?_
         exact Tr.nil (Tr.fin0 (.r rfl) (.r rfl))
       ·show Tr _ _ (LF [(2, (iv p2)), (3, (.pointer (some ⟨b100, 0, none⟩))), (4, (.pointer (some ⟨b101, 0, none⟩))), (7, (.pointer (some ⟨b104, 0, none⟩))), (41, (.bool ((!y103.points) && (decide (0 < (p1.Points.length : Int))))))]) (LE [(1, bx b100 #[(iv p0.Unit), (.slice Ap0_0 (p0.Tools).length cp0_0), (.slice Ap0_1 (p0.Steps).length cp0_1)] 26), (2, bx b101 #[(iv p1.Kind), (sv p1.Name), (iv p1.At.X), (iv p1.At.Y), (.slice Ap1_0 (p1.Points).length cp1_0), (iv p1.NX), (iv p1.NY), (.slice Ap1_1 (p1.Steps).length cp1_1)] 53), (3, bx b104 #[(.bool y103.name), (.bool y103.at_), (.bool y103.points), (.bool y103.repeat_)] 185)]) _
        refine Tr.asg rfl rfl ?_
        refine Tr.nil (Tr.normThen ?_)
        refine Tr.cond rfl H (fun H => ?_) (fun H => ?_)
        ·refine Tr.skip ?_
         exact Tr.backThen leJ106 ((!y103.points) && (decide (0 < (p1.Points.length : Int)))) H (.r rfl) (.r rfl)
        ·refine Tr.region ?_
         refine Tr.v1 rfl (run_fieldAddr fo_185_3) rfl ?_
         refine Tr.va rfl (fun _ _ h1 h2 => run_load1 ag_4 (h1.ev rfl) (rdb h2 (vs := [(.bool y103.name), (.bool y103.at_), (.bool y103.points), (.bool y103.repeat_)]) (k := 3) rfl 3) rfl) ?_
         refine Tr.v1 rfl run_not rfl ?_
         refine Tr.mv rfl rfl ?_
         refine Tr.mid0 15 [(2, (iv p2)), (3, (.pointer (some ⟨b100, 0, none⟩))), (4, (.pointer (some ⟨b101, 0, none⟩))), (7, (.pointer (some ⟨b104, 0, none⟩))), (60, (.bool ((!y103.repeat_) && (((p1.NX != 0) || (p1.NY != 0)) || (decide (0 < (p1.Steps.length : Int)))))))] [(1, bx b100 #[(iv p0.Unit), (.slice Ap0_0 (p0.Tools).length cp0_0), (.slice Ap0_1 (p0.Steps).length cp0_1)] 26), (2, bx b101 #[(iv p1.Kind), (sv p1.Name), (iv p1.At.X), (iv p1.At.Y), (.slice Ap1_0 (p1.Points).length cp1_0), (iv p1.NX), (iv p1.NY), (.slice Ap1_1 (p1.Steps).length cp1_1)] 53), (3, bx b104 #[(.bool y103.name), (.bool y103.at_), (.bool y103.points), (.bool y103.repeat_)] 185)] ?_ ?_
         ·cases hg117 : (!y103.repeat_)
          ·refine Tr.ps ?_
           refine Tr.ps ?_
           refine Tr.ps ?_
           refine Tr.ps ?_
           refine Tr.pu ?_
           refine Tr.pu ?_
           refine Tr.pu ?_
           refine Tr.ps ?_
           refine Tr.ps ?_
           refine Tr.pu ?_
           refine Tr.pu ?_
           refine Tr.pu ?_
           refine Tr.pu ?_
           refine Tr.ps ?_
           refine Tr.v2 rfl run_pickF rfl rfl ?_
           exact Tr.nil (Tr.fin0 (.r rfl) (.r rfl))
          ·refine Tr.w1 (wg rfl rfl rfl) rfl (run_fieldAddr fo_53_4) rfl ?_
           refine Tr.val (wg rfl rfl rfl) rfl (fun _ _ h1 h2 => run_load1 ag_3 (h1.ev rfl) (rdb h2 (vs := [(iv p1.Kind), (sv p1.Name), (iv p1.At.X), (iv p1.At.Y), (.slice Ap1_0 (p1.Points).length cp1_0), (iv p1.NX), (iv p1.NY), (.slice Ap1_1 (p1.Steps).length cp1_1)]) (k := 2) rfl 5) rfl) ?_
           refine Tr.w2 (wg rfl rfl rfl) rfl run_neq rfl rfl ?_
           refine Tr.w1 (wg rfl rfl rfl) rfl run_move rfl ?_
           refine Tr.mid0 4 [(2, (iv p2)), (3, (.pointer (some ⟨b100, 0, none⟩))), (4, (.pointer (some ⟨b101, 0, none⟩))), (7, (.pointer (some ⟨b104, 0, none⟩))), (45, (.bool true)), (53, (.bool ((p1.NX != 0) || (p1.NY != 0))))] [(1, bx b100 #[(iv p0.Unit), (.slice Ap0_0 (p0.Tools).length cp0_0), (.slice Ap0_1 (p0.Steps).length cp0_1)] 26), (2, bx b101 #[(iv p1.Kind), (sv p1.Name), (iv p1.At.X), (iv p1.At.Y), (.slice Ap1_0 (p1.Points).length cp1_0), (iv p1.NX), (iv p1.NY), (.slice Ap1_1 (p1.Steps).length cp1_1)] 53), (3, bx b104 #[(.bool y103.name), (.bool y103.at_), (.bool y103.points), (.bool y103.repeat_)] 185)] ?_ ?_
           ·cases hg117 : (p1.NX != 0)
            ·refine Tr.w1 (wg rfl rfl rfl) rfl (run_fieldAddr fo_53_5) rfl ?_
             refine Tr.val (wg rfl rfl rfl) rfl (fun _ _ h1 h2 => run_load1 ag_3 (h1.ev rfl) (rdb h2 (vs := [(iv p1.Kind), (sv p1.Name), (iv p1.At.X), (iv p1.At.Y), (.slice Ap1_0 (p1.Points).length cp1_0), (iv p1.NX), (iv p1.NY), (.slice Ap1_1 (p1.Steps).length cp1_1)]) (k := 2) rfl 6) rfl) ?_
             refine Tr.w2 (wg rfl rfl rfl) rfl run_neq rfl rfl ?_
             refine Tr.w2 (wg rfl rfl rfl) rfl run_pickF rfl rfl ?_
             exact Tr.nil (Tr.fin0 (.r rfl) (.r rfl))
            ·refine Tr.ps ?_
             refine Tr.ps ?_
             refine Tr.ps ?_
             refine Tr.w2 (wg rfl rfl rfl) rfl run_pickT rfl rfl ?_
             exact Tr.nil (Tr.fin0 (.r rfl) (.r rfl))
           ·show Tr _ _ (LF [(2, (iv p2)), (3, (.pointer (some ⟨b100, 0, none⟩))), (4, (.pointer (some ⟨b101, 0, none⟩))), (7, (.pointer (some ⟨b104, 0, none⟩))), (45, (.bool true)), (53, (.bool ((p1.NX != 0) || (p1.NY != 0))))]) (LE [(1, bx b100 #[(iv p0.Unit), (.slice Ap0_0 (p0.Tools).length cp0_0), (.slice Ap0_1 (p0.Steps).length cp0_1)] 26), (2, bx b101 #[(iv p1.Kind), (sv p1.Name), (iv p1.At.X), (iv p1.At.Y), (.slice Ap1_0 (p1.Points).length cp1_0), (iv p1.NX), (iv p1.NY), (.slice Ap1_1 (p1.Steps).length cp1_1)] 53), (3, bx b104 #[(.bool y103.name), (.bool y103.at_), (.bool y103.points), (.bool y103.repeat_)] 185)]) _
            refine Tr.w1 (wg rfl rfl rfl) rfl run_move rfl ?_
            refine Tr.mid0 5 [(2, (iv p2)), (3, (.pointer (some ⟨b100, 0, none⟩))), (4, (.pointer (some ⟨b101, 0, none⟩))), (7, (.pointer (some ⟨b104, 0, none⟩))), (45, (.bool true)), (59, (.bool (((p1.NX != 0) || (p1.NY != 0)) || (decide (0 < (p1.Steps.length : Int))))))] [(1, bx b100 #[(iv p0.Unit), (.slice Ap0_0 (p0.Tools).length cp0_0), (.slice Ap0_1 (p0.Steps).length cp0_1)] 26), (2, bx b101 #[(iv p1.Kind), (sv p1.Name), (iv p1.At.X), (iv p1.At.Y), (.slice Ap1_0 (p1.Points).length cp1_0), (iv p1.NX), (iv p1.NY), (.slice Ap1_1 (p1.Steps).length cp1_1)] 53), (3, bx b104 #[(.bool y103.name), (.bool y103.at_), (.bool y103.points), (.bool y103.repeat_)] 185)] ?_ ?_
            ·cases hg117 : ((p1.NX != 0) || (p1.NY != 0))
             ·refine Tr.w1 (wg rfl rfl rfl) rfl (run_fieldAddr fo_53_6) rfl ?_
              refine Tr.val (wg rfl rfl rfl) rfl (fun _ _ h1 h2 => run_load1 ag_24 (h1.ev rfl) (rdb h2 (vs := [(iv p1.Kind), (sv p1.Name), (iv p1.At.X), (iv p1.At.Y), (.slice Ap1_0 (p1.Points).length cp1_0), (iv p1.NX), (iv p1.NY), (.slice Ap1_1 (p1.Steps).length cp1_1)]) (k := 2) rfl 7) rfl) ?_
              refine Tr.w1 (wg rfl rfl rfl) rfl (run_len un_24) rfl ?_
              refine Tr.w2 (wg rfl rfl rfl) rfl run_gtr rfl rfl ?_
              refine Tr.w2 (wg rfl rfl rfl) rfl run_pickF rfl rfl ?_
              exact Tr.nil (Tr.fin0 (.r rfl) (.r rfl))
             ·refine Tr.ps ?_
              refine Tr.ps ?_
              refine Tr.ps ?_
              refine Tr.ps ?_
              refine Tr.w2 (wg rfl rfl rfl) rfl run_pickT rfl rfl ?_
              exact Tr.nil (Tr.fin0 (.r rfl) (.r rfl))
            ·show Tr _ _ (LF [(2, (iv p2)), (3, (.pointer (some ⟨b100, 0, none⟩))), (4, (.pointer (some ⟨b101, 0, none⟩))), (7, (.pointer (some ⟨b104, 0, none⟩))), (45, (.bool true)), (59, (.bool (((p1.NX != 0) || (p1.NY != 0)) || (decide (0 < (p1.Steps.length : Int))))))]) (LE [(1, bx b100 #[(iv p0.Unit), (.slice Ap0_0 (p0.Tools).length cp0_0), (.slice Ap0_1 (p0.Steps).length cp0_1)] 26), (2, bx b101 #[(iv p1.Kind), (sv p1.Name), (iv p1.At.X), (iv p1.At.Y), (.slice Ap1_0 (p1.Points).length cp1_0), (iv p1.NX), (iv p1.NY), (.slice Ap1_1 (p1.Steps).length cp1_1)] 53), (3, bx b104 #[(.bool y103.name), (.bool y103.at_), (.bool y103.points), (.bool y103.repeat_)] 185)]) _
             refine Tr.v2 rfl run_pickT rfl rfl ?_
             exact Tr.nil (Tr.fin0 (.r rfl) (.r rfl))
         ·show Tr _ _ (LF [(2, (iv p2)), (3, (.pointer (some ⟨b100, 0, none⟩))), (4, (.pointer (some ⟨b101, 0, none⟩))), (7, (.pointer (some ⟨b104, 0, none⟩))), (60, (.bool ((!y103.repeat_) && (((p1.NX != 0) || (p1.NY != 0)) || (decide (0 < (p1.Steps.length : Int)))))))]) (LE [(1, bx b100 #[(iv p0.Unit), (.slice Ap0_0 (p0.Tools).length cp0_0), (.slice Ap0_1 (p0.Steps).length cp0_1)] 26), (2, bx b101 #[(iv p1.Kind), (sv p1.Name), (iv p1.At.X), (iv p1.At.Y), (.slice Ap1_0 (p1.Points).length cp1_0), (iv p1.NX), (iv p1.NY), (.slice Ap1_1 (p1.Steps).length cp1_1)] 53), (3, bx b104 #[(.bool y103.name), (.bool y103.at_), (.bool y103.points), (.bool y103.repeat_)] 185)]) _
          refine Tr.asg rfl rfl ?_
          refine Tr.nil ?_
          exact Tr.backThen leJ106 ((!y103.repeat_) && (((p1.NX != 0) || (p1.NY != 0)) || (decide (0 < (p1.Steps.length : Int))))) H (.r rfl) (.r rfl)
  ·intro w x105 hlJ107 hs
   have H := hs
   replace H : F_plot_checkStep_J1 p0 p1 y103 x105 = some r := H
   replace hp0_0 := hp0_0.leR hlJ107
   replace hp0_1 := hp0_1.leR hlJ107
   replace hp1_0 := hp1_0.leR hlJ107
   replace hp1_1 := hp1_1.leR hlJ107
   replace leB := leB.trans hlJ107
   unfold F_plot_checkStep_J1 at H
   show Tr _ _ (LF [(2, (iv p2)), (3, (.pointer (some ⟨b100, 0, none⟩))), (4, (.pointer (some ⟨b101, 0, none⟩))), (7, (.pointer (some ⟨b104, 0, none⟩))), (15, (.bool x105))]) (LE [(1, bx b100 #[(iv p0.Unit), (.slice Ap0_0 (p0.Tools).length cp0_0), (.slice Ap0_1 (p0.Steps).length cp0_1)] 26), (2, bx b101 #[(iv p1.Kind), (sv p1.Name), (iv p1.At.X), (iv p1.At.Y), (.slice Ap1_0 (p1.Points).length cp1_0), (iv p1.NX), (iv p1.NY), (.slice Ap1_1 (p1.Steps).length cp1_1)] 53), (3, bx b104 #[(.bool y103.name), (.bool y103.at_), (.bool y103.points), (.bool y103.repeat_)] 185)]) _
   refine Tr.cond rfl H (fun H => ?_) (fun H => ?_)
   ·refine Tr.sr ?_
    refine Tr.asg rfl rfl ?_
    refine Tr.nil (Tr.normThen ?_)
    refine Tr.ret (Tr.retBlock (Tr.retThen ?_))
    obtain rfl := Option.some.inj H
    exact Tr.out (m := [(iv 3)]) [] (res_tmp rfl res_nil) (fun W hW => ⟨rfl, hW.low leB⟩)
   ·refine Tr.sr ?_
    refine Tr.v1 rfl (run_fieldAddr fo_185_0) rfl ?_
    refine Tr.va rfl (fun _ _ h1 h2 => run_load1 ag_4 (h1.ev rfl) (rdb h2 (vs := [(.bool y103.name), (.bool y103.at_), (.bool y103.points), (.bool y103.repeat_)]) (k := 3) rfl 0) rfl) ?_
    refine Tr.mv rfl rfl ?_
    obtain ⟨g109, hg109, H⟩ := bnd H
    refine Tr.mid0 6 [(2, (iv p2)), (3, (.pointer (some ⟨b100, 0, none⟩))), (4, (.pointer (some ⟨b101, 0, none⟩))), (7, (.pointer (some ⟨b104, 0, none⟩))), (70, (.bool g109))] [(1, bx b100 #[(iv p0.Unit), (.slice Ap0_0 (p0.Tools).length cp0_0), (.slice Ap0_1 (p0.Steps).length cp0_1)] 26), (2, bx b101 #[(iv p1.Kind), (sv p1.Name), (iv p1.At.X), (iv p1.At.Y), (.slice Ap1_0 (p1.Points).length cp1_0), (iv p1.NX), (iv p1.NY), (.slice Ap1_1 (p1.Steps).length cp1_1)] 53), (3, bx b104 #[(.bool y103.name), (.bool y103.at_), (.bool y103.points), (.bool y103.repeat_)] 185)] ?_ ?_
    ·cases hg117 : y103.name
     ·rw [hg117] at hg109
      rw [if_neg (by decide)] at hg109
      have H := hg109
      obtain rfl := Option.some.inj H
      refine Tr.ps ?_
      refine Tr.ps ?_
      refine Tr.ps ?_
      refine Tr.ps ?_
      refine Tr.ps ?_
      refine Tr.v2 rfl run_pickF rfl rfl ?_
      exact Tr.nil (Tr.fin0 (.r rfl) (.r rfl))
     ·rw [hg117] at hg109
      rw [if_pos rfl] at hg109
      have H := hg109
      refine Tr.val (wg rfl rfl rfl) rfl (fun _ _ h1 h2 => run_loadN (cs := [(iv p0.Unit), (.slice Ap0_0 (p0.Tools).length cp0_0), (.slice Ap0_1 (p0.Steps).length cp0_1)]) ag_26 sz_26 (h1.ev rfl) (CellsAt.take (rdb h2 (vs := [(iv p0.Unit), (.slice Ap0_0 (p0.Tools).length cp0_0), (.slice Ap0_1 (p0.Steps).length cp0_1)]) (k := 1) rfl 0) 3) rfl) ?_
      refine Tr.w1 (wg rfl rfl rfl) rfl (run_fieldAddr fo_53_1) rfl ?_
      refine Tr.val (wg rfl rfl rfl) rfl (fun _ _ h1 h2 => run_load1 ag_9 (h1.ev rfl) (rdb h2 (vs := [(iv p1.Kind), (sv p1.Name), (iv p1.At.X), (iv p1.At.Y), (.slice Ap1_0 (p1.Points).length cp1_0), (iv p1.NX), (iv p1.NY), (.slice Ap1_1 (p1.Steps).length cp1_1)]) (k := 2) rfl 1) rfl) ?_
      obtain ⟨y110, hy110, H⟩ := bnd H
      refine Tr.call0 (r := (iv y110)) (wg rfl rfl rfl) rfl Tryz.call135 (evl_cons rfl (evl_cons rfl evl_nil)) (fun W hW => F_plot_toolAt_ok p0 Ap0_0 cp0_0 (hp0_0.ext hW.extAll) Ap0_1 cp0_1 (hp0_1.ext hW.extAll) p1.Name y110 hy110 (HF.start _)) ?_
      refine Tr.w2 (wg rfl rfl rfl) rfl run_lss rfl rfl ?_
      refine Tr.v2 rfl run_pickT rfl rfl ?_
      obtain rfl := Option.some.inj H
      exact Tr.nil (Tr.fin0 (.r rfl) (.r rfl))
    ·show Tr _ _ (LF [(2, (iv p2)), (3, (.pointer (some ⟨b100, 0, none⟩))), (4, (.pointer (some ⟨b101, 0, none⟩))), (7, (.pointer (some ⟨b104, 0, none⟩))), (70, (.bool g109))]) (LE [(1, bx b100 #[(iv p0.Unit), (.slice Ap0_0 (p0.Tools).length cp0_0), (.slice Ap0_1 (p0.Steps).length cp0_1)] 26), (2, bx b101 #[(iv p1.Kind), (sv p1.Name), (iv p1.At.X), (iv p1.At.Y), (.slice Ap1_0 (p1.Points).length cp1_0), (iv p1.NX), (iv p1.NY), (.slice Ap1_1 (p1.Steps).length cp1_1)] 53), (3, bx b104 #[(.bool y103.name), (.bool y103.at_), (.bool y103.points), (.bool y103.repeat_)] 185)]) _
     refine Tr.asg rfl rfl ?_
     refine Tr.nil (Tr.normThen ?_)
     refine Tr.cond rfl H (fun H => ?_) (fun H => ?_)
     ·refine Tr.sr ?_
      refine Tr.asg rfl rfl ?_
      refine Tr.nil (Tr.normThen ?_)
      refine Tr.ret (Tr.retBlock (Tr.retThen ?_))
      obtain rfl := Option.some.inj H
      exact Tr.out (m := [(iv 5)]) [] (res_tmp rfl res_nil) (fun W hW => ⟨rfl, hW.low leB⟩)
     ·refine Tr.sr ?_
      refine Tr.v1 rfl (run_fieldAddr fo_53_2) rfl ?_
      refine Tr.va rfl (fun _ _ h1 h2 => run_loadN (cs := [(iv p1.At.X), (iv p1.At.Y)]) ag_47 sz_47 (h1.ev rfl) (CellsAt.take (rdb h2 (vs := [(iv p1.Kind), (sv p1.Name), (iv p1.At.X), (iv p1.At.Y), (.slice Ap1_0 (p1.Points).length cp1_0), (iv p1.NX), (iv p1.NY), (.slice Ap1_1 (p1.Steps).length cp1_1)]) (k := 2) rfl 2) 2) rfl) ?_
      refine Tr.v1 rfl (run_fieldAddr fo_26_0) rfl ?_
      refine Tr.va rfl (fun _ _ h1 h2 => run_load1 ag_3 (h1.ev rfl) (rdb h2 (vs := [(iv p0.Unit), (.slice Ap0_0 (p0.Tools).length cp0_0), (.slice Ap0_1 (p0.Steps).length cp0_1)]) (k := 1) rfl 0) rfl) ?_
      obtain ⟨y111, hy111, H⟩ := bnd H
      refine Tr.call0 (r := (.bool y111)) (wn rfl) rfl Tryz.call136 (evl_cons rfl (evl_cons rfl evl_nil)) (fun W hW => F_plot_isPoint_ok p1.At p0.Unit y111 hy111 (HF.start _)) ?_
      refine Tr.v1 rfl run_not rfl ?_
      refine Tr.mv rfl rfl ?_
      obtain ⟨g113, hg113, H⟩ := bnd H
      refine Tr.mid0 5 [(2, (iv p2)), (4, (.pointer (some ⟨b101, 0, none⟩))), (7, (.pointer (some ⟨b104, 0, none⟩))), (83, (.bool g113))] [(1, bx b100 #[(iv p0.Unit), (.slice Ap0_0 (p0.Tools).length cp0_0), (.slice Ap0_1 (p0.Steps).length cp0_1)] 26), (2, bx b101 #[(iv p1.Kind), (sv p1.Name), (iv p1.At.X), (iv p1.At.Y), (.slice Ap1_0 (p1.Points).length cp1_0), (iv p1.NX), (iv p1.NY), (.slice Ap1_1 (p1.Steps).length cp1_1)] 53), (3, bx b104 #[(.bool y103.name), (.bool y103.at_), (.bool y103.points), (.bool y103.repeat_)] 185)] ?_ ?_
      ·cases hg117 : (!y111)
       ·rw [hg117] at hg113
        rw [if_neg (by decide)] at hg113
        have H := hg113
        refine Tr.w1 (wg rfl rfl rfl) rfl (run_fieldAddr fo_53_3) rfl ?_
        refine Tr.val (wg rfl rfl rfl) rfl (fun _ _ h1 h2 => run_load1 ag_43 (h1.ev rfl) (rdb h2 (vs := [(iv p1.Kind), (sv p1.Name), (iv p1.At.X), (iv p1.At.Y), (.slice Ap1_0 (p1.Points).length cp1_0), (iv p1.NX), (iv p1.NY), (.slice Ap1_1 (p1.Steps).length cp1_1)]) (k := 2) rfl 4) rfl) ?_
        refine Tr.mkFunc (vs := [(.pointer (some ⟨b100, 0, none⟩))]) (wg rfl rfl rfl) rfl (evl_cons rfl evl_nil) ?_
        obtain ⟨y114, hy114, H⟩ := bnd H
        refine Tr.call0 (r := (.bool y114)) (wg rfl rfl rfl) rfl Tryz.call137 (evl_cons rfl (evl_cons rfl evl_nil)) (fun W hW => F_slices_ContainsFunc_Point_ok p1.Points Ap1_0 cp1_0 (hp1_0.ext hW.extAll) (fun z0 => F_plot_checkStep_1 z0 p0) 138 [(.pointer (some ⟨b100, 0, none⟩))] Tryz.call138 (fun w' he z0 y hy => F_plot_checkStep_1_ok z0 p0 Ap0_0 cp0_0 (hp0_0.ext (hW.extAll.trans he)) Ap0_1 cp0_1 (hp0_1.ext (hW.extAll.trans he)) b100 (he.r _ (hW.capR (k := 1) rfl)) (he.cells (hW.capR (k := 1) rfl) (hW.capC (k := 1) rfl)) y hy (HF.start _)) y114 hy114 (HF.start _)) ?_
        refine Tr.v2 rfl run_pickF rfl rfl ?_
        obtain rfl := Option.some.inj H
        exact Tr.nil (Tr.fin0 (.r rfl) (.r rfl))
       ·rw [hg117] at hg113
        rw [if_pos rfl] at hg113
        have H := hg113
        obtain rfl := Option.some.inj H
        refine Tr.ps ?_
        refine Tr.ps ?_
        refine Tr.ps ?_
        refine Tr.ps ?_
        refine Tr.v2 rfl run_pickT rfl rfl ?_
        exact Tr.nil (Tr.fin0 (.r rfl) (.r rfl))
      ·show Tr _ _ (LF [(2, (iv p2)), (4, (.pointer (some ⟨b101, 0, none⟩))), (7, (.pointer (some ⟨b104, 0, none⟩))), (83, (.bool g113))]) (LE [(1, bx b100 #[(iv p0.Unit), (.slice Ap0_0 (p0.Tools).length cp0_0), (.slice Ap0_1 (p0.Steps).length cp0_1)] 26), (2, bx b101 #[(iv p1.Kind), (sv p1.Name), (iv p1.At.X), (iv p1.At.Y), (.slice Ap1_0 (p1.Points).length cp1_0), (iv p1.NX), (iv p1.NY), (.slice Ap1_1 (p1.Steps).length cp1_1)] 53), (3, bx b104 #[(.bool y103.name), (.bool y103.at_), (.bool y103.points), (.bool y103.repeat_)] 185)]) _
       refine Tr.asg rfl rfl ?_
       refine Tr.nil (Tr.normThen ?_)
       refine Tr.cond rfl H (fun H => ?_) (fun H => ?_)
       ·refine Tr.sr ?_
        refine Tr.asg rfl rfl ?_
        refine Tr.nil (Tr.normThen ?_)
        refine Tr.ret (Tr.retBlock (Tr.retThen ?_))
        obtain rfl := Option.some.inj H
        exact Tr.out (m := [(iv 1)]) [] (res_tmp rfl res_nil) (fun W hW => ⟨rfl, hW.low leB⟩)
       ·refine Tr.sr ?_
        refine Tr.v1 rfl (run_fieldAddr fo_53_3) rfl ?_
        refine Tr.va rfl (fun _ _ h1 h2 => run_load1 ag_43 (h1.ev rfl) (rdb h2 (vs := [(iv p1.Kind), (sv p1.Name), (iv p1.At.X), (iv p1.At.Y), (.slice Ap1_0 (p1.Points).length cp1_0), (iv p1.NX), (iv p1.NY), (.slice Ap1_1 (p1.Steps).length cp1_1)]) (k := 2) rfl 4) rfl) ?_
        refine Tr.v1 rfl (run_len un_43) rfl ?_
        refine Tr.v2 rfl run_gtr rfl rfl ?_
        refine Tr.asg rfl rfl ?_
        refine Tr.nil (Tr.normThen ?_)
        refine Tr.cond rfl H (fun H => ?_) (fun H => ?_)
        ·refine Tr.sr ?_
         refine Tr.asg rfl rfl ?_
         refine Tr.nil (Tr.normThen ?_)
         refine Tr.ret (Tr.retBlock (Tr.retThen ?_))
         obtain rfl := Option.some.inj H
         exact Tr.out (m := [(iv 2)]) [] (res_tmp rfl res_nil) (fun W hW => ⟨rfl, hW.low leB⟩)
        ·refine Tr.sr ?_
         refine Tr.v1 rfl (run_fieldAddr fo_185_2) rfl ?_
         refine Tr.va rfl (fun _ _ h1 h2 => run_load1 ag_4 (h1.ev rfl) (rdb h2 (vs := [(.bool y103.name), (.bool y103.at_), (.bool y103.points), (.bool y103.repeat_)]) (k := 3) rfl 2) rfl) ?_
         refine Tr.mv rfl rfl ?_
         obtain ⟨g116, hg116, H⟩ := bnd H
         refine Tr.mid0 5 [(2, (iv p2)), (4, (.pointer (some ⟨b101, 0, none⟩))), (7, (.pointer (some ⟨b104, 0, none⟩))), (97, (.bool g116))] [(1, bx b100 #[(iv p0.Unit), (.slice Ap0_0 (p0.Tools).length cp0_0), (.slice Ap0_1 (p0.Steps).length cp0_1)] 26), (2, bx b101 #[(iv p1.Kind), (sv p1.Name), (iv p1.At.X), (iv p1.At.Y), (.slice Ap1_0 (p1.Points).length cp1_0), (iv p1.NX), (iv p1.NY), (.slice Ap1_1 (p1.Steps).length cp1_1)] 53), (3, bx b104 #[(.bool y103.name), (.bool y103.at_), (.bool y103.points), (.bool y103.repeat_)] 185)] ?_ ?_
         ·cases hg117 : y103.points
          ·rw [hg117] at hg116
           rw [if_neg (by decide)] at hg116
           have H := hg116
           obtain rfl := Option.some.inj H
           refine Tr.ps ?_
           refine Tr.ps ?_
           refine Tr.ps ?_
           refine Tr.ps ?_
           refine Tr.v2 rfl run_pickF rfl rfl ?_
           exact Tr.nil (Tr.fin0 (.r rfl) (.r rfl))
          ·rw [hg117] at hg116
           rw [if_pos rfl] at hg116
           have H := hg116
           refine Tr.w1 (wg rfl rfl rfl) rfl (run_fieldAddr fo_53_3) rfl ?_
           refine Tr.val (wg rfl rfl rfl) rfl (fun _ _ h1 h2 => run_load1 ag_43 (h1.ev rfl) (rdb h2 (vs := [(iv p1.Kind), (sv p1.Name), (iv p1.At.X), (iv p1.At.Y), (.slice Ap1_0 (p1.Points).length cp1_0), (iv p1.NX), (iv p1.NY), (.slice Ap1_1 (p1.Steps).length cp1_1)]) (k := 2) rfl 4) rfl) ?_
           obtain ⟨y117, hy117, H⟩ := bnd H
           refine Tr.call0 (r := (.bool y117)) (wg rfl rfl rfl) rfl Tryz.call139 (evl_cons rfl evl_nil) (fun W hW => F_shape_IsRow_ok p1.Points Ap1_0 cp1_0 (hp1_0.ext hW.extAll) y117 hy117 (HF.start _)) ?_
           refine Tr.w1 (wg rfl rfl rfl) rfl run_not rfl ?_
           refine Tr.v2 rfl run_pickT rfl rfl ?_
           obtain rfl := Option.some.inj H
           exact Tr.nil (Tr.fin0 (.r rfl) (.r rfl))
         ·show Tr _ _ (LF [(2, (iv p2)), (4, (.pointer (some ⟨b101, 0, none⟩))), (7, (.pointer (some ⟨b104, 0, none⟩))), (97, (.bool g116))]) (LE [(1, bx b100 #[(iv p0.Unit), (.slice Ap0_0 (p0.Tools).length cp0_0), (.slice Ap0_1 (p0.Steps).length cp0_1)] 26), (2, bx b101 #[(iv p1.Kind), (sv p1.Name), (iv p1.At.X), (iv p1.At.Y), (.slice Ap1_0 (p1.Points).length cp1_0), (iv p1.NX), (iv p1.NY), (.slice Ap1_1 (p1.Steps).length cp1_1)] 53), (3, bx b104 #[(.bool y103.name), (.bool y103.at_), (.bool y103.points), (.bool y103.repeat_)] 185)]) _
          refine Tr.asg rfl rfl ?_
          refine Tr.nil (Tr.normThen ?_)
          refine Tr.cond rfl H (fun H => ?_) (fun H => ?_)
          ·refine Tr.sr ?_
           refine Tr.asg rfl rfl ?_
           refine Tr.nil (Tr.normThen ?_)
           refine Tr.ret (Tr.retBlock (Tr.retThen ?_))
           obtain rfl := Option.some.inj H
           exact Tr.out (m := [(iv 3)]) [] (res_tmp rfl res_nil) (fun W hW => ⟨rfl, hW.low leB⟩)
          ·refine Tr.skip (Tr.normBlock (Tr.normThen ?_))
           refine Tr.seq ?_
           refine Tr.sr ?_
           refine Tr.v1 rfl (run_fieldAddr fo_185_3) rfl ?_
           refine Tr.va rfl (fun _ _ h1 h2 => run_load1 ag_4 (h1.ev rfl) (rdb h2 (vs := [(.bool y103.name), (.bool y103.at_), (.bool y103.points), (.bool y103.repeat_)]) (k := 3) rfl 3) rfl) ?_
           refine Tr.v1 rfl run_not rfl ?_
           refine Tr.nil (Tr.normThen ?_)
           refine Tr.cond rfl H (fun H => ?_) (fun H => ?_)
           ·refine Tr.sr ?_
            refine Tr.asg rfl rfl ?_
            refine Tr.nil (Tr.normThen ?_)
            refine Tr.ret (Tr.retThen ?_)
            obtain rfl := Option.some.inj H
            exact Tr.out (m := [(iv 0)]) [] (res_tmp rfl res_nil) (fun W hW => ⟨rfl, hW.low leB⟩)
           ·refine Tr.skip (Tr.normThen ?_)
            refine Tr.seq ?_
            refine Tr.block ?_
            refine Tr.seq ?_
            cases H

theorem F_plot_checkSteps_b_ok (N : Nat) (rec : TPlot → (List TPlotStep) → Int → Option Int) (hrec : ∀ {w : Bs} (p0 : TPlot) (Ap0_0 : Option Addr) (cp0_0 : Nat) (hp0_0 : Sl w.R w.W fl_TPlotTool Ap0_0 cp0_0 p0.Tools) (Ap0_1 : Option Addr) (cp0_1 : Nat) (hp0_1 : Sl w.R w.W fl_TPlotStep Ap0_1 cp0_1 p0.Steps) (p1 : (List TPlotStep)) (Ap1_0 : Option Addr) (cp1_0 : Nat) (hp1_0 : Sl w.R w.W fl_TPlotStep Ap1_0 cp1_0 p1) (p2 : Int) (r : Int) (H : rec p0 p1 p2 = some r) (hE : HF w w.W E0), Calls Tryz.prog 50 [(.agg #[(iv p0.Unit), (.slice Ap0_0 (p0.Tools).length cp0_0), (.slice Ap0_1 (p0.Steps).length cp0_1)]), (.slice Ap1_0 (p1).length cp1_0), (iv p2)].toArray w.W fun e W' => e = .returned (iv r) ∧ HF w W' E0) {w : Bs} (p0 : TPlot) (Ap0_0 : Option Addr) (cp0_0 : Nat) (hp0_0 : Sl w.R w.W fl_TPlotTool Ap0_0 cp0_0 p0.Tools) (Ap0_1 : Option Addr) (cp0_1 : Nat) (hp0_1 : Sl w.R w.W fl_TPlotStep Ap0_1 cp0_1 p0.Steps) (p1 : (List TPlotStep)) (Ap1_0 : Option Addr) (cp1_0 : Nat) (hp1_0 : Sl w.R w.W fl_TPlotStep Ap1_0 cp1_0 p1) (p2 : Int) (r : Int) (H : F_plot_checkSteps_b N rec p0 p1 p2 = some r) (hE : HF w w.W E0) : Calls Tryz.prog 50 [(.agg #[(iv p0.Unit), (.slice Ap0_0 (p0.Tools).length cp0_0), (.slice Ap0_1 (p0.Steps).length cp0_1)]), (.slice Ap1_0 (p1).length cp1_0), (iv p2)].toArray w.W fun e W' => e = .returned (iv r) ∧ HF w W' E0 := by
 unfold F_plot_checkSteps_b at H
 have leB := Bs.Le.refl w
 refine Tr.enter (n := 34) Tryz.func50 rfl rfl rfl hE ?_
 refine Tr.sr ?_
 refine Tr.box 1 (cs := [(iv p0.Unit), (.slice Ap0_0 (p0.Tools).length cp0_0), (.slice Ap0_1 (p0.Steps).length cp0_1)]) (wn rfl) rfl rfl rfl fun b100 => ?_
 refine Tr.asg rfl rfl ?_
 refine Tr.nil (Tr.normThen ?_)
 refine Tr.seq ?_
 refine Tr.sr ?_
 refine Tr.mv rfl rfl ?_
 refine Tr.v1 rfl (run_len un_24) rfl ?_
 refine Tr.mv rfl rfl ?_
 refine Tr.nil (Tr.normThen ?_)
 refine Tr.block ?_
 refine Tr.loop (σ := (List TPlotStep) × Nat) (fun m w s => m = s.1.length + 1 ∧ s.1 = List.drop s.2 p1 ∧ s.2 ≤ p1.length ∧ F_plot_checkSteps_L1 p0 p2 rec s.1 s.2 = some r) (fun s => [(2, (iv p2)), (3, (.pointer (some ⟨b100, 0, none⟩))), (11, (.slice Ap1_0 (p1).length cp1_0)), (12, (iv (p1.length : Int))), (13, (iv (s.2 : Int)))]) (fun s => [(1, bx b100 #[(iv p0.Unit), (.slice Ap0_0 (p0.Tools).length cp0_0), (.slice Ap0_1 (p0.Steps).length cp0_1)] 26)]) (p1.length + 1) (p1, 0) ⟨rfl, rfl, Nat.zero_le _, H⟩ (.r rfl) (.r rfl) (fun _ _ h => absurd h.1 (by simp)) ?_
 intro w leL1 m s hs
 obtain ⟨restL1, iL1⟩ := s
 obtain ⟨hmL1, hdL1, hiL1, H⟩ := hs
 replace hdL1 : restL1 = List.drop iL1 p1 := hdL1
 replace H : F_plot_checkSteps_L1 p0 p2 rec restL1 iL1 = some r := H
 replace hmL1 : m + 1 = restL1.length + 1 := hmL1
 replace hp0_0 := hp0_0.leR leL1
 replace hp0_1 := hp0_1.leR leL1
 replace hp1_0 := hp1_0.leR leL1
 replace leB := leB.trans leL1
 obtain rfl : m = restL1.length := by omega
 clear hmL1
 show Tr _ _ (LF [(2, (iv p2)), (3, (.pointer (some ⟨b100, 0, none⟩))), (11, (.slice Ap1_0 (p1).length cp1_0)), (12, (iv (p1.length : Int))), (13, (iv (iL1 : Int)))]) (LE [(1, bx b100 #[(iv p0.Unit), (.slice Ap0_0 (p0.Tools).length cp0_0), (.slice Ap0_1 (p0.Steps).length cp0_1)] 26)]) _
 cases restL1 with
 | nil =>
  rw [F_plot_checkSteps_L1.eq_1] at H
  refine Tr.sr ?_
  refine Tr.v2 rfl run_lss rfl rfl ?_
  refine Tr.nil (Tr.normThen ?_)
  refine Tr.seq ?_
  refine Tr.condF rfl (range_nil hdL1) ?_
  refine Tr.exit (Tr.exitThen (Tr.exitThen (Tr.exitBlock (Tr.normThen ?_))))
  refine Tr.sr ?_
  refine Tr.asg rfl rfl ?_
  refine Tr.nil (Tr.normThen ?_)
  refine Tr.ret ?_
  obtain rfl := Option.some.inj H
  exact Tr.out (m := [(iv 0)]) [] (res_tmp rfl res_nil) (fun W hW => ⟨rfl, hW.low leB⟩)
 | cons xL1 restL1 =>
  rw [F_plot_checkSteps_L1.eq_2] at H
  refine Tr.sr ?_
  refine Tr.v2 rfl run_lss rfl rfl ?_
  refine Tr.nil (Tr.normThen ?_)
  refine Tr.seq ?_
  refine Tr.condT rfl (range_on hdL1) ?_
  refine Tr.skip (Tr.normThen ?_)
  refine Tr.seq ?_
  refine Tr.block ?_
  refine Tr.sr ?_
  obtain ⟨u107, hRu107, hoku107, hcu107⟩ := (hp1_0).el (range_at hdL1)
  obtain ⟨⟨Au107_0, cu107_0⟩, ⟨Au107_1, cu107_1⟩⟩ := u107
  obtain ⟨hoku107_0, hoku107_1⟩ := TPlotStep_ok.1 hoku107
  replace hoku107_0 : Sl w.R w.W fl_TPoint Au107_0 cu107_0 xL1.Points := hoku107_0
  replace hoku107_1 : Sl w.R w.W fl_TPlotStep Au107_1 cu107_1 xL1.Steps := hoku107_1
  refine Tr.va rfl (fun _ _ h1 h2 => run_indexAddr el_24 (h1.ev rfl) hp1_0.form (h1.ev rfl) (Int.natCast_nonneg _) (range_lt hdL1)) ?_
  refine Tr.va rfl (fun _ _ h1 h2 => run_loadN (cs := [(iv xL1.Kind), (sv xL1.Name), (iv xL1.At.X), (iv xL1.At.Y), (.slice Au107_0 (xL1.Points).length cu107_0), (iv xL1.NX), (iv xL1.NY), (.slice Au107_1 (xL1.Steps).length cu107_1)]) ag_53 sz_53 (h1.ev rfl) (CellsAt.take (rdR hRu107 hcu107 h2) 8) rfl) ?_
  refine Tr.alloc 3 (wn rfl) rfl ze_53 fun b108 => ?_
  refine Tr.store 3 (cs := [(iv xL1.Kind), (sv xL1.Name), (iv xL1.At.X), (iv xL1.At.Y), (.slice Au107_0 (xL1.Points).length cu107_0), (iv xL1.NX), (iv xL1.NY), (.slice Au107_1 (xL1.Steps).length cu107_1)]) [(iv xL1.Kind), (sv xL1.Name), (iv xL1.At.X), (iv xL1.At.Y), (.slice Au107_0 (xL1.Points).length cu107_0), (iv xL1.NX), (iv xL1.NY), (.slice Au107_1 (xL1.Steps).length cu107_1)] (wn rfl) rfl rfl rfl rfl sz_53 rfl rfl rfl ?_
  refine Tr.nil (Tr.normThen ?_)
  refine Tr.seq ?_
  refine Tr.sr ?_
  refine Tr.va rfl (fun _ _ h1 h2 => run_loadN (cs := [(iv p0.Unit), (.slice Ap0_0 (p0.Tools).length cp0_0), (.slice Ap0_1 (p0.Steps).length cp0_1)]) ag_26 sz_26 (h1.ev rfl) (CellsAt.take (rdb h2 (vs := [(iv p0.Unit), (.slice Ap0_0 (p0.Tools).length cp0_0), (.slice Ap0_1 (p0.Steps).length cp0_1)]) (k := 1) rfl 0) 3) rfl) ?_
  refine Tr.va rfl (fun _ _ h1 h2 => run_loadN (cs := [(iv xL1.Kind), (sv xL1.Name), (iv xL1.At.X), (iv xL1.At.Y), (.slice Au107_0 (xL1.Points).length cu107_0), (iv xL1.NX), (iv xL1.NY), (.slice Au107_1 (xL1.Steps).length cu107_1)]) ag_53 sz_53 (h1.ev rfl) (CellsAt.take (rdb h2 (vs := [(iv xL1.Kind), (sv xL1.Name), (iv xL1.At.X), (iv xL1.At.Y), (.slice Au107_0 (xL1.Points).length cu107_0), (iv xL1.NX), (iv xL1.NY), (.slice Au107_1 (xL1.Steps).length cu107_1)]) (k := 3) rfl 0) 8) rfl) ?_
  refine Tr.mv rfl rfl ?_
  obtain ⟨y109, hy109, H⟩ := bnd H
  refine Tr.call0 (r := (iv y109)) (wn rfl) rfl Tryz.call98 (evl_cons rfl (evl_cons rfl (evl_cons rfl evl_nil))) (fun W hW => F_plot_checkStep_ok p0 Ap0_0 cp0_0 (hp0_0.ext hW.extAll) Ap0_1 cp0_1 (hp0_1.ext hW.extAll) xL1 Au107_0 cu107_0 (hoku107_0.ext hW.extAll) Au107_1 cu107_1 (hoku107_1.ext hW.extAll) p2 y109 hy109 (HF.start _)) ?_
  refine Tr.asg rfl rfl ?_
  refine Tr.nil (Tr.normThen ?_)
  refine Tr.sr ?_
  refine Tr.mv rfl rfl ?_
  refine Tr.v2 rfl run_neq rfl rfl ?_
  refine Tr.nil (Tr.normThen ?_)
  refine Tr.cond rfl H (fun H => ?_) (fun H => ?_)
  ·refine Tr.sr ?_
   refine Tr.mv rfl rfl ?_
   refine Tr.asg rfl rfl ?_
   refine Tr.nil (Tr.normThen ?_)
   refine Tr.ret (Tr.retThen (Tr.retBlock (Tr.retThen (Tr.retThen (Tr.retBlock (Tr.retThen ?_))))))
   obtain rfl := Option.some.inj H
   exact Tr.out (m := [(iv y109)]) [] (res_tmp rfl res_nil) (fun W hW => ⟨rfl, hW.low leB⟩)
  ·refine Tr.skip (Tr.normThen ?_)
   refine Tr.sr ?_
   refine Tr.va rfl (fun _ _ h1 h2 => run_loadN (cs := [(iv p0.Unit), (.slice Ap0_0 (p0.Tools).length cp0_0), (.slice Ap0_1 (p0.Steps).length cp0_1)]) ag_26 sz_26 (h1.ev rfl) (CellsAt.take (rdb h2 (vs := [(iv p0.Unit), (.slice Ap0_0 (p0.Tools).length cp0_0), (.slice Ap0_1 (p0.Steps).length cp0_1)]) (k := 1) rfl 0) 3) rfl) ?_
   refine Tr.v1 rfl (run_fieldAddr fo_53_6) rfl ?_
   refine Tr.va rfl (fun _ _ h1 h2 => run_load1 ag_24 (h1.ev rfl) (rdb h2 (vs := [(iv xL1.Kind), (sv xL1.Name), (iv xL1.At.X), (iv xL1.At.Y), (.slice Au107_0 (xL1.Points).length cu107_0), (iv xL1.NX), (iv xL1.NY), (.slice Au107_1 (xL1.Steps).length cu107_1)]) (k := 3) rfl 7) rfl) ?_
   refine Tr.mv rfl rfl ?_
   refine Tr.v2 rfl run_add rfl rfl ?_
   obtain ⟨y110, hy110, H⟩ := bnd H
   refine Tr.call0 (r := (iv y110)) (wn rfl) rfl Tryz.call50 (evl_cons rfl (evl_cons rfl (evl_cons rfl evl_nil))) (fun W hW => hrec p0 Ap0_0 cp0_0 (hp0_0.ext hW.extAll) Ap0_1 cp0_1 (hp0_1.ext hW.extAll) xL1.Steps Au107_1 cu107_1 (hoku107_1.ext hW.extAll) (w64 (p2 + 1)) y110 hy110 (HF.start _)) ?_
   refine Tr.asg rfl rfl ?_
   refine Tr.nil (Tr.normThen ?_)
   refine Tr.sr ?_
   refine Tr.mv rfl rfl ?_
   refine Tr.v2 rfl run_neq rfl rfl ?_
   refine Tr.nil (Tr.normThen ?_)
   refine Tr.cond rfl H (fun H => ?_) (fun H => ?_)
   ·refine Tr.sr ?_
    refine Tr.mv rfl rfl ?_
    refine Tr.asg rfl rfl ?_
    refine Tr.nil (Tr.normThen ?_)
    refine Tr.ret (Tr.retBlock (Tr.retThen (Tr.retThen (Tr.retBlock (Tr.retThen ?_)))))
    obtain rfl := Option.some.inj H
    exact Tr.out (m := [(iv y110)]) [] (res_tmp rfl res_nil) (fun W hW => ⟨rfl, hW.low leB⟩)
   ·refine Tr.skip (Tr.normBlock (Tr.normThen ?_))
    refine Tr.region ?_
    refine Tr.v2 rfl run_add rfl rfl ?_
    refine Tr.mv rfl rfl ?_
    refine Tr.nil ?_
    exact Tr.backThen leL1 (restL1, (iL1 + 1)) ⟨rfl, range_tl hdL1, range_lt hdL1, H⟩ (.cons rfl (.cons rfl (.cons rfl (.cons rfl (.cons (congrArg (fun z => some (Value.int .i64 z)) (range_up hdL1 hp1_0.form)) .nil))))) (.r rfl)
theorem F_plot_checkSteps_ok : ∀ (N : Nat) {w : Bs} (p0 : TPlot) (Ap0_0 : Option Addr) (cp0_0 : Nat) (hp0_0 : Sl w.R w.W fl_TPlotTool Ap0_0 cp0_0 p0.Tools) (Ap0_1 : Option Addr) (cp0_1 : Nat) (hp0_1 : Sl w.R w.W fl_TPlotStep Ap0_1 cp0_1 p0.Steps) (p1 : (List TPlotStep)) (Ap1_0 : Option Addr) (cp1_0 : Nat) (hp1_0 : Sl w.R w.W fl_TPlotStep Ap1_0 cp1_0 p1) (p2 : Int) (r : Int) (H : F_plot_checkSteps N p0 p1 p2 = some r) (hE : HF w w.W E0), Calls Tryz.prog 50 [(.agg #[(iv p0.Unit), (.slice Ap0_0 (p0.Tools).length cp0_0), (.slice Ap0_1 (p0.Steps).length cp0_1)]), (.slice Ap1_0 (p1).length cp1_0), (iv p2)].toArray w.W fun e W' => e = .returned (iv r) ∧ HF w W' E0
 | 0 => by intros; rename_i H _; cases H
 | N + 1 => F_plot_checkSteps_b_ok N (F_plot_checkSteps N) (F_plot_checkSteps_ok N)

theorem F_plot_CheckPlot_ok (N : Nat) {w : Bs} (p0 : TPlot) (Ap0_0 : Option Addr) (cp0_0 : Nat) (hp0_0 : Sl w.R w.W fl_TPlotTool Ap0_0 cp0_0 p0.Tools) (Ap0_1 : Option Addr) (cp0_1 : Nat) (hp0_1 : Sl w.R w.W fl_TPlotStep Ap0_1 cp0_1 p0.Steps) (r : Int) (H : F_plot_CheckPlot N p0 = some r) (hE : HF w w.W E0) : Calls Tryz.prog 26 [(.agg #[(iv p0.Unit), (.slice Ap0_0 (p0.Tools).length cp0_0), (.slice Ap0_1 (p0.Steps).length cp0_1)])].toArray w.W fun e W' => e = .returned (iv r) ∧ HF w W' E0 := by
 unfold F_plot_CheckPlot at H
 have leB := Bs.Le.refl w
 refine Tr.enter (n := 52) Tryz.func26 rfl rfl rfl hE ?_
 refine Tr.sr ?_
 refine Tr.box 1 (cs := [(iv p0.Unit), (.slice Ap0_0 (p0.Tools).length cp0_0), (.slice Ap0_1 (p0.Steps).length cp0_1)]) (wn rfl) rfl rfl rfl fun b100 => ?_
 refine Tr.asg rfl rfl ?_
 refine Tr.nil (Tr.normThen ?_)
 refine Tr.seq ?_
 refine Tr.sr ?_
 refine Tr.v1 rfl (run_fieldAddr fo_26_0) rfl ?_
 refine Tr.va rfl (fun _ _ h1 h2 => run_load1 ag_3 (h1.ev rfl) (rdb h2 (vs := [(iv p0.Unit), (.slice Ap0_0 (p0.Tools).length cp0_0), (.slice Ap0_1 (p0.Steps).length cp0_1)]) (k := 1) rfl 0) rfl) ?_
 obtain ⟨y101, hy101, H⟩ := bnd H
 refine Tr.call0 (r := (.bool y101)) (wn rfl) rfl Tryz.call47 (evl_cons rfl (evl_cons rfl (evl_cons rfl evl_nil))) (fun W hW => F_plot_within_ok p0.Unit 1 1000 y101 hy101 (HF.start _)) ?_
 refine Tr.v1 rfl run_not rfl ?_
 refine Tr.nil (Tr.normThen ?_)
 refine Tr.cond rfl H (fun H => ?_) (fun H => ?_)
 ·refine Tr.sr ?_
  refine Tr.asg rfl rfl ?_
  refine Tr.nil (Tr.normThen ?_)
  refine Tr.ret (Tr.retThen ?_)
  obtain rfl := Option.some.inj H
  exact Tr.out (m := [(iv 1)]) [] (res_tmp rfl res_nil) (fun W hW => ⟨rfl, hW.low leB⟩)
 ·refine Tr.skip (Tr.normThen ?_)
  refine Tr.seq ?_
  refine Tr.sr ?_
  refine Tr.v1 rfl (run_fieldAddr fo_26_1) rfl ?_
  refine Tr.va rfl (fun _ _ h1 h2 => run_load1 ag_23 (h1.ev rfl) (rdb h2 (vs := [(iv p0.Unit), (.slice Ap0_0 (p0.Tools).length cp0_0), (.slice Ap0_1 (p0.Steps).length cp0_1)]) (k := 1) rfl 1) rfl) ?_
  refine Tr.v1 rfl (run_len un_23) rfl ?_
  refine Tr.v2 rfl run_gtr rfl rfl ?_
  refine Tr.nil (Tr.normThen ?_)
  refine Tr.cond rfl H (fun H => ?_) (fun H => ?_)
  ·refine Tr.sr ?_
   refine Tr.asg rfl rfl ?_
   refine Tr.nil (Tr.normThen ?_)
   refine Tr.ret (Tr.retThen ?_)
   obtain rfl := Option.some.inj H
   exact Tr.out (m := [(iv 2)]) [] (res_tmp rfl res_nil) (fun W hW => ⟨rfl, hW.low leB⟩)
  ·refine Tr.skip (Tr.normThen ?_)
   refine Tr.seq ?_
   refine Tr.sr ?_
   refine Tr.v1 rfl (run_fieldAddr fo_26_1) rfl ?_
   refine Tr.va rfl (fun _ _ h1 h2 => run_load1 ag_23 (h1.ev rfl) (rdb h2 (vs := [(iv p0.Unit), (.slice Ap0_0 (p0.Tools).length cp0_0), (.slice Ap0_1 (p0.Steps).length cp0_1)]) (k := 1) rfl 1) rfl) ?_
   refine Tr.v1 rfl (run_len un_23) rfl ?_
   refine Tr.mv rfl rfl ?_
   refine Tr.nil (Tr.normThen ?_)
   refine Tr.block ?_
   refine Tr.loop (σ := (List TPlotTool) × Nat) (fun m w s => m = s.1.length + 1 ∧ s.1 = List.drop s.2 p0.Tools ∧ s.2 ≤ p0.Tools.length ∧ F_plot_CheckPlot_L1 N p0 s.1 s.2 = some r) (fun s => [(1, (.pointer (some ⟨b100, 0, none⟩))), (15, (.slice Ap0_0 (p0.Tools).length cp0_0)), (16, (iv (p0.Tools.length : Int))), (17, (iv (s.2 : Int)))]) (fun s => [(1, bx b100 #[(iv p0.Unit), (.slice Ap0_0 (p0.Tools).length cp0_0), (.slice Ap0_1 (p0.Steps).length cp0_1)] 26)]) (p0.Tools.length + 1) (p0.Tools, 0) ⟨rfl, rfl, Nat.zero_le _, H⟩ (.r rfl) (.r rfl) (fun _ _ h => absurd h.1 (by simp)) ?_
   intro w leL1 m s hs
   obtain ⟨restL1, iL1⟩ := s
   obtain ⟨hmL1, hdL1, hiL1, H⟩ := hs
   replace hdL1 : restL1 = List.drop iL1 p0.Tools := hdL1
   replace H : F_plot_CheckPlot_L1 N p0 restL1 iL1 = some r := H
   replace hmL1 : m + 1 = restL1.length + 1 := hmL1
   replace hp0_0 := hp0_0.leR leL1
   replace hp0_1 := hp0_1.leR leL1
   replace leB := leB.trans leL1
   obtain rfl : m = restL1.length := by omega
   clear hmL1
   show Tr _ _ (LF [(1, (.pointer (some ⟨b100, 0, none⟩))), (15, (.slice Ap0_0 (p0.Tools).length cp0_0)), (16, (iv (p0.Tools.length : Int))), (17, (iv (iL1 : Int)))]) (LE [(1, bx b100 #[(iv p0.Unit), (.slice Ap0_0 (p0.Tools).length cp0_0), (.slice Ap0_1 (p0.Steps).length cp0_1)] 26)]) _
   cases restL1 with
   | nil =>
    rw [F_plot_CheckPlot_L1.eq_1] at H
    refine Tr.sr ?_
    refine Tr.v2 rfl run_lss rfl rfl ?_
    refine Tr.nil (Tr.normThen ?_)
    refine Tr.seq ?_
    refine Tr.condF rfl (range_nil hdL1) ?_
    refine Tr.exit (Tr.exitThen (Tr.exitThen (Tr.exitBlock (Tr.normThen ?_))))
    refine Tr.seq ?_
    refine Tr.sr ?_
    refine Tr.v1 rfl (run_fieldAddr fo_26_2) rfl ?_
    refine Tr.va rfl (fun _ _ h1 h2 => run_load1 ag_24 (h1.ev rfl) (rdb h2 (vs := [(iv p0.Unit), (.slice Ap0_0 (p0.Tools).length cp0_0), (.slice Ap0_1 (p0.Steps).length cp0_1)]) (k := 1) rfl 2) rfl) ?_
    obtain ⟨y102, hy102, H⟩ := bnd H
    refine Tr.call0 (r := (iv y102)) (wn rfl) rfl Tryz.call49 (evl_cons rfl evl_nil) (fun W hW => F_plot_count_ok N p0.Steps Ap0_1 cp0_1 (hp0_1.ext hW.extAll) y102 hy102 (HF.start _)) ?_
    refine Tr.v2 rfl run_gtr rfl rfl ?_
    refine Tr.nil (Tr.normThen ?_)
    refine Tr.cond rfl H (fun H => ?_) (fun H => ?_)
    ·refine Tr.sr ?_
     refine Tr.asg rfl rfl ?_
     refine Tr.nil (Tr.normThen ?_)
     refine Tr.ret (Tr.retThen ?_)
     obtain rfl := Option.some.inj H
     exact Tr.out (m := [(iv 2)]) [] (res_tmp rfl res_nil) (fun W hW => ⟨rfl, hW.low leB⟩)
    ·refine Tr.skip (Tr.normThen ?_)
     refine Tr.sr ?_
     refine Tr.va rfl (fun _ _ h1 h2 => run_loadN (cs := [(iv p0.Unit), (.slice Ap0_0 (p0.Tools).length cp0_0), (.slice Ap0_1 (p0.Steps).length cp0_1)]) ag_26 sz_26 (h1.ev rfl) (CellsAt.take (rdb h2 (vs := [(iv p0.Unit), (.slice Ap0_0 (p0.Tools).length cp0_0), (.slice Ap0_1 (p0.Steps).length cp0_1)]) (k := 1) rfl 0) 3) rfl) ?_
     refine Tr.v1 rfl (run_fieldAddr fo_26_2) rfl ?_
     refine Tr.va rfl (fun _ _ h1 h2 => run_load1 ag_24 (h1.ev rfl) (rdb h2 (vs := [(iv p0.Unit), (.slice Ap0_0 (p0.Tools).length cp0_0), (.slice Ap0_1 (p0.Steps).length cp0_1)]) (k := 1) rfl 2) rfl) ?_
     obtain ⟨y103, hy103, H⟩ := bnd H
     refine Tr.call0 (r := (iv y103)) (wn rfl) rfl Tryz.call50 (evl_cons rfl (evl_cons rfl (evl_cons rfl evl_nil))) (fun W hW => F_plot_checkSteps_ok N p0 Ap0_0 cp0_0 (hp0_0.ext hW.extAll) Ap0_1 cp0_1 (hp0_1.ext hW.extAll) p0.Steps Ap0_1 cp0_1 (hp0_1.ext hW.extAll) 0 y103 hy103 (HF.start _)) ?_
     refine Tr.asg rfl rfl ?_
     refine Tr.nil (Tr.normThen ?_)
     refine Tr.ret ?_
     obtain rfl := Option.some.inj H
     exact Tr.out (m := [(iv y103)]) [] (res_tmp rfl res_nil) (fun W hW => ⟨rfl, hW.low leB⟩)
   | cons xL1 restL1 =>
    rw [F_plot_CheckPlot_L1.eq_2] at H
    refine Tr.sr ?_
    refine Tr.v2 rfl run_lss rfl rfl ?_
    refine Tr.nil (Tr.normThen ?_)
    refine Tr.seq ?_
    refine Tr.condT rfl (range_on hdL1) ?_
    refine Tr.skip (Tr.normThen ?_)
    refine Tr.seq ?_
    refine Tr.block ?_
    refine Tr.seq ?_
    cases H

theorem F_strconv_Itoa_ok {w : Bs} (p0 : Int) (r : ByteArray) (H : itoaS p0 = some r) (hE : HF w w.W E0) : Calls Tryz.prog 41 [(iv p0)].toArray w.W fun e W' => e = .returned (sv r) ∧ HF w W' E0 :=
 itoaS_rule (ρ := Tryz.itoa41_ren) Tryz.itoa41 H hE

end Go.Proofs.YtcjeebkoafonpaaGreatDoor
namespace Go.Proofs
open Go.Shelf
def Tryz.bld40_ren : Go.Shelf.Ren := ⟨fun | 166 => 40 | 240 => 91 | 276 => 130 | n => n, fun | 5 => 5 | 37 => 78 | 70 => 77 | 72 => 80 | 75 => 82 | 80 => 89 | 164 => 180 | n => n, fun n => n⟩
theorem Tryz.bld40 : Go.Proofs.Lays.n166 Tryz.prog Tryz.bld40_ren := {
 mixed := by kernel_rfl
 f166 := Tryz.func40.trans (congrArg some (by kernel_rfl))
 f240 := Tryz.func91.trans (congrArg some (by kernel_rfl))
 f276 := Tryz.func130.trans (congrArg some (by kernel_rfl))
 t0 := Tryz.underlying0
 a0 := Tryz.isAgg0
 z0 := Tryz.sizeOf0
 v0 := Tryz.zeroValue0
 t3 := Tryz.underlying3
 a3 := Tryz.isAgg3
 z3 := Tryz.sizeOf3
 v3 := Tryz.zeroValue3
 t4 := Tryz.underlying4
 a4 := Tryz.isAgg4
 z4 := Tryz.sizeOf4
 v4 := Tryz.zeroValue4
 t9 := Tryz.underlying9
 a9 := Tryz.isAgg9
 z9 := Tryz.sizeOf9
 v9 := Tryz.zeroValue9
 t20 := Tryz.underlying20
 a20 := Tryz.isAgg20
 z20 := Tryz.sizeOf20
 v20 := Tryz.zeroValue20
 t37 := Tryz.underlying78
 a37 := Tryz.isAgg78
 z37 := Tryz.sizeOf78
 v37 := Tryz.zeroValue78
 t70 := Tryz.underlying77
 a70 := Tryz.isAgg77
 z70 := Tryz.sizeOf77
 v70 := Tryz.zeroValue77
 t72 := Tryz.underlying80
 a72 := Tryz.isAgg80
 z72 := Tryz.sizeOf80
 v72 := Tryz.zeroValue80
 t75 := Tryz.underlying82
 a75 := Tryz.isAgg82
 z75 := Tryz.sizeOf82
 v75 := Tryz.zeroValue82
 t164 := Tryz.underlying180
 a164 := Tryz.isAgg180
 z164 := Tryz.sizeOf180
 v164 := Tryz.zeroValue180
}
end Go.Proofs
namespace Go.Proofs.YtcjeebkoafonpaaGreatDoor
open Go.RowKit
theorem bX40 : Builder.Extra Tryz.prog Tryz.bld40_ren where
 sizeBuilder := by kernel_rfl
 liesBuilder := by kernel_rfl
 t5 := Tryz.underlying5
 a5 := Tryz.isAgg5
 z5 := Tryz.sizeOf5
 v5 := Tryz.zeroValue5
 infoByte := by kernel_rfl
 cellsByte := by kernel_rfl
 sizeByte := by kernel_rfl
 neB5 := by decide
theorem F_strings_Builder_WriteString_ok {w : Bs} (p0 : ByteArray) (Ap0_0 : Option Addr) (cp0_0 : Nat) (bp0 : Nat) (p1 : ByteArray) (r : ByteArray) (H : sbW p0 p1 = some r) (hE : HF w w.W (LEn [sb 80 5 bp0 Ap0_0 cp0_0 p0])) : Calls Tryz.prog 40 [(.pointer (some ⟨bp0, 0, none⟩)), .string p1].toArray w.W fun e W' => ∃ u : (Option Addr × Nat), e = .returned (.tuple #[.int .i64 p1.size, .nilIface]) ∧ (True) ∧ HF w W' (LEn [sb 80 5 bp0 u.1 u.2 r]) :=
 sb_write (ρ := Tryz.bld40_ren) Tryz.bld40 bX40 H hE

theorem F_plot_writeSteps_b_ok (N : Nat) (rec : ByteArray → (List TPlotStep) → Option ByteArray) (hrec : ∀ {w : Bs} (p0 : ByteArray) (Ap0_0 : Option Addr) (cp0_0 : Nat) (bp0 : Nat) (p1 : (List TPlotStep)) (Ap1_0 : Option Addr) (cp1_0 : Nat) (hp1_0 : Sl w.R w.W fl_TPlotStep Ap1_0 cp1_0 p1) (r : ByteArray) (H : rec p0 p1 = some r) (hE : HF w w.W (LEn [sb 80 5 bp0 Ap0_0 cp0_0 p0])), Calls Tryz.prog 43 [(.pointer (some ⟨bp0, 0, none⟩)), (.slice Ap1_0 (p1).length cp1_0)].toArray w.W fun e W' => ∃ u : (Option Addr × Nat), e = .returned (.tuple #[]) ∧ (True) ∧ HF w W' (LEn [sb 80 5 bp0 u.1 u.2 r])) {w : Bs} (p0 : ByteArray) (Ap0_0 : Option Addr) (cp0_0 : Nat) (bp0 : Nat) (p1 : (List TPlotStep)) (Ap1_0 : Option Addr) (cp1_0 : Nat) (hp1_0 : Sl w.R w.W fl_TPlotStep Ap1_0 cp1_0 p1) (r : ByteArray) (H : F_plot_writeSteps_b N rec p0 p1 = some r) (hE : HF w w.W (LEn [sb 80 5 bp0 Ap0_0 cp0_0 p0])) : Calls Tryz.prog 43 [(.pointer (some ⟨bp0, 0, none⟩)), (.slice Ap1_0 (p1).length cp1_0)].toArray w.W fun e W' => ∃ u : (Option Addr × Nat), e = .returned (.tuple #[]) ∧ (True) ∧ HF w W' (LEn [sb 80 5 bp0 u.1 u.2 r]) := by
 unfold F_plot_writeSteps_b at H
 have leB := Bs.Le.refl w
 refine Tr.enter (n := 91) Tryz.func43 rfl rfl rfl hE ?_
 refine Tr.sr ?_
 refine Tr.mv rfl rfl ?_
 refine Tr.v1 rfl (run_len un_24) rfl ?_
 refine Tr.mv rfl rfl ?_
 refine Tr.nil (Tr.normThen ?_)
 refine Tr.block ?_
 refine Tr.loop (σ := (List TPlotStep) × Nat) (fun m w s => m = s.1.length + 1 ∧ s.1 = List.drop s.2 p1 ∧ s.2 ≤ p1.length ∧ F_plot_writeSteps_L1 p0 s.1 s.2 = some r) (fun s => [(0, (.pointer (some ⟨bp0, 0, none⟩))), (6, (.slice Ap1_0 (p1).length cp1_0)), (7, (iv (p1.length : Int))), (8, (iv (s.2 : Int)))]) (fun s => [(0, sb 80 5 bp0 Ap0_0 cp0_0 p0)]) (p1.length + 1) (p1, 0) ⟨rfl, rfl, Nat.zero_le _, H⟩ (.r rfl) (.r rfl) (fun _ _ h => absurd h.1 (by simp)) ?_
 intro w leL1 m s hs
 obtain ⟨restL1, iL1⟩ := s
 obtain ⟨hmL1, hdL1, hiL1, H⟩ := hs
 replace hdL1 : restL1 = List.drop iL1 p1 := hdL1
 replace H : F_plot_writeSteps_L1 p0 restL1 iL1 = some r := H
 replace hmL1 : m + 1 = restL1.length + 1 := hmL1
 replace hp1_0 := hp1_0.leR leL1
 replace leB := leB.trans leL1
 obtain rfl : m = restL1.length := by omega
 clear hmL1
 show Tr _ _ (LF [(0, (.pointer (some ⟨bp0, 0, none⟩))), (6, (.slice Ap1_0 (p1).length cp1_0)), (7, (iv (p1.length : Int))), (8, (iv (iL1 : Int)))]) (LE [(0, sb 80 5 bp0 Ap0_0 cp0_0 p0)]) _
 cases restL1 with
 | nil =>
  rw [F_plot_writeSteps_L1.eq_1] at H
  refine Tr.sr ?_
  refine Tr.v2 rfl run_lss rfl rfl ?_
  refine Tr.nil (Tr.normThen ?_)
  refine Tr.seq ?_
  refine Tr.condF rfl (range_nil hdL1) ?_
  refine Tr.exit (Tr.exitThen (Tr.exitThen (Tr.exitBlock (Tr.offEnd ?_))))
  obtain rfl := Option.some.inj H
  exact Tr.out (m := []) [] res_nil (fun W hW => ⟨(Ap0_0, cp0_0), rfl, trivial, HF.lowE leB (hW.pick (ks := [0]) (by decide) (pk_cons rfl pk_nil)) ⟨sb_any, trivial⟩⟩)
 | cons xL1 restL1 =>
  rw [F_plot_writeSteps_L1.eq_2] at H
  refine Tr.sr ?_
  refine Tr.v2 rfl run_lss rfl rfl ?_
  refine Tr.nil (Tr.normThen ?_)
  refine Tr.seq ?_
  refine Tr.condT rfl (range_on hdL1) ?_
  refine Tr.skip (Tr.normThen ?_)
  refine Tr.seq ?_
  refine Tr.block ?_
  refine Tr.seq ?_
  cases H
theorem F_plot_writeSteps_ok : ∀ (N : Nat) {w : Bs} (p0 : ByteArray) (Ap0_0 : Option Addr) (cp0_0 : Nat) (bp0 : Nat) (p1 : (List TPlotStep)) (Ap1_0 : Option Addr) (cp1_0 : Nat) (hp1_0 : Sl w.R w.W fl_TPlotStep Ap1_0 cp1_0 p1) (r : ByteArray) (H : F_plot_writeSteps N p0 p1 = some r) (hE : HF w w.W (LEn [sb 80 5 bp0 Ap0_0 cp0_0 p0])), Calls Tryz.prog 43 [(.pointer (some ⟨bp0, 0, none⟩)), (.slice Ap1_0 (p1).length cp1_0)].toArray w.W fun e W' => ∃ u : (Option Addr × Nat), e = .returned (.tuple #[]) ∧ (True) ∧ HF w W' (LEn [sb 80 5 bp0 u.1 u.2 r])
 | 0 => by intros; rename_i H _; cases H
 | N + 1 => F_plot_writeSteps_b_ok N (F_plot_writeSteps N) (F_plot_writeSteps_ok N)

theorem F_strings_Builder_Len_ok {w : Bs} (p0 : ByteArray) (Ap0_0 : Option Addr) (cp0_0 : Nat) (bp0 : Nat) (r : (Int × ByteArray)) (H : sbL p0 = some r) (hE : HF w w.W (LEn [sb 80 5 bp0 Ap0_0 cp0_0 p0])) : Calls Tryz.prog 44 [(.pointer (some ⟨bp0, 0, none⟩))].toArray w.W fun e W' => ∃ u : (Option Addr × Nat), e = .returned (iv r.1) ∧ (True) ∧ HF w W' (LEn [sb 80 5 bp0 u.1 u.2 r.2]) :=
 sb_len (ρ := Tryz.bld44_ren) Tryz.bld44 H hE

end Go.Proofs.YtcjeebkoafonpaaGreatDoor
namespace Go.Proofs
open Go.Shelf
def Tryz.bld45_ren : Go.Shelf.Ren := ⟨fun | 169 => 45 | n => n, fun | 5 => 5 | 37 => 78 | 70 => 77 | 72 => 80 | 127 => 146 | n => n, fun n => n⟩
theorem Tryz.bld45 : Go.Proofs.Lays.n169 Tryz.prog Tryz.bld45_ren := {
 mixed := by kernel_rfl
 f169 := Tryz.func45.trans (congrArg some (by kernel_rfl))
 t0 := Tryz.underlying0
 a0 := Tryz.isAgg0
 z0 := Tryz.sizeOf0
 v0 := Tryz.zeroValue0
 t3 := Tryz.underlying3
 a3 := Tryz.isAgg3
 z3 := Tryz.sizeOf3
 v3 := Tryz.zeroValue3
 t9 := Tryz.underlying9
 a9 := Tryz.isAgg9
 z9 := Tryz.sizeOf9
 v9 := Tryz.zeroValue9
 t37 := Tryz.underlying78
 a37 := Tryz.isAgg78
 z37 := Tryz.sizeOf78
 v37 := Tryz.zeroValue78
 t70 := Tryz.underlying77
 a70 := Tryz.isAgg77
 z70 := Tryz.sizeOf77
 v70 := Tryz.zeroValue77
 t72 := Tryz.underlying80
 a72 := Tryz.isAgg80
 z72 := Tryz.sizeOf80
 v72 := Tryz.zeroValue80
 t127 := Tryz.underlying146
 a127 := Tryz.isAgg146
 z127 := Tryz.sizeOf146
 v127 := Tryz.zeroValue146
}
end Go.Proofs
namespace Go.Proofs.YtcjeebkoafonpaaGreatDoor
open Go.RowKit
theorem bX45 : Builder.Extra Tryz.prog Tryz.bld45_ren where
 sizeBuilder := by kernel_rfl
 liesBuilder := by kernel_rfl
 t5 := Tryz.underlying5
 a5 := Tryz.isAgg5
 z5 := Tryz.sizeOf5
 v5 := Tryz.zeroValue5
 infoByte := by kernel_rfl
 cellsByte := by kernel_rfl
 sizeByte := by kernel_rfl
 neB5 := by decide
theorem F_strings_Builder_String_ok {w : Bs} (p0 : ByteArray) (Ap0_0 : Option Addr) (cp0_0 : Nat) (bp0 : Nat) (r : (ByteArray × ByteArray)) (H : sbS p0 = some r) (hE : HF w w.W (LEn [sb 80 5 bp0 Ap0_0 cp0_0 p0])) : Calls Tryz.prog 45 [(.pointer (some ⟨bp0, 0, none⟩))].toArray w.W fun e W' => ∃ u : (Option Addr × Nat), e = .returned (sv r.1) ∧ (True) ∧ HF w W' (LEn [sb 80 5 bp0 u.1 u.2 r.2]) :=
 sb_string (ρ := Tryz.bld45_ren) Tryz.bld45 bX45 H hE

theorem F_plot_Text_ok (N : Nat) {w : Bs} (p0 : TPlot) (Ap0_0 : Option Addr) (cp0_0 : Nat) (hp0_0 : Sl w.R w.W fl_TPlotTool Ap0_0 cp0_0 p0.Tools) (Ap0_1 : Option Addr) (cp0_1 : Nat) (hp0_1 : Sl w.R w.W fl_TPlotStep Ap0_1 cp0_1 p0.Steps) (r : (ByteArray × Int)) (H : F_plot_Text N p0 = some r) (hE : HF w w.W E0) : Calls Tryz.prog 23 [(.agg #[(iv p0.Unit), (.slice Ap0_0 (p0.Tools).length cp0_0), (.slice Ap0_1 (p0.Steps).length cp0_1)])].toArray w.W fun e W' => e = .returned (.tuple #[(sv r.1), (iv r.2)]) ∧ HF w W' E0 := by
 unfold F_plot_Text at H
 have leB := Bs.Le.refl w
 refine Tr.enter (n := 61) Tryz.func23 rfl rfl rfl hE ?_
 refine Tr.sr ?_
 refine Tr.box 1 (cs := [(iv p0.Unit), (.slice Ap0_0 (p0.Tools).length cp0_0), (.slice Ap0_1 (p0.Steps).length cp0_1)]) (wn rfl) rfl rfl rfl fun b100 => ?_
 refine Tr.asg rfl rfl ?_
 refine Tr.asg rfl rfl ?_
 refine Tr.nil (Tr.normThen ?_)
 refine Tr.seq ?_
 refine Tr.sr ?_
 refine Tr.va rfl (fun _ _ h1 h2 => run_loadN (cs := [(iv p0.Unit), (.slice Ap0_0 (p0.Tools).length cp0_0), (.slice Ap0_1 (p0.Steps).length cp0_1)]) ag_26 sz_26 (h1.ev rfl) (CellsAt.take (rdb h2 (vs := [(iv p0.Unit), (.slice Ap0_0 (p0.Tools).length cp0_0), (.slice Ap0_1 (p0.Steps).length cp0_1)]) (k := 1) rfl 0) 3) rfl) ?_
 obtain ⟨y101, hy101, H⟩ := bnd H
 refine Tr.call0 (r := (iv y101)) (wn rfl) rfl Tryz.call26 (evl_cons rfl evl_nil) (fun W hW => F_plot_CheckPlot_ok N p0 Ap0_0 cp0_0 (hp0_0.ext hW.extAll) Ap0_1 cp0_1 (hp0_1.ext hW.extAll) y101 hy101 (HF.start _)) ?_
 refine Tr.asg rfl rfl ?_
 refine Tr.nil (Tr.normThen ?_)
 refine Tr.sr ?_
 refine Tr.mv rfl rfl ?_
 refine Tr.v2 rfl run_neq rfl rfl ?_
 refine Tr.nil (Tr.normThen ?_)
 refine Tr.cond rfl H (fun H => ?_) (fun H => ?_)
 ·refine Tr.sr ?_
  refine Tr.mv rfl rfl ?_
  refine Tr.asg rfl rfl ?_
  refine Tr.asg rfl rfl ?_
  refine Tr.nil (Tr.normThen ?_)
  refine Tr.ret (Tr.retThen ?_)
  obtain rfl := Option.some.inj H
  exact Tr.out (m := [(sv ByteArray.empty), (iv y101)]) [] (res_tmp rfl (res_tmp rfl res_nil)) (fun W hW => ⟨rfl, hW.low leB⟩)
 ·refine Tr.skip (Tr.normThen ?_)
  refine Tr.sr ?_
  refine Tr.sbNew (e := 5) 2 (wn rfl) rfl zb_80 fun b102 => ?_
  refine Tr.nil (Tr.normThen ?_)
  refine Tr.sr ?_
  refine Tr.v1 rfl (run_fieldAddr fo_26_0) rfl ?_
  refine Tr.va rfl (fun _ _ h1 h2 => run_load1 ag_3 (h1.ev rfl) (rdb h2 (vs := [(iv p0.Unit), (.slice Ap0_0 (p0.Tools).length cp0_0), (.slice Ap0_1 (p0.Steps).length cp0_1)]) (k := 1) rfl 0) rfl) ?_
  obtain ⟨y103, hy103, H⟩ := bnd H
  refine Tr.call0 (r := (sv y103)) (wn rfl) rfl Tryz.call41 (evl_cons rfl evl_nil) (fun W hW => F_strconv_Itoa_ok p0.Unit y103 hy103 (HF.start _)) ?_
  obtain ⟨t104, ht104, H⟩ := bnd H
  refine Tr.va rfl (fun _ _ h1 h2 => run_catS (h1.ev rfl) (h1.ev rfl) ht104) ?_
  obtain ⟨t105, ht105, H⟩ := bnd H
  refine Tr.va rfl (fun _ _ h1 h2 => run_catS (h1.ev rfl) (h1.ev rfl) ht105) ?_
  obtain ⟨y106, hy106, H⟩ := bnd H
  refine Tr.callM [2] [sb 80 5 b102 none 0 ByteArray.empty] (U := (Option Addr × Nat)) (fun u => (.tuple #[(iv ((t105 : ByteArray).size : Int)), .nilIface])) (fun u => True) (fun u => [sb 80 5 b102 u.1 u.2 y106]) rfl (pk_cons rfl pk_nil) (fun _ => rfl) (wn rfl) rfl Tryz.call40 (evl_cons rfl (evl_cons rfl evl_nil)) (fun W hW hp hE => F_strings_Builder_WriteString_ok ByteArray.empty none 0 b102 t105 y106 hy106 hE) ?_
  intro u hu
  obtain ⟨Ay106_0, cy106_0⟩ := u
  have gy106_0 := hu
  have hgy106_0 : True := gy106_0 --@phi
  show Tr _ _ (uf _ 20 (.tuple #[(iv ((t105 : ByteArray).size : Int)), .nilIface])) (up _ 2 (sb 80 5 b102 Ay106_0 cy106_0 y106)) _
  refine Tr.nil (Tr.normThen ?_)
  refine Tr.seq ?_
  refine Tr.sr ?_
  refine Tr.v1 rfl (run_fieldAddr fo_26_1) rfl ?_
  refine Tr.va rfl (fun _ _ h1 h2 => run_load1 ag_23 (h1.ev rfl) (rdb h2 (vs := [(iv p0.Unit), (.slice Ap0_0 (p0.Tools).length cp0_0), (.slice Ap0_1 (p0.Steps).length cp0_1)]) (k := 1) rfl 1) rfl) ?_
  refine Tr.v1 rfl (run_len un_23) rfl ?_
  refine Tr.mv rfl rfl ?_
  refine Tr.nil (Tr.normThen ?_)
  refine Tr.block ?_
  refine Tr.loop (σ := (List TPlotTool) × Nat) (fun m w s => m = s.1.length + 1 ∧ s.1 = List.drop s.2 p0.Tools ∧ s.2 ≤ p0.Tools.length ∧ F_plot_Text_L1 N p0 y106 s.1 s.2 = some r) (fun s => [(1, (.pointer (some ⟨b100, 0, none⟩))), (5, (.pointer (some ⟨b102, 0, none⟩))), (22, (.slice Ap0_0 (p0.Tools).length cp0_0)), (23, (iv (p0.Tools.length : Int))), (24, (iv (s.2 : Int)))]) (fun s => [(1, bx b100 #[(iv p0.Unit), (.slice Ap0_0 (p0.Tools).length cp0_0), (.slice Ap0_1 (p0.Steps).length cp0_1)] 26), (2, sb 80 5 b102 Ay106_0 cy106_0 y106)]) (p0.Tools.length + 1) (p0.Tools, 0) ⟨rfl, rfl, Nat.zero_le _, H⟩ (.r rfl) (.r rfl) (fun _ _ h => absurd h.1 (by simp)) ?_
  intro w leL1 m s hs
  obtain ⟨restL1, iL1⟩ := s
  obtain ⟨hmL1, hdL1, hiL1, H⟩ := hs
  replace hdL1 : restL1 = List.drop iL1 p0.Tools := hdL1
  replace H : F_plot_Text_L1 N p0 y106 restL1 iL1 = some r := H
  replace hmL1 : m + 1 = restL1.length + 1 := hmL1
  replace hp0_0 := hp0_0.leR leL1
  replace hp0_1 := hp0_1.leR leL1
  replace leB := leB.trans leL1
  obtain rfl : m = restL1.length := by omega
  clear hmL1
  show Tr _ _ (LF [(1, (.pointer (some ⟨b100, 0, none⟩))), (5, (.pointer (some ⟨b102, 0, none⟩))), (22, (.slice Ap0_0 (p0.Tools).length cp0_0)), (23, (iv (p0.Tools.length : Int))), (24, (iv (iL1 : Int)))]) (LE [(1, bx b100 #[(iv p0.Unit), (.slice Ap0_0 (p0.Tools).length cp0_0), (.slice Ap0_1 (p0.Steps).length cp0_1)] 26), (2, sb 80 5 b102 Ay106_0 cy106_0 y106)]) _
  cases restL1 with
  | nil =>
   rw [F_plot_Text_L1.eq_1] at H
   refine Tr.sr ?_
   refine Tr.v2 rfl run_lss rfl rfl ?_
   refine Tr.nil (Tr.normThen ?_)
   refine Tr.seq ?_
   refine Tr.condF rfl (range_nil hdL1) ?_
   refine Tr.exit (Tr.exitThen (Tr.exitThen (Tr.exitBlock (Tr.normThen ?_))))
   refine Tr.sr ?_
   refine Tr.v1 rfl (run_fieldAddr fo_26_2) rfl ?_
   refine Tr.va rfl (fun _ _ h1 h2 => run_load1 ag_24 (h1.ev rfl) (rdb h2 (vs := [(iv p0.Unit), (.slice Ap0_0 (p0.Tools).length cp0_0), (.slice Ap0_1 (p0.Steps).length cp0_1)]) (k := 1) rfl 2) rfl) ?_
   obtain ⟨y108, hy108, H⟩ := bnd H
   refine Tr.callM [2] [sb 80 5 b102 Ay106_0 cy106_0 y106] (U := (Option Addr × Nat)) (fun u => (.tuple #[])) (fun u => True) (fun u => [sb 80 5 b102 u.1 u.2 y108]) rfl (pk_cons rfl pk_nil) (fun _ => rfl) (wn rfl) rfl Tryz.call43 (evl_cons rfl (evl_cons rfl evl_nil)) (fun W hW hp hE => F_plot_writeSteps_ok N y106 Ay106_0 cy106_0 b102 p0.Steps Ap0_1 cp0_1 (hp0_1.ext (hW.extS hp)) y108 hy108 hE) ?_
   intro u hu
   obtain ⟨Ay108_0, cy108_0⟩ := u
   have gy108_0 := hu
   have hgy108_0 : True := gy108_0 --@phi
   show Tr _ _ (uf _ 57 (.tuple #[])) (up _ 2 (sb 80 5 b102 Ay108_0 cy108_0 y108)) _
   refine Tr.nil (Tr.normThen ?_)
   refine Tr.seq ?_
   refine Tr.sr ?_
   obtain ⟨y110, hy110, H⟩ := bnd H
   refine Tr.callM [2] [sb 80 5 b102 Ay108_0 cy108_0 y108] (U := (Option Addr × Nat)) (fun u => (iv y110.1)) (fun u => True) (fun u => [sb 80 5 b102 u.1 u.2 y110.2]) rfl (pk_cons rfl pk_nil) (fun _ => rfl) (wn rfl) rfl Tryz.call44 (evl_cons rfl evl_nil) (fun W hW hp hE => F_strings_Builder_Len_ok y108 Ay108_0 cy108_0 b102 y110 hy110 hE) ?_
   intro u hu
   obtain ⟨Ay110_0, cy110_0⟩ := u
   have gy110_0 := hu
   have hgy110_0 : True := gy110_0 --@phi
   show Tr _ _ (uf _ 58 (iv y110.1)) (up _ 2 (sb 80 5 b102 Ay110_0 cy110_0 y110.2)) _
   refine Tr.v2 rfl run_gtr rfl rfl ?_
   refine Tr.nil (Tr.normThen ?_)
   refine Tr.cond rfl H (fun H => ?_) (fun H => ?_)
   ·refine Tr.sr ?_
    refine Tr.asg rfl rfl ?_
    refine Tr.asg rfl rfl ?_
    refine Tr.nil (Tr.normThen ?_)
    refine Tr.ret (Tr.retThen ?_)
    obtain rfl := Option.some.inj H
    exact Tr.out (m := [(sv ByteArray.empty), (iv 2)]) [] (res_tmp rfl (res_tmp rfl res_nil)) (fun W hW => ⟨rfl, hW.low leB⟩)
   ·refine Tr.skip (Tr.normThen ?_)
    refine Tr.sr ?_
    obtain ⟨y112, hy112, H⟩ := bnd H
    refine Tr.callM [2] [sb 80 5 b102 Ay110_0 cy110_0 y110.2] (U := (Option Addr × Nat)) (fun u => (sv y112.1)) (fun u => True) (fun u => [sb 80 5 b102 u.1 u.2 y112.2]) rfl (pk_cons rfl pk_nil) (fun _ => rfl) (wn rfl) rfl Tryz.call45 (evl_cons rfl evl_nil) (fun W hW hp hE => F_strings_Builder_String_ok y110.2 Ay110_0 cy110_0 b102 y112 hy112 hE) ?_
    intro u hu
    obtain ⟨Ay112_0, cy112_0⟩ := u
    have gy112_0 := hu
    have hgy112_0 : True := gy112_0 --@phi
    show Tr _ _ (uf _ 60 (sv y112.1)) (up _ 2 (sb 80 5 b102 Ay112_0 cy112_0 y112.2)) _
    refine Tr.asg rfl rfl ?_
    refine Tr.asg rfl rfl ?_
    refine Tr.nil (Tr.normThen ?_)
    refine Tr.ret ?_
    obtain rfl := Option.some.inj H
    exact Tr.out (m := [(sv y112.1), (iv 0)]) [] (res_tmp rfl (res_tmp rfl res_nil)) (fun W hW => ⟨rfl, hW.low leB⟩)
  | cons xL1 restL1 =>
   rw [F_plot_Text_L1.eq_2] at H
   refine Tr.sr ?_
   refine Tr.v2 rfl run_lss rfl rfl ?_
   refine Tr.nil (Tr.normThen ?_)
   refine Tr.seq ?_
   refine Tr.condT rfl (range_on hdL1) ?_
   refine Tr.skip (Tr.normThen ?_)
   refine Tr.seq ?_
   refine Tr.block ?_
   refine Tr.seq ?_
   cases H

theorem F_etchhouselaw3_awake_ok (N : Nat) {w : Bs}  (r : Bool) (H : F_etchhouselaw3_awake N = some r) (hE : HF w w.W E0) : Calls Tryz.prog 8 [].toArray w.W fun e W' => e = .returned (.bool r) ∧ HF w W' E0 := by
 unfold F_etchhouselaw3_awake at H
 have leB := Bs.Le.refl w
 refine Tr.enter (n := 14) Tryz.func8 rfl rfl rfl hE ?_
 refine Tr.sr ?_
 refine Tr.asg rfl rfl ?_
 refine Tr.nil (Tr.normThen ?_)
 refine Tr.sr ?_
 refine Tr.build (vs := [(0, (iv 7))]) (cs := [(iv 7), (.slice none 0 0), (.slice none 0 0)]) (wn rfl) rfl (evs_cons rfl evs_nil) (by kernel_rfl) ?_
 obtain ⟨y100, hy100, H⟩ := bnd H
 refine Tr.call0 (r := (.tuple #[(sv y100.1), (iv y100.2)])) (wn rfl) rfl Tryz.call23 (evl_cons rfl evl_nil) (fun W hW => F_plot_Text_ok N (TPlot.mk 7 [] []) none 0 (Sl.nil _ _ _) none 0 (Sl.nil _ _ _) y100 hy100 (HF.start _)) ?_
 refine Tr.mv rfl rfl ?_
 refine Tr.va rfl (fun _ _ h1 h2 => run_extract (h1.ev rfl) rfl) ?_
 refine Tr.va rfl (fun _ _ h1 h2 => run_extract (h1.ev rfl) rfl) ?_
 refine Tr.asg rfl rfl ?_
 refine Tr.asg rfl rfl ?_
 refine Tr.nil (Tr.normThen ?_)
 refine Tr.sr ?_
 refine Tr.mv rfl rfl ?_
 refine Tr.v2 rfl run_eql rfl rfl ?_
 refine Tr.mv rfl rfl ?_
 refine Tr.mid0 3 [(13, (.bool ((y100.2 == 0) && (sEq y100.1 (⟨#[117, 110, 105, 116, 32, 55, 10]⟩)))))] [] ?_ ?_
 ·cases hg100 : (y100.2 == 0)
  ·refine Tr.ps ?_
   refine Tr.ps ?_
   refine Tr.v2 rfl run_pickF rfl rfl ?_
   exact Tr.nil (Tr.fin0 (.r rfl) .nil)
  ·refine Tr.w1 (wg rfl rfl rfl) rfl run_move rfl ?_
   refine Tr.w2 (wg rfl rfl rfl) rfl run_eqlS rfl rfl ?_
   refine Tr.v2 rfl run_pickT rfl rfl ?_
   exact Tr.nil (Tr.fin0 (.r rfl) .nil)
 ·show Tr _ _ (LF [(13, (.bool ((y100.2 == 0) && (sEq y100.1 (⟨#[117, 110, 105, 116, 32, 55, 10]⟩)))))]) (LE []) _
  refine Tr.asg rfl rfl ?_
  refine Tr.nil (Tr.normThen ?_)
  refine Tr.ret ?_
  obtain rfl := Option.some.inj H
  exact Tr.out (m := [(.bool ((y100.2 == 0) && (sEq y100.1 (⟨#[117, 110, 105, 116, 32, 55, 10]⟩))))]) [] (res_tmp rfl res_nil) (fun W hW => ⟨rfl, hW.low leB⟩)

theorem F_plot_newMachine_ok {w : Bs} (p0 : TPlot) (Ap0_0 : Option Addr) (cp0_0 : Nat) (hp0_0 : Sl w.O w.W fl_TPlotTool Ap0_0 cp0_0 p0.Tools) (Ap0_1 : Option Addr) (cp0_1 : Nat) (hp0_1 : Sl w.O w.W fl_TPlotStep Ap0_1 cp0_1 p0.Steps) (r : TMachine) (H : F_plot_newMachine p0 = some r) (hE : HF w w.W (LEn [emp, emp, emp])) : Calls Tryz.prog 93 [(.agg #[(iv p0.Unit), (.slice Ap0_0 (p0.Tools).length cp0_0), (.slice Ap0_1 (p0.Steps).length cp0_1)])].toArray w.W fun e W' => ∃ (w' : Bs) (u : (Option Addr × Nat) × (Option Addr × Nat) × (Option Addr × Nat) × (Option Addr × Nat) × (Option Addr × Nat)), w.Le w' ∧ e = .returned (.pointer (some ⟨u.2.2.2.2.2, 0, none⟩)) ∧ (Sl w'.O w'.W fl_TPlotTool u.1.1 u.1.2 r.p.Tools ∧ Sl w'.O w'.W fl_TPlotStep u.2.1.1 u.2.1.2 r.p.Steps ∧ SlF u.2.2.1.1 (r.tools).length u.2.2.1.2 ∧ SlF u.2.2.2.1.1 (r.image).length u.2.2.2.1.2 ∧ True) ∧ HF w' W' (LEn [ow u.2.2.1.1 u.2.2.1.2 62 fl_LTBand r.tools, ow u.2.2.2.1.1 u.2.2.2.1.2 98 fl_TBand r.image, bx u.2.2.2.2.2 #[(iv r.p.Unit), (.slice u.1.1 (r.p.Tools).length u.1.2), (.slice u.2.1.1 (r.p.Steps).length u.2.1.2), (.slice u.2.2.1.1 (r.tools).length u.2.2.1.2), (.slice u.2.2.2.1.1 (r.image).length u.2.2.2.1.2), (.bool r.clear), (iv r.tool), (iv r.place.X), (iv r.place.Y), (.bool r.placed), (iv r.off), (iv r.on)] 95]) := by
 unfold F_plot_newMachine at H
 have leB := Bs.Le.refl w
 refine Tr.enter (n := 64) Tryz.func93 rfl rfl rfl hE ?_
 refine Tr.sr ?_
 refine Tr.box 1 (cs := [(iv p0.Unit), (.slice Ap0_0 (p0.Tools).length cp0_0), (.slice Ap0_1 (p0.Steps).length cp0_1)]) (wn rfl) rfl rfl rfl fun b100 => ?_
 refine Tr.asg rfl rfl ?_
 refine Tr.nil (Tr.normThen ?_)
 refine Tr.sr ?_
 refine Tr.va rfl (fun _ _ h1 h2 => run_loadN (cs := [(iv p0.Unit), (.slice Ap0_0 (p0.Tools).length cp0_0), (.slice Ap0_1 (p0.Steps).length cp0_1)]) ag_26 sz_26 (h1.ev rfl) (CellsAt.take (rdb h2 (vs := [(iv p0.Unit), (.slice Ap0_0 (p0.Tools).length cp0_0), (.slice Ap0_1 (p0.Steps).length cp0_1)]) (k := 1) rfl 0) 3) rfl) ?_
 refine Tr.build (vs := [(0, (.agg #[(iv p0.Unit), (.slice Ap0_0 (p0.Tools).length cp0_0), (.slice Ap0_1 (p0.Steps).length cp0_1)])), (4, (iv (-1)))]) (cs := [(iv p0.Unit), (.slice Ap0_0 (p0.Tools).length cp0_0), (.slice Ap0_1 (p0.Steps).length cp0_1), (.slice none 0 0), (.slice none 0 0), (.bool false), (iv (-1)), (iv 0), (iv 0), (.bool false), (iv 0), (iv 0)]) (wn rfl) rfl (evs_cons rfl (evs_cons rfl evs_nil)) (by kernel_rfl) ?_
 refine Tr.box 2 (cs := [(iv p0.Unit), (.slice Ap0_0 (p0.Tools).length cp0_0), (.slice Ap0_1 (p0.Steps).length cp0_1), (.slice none 0 0), (.slice none 0 0), (.bool false), (iv (-1)), (iv 0), (iv 0), (.bool false), (iv 0), (iv 0)]) (wn rfl) rfl rfl rfl fun b101 => ?_
 refine Tr.asg rfl rfl ?_
 refine Tr.nil (Tr.normThen ?_)
 refine Tr.seq ?_
 refine Tr.sr ?_
 refine Tr.v1 rfl (run_fieldAddr fo_26_1) rfl ?_
 refine Tr.va rfl (fun _ _ h1 h2 => run_load1 ag_23 (h1.ev rfl) (rdb h2 (vs := [(iv p0.Unit), (.slice Ap0_0 (p0.Tools).length cp0_0), (.slice Ap0_1 (p0.Steps).length cp0_1)]) (k := 1) rfl 1) rfl) ?_
 refine Tr.v1 rfl (run_len un_23) rfl ?_
 refine Tr.mv rfl rfl ?_
 refine Tr.nil (Tr.normThen ?_)
 refine Tr.block ?_
 refine Tr.loop (σ := (List TPlotTool) × Nat) (fun m w s => m = s.1.length + 1 ∧ s.1 = List.drop s.2 p0.Tools ∧ s.2 ≤ p0.Tools.length ∧ F_plot_newMachine_L1 p0 s.1 s.2 = some r) (fun s => [(1, (.pointer (some ⟨b100, 0, none⟩))), (3, (.pointer (some ⟨b101, 0, none⟩))), (13, (.slice Ap0_0 (p0.Tools).length cp0_0)), (14, (iv (p0.Tools.length : Int))), (15, (iv (s.2 : Int)))]) (fun s => [(1, bx b100 #[(iv p0.Unit), (.slice Ap0_0 (p0.Tools).length cp0_0), (.slice Ap0_1 (p0.Steps).length cp0_1)] 26), (2, bx b101 #[(iv p0.Unit), (.slice Ap0_0 (p0.Tools).length cp0_0), (.slice Ap0_1 (p0.Steps).length cp0_1), (.slice none 0 0), (.slice none 0 0), (.bool false), (iv (-1)), (iv 0), (iv 0), (.bool false), (iv 0), (iv 0)] 95)]) (p0.Tools.length + 1) (p0.Tools, 0) ⟨rfl, rfl, Nat.zero_le _, H⟩ (.r rfl) (.r rfl) (fun _ _ h => absurd h.1 (by simp)) ?_
 intro w leL1 m s hs
 obtain ⟨restL1, iL1⟩ := s
 obtain ⟨hmL1, hdL1, hiL1, H⟩ := hs
 replace hdL1 : restL1 = List.drop iL1 p0.Tools := hdL1
 replace H : F_plot_newMachine_L1 p0 restL1 iL1 = some r := H
 replace hmL1 : m + 1 = restL1.length + 1 := hmL1
 replace hp0_0 := hp0_0.le leL1
 replace hp0_1 := hp0_1.le leL1
 replace leB := leB.trans leL1
 obtain rfl : m = restL1.length := by omega
 clear hmL1
 show Tr _ _ (LF [(1, (.pointer (some ⟨b100, 0, none⟩))), (3, (.pointer (some ⟨b101, 0, none⟩))), (13, (.slice Ap0_0 (p0.Tools).length cp0_0)), (14, (iv (p0.Tools.length : Int))), (15, (iv (iL1 : Int)))]) (LE [(1, bx b100 #[(iv p0.Unit), (.slice Ap0_0 (p0.Tools).length cp0_0), (.slice Ap0_1 (p0.Steps).length cp0_1)] 26), (2, bx b101 #[(iv p0.Unit), (.slice Ap0_0 (p0.Tools).length cp0_0), (.slice Ap0_1 (p0.Steps).length cp0_1), (.slice none 0 0), (.slice none 0 0), (.bool false), (iv (-1)), (iv 0), (iv 0), (.bool false), (iv 0), (iv 0)] 95)]) _
 cases restL1 with
 | nil =>
  rw [F_plot_newMachine_L1.eq_1] at H
  refine Tr.sr ?_
  refine Tr.v2 rfl run_lss rfl rfl ?_
  refine Tr.nil (Tr.normThen ?_)
  refine Tr.seq ?_
  refine Tr.condF rfl (range_nil hdL1) ?_
  refine Tr.exit (Tr.exitThen (Tr.exitThen (Tr.exitBlock (Tr.normThen ?_))))
  refine Tr.sr ?_
  refine Tr.mv rfl rfl ?_
  refine Tr.asg rfl rfl ?_
  refine Tr.nil (Tr.normThen ?_)
  refine Tr.ret ?_
  obtain rfl := Option.some.inj H
  refine Tr.nilOwn 3 62 fl_LTBand ?_
  refine Tr.nilOwn 4 98 fl_TBand ?_
  exact Tr.out (m := [(.pointer (some ⟨b101, 0, none⟩))]) [] (res_tmp rfl res_nil) (fun W hW => ⟨w, ((Ap0_0, cp0_0), (Ap0_1, cp0_1), (none, 0), (none, 0), (none, b101)), leB, rfl, ⟨hp0_0, hp0_1, slf_nil, slf_nil, trivial⟩, hW.pick (ks := [3, 4, 2]) (by decide) (pk_cons rfl (pk_cons rfl (pk_cons rfl pk_nil)))⟩)
 | cons xL1 restL1 =>
  rw [F_plot_newMachine_L1.eq_2] at H
  refine Tr.sr ?_
  refine Tr.v2 rfl run_lss rfl rfl ?_
  refine Tr.nil (Tr.normThen ?_)
  refine Tr.seq ?_
  refine Tr.condT rfl (range_on hdL1) ?_
  refine Tr.skip (Tr.normThen ?_)
  refine Tr.seq ?_
  refine Tr.block ?_
  refine Tr.seq ?_
  cases H

theorem F_plot_machine__moved_ok {w : Bs} (p0 : TMachine) (Ap0_0 : Option Addr) (cp0_0 : Nat) (hp0_0 : Sl w.R w.W fl_TPlotTool Ap0_0 cp0_0 p0.p.Tools) (Ap0_1 : Option Addr) (cp0_1 : Nat) (hp0_1 : Sl w.R w.W fl_TPlotStep Ap0_1 cp0_1 p0.p.Steps) (Ap0_2 : Option Addr) (cp0_2 : Nat) (hp0_2 : Sl w.R w.W fl_LTBand Ap0_2 cp0_2 p0.tools) (Ap0_3 : Option Addr) (cp0_3 : Nat) (hp0_3 : Sl w.R w.W fl_TBand Ap0_3 cp0_3 p0.image) (bp0 : Nat) (hbp0 : w.R bp0) (hcp0 : CellsAt w.W bp0 0 [(iv p0.p.Unit), (.slice Ap0_0 (p0.p.Tools).length cp0_0), (.slice Ap0_1 (p0.p.Steps).length cp0_1), (.slice Ap0_2 (p0.tools).length cp0_2), (.slice Ap0_3 (p0.image).length cp0_3), (.bool p0.clear), (iv p0.tool), (iv p0.place.X), (iv p0.place.Y), (.bool p0.placed), (iv p0.off), (iv p0.on)]) (p1 : TPoint) (p2 : TPoint) (r : TPoint) (H : F_plot_machine__moved p0 p1 p2 = some r) (hE : HF w w.W E0) : Calls Tryz.prog 185 [(.pointer (some ⟨bp0, 0, none⟩)), (.agg #[(iv p1.X), (iv p1.Y)]), (.agg #[(iv p2.X), (iv p2.Y)])].toArray w.W fun e W' => e = .returned (.agg #[(iv r.X), (iv r.Y)]) ∧ HF w W' E0 := by
 unfold F_plot_machine__moved at H
 have leB := Bs.Le.refl w
 refine Tr.enter (n := 30) Tryz.func185 rfl rfl rfl hE ?_
 refine Tr.sr ?_
 refine Tr.box 1 (cs := [(iv p1.X), (iv p1.Y)]) (wn rfl) rfl rfl rfl fun b100 => ?_
 refine Tr.box 2 (cs := [(iv p2.X), (iv p2.Y)]) (wn rfl) rfl rfl rfl fun b101 => ?_
 refine Tr.alloc 3 (wn rfl) rfl ze_47 fun b102 => ?_
 refine Tr.nil (Tr.normThen ?_)
 refine Tr.seq ?_
 refine Tr.drawTail 22 (by kernel_rfl) (by kernel_rfl) ?_
 refine Tq.v1 rfl (run_fieldAddr fo_47_0) rfl ?_
 refine Tq.va rfl (fun _ _ h1 h2 => run_load1 ag_3 (h1.ev rfl) (rdb h2 (vs := [(iv p1.X), (iv p1.Y)]) (k := 1) rfl 0) rfl) ?_
 refine Tq.mv rfl rfl ?_
 refine Tq.v1 rfl run_nilCheck rfl ?_
 refine Tq.v1 rfl (run_fieldAddr fo_95_0) rfl ?_
 refine Tq.v1 rfl (run_fieldAddr fo_26_0) rfl ?_
 refine Tq.va rfl (fun _ _ h1 h2 => run_load1 ag_3 (h1.ev rfl) (CellsAt.drop (CellsAt.drop (rdR hbp0 hcp0 h2) 0) 0) rfl) ?_
 refine Tq.v2 rfl run_mul rfl rfl ?_
 refine Tq.v1 rfl (run_fieldAddr fo_47_0) rfl ?_
 refine Tq.va rfl (fun _ _ h1 h2 => run_load1 ag_3 (h1.ev rfl) (rdb h2 (vs := [(iv p2.X), (iv p2.Y)]) (k := 2) rfl 0) rfl) ?_
 refine Tq.v2 rfl run_add rfl rfl ?_
 refine Tq.v1 rfl (run_fieldAddr fo_47_1) rfl ?_
 refine Tq.va rfl (fun _ _ h1 h2 => run_load1 ag_3 (h1.ev rfl) (rdb h2 (vs := [(iv p1.X), (iv p1.Y)]) (k := 1) rfl 1) rfl) ?_
 refine Tq.mv rfl rfl ?_
 refine Tq.v1 rfl run_nilCheck rfl ?_
 refine Tq.v1 rfl (run_fieldAddr fo_95_0) rfl ?_
 refine Tq.v1 rfl (run_fieldAddr fo_26_0) rfl ?_
 refine Tq.va rfl (fun _ _ h1 h2 => run_load1 ag_3 (h1.ev rfl) (CellsAt.drop (CellsAt.drop (rdR hbp0 hcp0 h2) 0) 0) rfl) ?_
 refine Tq.v2 rfl run_mul rfl rfl ?_
 refine Tq.v1 rfl (run_fieldAddr fo_47_1) rfl ?_
 refine Tq.va rfl (fun _ _ h1 h2 => run_load1 ag_3 (h1.ev rfl) (rdb h2 (vs := [(iv p2.X), (iv p2.Y)]) (k := 2) rfl 1) rfl) ?_
 refine Tq.v2 rfl run_add rfl rfl ?_
 refine Tq.nil ?_
 refine Tr.build (vs := [(0, (iv (w64 ((w64 (p1.X * p0.p.Unit)) + p2.X)))), (1, (iv (w64 ((w64 (p1.Y * p0.p.Unit)) + p2.Y))))]) (cs := [(iv (w64 ((w64 (p1.X * p0.p.Unit)) + p2.X))), (iv (w64 ((w64 (p1.Y * p0.p.Unit)) + p2.Y)))]) (wn rfl) rfl (evs_cons rfl (evs_cons rfl evs_nil)) (by kernel_rfl) ?_
 refine Tr.store 3 (cs := [(iv (w64 ((w64 (p1.X * p0.p.Unit)) + p2.X))), (iv (w64 ((w64 (p1.Y * p0.p.Unit)) + p2.Y)))]) [(iv (w64 ((w64 (p1.X * p0.p.Unit)) + p2.X))), (iv (w64 ((w64 (p1.Y * p0.p.Unit)) + p2.Y)))] (wn rfl) rfl rfl rfl rfl sz_47 rfl rfl rfl ?_
 refine Tr.nil (Tr.normThen ?_)
 refine Tr.ret ?_
 obtain rfl := Option.some.inj H
 exact Tr.out (m := [(.agg #[(iv (w64 ((w64 (p1.X * p0.p.Unit)) + p2.X))), (iv (w64 ((w64 (p1.Y * p0.p.Unit)) + p2.Y)))])]) [3] (res_cell rfl rfl ag_47 sz_47 res_nil) (fun W hW => ⟨rfl, hW.low leB⟩)

theorem F_shape_IsPoint_ok {w : Bs} (p0 : TPoint) (r : Bool) (H : F_shape_IsPoint p0 = some r) (hE : HF w w.W E0) : Calls Tryz.prog 210 [(.agg #[(iv p0.X), (iv p0.Y)])].toArray w.W fun e W' => e = .returned (.bool r) ∧ HF w W' E0 := by
 unfold F_shape_IsPoint at H
 have leB := Bs.Le.refl w
 refine Tr.enter (n := 11) Tryz.func210 rfl rfl rfl hE ?_
 refine Tr.sr ?_
 refine Tr.box 1 (cs := [(iv p0.X), (iv p0.Y)]) (wn rfl) rfl rfl rfl fun b100 => ?_
 refine Tr.asg rfl rfl ?_
 refine Tr.nil (Tr.normThen ?_)
 refine Tr.sr ?_
 refine Tr.v1 rfl (run_fieldAddr fo_47_0) rfl ?_
 refine Tr.va rfl (fun _ _ h1 h2 => run_load1 ag_3 (h1.ev rfl) (rdb h2 (vs := [(iv p0.X), (iv p0.Y)]) (k := 1) rfl 0) rfl) ?_
 obtain ⟨y101, hy101, H⟩ := bnd H
 refine Tr.call0 (r := (.bool y101)) (wn rfl) rfl Tryz.call141 (evl_cons rfl evl_nil) (fun W hW => F_shape_IsAt_ok p0.X y101 hy101 (HF.start _)) ?_
 refine Tr.mv rfl rfl ?_
 obtain ⟨g103, hg103, H⟩ := bnd H
 refine Tr.mid0 4 [(10, (.bool g103))] [(1, bx b100 #[(iv p0.X), (iv p0.Y)] 47)] ?_ ?_
 ·cases hg104 : y101
  ·rw [hg104] at hg103
   rw [if_neg (by decide)] at hg103
   have H := hg103
   obtain rfl := Option.some.inj H
   refine Tr.ps ?_
   refine Tr.ps ?_
   refine Tr.ps ?_
   refine Tr.v2 rfl run_pickF rfl rfl ?_
   exact Tr.nil (Tr.fin0 (.r rfl) (.r rfl))
  ·rw [hg104] at hg103
   rw [if_pos rfl] at hg103
   have H := hg103
   refine Tr.w1 (wg rfl rfl rfl) rfl (run_fieldAddr fo_47_1) rfl ?_
   refine Tr.val (wg rfl rfl rfl) rfl (fun _ _ h1 h2 => run_load1 ag_3 (h1.ev rfl) (rdb h2 (vs := [(iv p0.X), (iv p0.Y)]) (k := 1) rfl 1) rfl) ?_
   obtain ⟨y104, hy104, H⟩ := bnd H
   refine Tr.call0 (r := (.bool y104)) (wg rfl rfl rfl) rfl Tryz.call141 (evl_cons rfl evl_nil) (fun W hW => F_shape_IsAt_ok p0.Y y104 hy104 (HF.start _)) ?_
   refine Tr.v2 rfl run_pickT rfl rfl ?_
   obtain rfl := Option.some.inj H
   exact Tr.nil (Tr.fin0 (.r rfl) (.r rfl))
 ·show Tr _ _ (LF [(10, (.bool g103))]) (LE [(1, bx b100 #[(iv p0.X), (iv p0.Y)] 47)]) _
  refine Tr.asg rfl rfl ?_
  refine Tr.nil (Tr.normThen ?_)
  refine Tr.ret ?_
  obtain rfl := Option.some.inj H
  exact Tr.out (m := [(.bool g103)]) [] (res_tmp rfl res_nil) (fun W hW => ⟨rfl, hW.low leB⟩)

theorem F_shape_Set__Around_ok {w : Bs} (p0 : (List TBand)) (Ap0_0 : Option Addr) (cp0_0 : Nat) (hp0_0 : Sl w.R w.W fl_TBand Ap0_0 cp0_0 p0) (r : TRect) (H : F_shape_Set__Around p0 = some r) (hE : HF w w.W E0) : Calls Tryz.prog 227 [(.slice Ap0_0 (p0).length cp0_0)].toArray w.W fun e W' => e = .returned (.agg #[(iv r.X0), (iv r.Y0), (iv r.X1), (iv r.Y1)]) ∧ HF w W' E0 := by
 unfold F_shape_Set__Around at H
 have leB := Bs.Le.refl w
 refine Tr.enter (n := 58) Tryz.func227 rfl rfl rfl hE ?_
 refine Tr.sr ?_
 refine Tr.alloc 1 (wn rfl) rfl ze_38 fun b100 => ?_
 refine Tr.nil (Tr.normThen ?_)
 refine Tr.seq ?_
 obtain ⟨x102, hx102, H⟩ := bnd H
 obtain ⟨hx1020, hx1021, hx1022⟩ := idx_some hx102
 obtain ⟨u103, hRu103, hoku103, hcu103⟩ := (hp0_0).el hx1022
 obtain ⟨Au103_0, cu103_0⟩ := u103
 have hoku103_0 := hoku103
 replace hoku103_0 : Sl w.R w.W fl_i64 Au103_0 cu103_0 x102.Xs := hoku103_0
 obtain ⟨x104, hx104, H⟩ := bnd H
 obtain ⟨hx1040, hx1041, hx1042⟩ := idx_some hx104
 obtain ⟨x105, hx105, H⟩ := bnd H
 obtain ⟨hx1050, hx1051, hx1052⟩ := idx_some hx105
 obtain ⟨u106, hRu106, hoku106, hcu106⟩ := (hp0_0).el hx1052
 obtain ⟨Au106_0, cu106_0⟩ := u106
 have hoku106_0 := hoku106
 replace hoku106_0 : Sl w.R w.W fl_i64 Au106_0 cu106_0 x105.Xs := hoku106_0
 obtain ⟨x107, hx107, H⟩ := bnd H
 obtain ⟨hx1070, hx1071, hx1072⟩ := idx_some hx107
 obtain ⟨u108, hRu108, hoku108, hcu108⟩ := (hp0_0).el hx1072
 obtain ⟨Au108_0, cu108_0⟩ := u108
 have hoku108_0 := hoku108
 replace hoku108_0 : Sl w.R w.W fl_i64 Au108_0 cu108_0 x107.Xs := hoku108_0
 obtain ⟨x109, hx109, H⟩ := bnd H
 obtain ⟨hx1090, hx1091, hx1092⟩ := idx_some hx109
 obtain ⟨x110, hx110, H⟩ := bnd H
 obtain ⟨hx1100, hx1101, hx1102⟩ := idx_some hx110
 obtain ⟨u111, hRu111, hoku111, hcu111⟩ := (hp0_0).el hx1102
 obtain ⟨Au111_0, cu111_0⟩ := u111
 have hoku111_0 := hoku111
 replace hoku111_0 : Sl w.R w.W fl_i64 Au111_0 cu111_0 x110.Xs := hoku111_0
 refine Tr.drawF 25 [(24, .makeFunc (.func 0) #[] #[])] [(24, ⟨3, 2, (.func (.func 0) #[] #[]), fun b => .pointer (some ⟨b, 0, none⟩), fun b => bx b #[(iv 0), (iv 0), (iv 0), (iv 0)] 38⟩)] [(0, (.slice Ap0_0 (p0).length cp0_0)), (2, (.pointer (some ⟨b100, 0, none⟩))), (3, (.func (.func 0) #[] #[])), (6, (.slice Ap0_0 (p0).length cp0_0)), (7, (.pointer (some ⟨adB Ap0_0, adO Ap0_0 + ((0 : Int)).toNat * 3, none⟩))), (8, (.pointer (some ⟨adB Ap0_0, adO Ap0_0 + ((0 : Int)).toNat * 3 + 2, none⟩))), (9, (.slice Au103_0 (x102.Xs).length cu103_0)), (10, (.pointer (some ⟨adB Au103_0, adO Au103_0 + ((0 : Int)).toNat * 1, none⟩))), (11, (iv x104)), (12, (.slice Ap0_0 (p0).length cp0_0)), (13, (.pointer (some ⟨adB Ap0_0, adO Ap0_0 + ((0 : Int)).toNat * 3, none⟩))), (14, (.pointer (some ⟨adB Ap0_0, adO Ap0_0 + ((0 : Int)).toNat * 3 + 0, none⟩))), (15, (iv x105.Y0)), (16, (.slice Ap0_0 (p0).length cp0_0)), (17, (.pointer (some ⟨adB Ap0_0, adO Ap0_0 + ((0 : Int)).toNat * 3, none⟩))), (18, (.pointer (some ⟨adB Ap0_0, adO Ap0_0 + ((0 : Int)).toNat * 3 + 2, none⟩))), (19, (.slice Au108_0 (x107.Xs).length cu108_0)), (20, (.pointer (some ⟨adB Au108_0, adO Au108_0 + ((1 : Int)).toNat * 1, none⟩))), (21, (iv x109)), (22, (.slice Ap0_0 (p0).length cp0_0)), (23, (.slice Ap0_0 (p0).length cp0_0)), (24, (iv (p0.length : Int))), (25, (iv (w64 ((p0.length : Int) - 1)))), (26, (.pointer (some ⟨adB Ap0_0, adO Ap0_0 + ((w64 ((p0.length : Int) - 1))).toNat * 3, none⟩))), (27, (.pointer (some ⟨adB Ap0_0, adO Ap0_0 + ((w64 ((p0.length : Int) - 1))).toNat * 3 + 1, none⟩))), (28, (iv x110.Y1)), (29, (.agg #[(iv x104), (iv x105.Y0), (iv x109), (iv x110.Y1)]))] (by kernel_rfl) (by kernel_rfl) (by kernel_rfl) (by kernel_rfl) (by kernel_rfl) (by kernel_rfl) (by kernel_rfl) (fall_cons (fr_alloc rfl rfl ze_38) fall_nil) (fall_cons rfl fall_nil) (fall_cons rfl fall_nil) ?_ ?_
 ·refine Tq.mv rfl rfl ?_
  refine Tq.va rfl (fun _ _ h1 h2 => run_indexAddr el_62 (h1.ev rfl) hp0_0.form (h1.ev rfl) hx1020 hx1021) ?_
  refine Tq.v1 rfl (run_fieldAddr fo_98_2) rfl ?_
  refine Tq.va rfl (fun _ _ h1 h2 => run_load1 ag_96 (h1.ev rfl) (CellsAt.drop (rdR hRu103 hcu103 h2) 2) rfl) ?_
  refine Tq.va rfl (fun _ _ h1 h2 => run_indexAddr el_96 (h1.ev rfl) hoku103_0.form (h1.ev rfl) hx1040 hx1041) ?_
  refine Tq.va rfl (fun _ _ h1 h2 => run_load1 ag_3 (h1.ev rfl) (rdF ef_i64 hoku103_0 hx1042 h2) rfl) ?_
  refine Tq.mv rfl rfl ?_
  refine Tq.va rfl (fun _ _ h1 h2 => run_indexAddr el_62 (h1.ev rfl) hp0_0.form (h1.ev rfl) hx1050 hx1051) ?_
  refine Tq.v1 rfl (run_fieldAddr fo_98_0) rfl ?_
  refine Tq.va rfl (fun _ _ h1 h2 => run_load1 ag_3 (h1.ev rfl) (CellsAt.drop (rdR hRu106 hcu106 h2) 0) rfl) ?_
  refine Tq.mv rfl rfl ?_
  refine Tq.va rfl (fun _ _ h1 h2 => run_indexAddr el_62 (h1.ev rfl) hp0_0.form (h1.ev rfl) hx1070 hx1071) ?_
  refine Tq.v1 rfl (run_fieldAddr fo_98_2) rfl ?_
  refine Tq.va rfl (fun _ _ h1 h2 => run_load1 ag_96 (h1.ev rfl) (CellsAt.drop (rdR hRu108 hcu108 h2) 2) rfl) ?_
  refine Tq.va rfl (fun _ _ h1 h2 => run_indexAddr el_96 (h1.ev rfl) hoku108_0.form (h1.ev rfl) hx1090 hx1091) ?_
  refine Tq.va rfl (fun _ _ h1 h2 => run_load1 ag_3 (h1.ev rfl) (rdF ef_i64 hoku108_0 hx1092 h2) rfl) ?_
  refine Tq.mv rfl rfl ?_
  refine Tq.mv rfl rfl ?_
  refine Tq.v1 rfl (run_len un_62) rfl ?_
  refine Tq.v2 rfl run_sub rfl rfl ?_
  refine Tq.va rfl (fun _ _ h1 h2 => run_indexAddr el_62 (h1.ev rfl) hp0_0.form (h1.ev rfl) hx1100 hx1101) ?_
  refine Tq.v1 rfl (run_fieldAddr fo_98_1) rfl ?_
  refine Tq.va rfl (fun _ _ h1 h2 => run_load1 ag_3 (h1.ev rfl) (CellsAt.drop (rdR hRu111 hcu111 h2) 1) rfl) ?_
  refine Tq.build (vs := [(0, (iv x104)), (1, (iv x105.Y0)), (2, (iv x109)), (3, (iv x110.Y1))]) (cs := [(iv x104), (iv x105.Y0), (iv x109), (iv x110.Y1)]) (wn rfl) rfl (evs_cons rfl (evs_cons rfl (evs_cons rfl (evs_cons rfl evs_nil)))) (by kernel_rfl) ?_
  refine Tq.mkFunc (vs := []) (wn rfl) rfl evl_nil ?_
  exact Tq.fin (.r rfl)
 ·intro bs101
  refine Tr.sel (lf := [(0, (.slice Ap0_0 (p0).length cp0_0)), (2, (.pointer (some ⟨b100, 0, none⟩))), (3, (.pointer (some ⟨(bs101 24), 0, none⟩))), (29, (.agg #[(iv x104), (iv x105.Y0), (iv x109), (iv x110.Y1)]))]) (le := [(1, bx b100 #[(iv 0), (iv 0), (iv 0), (iv 0)] 38), (2, bx (bs101 24) #[(iv 0), (iv 0), (iv 0), (iv 0)] 38)]) (.r rfl) (.r rfl) ?_
  refine Tr.store 2 (cs := [(iv x104), (iv x105.Y0), (iv x109), (iv x110.Y1)]) [(iv x104), (iv x105.Y0), (iv x109), (iv x110.Y1)] (wn rfl) rfl rfl rfl rfl sz_38 rfl rfl rfl ?_
  refine Tr.nil (Tr.normThen ?_)
  refine Tr.seq ?_
  refine Tr.sr ?_
  refine Tr.mv rfl rfl ?_
  refine Tr.v1 rfl (run_len un_62) rfl ?_
  refine Tr.mv rfl rfl ?_
  refine Tr.nil (Tr.normThen ?_)
  refine Tr.block ?_
  refine Tr.loop (σ := (List TBand) × Nat × Int × Int) (fun m w s => m = s.1.length + 1 ∧ s.1 = List.drop s.2.1 p0 ∧ s.2.1 ≤ p0.length ∧ F_shape_Set__Around_L1 x105 x110 s.1 s.2.1 s.2.2.1 s.2.2.2 = some r) (fun s => [(2, (.pointer (some ⟨b100, 0, none⟩))), (3, (.pointer (some ⟨(bs101 24), 0, none⟩))), (30, (.slice Ap0_0 (p0).length cp0_0)), (31, (iv (p0.length : Int))), (32, (iv (s.2.1 : Int)))]) (fun s => [(1, bx b100 #[(iv 0), (iv 0), (iv 0), (iv 0)] 38), (2, bx (bs101 24) #[(iv s.2.2.1), (iv x105.Y0), (iv s.2.2.2), (iv x110.Y1)] 38)]) (p0.length + 1) (p0, 0, x104, x109) ⟨rfl, rfl, Nat.zero_le _, H⟩ (.r rfl) (.r rfl) (fun _ _ h => absurd h.1 (by simp)) ?_
  intro w leL1 m s hs
  obtain ⟨restL1, iL1, x133, x134⟩ := s
  obtain ⟨hmL1, hdL1, hiL1, H⟩ := hs
  replace hdL1 : restL1 = List.drop iL1 p0 := hdL1
  replace H : F_shape_Set__Around_L1 x105 x110 restL1 iL1 x133 x134 = some r := H
  replace hmL1 : m + 1 = restL1.length + 1 := hmL1
  replace hp0_0 := hp0_0.leR leL1
  replace leB := leB.trans leL1
  obtain rfl : m = restL1.length := by omega
  clear hmL1
  show Tr _ _ (LF [(2, (.pointer (some ⟨b100, 0, none⟩))), (3, (.pointer (some ⟨(bs101 24), 0, none⟩))), (30, (.slice Ap0_0 (p0).length cp0_0)), (31, (iv (p0.length : Int))), (32, (iv (iL1 : Int)))]) (LE [(1, bx b100 #[(iv 0), (iv 0), (iv 0), (iv 0)] 38), (2, bx (bs101 24) #[(iv x133), (iv x105.Y0), (iv x134), (iv x110.Y1)] 38)]) _
  cases restL1 with
  | nil =>
   rw [F_shape_Set__Around_L1.eq_1] at H
   refine Tr.sr ?_
   refine Tr.v2 rfl run_lss rfl rfl ?_
   refine Tr.nil (Tr.normThen ?_)
   refine Tr.seq ?_
   refine Tr.condF rfl (range_nil hdL1) ?_
   refine Tr.exit (Tr.exitThen (Tr.exitThen (Tr.exitBlock (Tr.normThen ?_))))
   refine Tr.sr ?_
   refine Tr.va rfl (fun _ _ h1 h2 => run_loadN (cs := [(iv x133), (iv x105.Y0), (iv x134), (iv x110.Y1)]) ag_38 sz_38 (h1.ev rfl) (CellsAt.take (rdb h2 (vs := [(iv x133), (iv x105.Y0), (iv x134), (iv x110.Y1)]) (k := 2) rfl 0) 4) rfl) ?_
   refine Tr.store 1 (cs := [(iv x133), (iv x105.Y0), (iv x134), (iv x110.Y1)]) [(iv x133), (iv x105.Y0), (iv x134), (iv x110.Y1)] (wn rfl) rfl rfl rfl rfl sz_38 rfl rfl rfl ?_
   refine Tr.nil (Tr.normThen ?_)
   refine Tr.ret ?_
   obtain rfl := Option.some.inj H
   exact Tr.out (m := [(.agg #[(iv x133), (iv x105.Y0), (iv x134), (iv x110.Y1)])]) [1] (res_cell rfl rfl ag_38 sz_38 res_nil) (fun W hW => ⟨rfl, hW.low leB⟩)
  | cons xL1 restL1 =>
   rw [F_shape_Set__Around_L1.eq_2] at H
   refine Tr.sr ?_
   refine Tr.v2 rfl run_lss rfl rfl ?_
   refine Tr.nil (Tr.normThen ?_)
   refine Tr.seq ?_
   refine Tr.condT rfl (range_on hdL1) ?_
   refine Tr.skip (Tr.normThen ?_)
   refine Tr.seq ?_
   refine Tr.block ?_
   refine Tr.sr ?_
   obtain ⟨u135, hRu135, hoku135, hcu135⟩ := (hp0_0).el (range_at hdL1)
   obtain ⟨Au135_0, cu135_0⟩ := u135
   have hoku135_0 := hoku135
   replace hoku135_0 : Sl w.R w.W fl_i64 Au135_0 cu135_0 xL1.Xs := hoku135_0
   refine Tr.va rfl (fun _ _ h1 h2 => run_indexAddr el_62 (h1.ev rfl) hp0_0.form (h1.ev rfl) (Int.natCast_nonneg _) (range_lt hdL1)) ?_
   refine Tr.va rfl (fun _ _ h1 h2 => run_loadN (cs := [(iv xL1.Y0), (iv xL1.Y1), (.slice Au135_0 (xL1.Xs).length cu135_0)]) ag_98 sz_98 (h1.ev rfl) (CellsAt.take (rdR hRu135 hcu135 h2) 3) rfl) ?_
   refine Tr.alloc 5 (wn rfl) rfl ze_98 fun b136 => ?_
   refine Tr.store 5 (cs := [(iv xL1.Y0), (iv xL1.Y1), (.slice Au135_0 (xL1.Xs).length cu135_0)]) [(iv xL1.Y0), (iv xL1.Y1), (.slice Au135_0 (xL1.Xs).length cu135_0)] (wn rfl) rfl rfl rfl rfl sz_98 rfl rfl rfl ?_
   refine Tr.nil (Tr.normThen ?_)
   refine Tr.drawC 20 [(19, fun x => x = (bs101 24))] [] (by kernel_rfl) (by kernel_rfl) fun sz137 hlosz137 hEsz137 => ?_
   refine Dr.quiet 0 [(36, (.pointer (some ⟨(bs101 24), 0, none⟩)))] (by kernel_rfl) rfl rfl (by kernel_rfl) ?_ rfl rfl ?_
   ·refine Tq.v1 rfl (run_fieldAddr fo_38_0) rfl ?_
    exact Tq.fin (.r rfl)
   refine Dr.quiet 1 [(37, (iv x133))] (by kernel_rfl) rfl rfl (by kernel_rfl) ?_ rfl rfl ?_
   ·refine Tq.va rfl (fun _ _ h1 h2 => run_load1 ag_3 (h1.ev rfl) (rdb h2 (vs := [(iv x133), (iv x105.Y0), (iv x134), (iv x110.Y1)]) (k := 2) rfl 0) rfl) ?_
    exact Tq.fin (.r rfl)
   refine Dr.quiet 2 [(38, (.pointer (some ⟨b136, 2, none⟩)))] (by kernel_rfl) rfl rfl (by kernel_rfl) ?_ rfl rfl ?_
   ·refine Tq.v1 rfl (run_fieldAddr fo_98_2) rfl ?_
    exact Tq.fin (.r rfl)
   refine Dr.quiet 3 [(39, (.slice Au135_0 (xL1.Xs).length cu135_0))] (by kernel_rfl) rfl rfl (by kernel_rfl) ?_ rfl rfl ?_
   ·refine Tq.va rfl (fun _ _ h1 h2 => run_load1 ag_96 (h1.ev rfl) (rdb h2 (vs := [(iv xL1.Y0), (iv xL1.Y1), (.slice Au135_0 (xL1.Xs).length cu135_0)]) (k := 5) rfl 2) rfl) ?_
    exact Tq.fin (.r rfl)
   obtain ⟨x138, hx138, H⟩ := bnd H
   obtain ⟨hx1380, hx1381, hx1382⟩ := idx_some hx138
   refine Dr.quiet 4 [(40, (.pointer (some ⟨adB Au135_0, adO Au135_0 + ((0 : Int)).toNat * 1, none⟩)))] (by kernel_rfl) rfl rfl (by kernel_rfl) ?_ rfl rfl ?_
   ·refine Tq.va rfl (fun _ _ h1 h2 => run_indexAddr el_96 (h1.ev rfl) hoku135_0.form (h1.ev rfl) hx1380 hx1381) ?_
    exact Tq.fin (.r rfl)
   refine Dr.quiet 5 [(41, (iv x138))] (by kernel_rfl) rfl rfl (by kernel_rfl) ?_ rfl rfl ?_
   ·refine Tq.va rfl (fun _ _ h1 h2 => run_load1 ag_3 (h1.ev rfl) (rdF ef_i64 hoku135_0 hx1382 h2) rfl) ?_
    exact Tq.fin (.r rfl)
   refine Dr.quiet 6 [(42, (iv (min x133 x138)))] (by kernel_rfl) rfl rfl (by kernel_rfl) ?_ rfl rfl ?_
   ·refine Tq.va rfl (fun _ _ h1 h2 => run_min (h1.ev rfl) (h1.ev rfl) _) ?_
    exact Tq.fin (.r rfl)
   refine Dr.quiet 7 [(43, (.pointer (some ⟨(bs101 24), 2, none⟩)))] (by kernel_rfl) rfl rfl (by kernel_rfl) ?_ rfl rfl ?_
   ·refine Tq.v1 rfl (run_fieldAddr fo_38_2) rfl ?_
    exact Tq.fin (.r rfl)
   refine Dr.quiet 8 [(44, (iv x134))] (by kernel_rfl) rfl rfl (by kernel_rfl) ?_ rfl rfl ?_
   ·refine Tq.va rfl (fun _ _ h1 h2 => run_load1 ag_3 (h1.ev rfl) (rdb h2 (vs := [(iv x133), (iv x105.Y0), (iv x134), (iv x110.Y1)]) (k := 2) rfl 2) rfl) ?_
    exact Tq.fin (.r rfl)
   refine Dr.quietP 9 (by kernel_rfl) rfl (wn rfl) rfl (by kernel_rfl) (fun _ _ h1 => run_fieldAddr fo_98_2 (h1.ev rfl)) rfl ?_
   refine Dr.quietZ 10 [(46, (.slice Au135_0 (xL1.Xs).length cu135_0))] [19] false (by kernel_rfl) rfl rfl (by kernel_rfl) (fun W W' h2 hsW hk => HF.keepZ (le := [(5, bx b136 #[(iv xL1.Y0), (iv xL1.Y1), (.slice Au135_0 (xL1.Xs).length cu135_0)] 98)]) (ks := [(2, fun x => x = (bs101 24))]) (s0 := sz137) false h2 hk (fun h => absurd h (by decide)) (.r rfl) (fun b hb => hb.elim (fun ⟨p, hp, hf, hb⟩ => by simp only [List.mem_cons, List.not_mem_nil, or_false] at hp; rcases hp with rfl; exact .inl ⟨_, List.mem_cons_self, hb⟩) (fun hb => absurd hb.1 (by decide))) (List.forall_mem_cons.2 ⟨fun b hb => hb, (fun _ h => nomatch h)⟩) rfl) ?_ rfl rfl ?_
   ·refine Tq.va rfl (fun _ _ h1 h2 => run_load1 ag_96 (h1.ev rfl) (rdb h2 (vs := [(iv xL1.Y0), (iv xL1.Y1), (.slice Au135_0 (xL1.Xs).length cu135_0)]) (k := 5) rfl 2) rfl) ?_
    exact Tq.fin (.r rfl)
   refine Dr.quietP 11 (by kernel_rfl) rfl (wn rfl) rfl (by kernel_rfl) (fun _ _ h1 => run_fieldAddr fo_98_2 (h1.ev rfl)) rfl ?_
   refine Dr.quietZ 12 [(48, (.slice Au135_0 (xL1.Xs).length cu135_0))] [19] false (by kernel_rfl) rfl rfl (by kernel_rfl) (fun W W' h2 hsW hk => HF.keepZ (le := [(5, bx b136 #[(iv xL1.Y0), (iv xL1.Y1), (.slice Au135_0 (xL1.Xs).length cu135_0)] 98)]) (ks := [(2, fun x => x = (bs101 24))]) (s0 := sz137) false h2 hk (fun h => absurd h (by decide)) (.r rfl) (fun b hb => hb.elim (fun ⟨p, hp, hf, hb⟩ => by simp only [List.mem_cons, List.not_mem_nil, or_false] at hp; rcases hp with rfl; exact .inl ⟨_, List.mem_cons_self, hb⟩) (fun hb => absurd hb.1 (by decide))) (List.forall_mem_cons.2 ⟨fun b hb => hb, (fun _ h => nomatch h)⟩) rfl) ?_ rfl rfl ?_
   ·refine Tq.va rfl (fun _ _ h1 h2 => run_load1 ag_96 (h1.ev rfl) (rdb h2 (vs := [(iv xL1.Y0), (iv xL1.Y1), (.slice Au135_0 (xL1.Xs).length cu135_0)]) (k := 5) rfl 2) rfl) ?_
    exact Tq.fin (.r rfl)
   refine Dr.quietP 13 (by kernel_rfl) rfl (wn rfl) rfl (by kernel_rfl) (fun _ _ h1 => run_len un_96 (h1.ev rfl)) rfl ?_
   refine Dr.quietP 14 (by kernel_rfl) rfl (wn rfl) rfl (by kernel_rfl) (fun _ _ h1 => run_sub (h1.ev rfl) (h1.ev rfl)) rfl ?_
   obtain ⟨x139, hx139, H⟩ := bnd H
   obtain ⟨hx1390, hx1391, hx1392⟩ := idx_some hx139
   refine Dr.quietP 15 (by kernel_rfl) rfl (wn rfl) rfl (by kernel_rfl) (fun _ _ h1 => run_indexAddr el_96 (h1.ev rfl) hoku135_0.form (h1.ev rfl) hx1390 hx1391) rfl ?_
   refine Dr.quietZ 16 [(52, (iv x139))] [19] false (by kernel_rfl) rfl rfl (by kernel_rfl) (fun W W' h2 hsW hk => HF.keepZ (le := []) (ks := [(2, fun x => x = (bs101 24))]) (s0 := sz137) false h2 hk (fun h => absurd h (by decide)) .nil (fun b hb => hb.elim (fun ⟨p, hp, hf, hb⟩ => by simp only [List.mem_cons, List.not_mem_nil, or_false] at hp; rcases hp with rfl; exact .inl ⟨_, List.mem_cons_self, hb⟩) (fun hb => absurd hb.1 (by decide))) (List.forall_mem_cons.2 ⟨fun b hb => hb, (fun _ h => nomatch h)⟩) rfl) ?_ rfl rfl ?_
   ·refine Tq.va rfl (fun _ _ h1 h2 => run_load1 ag_3 (h1.ev rfl) (rdF ef_i64 hoku135_0 hx1392 h2) rfl) ?_
    exact Tq.fin (.r rfl)
   refine Dr.quietP 17 (by kernel_rfl) rfl (wn rfl) rfl (by kernel_rfl) (fun _ _ h1 => run_max (h1.ev rfl) (h1.ev rfl) _) rfl ?_
   refine Dr.quiet 18 [(54, (.pointer (some ⟨(bs101 24), 0, none⟩)))] (by kernel_rfl) rfl rfl (by kernel_rfl) ?_ rfl rfl ?_
   ·refine Tq.v1 rfl (run_fieldAddr fo_38_0) rfl ?_
    exact Tq.fin (.r rfl)
   refine Dr.one 19 (by kernel_rfl) ?_
   refine St.store 19 2 (cs := [(iv (min x133 x138))]) [(iv (min x133 x138)), (iv x105.Y0), (iv x134), (iv x110.Y1)] rfl (wn rfl) (.inl ⟨_, List.mem_cons_self, rfl, rfl⟩) rfl rfl rfl rfl sz_3 rfl rfl rfl ?_
   refine Dr.tail (by kernel_rfl) ?_
   refine Tr.v1 rfl (run_fieldAddr fo_38_2) rfl ?_
   refine Tr.store 2 (cs := [(iv (max x134 x139))]) [(iv (min x133 x138)), (iv x105.Y0), (iv (max x134 x139)), (iv x110.Y1)] (wn rfl) rfl rfl rfl rfl sz_3 rfl rfl rfl ?_
   refine Tr.nil (Tr.normBlock (Tr.normThen ?_))
   refine Tr.region ?_
   refine Tr.v2 rfl run_add rfl rfl ?_
   refine Tr.mv rfl rfl ?_
   refine Tr.nil ?_
   exact Tr.backThen leL1 (restL1, (iL1 + 1), (min x133 x138), (max x134 x139)) ⟨rfl, range_tl hdL1, range_lt hdL1, H⟩ (.cons rfl (.cons rfl (.cons rfl (.cons rfl (.cons (congrArg (fun z => some (Value.int .i64 z)) (range_up hdL1 hp0_0.form)) .nil))))) (.r rfl)

theorem F_shape_Set__Fits_ok {w : Bs} (p0 : (List TBand)) (Ap0_0 : Option Addr) (cp0_0 : Nat) (hp0_0 : Sl w.R w.W fl_TBand Ap0_0 cp0_0 p0) (r : Bool) (H : F_shape_Set__Fits p0 = some r) (hE : HF w w.W E0) : Calls Tryz.prog 222 [(.slice Ap0_0 (p0).length cp0_0)].toArray w.W fun e W' => e = .returned (.bool r) ∧ HF w W' E0 := by
 unfold F_shape_Set__Fits at H
 have leB := Bs.Le.refl w
 refine Tr.enter (n := 11) Tryz.func222 rfl rfl rfl hE ?_
 refine Tr.sr ?_
 refine Tr.asg rfl rfl ?_
 refine Tr.nil (Tr.normThen ?_)
 refine Tr.sr ?_
 refine Tr.mv rfl rfl ?_
 refine Tr.v1 rfl (run_len un_62) rfl ?_
 refine Tr.v2 rfl run_eql rfl rfl ?_
 refine Tr.mv rfl rfl ?_
 obtain ⟨g102, hg102, H⟩ := bnd H
 refine Tr.mid0 4 [(10, (.bool g102))] [] ?_ ?_
 ·cases hg104 : ((p0.length : Int) == 0)
  ·rw [hg104] at hg102
   rw [if_neg (by decide)] at hg102
   have H := hg102
   refine Tr.w1 (wg rfl rfl rfl) rfl run_move rfl ?_
   obtain ⟨y103, hy103, H⟩ := bnd H
   refine Tr.call0 (r := (.agg #[(iv y103.X0), (iv y103.Y0), (iv y103.X1), (iv y103.Y1)])) (wg rfl rfl rfl) rfl Tryz.call227 (evl_cons rfl evl_nil) (fun W hW => F_shape_Set__Around_ok p0 Ap0_0 cp0_0 (hp0_0.ext hW.extAll) y103 hy103 (HF.start _)) ?_
   obtain ⟨y104, hy104, H⟩ := bnd H
   refine Tr.call0 (r := (.bool y104)) (wg rfl rfl rfl) rfl Tryz.call104 (evl_cons rfl evl_nil) (fun W hW => F_shape_isRect_ok y103 y104 hy104 (HF.start _)) ?_
   refine Tr.v2 rfl run_pickF rfl rfl ?_
   obtain rfl := Option.some.inj H
   exact Tr.nil (Tr.fin0 (.r rfl) .nil)
  ·rw [hg104] at hg102
   rw [if_pos rfl] at hg102
   have H := hg102
   obtain rfl := Option.some.inj H
   refine Tr.ps ?_
   refine Tr.ps ?_
   refine Tr.ps ?_
   refine Tr.v2 rfl run_pickT rfl rfl ?_
   exact Tr.nil (Tr.fin0 (.r rfl) .nil)
 ·show Tr _ _ (LF [(10, (.bool g102))]) (LE []) _
  refine Tr.asg rfl rfl ?_
  refine Tr.nil (Tr.normThen ?_)
  refine Tr.ret ?_
  obtain rfl := Option.some.inj H
  exact Tr.out (m := [(.bool g102)]) [] (res_tmp rfl res_nil) (fun W hW => ⟨rfl, hW.low leB⟩)

theorem F_shape_Set__at_ok {w : Bs} (p0 : (List TBand)) (Ap0_0 : Option Addr) (cp0_0 : Nat) (hp0_0 : Sl w.O w.W fl_TBand Ap0_0 cp0_0 p0) (p1 : Int) (p2 : Int) (r : ((List Int) × Int)) (H : F_shape_Set__at p0 p1 p2 = some r) (hE : HF w w.W (LEn [])) : Calls Tryz.prog 231 [(.slice Ap0_0 (p0).length cp0_0), (iv p1), (iv p2)].toArray w.W fun e W' => ∃ (w' : Bs) (u : (Option Addr × Nat)), w.Le w' ∧ e = .returned (.tuple #[(.slice u.1 (r.1).length u.2), (iv r.2)]) ∧ (Sl w'.O w'.W fl_i64 u.1 u.2 r.1) ∧ HF w' W' (LEn []) := by
 unfold F_shape_Set__at at H
 have leB := Bs.Le.refl w
 refine Tr.enter (n := 36) Tryz.func231 rfl rfl rfl hE ?_
 refine Tr.sr ?_
 refine Tr.asg rfl rfl ?_
 refine Tr.nilOwn 1 3 fl_i64 ?_
 show Tr _ _ (uf _ 6 (.slice none (([] : List Int)).length 0)) _ _
 refine Tr.asg rfl rfl ?_
 refine Tr.nil (Tr.normThen ?_)
 refine Tr.seq ?_
 refine Tr.block ?_
 refine Tr.sr ?_
 refine Tr.mv rfl rfl ?_
 refine Tr.v1 rfl (run_len un_62) rfl ?_
 refine Tr.v2 rfl run_eql rfl rfl ?_
 refine Tr.asg rfl rfl ?_
 refine Tr.nil (Tr.normThen ?_)
 refine Tr.cond rfl H (fun H => ?_) (fun H => ?_)
 ·refine Tr.sr ?_
  refine Tr.mv rfl rfl ?_
  refine Tr.asg rfl rfl ?_
  refine Tr.nilOwn 2 3 fl_i64 ?_
  show Tr _ _ (uf _ 6 (.slice none (([] : List Int)).length 0)) _ _
  refine Tr.asg rfl rfl ?_
  refine Tr.nil (Tr.normThen ?_)
  refine Tr.ret (Tr.retBlock (Tr.retThen ?_))
  obtain rfl := Option.some.inj H
  refine Tr.freeze 2 rfl fun w le101 hz100 => ?_
  replace hp0_0 := hp0_0.le le101
  replace leB := leB.trans le101
  exact Tr.out (m := [(.slice none (([] : List Int)).length 0), (iv p2)]) [] (res_tmp rfl (res_tmp rfl res_nil)) (fun W hW => ⟨w, (none, 0), leB, rfl, hz100, hW.pick (ks := []) (by decide) pk_nil⟩)
 ·refine Tr.sr ?_
  refine Tr.mv rfl rfl ?_
  refine Tr.mv rfl rfl ?_
  obtain ⟨x102, hx102, H⟩ := bnd H
  obtain ⟨hx1020, hx1021, hx1022⟩ := idx_some hx102
  obtain ⟨u103, hRu103, hoku103, hcu103⟩ := (hp0_0).el hx1022
  obtain ⟨Au103_0, cu103_0⟩ := u103
  have hoku103_0 := hoku103
  replace hoku103_0 : Sl w.O w.W fl_i64 Au103_0 cu103_0 x102.Xs := hoku103_0
  replace hRu103 : w.R (adB Ap0_0) := Or.inl hRu103
  refine Tr.va rfl (fun _ _ h1 h2 => run_indexAddr el_62 (h1.ev rfl) hp0_0.form (h1.ev rfl) hx1020 hx1021) ?_
  refine Tr.v1 rfl (run_fieldAddr fo_98_0) rfl ?_
  refine Tr.va rfl (fun _ _ h1 h2 => run_load1 ag_3 (h1.ev rfl) (CellsAt.drop (rdR hRu103 hcu103 h2) 0) rfl) ?_
  refine Tr.v2 rfl run_lss rfl rfl ?_
  refine Tr.asg rfl rfl ?_
  refine Tr.nil (Tr.normThen ?_)
  refine Tr.cond rfl H (fun H => ?_) (fun H => ?_)
  ·refine Tr.seq ?_
   refine Tr.draw (by kernel_rfl) (by kernel_rfl) ?_
   refine Tq.mv rfl rfl ?_
   refine Tq.mv rfl rfl ?_
   obtain ⟨x104, hx104, H⟩ := bnd H
   obtain ⟨hx1040, hx1041, hx1042⟩ := idx_some hx104
   obtain ⟨u105, hRu105, hoku105, hcu105⟩ := (hp0_0).el hx1042
   obtain ⟨Au105_0, cu105_0⟩ := u105
   have hoku105_0 := hoku105
   replace hoku105_0 : Sl w.O w.W fl_i64 Au105_0 cu105_0 x104.Xs := hoku105_0
   replace hRu105 : w.R (adB Ap0_0) := Or.inl hRu105
   refine Tq.va rfl (fun _ _ h1 h2 => run_indexAddr el_62 (h1.ev rfl) hp0_0.form (h1.ev rfl) hx1040 hx1041) ?_
   refine Tq.v1 rfl (run_fieldAddr fo_98_0) rfl ?_
   refine Tq.va rfl (fun _ _ h1 h2 => run_load1 ag_3 (h1.ev rfl) (CellsAt.drop (rdR hRu105 hcu105 h2) 0) rfl) ?_
   refine Tq.va rfl (fun _ _ h1 h2 => run_min (h1.ev rfl) (h1.ev rfl) _) ?_
   refine Tq.asg rfl rfl ?_
   refine Tq.asg rfl rfl ?_
   refine Tq.nil (Tr.normThen ?_)
   refine Tr.ret (Tr.retBlock (Tr.retThen ?_))
   obtain rfl := Option.some.inj H
   exact Tr.out (m := [(.slice none 0 0), (iv (min p2 x104.Y0))]) [] (res_tmp rfl (res_tmp rfl res_nil)) (fun W hW => ⟨w, (none, 0), leB, rfl, (Sl.nil _ _ _), hW.pick (ks := []) (by decide) pk_nil⟩)
  ·refine Tr.skip (Tr.normBlock (Tr.normThen ?_))
   refine Tr.seq ?_
   refine Tr.draw (by kernel_rfl) (by kernel_rfl) ?_
   refine Tq.mv rfl rfl ?_
   obtain ⟨x106, hx106, H⟩ := bnd H
   obtain ⟨hx1060, hx1061, hx1062⟩ := idx_some hx106
   obtain ⟨u107, hRu107, hoku107, hcu107⟩ := (hp0_0).el hx1062
   obtain ⟨Au107_0, cu107_0⟩ := u107
   have hoku107_0 := hoku107
   replace hoku107_0 : Sl w.O w.W fl_i64 Au107_0 cu107_0 x106.Xs := hoku107_0
   replace hRu107 : w.R (adB Ap0_0) := Or.inl hRu107
   refine Tq.va rfl (fun _ _ h1 h2 => run_indexAddr el_62 (h1.ev rfl) hp0_0.form (h1.ev rfl) hx1060 hx1061) ?_
   refine Tq.v1 rfl (run_fieldAddr fo_98_2) rfl ?_
   refine Tq.va rfl (fun _ _ h1 h2 => run_load1 ag_96 (h1.ev rfl) (CellsAt.drop (rdR hRu107 hcu107 h2) 2) rfl) ?_
   refine Tq.mv rfl rfl ?_
   refine Tq.mv rfl rfl ?_
   obtain ⟨x108, hx108, H⟩ := bnd H
   obtain ⟨hx1080, hx1081, hx1082⟩ := idx_some hx108
   obtain ⟨u109, hRu109, hoku109, hcu109⟩ := (hp0_0).el hx1082
   obtain ⟨Au109_0, cu109_0⟩ := u109
   have hoku109_0 := hoku109
   replace hoku109_0 : Sl w.O w.W fl_i64 Au109_0 cu109_0 x108.Xs := hoku109_0
   replace hRu109 : w.R (adB Ap0_0) := Or.inl hRu109
   refine Tq.va rfl (fun _ _ h1 h2 => run_indexAddr el_62 (h1.ev rfl) hp0_0.form (h1.ev rfl) hx1080 hx1081) ?_
   refine Tq.v1 rfl (run_fieldAddr fo_98_1) rfl ?_
   refine Tq.va rfl (fun _ _ h1 h2 => run_load1 ag_3 (h1.ev rfl) (CellsAt.drop (rdR hRu109 hcu109 h2) 1) rfl) ?_
   refine Tq.va rfl (fun _ _ h1 h2 => run_min (h1.ev rfl) (h1.ev rfl) _) ?_
   refine Tq.asg rfl rfl ?_
   refine Tq.asg rfl rfl ?_
   refine Tq.nil (Tr.normThen ?_)
   refine Tr.ret ?_
   obtain rfl := Option.some.inj H
   exact Tr.out (m := [(.slice Au107_0 (x106.Xs).length cu107_0), (iv (min p2 x108.Y1))]) [] (res_tmp rfl (res_tmp rfl res_nil)) (fun W hW => ⟨w, (Au107_0, cu107_0), leB, rfl, hoku107_0, hW.pick (ks := []) (by decide) pk_nil⟩)

theorem F_shape_Merge_ok (N : Nat) {w : Bs} (p0 : (List TBand)) (Ap0_0 : Option Addr) (cp0_0 : Nat) (hp0_0 : Sl w.O w.W fl_TBand Ap0_0 cp0_0 p0) (p1 : (List TBand)) (Ap1_0 : Option Addr) (cp1_0 : Nat) (hp1_0 : Sl w.O w.W fl_TBand Ap1_0 cp1_0 p1) (p2 : Bool → Bool → Option Bool) (fid2 : Nat) (cap2 : List Value) (hg2 : ∀ args W, (callFunc fid2 args).run Tryz.prog W = .ok (.enter fid2 args) W) (hf2 : ∀ (w' : Bs), w.Ext w' → ∀ (z0 : Bool) (z1 : Bool), ∀ y, p2 z0 z1 = some y → Calls Tryz.prog fid2 (([(.bool z0), (.bool z1)] : List Value) ++ cap2).toArray w'.W fun e W'' => e = .returned (.bool y) ∧ HF w' W'' E0) (r : (List TBand)) (H : F_shape_Merge N p0 p1 p2 = some r) (hE : HF w w.W (LEn [emp])) : Calls Tryz.prog 228 [(.slice Ap0_0 (p0).length cp0_0), (.slice Ap1_0 (p1).length cp1_0), (.func (.func fid2) #[] cap2.toArray)].toArray w.W fun e W' => ∃ (w' : Bs) (u : (Option Addr × Nat)), w.Le w' ∧ e = .returned (.slice u.1 (r).length u.2) ∧ (SlF u.1 (r).length u.2) ∧ HF w' W' (LEn [ow u.1 u.2 98 fl_TBand r]) := by
 unfold F_shape_Merge at H
 have leB := Bs.Le.refl w
 refine Tr.enter (n := 126) Tryz.func228 rfl rfl rfl hE ?_
 refine Tr.sr ?_
 refine Tr.asg rfl rfl ?_
 refine Tr.nilOwn 1 98 fl_TBand ?_
 show Tr _ _ (uf _ 6 (.slice none (([] : List TBand)).length 0)) _ _
 refine Tr.nil (Tr.normThen ?_)
 refine Tr.sr ?_
 refine Tr.asg rfl rfl ?_
 refine Tr.nilOwn 2 98 fl_TBand ?_
 show Tr _ _ (uf _ 7 (.slice none (([] : List TBand)).length 0)) _ _
 refine Tr.nil (Tr.normThen ?_)
 refine Tr.seq ?_
 refine Tr.sr ?_
 refine Tr.mv rfl rfl ?_
 refine Tr.v1 rfl (run_len un_62) rfl ?_
 refine Tr.mv rfl rfl ?_
 refine Tr.v1 rfl (run_len un_62) rfl ?_
 refine Tr.v2 rfl run_add rfl rfl ?_
 refine Tr.v2 rfl run_eql rfl rfl ?_
 refine Tr.nil (Tr.normThen ?_)
 refine Tr.cond rfl H (fun H => ?_) (fun H => ?_)
 ·refine Tr.sr ?_
  refine Tr.asg rfl rfl ?_
  refine Tr.nilOwn 3 98 fl_TBand ?_
  show Tr _ _ (uf _ 6 (.slice none (([] : List TBand)).length 0)) _ _
  refine Tr.nil (Tr.normThen ?_)
  refine Tr.ret (Tr.retThen ?_)
  obtain rfl := Option.some.inj H
  exact Tr.out (m := [(.slice none (([] : List TBand)).length 0)]) [] (res_tmp rfl res_nil) (fun W hW => ⟨w, (none, 0), leB, rfl, slf_nil, hW.pick (ks := [3]) (by decide) (pk_cons rfl pk_nil)⟩)
 ·refine Tr.skip (Tr.normThen ?_)
  refine Tr.sr ?_
  refine Tr.asg rfl rfl ?_
  refine Tr.asg rfl rfl ?_
  refine Tr.nil (Tr.normThen ?_)
  refine Tr.seq ?_
  refine Tr.sr ?_
  refine Tr.mv rfl rfl ?_
  refine Tr.mv rfl rfl ?_
  refine Tr.buildSlice 4 (e := 62) (vs := [(0, (.slice Ap0_0 (p0).length cp0_0)), (1, (.slice Ap1_0 (p1).length cp1_0))]) (cs := [(.slice Ap0_0 (p0).length cp0_0), (.slice Ap1_0 (p1).length cp1_0)]) (wn rfl) rfl (evs_cons rfl (evs_cons rfl evs_nil)) (by kernel_rfl) fun b100 => ?_
  refine Tr.v1 rfl (run_len un_93) rfl ?_
  refine Tr.mv rfl rfl ?_
  refine Tr.nil (Tr.normThen ?_)
  refine Tr.block ?_
  refine Tr.own 4 fl_LTBand [p0, p1] (css := [[(.slice Ap0_0 (p0).length cp0_0)], [(.slice Ap1_0 (p1).length cp1_0)]]) rfl (.cons ⟨(Ap0_0, cp0_0), hp0_0, rfl⟩ (.cons ⟨(Ap1_0, cp1_0), hp1_0, rfl⟩ .nil)) rfl (by decide) (lit_max rfl) ?_
  refine Tr.ren 4 9 rfl rfl rfl ?_
  refine Tr.loop (σ := Int × Int × (List (List TBand)) × Int × (Option Addr) × Nat) (fun m w s => F_shape_Merge_L3 N p0 p1 p2 m s.1 s.2.1 s.2.2.1 s.2.2.2.1 = some r ∧ SlF s.2.2.2.2.1 (s.2.2.1).length s.2.2.2.2.2) (fun s => [(0, (.slice Ap0_0 (p0).length cp0_0)), (1, (.slice Ap1_0 (p1).length cp1_0)), (2, (.func (.func fid2) #[] cap2.toArray)), (7, (.slice none (([] : List TBand)).length 0)), (8, (iv s.1)), (9, (iv s.2.1)), (25, (.slice s.2.2.2.2.1 (s.2.2.1).length s.2.2.2.2.2)), (26, (iv 2)), (27, (iv s.2.2.2.1))]) (fun s => [(2, ow none 0 98 fl_TBand ([] : List TBand)), (9, ow s.2.2.2.2.1 s.2.2.2.2.2 62 fl_LTBand s.2.2.1)]) N (0, 0, [p0, p1], 0, (some ⟨b100, 0, none⟩), 2) ⟨H, (lit_form b100 rfl)⟩ (.r rfl) (.r rfl) (fun _ _ h => noSome (h.1)) ?_
  intro w leL3 mL3 s hs
  obtain ⟨x150, x151, l152, x153, Al152, cl152⟩ := s
  obtain ⟨H, hl152⟩ := hs
  replace H : F_shape_Merge_L3 N p0 p1 p2 (mL3 + 1) x150 x151 l152 x153 = some r := H
  replace hp0_0 := hp0_0.le leL3
  replace hp1_0 := hp1_0.le leL3
  replace hf2 := fun w' he => hf2 w' (leL3.ext.trans he)
  replace leB := leB.trans leL3
  replace hl152 : SlF Al152 (l152).length cl152 := hl152
  rw [F_shape_Merge_L3.eq_2] at H
  show Tr _ _ (LF [(0, (.slice Ap0_0 (p0).length cp0_0)), (1, (.slice Ap1_0 (p1).length cp1_0)), (2, (.func (.func fid2) #[] cap2.toArray)), (7, (.slice none (([] : List TBand)).length 0)), (8, (iv x150)), (9, (iv x151)), (25, (.slice Al152 (l152).length cl152)), (26, (iv 2)), (27, (iv x153))]) (LE [(2, ow none 0 98 fl_TBand ([] : List TBand)), (9, ow Al152 cl152 62 fl_LTBand l152)]) _
  refine Tr.sr ?_
  refine Tr.v2 rfl run_lss rfl rfl ?_
  refine Tr.nil (Tr.normThen ?_)
  refine Tr.seq ?_
  refine Tr.cond rfl H (fun H => ?_) (fun H => ?_)
  ·refine Tr.skip (Tr.normThen ?_)
   refine Tr.seq ?_
   refine Tr.block ?_
   refine Tr.sr ?_
   refine Tr.mv rfl rfl ?_
   obtain ⟨x154, hx154, H⟩ := bnd H
   obtain ⟨hx1540, hx1541, hx1542⟩ := idx_some hx154
   refine Tr.va rfl (fun _ _ h1 h2 => run_indexAddr el_93 (h1.ev rfl) hl152 (h1.ev rfl) hx1540 hx1541) ?_
   refine Tr.valE (U := (fl_LTBand).Ad) (fun u => (fl_LTBand).ok w.O w.W u x154) (fun u => (.slice u.1 (x154).length u.2)) (wn rfl) rfl (ldN (κ := 9) (t := fl_LTBand) (V := fun u => (.slice u.1 (x154).length u.2)) rfl hx1542 (fun _ _ u h1 hc => run_load1 ag_62 (h1.ev rfl) hc rfl)) ?_
   intro u155 hoku155
   obtain ⟨Au155_0, cu155_0⟩ := u155
   have hoku155_0 := hoku155
   replace hoku155_0 : Sl w.O w.W fl_TBand Au155_0 cu155_0 x154 := hoku155_0
   show Tr _ _ (uf _ 31 (.slice Au155_0 (x154).length cu155_0)) _ _
   refine Tr.asg rfl rfl ?_
   refine Tr.asg rfl rfl ?_
   refine Tr.nil (Tr.normThen ?_)
   refine Tr.sr ?_
   refine Tr.mv rfl rfl ?_
   refine Tr.v1 rfl (run_len un_62) rfl ?_
   refine Tr.v2 rfl run_gtr rfl rfl ?_
   refine Tr.nil (Tr.normThen ?_)
   refine Tr.cond rfl H (fun H => ?_) (fun H => ?_)
   ·have leJ162 := Bs.Le.refl w
    refine Tr.cutJ (σ := Int × Int) (fun w s => F_shape_Merge_J4 l152 x153 (F_shape_Merge_L3 N p0 p1 p2 mL3) x154 s.1 s.2 = some r) (fun s => [(0, (.slice Ap0_0 (p0).length cp0_0)), (1, (.slice Ap1_0 (p1).length cp1_0)), (2, (.func (.func fid2) #[] cap2.toArray)), (7, (.slice none (([] : List TBand)).length 0)), (8, (iv s.1)), (9, (iv s.2)), (11, (.slice Au155_0 (x154).length cu155_0)), (25, (.slice Al152 (l152).length cl152)), (26, (iv 2)), (27, (iv x153))]) (fun s => [(2, ow none 0 98 fl_TBand ([] : List TBand)), (9, ow Al152 cl152 62 fl_LTBand l152)]) ?_ ?_
    ·refine Tr.sr ?_
     refine Tr.mv rfl rfl ?_
     refine Tr.v2 rfl run_eql rfl rfl ?_
     refine Tr.mv rfl rfl ?_
     refine Tr.mid0 4 [(0, (.slice Ap0_0 (p0).length cp0_0)), (1, (.slice Ap1_0 (p1).length cp1_0)), (2, (.func (.func fid2) #[] cap2.toArray)), (7, (.slice none (([] : List TBand)).length 0)), (8, (iv x150)), (9, (iv x151)), (11, (.slice Au155_0 (x154).length cu155_0)), (25, (.slice Al152 (l152).length cl152)), (26, (iv 2)), (27, (iv x153)), (41, (.bool ((x153 == 0) || ((p0.length : Int) == 0))))] [(2, ow none 0 98 fl_TBand ([] : List TBand)), (9, ow Al152 cl152 62 fl_LTBand l152)] ?_ ?_
     ·cases hg171 : (x153 == 0)
      ·refine Tr.w1 (wg rfl rfl rfl) rfl run_move rfl ?_
       refine Tr.w1 (wg rfl rfl rfl) rfl (run_len un_62) rfl ?_
       refine Tr.w2 (wg rfl rfl rfl) rfl run_eql rfl rfl ?_
       refine Tr.v2 rfl run_pickF rfl rfl ?_
       exact Tr.nil (Tr.fin0 (.r rfl) (.r rfl))
      ·refine Tr.ps ?_
       refine Tr.ps ?_
       refine Tr.ps ?_
       refine Tr.v2 rfl run_pickT rfl rfl ?_
       exact Tr.nil (Tr.fin0 (.r rfl) (.r rfl))
     ·show Tr _ _ (LF [(0, (.slice Ap0_0 (p0).length cp0_0)), (1, (.slice Ap1_0 (p1).length cp1_0)), (2, (.func (.func fid2) #[] cap2.toArray)), (7, (.slice none (([] : List TBand)).length 0)), (8, (iv x150)), (9, (iv x151)), (11, (.slice Au155_0 (x154).length cu155_0)), (25, (.slice Al152 (l152).length cl152)), (26, (iv 2)), (27, (iv x153)), (41, (.bool ((x153 == 0) || ((p0.length : Int) == 0))))]) (LE [(2, ow none 0 98 fl_TBand ([] : List TBand)), (9, ow Al152 cl152 62 fl_LTBand l152)]) _
      refine Tr.nil (Tr.normThen ?_)
      refine Tr.cond rfl H (fun H => ?_) (fun H => ?_)
      ·refine Tr.draw (by kernel_rfl) (by kernel_rfl) ?_
       refine Tq.mv rfl rfl ?_
       obtain ⟨x168, hx168, H⟩ := bnd H
       obtain ⟨hx1680, hx1681, hx1682⟩ := idx_some hx168
       obtain ⟨u169, hRu169, hoku169, hcu169⟩ := (hoku155_0).el hx1682
       obtain ⟨Au169_0, cu169_0⟩ := u169
       have hoku169_0 := hoku169
       replace hoku169_0 : Sl w.O w.W fl_i64 Au169_0 cu169_0 x168.Xs := hoku169_0
       replace hRu169 : w.R (adB Au155_0) := Or.inl hRu169
       refine Tq.va rfl (fun _ _ h1 h2 => run_indexAddr el_62 (h1.ev rfl) hoku155_0.form (h1.ev rfl) hx1680 hx1681) ?_
       refine Tq.v1 rfl (run_fieldAddr fo_98_0) rfl ?_
       refine Tq.va rfl (fun _ _ h1 h2 => run_load1 ag_3 (h1.ev rfl) (CellsAt.drop (rdR hRu169 hcu169 h2) 0) rfl) ?_
       refine Tq.mv rfl rfl ?_
       refine Tq.mv rfl rfl ?_
       refine Tq.v1 rfl (run_len un_62) rfl ?_
       refine Tq.v2 rfl run_sub rfl rfl ?_
       obtain ⟨x170, hx170, H⟩ := bnd H
       obtain ⟨hx1700, hx1701, hx1702⟩ := idx_some hx170
       obtain ⟨u171, hRu171, hoku171, hcu171⟩ := (hoku155_0).el hx1702
       obtain ⟨Au171_0, cu171_0⟩ := u171
       have hoku171_0 := hoku171
       replace hoku171_0 : Sl w.O w.W fl_i64 Au171_0 cu171_0 x170.Xs := hoku171_0
       replace hRu171 : w.R (adB Au155_0) := Or.inl hRu171
       refine Tq.va rfl (fun _ _ h1 h2 => run_indexAddr el_62 (h1.ev rfl) hoku155_0.form (h1.ev rfl) hx1700 hx1701) ?_
       refine Tq.v1 rfl (run_fieldAddr fo_98_1) rfl ?_
       refine Tq.va rfl (fun _ _ h1 h2 => run_load1 ag_3 (h1.ev rfl) (CellsAt.drop (rdR hRu171 hcu171 h2) 1) rfl) ?_
       refine Tq.asg rfl rfl ?_
       refine Tq.asg rfl rfl ?_
       refine Tq.nil ?_
       exact Tr.backThen leJ162 (x168.Y0, x170.Y1) H (.r rfl) (.r rfl)
      ·refine Tr.skip ?_
       exact Tr.backThen leJ162 (x150, x151) H (.r rfl) (.r rfl)
    ·intro w s hlJ163 hs
     obtain ⟨x160, x161⟩ := s
     have H := hs
     replace H : F_shape_Merge_J4 l152 x153 (F_shape_Merge_L3 N p0 p1 p2 mL3) x154 x160 x161 = some r := H
     replace hp0_0 := hp0_0.le hlJ163
     replace hp1_0 := hp1_0.le hlJ163
     replace hf2 := fun w' he => hf2 w' (hlJ163.ext.trans he)
     replace hoku155_0 := hoku155_0.le hlJ163
     replace leB := leB.trans hlJ163
     replace leL3 := leL3.trans hlJ163
     unfold F_shape_Merge_J4 at H
     show Tr _ _ (LF [(0, (.slice Ap0_0 (p0).length cp0_0)), (1, (.slice Ap1_0 (p1).length cp1_0)), (2, (.func (.func fid2) #[] cap2.toArray)), (7, (.slice none (([] : List TBand)).length 0)), (8, (iv x160)), (9, (iv x161)), (11, (.slice Au155_0 (x154).length cu155_0)), (25, (.slice Al152 (l152).length cl152)), (26, (iv 2)), (27, (iv x153))]) (LE [(2, ow none 0 98 fl_TBand ([] : List TBand)), (9, ow Al152 cl152 62 fl_LTBand l152)]) _
     refine Tr.draw (by kernel_rfl) (by kernel_rfl) ?_
     refine Tq.mv rfl rfl ?_
     refine Tq.mv rfl rfl ?_
     obtain ⟨x164, hx164, H⟩ := bnd H
     obtain ⟨hx1640, hx1641, hx1642⟩ := idx_some hx164
     obtain ⟨u165, hRu165, hoku165, hcu165⟩ := (hoku155_0).el hx1642
     obtain ⟨Au165_0, cu165_0⟩ := u165
     have hoku165_0 := hoku165
     replace hoku165_0 : Sl w.O w.W fl_i64 Au165_0 cu165_0 x164.Xs := hoku165_0
     replace hRu165 : w.R (adB Au155_0) := Or.inl hRu165
     refine Tq.va rfl (fun _ _ h1 h2 => run_indexAddr el_62 (h1.ev rfl) hoku155_0.form (h1.ev rfl) hx1640 hx1641) ?_
     refine Tq.v1 rfl (run_fieldAddr fo_98_0) rfl ?_
     refine Tq.va rfl (fun _ _ h1 h2 => run_load1 ag_3 (h1.ev rfl) (CellsAt.drop (rdR hRu165 hcu165 h2) 0) rfl) ?_
     refine Tq.va rfl (fun _ _ h1 h2 => run_min (h1.ev rfl) (h1.ev rfl) _) ?_
     refine Tq.mv rfl rfl ?_
     refine Tq.mv rfl rfl ?_
     refine Tq.mv rfl rfl ?_
     refine Tq.v1 rfl (run_len un_62) rfl ?_
     refine Tq.v2 rfl run_sub rfl rfl ?_
     obtain ⟨x166, hx166, H⟩ := bnd H
     obtain ⟨hx1660, hx1661, hx1662⟩ := idx_some hx166
     obtain ⟨u167, hRu167, hoku167, hcu167⟩ := (hoku155_0).el hx1662
     obtain ⟨Au167_0, cu167_0⟩ := u167
     have hoku167_0 := hoku167
     replace hoku167_0 : Sl w.O w.W fl_i64 Au167_0 cu167_0 x166.Xs := hoku167_0
     replace hRu167 : w.R (adB Au155_0) := Or.inl hRu167
     refine Tq.va rfl (fun _ _ h1 h2 => run_indexAddr el_62 (h1.ev rfl) hoku155_0.form (h1.ev rfl) hx1660 hx1661) ?_
     refine Tq.v1 rfl (run_fieldAddr fo_98_1) rfl ?_
     refine Tq.va rfl (fun _ _ h1 h2 => run_load1 ag_3 (h1.ev rfl) (CellsAt.drop (rdR hRu167 hcu167 h2) 1) rfl) ?_
     refine Tq.va rfl (fun _ _ h1 h2 => run_max (h1.ev rfl) (h1.ev rfl) _) ?_
     refine Tq.asg rfl rfl ?_
     refine Tq.asg rfl rfl ?_
     refine Tq.nil (Tr.normBlock (Tr.normThen ?_))
     refine Tr.region ?_
     refine Tr.v2 rfl run_add rfl rfl ?_
     refine Tr.mv rfl rfl ?_
     refine Tr.nil ?_
     exact Tr.backThen leL3 ((min x160 x164.Y0), (max x161 x166.Y1), l152, (w64 (x153 + 1)), Al152, cl152) ⟨H, hl152⟩ (.r rfl) (.r rfl)
   ·refine Tr.skip (Tr.normBlock (Tr.normThen ?_))
    refine Tr.region ?_
    refine Tr.v2 rfl run_add rfl rfl ?_
    refine Tr.mv rfl rfl ?_
    refine Tr.nil ?_
    exact Tr.backThen leL3 (x150, x151, l152, (w64 (x153 + 1)), Al152, cl152) ⟨H, hl152⟩ (.r rfl) (.r rfl)
  ·refine Tr.exit (Tr.exitThen (Tr.exitThen (Tr.exitBlock (Tr.normThen ?_))))
   refine Tr.seq ?_
   refine Tr.block ?_
   refine Tr.loop (σ := (List TBand) × (List TBand) × (List TBand) × Int × (Option Addr) × Nat × (Option Addr) × Nat × (Option Addr) × Nat) (fun m w s => F_shape_Merge_L9 N p2 x151 m s.1 s.2.1 s.2.2.1 s.2.2.2.1 = some r ∧ Sl w.O w.W fl_TBand s.2.2.2.2.1 s.2.2.2.2.2.1 s.1 ∧ Sl w.O w.W fl_TBand s.2.2.2.2.2.2.1 s.2.2.2.2.2.2.2.1 s.2.1 ∧ SlF s.2.2.2.2.2.2.2.2.1 (s.2.2.1).length s.2.2.2.2.2.2.2.2.2) (fun s => [(0, (.slice s.2.2.2.2.1 (s.1).length s.2.2.2.2.2.1)), (1, (.slice s.2.2.2.2.2.2.1 (s.2.1).length s.2.2.2.2.2.2.2.1)), (2, (.func (.func fid2) #[] cap2.toArray)), (7, (.slice s.2.2.2.2.2.2.2.2.1 (s.2.2.1).length s.2.2.2.2.2.2.2.2.2)), (8, (iv s.2.2.2.1)), (9, (iv x151))]) (fun s => [(2, ow s.2.2.2.2.2.2.2.2.1 s.2.2.2.2.2.2.2.2.2 98 fl_TBand s.2.2.1)]) N (p0, p1, ([] : List TBand), x150, Ap0_0, cp0_0, Ap1_0, cp1_0, none, 0) ⟨H, hp0_0, hp1_0, slf_nil⟩ (.r rfl) (.r rfl) (fun _ _ h => noSome (h.1)) ?_
   intro w leL9 mL9 s hs
   obtain ⟨l292, l293, l294, x295, Al292, cl292, Al293, cl293, Al294, cl294⟩ := s
   obtain ⟨H, hl292, hl293, hl294⟩ := hs
   replace H : F_shape_Merge_L9 N p2 x151 (mL9 + 1) l292 l293 l294 x295 = some r := H
   replace hf2 := fun w' he => hf2 w' (leL9.ext.trans he)
   replace leB := leB.trans leL9
   replace leL3 := leL3.trans leL9
   replace hl292 : Sl w.O w.W fl_TBand Al292 cl292 l292 := hl292
   replace hl293 : Sl w.O w.W fl_TBand Al293 cl293 l293 := hl293
   replace hl294 : SlF Al294 (l294).length cl294 := hl294
   rw [F_shape_Merge_L9.eq_2] at H
   show Tr _ _ (LF [(0, (.slice Al292 (l292).length cl292)), (1, (.slice Al293 (l293).length cl293)), (2, (.func (.func fid2) #[] cap2.toArray)), (7, (.slice Al294 (l294).length cl294)), (8, (iv x295)), (9, (iv x151))]) (LE [(2, ow Al294 cl294 98 fl_TBand l294)]) _
   refine Tr.seq ?_
   refine Tr.sr ?_
   refine Tr.mv rfl rfl ?_
   refine Tr.mv rfl rfl ?_
   refine Tr.v2 rfl run_lss rfl rfl ?_
   refine Tr.nil (Tr.normThen ?_)
   refine Tr.cond rfl H (fun H => ?_) (fun H => ?_)
   ·refine Tr.skip (Tr.normThen ?_)
    refine Tr.block ?_
    refine Tr.seq ?_
    refine Tr.block ?_
    refine Tr.loop (σ := (List TBand) × (Option Addr) × Nat) (fun m w s => F_shape_Merge_L10 N p2 x151 l293 l294 x295 (F_shape_Merge_L9 N p2 x151 mL9) m s.1 = some r ∧ Sl w.O w.W fl_TBand s.2.1 s.2.2 s.1) (fun s => [(0, (.slice s.2.1 (s.1).length s.2.2)), (1, (.slice Al293 (l293).length cl293)), (2, (.func (.func fid2) #[] cap2.toArray)), (7, (.slice Al294 (l294).length cl294)), (8, (iv x295)), (9, (iv x151))]) (fun s => [(2, ow Al294 cl294 98 fl_TBand l294)]) N (l292, Al292, cl292) ⟨H, hl292⟩ (.r rfl) (.r rfl) (fun _ _ h => noSome (h.1)) ?_
    intro w leL10 mL10 s hs
    obtain ⟨l311, Al311, cl311⟩ := s
    obtain ⟨H, hl311⟩ := hs
    replace H : F_shape_Merge_L10 N p2 x151 l293 l294 x295 (F_shape_Merge_L9 N p2 x151 mL9) (mL10 + 1) l311 = some r := H
    replace hl293 := hl293.le leL10
    replace hf2 := fun w' he => hf2 w' (leL10.ext.trans he)
    replace leB := leB.trans leL10
    replace leL3 := leL3.trans leL10
    replace leL9 := leL9.trans leL10
    replace hl311 : Sl w.O w.W fl_TBand Al311 cl311 l311 := hl311
    rw [F_shape_Merge_L10.eq_2] at H
    show Tr _ _ (LF [(0, (.slice Al311 (l311).length cl311)), (1, (.slice Al293 (l293).length cl293)), (2, (.func (.func fid2) #[] cap2.toArray)), (7, (.slice Al294 (l294).length cl294)), (8, (iv x295)), (9, (iv x151))]) (LE [(2, ow Al294 cl294 98 fl_TBand l294)]) _
    refine Tr.seq ?_
    refine Tr.sr ?_
    refine Tr.mv rfl rfl ?_
    refine Tr.v1 rfl (run_len un_62) rfl ?_
    refine Tr.v2 rfl run_gtr rfl rfl ?_
    refine Tr.mv rfl rfl ?_
    obtain ⟨g314, hg314, H⟩ := bnd H
    refine Tr.mid0 7 [(0, (.slice Al311 (l311).length cl311)), (1, (.slice Al293 (l293).length cl293)), (2, (.func (.func fid2) #[] cap2.toArray)), (7, (.slice Al294 (l294).length cl294)), (8, (iv x295)), (9, (iv x151)), (82, (.bool g314))] [(2, ow Al294 cl294 98 fl_TBand l294)] ?_ ?_
    ·cases hg349 : (decide (0 < (l311.length : Int)))
     ·rw [hg349] at hg314
      rw [if_neg (by decide)] at hg314
      have H := hg314
      obtain rfl := Option.some.inj H
      refine Tr.ps ?_
      refine Tr.ps ?_
      refine Tr.ps ?_
      refine Tr.ps ?_
      refine Tr.ps ?_
      refine Tr.ps ?_
      refine Tr.v2 rfl run_pickF rfl rfl ?_
      exact Tr.nil (Tr.fin0 (.r rfl) (.r rfl))
     ·rw [hg349] at hg314
      rw [if_pos rfl] at hg314
      have H := hg314
      refine Tr.w1 (wg rfl rfl rfl) rfl run_move rfl ?_
      obtain ⟨x315, hx315, H⟩ := bnd H
      obtain ⟨hx3150, hx3151, hx3152⟩ := idx_some hx315
      obtain ⟨u316, hRu316, hoku316, hcu316⟩ := (hl311).el hx3152
      obtain ⟨Au316_0, cu316_0⟩ := u316
      have hoku316_0 := hoku316
      replace hoku316_0 : Sl w.O w.W fl_i64 Au316_0 cu316_0 x315.Xs := hoku316_0
      replace hRu316 : w.R (adB Al311) := Or.inl hRu316
      refine Tr.val (wg rfl rfl rfl) rfl (fun _ _ h1 h2 => run_indexAddr el_62 (h1.ev rfl) hl311.form (h1.ev rfl) hx3150 hx3151) ?_
      refine Tr.w1 (wg rfl rfl rfl) rfl (run_fieldAddr fo_98_1) rfl ?_
      refine Tr.val (wg rfl rfl rfl) rfl (fun _ _ h1 h2 => run_load1 ag_3 (h1.ev rfl) (CellsAt.drop (rdR hRu316 hcu316 h2) 1) rfl) ?_
      refine Tr.w1 (wg rfl rfl rfl) rfl run_move rfl ?_
      refine Tr.w2 (wg rfl rfl rfl) rfl run_leq rfl rfl ?_
      refine Tr.v2 rfl run_pickT rfl rfl ?_
      obtain rfl := Option.some.inj H
      exact Tr.nil (Tr.fin0 (.r rfl) (.r rfl))
    ·show Tr _ _ (LF [(0, (.slice Al311 (l311).length cl311)), (1, (.slice Al293 (l293).length cl293)), (2, (.func (.func fid2) #[] cap2.toArray)), (7, (.slice Al294 (l294).length cl294)), (8, (iv x295)), (9, (iv x151)), (82, (.bool g314))]) (LE [(2, ow Al294 cl294 98 fl_TBand l294)]) _
     refine Tr.nil (Tr.normThen ?_)
     refine Tr.cond rfl H (fun H => ?_) (fun H => ?_)
     ·refine Tr.skip (Tr.normThen ?_)
      refine Tr.block ?_
      refine Tr.region ?_
      refine Tr.mv rfl rfl ?_
      obtain ⟨l317, hl317, H⟩ := bnd H
      refine Tr.va rfl (fun _ _ h1 h2 => run_cutL el_62 (h1.ev rfl) hl311.form (h1.ev rfl) hl317) ?_
      refine Tr.asg rfl rfl ?_
      refine Tr.nil (Tr.normBlock ?_)
      exact Tr.backThen leL10 (l317, (cutA Al311 (1 : Int).toNat 3 cl311), (cl311 - (1 : Int).toNat)) ⟨H, (Sl.cut hl311 hl317)⟩ (.r rfl) (.r rfl)
     ·refine Tr.exit (Tr.exitThen (Tr.exitThen (Tr.exitBlock (Tr.normThen ?_))))
      refine Tr.seq ?_
      refine Tr.block ?_
      refine Tr.loop (σ := (List TBand) × (Option Addr) × Nat) (fun m w s => F_shape_Merge_L11 N p2 x151 l294 x295 (F_shape_Merge_L9 N p2 x151 mL9) l311 m s.1 = some r ∧ Sl w.O w.W fl_TBand s.2.1 s.2.2 s.1) (fun s => [(0, (.slice Al311 (l311).length cl311)), (1, (.slice s.2.1 (s.1).length s.2.2)), (2, (.func (.func fid2) #[] cap2.toArray)), (7, (.slice Al294 (l294).length cl294)), (8, (iv x295)), (9, (iv x151))]) (fun s => [(2, ow Al294 cl294 98 fl_TBand l294)]) N (l293, Al293, cl293) ⟨H, hl293⟩ (.r rfl) (.r rfl) (fun _ _ h => noSome (h.1)) ?_
      intro w leL11 mL11 s hs
      obtain ⟨l333, Al333, cl333⟩ := s
      obtain ⟨H, hl333⟩ := hs
      replace H : F_shape_Merge_L11 N p2 x151 l294 x295 (F_shape_Merge_L9 N p2 x151 mL9) l311 (mL11 + 1) l333 = some r := H
      replace hl311 := hl311.le leL11
      replace hf2 := fun w' he => hf2 w' (leL11.ext.trans he)
      replace leB := leB.trans leL11
      replace leL3 := leL3.trans leL11
      replace leL9 := leL9.trans leL11
      replace leL10 := leL10.trans leL11
      replace hl333 : Sl w.O w.W fl_TBand Al333 cl333 l333 := hl333
      rw [F_shape_Merge_L11.eq_2] at H
      show Tr _ _ (LF [(0, (.slice Al311 (l311).length cl311)), (1, (.slice Al333 (l333).length cl333)), (2, (.func (.func fid2) #[] cap2.toArray)), (7, (.slice Al294 (l294).length cl294)), (8, (iv x295)), (9, (iv x151))]) (LE [(2, ow Al294 cl294 98 fl_TBand l294)]) _
      refine Tr.seq ?_
      refine Tr.sr ?_
      refine Tr.mv rfl rfl ?_
      refine Tr.v1 rfl (run_len un_62) rfl ?_
      refine Tr.v2 rfl run_gtr rfl rfl ?_
      refine Tr.mv rfl rfl ?_
      obtain ⟨g336, hg336, H⟩ := bnd H
      refine Tr.mid0 7 [(0, (.slice Al311 (l311).length cl311)), (1, (.slice Al333 (l333).length cl333)), (2, (.func (.func fid2) #[] cap2.toArray)), (7, (.slice Al294 (l294).length cl294)), (8, (iv x295)), (9, (iv x151)), (95, (.bool g336))] [(2, ow Al294 cl294 98 fl_TBand l294)] ?_ ?_
      ·cases hg349 : (decide (0 < (l333.length : Int)))
       ·rw [hg349] at hg336
        rw [if_neg (by decide)] at hg336
        have H := hg336
        obtain rfl := Option.some.inj H
        refine Tr.ps ?_
        refine Tr.ps ?_
        refine Tr.ps ?_
        refine Tr.ps ?_
        refine Tr.ps ?_
        refine Tr.ps ?_
        refine Tr.v2 rfl run_pickF rfl rfl ?_
        exact Tr.nil (Tr.fin0 (.r rfl) (.r rfl))
       ·rw [hg349] at hg336
        rw [if_pos rfl] at hg336
        have H := hg336
        refine Tr.w1 (wg rfl rfl rfl) rfl run_move rfl ?_
        obtain ⟨x337, hx337, H⟩ := bnd H
        obtain ⟨hx3370, hx3371, hx3372⟩ := idx_some hx337
        obtain ⟨u338, hRu338, hoku338, hcu338⟩ := (hl333).el hx3372
        obtain ⟨Au338_0, cu338_0⟩ := u338
        have hoku338_0 := hoku338
        replace hoku338_0 : Sl w.O w.W fl_i64 Au338_0 cu338_0 x337.Xs := hoku338_0
        replace hRu338 : w.R (adB Al333) := Or.inl hRu338
        refine Tr.val (wg rfl rfl rfl) rfl (fun _ _ h1 h2 => run_indexAddr el_62 (h1.ev rfl) hl333.form (h1.ev rfl) hx3370 hx3371) ?_
        refine Tr.w1 (wg rfl rfl rfl) rfl (run_fieldAddr fo_98_1) rfl ?_
        refine Tr.val (wg rfl rfl rfl) rfl (fun _ _ h1 h2 => run_load1 ag_3 (h1.ev rfl) (CellsAt.drop (rdR hRu338 hcu338 h2) 1) rfl) ?_
        refine Tr.w1 (wg rfl rfl rfl) rfl run_move rfl ?_
        refine Tr.w2 (wg rfl rfl rfl) rfl run_leq rfl rfl ?_
        refine Tr.v2 rfl run_pickT rfl rfl ?_
        obtain rfl := Option.some.inj H
        exact Tr.nil (Tr.fin0 (.r rfl) (.r rfl))
      ·show Tr _ _ (LF [(0, (.slice Al311 (l311).length cl311)), (1, (.slice Al333 (l333).length cl333)), (2, (.func (.func fid2) #[] cap2.toArray)), (7, (.slice Al294 (l294).length cl294)), (8, (iv x295)), (9, (iv x151)), (95, (.bool g336))]) (LE [(2, ow Al294 cl294 98 fl_TBand l294)]) _
       refine Tr.nil (Tr.normThen ?_)
       refine Tr.cond rfl H (fun H => ?_) (fun H => ?_)
       ·refine Tr.skip (Tr.normThen ?_)
        refine Tr.block ?_
        refine Tr.region ?_
        refine Tr.mv rfl rfl ?_
        obtain ⟨l339, hl339, H⟩ := bnd H
        refine Tr.va rfl (fun _ _ h1 h2 => run_cutL el_62 (h1.ev rfl) hl333.form (h1.ev rfl) hl339) ?_
        refine Tr.asg rfl rfl ?_
        refine Tr.nil (Tr.normBlock ?_)
        exact Tr.backThen leL11 (l339, (cutA Al333 (1 : Int).toNat 3 cl333), (cl333 - (1 : Int).toNat)) ⟨H, (Sl.cut hl333 hl339)⟩ (.r rfl) (.r rfl)
       ·refine Tr.exit (Tr.exitThen (Tr.exitThen (Tr.exitBlock (Tr.normThen ?_))))
        refine Tr.sr ?_
        refine Tr.mv rfl rfl ?_
        refine Tr.mv rfl rfl ?_
        refine Tr.mv rfl rfl ?_
        obtain ⟨y340, hy340, H⟩ := bnd H
        refine Tr.callG [] [] (U := (Option Addr × Nat)) (fun u => (.tuple #[(.slice u.1 (y340.1).length u.2), (iv y340.2)])) (fun O W u => Sl O W fl_i64 u.1 u.2 y340.1) (fun u => []) rfl pk_nil (fun _ => rfl) (wn rfl) rfl Tryz.call231 (evl_cons rfl (evl_cons rfl (evl_cons rfl evl_nil))) (fun W hW hp hE => F_shape_Set__at_ok l311 Al311 cl311 (hl311.extO (hW.extS hp)) x295 x151 y340 hy340 hE) ?_
        intro w u le341 hu
        obtain ⟨Ay340_0, cy340_0⟩ := u
        have gy340_0 := hu
        replace hl311 := hl311.le le341
        replace hl333 := hl333.le le341
        replace hf2 := fun w' he => hf2 w' (le341.ext.trans he)
        replace leB := leB.trans le341
        replace leL3 := leL3.trans le341
        replace leL9 := leL9.trans le341
        replace leL10 := leL10.trans le341
        replace leL11 := leL11.trans le341
        have hgy340_0 : Sl w.O w.W fl_i64 Ay340_0 cy340_0 y340.1 := gy340_0 --@phi
        show Tr _ _ (uf _ 102 (.tuple #[(.slice Ay340_0 (y340.1).length cy340_0), (iv y340.2)])) (_) _
        refine Tr.mv rfl rfl ?_
        refine Tr.va rfl (fun _ _ h1 h2 => run_extract (h1.ev rfl) rfl) ?_
        refine Tr.va rfl (fun _ _ h1 h2 => run_extract (h1.ev rfl) rfl) ?_
        refine Tr.asg rfl rfl ?_
        refine Tr.asg rfl rfl ?_
        refine Tr.nil (Tr.normThen ?_)
        refine Tr.sr ?_
        refine Tr.mv rfl rfl ?_
        refine Tr.mv rfl rfl ?_
        refine Tr.mv rfl rfl ?_
        obtain ⟨y342, hy342, H⟩ := bnd H
        refine Tr.callG [] [] (U := (Option Addr × Nat)) (fun u => (.tuple #[(.slice u.1 (y342.1).length u.2), (iv y342.2)])) (fun O W u => Sl O W fl_i64 u.1 u.2 y342.1) (fun u => []) rfl pk_nil (fun _ => rfl) (wn rfl) rfl Tryz.call231 (evl_cons rfl (evl_cons rfl (evl_cons rfl evl_nil))) (fun W hW hp hE => F_shape_Set__at_ok l333 Al333 cl333 (hl333.extO (hW.extS hp)) x295 x151 y342 hy342 hE) ?_
        intro w u le343 hu
        obtain ⟨Ay342_0, cy342_0⟩ := u
        have gy342_0 := hu
        replace hl311 := hl311.le le343
        replace hl333 := hl333.le le343
        replace hf2 := fun w' he => hf2 w' (le343.ext.trans he)
        replace hgy340_0 := hgy340_0.le le343
        replace leB := leB.trans le343
        replace leL3 := leL3.trans le343
        replace leL9 := leL9.trans le343
        replace leL10 := leL10.trans le343
        replace leL11 := leL11.trans le343
        have hgy342_0 : Sl w.O w.W fl_i64 Ay342_0 cy342_0 y342.1 := gy342_0 --@phi
        show Tr _ _ (uf _ 109 (.tuple #[(.slice Ay342_0 (y342.1).length cy342_0), (iv y342.2)])) (_) _
        refine Tr.mv rfl rfl ?_
        refine Tr.va rfl (fun _ _ h1 h2 => run_extract (h1.ev rfl) rfl) ?_
        refine Tr.va rfl (fun _ _ h1 h2 => run_extract (h1.ev rfl) rfl) ?_
        refine Tr.asg rfl rfl ?_
        refine Tr.asg rfl rfl ?_
        refine Tr.nil (Tr.normThen ?_)
        refine Tr.sr ?_
        refine Tr.mv rfl rfl ?_
        refine Tr.mv rfl rfl ?_
        refine Tr.va rfl (fun _ _ h1 h2 => run_min (h1.ev rfl) (h1.ev rfl) _) ?_
        refine Tr.asg rfl rfl ?_
        refine Tr.nil (Tr.normThen ?_)
        refine Tr.sr ?_
        refine Tr.mv rfl rfl ?_
        refine Tr.mv rfl rfl ?_
        refine Tr.mv rfl rfl ?_
        refine Tr.mv rfl rfl ?_
        refine Tr.mv rfl rfl ?_
        refine Tr.mv rfl rfl ?_
        obtain ⟨y344, hy344, H⟩ := bnd H
        refine Tr.callM [12] [emp] (U := (Option Addr × Nat)) (fun u => (.slice u.1 (y344).length u.2)) (fun u => SlF u.1 (y344).length u.2) (fun u => [ow u.1 u.2 3 fl_i64 y344]) rfl (pk_cons rfl pk_nil) (fun _ => rfl) (wn rfl) rfl Tryz.call113 (evl_cons rfl (evl_cons rfl (evl_cons rfl evl_nil))) (fun W hW hp hE => F_shape_line_ok N y340.1 Ay340_0 cy340_0 (hgy340_0.rl.ext (hW.extS hp)) y342.1 Ay342_0 cy342_0 (hgy342_0.rl.ext (hW.extS hp)) p2 fid2 cap2 hg2 (fun w' he => hf2 w' ((hW.extS hp).trans he)) y344 hy344 hE) ?_
        intro u hu
        obtain ⟨Ay344_0, cy344_0⟩ := u
        have gy344_0 := hu
        have hgy344_0 : SlF Ay344_0 (y344).length cy344_0 := gy344_0 --@phi
        show Tr _ _ (uf _ 121 (.slice Ay344_0 (y344).length cy344_0)) (up _ 12 (ow Ay344_0 cy344_0 3 fl_i64 y344)) _
        refine Tr.build (vs := [(0, (iv x295)), (1, (iv (min y340.2 y342.2))), (2, (.slice Ay344_0 (y344).length cy344_0))]) (cs := [(iv x295), (iv (min y340.2 y342.2)), (.slice Ay344_0 (y344).length cy344_0)]) (wn rfl) rfl (evs_cons rfl (evs_cons rfl (evs_cons rfl evs_nil))) (by kernel_rfl) ?_
        refine Tr.freeze 12 rfl fun w le347 hz346 => ?_
        replace hl311 := hl311.le le347
        replace hl333 := hl333.le le347
        replace hf2 := fun w' he => hf2 w' (le347.ext.trans he)
        replace hgy340_0 := hgy340_0.le le347
        replace hgy342_0 := hgy342_0.le le347
        replace leB := leB.trans le347
        replace leL3 := leL3.trans le347
        replace leL9 := leL9.trans le347
        replace leL10 := leL10.trans le347
        replace leL11 := leL11.trans le347
        obtain ⟨y348, hy348, H⟩ := bnd H
        refine Tr.callG [2] [ow Al294 cl294 98 fl_TBand l294] (U := (Option Addr × Nat)) (fun u => (.slice u.1 (y348).length u.2)) (fun O W u => SlF u.1 (y348).length u.2) (fun u => [ow u.1 u.2 98 fl_TBand y348]) rfl (pk_cons rfl pk_nil) (fun _ => rfl) (wn rfl) rfl Tryz.call66 (evl_cons rfl (evl_cons rfl evl_nil)) (fun W hW hp hE => F_shape_Set__push_ok l294 Al294 cl294 (TBand.mk x295 (min y340.2 y342.2) y344) Ay344_0 cy344_0 (hz346.extO (hW.extS hp)) y348 hy348 hE) ?_
        intro w u le349 hu
        obtain ⟨Ay348_0, cy348_0⟩ := u
        have gy348_0 := hu
        replace hl311 := hl311.le le349
        replace hl333 := hl333.le le349
        replace hf2 := fun w' he => hf2 w' (le349.ext.trans he)
        replace hgy340_0 := hgy340_0.le le349
        replace hgy342_0 := hgy342_0.le le349
        replace hz346 := hz346.le le349
        replace leB := leB.trans le349
        replace leL3 := leL3.trans le349
        replace leL9 := leL9.trans le349
        replace leL10 := leL10.trans le349
        replace leL11 := leL11.trans le349
        have hgy348_0 : SlF Ay348_0 (y348).length cy348_0 := gy348_0 --@phi
        show Tr _ _ (uf _ 123 (.slice Ay348_0 (y348).length cy348_0)) (up _ 2 (ow Ay348_0 cy348_0 98 fl_TBand y348)) _
        refine Tr.asg rfl rfl ?_
        refine Tr.nil (Tr.normThen ?_)
        refine Tr.region ?_
        refine Tr.mv rfl rfl ?_
        refine Tr.asg rfl rfl ?_
        refine Tr.nil (Tr.normBlock ?_)
        exact Tr.backThen leL9 (l311, l333, y348, (min y340.2 y342.2), Al311, cl311, Al333, cl333, Ay348_0, cy348_0) ⟨H, hl311, hl333, hgy348_0⟩ (.r rfl) (.r rfl)
   ·refine Tr.exit (Tr.exitThen (Tr.exitThen (Tr.exitBlock (Tr.normThen ?_))))
    refine Tr.sr ?_
    refine Tr.mv rfl rfl ?_
    refine Tr.asg rfl rfl ?_
    refine Tr.nil (Tr.normThen ?_)
    refine Tr.ret ?_
    obtain rfl := Option.some.inj H
    exact Tr.out (m := [(.slice Al294 (l294).length cl294)]) [] (res_tmp rfl res_nil) (fun W hW => ⟨w, (Al294, cl294), leB, rfl, hl294, hW.pick (ks := [2]) (by decide) (pk_cons rfl pk_nil)⟩)

theorem F_shape_Set__Less_1_ok {w : Bs} (p0 : Bool) (p1 : Bool) (r : Bool) (H : F_shape_Set__Less_1 p0 p1 = some r) (hE : HF w w.W E0) : Calls Tryz.prog 229 [(.bool p0), (.bool p1)].toArray w.W fun e W' => e = .returned (.bool r) ∧ HF w W' E0 := by
 unfold F_shape_Set__Less_1 at H
 have leB := Bs.Le.refl w
 refine Tr.enter (n := 10) Tryz.func229 rfl rfl rfl hE ?_
 refine Tr.sr ?_
 refine Tr.asg rfl rfl ?_
 refine Tr.nil (Tr.normThen ?_)
 refine Tr.sr ?_
 refine Tr.mv rfl rfl ?_
 refine Tr.mv rfl rfl ?_
 refine Tr.mid0 3 [(9, (.bool (p0 && (!p1))))] [] ?_ ?_
 ·cases hg99 : p0
  ·refine Tr.ps ?_
   refine Tr.ps ?_
   refine Tr.v2 rfl run_pickF rfl rfl ?_
   exact Tr.nil (Tr.fin0 (.r rfl) .nil)
  ·refine Tr.w1 (wg rfl rfl rfl) rfl run_move rfl ?_
   refine Tr.w1 (wg rfl rfl rfl) rfl run_not rfl ?_
   refine Tr.v2 rfl run_pickT rfl rfl ?_
   exact Tr.nil (Tr.fin0 (.r rfl) .nil)
 ·show Tr _ _ (LF [(9, (.bool (p0 && (!p1))))]) (LE []) _
  refine Tr.asg rfl rfl ?_
  refine Tr.nil (Tr.normThen ?_)
  refine Tr.ret ?_
  obtain rfl := Option.some.inj H
  exact Tr.out (m := [(.bool (p0 && (!p1)))]) [] (res_tmp rfl res_nil) (fun W hW => ⟨rfl, hW.low leB⟩)

theorem F_shape_Set__Less_ok (N : Nat) {w : Bs} (p0 : (List TBand)) (Ap0_0 : Option Addr) (cp0_0 : Nat) (hp0_0 : Sl w.O w.W fl_TBand Ap0_0 cp0_0 p0) (p1 : (List TBand)) (Ap1_0 : Option Addr) (cp1_0 : Nat) (hp1_0 : Sl w.O w.W fl_TBand Ap1_0 cp1_0 p1) (r : (List TBand)) (H : F_shape_Set__Less N p0 p1 = some r) (hE : HF w w.W (LEn [emp])) : Calls Tryz.prog 223 [(.slice Ap0_0 (p0).length cp0_0), (.slice Ap1_0 (p1).length cp1_0)].toArray w.W fun e W' => ∃ (w' : Bs) (u : (Option Addr × Nat)), w.Le w' ∧ e = .returned (.slice u.1 (r).length u.2) ∧ (SlF u.1 (r).length u.2) ∧ HF w' W' (LEn [ow u.1 u.2 98 fl_TBand r]) := by
 unfold F_shape_Set__Less at H
 have leB := Bs.Le.refl w
 refine Tr.enter (n := 8) Tryz.func223 rfl rfl rfl hE ?_
 refine Tr.sr ?_
 refine Tr.asg rfl rfl ?_
 refine Tr.nilOwn 1 98 fl_TBand ?_
 show Tr _ _ (uf _ 4 (.slice none (([] : List TBand)).length 0)) _ _
 refine Tr.nil (Tr.normThen ?_)
 refine Tr.sr ?_
 refine Tr.mv rfl rfl ?_
 refine Tr.mv rfl rfl ?_
 obtain ⟨y100, hy100, H⟩ := bnd H
 refine Tr.callG [2] [emp] (U := (Option Addr × Nat)) (fun u => (.slice u.1 (y100).length u.2)) (fun O W u => SlF u.1 (y100).length u.2) (fun u => [ow u.1 u.2 98 fl_TBand y100]) rfl (pk_cons rfl pk_nil) (fun _ => rfl) (wn rfl) rfl Tryz.call228 (evl_cons rfl (evl_cons rfl (evl_cons rfl evl_nil))) (fun W hW hp hE => F_shape_Merge_ok N p0 Ap0_0 cp0_0 (hp0_0.extO (hW.extS hp)) p1 Ap1_0 cp1_0 (hp1_0.extO (hW.extS hp)) (fun z0 z1 => F_shape_Set__Less_1 z0 z1) 229 [] Tryz.call229 (fun w' he z0 z1 y hy => F_shape_Set__Less_1_ok z0 z1 y hy (HF.start _)) y100 hy100 hE) ?_
 intro w u le101 hu
 obtain ⟨Ay100_0, cy100_0⟩ := u
 have gy100_0 := hu
 replace hp0_0 := hp0_0.le le101
 replace hp1_0 := hp1_0.le le101
 replace leB := leB.trans le101
 have hgy100_0 : SlF Ay100_0 (y100).length cy100_0 := gy100_0 --@phi
 show Tr _ _ (uf _ 7 (.slice Ay100_0 (y100).length cy100_0)) (up _ 2 (ow Ay100_0 cy100_0 98 fl_TBand y100)) _
 refine Tr.asg rfl rfl ?_
 refine Tr.nil (Tr.normThen ?_)
 refine Tr.ret ?_
 obtain rfl := Option.some.inj H
 exact Tr.out (m := [(.slice Ay100_0 (y100).length cy100_0)]) [] (res_tmp rfl res_nil) (fun W hW => ⟨w, (Ay100_0, cy100_0), leB, rfl, hgy100_0, hW.pick (ks := [2]) (by decide) (pk_cons rfl pk_nil)⟩)

theorem F_shape_Set__Or_1_ok {w : Bs} (p0 : Bool) (p1 : Bool) (r : Bool) (H : F_shape_Set__Or_1 p0 p1 = some r) (hE : HF w w.W E0) : Calls Tryz.prog 230 [(.bool p0), (.bool p1)].toArray w.W fun e W' => e = .returned (.bool r) ∧ HF w W' E0 := by
 unfold F_shape_Set__Or_1 at H
 have leB := Bs.Le.refl w
 refine Tr.enter (n := 9) Tryz.func230 rfl rfl rfl hE ?_
 refine Tr.sr ?_
 refine Tr.asg rfl rfl ?_
 refine Tr.nil (Tr.normThen ?_)
 refine Tr.sr ?_
 refine Tr.mv rfl rfl ?_
 refine Tr.mv rfl rfl ?_
 refine Tr.mid0 2 [(8, (.bool (p0 || p1)))] [] ?_ ?_
 ·cases hg99 : p0
  ·refine Tr.w1 (wg rfl rfl rfl) rfl run_move rfl ?_
   refine Tr.v2 rfl run_pickF rfl rfl ?_
   exact Tr.nil (Tr.fin0 (.r rfl) .nil)
  ·refine Tr.ps ?_
   refine Tr.v2 rfl run_pickT rfl rfl ?_
   exact Tr.nil (Tr.fin0 (.r rfl) .nil)
 ·show Tr _ _ (LF [(8, (.bool (p0 || p1)))]) (LE []) _
  refine Tr.asg rfl rfl ?_
  refine Tr.nil (Tr.normThen ?_)
  refine Tr.ret ?_
  obtain rfl := Option.some.inj H
  exact Tr.out (m := [(.bool (p0 || p1))]) [] (res_tmp rfl res_nil) (fun W hW => ⟨rfl, hW.low leB⟩)

theorem F_shape_Set__Or_ok (N : Nat) {w : Bs} (p0 : (List TBand)) (Ap0_0 : Option Addr) (cp0_0 : Nat) (hp0_0 : Sl w.O w.W fl_TBand Ap0_0 cp0_0 p0) (p1 : (List TBand)) (Ap1_0 : Option Addr) (cp1_0 : Nat) (hp1_0 : Sl w.O w.W fl_TBand Ap1_0 cp1_0 p1) (r : (List TBand)) (H : F_shape_Set__Or N p0 p1 = some r) (hE : HF w w.W (LEn [emp])) : Calls Tryz.prog 224 [(.slice Ap0_0 (p0).length cp0_0), (.slice Ap1_0 (p1).length cp1_0)].toArray w.W fun e W' => ∃ (w' : Bs) (u : (Option Addr × Nat)), w.Le w' ∧ e = .returned (.slice u.1 (r).length u.2) ∧ (SlF u.1 (r).length u.2) ∧ HF w' W' (LEn [ow u.1 u.2 98 fl_TBand r]) := by
 unfold F_shape_Set__Or at H
 have leB := Bs.Le.refl w
 refine Tr.enter (n := 8) Tryz.func224 rfl rfl rfl hE ?_
 refine Tr.sr ?_
 refine Tr.asg rfl rfl ?_
 refine Tr.nilOwn 1 98 fl_TBand ?_
 show Tr _ _ (uf _ 4 (.slice none (([] : List TBand)).length 0)) _ _
 refine Tr.nil (Tr.normThen ?_)
 refine Tr.sr ?_
 refine Tr.mv rfl rfl ?_
 refine Tr.mv rfl rfl ?_
 obtain ⟨y100, hy100, H⟩ := bnd H
 refine Tr.callG [2] [emp] (U := (Option Addr × Nat)) (fun u => (.slice u.1 (y100).length u.2)) (fun O W u => SlF u.1 (y100).length u.2) (fun u => [ow u.1 u.2 98 fl_TBand y100]) rfl (pk_cons rfl pk_nil) (fun _ => rfl) (wn rfl) rfl Tryz.call228 (evl_cons rfl (evl_cons rfl (evl_cons rfl evl_nil))) (fun W hW hp hE => F_shape_Merge_ok N p0 Ap0_0 cp0_0 (hp0_0.extO (hW.extS hp)) p1 Ap1_0 cp1_0 (hp1_0.extO (hW.extS hp)) (fun z0 z1 => F_shape_Set__Or_1 z0 z1) 230 [] Tryz.call230 (fun w' he z0 z1 y hy => F_shape_Set__Or_1_ok z0 z1 y hy (HF.start _)) y100 hy100 hE) ?_
 intro w u le101 hu
 obtain ⟨Ay100_0, cy100_0⟩ := u
 have gy100_0 := hu
 replace hp0_0 := hp0_0.le le101
 replace hp1_0 := hp1_0.le le101
 replace leB := leB.trans le101
 have hgy100_0 : SlF Ay100_0 (y100).length cy100_0 := gy100_0 --@phi
 show Tr _ _ (uf _ 7 (.slice Ay100_0 (y100).length cy100_0)) (up _ 2 (ow Ay100_0 cy100_0 98 fl_TBand y100)) _
 refine Tr.asg rfl rfl ?_
 refine Tr.nil (Tr.normThen ?_)
 refine Tr.ret ?_
 obtain rfl := Option.some.inj H
 exact Tr.out (m := [(.slice Ay100_0 (y100).length cy100_0)]) [] (res_tmp rfl res_nil) (fun W hW => ⟨w, (Ay100_0, cy100_0), leB, rfl, hgy100_0, hW.pick (ks := [2]) (by decide) (pk_cons rfl pk_nil)⟩)

theorem F_shape_Set__Many_ok {w : Bs} (p0 : (List TBand)) (Ap0_0 : Option Addr) (cp0_0 : Nat) (hp0_0 : Sl w.R w.W fl_TBand Ap0_0 cp0_0 p0) (r : Int) (H : F_shape_Set__Many p0 = some r) (hE : HF w w.W E0) : Calls Tryz.prog 215 [(.slice Ap0_0 (p0).length cp0_0)].toArray w.W fun e W' => e = .returned (iv r) ∧ HF w W' E0 := by
 unfold F_shape_Set__Many at H
 have leB := Bs.Le.refl w
 refine Tr.enter (n := 20) Tryz.func215 rfl rfl rfl hE ?_
 refine Tr.sr ?_
 refine Tr.asg rfl rfl ?_
 refine Tr.nil (Tr.normThen ?_)
 refine Tr.sr ?_
 refine Tr.asg rfl rfl ?_
 refine Tr.nil (Tr.normThen ?_)
 refine Tr.seq ?_
 refine Tr.sr ?_
 refine Tr.mv rfl rfl ?_
 refine Tr.v1 rfl (run_len un_62) rfl ?_
 refine Tr.mv rfl rfl ?_
 refine Tr.nil (Tr.normThen ?_)
 refine Tr.block ?_
 refine Tr.loop (σ := (List TBand) × Nat × Int) (fun m w s => m = s.1.length + 1 ∧ s.1 = List.drop s.2.1 p0 ∧ s.2.1 ≤ p0.length ∧ F_shape_Set__Many_L1 s.1 s.2.1 s.2.2 = some r) (fun s => [(3, (iv s.2.2)), (6, (.slice Ap0_0 (p0).length cp0_0)), (7, (iv (p0.length : Int))), (8, (iv (s.2.1 : Int)))]) (fun s => []) (p0.length + 1) (p0, 0, 0) ⟨rfl, rfl, Nat.zero_le _, H⟩ (.r rfl) .nil (fun _ _ h => absurd h.1 (by simp)) ?_
 intro w leL1 m s hs
 obtain ⟨restL1, iL1, x112⟩ := s
 obtain ⟨hmL1, hdL1, hiL1, H⟩ := hs
 replace hdL1 : restL1 = List.drop iL1 p0 := hdL1
 replace H : F_shape_Set__Many_L1 restL1 iL1 x112 = some r := H
 replace hmL1 : m + 1 = restL1.length + 1 := hmL1
 replace hp0_0 := hp0_0.leR leL1
 replace leB := leB.trans leL1
 obtain rfl : m = restL1.length := by omega
 clear hmL1
 show Tr _ _ (LF [(3, (iv x112)), (6, (.slice Ap0_0 (p0).length cp0_0)), (7, (iv (p0.length : Int))), (8, (iv (iL1 : Int)))]) (LE []) _
 cases restL1 with
 | nil =>
  rw [F_shape_Set__Many_L1.eq_1] at H
  refine Tr.sr ?_
  refine Tr.v2 rfl run_lss rfl rfl ?_
  refine Tr.nil (Tr.normThen ?_)
  refine Tr.seq ?_
  refine Tr.condF rfl (range_nil hdL1) ?_
  refine Tr.exit (Tr.exitThen (Tr.exitThen (Tr.exitBlock (Tr.normThen ?_))))
  refine Tr.sr ?_
  refine Tr.mv rfl rfl ?_
  refine Tr.asg rfl rfl ?_
  refine Tr.nil (Tr.normThen ?_)
  refine Tr.ret ?_
  obtain rfl := Option.some.inj H
  exact Tr.out (m := [(iv x112)]) [] (res_tmp rfl res_nil) (fun W hW => ⟨rfl, hW.low leB⟩)
 | cons xL1 restL1 =>
  rw [F_shape_Set__Many_L1.eq_2] at H
  refine Tr.sr ?_
  refine Tr.v2 rfl run_lss rfl rfl ?_
  refine Tr.nil (Tr.normThen ?_)
  refine Tr.seq ?_
  refine Tr.condT rfl (range_on hdL1) ?_
  refine Tr.skip (Tr.normThen ?_)
  refine Tr.seq ?_
  refine Tr.block ?_
  refine Tr.sr ?_
  obtain ⟨u113, hRu113, hoku113, hcu113⟩ := (hp0_0).el (range_at hdL1)
  obtain ⟨Au113_0, cu113_0⟩ := u113
  have hoku113_0 := hoku113
  replace hoku113_0 : Sl w.R w.W fl_i64 Au113_0 cu113_0 xL1.Xs := hoku113_0
  refine Tr.va rfl (fun _ _ h1 h2 => run_indexAddr el_62 (h1.ev rfl) hp0_0.form (h1.ev rfl) (Int.natCast_nonneg _) (range_lt hdL1)) ?_
  refine Tr.va rfl (fun _ _ h1 h2 => run_loadN (cs := [(iv xL1.Y0), (iv xL1.Y1), (.slice Au113_0 (xL1.Xs).length cu113_0)]) ag_98 sz_98 (h1.ev rfl) (CellsAt.take (rdR hRu113 hcu113 h2) 3) rfl) ?_
  refine Tr.alloc 3 (wn rfl) rfl ze_98 fun b114 => ?_
  refine Tr.store 3 (cs := [(iv xL1.Y0), (iv xL1.Y1), (.slice Au113_0 (xL1.Xs).length cu113_0)]) [(iv xL1.Y0), (iv xL1.Y1), (.slice Au113_0 (xL1.Xs).length cu113_0)] (wn rfl) rfl rfl rfl rfl sz_98 rfl rfl rfl ?_
  refine Tr.nil (Tr.normThen ?_)
  refine Tr.region ?_
  refine Tr.mv rfl rfl ?_
  refine Tr.v1 rfl (run_fieldAddr fo_98_2) rfl ?_
  refine Tr.va rfl (fun _ _ h1 h2 => run_load1 ag_96 (h1.ev rfl) (rdb h2 (vs := [(iv xL1.Y0), (iv xL1.Y1), (.slice Au113_0 (xL1.Xs).length cu113_0)]) (k := 3) rfl 2) rfl) ?_
  refine Tr.v1 rfl (run_len un_96) rfl ?_
  refine Tr.va rfl (fun _ _ h1 h2 => run_quo (h1.ev rfl) (h1.ev rfl) (by decide)) ?_
  refine Tr.v2 rfl run_add rfl rfl ?_
  refine Tr.asg rfl rfl ?_
  refine Tr.nil (Tr.normBlock (Tr.normThen ?_))
  refine Tr.region ?_
  refine Tr.v2 rfl run_add rfl rfl ?_
  refine Tr.mv rfl rfl ?_
  refine Tr.nil ?_
  exact Tr.backThen leL1 (restL1, (iL1 + 1), (w64 (x112 + (w64 (Int.tdiv (xL1.Xs.length : Int) 2))))) ⟨rfl, range_tl hdL1, range_lt hdL1, H⟩ (.cons rfl (.cons rfl (.cons rfl (.cons (congrArg (fun z => some (Value.int .i64 z)) (range_up hdL1 hp0_0.form)) .nil)))) .nil

end Go.Proofs.YtcjeebkoafonpaaGreatDoor
