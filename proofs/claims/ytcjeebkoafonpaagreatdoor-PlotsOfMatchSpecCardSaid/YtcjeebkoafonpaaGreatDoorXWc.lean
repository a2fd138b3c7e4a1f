/- The walks: each function computes its plain function. -/
import Derived.Test.YtcjeebkoafonpaaGreatDoorXWb
namespace Go.Proofs.YtcjeebkoafonpaaGreatDoor
open Go.RowKit
set_option maxRecDepth 100000
set_option maxHeartbeats 1000000
theorem F_plot_Of_ok (N : Nat) {w : Bs} (p0 : (List TRect)) (Ap0_0 : Option Addr) (cp0_0 : Nat) (hp0_0 : Sl w.R w.W fl_TRect Ap0_0 cp0_0 p0) (r : (TPlot × Int)) (H : F_plot_Of N p0 = some r) (hE : HF w w.W (LEn [emp, emp])) : Calls Tryz.prog 5 [(.slice Ap0_0 (p0).length cp0_0)].toArray w.W fun e W' => ∃ (w' : Bs) (u : (Option Addr × Nat) × (Option Addr × Nat)), w.Le w' ∧ e = .returned (.tuple #[(.agg #[(iv r.1.Unit), (.slice u.1.1 (r.1.Tools).length u.1.2), (.slice u.2.1 (r.1.Steps).length u.2.2)]), (iv r.2)]) ∧ (SlF u.1.1 (r.1.Tools).length u.1.2 ∧ SlF u.2.1 (r.1.Steps).length u.2.2) ∧ HF w' W' (LEn [ow u.1.1 u.1.2 58 fl_TPlotTool r.1.Tools, ow u.2.1 u.2.2 53 fl_TPlotStep r.1.Steps]) := by
 unfold F_plot_Of at H
 have leB := Bs.Le.refl w
 refine Tr.enter (n := 106) Tryz.func5 rfl rfl rfl hE ?_
 refine Tr.sr ?_
 refine Tr.alloc 1 (wn rfl) rfl ze_26 fun b100 => ?_
 refine Tr.asg rfl rfl ?_
 refine Tr.nil (Tr.normThen ?_)
 refine Tr.sr ?_
 refine Tr.mv rfl rfl ?_
 obtain ⟨y101, hy101, H⟩ := bnd H
 refine Tr.callG [2] [emp] (U := (Option Addr × Nat)) (fun u => (.tuple #[(.slice u.1 (y101.1).length u.2), (iv y101.2)])) (fun O W u => SlF u.1 (y101.1).length u.2) (fun u => [ow u.1 u.2 43 fl_LTPoint y101.1]) rfl (pk_cons rfl pk_nil) (fun _ => rfl) (wn rfl) rfl Tryz.call12 (evl_cons rfl evl_nil) (fun W hW hp hE => F_shape_Outlines_ok N p0 Ap0_0 cp0_0 (hp0_0.ext (hW.extS hp)) y101 hy101 hE) ?_
 intro w u le102 hu
 obtain ⟨Ay101_0, cy101_0⟩ := u
 have gy101_0 := hu
 replace hp0_0 := hp0_0.leR le102
 replace leB := leB.trans le102
 have hgy101_0 : SlF Ay101_0 (y101.1).length cy101_0 := gy101_0 --@phi
 show Tr _ _ (uf _ 21 (.tuple #[(.slice Ay101_0 (y101.1).length cy101_0), (iv y101.2)])) (up _ 2 (ow Ay101_0 cy101_0 43 fl_LTPoint y101.1)) _
 refine Tr.mv rfl rfl ?_
 refine Tr.va rfl (fun _ _ h1 h2 => run_extract (h1.ev rfl) rfl) ?_
 refine Tr.va rfl (fun _ _ h1 h2 => run_extract (h1.ev rfl) rfl) ?_
 refine Tr.asg rfl rfl ?_
 refine Tr.asg rfl rfl ?_
 refine Tr.nil (Tr.normThen ?_)
 refine Tr.seq ?_
 refine Tr.sr ?_
 refine Tr.mv rfl rfl ?_
 refine Tr.v2 rfl run_neq rfl rfl ?_
 refine Tr.nil (Tr.normThen ?_)
 refine Tr.cond rfl H (fun H => ?_) (fun H => ?_)
 ·refine Tr.sr ?_
  refine Tr.build (vs := []) (cs := [(iv 0), (.slice none 0 0), (.slice none 0 0)]) (wn rfl) rfl evs_nil (by kernel_rfl) ?_
  refine Tr.mv rfl rfl ?_
  refine Tr.store 1 (cs := [(iv 0), (.slice none 0 0), (.slice none 0 0)]) [(iv 0), (.slice none 0 0), (.slice none 0 0)] (wn rfl) rfl rfl rfl rfl sz_26 rfl rfl rfl ?_
  refine Tr.asg rfl rfl ?_
  refine Tr.nil (Tr.normThen ?_)
  refine Tr.ret (Tr.retThen ?_)
  obtain rfl := Option.some.inj H
  refine Tr.nilOwn 3 58 fl_TPlotTool ?_
  refine Tr.nilOwn 4 53 fl_TPlotStep ?_
  exact Tr.out (m := [(.agg #[(iv 0), (.slice none 0 0), (.slice none 0 0)]), (iv y101.2)]) [1] (res_cell rfl rfl ag_26 sz_26 (res_tmp rfl res_nil)) (fun W hW => ⟨w, ((none, 0), (none, 0)), leB, rfl, ⟨slf_nil, slf_nil⟩, hW.pick (ks := [3, 4]) (by decide) (pk_cons rfl (pk_cons rfl pk_nil))⟩)
 ·refine Tr.skip (Tr.normThen ?_)
  refine Tr.sr ?_
  refine Tr.asg rfl rfl ?_
  refine Tr.nilOwn 5 45 fl_TRow ?_
  show Tr _ _ (uf _ 6 (.slice none (([] : List TRow)).length 0)) _ _
  refine Tr.nil (Tr.normThen ?_)
  refine Tr.seq ?_
  refine Tr.sr ?_
  refine Tr.mv rfl rfl ?_
  refine Tr.v1 rfl (run_len un_39) rfl ?_
  refine Tr.mv rfl rfl ?_
  refine Tr.nil (Tr.normThen ?_)
  refine Tr.block ?_
  refine Tr.loop (σ := (List (List TPoint)) × Nat × (List TRow) × (Option Addr) × Nat) (fun m w s => m = s.1.length + 1 ∧ s.1 = List.drop s.2.1 y101.1 ∧ s.2.1 ≤ y101.1.length ∧ F_plot_Of_L3 N s.1 s.2.1 s.2.2.1 = some r ∧ SlF s.2.2.2.1 (s.2.2.1).length s.2.2.2.2) (fun s => [(2, (.pointer (some ⟨b100, 0, none⟩))), (6, (.slice s.2.2.2.1 (s.2.2.1).length s.2.2.2.2)), (28, (.slice Ay101_0 (y101.1).length cy101_0)), (29, (iv (y101.1.length : Int))), (30, (iv (s.2.1 : Int)))]) (fun s => [(1, bx b100 #[(iv 0), (.slice none 0 0), (.slice none 0 0)] 26), (2, ow Ay101_0 cy101_0 43 fl_LTPoint y101.1), (5, ow s.2.2.2.1 s.2.2.2.2 45 fl_TRow s.2.2.1)]) (y101.1.length + 1) (y101.1, 0, ([] : List TRow), none, 0) ⟨rfl, rfl, Nat.zero_le _, H, slf_nil⟩ (.r rfl) (.r rfl) (fun _ _ h => absurd h.1 (by simp)) ?_
  intro w leL3 m s hs
  obtain ⟨restL3, iL3, l161, Al161, cl161⟩ := s
  obtain ⟨hmL3, hdL3, hiL3, H, hl161⟩ := hs
  replace hdL3 : restL3 = List.drop iL3 y101.1 := hdL3
  replace H : F_plot_Of_L3 N restL3 iL3 l161 = some r := H
  replace hmL3 : m + 1 = restL3.length + 1 := hmL3
  replace leB := leB.trans leL3
  replace hl161 : SlF Al161 (l161).length cl161 := hl161
  obtain rfl : m = restL3.length := by omega
  clear hmL3
  show Tr _ _ (LF [(2, (.pointer (some ⟨b100, 0, none⟩))), (6, (.slice Al161 (l161).length cl161)), (28, (.slice Ay101_0 (y101.1).length cy101_0)), (29, (iv (y101.1.length : Int))), (30, (iv (iL3 : Int)))]) (LE [(1, bx b100 #[(iv 0), (.slice none 0 0), (.slice none 0 0)] 26), (2, ow Ay101_0 cy101_0 43 fl_LTPoint y101.1), (5, ow Al161 cl161 45 fl_TRow l161)]) _
  cases restL3 with
  | nil =>
   rw [F_plot_Of_L3.eq_1] at H
   refine Tr.sr ?_
   refine Tr.v2 rfl run_lss rfl rfl ?_
   refine Tr.nil (Tr.normThen ?_)
   refine Tr.seq ?_
   refine Tr.condF rfl (range_nil hdL3) ?_
   refine Tr.exit (Tr.exitThen (Tr.exitThen (Tr.exitBlock (Tr.normThen ?_))))
   refine Tr.sr ?_
   refine Tr.alloc 22 (wn rfl) rfl ze_48 fun b162 => ?_
   refine Tr.store 22 (cs := [(.func (.func 13) #[] #[])]) [(.func (.func 13) #[] #[])] (wn rfl) rfl rfl rfl rfl sz_48 rfl rfl rfl ?_
   refine Tr.nil (Tr.normThen ?_)
   refine Tr.sr ?_
   refine Tr.mv rfl rfl ?_
   refine Tr.mkFunc (vs := [(.pointer (some ⟨b162, 0, none⟩))]) (wn rfl) rfl (evl_cons rfl evl_nil) ?_
   obtain ⟨y163, hy163, H⟩ := bnd H
   refine Tr.callG [5] [ow Al161 cl161 45 fl_TRow l161] (U := Unit) (fun u => (.tuple #[])) (fun O W u => (y163).length = (l161).length) (fun u => [ow Al161 cl161 45 fl_TRow y163]) rfl (pk_cons rfl pk_nil) (fun _ => rfl) (wn rfl) rfl Tryz.call14 (evl_cons rfl (evl_cons rfl evl_nil)) (fun W hW hp hE => F_slices_SortStableFunc_row__Of_2__Of_1_ok N l161 Al161 cl161 b162 (hW.boxS (k := 22) rfl hp rfl) (hW.boxC (k := 22) rfl) y163 hy163 hE) ?_
   intro w u le164 hu
   have gky163_0 := hu
   replace leB := leB.trans le164
   replace leL3 := leL3.trans le164
   have hgky163_0 : (y163).length = (l161).length := gky163_0 --@phi
   have hfky163_0 : SlF Al161 (y163).length cl161 := by rw [hgky163_0]; exact hl161
   show Tr _ _ (uf _ 74 (.tuple #[])) (up _ 5 (ow Al161 cl161 45 fl_TRow y163)) _
   refine Tr.sel (lf := [(2, (.pointer (some ⟨b100, 0, none⟩))), (6, (.slice Al161 (y163).length cl161)), (13, (.pointer (some ⟨b162, 0, none⟩))), (28, (.slice Ay101_0 (y101.1).length cy101_0)), (29, (iv (y101.1.length : Int))), (30, (iv (iL3 : Int))), (31, (.bool (decide ((iL3 : Int) < (y101.1.length : Int))))), (72, (.slice Al161 (y163).length cl161)), (73, (.func (.func 15) #[] #[(.pointer (some ⟨b162, 0, none⟩))])), (74, (.tuple #[]))]) (le := [(1, bx b100 #[(iv 0), (.slice none 0 0), (.slice none 0 0)] 26), (2, ow Ay101_0 cy101_0 43 fl_LTPoint y101.1), (5, ow Al161 cl161 45 fl_TRow y163), (22, bx b162 #[(.func (.func 13) #[] #[])] 48)]) (.cons rfl (.cons (slenV rfl (by rw [hgky163_0])) (.cons rfl (.cons rfl (.cons rfl (.cons rfl (.cons rfl (.cons (slenV rfl (by rw [hgky163_0])) (.r rfl))))))))) (.r rfl) ?_
   refine Tr.nil (Tr.normThen ?_)
   refine Tr.sr ?_
   refine Tr.build (vs := [(0, (iv 1))]) (cs := [(iv 1), (.slice none 0 0), (.slice none 0 0)]) (wn rfl) rfl (evs_cons rfl evs_nil) (by kernel_rfl) ?_
   refine Tr.alloc 23 (wn rfl) rfl ze_26 fun b165 => ?_
   refine Tr.store 23 (cs := [(iv 1), (.slice none 0 0), (.slice none 0 0)]) [(iv 1), (.slice none 0 0), (.slice none 0 0)] (wn rfl) rfl rfl rfl rfl sz_26 rfl rfl rfl ?_
   refine Tr.nil (Tr.normThen ?_)
   refine Tr.sr ?_
   refine Tr.asg rfl rfl ?_
   refine Tr.nil (Tr.normThen ?_)
   refine Tr.seq ?_
   refine Tr.seq ?_
   refine Tr.freeze 5 rfl fun w le167 hz166 => ?_
   replace leB := leB.trans le167
   replace leL3 := leL3.trans le167
   refine Tr.region ?_
   refine Tr.mv rfl rfl ?_
   refine Tr.v1 rfl (run_len un_42) rfl ?_
   refine Tr.mv rfl rfl ?_
   refine Tr.nil (Tr.normThen ?_)
   refine Tr.block ?_
   refine Tr.nilOwn 38 53 fl_TPlotStep ?_
   refine Tr.loop (σ := (List TRow) × Nat × (List TPlotStep) × Int × (Option Addr) × Nat) (fun m w s => m = s.1.length + 1 ∧ s.1 = List.drop s.2.1 y163 ∧ s.2.1 ≤ y163.length ∧ F_plot_Of_L8 s.1 s.2.1 s.2.2.1 s.2.2.2.1 = some r ∧ SlF s.2.2.2.2.1 (s.2.2.1).length s.2.2.2.2.2) (fun s => [(2, (.pointer (some ⟨b100, 0, none⟩))), (14, (.pointer (some ⟨b165, 0, none⟩))), (15, (iv s.2.2.2.1)), (76, (.slice Al161 (y163).length cl161)), (77, (iv (y163.length : Int))), (78, (iv (s.2.1 : Int)))]) (fun s => [(1, bx b100 #[(iv 0), (.slice none 0 0), (.slice none 0 0)] 26), (23, bx b165 #[(iv 1), (.slice none 0 0), (.slice s.2.2.2.2.1 (s.2.2.1).length s.2.2.2.2.2)] 26), (38, ow s.2.2.2.2.1 s.2.2.2.2.2 53 fl_TPlotStep s.2.2.1)]) (y163.length + 1) (y163, 0, ([] : List TPlotStep), 1, none, 0) ⟨rfl, rfl, Nat.zero_le _, H, slf_nil⟩ (.r rfl) (.r rfl) (fun _ _ h => absurd h.1 (by simp)) ?_
   intro w leL8 m s hs
   obtain ⟨restL8, iL8, l209, x210, Al209, cl209⟩ := s
   obtain ⟨hmL8, hdL8, hiL8, H, hl209⟩ := hs
   replace hdL8 : restL8 = List.drop iL8 y163 := hdL8
   replace H : F_plot_Of_L8 restL8 iL8 l209 x210 = some r := H
   replace hmL8 : m + 1 = restL8.length + 1 := hmL8
   replace hz166 := hz166.le leL8
   replace leB := leB.trans leL8
   replace leL3 := leL3.trans leL8
   replace hl209 : SlF Al209 (l209).length cl209 := hl209
   obtain rfl : m = restL8.length := by omega
   clear hmL8
   show Tr _ _ (LF [(2, (.pointer (some ⟨b100, 0, none⟩))), (14, (.pointer (some ⟨b165, 0, none⟩))), (15, (iv x210)), (76, (.slice Al161 (y163).length cl161)), (77, (iv (y163.length : Int))), (78, (iv (iL8 : Int)))]) (LE [(1, bx b100 #[(iv 0), (.slice none 0 0), (.slice none 0 0)] 26), (23, bx b165 #[(iv 1), (.slice none 0 0), (.slice Al209 (l209).length cl209)] 26), (38, ow Al209 cl209 53 fl_TPlotStep l209)]) _
   cases restL8 with
   | nil =>
    rw [F_plot_Of_L8.eq_1] at H
    refine Tr.sr ?_
    refine Tr.v2 rfl run_lss rfl rfl ?_
    refine Tr.nil (Tr.normThen ?_)
    refine Tr.seq ?_
    refine Tr.condF rfl (range_nil hdL8) ?_
    refine Tr.exit (Tr.exitThen (Tr.exitThen (Tr.exitBlock (Tr.normThen ?_))))
    refine Tr.sr ?_
    refine Tr.va rfl (fun _ _ h1 h2 => run_loadN (cs := [(iv 1), (.slice none 0 0), (.slice Al209 (l209).length cl209)]) ag_26 sz_26 (h1.ev rfl) (CellsAt.take (rdb h2 (vs := [(iv 1), (.slice none 0 0), (.slice Al209 (l209).length cl209)]) (k := 23) rfl 0) 3) rfl) ?_
    refine Tr.store 1 (cs := [(iv 1), (.slice none 0 0), (.slice Al209 (l209).length cl209)]) [(iv 1), (.slice none 0 0), (.slice Al209 (l209).length cl209)] (wn rfl) rfl rfl rfl rfl sz_26 rfl rfl rfl ?_
    refine Tr.asg rfl rfl ?_
    refine Tr.nil (Tr.normThen ?_)
    refine Tr.ret ?_
    obtain rfl := Option.some.inj H
    refine Tr.nilOwn 39 58 fl_TPlotTool ?_
    exact Tr.out (m := [(.agg #[(iv 1), (.slice none 0 0), (.slice Al209 (l209).length cl209)]), (iv 0)]) [1] (res_cell rfl rfl ag_26 sz_26 (res_tmp rfl res_nil)) (fun W hW => ⟨w, ((none, 0), (Al209, cl209)), leB, rfl, ⟨slf_nil, hl209⟩, hW.pick (ks := [39, 38]) (by decide) (pk_cons rfl (pk_cons rfl pk_nil))⟩)
   | cons xL8 restL8 =>
    rw [F_plot_Of_L8.eq_2] at H
    refine Tr.sr ?_
    refine Tr.v2 rfl run_lss rfl rfl ?_
    refine Tr.nil (Tr.normThen ?_)
    refine Tr.seq ?_
    refine Tr.condT rfl (range_on hdL8) ?_
    refine Tr.skip (Tr.normThen ?_)
    refine Tr.seq ?_
    refine Tr.block ?_
    refine Tr.sr ?_
    obtain ⟨u211, hRu211, hoku211, hcu211⟩ := (hz166).el (range_at hdL8)
    obtain ⟨Au211_0, cu211_0⟩ := u211
    have hoku211_0 := hoku211
    replace hoku211_0 : Sl w.O w.W fl_TPoint Au211_0 cu211_0 xL8.points := hoku211_0
    replace hRu211 : w.R (adB Al161) := Or.inl hRu211
    refine Tr.va rfl (fun _ _ h1 h2 => run_indexAddr el_42 (h1.ev rfl) hz166.form (h1.ev rfl) (Int.natCast_nonneg _) (range_lt hdL8)) ?_
    refine Tr.va rfl (fun _ _ h1 h2 => run_loadN (cs := [(.slice Au211_0 (xL8.points).length cu211_0), (iv xL8.area)]) ag_45 sz_45 (h1.ev rfl) (CellsAt.take (rdR hRu211 hcu211 h2) 2) rfl) ?_
    refine Tr.alloc 40 (wn rfl) rfl ze_45 fun b212 => ?_
    refine Tr.store 40 (cs := [(.slice Au211_0 (xL8.points).length cu211_0), (iv xL8.area)]) [(.slice Au211_0 (xL8.points).length cu211_0), (iv xL8.area)] (wn rfl) rfl rfl rfl rfl sz_45 rfl rfl rfl ?_
    refine Tr.nil (Tr.normThen ?_)
    refine Tr.sr ?_
    refine Tr.asg rfl rfl ?_
    refine Tr.nil (Tr.normThen ?_)
    have leJ214 := Bs.Le.refl w
    refine Tr.cutJ (σ := Int) (fun w s => F_plot_Of_J10 l209 x210 (F_plot_Of_L8 restL8 (iL8 + 1)) xL8 s = some r) (fun s => [(2, (.pointer (some ⟨b100, 0, none⟩))), (14, (.pointer (some ⟨b165, 0, none⟩))), (15, (iv x210)), (17, (.pointer (some ⟨b212, 0, none⟩))), (18, (iv s)), (76, (.slice Al161 (y163).length cl161)), (77, (iv (y163.length : Int))), (78, (iv (iL8 : Int)))]) (fun s => [(1, bx b100 #[(iv 0), (.slice none 0 0), (.slice none 0 0)] 26), (23, bx b165 #[(iv 1), (.slice none 0 0), (.slice Al209 (l209).length cl209)] 26), (38, ow Al209 cl209 53 fl_TPlotStep l209), (40, bx b212 #[(.slice Au211_0 (xL8.points).length cu211_0), (iv xL8.area)] 45)]) ?_ ?_
    ·refine Tr.sr ?_
     refine Tr.v1 rfl (run_fieldAddr fo_45_1) rfl ?_
     refine Tr.va rfl (fun _ _ h1 h2 => run_load1 ag_3 (h1.ev rfl) (rdb h2 (vs := [(.slice Au211_0 (xL8.points).length cu211_0), (iv xL8.area)]) (k := 40) rfl 1) rfl) ?_
     refine Tr.v2 rfl run_lss rfl rfl ?_
     refine Tr.nil (Tr.normThen ?_)
     refine Tr.cond rfl H (fun H => ?_) (fun H => ?_)
     ·refine Tr.region ?_
      refine Tr.asg rfl rfl ?_
      refine Tr.nil ?_
      exact Tr.backThen leJ214 2 H (.r rfl) (.r rfl)
     ·refine Tr.skip ?_
      exact Tr.backThen leJ214 1 H (.r rfl) (.r rfl)
    ·intro w x213 hlJ215 hs
     have H := hs
     replace H : F_plot_Of_J10 l209 x210 (F_plot_Of_L8 restL8 (iL8 + 1)) xL8 x213 = some r := H
     replace hoku211_0 := hoku211_0.le hlJ215
     replace hz166 := hz166.le hlJ215
     replace leB := leB.trans hlJ215
     replace leL3 := leL3.trans hlJ215
     replace leL8 := leL8.trans hlJ215
     unfold F_plot_Of_J10 at H
     show Tr _ _ (LF [(2, (.pointer (some ⟨b100, 0, none⟩))), (14, (.pointer (some ⟨b165, 0, none⟩))), (15, (iv x210)), (17, (.pointer (some ⟨b212, 0, none⟩))), (18, (iv x213)), (76, (.slice Al161 (y163).length cl161)), (77, (iv (y163.length : Int))), (78, (iv (iL8 : Int)))]) (LE [(1, bx b100 #[(iv 0), (.slice none 0 0), (.slice none 0 0)] 26), (23, bx b165 #[(iv 1), (.slice none 0 0), (.slice Al209 (l209).length cl209)] 26), (38, ow Al209 cl209 53 fl_TPlotStep l209), (40, bx b212 #[(.slice Au211_0 (xL8.points).length cu211_0), (iv xL8.area)] 45)]) _
     have leJ220 := Bs.Le.refl w
     refine Tr.cutJ (σ := (List TPlotStep) × Int × (Option Addr) × Nat) (fun w s => F_plot_Of_J9 (F_plot_Of_L8 restL8 (iL8 + 1)) xL8 s.1 s.2.1 = some r ∧ SlF s.2.2.1 (s.1).length s.2.2.2) (fun s => [(2, (.pointer (some ⟨b100, 0, none⟩))), (14, (.pointer (some ⟨b165, 0, none⟩))), (15, (iv s.2.1)), (17, (.pointer (some ⟨b212, 0, none⟩))), (76, (.slice Al161 (y163).length cl161)), (77, (iv (y163.length : Int))), (78, (iv (iL8 : Int)))]) (fun s => [(1, bx b100 #[(iv 0), (.slice none 0 0), (.slice none 0 0)] 26), (23, bx b165 #[(iv 1), (.slice none 0 0), (.slice s.2.2.1 (s.1).length s.2.2.2)] 26), (38, ow s.2.2.1 s.2.2.2 53 fl_TPlotStep s.1), (40, bx b212 #[(.slice Au211_0 (xL8.points).length cu211_0), (iv xL8.area)] 45)]) ?_ ?_
     ·refine Tr.sr ?_
      refine Tr.mv rfl rfl ?_
      refine Tr.mv rfl rfl ?_
      refine Tr.v2 rfl run_neq rfl rfl ?_
      refine Tr.nil (Tr.normThen ?_)
      refine Tr.cond rfl H (fun H => ?_) (fun H => ?_)
      ·refine Tr.region ?_
       refine Tr.v1 rfl (run_fieldAddr fo_26_2) rfl ?_
       refine Tr.va rfl (fun _ _ h1 h2 => run_load1 ag_24 (h1.ev rfl) (rdb h2 (vs := [(iv 1), (.slice none 0 0), (.slice Al209 (l209).length cl209)]) (k := 23) rfl 2) rfl) ?_
       refine Tr.mv rfl rfl ?_
       refine Tr.build (vs := [(0, (iv x213))]) (cs := [(iv x213), (sv ⟨#[]⟩), (iv 0), (iv 0), (.slice none 0 0), (iv 0), (iv 0), (.slice none 0 0)]) (wn rfl) rfl (evs_cons rfl evs_nil) (by kernel_rfl) ?_
       refine Tr.buildSlice 43 (e := 53) (vs := [(0, (.agg #[(iv x213), (sv ⟨#[]⟩), (iv 0), (iv 0), (.slice none 0 0), (iv 0), (iv 0), (.slice none 0 0)]))]) (cs := [(iv x213), (sv ⟨#[]⟩), (iv 0), (iv 0), (.slice none 0 0), (iv 0), (iv 0), (.slice none 0 0)]) (wn rfl) rfl (evs_cons rfl evs_nil) (by kernel_rfl) fun b224 => ?_
       obtain ⟨l225, hl225, H⟩ := bnd H
       refine Tr.append 38 (t := fl_TPlotStep) (l := l209) (l2 := [(TPlotStep.mk x213 (⟨#[]⟩) (TPoint.mk 0 0) [] 0 0 [])]) (wn rfl) rfl rfl rfl rfl (fun W hW => ⟨[[(iv x213), (sv ⟨#[]⟩), (iv 0), (iv 0), (.slice none 0 0), (iv 0), (iv 0), (.slice none 0 0)]], (.cons ⟨((none, 0), (none, 0)), (TPlotStep_ok.2 ⟨(Sl.nil _ _ _), (Sl.nil _ _ _)⟩), rfl⟩ .nil), rdb hW (vs := [(iv x213), (sv ⟨#[]⟩), (iv 0), (iv 0), (.slice none 0 0), (iv 0), (iv 0), (.slice none 0 0)]) (k := 43) rfl 0⟩) un_24 sz_53 zl_53 (by decide) by_53 rfl hl225 fun Al225 cl225 hAl225 => ?_
       refine Tr.mv rfl rfl ?_
       refine Tr.v1 rfl (run_fieldAddr fo_26_2) rfl ?_
       refine Tr.store 23 (cs := [(.slice Al225 (l225).length cl225)]) [(iv 1), (.slice none 0 0), (.slice Al225 (l225).length cl225)] (wn rfl) rfl rfl rfl rfl sz_24 rfl rfl rfl ?_
       refine Tr.asg rfl rfl ?_
       refine Tr.nil ?_
       exact Tr.backThen leJ220 (l225, x213, Al225, cl225) ⟨H, hAl225⟩ (.r rfl) (.r rfl)
      ·refine Tr.skip ?_
       exact Tr.backThen leJ220 (l209, x210, Al209, cl209) ⟨H, hl209⟩ (.r rfl) (.r rfl)
     ·intro w s hlJ221 hs
      obtain ⟨l218, x219, Al218, cl218⟩ := s
      obtain ⟨H, hl218⟩ := hs
      replace H : F_plot_Of_J9 (F_plot_Of_L8 restL8 (iL8 + 1)) xL8 l218 x219 = some r := H
      replace hoku211_0 := hoku211_0.le hlJ221
      replace hz166 := hz166.le hlJ221
      replace leB := leB.trans hlJ221
      replace leL3 := leL3.trans hlJ221
      replace leL8 := leL8.trans hlJ221
      replace hl218 : SlF Al218 (l218).length cl218 := hl218
      unfold F_plot_Of_J9 at H
      show Tr _ _ (LF [(2, (.pointer (some ⟨b100, 0, none⟩))), (14, (.pointer (some ⟨b165, 0, none⟩))), (15, (iv x219)), (17, (.pointer (some ⟨b212, 0, none⟩))), (76, (.slice Al161 (y163).length cl161)), (77, (iv (y163.length : Int))), (78, (iv (iL8 : Int)))]) (LE [(1, bx b100 #[(iv 0), (.slice none 0 0), (.slice none 0 0)] 26), (23, bx b165 #[(iv 1), (.slice none 0 0), (.slice Al218 (l218).length cl218)] 26), (38, ow Al218 cl218 53 fl_TPlotStep l218), (40, bx b212 #[(.slice Au211_0 (xL8.points).length cu211_0), (iv xL8.area)] 45)]) _
      refine Tr.region ?_
      refine Tr.v1 rfl (run_fieldAddr fo_26_2) rfl ?_
      refine Tr.va rfl (fun _ _ h1 h2 => run_load1 ag_24 (h1.ev rfl) (rdb h2 (vs := [(iv 1), (.slice none 0 0), (.slice Al218 (l218).length cl218)]) (k := 23) rfl 2) rfl) ?_
      refine Tr.v1 rfl (run_fieldAddr fo_45_0) rfl ?_
      refine Tr.va rfl (fun _ _ h1 h2 => run_load1 ag_43 (h1.ev rfl) (rdb h2 (vs := [(.slice Au211_0 (xL8.points).length cu211_0), (iv xL8.area)]) (k := 40) rfl 0) rfl) ?_
      refine Tr.build (vs := [(0, (iv 7)), (3, (.slice Au211_0 (xL8.points).length cu211_0))]) (cs := [(iv 7), (sv ⟨#[]⟩), (iv 0), (iv 0), (.slice Au211_0 (xL8.points).length cu211_0), (iv 0), (iv 0), (.slice none 0 0)]) (wn rfl) rfl (evs_cons rfl (evs_cons rfl evs_nil)) (by kernel_rfl) ?_
      refine Tr.buildSlice 42 (e := 53) (vs := [(0, (.agg #[(iv 7), (sv ⟨#[]⟩), (iv 0), (iv 0), (.slice Au211_0 (xL8.points).length cu211_0), (iv 0), (iv 0), (.slice none 0 0)]))]) (cs := [(iv 7), (sv ⟨#[]⟩), (iv 0), (iv 0), (.slice Au211_0 (xL8.points).length cu211_0), (iv 0), (iv 0), (.slice none 0 0)]) (wn rfl) rfl (evs_cons rfl evs_nil) (by kernel_rfl) fun b222 => ?_
      obtain ⟨l223, hl223, H⟩ := bnd H
      refine Tr.append 38 (t := fl_TPlotStep) (l := l218) (l2 := [(TPlotStep.mk 7 (⟨#[]⟩) (TPoint.mk 0 0) xL8.points 0 0 [])]) (wn rfl) rfl rfl rfl rfl (fun W hW => ⟨[[(iv 7), (sv ⟨#[]⟩), (iv 0), (iv 0), (.slice Au211_0 (xL8.points).length cu211_0), (iv 0), (iv 0), (.slice none 0 0)]], (.cons ⟨((Au211_0, cu211_0), (none, 0)), (TPlotStep_ok.2 ⟨hoku211_0, (Sl.nil _ _ _)⟩), rfl⟩ .nil), rdb hW (vs := [(iv 7), (sv ⟨#[]⟩), (iv 0), (iv 0), (.slice Au211_0 (xL8.points).length cu211_0), (iv 0), (iv 0), (.slice none 0 0)]) (k := 42) rfl 0⟩) un_24 sz_53 zl_53 (by decide) by_53 rfl hl223 fun Al223 cl223 hAl223 => ?_
      refine Tr.v1 rfl (run_fieldAddr fo_26_2) rfl ?_
      refine Tr.store 23 (cs := [(.slice Al223 (l223).length cl223)]) [(iv 1), (.slice none 0 0), (.slice Al223 (l223).length cl223)] (wn rfl) rfl rfl rfl rfl sz_24 rfl rfl rfl ?_
      refine Tr.nil (Tr.normBlock (Tr.normThen ?_))
      refine Tr.region ?_
      refine Tr.v2 rfl run_add rfl rfl ?_
      refine Tr.mv rfl rfl ?_
      refine Tr.nil ?_
      exact Tr.backThen leL8 (restL8, (iL8 + 1), l223, x219, Al223, cl223) ⟨rfl, range_tl hdL8, range_lt hdL8, H, hAl223⟩ (.cons rfl (.cons rfl (.cons rfl (.cons rfl (.cons rfl (.cons (congrArg (fun z => some (Value.int .i64 z)) (range_up hdL8 hz166.form)) .nil)))))) (.r rfl)
  | cons xL3 restL3 =>
   rw [F_plot_Of_L3.eq_2] at H
   refine Tr.sr ?_
   refine Tr.v2 rfl run_lss rfl rfl ?_
   refine Tr.nil (Tr.normThen ?_)
   refine Tr.seq ?_
   refine Tr.condT rfl (range_on hdL3) ?_
   refine Tr.skip (Tr.normThen ?_)
   refine Tr.seq ?_
   refine Tr.block ?_
   refine Tr.sr ?_
   refine Tr.va rfl (fun _ _ h1 h2 => run_indexAddr el_39 (h1.ev rfl) hgy101_0 (h1.ev rfl) (Int.natCast_nonneg _) (range_lt hdL3)) ?_
   refine Tr.valE (U := (fl_LTPoint).Ad) (fun u => (fl_LTPoint).ok w.O w.W u xL3) (fun u => (.slice u.1 (xL3).length u.2)) (wn rfl) rfl (ldN (κ := 2) (t := fl_LTPoint) (V := fun u => (.slice u.1 (xL3).length u.2)) rfl (range_at hdL3) (fun _ _ u h1 hc => run_load1 ag_43 (h1.ev rfl) hc rfl)) ?_
   intro u226 hoku226
   obtain ⟨Au226_0, cu226_0⟩ := u226
   have hoku226_0 := hoku226
   replace hoku226_0 : Sl w.O w.W fl_TPoint Au226_0 cu226_0 xL3 := hoku226_0
   show Tr _ _ (uf _ 33 (.slice Au226_0 (xL3).length cu226_0)) _ _
   refine Tr.asg rfl rfl ?_
   refine Tr.nil (Tr.normThen ?_)
   refine Tr.sr ?_
   refine Tr.mv rfl rfl ?_
   refine Tr.build (vs := [(0, (.slice Au226_0 (xL3).length cu226_0))]) (cs := [(.slice Au226_0 (xL3).length cu226_0), (iv 0)]) (wn rfl) rfl (evs_cons rfl evs_nil) (by kernel_rfl) ?_
   refine Tr.alloc 44 (wn rfl) rfl ze_45 fun b227 => ?_
   refine Tr.store 44 (cs := [(.slice Au226_0 (xL3).length cu226_0), (iv 0)]) [(.slice Au226_0 (xL3).length cu226_0), (iv 0)] (wn rfl) rfl rfl rfl rfl sz_45 rfl rfl rfl ?_
   refine Tr.nil (Tr.normThen ?_)
   refine Tr.seq ?_
   refine Tr.sr ?_
   refine Tr.mv rfl rfl ?_
   refine Tr.v1 rfl (run_len un_43) rfl ?_
   refine Tr.mv rfl rfl ?_
   refine Tr.nil (Tr.normThen ?_)
   refine Tr.block ?_
   refine Tr.loop (σ := (List TPoint) × Nat × Int) (fun m w s => m = s.1.length + 1 ∧ s.1 = List.drop s.2.1 xL3 ∧ s.2.1 ≤ xL3.length ∧ F_plot_Of_L11 l161 (F_plot_Of_L3 N restL3 (iL3 + 1)) xL3 s.1 s.2.1 s.2.2 = some r) (fun s => [(2, (.pointer (some ⟨b100, 0, none⟩))), (6, (.slice Al161 (l161).length cl161)), (8, (.slice Au226_0 (xL3).length cu226_0)), (9, (.pointer (some ⟨b227, 0, none⟩))), (28, (.slice Ay101_0 (y101.1).length cy101_0)), (29, (iv (y101.1.length : Int))), (30, (iv (iL3 : Int))), (36, (.slice Au226_0 (xL3).length cu226_0)), (37, (iv (xL3.length : Int))), (38, (iv (s.2.1 : Int)))]) (fun s => [(1, bx b100 #[(iv 0), (.slice none 0 0), (.slice none 0 0)] 26), (2, ow Ay101_0 cy101_0 43 fl_LTPoint y101.1), (5, ow Al161 cl161 45 fl_TRow l161), (44, bx b227 #[(.slice Au226_0 (xL3).length cu226_0), (iv s.2.2)] 45)]) (xL3.length + 1) (xL3, 0, 0) ⟨rfl, rfl, Nat.zero_le _, H⟩ (.r rfl) (.r rfl) (fun _ _ h => absurd h.1 (by simp)) ?_
   intro w leL11 m s hs
   obtain ⟨restL11, iL11, x244⟩ := s
   obtain ⟨hmL11, hdL11, hiL11, H⟩ := hs
   replace hdL11 : restL11 = List.drop iL11 xL3 := hdL11
   replace H : F_plot_Of_L11 l161 (F_plot_Of_L3 N restL3 (iL3 + 1)) xL3 restL11 iL11 x244 = some r := H
   replace hmL11 : m + 1 = restL11.length + 1 := hmL11
   replace hoku226_0 := hoku226_0.le leL11
   replace leB := leB.trans leL11
   replace leL3 := leL3.trans leL11
   obtain rfl : m = restL11.length := by omega
   clear hmL11
   show Tr _ _ (LF [(2, (.pointer (some ⟨b100, 0, none⟩))), (6, (.slice Al161 (l161).length cl161)), (8, (.slice Au226_0 (xL3).length cu226_0)), (9, (.pointer (some ⟨b227, 0, none⟩))), (28, (.slice Ay101_0 (y101.1).length cy101_0)), (29, (iv (y101.1.length : Int))), (30, (iv (iL3 : Int))), (36, (.slice Au226_0 (xL3).length cu226_0)), (37, (iv (xL3.length : Int))), (38, (iv (iL11 : Int)))]) (LE [(1, bx b100 #[(iv 0), (.slice none 0 0), (.slice none 0 0)] 26), (2, ow Ay101_0 cy101_0 43 fl_LTPoint y101.1), (5, ow Al161 cl161 45 fl_TRow l161), (44, bx b227 #[(.slice Au226_0 (xL3).length cu226_0), (iv x244)] 45)]) _
   cases restL11 with
   | nil =>
    rw [F_plot_Of_L11.eq_1] at H
    refine Tr.sr ?_
    refine Tr.v2 rfl run_lss rfl rfl ?_
    refine Tr.nil (Tr.normThen ?_)
    refine Tr.seq ?_
    refine Tr.condF rfl (range_nil hdL11) ?_
    refine Tr.exit (Tr.exitThen (Tr.exitThen (Tr.exitBlock (Tr.normThen ?_))))
    refine Tr.region ?_
    refine Tr.mv rfl rfl ?_
    refine Tr.va rfl (fun _ _ h1 h2 => run_loadN (cs := [(.slice Au226_0 (xL3).length cu226_0), (iv x244)]) ag_45 sz_45 (h1.ev rfl) (CellsAt.take (rdb h2 (vs := [(.slice Au226_0 (xL3).length cu226_0), (iv x244)]) (k := 44) rfl 0) 2) rfl) ?_
    refine Tr.buildSlice 49 (e := 45) (vs := [(0, (.agg #[(.slice Au226_0 (xL3).length cu226_0), (iv x244)]))]) (cs := [(.slice Au226_0 (xL3).length cu226_0), (iv x244)]) (wn rfl) rfl (evs_cons rfl evs_nil) (by kernel_rfl) fun b245 => ?_
    obtain ⟨l246, hl246, H⟩ := bnd H
    refine Tr.append 5 (t := fl_TRow) (l := l161) (l2 := [(TRow.mk xL3 x244)]) (wn rfl) rfl rfl rfl rfl (fun W hW => ⟨[[(.slice Au226_0 (xL3).length cu226_0), (iv x244)]], (.cons ⟨(Au226_0, cu226_0), hoku226_0, rfl⟩ .nil), rdb hW (vs := [(.slice Au226_0 (xL3).length cu226_0), (iv x244)]) (k := 49) rfl 0⟩) un_42 sz_45 zl_45 (by decide) by_45 rfl hl246 fun Al246 cl246 hAl246 => ?_
    refine Tr.asg rfl rfl ?_
    refine Tr.nil (Tr.normBlock (Tr.normThen ?_))
    refine Tr.region ?_
    refine Tr.v2 rfl run_add rfl rfl ?_
    refine Tr.mv rfl rfl ?_
    refine Tr.nil ?_
    exact Tr.backThen leL3 (restL3, (iL3 + 1), l246, Al246, cl246) ⟨rfl, range_tl hdL3, range_lt hdL3, H, hAl246⟩ (.cons rfl (.cons rfl (.cons rfl (.cons rfl (.cons (congrArg (fun z => some (Value.int .i64 z)) (range_up hdL3 hgy101_0)) .nil))))) (.r rfl)
   | cons xL11 restL11 =>
    rw [F_plot_Of_L11.eq_2] at H
    refine Tr.sr ?_
    refine Tr.v2 rfl run_lss rfl rfl ?_
    refine Tr.nil (Tr.normThen ?_)
    refine Tr.seq ?_
    refine Tr.condT rfl (range_on hdL11) ?_
    refine Tr.skip (Tr.normThen ?_)
    refine Tr.seq ?_
    refine Tr.block ?_
    refine Tr.sr ?_
    refine Tr.mv rfl rfl ?_
    refine Tr.va rfl (fun _ _ h1 h2 => run_indexAddr el_43 (h1.ev rfl) hoku226_0.form (h1.ev rfl) (Int.natCast_nonneg _) (range_lt hdL11)) ?_
    refine Tr.va rfl (fun _ _ h1 h2 => run_loadN (cs := [(iv xL11.X), (iv xL11.Y)]) ag_47 sz_47 (h1.ev rfl) (CellsAt.take (rdF ef_TPoint (hoku226_0.rl) (range_at hdL11) h2) 2) rfl) ?_
    refine Tr.alloc 50 (wn rfl) rfl ze_47 fun b247 => ?_
    refine Tr.asg rfl rfl ?_
    refine Tr.store 50 (cs := [(iv xL11.X), (iv xL11.Y)]) [(iv xL11.X), (iv xL11.Y)] (wn rfl) rfl rfl rfl rfl sz_47 rfl rfl rfl ?_
    refine Tr.nil (Tr.normThen ?_)
    refine Tr.sr ?_
    refine Tr.mv rfl rfl ?_
    refine Tr.mv rfl rfl ?_
    refine Tr.v2 rfl run_add rfl rfl ?_
    refine Tr.mv rfl rfl ?_
    refine Tr.v1 rfl (run_len un_43) rfl ?_
    obtain ⟨q248, hq248, H⟩ := bnd H
    refine Tr.va rfl (fun _ _ h1 h2 => run_md (h1.ev rfl) (h1.ev rfl) hq248) ?_
    obtain ⟨x249, hx249, H⟩ := bnd H
    obtain ⟨hx2490, hx2491, hx2492⟩ := idx_some hx249
    refine Tr.va rfl (fun _ _ h1 h2 => run_indexAddr el_43 (h1.ev rfl) hoku226_0.form (h1.ev rfl) hx2490 hx2491) ?_
    refine Tr.va rfl (fun _ _ h1 h2 => run_loadN (cs := [(iv x249.X), (iv x249.Y)]) ag_47 sz_47 (h1.ev rfl) (CellsAt.take (rdF ef_TPoint (hoku226_0.rl) hx2492 h2) 2) rfl) ?_
    refine Tr.alloc 51 (wn rfl) rfl ze_47 fun b250 => ?_
    refine Tr.store 51 (cs := [(iv x249.X), (iv x249.Y)]) [(iv x249.X), (iv x249.Y)] (wn rfl) rfl rfl rfl rfl sz_47 rfl rfl rfl ?_
    refine Tr.nil (Tr.normThen ?_)
    refine Tr.region ?_
    refine Tr.v1 rfl (run_fieldAddr fo_45_1) rfl ?_
    refine Tr.va rfl (fun _ _ h1 h2 => run_load1 ag_3 (h1.ev rfl) (rdb h2 (vs := [(.slice Au226_0 (xL3).length cu226_0), (iv x244)]) (k := 44) rfl 1) rfl) ?_
    refine Tr.v1 rfl (run_fieldAddr fo_47_0) rfl ?_
    refine Tr.va rfl (fun _ _ h1 h2 => run_load1 ag_3 (h1.ev rfl) (rdb h2 (vs := [(iv xL11.X), (iv xL11.Y)]) (k := 50) rfl 0) rfl) ?_
    refine Tr.v1 rfl (run_fieldAddr fo_47_1) rfl ?_
    refine Tr.va rfl (fun _ _ h1 h2 => run_load1 ag_3 (h1.ev rfl) (rdb h2 (vs := [(iv x249.X), (iv x249.Y)]) (k := 51) rfl 1) rfl) ?_
    refine Tr.v2 rfl run_mul rfl rfl ?_
    refine Tr.v1 rfl (run_fieldAddr fo_47_0) rfl ?_
    refine Tr.va rfl (fun _ _ h1 h2 => run_load1 ag_3 (h1.ev rfl) (rdb h2 (vs := [(iv x249.X), (iv x249.Y)]) (k := 51) rfl 0) rfl) ?_
    refine Tr.v1 rfl (run_fieldAddr fo_47_1) rfl ?_
    refine Tr.va rfl (fun _ _ h1 h2 => run_load1 ag_3 (h1.ev rfl) (rdb h2 (vs := [(iv xL11.X), (iv xL11.Y)]) (k := 50) rfl 1) rfl) ?_
    refine Tr.v2 rfl run_mul rfl rfl ?_
    refine Tr.v2 rfl run_sub rfl rfl ?_
    refine Tr.v2 rfl run_add rfl rfl ?_
    refine Tr.v1 rfl (run_fieldAddr fo_45_1) rfl ?_
    refine Tr.store 44 (cs := [(iv (w64 (x244 + (w64 ((w64 (xL11.X * x249.Y)) - (w64 (x249.X * xL11.Y)))))))]) [(.slice Au226_0 (xL3).length cu226_0), (iv (w64 (x244 + (w64 ((w64 (xL11.X * x249.Y)) - (w64 (x249.X * xL11.Y)))))))] (wn rfl) rfl rfl rfl rfl sz_3 rfl rfl rfl ?_
    refine Tr.nil (Tr.normBlock (Tr.normThen ?_))
    refine Tr.region ?_
    refine Tr.v2 rfl run_add rfl rfl ?_
    refine Tr.mv rfl rfl ?_
    refine Tr.nil ?_
    exact Tr.backThen leL11 (restL11, (iL11 + 1), (w64 (x244 + (w64 ((w64 (xL11.X * x249.Y)) - (w64 (x249.X * xL11.Y))))))) ⟨rfl, range_tl hdL11, range_lt hdL11, H⟩ (.cons rfl (.cons rfl (.cons rfl (.cons rfl (.cons rfl (.cons rfl (.cons rfl (.cons rfl (.cons rfl (.cons (congrArg (fun z => some (Value.int .i64 z)) (range_up hdL11 hoku226_0.form)) .nil)))))))))) (.r rfl)

theorem F_etchhouseref1_within_ok {w : Bs} (p0 : Int) (p1 : Int) (p2 : Int) (r : Bool) (H : F_etchhouseref1_within p0 p1 p2 = some r) (hE : HF w w.W E0) : Calls Tryz.prog 171 [(iv p0), (iv p1), (iv p2)].toArray w.W fun e W' => e = .returned (.bool r) ∧ HF w W' E0 := by
 unfold F_etchhouseref1_within at H
 have leB := Bs.Le.refl w
 refine Tr.enter (n := 15) Tryz.func171 rfl rfl rfl hE ?_
 refine Tr.sr ?_
 refine Tr.asg rfl rfl ?_
 refine Tr.nil (Tr.normThen ?_)
 refine Tr.sr ?_
 refine Tr.mv rfl rfl ?_
 refine Tr.mv rfl rfl ?_
 refine Tr.v2 rfl run_geq rfl rfl ?_
 refine Tr.mv rfl rfl ?_
 refine Tr.mid0 4 [(14, (.bool ((decide (p1 ≤ p0)) && (decide (p0 ≤ p2)))))] [] ?_ ?_
 ·cases hg99 : (decide (p1 ≤ p0))
  ·refine Tr.ps ?_
   refine Tr.ps ?_
   refine Tr.ps ?_
   refine Tr.v2 rfl run_pickF rfl rfl ?_
   exact Tr.nil (Tr.fin0 (.r rfl) .nil)
  ·refine Tr.w1 (wg rfl rfl rfl) rfl run_move rfl ?_
   refine Tr.w1 (wg rfl rfl rfl) rfl run_move rfl ?_
   refine Tr.w2 (wg rfl rfl rfl) rfl run_leq rfl rfl ?_
   refine Tr.v2 rfl run_pickT rfl rfl ?_
   exact Tr.nil (Tr.fin0 (.r rfl) .nil)
 ·show Tr _ _ (LF [(14, (.bool ((decide (p1 ≤ p0)) && (decide (p0 ≤ p2)))))]) (LE []) _
  refine Tr.asg rfl rfl ?_
  refine Tr.nil (Tr.normThen ?_)
  refine Tr.ret ?_
  obtain rfl := Option.some.inj H
  exact Tr.out (m := [(.bool ((decide (p1 ≤ p0)) && (decide (p0 ≤ p2))))]) [] (res_tmp rfl res_nil) (fun W hW => ⟨rfl, hW.low leB⟩)

theorem F_etchhouseref1_At_ok {w : Bs} (p0 : Int) (r : Bool) (H : F_etchhouseref1_At p0 = some r) (hE : HF w w.W E0) : Calls Tryz.prog 120 [(iv p0)].toArray w.W fun e W' => e = .returned (.bool r) ∧ HF w W' E0 := by
 unfold F_etchhouseref1_At at H
 have leB := Bs.Le.refl w
 refine Tr.enter (n := 5) Tryz.func120 rfl rfl rfl hE ?_
 refine Tr.sr ?_
 refine Tr.asg rfl rfl ?_
 refine Tr.nil (Tr.normThen ?_)
 refine Tr.sr ?_
 refine Tr.mv rfl rfl ?_
 obtain ⟨y100, hy100, H⟩ := bnd H
 refine Tr.call0 (r := (.bool y100)) (wn rfl) rfl Tryz.call171 (evl_cons rfl (evl_cons rfl (evl_cons rfl evl_nil))) (fun W hW => F_etchhouseref1_within_ok p0 (-1000000) 1000000 y100 hy100 (HF.start _)) ?_
 refine Tr.asg rfl rfl ?_
 refine Tr.nil (Tr.normThen ?_)
 refine Tr.ret ?_
 obtain rfl := Option.some.inj H
 exact Tr.out (m := [(.bool y100)]) [] (res_tmp rfl res_nil) (fun W hW => ⟨rfl, hW.low leB⟩)

theorem F_etchhouseref1_CheckRects_ok (N : Nat) {w : Bs} (p0 : (List TRect)) (Ap0_0 : Option Addr) (cp0_0 : Nat) (hp0_0 : Sl w.R w.W fl_TRect Ap0_0 cp0_0 p0) (r : Int) (H : F_etchhouseref1_CheckRects N p0 = some r) (hE : HF w w.W E0) : Calls Tryz.prog 79 [(.slice Ap0_0 (p0).length cp0_0)].toArray w.W fun e W' => e = .returned (iv r) ∧ HF w W' E0 := by
 unfold F_etchhouseref1_CheckRects at H
 have leB := Bs.Le.refl w
 refine Tr.enter (n := 52) Tryz.func79 rfl rfl rfl hE ?_
 refine Tr.sr ?_
 refine Tr.asg rfl rfl ?_
 refine Tr.nil (Tr.normThen ?_)
 refine Tr.seq ?_
 refine Tr.sr ?_
 refine Tr.mv rfl rfl ?_
 refine Tr.v1 rfl (run_len un_22) rfl ?_
 refine Tr.v2 rfl run_gtr rfl rfl ?_
 refine Tr.nil (Tr.normThen ?_)
 refine Tr.cond rfl H (fun H => ?_) (fun H => ?_)
 ·refine Tr.sr ?_
  refine Tr.asg rfl rfl ?_
  refine Tr.nil (Tr.normThen ?_)
  refine Tr.ret (Tr.retThen ?_)
  obtain rfl := Option.some.inj H
  exact Tr.out (m := [(iv 2)]) [] (res_tmp rfl res_nil) (fun W hW => ⟨rfl, hW.low leB⟩)
 ·refine Tr.skip (Tr.normThen ?_)
  refine Tr.seq ?_
  refine Tr.sr ?_
  refine Tr.asg rfl rfl ?_
  refine Tr.nil (Tr.normThen ?_)
  refine Tr.block ?_
  refine Tr.loop (σ := Int) (fun m w s => F_etchhouseref1_CheckRects_L1 p0 m s = some r) (fun s => [(0, (.slice Ap0_0 (p0).length cp0_0)), (3, (iv s))]) (fun s => []) N 0 H (.r rfl) .nil (fun _ _ h => noSome (h)) ?_
  intro w leL1 mL1 x127 hs
  have H := hs
  replace H : F_etchhouseref1_CheckRects_L1 p0 (mL1 + 1) x127 = some r := H
  replace hp0_0 := hp0_0.leR leL1
  replace leB := leB.trans leL1
  rw [F_etchhouseref1_CheckRects_L1.eq_2] at H
  show Tr _ _ (LF [(0, (.slice Ap0_0 (p0).length cp0_0)), (3, (iv x127))]) (LE []) _
  refine Tr.seq ?_
  refine Tr.sr ?_
  refine Tr.mv rfl rfl ?_
  refine Tr.mv rfl rfl ?_
  refine Tr.v1 rfl (run_len un_22) rfl ?_
  refine Tr.v2 rfl run_lss rfl rfl ?_
  refine Tr.nil (Tr.normThen ?_)
  refine Tr.cond rfl H (fun H => ?_) (fun H => ?_)
  ·refine Tr.skip (Tr.normThen ?_)
   refine Tr.seq ?_
   refine Tr.block ?_
   refine Tr.sr ?_
   refine Tr.mv rfl rfl ?_
   refine Tr.mv rfl rfl ?_
   obtain ⟨x128, hx128, H⟩ := bnd H
   obtain ⟨hx1280, hx1281, hx1282⟩ := idx_some hx128
   refine Tr.va rfl (fun _ _ h1 h2 => run_indexAddr el_22 (h1.ev rfl) hp0_0.form (h1.ev rfl) hx1280 hx1281) ?_
   refine Tr.va rfl (fun _ _ h1 h2 => run_loadN (cs := [(iv x128.X0), (iv x128.Y0), (iv x128.X1), (iv x128.Y1)]) ag_38 sz_38 (h1.ev rfl) (CellsAt.take (rdF ef_TRect hp0_0 hx1282 h2) 4) rfl) ?_
   refine Tr.alloc 3 (wn rfl) rfl ze_38 fun b129 => ?_
   refine Tr.store 3 (cs := [(iv x128.X0), (iv x128.Y0), (iv x128.X1), (iv x128.Y1)]) [(iv x128.X0), (iv x128.Y0), (iv x128.X1), (iv x128.Y1)] (wn rfl) rfl rfl rfl rfl sz_38 rfl rfl rfl ?_
   refine Tr.nil (Tr.normThen ?_)
   refine Tr.seq ?_
   refine Tr.sr ?_
   refine Tr.v1 rfl (run_fieldAddr fo_38_0) rfl ?_
   refine Tr.va rfl (fun _ _ h1 h2 => run_load1 ag_3 (h1.ev rfl) (rdb h2 (vs := [(iv x128.X0), (iv x128.Y0), (iv x128.X1), (iv x128.Y1)]) (k := 3) rfl 0) rfl) ?_
   obtain ⟨y130, hy130, H⟩ := bnd H
   refine Tr.call0 (r := (.bool y130)) (wn rfl) rfl Tryz.call120 (evl_cons rfl evl_nil) (fun W hW => F_etchhouseref1_At_ok x128.X0 y130 hy130 (HF.start _)) ?_
   refine Tr.v1 rfl run_not rfl ?_
   refine Tr.mv rfl rfl ?_
   obtain ⟨g132, hg132, H⟩ := bnd H
   refine Tr.mid0 5 [(0, (.slice Ap0_0 (p0).length cp0_0)), (3, (iv x127)), (4, (.pointer (some ⟨b129, 0, none⟩))), (27, (.bool g132))] [(3, bx b129 #[(iv x128.X0), (iv x128.Y0), (iv x128.X1), (iv x128.Y1)] 38)] ?_ ?_
   ·cases hg139 : (!y130)
    ·rw [hg139] at hg132
     rw [if_neg (by decide)] at hg132
     have H := hg132
     refine Tr.w1 (wg rfl rfl rfl) rfl (run_fieldAddr fo_38_1) rfl ?_
     refine Tr.val (wg rfl rfl rfl) rfl (fun _ _ h1 h2 => run_load1 ag_3 (h1.ev rfl) (rdb h2 (vs := [(iv x128.X0), (iv x128.Y0), (iv x128.X1), (iv x128.Y1)]) (k := 3) rfl 1) rfl) ?_
     obtain ⟨y133, hy133, H⟩ := bnd H
     refine Tr.call0 (r := (.bool y133)) (wg rfl rfl rfl) rfl Tryz.call120 (evl_cons rfl evl_nil) (fun W hW => F_etchhouseref1_At_ok x128.Y0 y133 hy133 (HF.start _)) ?_
     refine Tr.w1 (wg rfl rfl rfl) rfl run_not rfl ?_
     refine Tr.v2 rfl run_pickF rfl rfl ?_
     obtain rfl := Option.some.inj H
     exact Tr.nil (Tr.fin0 (.r rfl) (.r rfl))
    ·rw [hg139] at hg132
     rw [if_pos rfl] at hg132
     have H := hg132
     obtain rfl := Option.some.inj H
     refine Tr.ps ?_
     refine Tr.ps ?_
     refine Tr.ps ?_
     refine Tr.ps ?_
     refine Tr.v2 rfl run_pickT rfl rfl ?_
     exact Tr.nil (Tr.fin0 (.r rfl) (.r rfl))
   ·show Tr _ _ (LF [(0, (.slice Ap0_0 (p0).length cp0_0)), (3, (iv x127)), (4, (.pointer (some ⟨b129, 0, none⟩))), (27, (.bool g132))]) (LE [(3, bx b129 #[(iv x128.X0), (iv x128.Y0), (iv x128.X1), (iv x128.Y1)] 38)]) _
    refine Tr.mv rfl rfl ?_
    obtain ⟨g135, hg135, H⟩ := bnd H
    refine Tr.mid0 5 [(0, (.slice Ap0_0 (p0).length cp0_0)), (3, (iv x127)), (4, (.pointer (some ⟨b129, 0, none⟩))), (33, (.bool g135))] [(3, bx b129 #[(iv x128.X0), (iv x128.Y0), (iv x128.X1), (iv x128.Y1)] 38)] ?_ ?_
    ·cases hg139 : g132
     ·rw [hg139] at hg135
      rw [if_neg (by decide)] at hg135
      have H := hg135
      refine Tr.w1 (wg rfl rfl rfl) rfl (run_fieldAddr fo_38_2) rfl ?_
      refine Tr.val (wg rfl rfl rfl) rfl (fun _ _ h1 h2 => run_load1 ag_3 (h1.ev rfl) (rdb h2 (vs := [(iv x128.X0), (iv x128.Y0), (iv x128.X1), (iv x128.Y1)]) (k := 3) rfl 2) rfl) ?_
      obtain ⟨y136, hy136, H⟩ := bnd H
      refine Tr.call0 (r := (.bool y136)) (wg rfl rfl rfl) rfl Tryz.call120 (evl_cons rfl evl_nil) (fun W hW => F_etchhouseref1_At_ok x128.X1 y136 hy136 (HF.start _)) ?_
      refine Tr.w1 (wg rfl rfl rfl) rfl run_not rfl ?_
      refine Tr.v2 rfl run_pickF rfl rfl ?_
      obtain rfl := Option.some.inj H
      exact Tr.nil (Tr.fin0 (.r rfl) (.r rfl))
     ·rw [hg139] at hg135
      rw [if_pos rfl] at hg135
      have H := hg135
      obtain rfl := Option.some.inj H
      refine Tr.ps ?_
      refine Tr.ps ?_
      refine Tr.ps ?_
      refine Tr.ps ?_
      refine Tr.v2 rfl run_pickT rfl rfl ?_
      exact Tr.nil (Tr.fin0 (.r rfl) (.r rfl))
    ·show Tr _ _ (LF [(0, (.slice Ap0_0 (p0).length cp0_0)), (3, (iv x127)), (4, (.pointer (some ⟨b129, 0, none⟩))), (33, (.bool g135))]) (LE [(3, bx b129 #[(iv x128.X0), (iv x128.Y0), (iv x128.X1), (iv x128.Y1)] 38)]) _
     refine Tr.mv rfl rfl ?_
     obtain ⟨g138, hg138, H⟩ := bnd H
     refine Tr.mid0 5 [(0, (.slice Ap0_0 (p0).length cp0_0)), (3, (iv x127)), (4, (.pointer (some ⟨b129, 0, none⟩))), (39, (.bool g138))] [(3, bx b129 #[(iv x128.X0), (iv x128.Y0), (iv x128.X1), (iv x128.Y1)] 38)] ?_ ?_
     ·cases hg139 : g135
      ·rw [hg139] at hg138
       rw [if_neg (by decide)] at hg138
       have H := hg138
       refine Tr.w1 (wg rfl rfl rfl) rfl (run_fieldAddr fo_38_3) rfl ?_
       refine Tr.val (wg rfl rfl rfl) rfl (fun _ _ h1 h2 => run_load1 ag_3 (h1.ev rfl) (rdb h2 (vs := [(iv x128.X0), (iv x128.Y0), (iv x128.X1), (iv x128.Y1)]) (k := 3) rfl 3) rfl) ?_
       obtain ⟨y139, hy139, H⟩ := bnd H
       refine Tr.call0 (r := (.bool y139)) (wg rfl rfl rfl) rfl Tryz.call120 (evl_cons rfl evl_nil) (fun W hW => F_etchhouseref1_At_ok x128.Y1 y139 hy139 (HF.start _)) ?_
       refine Tr.w1 (wg rfl rfl rfl) rfl run_not rfl ?_
       refine Tr.v2 rfl run_pickF rfl rfl ?_
       obtain rfl := Option.some.inj H
       exact Tr.nil (Tr.fin0 (.r rfl) (.r rfl))
      ·rw [hg139] at hg138
       rw [if_pos rfl] at hg138
       have H := hg138
       obtain rfl := Option.some.inj H
       refine Tr.ps ?_
       refine Tr.ps ?_
       refine Tr.ps ?_
       refine Tr.ps ?_
       refine Tr.v2 rfl run_pickT rfl rfl ?_
       exact Tr.nil (Tr.fin0 (.r rfl) (.r rfl))
     ·show Tr _ _ (LF [(0, (.slice Ap0_0 (p0).length cp0_0)), (3, (iv x127)), (4, (.pointer (some ⟨b129, 0, none⟩))), (39, (.bool g138))]) (LE [(3, bx b129 #[(iv x128.X0), (iv x128.Y0), (iv x128.X1), (iv x128.Y1)] 38)]) _
      refine Tr.nil (Tr.normThen ?_)
      refine Tr.cond rfl H (fun H => ?_) (fun H => ?_)
      ·refine Tr.sr ?_
       refine Tr.asg rfl rfl ?_
       refine Tr.nil (Tr.normThen ?_)
       refine Tr.ret (Tr.retThen (Tr.retBlock (Tr.retThen (Tr.retThen (Tr.retBlock (Tr.retThen ?_))))))
       obtain rfl := Option.some.inj H
       exact Tr.out (m := [(iv 1)]) [] (res_tmp rfl res_nil) (fun W hW => ⟨rfl, hW.low leB⟩)
      ·refine Tr.skip (Tr.normThen ?_)
       refine Tr.sr ?_
       refine Tr.v1 rfl (run_fieldAddr fo_38_2) rfl ?_
       refine Tr.va rfl (fun _ _ h1 h2 => run_load1 ag_3 (h1.ev rfl) (rdb h2 (vs := [(iv x128.X0), (iv x128.Y0), (iv x128.X1), (iv x128.Y1)]) (k := 3) rfl 2) rfl) ?_
       refine Tr.v1 rfl (run_fieldAddr fo_38_0) rfl ?_
       refine Tr.va rfl (fun _ _ h1 h2 => run_load1 ag_3 (h1.ev rfl) (rdb h2 (vs := [(iv x128.X0), (iv x128.Y0), (iv x128.X1), (iv x128.Y1)]) (k := 3) rfl 0) rfl) ?_
       refine Tr.v2 rfl run_leq rfl rfl ?_
       refine Tr.mv rfl rfl ?_
       refine Tr.mid0 6 [(0, (.slice Ap0_0 (p0).length cp0_0)), (3, (iv x127)), (51, (.bool ((decide (x128.X1 ≤ x128.X0)) || (decide (x128.Y1 ≤ x128.Y0)))))] [(3, bx b129 #[(iv x128.X0), (iv x128.Y0), (iv x128.X1), (iv x128.Y1)] 38)] ?_ ?_
       ·cases hg139 : (decide (x128.X1 ≤ x128.X0))
        ·refine Tr.w1 (wg rfl rfl rfl) rfl (run_fieldAddr fo_38_3) rfl ?_
         refine Tr.val (wg rfl rfl rfl) rfl (fun _ _ h1 h2 => run_load1 ag_3 (h1.ev rfl) (rdb h2 (vs := [(iv x128.X0), (iv x128.Y0), (iv x128.X1), (iv x128.Y1)]) (k := 3) rfl 3) rfl) ?_
         refine Tr.w1 (wg rfl rfl rfl) rfl (run_fieldAddr fo_38_1) rfl ?_
         refine Tr.val (wg rfl rfl rfl) rfl (fun _ _ h1 h2 => run_load1 ag_3 (h1.ev rfl) (rdb h2 (vs := [(iv x128.X0), (iv x128.Y0), (iv x128.X1), (iv x128.Y1)]) (k := 3) rfl 1) rfl) ?_
         refine Tr.w2 (wg rfl rfl rfl) rfl run_leq rfl rfl ?_
         refine Tr.v2 rfl run_pickF rfl rfl ?_
         exact Tr.nil (Tr.fin0 (.r rfl) (.r rfl))
        ·refine Tr.ps ?_
         refine Tr.ps ?_
         refine Tr.ps ?_
         refine Tr.ps ?_
         refine Tr.ps ?_
         refine Tr.v2 rfl run_pickT rfl rfl ?_
         exact Tr.nil (Tr.fin0 (.r rfl) (.r rfl))
       ·show Tr _ _ (LF [(0, (.slice Ap0_0 (p0).length cp0_0)), (3, (iv x127)), (51, (.bool ((decide (x128.X1 ≤ x128.X0)) || (decide (x128.Y1 ≤ x128.Y0)))))]) (LE [(3, bx b129 #[(iv x128.X0), (iv x128.Y0), (iv x128.X1), (iv x128.Y1)] 38)]) _
        refine Tr.nil (Tr.normThen ?_)
        refine Tr.cond rfl H (fun H => ?_) (fun H => ?_)
        ·refine Tr.sr ?_
         refine Tr.asg rfl rfl ?_
         refine Tr.nil (Tr.normThen ?_)
         refine Tr.ret (Tr.retBlock (Tr.retThen (Tr.retThen (Tr.retBlock (Tr.retThen ?_)))))
         obtain rfl := Option.some.inj H
         exact Tr.out (m := [(iv 13)]) [] (res_tmp rfl res_nil) (fun W hW => ⟨rfl, hW.low leB⟩)
        ·refine Tr.skip (Tr.normBlock (Tr.normThen ?_))
         refine Tr.region ?_
         refine Tr.mv rfl rfl ?_
         refine Tr.v2 rfl run_add rfl rfl ?_
         refine Tr.asg rfl rfl ?_
         refine Tr.nil ?_
         exact Tr.backThen leL1 (w64 (x127 + 1)) H (.r rfl) .nil
  ·refine Tr.exit (Tr.exitThen (Tr.exitThen (Tr.exitBlock (Tr.normThen ?_))))
   refine Tr.sr ?_
   refine Tr.asg rfl rfl ?_
   refine Tr.nil (Tr.normThen ?_)
   refine Tr.ret ?_
   obtain rfl := Option.some.inj H
   exact Tr.out (m := [(iv 0)]) [] (res_tmp rfl res_nil) (fun W hW => ⟨rfl, hW.low leB⟩)

theorem F_etchhouseref1_before_ok {w : Bs} (p0 : TRect) (p1 : TRect) (r : Bool) (H : F_etchhouseref1_before p0 p1 = some r) (hE : HF w w.W E0) : Calls Tryz.prog 80 [(.agg #[(iv p0.X0), (iv p0.Y0), (iv p0.X1), (iv p0.Y1)]), (.agg #[(iv p1.X0), (iv p1.Y0), (iv p1.X1), (iv p1.Y1)])].toArray w.W fun e W' => e = .returned (.bool r) ∧ HF w W' E0 := by
 unfold F_etchhouseref1_before at H
 have leB := Bs.Le.refl w
 refine Tr.enter (n := 24) Tryz.func80 rfl rfl rfl hE ?_
 refine Tr.sr ?_
 refine Tr.box 1 (cs := [(iv p0.X0), (iv p0.Y0), (iv p0.X1), (iv p0.Y1)]) (wn rfl) rfl rfl rfl fun b100 => ?_
 refine Tr.box 2 (cs := [(iv p1.X0), (iv p1.Y0), (iv p1.X1), (iv p1.Y1)]) (wn rfl) rfl rfl rfl fun b101 => ?_
 refine Tr.asg rfl rfl ?_
 refine Tr.nil (Tr.normThen ?_)
 refine Tr.sr ?_
 refine Tr.v1 rfl (run_fieldAddr fo_38_1) rfl ?_
 refine Tr.va rfl (fun _ _ h1 h2 => run_load1 ag_3 (h1.ev rfl) (rdb h2 (vs := [(iv p0.X0), (iv p0.Y0), (iv p0.X1), (iv p0.Y1)]) (k := 1) rfl 1) rfl) ?_
 refine Tr.v1 rfl (run_fieldAddr fo_38_1) rfl ?_
 refine Tr.va rfl (fun _ _ h1 h2 => run_load1 ag_3 (h1.ev rfl) (rdb h2 (vs := [(iv p1.X0), (iv p1.Y0), (iv p1.X1), (iv p1.Y1)]) (k := 2) rfl 1) rfl) ?_
 refine Tr.v2 rfl run_lss rfl rfl ?_
 refine Tr.mv rfl rfl ?_
 refine Tr.mid0 13 [(23, (.bool ((decide (p0.Y0 < p1.Y0)) || ((p0.Y0 == p1.Y0) && (decide (p0.X0 < p1.X0))))))] [(1, bx b100 #[(iv p0.X0), (iv p0.Y0), (iv p0.X1), (iv p0.Y1)] 38), (2, bx b101 #[(iv p1.X0), (iv p1.Y0), (iv p1.X1), (iv p1.Y1)] 38)] ?_ ?_
 ·cases hg101 : (decide (p0.Y0 < p1.Y0))
  ·refine Tr.w1 (wg rfl rfl rfl) rfl (run_fieldAddr fo_38_1) rfl ?_
   refine Tr.val (wg rfl rfl rfl) rfl (fun _ _ h1 h2 => run_load1 ag_3 (h1.ev rfl) (rdb h2 (vs := [(iv p0.X0), (iv p0.Y0), (iv p0.X1), (iv p0.Y1)]) (k := 1) rfl 1) rfl) ?_
   refine Tr.w1 (wg rfl rfl rfl) rfl (run_fieldAddr fo_38_1) rfl ?_
   refine Tr.val (wg rfl rfl rfl) rfl (fun _ _ h1 h2 => run_load1 ag_3 (h1.ev rfl) (rdb h2 (vs := [(iv p1.X0), (iv p1.Y0), (iv p1.X1), (iv p1.Y1)]) (k := 2) rfl 1) rfl) ?_
   refine Tr.w2 (wg rfl rfl rfl) rfl run_eql rfl rfl ?_
   refine Tr.w1 (wg rfl rfl rfl) rfl run_move rfl ?_
   refine Tr.mid0 6 [(10, (.bool false)), (22, (.bool ((p0.Y0 == p1.Y0) && (decide (p0.X0 < p1.X0)))))] [(1, bx b100 #[(iv p0.X0), (iv p0.Y0), (iv p0.X1), (iv p0.Y1)] 38), (2, bx b101 #[(iv p1.X0), (iv p1.Y0), (iv p1.X1), (iv p1.Y1)] 38)] ?_ ?_
   ·cases hg101 : (p0.Y0 == p1.Y0)
    ·refine Tr.ps ?_
     refine Tr.ps ?_
     refine Tr.ps ?_
     refine Tr.ps ?_
     refine Tr.ps ?_
     refine Tr.w2 (wg rfl rfl rfl) rfl run_pickF rfl rfl ?_
     exact Tr.nil (Tr.fin0 (.r rfl) (.r rfl))
    ·refine Tr.w1 (wg rfl rfl rfl) rfl (run_fieldAddr fo_38_0) rfl ?_
     refine Tr.val (wg rfl rfl rfl) rfl (fun _ _ h1 h2 => run_load1 ag_3 (h1.ev rfl) (rdb h2 (vs := [(iv p0.X0), (iv p0.Y0), (iv p0.X1), (iv p0.Y1)]) (k := 1) rfl 0) rfl) ?_
     refine Tr.w1 (wg rfl rfl rfl) rfl (run_fieldAddr fo_38_0) rfl ?_
     refine Tr.val (wg rfl rfl rfl) rfl (fun _ _ h1 h2 => run_load1 ag_3 (h1.ev rfl) (rdb h2 (vs := [(iv p1.X0), (iv p1.Y0), (iv p1.X1), (iv p1.Y1)]) (k := 2) rfl 0) rfl) ?_
     refine Tr.w2 (wg rfl rfl rfl) rfl run_lss rfl rfl ?_
     refine Tr.w2 (wg rfl rfl rfl) rfl run_pickT rfl rfl ?_
     exact Tr.nil (Tr.fin0 (.r rfl) (.r rfl))
   ·show Tr _ _ (LF [(10, (.bool false)), (22, (.bool ((p0.Y0 == p1.Y0) && (decide (p0.X0 < p1.X0)))))]) (LE [(1, bx b100 #[(iv p0.X0), (iv p0.Y0), (iv p0.X1), (iv p0.Y1)] 38), (2, bx b101 #[(iv p1.X0), (iv p1.Y0), (iv p1.X1), (iv p1.Y1)] 38)]) _
    refine Tr.v2 rfl run_pickF rfl rfl ?_
    exact Tr.nil (Tr.fin0 (.r rfl) (.r rfl))
  ·refine Tr.ps ?_
   refine Tr.ps ?_
   refine Tr.ps ?_
   refine Tr.ps ?_
   refine Tr.ps ?_
   refine Tr.ps ?_
   refine Tr.pu ?_
   refine Tr.pu ?_
   refine Tr.pu ?_
   refine Tr.pu ?_
   refine Tr.pu ?_
   refine Tr.ps ?_
   refine Tr.v2 rfl run_pickT rfl rfl ?_
   exact Tr.nil (Tr.fin0 (.r rfl) (.r rfl))
 ·show Tr _ _ (LF [(23, (.bool ((decide (p0.Y0 < p1.Y0)) || ((p0.Y0 == p1.Y0) && (decide (p0.X0 < p1.X0))))))]) (LE [(1, bx b100 #[(iv p0.X0), (iv p0.Y0), (iv p0.X1), (iv p0.Y1)] 38), (2, bx b101 #[(iv p1.X0), (iv p1.Y0), (iv p1.X1), (iv p1.Y1)] 38)]) _
  refine Tr.asg rfl rfl ?_
  refine Tr.nil (Tr.normThen ?_)
  refine Tr.ret ?_
  obtain rfl := Option.some.inj H
  exact Tr.out (m := [(.bool ((decide (p0.Y0 < p1.Y0)) || ((p0.Y0 == p1.Y0) && (decide (p0.X0 < p1.X0)))))]) [] (res_tmp rfl res_nil) (fun W hW => ⟨rfl, hW.low leB⟩)

theorem F_etchhouseref1_put_ok (N : Nat) {w : Bs} (p0 : (List Int)) (Ap0_0 : Option Addr) (cp0_0 : Nat) (hp0_0 : Sl w.O w.W fl_i64 Ap0_0 cp0_0 p0) (p1 : Int) (r : (List Int)) (H : F_etchhouseref1_put N p0 p1 = some r) (hE : HF w w.W (LEn [])) : Calls Tryz.prog 172 [(.slice Ap0_0 (p0).length cp0_0), (iv p1)].toArray w.W fun e W' => ∃ (w' : Bs) (u : (Option Addr × Nat)), w.Le w' ∧ e = .returned (.slice u.1 (r).length u.2) ∧ (Sl w'.O w'.W fl_i64 u.1 u.2 r) ∧ HF w' W' (LEn []) := by
 unfold F_etchhouseref1_put at H
 have leB := Bs.Le.refl w
 refine Tr.enter (n := 54) Tryz.func172 rfl rfl rfl hE ?_
 refine Tr.sr ?_
 refine Tr.asg rfl rfl ?_
 refine Tr.nilOwn 1 3 fl_i64 ?_
 show Tr _ _ (uf _ 4 (.slice none (([] : List Int)).length 0)) _ _
 refine Tr.nil (Tr.normThen ?_)
 refine Tr.sr ?_
 refine Tr.mv rfl rfl ?_
 refine Tr.v1 rfl (run_len un_96) rfl ?_
 refine Tr.asg rfl rfl ?_
 refine Tr.asg rfl rfl ?_
 refine Tr.nil (Tr.normThen ?_)
 refine Tr.seq ?_
 refine Tr.block ?_
 refine Tr.loop (σ := Int × Int) (fun m w s => F_etchhouseref1_put_L1 p0 p1 m s.1 s.2 = some r) (fun s => [(0, (.slice Ap0_0 (p0).length cp0_0)), (1, (iv p1)), (5, (iv s.1)), (6, (iv s.2))]) (fun s => []) N (0, (p0.length : Int)) H (.r rfl) .nil (fun _ _ h => noSome (h)) ?_
 intro w leL1 mL1 s hs
 obtain ⟨x108, x109⟩ := s
 have H := hs
 replace H : F_etchhouseref1_put_L1 p0 p1 (mL1 + 1) x108 x109 = some r := H
 replace hp0_0 := hp0_0.le leL1
 replace leB := leB.trans leL1
 rw [F_etchhouseref1_put_L1.eq_2] at H
 show Tr _ _ (LF [(0, (.slice Ap0_0 (p0).length cp0_0)), (1, (iv p1)), (5, (iv x108)), (6, (iv x109))]) (LE []) _
 refine Tr.seq ?_
 refine Tr.sr ?_
 refine Tr.mv rfl rfl ?_
 refine Tr.mv rfl rfl ?_
 refine Tr.v2 rfl run_lss rfl rfl ?_
 refine Tr.nil (Tr.normThen ?_)
 refine Tr.cond rfl H (fun H => ?_) (fun H => ?_)
 ·refine Tr.skip (Tr.normThen ?_)
  refine Tr.block ?_
  refine Tr.sr ?_
  refine Tr.mv rfl rfl ?_
  refine Tr.mv rfl rfl ?_
  refine Tr.v2 rfl run_add rfl rfl ?_
  refine Tr.va rfl (fun _ _ h1 h2 => run_quo (h1.ev rfl) (h1.ev rfl) (by decide)) ?_
  refine Tr.asg rfl rfl ?_
  refine Tr.nil (Tr.normThen ?_)
  refine Tr.sr ?_
  refine Tr.mv rfl rfl ?_
  refine Tr.mv rfl rfl ?_
  obtain ⟨x110, hx110, H⟩ := bnd H
  obtain ⟨hx1100, hx1101, hx1102⟩ := idx_some hx110
  refine Tr.va rfl (fun _ _ h1 h2 => run_indexAddr el_96 (h1.ev rfl) hp0_0.form (h1.ev rfl) hx1100 hx1101) ?_
  refine Tr.va rfl (fun _ _ h1 h2 => run_load1 ag_3 (h1.ev rfl) (rdF ef_i64 (hp0_0.rl) hx1102 h2) rfl) ?_
  refine Tr.mv rfl rfl ?_
  refine Tr.v2 rfl run_lss rfl rfl ?_
  refine Tr.nil (Tr.normThen ?_)
  refine Tr.cond rfl H (fun H => ?_) (fun H => ?_)
  ·refine Tr.region ?_
   refine Tr.mv rfl rfl ?_
   refine Tr.v2 rfl run_add rfl rfl ?_
   refine Tr.asg rfl rfl ?_
   refine Tr.nil (Tr.normBlock ?_)
   exact Tr.backThen leL1 ((w64 ((w64 (Int.tdiv (w64 (x108 + x109)) 2)) + 1)), x109) H (.r rfl) .nil
  ·refine Tr.region ?_
   refine Tr.mv rfl rfl ?_
   refine Tr.asg rfl rfl ?_
   refine Tr.nil (Tr.normBlock ?_)
   exact Tr.backThen leL1 (x108, (w64 (Int.tdiv (w64 (x108 + x109)) 2))) H (.r rfl) .nil
 ·refine Tr.exit (Tr.exitThen (Tr.exitThen (Tr.exitBlock (Tr.normThen ?_))))
  refine Tr.seq ?_
  refine Tr.sr ?_
  refine Tr.mv rfl rfl ?_
  refine Tr.mv rfl rfl ?_
  refine Tr.v1 rfl (run_len un_96) rfl ?_
  refine Tr.v2 rfl run_lss rfl rfl ?_
  refine Tr.mv rfl rfl ?_
  obtain ⟨g112, hg112, H⟩ := bnd H
  refine Tr.mid0 7 [(0, (.slice Ap0_0 (p0).length cp0_0)), (1, (iv p1)), (5, (iv x108)), (38, (.bool g112))] [] ?_ ?_
  ·cases hg121 : (decide (x108 < (p0.length : Int)))
   ·rw [hg121] at hg112
    rw [if_neg (by decide)] at hg112
    have H := hg112
    obtain rfl := Option.some.inj H
    refine Tr.ps ?_
    refine Tr.ps ?_
    refine Tr.ps ?_
    refine Tr.ps ?_
    refine Tr.ps ?_
    refine Tr.ps ?_
    refine Tr.v2 rfl run_pickF rfl rfl ?_
    exact Tr.nil (Tr.fin0 (.r rfl) .nil)
   ·rw [hg121] at hg112
    rw [if_pos rfl] at hg112
    have H := hg112
    refine Tr.w1 (wg rfl rfl rfl) rfl run_move rfl ?_
    refine Tr.w1 (wg rfl rfl rfl) rfl run_move rfl ?_
    obtain ⟨x113, hx113, H⟩ := bnd H
    obtain ⟨hx1130, hx1131, hx1132⟩ := idx_some hx113
    refine Tr.val (wg rfl rfl rfl) rfl (fun _ _ h1 h2 => run_indexAddr el_96 (h1.ev rfl) hp0_0.form (h1.ev rfl) hx1130 hx1131) ?_
    refine Tr.val (wg rfl rfl rfl) rfl (fun _ _ h1 h2 => run_load1 ag_3 (h1.ev rfl) (rdF ef_i64 (hp0_0.rl) hx1132 h2) rfl) ?_
    refine Tr.w1 (wg rfl rfl rfl) rfl run_move rfl ?_
    refine Tr.w2 (wg rfl rfl rfl) rfl run_eql rfl rfl ?_
    refine Tr.v2 rfl run_pickT rfl rfl ?_
    obtain rfl := Option.some.inj H
    exact Tr.nil (Tr.fin0 (.r rfl) .nil)
  ·show Tr _ _ (LF [(0, (.slice Ap0_0 (p0).length cp0_0)), (1, (iv p1)), (5, (iv x108)), (38, (.bool g112))]) (LE []) _
   refine Tr.nil (Tr.normThen ?_)
   refine Tr.cond rfl H (fun H => ?_) (fun H => ?_)
   ·refine Tr.sr ?_
    refine Tr.mv rfl rfl ?_
    refine Tr.asg rfl rfl ?_
    refine Tr.nil (Tr.normThen ?_)
    refine Tr.ret (Tr.retThen ?_)
    obtain rfl := Option.some.inj H
    exact Tr.out (m := [(.slice Ap0_0 (p0).length cp0_0)]) [] (res_tmp rfl res_nil) (fun W hW => ⟨w, (Ap0_0, cp0_0), leB, rfl, hp0_0, hW.pick (ks := []) (by decide) pk_nil⟩)
   ·refine Tr.skip (Tr.normThen ?_)
    refine Tr.sr ?_
    refine Tr.asg rfl rfl ?_
    refine Tr.nilOwn 2 3 fl_i64 ?_
    show Tr _ _ (uf _ 8 (.slice none (([] : List Int)).length 0)) _ _
    refine Tr.nil (Tr.normThen ?_)
    refine Tr.sr ?_
    refine Tr.mv rfl rfl ?_
    refine Tr.mv rfl rfl ?_
    refine Tr.mv rfl rfl ?_
    obtain ⟨l114, hl114, H⟩ := bnd H
    refine Tr.va rfl (fun _ _ h1 h2 => run_pre el_96 (h1.ev rfl) hp0_0.form (h1.ev rfl) hl114) ?_
    obtain ⟨l115, hl115, H⟩ := bnd H
    refine Tr.appendS 2 (t := fl_i64) (l := ([] : List Int)) (l2 := l114) (wn rfl) rfl rfl rfl rfl (apT tr_i64 (fun W hW => (Sl.pre (Sl.inB (hp0_0.rl) hW) hl114))) un_96 sz_3 zl_3 (by decide) by_3 rfl hl115 fun Al115 cl115 hAl115 => ?_
    refine Tr.asg rfl rfl ?_
    refine Tr.nil (Tr.normThen ?_)
    refine Tr.sr ?_
    refine Tr.mv rfl rfl ?_
    refine Tr.mv rfl rfl ?_
    refine Tr.buildSlice 3 (e := 3) (vs := [(0, (iv p1))]) (cs := [(iv p1)]) (wn rfl) rfl (evs_cons rfl evs_nil) (by kernel_rfl) fun b116 => ?_
    obtain ⟨l117, hl117, H⟩ := bnd H
    refine Tr.append 2 (t := fl_i64) (l := l115) (l2 := [p1]) (wn rfl) rfl rfl rfl rfl (fun W hW => ⟨[[(iv p1)]], (.cons ⟨(), trivial, rfl⟩ .nil), rdb hW (vs := [(iv p1)]) (k := 3) rfl 0⟩) un_96 sz_3 zl_3 (by decide) by_3 rfl hl117 fun Al117 cl117 hAl117 => ?_
    refine Tr.asg rfl rfl ?_
    refine Tr.nil (Tr.normThen ?_)
    refine Tr.sr ?_
    refine Tr.mv rfl rfl ?_
    refine Tr.mv rfl rfl ?_
    refine Tr.mv rfl rfl ?_
    obtain ⟨l118, hl118, H⟩ := bnd H
    refine Tr.va rfl (fun _ _ h1 h2 => run_cutL el_96 (h1.ev rfl) hp0_0.form (h1.ev rfl) hl118) ?_
    obtain ⟨l119, hl119, H⟩ := bnd H
    refine Tr.appendS 2 (t := fl_i64) (l := l117) (l2 := l118) (wn rfl) rfl rfl rfl rfl (apT tr_i64 (fun W hW => (Sl.cut (Sl.inB (hp0_0.rl) hW) hl118))) un_96 sz_3 zl_3 (by decide) by_3 rfl hl119 fun Al119 cl119 hAl119 => ?_
    refine Tr.asg rfl rfl ?_
    refine Tr.nil (Tr.normThen ?_)
    refine Tr.ret ?_
    obtain rfl := Option.some.inj H
    refine Tr.freeze 2 rfl fun w le121 hz120 => ?_
    replace hp0_0 := hp0_0.le le121
    replace leB := leB.trans le121
    replace leL1 := leL1.trans le121
    exact Tr.out (m := [(.slice Al119 (l119).length cl119)]) [] (res_tmp rfl res_nil) (fun W hW => ⟨w, (Al119, cl119), leB, rfl, hz120, hW.pick (ks := []) (by decide) pk_nil⟩)

theorem F_etchhouseref1_heights_ok (N : Nat) {w : Bs} (p0 : (List TRect)) (Ap0_0 : Option Addr) (cp0_0 : Nat) (hp0_0 : Sl w.R w.W fl_TRect Ap0_0 cp0_0 p0) (r : (List Int)) (H : F_etchhouseref1_heights N p0 = some r) (hE : HF w w.W (LEn [])) : Calls Tryz.prog 121 [(.slice Ap0_0 (p0).length cp0_0)].toArray w.W fun e W' => ∃ (w' : Bs) (u : (Option Addr × Nat)), w.Le w' ∧ e = .returned (.slice u.1 (r).length u.2) ∧ (Sl w'.O w'.W fl_i64 u.1 u.2 r) ∧ HF w' W' (LEn []) := by
 unfold F_etchhouseref1_heights at H
 have leB := Bs.Le.refl w
 refine Tr.enter (n := 25) Tryz.func121 rfl rfl rfl hE ?_
 refine Tr.sr ?_
 refine Tr.asg rfl rfl ?_
 refine Tr.nilOwn 1 3 fl_i64 ?_
 show Tr _ _ (uf _ 2 (.slice none (([] : List Int)).length 0)) _ _
 refine Tr.nil (Tr.normThen ?_)
 refine Tr.sr ?_
 refine Tr.asg rfl rfl ?_
 refine Tr.nilOwn 2 3 fl_i64 ?_
 show Tr _ _ (uf _ 3 (.slice none (([] : List Int)).length 0)) _ _
 refine Tr.nil (Tr.normThen ?_)
 refine Tr.seq ?_
 refine Tr.sr ?_
 refine Tr.asg rfl rfl ?_
 refine Tr.nil (Tr.normThen ?_)
 refine Tr.block ?_
 refine Tr.freeze 2 rfl fun w le125 hz124 => ?_
 replace hp0_0 := hp0_0.leR le125
 replace leB := leB.trans le125
 refine Tr.loop (σ := (List Int) × Int × (Option Addr) × Nat) (fun m w s => F_etchhouseref1_heights_L1 N p0 m s.1 s.2.1 = some r ∧ Sl w.O w.W fl_i64 s.2.2.1 s.2.2.2 s.1) (fun s => [(0, (.slice Ap0_0 (p0).length cp0_0)), (3, (.slice s.2.2.1 (s.1).length s.2.2.2)), (4, (iv s.2.1))]) (fun s => []) N (([] : List Int), 0, none, 0) ⟨H, hz124⟩ (.r rfl) .nil (fun _ _ h => noSome (h.1)) ?_
 intro w leL1 mL1 s hs
 obtain ⟨l122, x123, Al122, cl122⟩ := s
 obtain ⟨H, hl122⟩ := hs
 replace H : F_etchhouseref1_heights_L1 N p0 (mL1 + 1) l122 x123 = some r := H
 replace hp0_0 := hp0_0.leR leL1
 replace leB := leB.trans leL1
 replace hl122 : Sl w.O w.W fl_i64 Al122 cl122 l122 := hl122
 rw [F_etchhouseref1_heights_L1.eq_2] at H
 show Tr _ _ (LF [(0, (.slice Ap0_0 (p0).length cp0_0)), (3, (.slice Al122 (l122).length cl122)), (4, (iv x123))]) (LE []) _
 refine Tr.seq ?_
 refine Tr.sr ?_
 refine Tr.mv rfl rfl ?_
 refine Tr.mv rfl rfl ?_
 refine Tr.v1 rfl (run_len un_22) rfl ?_
 refine Tr.v2 rfl run_lss rfl rfl ?_
 refine Tr.nil (Tr.normThen ?_)
 refine Tr.cond rfl H (fun H => ?_) (fun H => ?_)
 ·refine Tr.skip (Tr.normThen ?_)
  refine Tr.seq ?_
  refine Tr.block ?_
  refine Tr.drawC 12 [] [] (by kernel_rfl) (by kernel_rfl) fun sz126 hlosz126 hEsz126 => ?_
  refine Dr.quiet 0 [(11, (.slice Al122 (l122).length cl122))] (by kernel_rfl) rfl rfl (by kernel_rfl) ?_ rfl rfl ?_
  ·refine Tq.mv rfl rfl ?_
   exact Tq.fin (.r rfl)
  refine Dr.quiet 1 [(12, (.slice Ap0_0 (p0).length cp0_0))] (by kernel_rfl) rfl rfl (by kernel_rfl) ?_ rfl rfl ?_
  ·refine Tq.mv rfl rfl ?_
   exact Tq.fin (.r rfl)
  refine Dr.quiet 2 [(13, (iv x123))] (by kernel_rfl) rfl rfl (by kernel_rfl) ?_ rfl rfl ?_
  ·refine Tq.mv rfl rfl ?_
   exact Tq.fin (.r rfl)
  obtain ⟨x127, hx127, H⟩ := bnd H
  obtain ⟨hx1270, hx1271, hx1272⟩ := idx_some hx127
  refine Dr.quiet 3 [(14, (.pointer (some ⟨adB Ap0_0, adO Ap0_0 + (x123).toNat * 4, none⟩)))] (by kernel_rfl) rfl rfl (by kernel_rfl) ?_ rfl rfl ?_
  ·refine Tq.va rfl (fun _ _ h1 h2 => run_indexAddr el_22 (h1.ev rfl) hp0_0.form (h1.ev rfl) hx1270 hx1271) ?_
   exact Tq.fin (.r rfl)
  refine Dr.quiet 4 [(15, (.pointer (some ⟨adB Ap0_0, adO Ap0_0 + (x123).toNat * 4 + 1, none⟩)))] (by kernel_rfl) rfl rfl (by kernel_rfl) ?_ rfl rfl ?_
  ·refine Tq.v1 rfl (run_fieldAddr fo_38_1) rfl ?_
   exact Tq.fin (.r rfl)
  refine Dr.quiet 5 [(16, (iv x127.Y0))] (by kernel_rfl) rfl rfl (by kernel_rfl) ?_ rfl rfl ?_
  ·refine Tq.va rfl (fun _ _ h1 h2 => run_load1 ag_3 (h1.ev rfl) (CellsAt.drop (rdF ef_TRect hp0_0 hx1272 h2) 1) rfl) ?_
   exact Tq.fin (.r rfl)
  refine Dr.quiet 7 [(18, (.slice Ap0_0 (p0).length cp0_0))] (by kernel_rfl) rfl rfl (by kernel_rfl) ?_ rfl rfl ?_
  ·refine Tq.mv rfl rfl ?_
   exact Tq.fin (.r rfl)
  refine Dr.quiet 8 [(19, (iv x123))] (by kernel_rfl) rfl rfl (by kernel_rfl) ?_ rfl rfl ?_
  ·refine Tq.mv rfl rfl ?_
   exact Tq.fin (.r rfl)
  obtain ⟨x128, hx128, H⟩ := bnd H
  obtain ⟨hx1280, hx1281, hx1282⟩ := idx_some hx128
  refine Dr.quiet 9 [(20, (.pointer (some ⟨adB Ap0_0, adO Ap0_0 + (x123).toNat * 4, none⟩)))] (by kernel_rfl) rfl rfl (by kernel_rfl) ?_ rfl rfl ?_
  ·refine Tq.va rfl (fun _ _ h1 h2 => run_indexAddr el_22 (h1.ev rfl) hp0_0.form (h1.ev rfl) hx1280 hx1281) ?_
   exact Tq.fin (.r rfl)
  refine Dr.quiet 10 [(21, (.pointer (some ⟨adB Ap0_0, adO Ap0_0 + (x123).toNat * 4 + 3, none⟩)))] (by kernel_rfl) rfl rfl (by kernel_rfl) ?_ rfl rfl ?_
  ·refine Tq.v1 rfl (run_fieldAddr fo_38_3) rfl ?_
   exact Tq.fin (.r rfl)
  refine Dr.quiet 11 [(22, (iv x128.Y1))] (by kernel_rfl) rfl rfl (by kernel_rfl) ?_ rfl rfl ?_
  ·refine Tq.va rfl (fun _ _ h1 h2 => run_load1 ag_3 (h1.ev rfl) (CellsAt.drop (rdF ef_TRect hp0_0 hx1282 h2) 3) rfl) ?_
   exact Tq.fin (.r rfl)
  obtain ⟨y129, hy129, H⟩ := bnd H
  refine Dr.one 6 (by kernel_rfl) ?_
  refine St.callG 6 [] [] (U := (Option Addr × Nat)) (fun u => (.slice u.1 (y129).length u.2)) (fun O W u => Sl O W fl_i64 u.1 u.2 y129) (fun u => []) rfl pk_nil (fun _ => rfl) (insS_no rfl) rfl (wn rfl) rfl Tryz.call172 (evl_cons rfl (evl_cons rfl evl_nil)) (fun W hW hp hE => F_etchhouseref1_put_ok N l122 Al122 cl122 (hl122.extO (hW.extS hp)) x127.Y0 y129 hy129 hE) ?_
  intro w u le130 hu hsy129
  obtain ⟨Ay129_0, cy129_0⟩ := u
  have gy129_0 := hu
  replace hp0_0 := hp0_0.leR le130
  replace hl122 := hl122.le le130
  replace leB := leB.trans le130
  replace leL1 := leL1.trans le130
  have hgy129_0 : Sl w.O w.W fl_i64 Ay129_0 cy129_0 y129 := gy129_0
  show Dr _ _ _ _ _ _ _ _ _ (uf _ 17 (.slice Ay129_0 (y129).length cy129_0)) (_)
  refine Dr.tail (by kernel_rfl) ?_
  obtain ⟨y131, hy131, H⟩ := bnd H
  refine Tr.callG [] [] (U := (Option Addr × Nat)) (fun u => (.slice u.1 (y131).length u.2)) (fun O W u => Sl O W fl_i64 u.1 u.2 y131) (fun u => []) rfl pk_nil (fun _ => rfl) (wn rfl) rfl Tryz.call172 (evl_cons rfl (evl_cons rfl evl_nil)) (fun W hW hp hE => F_etchhouseref1_put_ok N y129 Ay129_0 cy129_0 (hgy129_0.extO (hW.extS hp)) x128.Y1 y131 hy131 hE) ?_
  intro w u le132 hu
  obtain ⟨Ay131_0, cy131_0⟩ := u
  have gy131_0 := hu
  replace hp0_0 := hp0_0.leR le132
  replace hl122 := hl122.le le132
  replace hgy129_0 := hgy129_0.le le132
  replace leB := leB.trans le132
  replace leL1 := leL1.trans le132
  have hgy131_0 : Sl w.O w.W fl_i64 Ay131_0 cy131_0 y131 := gy131_0 --@phi
  show Tr _ _ (uf _ 23 (.slice Ay131_0 (y131).length cy131_0)) (_) _
  refine Tr.asg rfl rfl ?_
  refine Tr.nil (Tr.normBlock (Tr.normThen ?_))
  refine Tr.region ?_
  refine Tr.mv rfl rfl ?_
  refine Tr.v2 rfl run_add rfl rfl ?_
  refine Tr.asg rfl rfl ?_
  refine Tr.nil ?_
  exact Tr.backThen leL1 (y131, (w64 (x123 + 1)), Ay131_0, cy131_0) ⟨H, hgy131_0⟩ (.r rfl) .nil
 ·refine Tr.exit (Tr.exitThen (Tr.exitThen (Tr.exitBlock (Tr.normThen ?_))))
  refine Tr.sr ?_
  refine Tr.mv rfl rfl ?_
  refine Tr.asg rfl rfl ?_
  refine Tr.nil (Tr.normThen ?_)
  refine Tr.ret ?_
  obtain rfl := Option.some.inj H
  exact Tr.out (m := [(.slice Al122 (l122).length cl122)]) [] (res_tmp rfl res_nil) (fun W hW => ⟨w, (Al122, cl122), leB, rfl, hl122, hW.pick (ks := []) (by decide) pk_nil⟩)

theorem F_etchhouseref1_joined_ok (N : Nat) {w : Bs} (p0 : (List TSpan)) (Ap0_0 : Option Addr) (cp0_0 : Nat) (hp0_0 : Sl w.R w.W fl_TSpan Ap0_0 cp0_0 p0) (p1 : TSpan) (r : (List TSpan)) (H : F_etchhouseref1_joined N p0 p1 = some r) (hE : HF w w.W (LEn [emp])) : Calls Tryz.prog 174 [(.slice Ap0_0 (p0).length cp0_0), (.agg #[(iv p1.from_), (iv p1.to_)])].toArray w.W fun e W' => ∃ u : (Option Addr × Nat), e = .returned (.slice u.1 (r).length u.2) ∧ (SlF u.1 (r).length u.2) ∧ HF w W' (LEn [ow u.1 u.2 220 fl_TSpan r]) := by
 unfold F_etchhouseref1_joined at H
 have leB := Bs.Le.refl w
 refine Tr.enter (n := 73) Tryz.func174 rfl rfl rfl hE ?_
 refine Tr.sr ?_
 refine Tr.box 1 (cs := [(iv p1.from_), (iv p1.to_)]) (wn rfl) rfl rfl rfl fun b100 => ?_
 refine Tr.asg rfl rfl ?_
 refine Tr.nilOwn 2 220 fl_TSpan ?_
 show Tr _ _ (uf _ 4 (.slice none (([] : List TSpan)).length 0)) _ _
 refine Tr.nil (Tr.normThen ?_)
 refine Tr.sr ?_
 refine Tr.asg rfl rfl ?_
 refine Tr.nilOwn 3 220 fl_TSpan ?_
 show Tr _ _ (uf _ 5 (.slice none (([] : List TSpan)).length 0)) _ _
 refine Tr.nil (Tr.normThen ?_)
 refine Tr.sr ?_
 refine Tr.asg rfl rfl ?_
 refine Tr.nil (Tr.normThen ?_)
 refine Tr.seq ?_
 refine Tr.block ?_
 refine Tr.loop (σ := (List TSpan) × Int × (Option Addr) × Nat) (fun m w s => F_etchhouseref1_joined_L1 N p0 p1 m s.1 s.2.1 = some r ∧ SlF s.2.2.1 (s.1).length s.2.2.2) (fun s => [(0, (.slice Ap0_0 (p0).length cp0_0)), (3, (.pointer (some ⟨b100, 0, none⟩))), (5, (.slice s.2.2.1 (s.1).length s.2.2.2)), (6, (iv s.2.1))]) (fun s => [(1, bx b100 #[(iv p1.from_), (iv p1.to_)] 220), (3, ow s.2.2.1 s.2.2.2 220 fl_TSpan s.1)]) N (([] : List TSpan), 0, none, 0) ⟨H, slf_nil⟩ (.r rfl) (.r rfl) (fun _ _ h => noSome (h.1)) ?_
 intro w leL1 mL1 s hs
 obtain ⟨l119, x120, Al119, cl119⟩ := s
 obtain ⟨H, hl119⟩ := hs
 replace H : F_etchhouseref1_joined_L1 N p0 p1 (mL1 + 1) l119 x120 = some r := H
 replace hp0_0 := hp0_0.leR leL1
 replace leB := leB.trans leL1
 replace hl119 : SlF Al119 (l119).length cl119 := hl119
 rw [F_etchhouseref1_joined_L1.eq_2] at H
 show Tr _ _ (LF [(0, (.slice Ap0_0 (p0).length cp0_0)), (3, (.pointer (some ⟨b100, 0, none⟩))), (5, (.slice Al119 (l119).length cl119)), (6, (iv x120))]) (LE [(1, bx b100 #[(iv p1.from_), (iv p1.to_)] 220), (3, ow Al119 cl119 220 fl_TSpan l119)]) _
 refine Tr.seq ?_
 refine Tr.seq ?_
 refine Tr.draw (by kernel_rfl) (by kernel_rfl) ?_
 refine Tq.mv rfl rfl ?_
 refine Tq.mv rfl rfl ?_
 refine Tq.v1 rfl (run_len un_170) rfl ?_
 refine Tq.v2 rfl run_lss rfl rfl ?_
 refine Tq.mv rfl rfl ?_
 obtain ⟨g122, hg122, H⟩ := bnd H
 refine Tq.mid 9 [(0, (.slice Ap0_0 (p0).length cp0_0)), (3, (.pointer (some ⟨b100, 0, none⟩))), (5, (.slice Al119 (l119).length cl119)), (6, (iv x120)), (20, (.bool g122))] ?_ ?_
 ·cases hg160 : (decide (x120 < (p0.length : Int)))
  ·rw [hg160] at hg122
   rw [if_neg (by decide)] at hg122
   have H := hg122
   obtain rfl := Option.some.inj H
   refine Tq.ps ?_
   refine Tq.ps ?_
   refine Tq.ps ?_
   refine Tq.ps ?_
   refine Tq.ps ?_
   refine Tq.ps ?_
   refine Tq.ps ?_
   refine Tq.ps ?_
   refine Tq.v2 rfl run_pickF rfl rfl ?_
   exact Tq.fin (.r rfl)
  ·rw [hg160] at hg122
   rw [if_pos rfl] at hg122
   have H := hg122
   refine Tq.w1 (wg rfl rfl rfl) rfl run_move rfl ?_
   refine Tq.w1 (wg rfl rfl rfl) rfl run_move rfl ?_
   obtain ⟨x123, hx123, H⟩ := bnd H
   obtain ⟨hx1230, hx1231, hx1232⟩ := idx_some hx123
   refine Tq.val (wg rfl rfl rfl) rfl (fun _ _ h1 h2 => run_indexAddr el_170 (h1.ev rfl) hp0_0.form (h1.ev rfl) hx1230 hx1231) ?_
   refine Tq.w1 (wg rfl rfl rfl) rfl (run_fieldAddr fo_220_1) rfl ?_
   refine Tq.val (wg rfl rfl rfl) rfl (fun _ _ h1 h2 => run_load1 ag_3 (h1.ev rfl) (CellsAt.drop (rdF ef_TSpan hp0_0 hx1232 h2) 1) rfl) ?_
   refine Tq.w1 (wg rfl rfl rfl) rfl (run_fieldAddr fo_220_0) rfl ?_
   refine Tq.val (wg rfl rfl rfl) rfl (fun _ _ h1 h2 => run_load1 ag_3 (h1.ev rfl) (rdb h2 (vs := [(iv p1.from_), (iv p1.to_)]) (k := 1) rfl 0) rfl) ?_
   refine Tq.w2 (wg rfl rfl rfl) rfl run_lss rfl rfl ?_
   refine Tq.v2 rfl run_pickT rfl rfl ?_
   obtain rfl := Option.some.inj H
   exact Tq.fin (.r rfl)
 ·refine Tq.nil (Tr.normThen ?_)
  refine Tr.cond rfl H (fun H => ?_) (fun H => ?_)
  ·refine Tr.skip (Tr.normThen ?_)
   refine Tr.block ?_
   refine Tr.sr ?_
   refine Tr.mv rfl rfl ?_
   refine Tr.mv rfl rfl ?_
   refine Tr.mv rfl rfl ?_
   obtain ⟨x124, hx124, H⟩ := bnd H
   obtain ⟨hx1240, hx1241, hx1242⟩ := idx_some hx124
   refine Tr.va rfl (fun _ _ h1 h2 => run_indexAddr el_170 (h1.ev rfl) hp0_0.form (h1.ev rfl) hx1240 hx1241) ?_
   refine Tr.va rfl (fun _ _ h1 h2 => run_loadN (cs := [(iv x124.from_), (iv x124.to_)]) ag_220 sz_220 (h1.ev rfl) (CellsAt.take (rdF ef_TSpan hp0_0 hx1242 h2) 2) rfl) ?_
   refine Tr.buildSlice 6 (e := 220) (vs := [(0, (.agg #[(iv x124.from_), (iv x124.to_)]))]) (cs := [(iv x124.from_), (iv x124.to_)]) (wn rfl) rfl (evs_cons rfl evs_nil) (by kernel_rfl) fun b125 => ?_
   obtain ⟨l126, hl126, H⟩ := bnd H
   refine Tr.append 3 (t := fl_TSpan) (l := l119) (l2 := [x124]) (wn rfl) rfl rfl rfl rfl (fun W hW => ⟨[[(iv x124.from_), (iv x124.to_)]], (.cons ⟨(), trivial, rfl⟩ .nil), rdb hW (vs := [(iv x124.from_), (iv x124.to_)]) (k := 6) rfl 0⟩) un_170 sz_220 zl_220 (by decide) by_220 rfl hl126 fun Al126 cl126 hAl126 => ?_
   refine Tr.asg rfl rfl ?_
   refine Tr.nil (Tr.normThen ?_)
   refine Tr.region ?_
   refine Tr.mv rfl rfl ?_
   refine Tr.v2 rfl run_add rfl rfl ?_
   refine Tr.asg rfl rfl ?_
   refine Tr.nil (Tr.normBlock ?_)
   exact Tr.backThen leL1 (l126, (w64 (x120 + 1)), Al126, cl126) ⟨H, hAl126⟩ (.r rfl) (.r rfl)
  ·refine Tr.exit (Tr.exitThen (Tr.exitThen (Tr.exitBlock (Tr.normThen ?_))))
   refine Tr.seq ?_
   refine Tr.block ?_
   refine Tr.loop (σ := Int × Int × Int) (fun m w s => F_etchhouseref1_joined_L2 p0 l119 m s.1 s.2.1 s.2.2 = some r) (fun s => [(0, (.slice Ap0_0 (p0).length cp0_0)), (3, (.pointer (some ⟨b100, 0, none⟩))), (5, (.slice Al119 (l119).length cl119)), (6, (iv s.2.2))]) (fun s => [(1, bx b100 #[(iv s.1), (iv s.2.1)] 220), (3, ow Al119 cl119 220 fl_TSpan l119)]) N (p1.from_, p1.to_, x120) H (.r rfl) (.r rfl) (fun _ _ h => noSome (h)) ?_
   intro w leL2 mL2 s hs
   obtain ⟨x148, x149, x150⟩ := s
   have H := hs
   replace H : F_etchhouseref1_joined_L2 p0 l119 (mL2 + 1) x148 x149 x150 = some r := H
   replace hp0_0 := hp0_0.leR leL2
   replace leB := leB.trans leL2
   replace leL1 := leL1.trans leL2
   rw [F_etchhouseref1_joined_L2.eq_2] at H
   show Tr _ _ (LF [(0, (.slice Ap0_0 (p0).length cp0_0)), (3, (.pointer (some ⟨b100, 0, none⟩))), (5, (.slice Al119 (l119).length cl119)), (6, (iv x150))]) (LE [(1, bx b100 #[(iv x148), (iv x149)] 220), (3, ow Al119 cl119 220 fl_TSpan l119)]) _
   refine Tr.seq ?_
   refine Tr.seq ?_
   refine Tr.draw (by kernel_rfl) (by kernel_rfl) ?_
   refine Tq.mv rfl rfl ?_
   refine Tq.mv rfl rfl ?_
   refine Tq.v1 rfl (run_len un_170) rfl ?_
   refine Tq.v2 rfl run_lss rfl rfl ?_
   refine Tq.mv rfl rfl ?_
   obtain ⟨g152, hg152, H⟩ := bnd H
   refine Tq.mid 9 [(0, (.slice Ap0_0 (p0).length cp0_0)), (3, (.pointer (some ⟨b100, 0, none⟩))), (5, (.slice Al119 (l119).length cl119)), (6, (iv x150)), (43, (.bool g152))] ?_ ?_
   ·cases hg160 : (decide (x150 < (p0.length : Int)))
    ·rw [hg160] at hg152
     rw [if_neg (by decide)] at hg152
     have H := hg152
     obtain rfl := Option.some.inj H
     refine Tq.ps ?_
     refine Tq.ps ?_
     refine Tq.ps ?_
     refine Tq.ps ?_
     refine Tq.ps ?_
     refine Tq.ps ?_
     refine Tq.ps ?_
     refine Tq.ps ?_
     refine Tq.v2 rfl run_pickF rfl rfl ?_
     exact Tq.fin (.r rfl)
    ·rw [hg160] at hg152
     rw [if_pos rfl] at hg152
     have H := hg152
     refine Tq.w1 (wg rfl rfl rfl) rfl run_move rfl ?_
     refine Tq.w1 (wg rfl rfl rfl) rfl run_move rfl ?_
     obtain ⟨x153, hx153, H⟩ := bnd H
     obtain ⟨hx1530, hx1531, hx1532⟩ := idx_some hx153
     refine Tq.val (wg rfl rfl rfl) rfl (fun _ _ h1 h2 => run_indexAddr el_170 (h1.ev rfl) hp0_0.form (h1.ev rfl) hx1530 hx1531) ?_
     refine Tq.w1 (wg rfl rfl rfl) rfl (run_fieldAddr fo_220_0) rfl ?_
     refine Tq.val (wg rfl rfl rfl) rfl (fun _ _ h1 h2 => run_load1 ag_3 (h1.ev rfl) (CellsAt.drop (rdF ef_TSpan hp0_0 hx1532 h2) 0) rfl) ?_
     refine Tq.w1 (wg rfl rfl rfl) rfl (run_fieldAddr fo_220_1) rfl ?_
     refine Tq.val (wg rfl rfl rfl) rfl (fun _ _ h1 h2 => run_load1 ag_3 (h1.ev rfl) (rdb h2 (vs := [(iv x148), (iv x149)]) (k := 1) rfl 1) rfl) ?_
     refine Tq.w2 (wg rfl rfl rfl) rfl run_leq rfl rfl ?_
     refine Tq.v2 rfl run_pickT rfl rfl ?_
     obtain rfl := Option.some.inj H
     exact Tq.fin (.r rfl)
   ·refine Tq.nil (Tr.normThen ?_)
    refine Tr.cond rfl H (fun H => ?_) (fun H => ?_)
    ·refine Tr.skip (Tr.normThen ?_)
     refine Tr.block ?_
     refine Tr.seq ?_
     refine Tr.drawC 18 [(17, fun x => x = b100)] [] (by kernel_rfl) (by kernel_rfl) fun sz154 hlosz154 hEsz154 => ?_
     refine Dr.quiet 0 [(44, (.pointer (some ⟨b100, 0, none⟩)))] (by kernel_rfl) rfl rfl (by kernel_rfl) ?_ rfl rfl ?_
     ·refine Tq.v1 rfl (run_fieldAddr fo_220_0) rfl ?_
      exact Tq.fin (.r rfl)
     refine Dr.quiet 1 [(45, (iv x148))] (by kernel_rfl) rfl rfl (by kernel_rfl) ?_ rfl rfl ?_
     ·refine Tq.va rfl (fun _ _ h1 h2 => run_load1 ag_3 (h1.ev rfl) (rdb h2 (vs := [(iv x148), (iv x149)]) (k := 1) rfl 0) rfl) ?_
      exact Tq.fin (.r rfl)
     refine Dr.quiet 2 [(46, (.slice Ap0_0 (p0).length cp0_0))] (by kernel_rfl) rfl rfl (by kernel_rfl) ?_ rfl rfl ?_
     ·refine Tq.mv rfl rfl ?_
      exact Tq.fin (.r rfl)
     refine Dr.quiet 3 [(47, (iv x150))] (by kernel_rfl) rfl rfl (by kernel_rfl) ?_ rfl rfl ?_
     ·refine Tq.mv rfl rfl ?_
      exact Tq.fin (.r rfl)
     obtain ⟨x155, hx155, H⟩ := bnd H
     obtain ⟨hx1550, hx1551, hx1552⟩ := idx_some hx155
     refine Dr.quiet 4 [(48, (.pointer (some ⟨adB Ap0_0, adO Ap0_0 + (x150).toNat * 2, none⟩)))] (by kernel_rfl) rfl rfl (by kernel_rfl) ?_ rfl rfl ?_
     ·refine Tq.va rfl (fun _ _ h1 h2 => run_indexAddr el_170 (h1.ev rfl) hp0_0.form (h1.ev rfl) hx1550 hx1551) ?_
      exact Tq.fin (.r rfl)
     refine Dr.quiet 5 [(49, (.pointer (some ⟨adB Ap0_0, adO Ap0_0 + (x150).toNat * 2 + 0, none⟩)))] (by kernel_rfl) rfl rfl (by kernel_rfl) ?_ rfl rfl ?_
     ·refine Tq.v1 rfl (run_fieldAddr fo_220_0) rfl ?_
      exact Tq.fin (.r rfl)
     refine Dr.quiet 6 [(50, (iv x155.from_))] (by kernel_rfl) rfl rfl (by kernel_rfl) ?_ rfl rfl ?_
     ·refine Tq.va rfl (fun _ _ h1 h2 => run_load1 ag_3 (h1.ev rfl) (CellsAt.drop (rdF ef_TSpan hp0_0 hx1552 h2) 0) rfl) ?_
      exact Tq.fin (.r rfl)
     refine Dr.quiet 7 [(51, (iv (min x148 x155.from_)))] (by kernel_rfl) rfl rfl (by kernel_rfl) ?_ rfl rfl ?_
     ·refine Tq.va rfl (fun _ _ h1 h2 => run_min (h1.ev rfl) (h1.ev rfl) _) ?_
      exact Tq.fin (.r rfl)
     refine Dr.quiet 8 [(52, (.pointer (some ⟨b100, 1, none⟩)))] (by kernel_rfl) rfl rfl (by kernel_rfl) ?_ rfl rfl ?_
     ·refine Tq.v1 rfl (run_fieldAddr fo_220_1) rfl ?_
      exact Tq.fin (.r rfl)
     refine Dr.quiet 9 [(53, (iv x149))] (by kernel_rfl) rfl rfl (by kernel_rfl) ?_ rfl rfl ?_
     ·refine Tq.va rfl (fun _ _ h1 h2 => run_load1 ag_3 (h1.ev rfl) (rdb h2 (vs := [(iv x148), (iv x149)]) (k := 1) rfl 1) rfl) ?_
      exact Tq.fin (.r rfl)
     refine Dr.quietP 10 (by kernel_rfl) rfl (wn rfl) rfl (by kernel_rfl) (fun _ _ h1 => run_move (h1.ev rfl)) rfl ?_
     refine Dr.quietP 11 (by kernel_rfl) rfl (wn rfl) rfl (by kernel_rfl) (fun _ _ h1 => run_move (h1.ev rfl)) rfl ?_
     obtain ⟨x156, hx156, H⟩ := bnd H
     obtain ⟨hx1560, hx1561, hx1562⟩ := idx_some hx156
     refine Dr.quietP 12 (by kernel_rfl) rfl (wn rfl) rfl (by kernel_rfl) (fun _ _ h1 => run_indexAddr el_170 (h1.ev rfl) hp0_0.form (h1.ev rfl) hx1560 hx1561) rfl ?_
     refine Dr.quietP 13 (by kernel_rfl) rfl (wn rfl) rfl (by kernel_rfl) (fun _ _ h1 => run_fieldAddr fo_220_1 (h1.ev rfl)) rfl ?_
     refine Dr.quietZ 14 [(58, (iv x156.to_))] [17] false (by kernel_rfl) rfl rfl (by kernel_rfl) (fun W W' h2 hsW hk => HF.keepZ (le := []) (ks := [(1, fun x => x = b100)]) (s0 := sz154) false h2 hk (fun h => absurd h (by decide)) .nil (fun b hb => hb.elim (fun ⟨p, hp, hf, hb⟩ => by simp only [List.mem_cons, List.not_mem_nil, or_false] at hp; rcases hp with rfl; exact .inl ⟨_, List.mem_cons_self, hb⟩) (fun hb => absurd hb.1 (by decide))) (List.forall_mem_cons.2 ⟨fun b hb => hb, (fun _ h => nomatch h)⟩) rfl) ?_ rfl rfl ?_
     ·refine Tq.va rfl (fun _ _ h1 h2 => run_load1 ag_3 (h1.ev rfl) (CellsAt.drop (rdF ef_TSpan hp0_0 hx1562 h2) 1) rfl) ?_
      exact Tq.fin (.r rfl)
     refine Dr.quietP 15 (by kernel_rfl) rfl (wn rfl) rfl (by kernel_rfl) (fun _ _ h1 => run_max (h1.ev rfl) (h1.ev rfl) _) rfl ?_
     refine Dr.quiet 16 [(60, (.pointer (some ⟨b100, 0, none⟩)))] (by kernel_rfl) rfl rfl (by kernel_rfl) ?_ rfl rfl ?_
     ·refine Tq.v1 rfl (run_fieldAddr fo_220_0) rfl ?_
      exact Tq.fin (.r rfl)
     refine Dr.one 17 (by kernel_rfl) ?_
     refine St.store 17 1 (cs := [(iv (min x148 x155.from_))]) [(iv (min x148 x155.from_)), (iv x149)] rfl (wn rfl) (.inl ⟨_, List.mem_cons_self, rfl, rfl⟩) rfl rfl rfl rfl sz_3 rfl rfl rfl ?_
     refine Dr.tail (by kernel_rfl) ?_
     refine Tr.v1 rfl (run_fieldAddr fo_220_1) rfl ?_
     refine Tr.store 1 (cs := [(iv (max x149 x156.to_))]) [(iv (min x148 x155.from_)), (iv (max x149 x156.to_))] (wn rfl) rfl rfl rfl rfl sz_3 rfl rfl rfl ?_
     refine Tr.nil (Tr.normThen ?_)
     refine Tr.region ?_
     refine Tr.mv rfl rfl ?_
     refine Tr.v2 rfl run_add rfl rfl ?_
     refine Tr.asg rfl rfl ?_
     refine Tr.nil (Tr.normBlock ?_)
     exact Tr.backThen leL2 ((min x148 x155.from_), (max x149 x156.to_), (w64 (x150 + 1))) H (.r rfl) (.r rfl)
    ·refine Tr.exit (Tr.exitThen (Tr.exitThen (Tr.exitBlock (Tr.normThen ?_))))
     refine Tr.sr ?_
     refine Tr.mv rfl rfl ?_
     refine Tr.va rfl (fun _ _ h1 h2 => run_loadN (cs := [(iv x148), (iv x149)]) ag_220 sz_220 (h1.ev rfl) (CellsAt.take (rdb h2 (vs := [(iv x148), (iv x149)]) (k := 1) rfl 0) 2) rfl) ?_
     refine Tr.buildSlice 7 (e := 220) (vs := [(0, (.agg #[(iv x148), (iv x149)]))]) (cs := [(iv x148), (iv x149)]) (wn rfl) rfl (evs_cons rfl evs_nil) (by kernel_rfl) fun b157 => ?_
     obtain ⟨l158, hl158, H⟩ := bnd H
     refine Tr.append 3 (t := fl_TSpan) (l := l119) (l2 := [(TSpan.mk x148 x149)]) (wn rfl) rfl rfl rfl rfl (fun W hW => ⟨[[(iv x148), (iv x149)]], (.cons ⟨(), trivial, rfl⟩ .nil), rdb hW (vs := [(iv x148), (iv x149)]) (k := 7) rfl 0⟩) un_170 sz_220 zl_220 (by decide) by_220 rfl hl158 fun Al158 cl158 hAl158 => ?_
     refine Tr.asg rfl rfl ?_
     refine Tr.nil (Tr.normThen ?_)
     refine Tr.sr ?_
     refine Tr.mv rfl rfl ?_
     refine Tr.mv rfl rfl ?_
     refine Tr.mv rfl rfl ?_
     obtain ⟨l159, hl159, H⟩ := bnd H
     refine Tr.va rfl (fun _ _ h1 h2 => run_cutL el_170 (h1.ev rfl) hp0_0.form (h1.ev rfl) hl159) ?_
     obtain ⟨l160, hl160, H⟩ := bnd H
     refine Tr.appendS 3 (t := fl_TSpan) (l := l158) (l2 := l159) (wn rfl) rfl rfl rfl rfl (apT tr_TSpan (fun W hW => (Sl.cut (Sl.inB hp0_0 hW) hl159))) un_170 sz_220 zl_220 (by decide) by_220 rfl hl160 fun Al160 cl160 hAl160 => ?_
     refine Tr.asg rfl rfl ?_
     refine Tr.nil (Tr.normThen ?_)
     refine Tr.ret ?_
     obtain rfl := Option.some.inj H
     exact Tr.out (m := [(.slice Al160 (l160).length cl160)]) [] (res_tmp rfl res_nil) (fun W hW => ⟨(Al160, cl160), rfl, hAl160, HF.lowE leB (hW.pick (ks := [3]) (by decide) (pk_cons rfl pk_nil)) ⟨ow_any _ _ _ _ tr_TSpan, trivial⟩⟩)

theorem F_etchhouseref1_row_ok (N : Nat) {w : Bs} (p0 : (List TRect)) (Ap0_0 : Option Addr) (cp0_0 : Nat) (hp0_0 : Sl w.R w.W fl_TRect Ap0_0 cp0_0 p0) (p1 : Int) (r : (List TSpan)) (H : F_etchhouseref1_row N p0 p1 = some r) (hE : HF w w.W (LEn [emp])) : Calls Tryz.prog 123 [(.slice Ap0_0 (p0).length cp0_0), (iv p1)].toArray w.W fun e W' => ∃ u : (Option Addr × Nat), e = .returned (.slice u.1 (r).length u.2) ∧ (SlF u.1 (r).length u.2) ∧ HF w W' (LEn [ow u.1 u.2 220 fl_TSpan r]) := by
 unfold F_etchhouseref1_row at H
 have leB := Bs.Le.refl w
 refine Tr.enter (n := 43) Tryz.func123 rfl rfl rfl hE ?_
 refine Tr.sr ?_
 refine Tr.asg rfl rfl ?_
 refine Tr.nilOwn 1 220 fl_TSpan ?_
 show Tr _ _ (uf _ 4 (.slice none (([] : List TSpan)).length 0)) _ _
 refine Tr.nil (Tr.normThen ?_)
 refine Tr.sr ?_
 refine Tr.asg rfl rfl ?_
 refine Tr.nilOwn 2 220 fl_TSpan ?_
 show Tr _ _ (uf _ 5 (.slice none (([] : List TSpan)).length 0)) _ _
 refine Tr.nil (Tr.normThen ?_)
 refine Tr.seq ?_
 refine Tr.sr ?_
 refine Tr.asg rfl rfl ?_
 refine Tr.nil (Tr.normThen ?_)
 refine Tr.block ?_
 refine Tr.ren 2 8 rfl rfl rfl ?_
 refine Tr.loop (σ := (List TSpan) × Int × (Option Addr) × Nat) (fun m w s => F_etchhouseref1_row_L1 N p0 p1 m s.1 s.2.1 = some r ∧ SlF s.2.2.1 (s.1).length s.2.2.2) (fun s => [(0, (.slice Ap0_0 (p0).length cp0_0)), (1, (iv p1)), (5, (.slice s.2.2.1 (s.1).length s.2.2.2)), (6, (iv s.2.1))]) (fun s => [(8, ow s.2.2.1 s.2.2.2 220 fl_TSpan s.1)]) N (([] : List TSpan), 0, none, 0) ⟨H, slf_nil⟩ (.r rfl) (.r rfl) (fun _ _ h => noSome (h.1)) ?_
 intro w leL1 mL1 s hs
 obtain ⟨l122, x123, Al122, cl122⟩ := s
 obtain ⟨H, hl122⟩ := hs
 replace H : F_etchhouseref1_row_L1 N p0 p1 (mL1 + 1) l122 x123 = some r := H
 replace hp0_0 := hp0_0.leR leL1
 replace leB := leB.trans leL1
 replace hl122 : SlF Al122 (l122).length cl122 := hl122
 rw [F_etchhouseref1_row_L1.eq_2] at H
 show Tr _ _ (LF [(0, (.slice Ap0_0 (p0).length cp0_0)), (1, (iv p1)), (5, (.slice Al122 (l122).length cl122)), (6, (iv x123))]) (LE [(8, ow Al122 cl122 220 fl_TSpan l122)]) _
 refine Tr.seq ?_
 refine Tr.sr ?_
 refine Tr.mv rfl rfl ?_
 refine Tr.mv rfl rfl ?_
 refine Tr.v1 rfl (run_len un_22) rfl ?_
 refine Tr.v2 rfl run_lss rfl rfl ?_
 refine Tr.nil (Tr.normThen ?_)
 refine Tr.cond rfl H (fun H => ?_) (fun H => ?_)
 ·refine Tr.skip (Tr.normThen ?_)
  refine Tr.seq ?_
  refine Tr.block ?_
  refine Tr.sr ?_
  refine Tr.mv rfl rfl ?_
  refine Tr.mv rfl rfl ?_
  obtain ⟨x124, hx124, H⟩ := bnd H
  obtain ⟨hx1240, hx1241, hx1242⟩ := idx_some hx124
  refine Tr.va rfl (fun _ _ h1 h2 => run_indexAddr el_22 (h1.ev rfl) hp0_0.form (h1.ev rfl) hx1240 hx1241) ?_
  refine Tr.v1 rfl (run_fieldAddr fo_38_1) rfl ?_
  refine Tr.va rfl (fun _ _ h1 h2 => run_load1 ag_3 (h1.ev rfl) (CellsAt.drop (rdF ef_TRect hp0_0 hx1242 h2) 1) rfl) ?_
  refine Tr.mv rfl rfl ?_
  refine Tr.v2 rfl run_leq rfl rfl ?_
  refine Tr.mv rfl rfl ?_
  obtain ⟨g126, hg126, H⟩ := bnd H
  refine Tr.mid0 8 [(0, (.slice Ap0_0 (p0).length cp0_0)), (1, (iv p1)), (5, (.slice Al122 (l122).length cl122)), (6, (iv x123)), (28, (.bool g126))] [(8, ow Al122 cl122 220 fl_TSpan l122)] ?_ ?_
  ·cases hg131 : (decide (x124.Y0 ≤ p1))
   ·rw [hg131] at hg126
    rw [if_neg (by decide)] at hg126
    have H := hg126
    obtain rfl := Option.some.inj H
    refine Tr.ps ?_
    refine Tr.ps ?_
    refine Tr.ps ?_
    refine Tr.ps ?_
    refine Tr.ps ?_
    refine Tr.ps ?_
    refine Tr.ps ?_
    refine Tr.v2 rfl run_pickF rfl rfl ?_
    exact Tr.nil (Tr.fin0 (.r rfl) (.r rfl))
   ·rw [hg131] at hg126
    rw [if_pos rfl] at hg126
    have H := hg126
    refine Tr.w1 (wg rfl rfl rfl) rfl run_move rfl ?_
    refine Tr.w1 (wg rfl rfl rfl) rfl run_move rfl ?_
    refine Tr.w1 (wg rfl rfl rfl) rfl run_move rfl ?_
    obtain ⟨x127, hx127, H⟩ := bnd H
    obtain ⟨hx1270, hx1271, hx1272⟩ := idx_some hx127
    refine Tr.val (wg rfl rfl rfl) rfl (fun _ _ h1 h2 => run_indexAddr el_22 (h1.ev rfl) hp0_0.form (h1.ev rfl) hx1270 hx1271) ?_
    refine Tr.w1 (wg rfl rfl rfl) rfl (run_fieldAddr fo_38_3) rfl ?_
    refine Tr.val (wg rfl rfl rfl) rfl (fun _ _ h1 h2 => run_load1 ag_3 (h1.ev rfl) (CellsAt.drop (rdF ef_TRect hp0_0 hx1272 h2) 3) rfl) ?_
    refine Tr.w2 (wg rfl rfl rfl) rfl run_lss rfl rfl ?_
    refine Tr.v2 rfl run_pickT rfl rfl ?_
    obtain rfl := Option.some.inj H
    exact Tr.nil (Tr.fin0 (.r rfl) (.r rfl))
  ·show Tr _ _ (LF [(0, (.slice Ap0_0 (p0).length cp0_0)), (1, (iv p1)), (5, (.slice Al122 (l122).length cl122)), (6, (iv x123)), (28, (.bool g126))]) (LE [(8, ow Al122 cl122 220 fl_TSpan l122)]) _
   refine Tr.nil (Tr.normThen ?_)
   refine Tr.cond rfl H (fun H => ?_) (fun H => ?_)
   ·refine Tr.drawTail 12 (by kernel_rfl) (by kernel_rfl) ?_
    refine Tq.mv rfl rfl ?_
    refine Tq.mv rfl rfl ?_
    refine Tq.mv rfl rfl ?_
    obtain ⟨x128, hx128, H⟩ := bnd H
    obtain ⟨hx1280, hx1281, hx1282⟩ := idx_some hx128
    refine Tq.va rfl (fun _ _ h1 h2 => run_indexAddr el_22 (h1.ev rfl) hp0_0.form (h1.ev rfl) hx1280 hx1281) ?_
    refine Tq.v1 rfl (run_fieldAddr fo_38_0) rfl ?_
    refine Tq.va rfl (fun _ _ h1 h2 => run_load1 ag_3 (h1.ev rfl) (CellsAt.drop (rdF ef_TRect hp0_0 hx1282 h2) 0) rfl) ?_
    refine Tq.mv rfl rfl ?_
    refine Tq.mv rfl rfl ?_
    obtain ⟨x129, hx129, H⟩ := bnd H
    obtain ⟨hx1290, hx1291, hx1292⟩ := idx_some hx129
    refine Tq.va rfl (fun _ _ h1 h2 => run_indexAddr el_22 (h1.ev rfl) hp0_0.form (h1.ev rfl) hx1290 hx1291) ?_
    refine Tq.v1 rfl (run_fieldAddr fo_38_2) rfl ?_
    refine Tq.va rfl (fun _ _ h1 h2 => run_load1 ag_3 (h1.ev rfl) (CellsAt.drop (rdF ef_TRect hp0_0 hx1292 h2) 2) rfl) ?_
    refine Tq.build (vs := [(0, (iv x128.X0)), (1, (iv x129.X1))]) (cs := [(iv x128.X0), (iv x129.X1)]) (wn rfl) rfl (evs_cons rfl (evs_cons rfl evs_nil)) (by kernel_rfl) ?_
    refine Tq.nil ?_
    obtain ⟨y130, hy130, H⟩ := bnd H
    refine Tr.callM [9] [emp] (U := (Option Addr × Nat)) (fun u => (.slice u.1 (y130).length u.2)) (fun u => SlF u.1 (y130).length u.2) (fun u => [ow u.1 u.2 220 fl_TSpan y130]) rfl (pk_cons rfl pk_nil) (fun _ => rfl) (wn rfl) rfl Tryz.call174 (evl_cons rfl (evl_cons rfl evl_nil)) (fun W hW hp hE => F_etchhouseref1_joined_ok N l122 Al122 cl122 (hW.slS (k := 8) rfl hp rfl) (TSpan.mk x128.X0 x129.X1) y130 hy130 hE) ?_
    intro u hu
    obtain ⟨Ay130_0, cy130_0⟩ := u
    have gy130_0 := hu
    have hgy130_0 : SlF Ay130_0 (y130).length cy130_0 := gy130_0 --@phi
    show Tr _ _ (uf _ 41 (.slice Ay130_0 (y130).length cy130_0)) (up _ 9 (ow Ay130_0 cy130_0 220 fl_TSpan y130)) _
    refine Tr.asg rfl rfl ?_
    refine Tr.nil (Tr.normBlock (Tr.normThen ?_))
    refine Tr.region ?_
    refine Tr.mv rfl rfl ?_
    refine Tr.v2 rfl run_add rfl rfl ?_
    refine Tr.asg rfl rfl ?_
    refine Tr.nil ?_
    refine Tr.dropK 8 ?_
    refine Tr.ren 9 8 rfl rfl rfl ?_
    exact Tr.backThen leL1 (y130, (w64 (x123 + 1)), Ay130_0, cy130_0) ⟨H, hgy130_0⟩ (.r rfl) (.r rfl)
   ·refine Tr.skip (Tr.normBlock (Tr.normThen ?_))
    refine Tr.region ?_
    refine Tr.mv rfl rfl ?_
    refine Tr.v2 rfl run_add rfl rfl ?_
    refine Tr.asg rfl rfl ?_
    refine Tr.nil ?_
    exact Tr.backThen leL1 (l122, (w64 (x123 + 1)), Al122, cl122) ⟨H, hl122⟩ (.r rfl) (.r rfl)
 ·refine Tr.exit (Tr.exitThen (Tr.exitThen (Tr.exitBlock (Tr.normThen ?_))))
  refine Tr.sr ?_
  refine Tr.mv rfl rfl ?_
  refine Tr.asg rfl rfl ?_
  refine Tr.nil (Tr.normThen ?_)
  refine Tr.ret ?_
  obtain rfl := Option.some.inj H
  exact Tr.out (m := [(.slice Al122 (l122).length cl122)]) [] (res_tmp rfl res_nil) (fun W hW => ⟨(Al122, cl122), rfl, hl122, HF.lowE leB (hW.pick (ks := [8]) (by decide) (pk_cons rfl pk_nil)) ⟨ow_any _ _ _ _ tr_TSpan, trivial⟩⟩)

theorem F_etchhouseref1_sameSpans_ok (N : Nat) {w : Bs} (p0 : (List TSpan)) (Ap0_0 : Option Addr) (cp0_0 : Nat) (hp0_0 : Sl w.R w.W fl_TSpan Ap0_0 cp0_0 p0) (p1 : (List TSpan)) (Ap1_0 : Option Addr) (cp1_0 : Nat) (hp1_0 : Sl w.R w.W fl_TSpan Ap1_0 cp1_0 p1) (r : Bool) (H : F_etchhouseref1_sameSpans N p0 p1 = some r) (hE : HF w w.W E0) : Calls Tryz.prog 173 [(.slice Ap0_0 (p0).length cp0_0), (.slice Ap1_0 (p1).length cp1_0)].toArray w.W fun e W' => e = .returned (.bool r) ∧ HF w W' E0 := by
 unfold F_etchhouseref1_sameSpans at H
 have leB := Bs.Le.refl w
 refine Tr.enter (n := 26) Tryz.func173 rfl rfl rfl hE ?_
 refine Tr.sr ?_
 refine Tr.asg rfl rfl ?_
 refine Tr.nil (Tr.normThen ?_)
 refine Tr.seq ?_
 refine Tr.sr ?_
 refine Tr.mv rfl rfl ?_
 refine Tr.v1 rfl (run_len un_170) rfl ?_
 refine Tr.mv rfl rfl ?_
 refine Tr.v1 rfl (run_len un_170) rfl ?_
 refine Tr.v2 rfl run_neq rfl rfl ?_
 refine Tr.nil (Tr.normThen ?_)
 refine Tr.cond rfl H (fun H => ?_) (fun H => ?_)
 ·refine Tr.sr ?_
  refine Tr.asg rfl rfl ?_
  refine Tr.nil (Tr.normThen ?_)
  refine Tr.ret (Tr.retThen ?_)
  obtain rfl := Option.some.inj H
  exact Tr.out (m := [(.bool false)]) [] (res_tmp rfl res_nil) (fun W hW => ⟨rfl, hW.low leB⟩)
 ·refine Tr.skip (Tr.normThen ?_)
  refine Tr.seq ?_
  refine Tr.sr ?_
  refine Tr.asg rfl rfl ?_
  refine Tr.nil (Tr.normThen ?_)
  refine Tr.block ?_
  refine Tr.loop (σ := Int) (fun m w s => F_etchhouseref1_sameSpans_L1 p0 p1 m s = some r) (fun s => [(0, (.slice Ap0_0 (p0).length cp0_0)), (1, (.slice Ap1_0 (p1).length cp1_0)), (5, (iv s))]) (fun s => []) N 0 H (.r rfl) .nil (fun _ _ h => noSome (h)) ?_
  intro w leL1 mL1 x107 hs
  have H := hs
  replace H : F_etchhouseref1_sameSpans_L1 p0 p1 (mL1 + 1) x107 = some r := H
  replace hp0_0 := hp0_0.leR leL1
  replace hp1_0 := hp1_0.leR leL1
  replace leB := leB.trans leL1
  rw [F_etchhouseref1_sameSpans_L1.eq_2] at H
  show Tr _ _ (LF [(0, (.slice Ap0_0 (p0).length cp0_0)), (1, (.slice Ap1_0 (p1).length cp1_0)), (5, (iv x107))]) (LE []) _
  refine Tr.seq ?_
  refine Tr.sr ?_
  refine Tr.mv rfl rfl ?_
  refine Tr.mv rfl rfl ?_
  refine Tr.v1 rfl (run_len un_170) rfl ?_
  refine Tr.v2 rfl run_lss rfl rfl ?_
  refine Tr.nil (Tr.normThen ?_)
  refine Tr.cond rfl H (fun H => ?_) (fun H => ?_)
  ·refine Tr.skip (Tr.normThen ?_)
   refine Tr.seq ?_
   refine Tr.block ?_
   refine Tr.seq ?_
   refine Tr.draw (by kernel_rfl) (by kernel_rfl) ?_
   refine Tq.mv rfl rfl ?_
   refine Tq.mv rfl rfl ?_
   obtain ⟨x108, hx108, H⟩ := bnd H
   obtain ⟨hx1080, hx1081, hx1082⟩ := idx_some hx108
   refine Tq.va rfl (fun _ _ h1 h2 => run_indexAddr el_170 (h1.ev rfl) hp0_0.form (h1.ev rfl) hx1080 hx1081) ?_
   refine Tq.va rfl (fun _ _ h1 h2 => run_loadN (cs := [(iv x108.from_), (iv x108.to_)]) ag_220 sz_220 (h1.ev rfl) (CellsAt.take (rdF ef_TSpan hp0_0 hx1082 h2) 2) rfl) ?_
   refine Tq.mv rfl rfl ?_
   refine Tq.mv rfl rfl ?_
   obtain ⟨x109, hx109, H⟩ := bnd H
   obtain ⟨hx1090, hx1091, hx1092⟩ := idx_some hx109
   refine Tq.va rfl (fun _ _ h1 h2 => run_indexAddr el_170 (h1.ev rfl) hp1_0.form (h1.ev rfl) hx1090 hx1091) ?_
   refine Tq.va rfl (fun _ _ h1 h2 => run_loadN (cs := [(iv x109.from_), (iv x109.to_)]) ag_220 sz_220 (h1.ev rfl) (CellsAt.take (rdF ef_TSpan hp1_0 hx1092 h2) 2) rfl) ?_
   refine Tq.v2 rfl (run_neq_220 x108 x109) rfl rfl ?_
   refine Tq.nil (Tr.normThen ?_)
   refine Tr.cond rfl H (fun H => ?_) (fun H => ?_)
   ·refine Tr.sr ?_
    refine Tr.asg rfl rfl ?_
    refine Tr.nil (Tr.normThen ?_)
    refine Tr.ret (Tr.retBlock (Tr.retThen (Tr.retThen (Tr.retBlock (Tr.retThen ?_)))))
    obtain rfl := Option.some.inj H
    exact Tr.out (m := [(.bool false)]) [] (res_tmp rfl res_nil) (fun W hW => ⟨rfl, hW.low leB⟩)
   ·refine Tr.skip (Tr.normBlock (Tr.normThen ?_))
    refine Tr.region ?_
    refine Tr.mv rfl rfl ?_
    refine Tr.v2 rfl run_add rfl rfl ?_
    refine Tr.asg rfl rfl ?_
    refine Tr.nil ?_
    exact Tr.backThen leL1 (w64 (x107 + 1)) H (.r rfl) .nil
  ·refine Tr.exit (Tr.exitThen (Tr.exitThen (Tr.exitBlock (Tr.normThen ?_))))
   refine Tr.sr ?_
   refine Tr.asg rfl rfl ?_
   refine Tr.nil (Tr.normThen ?_)
   refine Tr.ret ?_
   obtain rfl := Option.some.inj H
   exact Tr.out (m := [(.bool true)]) [] (res_tmp rfl res_nil) (fun W hW => ⟨rfl, hW.low leB⟩)

theorem F_etchhouseref1_stacked_ok (N : Nat) {w : Bs} (p0 : (List Tetchhouseref1Band)) (Ap0_0 : Option Addr) (cp0_0 : Nat) (p1 : Tetchhouseref1Band) (Ap1_0 : Option Addr) (cp1_0 : Nat) (hp1_0 : Sl w.O w.W fl_TSpan Ap1_0 cp1_0 p1.spans) (r : (List Tetchhouseref1Band)) (H : F_etchhouseref1_stacked N p0 p1 = some r) (hE : HF w w.W (LEn [ow Ap0_0 cp0_0 173 fl_Tetchhouseref1Band p0])) : Calls Tryz.prog 122 [(.slice Ap0_0 (p0).length cp0_0), (.agg #[(iv p1.from_), (iv p1.to_), (.slice Ap1_0 (p1.spans).length cp1_0)])].toArray w.W fun e W' => ∃ (w' : Bs) (u : (Option Addr × Nat)), w.Le w' ∧ e = .returned (.slice u.1 (r).length u.2) ∧ (SlF u.1 (r).length u.2) ∧ HF w' W' (LEn [ow u.1 u.2 173 fl_Tetchhouseref1Band r]) := by
 unfold F_etchhouseref1_stacked at H
 have hfhp0_0 := (hE.sl (k := 0) rfl).form
 have leB := Bs.Le.refl w
 refine Tr.enter (n := 49) Tryz.func122 rfl rfl rfl hE ?_
 refine Tr.sr ?_
 refine Tr.box 1 (cs := [(iv p1.from_), (iv p1.to_), (.slice Ap1_0 (p1.spans).length cp1_0)]) (wn rfl) rfl rfl rfl fun b100 => ?_
 refine Tr.asg rfl rfl ?_
 refine Tr.nilOwn 2 173 fl_Tetchhouseref1Band ?_
 show Tr _ _ (uf _ 4 (.slice none (([] : List Tetchhouseref1Band)).length 0)) _ _
 refine Tr.nil (Tr.normThen ?_)
 refine Tr.seq ?_
 refine Tr.sr ?_
 refine Tr.v1 rfl (run_fieldAddr fo_173_2) rfl ?_
 refine Tr.va rfl (fun _ _ h1 h2 => run_load1 ag_170 (h1.ev rfl) (rdb h2 (vs := [(iv p1.from_), (iv p1.to_), (.slice Ap1_0 (p1.spans).length cp1_0)]) (k := 1) rfl 2) rfl) ?_
 refine Tr.v1 rfl (run_len un_170) rfl ?_
 refine Tr.v2 rfl run_eql rfl rfl ?_
 refine Tr.nil (Tr.normThen ?_)
 refine Tr.cond rfl H (fun H => ?_) (fun H => ?_)
 ·refine Tr.sr ?_
  refine Tr.mv rfl rfl ?_
  refine Tr.asg rfl rfl ?_
  refine Tr.nil (Tr.normThen ?_)
  refine Tr.ret (Tr.retThen ?_)
  obtain rfl := Option.some.inj H
  exact Tr.out (m := [(.slice Ap0_0 (p0).length cp0_0)]) [] (res_tmp rfl res_nil) (fun W hW => ⟨w, (Ap0_0, cp0_0), leB, rfl, hfhp0_0, hW.pick (ks := [0]) (by decide) (pk_cons rfl pk_nil)⟩)
 ·refine Tr.skip (Tr.normThen ?_)
  refine Tr.seq ?_
  refine Tr.sr ?_
  refine Tr.mv rfl rfl ?_
  refine Tr.v1 rfl (run_len un_168) rfl ?_
  refine Tr.asg rfl rfl ?_
  refine Tr.nil (Tr.normThen ?_)
  refine Tr.seq ?_
  refine Tr.draw (by kernel_rfl) (by kernel_rfl) ?_
  refine Tq.mv rfl rfl ?_
  refine Tq.v2 rfl run_gtr rfl rfl ?_
  refine Tq.mv rfl rfl ?_
  obtain ⟨g102, hg102, H⟩ := bnd H
  refine Tq.mid 10 [(0, (.slice Ap0_0 (p0).length cp0_0)), (3, (.pointer (some ⟨b100, 0, none⟩))), (5, (iv (p0.length : Int))), (25, (.bool g102))] ?_ ?_
  ·cases hg114 : (decide (0 < (p0.length : Int)))
   ·rw [hg114] at hg102
    rw [if_neg (by decide)] at hg102
    have H := hg102
    obtain rfl := Option.some.inj H
    refine Tq.ps ?_
    refine Tq.ps ?_
    refine Tq.ps ?_
    refine Tq.ps ?_
    refine Tq.ps ?_
    refine Tq.ps ?_
    refine Tq.ps ?_
    refine Tq.ps ?_
    refine Tq.ps ?_
    refine Tq.v2 rfl run_pickF rfl rfl ?_
    exact Tq.fin (.r rfl)
   ·rw [hg114] at hg102
    rw [if_pos rfl] at hg102
    have H := hg102
    refine Tq.w1 (wg rfl rfl rfl) rfl run_move rfl ?_
    refine Tq.w1 (wg rfl rfl rfl) rfl run_move rfl ?_
    refine Tq.w2 (wg rfl rfl rfl) rfl run_sub rfl rfl ?_
    obtain ⟨x103, hx103, H⟩ := bnd H
    obtain ⟨hx1030, hx1031, hx1032⟩ := idx_some hx103
    refine Tq.val (wg rfl rfl rfl) rfl (fun _ _ h1 h2 => run_indexAddr el_168 (h1.ev rfl) hfhp0_0 (h1.ev rfl) hx1030 hx1031) ?_
    refine Tq.w1 (wg rfl rfl rfl) rfl (run_fieldAddr fo_173_1) rfl ?_
    refine Tq.val (wg rfl rfl rfl) rfl (fun _ _ h1 h2 => (HF.atN (k := 0) h2 rfl hx1032).elim fun u hu => run_load1 ag_3 (h1.ev rfl) (hu.2.drop 1) rfl) ?_
    refine Tq.w1 (wg rfl rfl rfl) rfl (run_fieldAddr fo_173_0) rfl ?_
    refine Tq.val (wg rfl rfl rfl) rfl (fun _ _ h1 h2 => run_load1 ag_3 (h1.ev rfl) (rdb h2 (vs := [(iv p1.from_), (iv p1.to_), (.slice Ap1_0 (p1.spans).length cp1_0)]) (k := 1) rfl 0) rfl) ?_
    refine Tq.w2 (wg rfl rfl rfl) rfl run_eql rfl rfl ?_
    refine Tq.v2 rfl run_pickT rfl rfl ?_
    obtain rfl := Option.some.inj H
    exact Tq.fin (.r rfl)
  ·refine Tq.mv rfl rfl ?_
   obtain ⟨g107, hg107, H⟩ := bnd H
   refine Tq.mid 10 [(0, (.slice Ap0_0 (p0).length cp0_0)), (3, (.pointer (some ⟨b100, 0, none⟩))), (5, (iv (p0.length : Int))), (36, (.bool g107))] ?_ ?_
   ·cases hg114 : g102
    ·rw [hg114] at hg107
     rw [if_neg (by decide)] at hg107
     have H := hg107
     obtain rfl := Option.some.inj H
     refine Tq.ps ?_
     refine Tq.ps ?_
     refine Tq.ps ?_
     refine Tq.ps ?_
     refine Tq.ps ?_
     refine Tq.ps ?_
     refine Tq.ps ?_
     refine Tq.ps ?_
     refine Tq.ps ?_
     refine Tq.v2 rfl run_pickF rfl rfl ?_
     exact Tq.fin (.r rfl)
    ·rw [hg114] at hg107
     rw [if_pos rfl] at hg107
     have H := hg107
     refine Tq.w1 (wg rfl rfl rfl) rfl run_move rfl ?_
     refine Tq.w1 (wg rfl rfl rfl) rfl run_move rfl ?_
     refine Tq.w2 (wg rfl rfl rfl) rfl run_sub rfl rfl ?_
     obtain ⟨x108, hx108, H⟩ := bnd H
     obtain ⟨hx1080, hx1081, hx1082⟩ := idx_some hx108
     refine Tq.val (wg rfl rfl rfl) rfl (fun _ _ h1 h2 => run_indexAddr el_168 (h1.ev rfl) hfhp0_0 (h1.ev rfl) hx1080 hx1081) ?_
     refine Tq.w1 (wg rfl rfl rfl) rfl (run_fieldAddr fo_173_2) rfl ?_
     refine Tq.valE (U := (fl_Tetchhouseref1Band).Ad) (fun u => (fl_Tetchhouseref1Band).ok w.O w.W u x108) (fun u => (.slice u.1 (x108.spans).length u.2)) (wg rfl rfl rfl) rfl (ldN (κ := 0) (t := fl_Tetchhouseref1Band) (V := fun u => (.slice u.1 (x108.spans).length u.2)) rfl hx1082 (fun _ _ u h1 hc => run_load1 ag_170 (h1.ev rfl) (hc.drop 2) rfl)) ?_
     intro u109 hoku109
     obtain ⟨Au109_0, cu109_0⟩ := u109
     have hoku109_0 := hoku109
     replace hoku109_0 : Sl w.O w.W fl_TSpan Au109_0 cu109_0 x108.spans := hoku109_0
     show Tq _ _ _ _ (uf _ 32 (.slice Au109_0 (x108.spans).length cu109_0)) _ _ _
     refine Tq.w1 (wg rfl rfl rfl) rfl (run_fieldAddr fo_173_2) rfl ?_
     refine Tq.val (wg rfl rfl rfl) rfl (fun _ _ h1 h2 => run_load1 ag_170 (h1.ev rfl) (rdb h2 (vs := [(iv p1.from_), (iv p1.to_), (.slice Ap1_0 (p1.spans).length cp1_0)]) (k := 1) rfl 2) rfl) ?_
     obtain ⟨y110, hy110, H⟩ := bnd H
     refine Tq.call0 (r := (.bool y110)) (wg rfl rfl rfl) rfl Tryz.call173 (evl_cons rfl (evl_cons rfl evl_nil)) (fun W hW => F_etchhouseref1_sameSpans_ok N x108.spans Au109_0 cu109_0 (hoku109_0.rl.ext hW.extAll) p1.spans Ap1_0 cp1_0 (hp1_0.rl.ext hW.extAll) y110 hy110 (HF.start _)) ?_
     refine Tq.v2 rfl run_pickT rfl rfl ?_
     obtain rfl := Option.some.inj H
     exact Tq.fin (.r rfl)
   ·refine Tq.nil (Tr.normThen ?_)
    refine Tr.cond rfl H (fun H => ?_) (fun H => ?_)
    ·refine Tr.sr ?_
     refine Tr.mv rfl rfl ?_
     refine Tr.mv rfl rfl ?_
     refine Tr.v2 rfl run_sub rfl rfl ?_
     refine Tr.v1 rfl (run_fieldAddr fo_173_1) rfl ?_
     refine Tr.va rfl (fun _ _ h1 h2 => run_load1 ag_3 (h1.ev rfl) (rdb h2 (vs := [(iv p1.from_), (iv p1.to_), (.slice Ap1_0 (p1.spans).length cp1_0)]) (k := 1) rfl 1) rfl) ?_
     obtain ⟨x111, hx111, H⟩ := bnd H
     obtain ⟨hx1110, hx1111, hx1112⟩ := idx_some hx111
     refine Tr.va rfl (fun _ _ h1 h2 => run_indexAddr el_168 (h1.ev rfl) hfhp0_0 (h1.ev rfl) hx1110 hx1111) ?_
     refine Tr.v1 rfl (run_fieldAddr fo_173_1) rfl ?_
     obtain ⟨l112, hl112, H⟩ := bnd H
     have hnl112 := sets_len hl112
     refine Tr.storeEl 0 (t := fl_Tetchhouseref1Band) (l := p0) (i := (w64 ((p0.length : Int) - 1))) (fo := 1) (cs := [(iv p1.to_)]) (Tetchhouseref1Band.mk x111.from_ p1.to_ x111.spans) (wn rfl) rfl rfl rfl rfl rfl hx1112 sz_3 rfl (fun u hu => ⟨u, hu, rfl⟩) rfl hl112 ?_
     have hfl112 : SlF Ap0_0 (l112).length cp0_0 := by rw [hnl112]; exact hfhp0_0
     have hsl112 := hnl112.trans rfl
     refine Tr.sel (lf := [(0, (.slice Ap0_0 (l112).length cp0_0)), (3, (.pointer (some ⟨b100, 0, none⟩))), (5, (iv (p0.length : Int))), (36, (.bool g107)), (37, (.slice Ap0_0 (l112).length cp0_0)), (38, (iv (p0.length : Int))), (39, (iv (w64 ((p0.length : Int) - 1)))), (40, (.pointer (some ⟨b100, 1, none⟩))), (41, (iv p1.to_))]) (le := [(0, ow Ap0_0 cp0_0 173 fl_Tetchhouseref1Band l112), (1, bx b100 #[(iv p1.from_), (iv p1.to_), (.slice Ap1_0 (p1.spans).length cp1_0)] 173), (2, ow none 0 173 fl_Tetchhouseref1Band ([] : List Tetchhouseref1Band))]) (.cons (slenV rfl (by rw [hnl112])) (.cons rfl (.cons rfl (.cons rfl (.cons (slenV rfl (by rw [hnl112])) (.r rfl)))))) (.r rfl) ?_
     refine Tr.nil (Tr.normThen ?_)
     refine Tr.sr ?_
     refine Tr.mv rfl rfl ?_
     refine Tr.asg rfl rfl ?_
     refine Tr.nil (Tr.normThen ?_)
     refine Tr.ret (Tr.retThen ?_)
     obtain rfl := Option.some.inj H
     exact Tr.out (m := [(.slice Ap0_0 (l112).length cp0_0)]) [] (res_tmp rfl res_nil) (fun W hW => ⟨w, (Ap0_0, cp0_0), leB, rfl, hfl112, hW.pick (ks := [0]) (by decide) (pk_cons rfl pk_nil)⟩)
    ·refine Tr.skip (Tr.normThen ?_)
     refine Tr.sr ?_
     refine Tr.mv rfl rfl ?_
     refine Tr.va rfl (fun _ _ h1 h2 => run_loadN (cs := [(iv p1.from_), (iv p1.to_), (.slice Ap1_0 (p1.spans).length cp1_0)]) ag_173 sz_173 (h1.ev rfl) (CellsAt.take (rdb h2 (vs := [(iv p1.from_), (iv p1.to_), (.slice Ap1_0 (p1.spans).length cp1_0)]) (k := 1) rfl 0) 3) rfl) ?_
     refine Tr.buildSlice 3 (e := 173) (vs := [(0, (.agg #[(iv p1.from_), (iv p1.to_), (.slice Ap1_0 (p1.spans).length cp1_0)]))]) (cs := [(iv p1.from_), (iv p1.to_), (.slice Ap1_0 (p1.spans).length cp1_0)]) (wn rfl) rfl (evs_cons rfl evs_nil) (by kernel_rfl) fun b113 => ?_
     obtain ⟨l114, hl114, H⟩ := bnd H
     refine Tr.append 0 (t := fl_Tetchhouseref1Band) (l := p0) (l2 := [p1]) (wn rfl) rfl rfl rfl rfl (fun W hW => ⟨[[(iv p1.from_), (iv p1.to_), (.slice Ap1_0 (p1.spans).length cp1_0)]], (.cons ⟨(Ap1_0, cp1_0), hp1_0, rfl⟩ .nil), rdb hW (vs := [(iv p1.from_), (iv p1.to_), (.slice Ap1_0 (p1.spans).length cp1_0)]) (k := 3) rfl 0⟩) un_168 sz_173 zl_173 (by decide) by_173 rfl hl114 fun Al114 cl114 hAl114 => ?_
     refine Tr.asg rfl rfl ?_
     refine Tr.nil (Tr.normThen ?_)
     refine Tr.ret ?_
     obtain rfl := Option.some.inj H
     exact Tr.out (m := [(.slice Al114 (l114).length cl114)]) [] (res_tmp rfl res_nil) (fun W hW => ⟨w, (Al114, cl114), leB, rfl, hAl114, hW.pick (ks := [0]) (by decide) (pk_cons rfl pk_nil)⟩)

theorem F_etchhouseref1_told_ok (N : Nat) {w : Bs} (p0 : (List Tetchhouseref1Band)) (Ap0_0 : Option Addr) (cp0_0 : Nat) (hp0_0 : Sl w.R w.W fl_Tetchhouseref1Band Ap0_0 cp0_0 p0) (r : (List TRect)) (H : F_etchhouseref1_told N p0 = some r) (hE : HF w w.W (LEn [emp])) : Calls Tryz.prog 124 [(.slice Ap0_0 (p0).length cp0_0)].toArray w.W fun e W' => ∃ u : (Option Addr × Nat), e = .returned (.slice u.1 (r).length u.2) ∧ (SlF u.1 (r).length u.2) ∧ HF w W' (LEn [ow u.1 u.2 38 fl_TRect r]) := by
 unfold F_etchhouseref1_told at H
 have leB := Bs.Le.refl w
 refine Tr.enter (n := 55) Tryz.func124 rfl rfl rfl hE ?_
 refine Tr.sr ?_
 refine Tr.asg rfl rfl ?_
 refine Tr.nilOwn 1 38 fl_TRect ?_
 show Tr _ _ (uf _ 2 (.slice none (([] : List TRect)).length 0)) _ _
 refine Tr.nil (Tr.normThen ?_)
 refine Tr.sr ?_
 refine Tr.asg rfl rfl ?_
 refine Tr.nilOwn 2 38 fl_TRect ?_
 show Tr _ _ (uf _ 3 (.slice none (([] : List TRect)).length 0)) _ _
 refine Tr.nil (Tr.normThen ?_)
 refine Tr.seq ?_
 refine Tr.sr ?_
 refine Tr.asg rfl rfl ?_
 refine Tr.nil (Tr.normThen ?_)
 refine Tr.block ?_
 refine Tr.loop (σ := (List TRect) × Int × (Option Addr) × Nat) (fun m w s => F_etchhouseref1_told_L3 N p0 m s.1 s.2.1 = some r ∧ SlF s.2.2.1 (s.1).length s.2.2.2) (fun s => [(0, (.slice Ap0_0 (p0).length cp0_0)), (3, (.slice s.2.2.1 (s.1).length s.2.2.2)), (4, (iv s.2.1))]) (fun s => [(2, ow s.2.2.1 s.2.2.2 38 fl_TRect s.1)]) N (([] : List TRect), 0, none, 0) ⟨H, slf_nil⟩ (.r rfl) (.r rfl) (fun _ _ h => noSome (h.1)) ?_
 intro w leL3 mL3 s hs
 obtain ⟨l206, x207, Al206, cl206⟩ := s
 obtain ⟨H, hl206⟩ := hs
 replace H : F_etchhouseref1_told_L3 N p0 (mL3 + 1) l206 x207 = some r := H
 replace hp0_0 := hp0_0.leR leL3
 replace leB := leB.trans leL3
 replace hl206 : SlF Al206 (l206).length cl206 := hl206
 rw [F_etchhouseref1_told_L3.eq_2] at H
 show Tr _ _ (LF [(0, (.slice Ap0_0 (p0).length cp0_0)), (3, (.slice Al206 (l206).length cl206)), (4, (iv x207))]) (LE [(2, ow Al206 cl206 38 fl_TRect l206)]) _
 refine Tr.seq ?_
 refine Tr.sr ?_
 refine Tr.mv rfl rfl ?_
 refine Tr.mv rfl rfl ?_
 refine Tr.v1 rfl (run_len un_168) rfl ?_
 refine Tr.v2 rfl run_lss rfl rfl ?_
 refine Tr.nil (Tr.normThen ?_)
 refine Tr.cond rfl H (fun H => ?_) (fun H => ?_)
 ·refine Tr.skip (Tr.normThen ?_)
  refine Tr.seq ?_
  refine Tr.block ?_
  refine Tr.sr ?_
  refine Tr.asg rfl rfl ?_
  refine Tr.nil (Tr.normThen ?_)
  refine Tr.block ?_
  refine Tr.loop (σ := (List TRect) × Int × (Option Addr) × Nat) (fun m w s => F_etchhouseref1_told_L4 p0 x207 (F_etchhouseref1_told_L3 N p0 mL3) m s.1 s.2.1 = some r ∧ SlF s.2.2.1 (s.1).length s.2.2.2) (fun s => [(0, (.slice Ap0_0 (p0).length cp0_0)), (3, (.slice s.2.2.1 (s.1).length s.2.2.2)), (4, (iv x207)), (5, (iv s.2.1))]) (fun s => [(2, ow s.2.2.1 s.2.2.2 38 fl_TRect s.1)]) N (l206, 0, Al206, cl206) ⟨H, hl206⟩ (.r rfl) (.r rfl) (fun _ _ h => noSome (h.1)) ?_
  intro w leL4 mL4 s hs
  obtain ⟨l242, x243, Al242, cl242⟩ := s
  obtain ⟨H, hl242⟩ := hs
  replace H : F_etchhouseref1_told_L4 p0 x207 (F_etchhouseref1_told_L3 N p0 mL3) (mL4 + 1) l242 x243 = some r := H
  replace hp0_0 := hp0_0.leR leL4
  replace leB := leB.trans leL4
  replace leL3 := leL3.trans leL4
  replace hl242 : SlF Al242 (l242).length cl242 := hl242
  rw [F_etchhouseref1_told_L4.eq_2] at H
  show Tr _ _ (LF [(0, (.slice Ap0_0 (p0).length cp0_0)), (3, (.slice Al242 (l242).length cl242)), (4, (iv x207)), (5, (iv x243))]) (LE [(2, ow Al242 cl242 38 fl_TRect l242)]) _
  refine Tr.seq ?_
  refine Tr.sr ?_
  refine Tr.mv rfl rfl ?_
  refine Tr.mv rfl rfl ?_
  refine Tr.mv rfl rfl ?_
  obtain ⟨x244, hx244, H⟩ := bnd H
  obtain ⟨hx2440, hx2441, hx2442⟩ := idx_some hx244
  obtain ⟨u245, hRu245, hoku245, hcu245⟩ := (hp0_0).el hx2442
  obtain ⟨Au245_0, cu245_0⟩ := u245
  have hoku245_0 := hoku245
  replace hoku245_0 : Sl w.R w.W fl_TSpan Au245_0 cu245_0 x244.spans := hoku245_0
  refine Tr.va rfl (fun _ _ h1 h2 => run_indexAddr el_168 (h1.ev rfl) hp0_0.form (h1.ev rfl) hx2440 hx2441) ?_
  refine Tr.v1 rfl (run_fieldAddr fo_173_2) rfl ?_
  refine Tr.va rfl (fun _ _ h1 h2 => run_load1 ag_170 (h1.ev rfl) (CellsAt.drop (rdR hRu245 hcu245 h2) 2) rfl) ?_
  refine Tr.v1 rfl (run_len un_170) rfl ?_
  refine Tr.v2 rfl run_lss rfl rfl ?_
  refine Tr.nil (Tr.normThen ?_)
  refine Tr.cond rfl H (fun H => ?_) (fun H => ?_)
  ·refine Tr.skip (Tr.normThen ?_)
   refine Tr.seq ?_
   refine Tr.block ?_
   obtain ⟨x247, hx247, H⟩ := bnd H
   obtain ⟨hx2470, hx2471, hx2472⟩ := idx_some hx247
   obtain ⟨u248, hRu248, hoku248, hcu248⟩ := (hp0_0).el hx2472
   obtain ⟨Au248_0, cu248_0⟩ := u248
   have hoku248_0 := hoku248
   replace hoku248_0 : Sl w.R w.W fl_TSpan Au248_0 cu248_0 x247.spans := hoku248_0
   obtain ⟨x249, hx249, H⟩ := bnd H
   obtain ⟨hx2490, hx2491, hx2492⟩ := idx_some hx249
   obtain ⟨x250, hx250, H⟩ := bnd H
   obtain ⟨hx2500, hx2501, hx2502⟩ := idx_some hx250
   obtain ⟨u251, hRu251, hoku251, hcu251⟩ := (hp0_0).el hx2502
   obtain ⟨Au251_0, cu251_0⟩ := u251
   have hoku251_0 := hoku251
   replace hoku251_0 : Sl w.R w.W fl_TSpan Au251_0 cu251_0 x250.spans := hoku251_0
   obtain ⟨x252, hx252, H⟩ := bnd H
   obtain ⟨hx2520, hx2521, hx2522⟩ := idx_some hx252
   obtain ⟨u253, hRu253, hoku253, hcu253⟩ := (hp0_0).el hx2522
   obtain ⟨Au253_0, cu253_0⟩ := u253
   have hoku253_0 := hoku253
   replace hoku253_0 : Sl w.R w.W fl_TSpan Au253_0 cu253_0 x252.spans := hoku253_0
   obtain ⟨x254, hx254, H⟩ := bnd H
   obtain ⟨hx2540, hx2541, hx2542⟩ := idx_some hx254
   obtain ⟨x255, hx255, H⟩ := bnd H
   obtain ⟨hx2550, hx2551, hx2552⟩ := idx_some hx255
   obtain ⟨u256, hRu256, hoku256, hcu256⟩ := (hp0_0).el hx2552
   obtain ⟨Au256_0, cu256_0⟩ := u256
   have hoku256_0 := hoku256
   replace hoku256_0 : Sl w.R w.W fl_TSpan Au256_0 cu256_0 x255.spans := hoku256_0
   refine Tr.drawF 31 [(30, .makeFunc (.func 0) #[] #[.tmp 51])] [(30, ⟨52, 11, (.func (.func 0) #[] #[(.agg #[(iv x249.from_), (iv x250.from_), (iv x254.to_), (iv x255.to_)])]), fun b => .slice (some ⟨b, 0, none⟩) 1 1, fun b => bx b #[(iv x249.from_), (iv x250.from_), (iv x254.to_), (iv x255.to_)] 38⟩)] [(0, (.slice Ap0_0 (p0).length cp0_0)), (3, (.slice Al242 (l242).length cl242)), (4, (iv x207)), (5, (iv x243)), (12, (iv x243)), (13, (.slice Ap0_0 (p0).length cp0_0)), (14, (iv x207)), (15, (.pointer (some ⟨adB Ap0_0, adO Ap0_0 + (x207).toNat * 3, none⟩))), (16, (.pointer (some ⟨adB Ap0_0, adO Ap0_0 + (x207).toNat * 3 + 2, none⟩))), (17, (.slice Au245_0 (x244.spans).length cu245_0)), (18, (iv (x244.spans.length : Int))), (19, (.bool (decide (x243 < (x244.spans.length : Int))))), (22, (.slice Al242 (l242).length cl242)), (23, (.slice Ap0_0 (p0).length cp0_0)), (24, (iv x207)), (25, (.pointer (some ⟨adB Ap0_0, adO Ap0_0 + (x207).toNat * 3, none⟩))), (26, (.pointer (some ⟨adB Ap0_0, adO Ap0_0 + (x207).toNat * 3 + 2, none⟩))), (27, (.slice Au248_0 (x247.spans).length cu248_0)), (28, (iv x243)), (29, (.pointer (some ⟨adB Au248_0, adO Au248_0 + (x243).toNat * 2, none⟩))), (30, (.pointer (some ⟨adB Au248_0, adO Au248_0 + (x243).toNat * 2 + 0, none⟩))), (31, (iv x249.from_)), (32, (.slice Ap0_0 (p0).length cp0_0)), (33, (iv x207)), (34, (.pointer (some ⟨adB Ap0_0, adO Ap0_0 + (x207).toNat * 3, none⟩))), (35, (.pointer (some ⟨adB Ap0_0, adO Ap0_0 + (x207).toNat * 3 + 0, none⟩))), (36, (iv x250.from_)), (37, (.slice Ap0_0 (p0).length cp0_0)), (38, (iv x207)), (39, (.pointer (some ⟨adB Ap0_0, adO Ap0_0 + (x207).toNat * 3, none⟩))), (40, (.pointer (some ⟨adB Ap0_0, adO Ap0_0 + (x207).toNat * 3 + 2, none⟩))), (41, (.slice Au253_0 (x252.spans).length cu253_0)), (42, (iv x243)), (43, (.pointer (some ⟨adB Au253_0, adO Au253_0 + (x243).toNat * 2, none⟩))), (44, (.pointer (some ⟨adB Au253_0, adO Au253_0 + (x243).toNat * 2 + 1, none⟩))), (45, (iv x254.to_)), (46, (.slice Ap0_0 (p0).length cp0_0)), (47, (iv x207)), (48, (.pointer (some ⟨adB Ap0_0, adO Ap0_0 + (x207).toNat * 3, none⟩))), (49, (.pointer (some ⟨adB Ap0_0, adO Ap0_0 + (x207).toNat * 3 + 1, none⟩))), (50, (iv x255.to_)), (51, (.agg #[(iv x249.from_), (iv x250.from_), (iv x254.to_), (iv x255.to_)])), (52, (.func (.func 0) #[] #[(.agg #[(iv x249.from_), (iv x250.from_), (iv x254.to_), (iv x255.to_)])]))] (by kernel_rfl) (by kernel_rfl) (by kernel_rfl) (by kernel_rfl) (by kernel_rfl) (by kernel_rfl) (by kernel_rfl) (fall_cons (fr_lit (vs := [(0, (.agg #[(iv x249.from_), (iv x250.from_), (iv x254.to_), (iv x255.to_)]))]) rfl rfl rfl (by kernel_rfl)) fall_nil) (fall_cons rfl fall_nil) (fall_cons rfl fall_nil) ?_ ?_
   ·refine Tq.mv rfl rfl ?_
    refine Tq.mv rfl rfl ?_
    refine Tq.mv rfl rfl ?_
    refine Tq.va rfl (fun _ _ h1 h2 => run_indexAddr el_168 (h1.ev rfl) hp0_0.form (h1.ev rfl) hx2470 hx2471) ?_
    refine Tq.v1 rfl (run_fieldAddr fo_173_2) rfl ?_
    refine Tq.va rfl (fun _ _ h1 h2 => run_load1 ag_170 (h1.ev rfl) (CellsAt.drop (rdR hRu248 hcu248 h2) 2) rfl) ?_
    refine Tq.mv rfl rfl ?_
    refine Tq.va rfl (fun _ _ h1 h2 => run_indexAddr el_170 (h1.ev rfl) hoku248_0.form (h1.ev rfl) hx2490 hx2491) ?_
    refine Tq.v1 rfl (run_fieldAddr fo_220_0) rfl ?_
    refine Tq.va rfl (fun _ _ h1 h2 => run_load1 ag_3 (h1.ev rfl) (CellsAt.drop (rdF ef_TSpan hoku248_0 hx2492 h2) 0) rfl) ?_
    refine Tq.mv rfl rfl ?_
    refine Tq.mv rfl rfl ?_
    refine Tq.va rfl (fun _ _ h1 h2 => run_indexAddr el_168 (h1.ev rfl) hp0_0.form (h1.ev rfl) hx2500 hx2501) ?_
    refine Tq.v1 rfl (run_fieldAddr fo_173_0) rfl ?_
    refine Tq.va rfl (fun _ _ h1 h2 => run_load1 ag_3 (h1.ev rfl) (CellsAt.drop (rdR hRu251 hcu251 h2) 0) rfl) ?_
    refine Tq.mv rfl rfl ?_
    refine Tq.mv rfl rfl ?_
    refine Tq.va rfl (fun _ _ h1 h2 => run_indexAddr el_168 (h1.ev rfl) hp0_0.form (h1.ev rfl) hx2520 hx2521) ?_
    refine Tq.v1 rfl (run_fieldAddr fo_173_2) rfl ?_
    refine Tq.va rfl (fun _ _ h1 h2 => run_load1 ag_170 (h1.ev rfl) (CellsAt.drop (rdR hRu253 hcu253 h2) 2) rfl) ?_
    refine Tq.mv rfl rfl ?_
    refine Tq.va rfl (fun _ _ h1 h2 => run_indexAddr el_170 (h1.ev rfl) hoku253_0.form (h1.ev rfl) hx2540 hx2541) ?_
    refine Tq.v1 rfl (run_fieldAddr fo_220_1) rfl ?_
    refine Tq.va rfl (fun _ _ h1 h2 => run_load1 ag_3 (h1.ev rfl) (CellsAt.drop (rdF ef_TSpan hoku253_0 hx2542 h2) 1) rfl) ?_
    refine Tq.mv rfl rfl ?_
    refine Tq.mv rfl rfl ?_
    refine Tq.va rfl (fun _ _ h1 h2 => run_indexAddr el_168 (h1.ev rfl) hp0_0.form (h1.ev rfl) hx2550 hx2551) ?_
    refine Tq.v1 rfl (run_fieldAddr fo_173_1) rfl ?_
    refine Tq.va rfl (fun _ _ h1 h2 => run_load1 ag_3 (h1.ev rfl) (CellsAt.drop (rdR hRu256 hcu256 h2) 1) rfl) ?_
    refine Tq.build (vs := [(0, (iv x249.from_)), (1, (iv x250.from_)), (2, (iv x254.to_)), (3, (iv x255.to_))]) (cs := [(iv x249.from_), (iv x250.from_), (iv x254.to_), (iv x255.to_)]) (wn rfl) rfl (evs_cons rfl (evs_cons rfl (evs_cons rfl (evs_cons rfl evs_nil)))) (by kernel_rfl) ?_
    refine Tq.mkFunc (vs := [(.agg #[(iv x249.from_), (iv x250.from_), (iv x254.to_), (iv x255.to_)])]) (wn rfl) rfl (evl_cons rfl evl_nil) ?_
    exact Tq.fin (.r rfl)
   ·intro bs246
    refine Tr.sel (lf := [(0, (.slice Ap0_0 (p0).length cp0_0)), (4, (iv x207)), (5, (iv x243)), (22, (.slice Al242 (l242).length cl242)), (52, (.slice (some ⟨(bs246 30), 0, none⟩) 1 1))]) (le := [(2, ow Al242 cl242 38 fl_TRect l242), (11, bx (bs246 30) #[(iv x249.from_), (iv x250.from_), (iv x254.to_), (iv x255.to_)] 38)]) (.r rfl) (.r rfl) ?_
    obtain ⟨l257, hl257, H⟩ := bnd H
    refine Tr.append 2 (t := fl_TRect) (l := l242) (l2 := [(TRect.mk x249.from_ x250.from_ x254.to_ x255.to_)]) (wn rfl) rfl rfl rfl rfl (fun W hW => ⟨[[(iv x249.from_), (iv x250.from_), (iv x254.to_), (iv x255.to_)]], (.cons ⟨(), trivial, rfl⟩ .nil), rdb hW (vs := [(iv x249.from_), (iv x250.from_), (iv x254.to_), (iv x255.to_)]) (k := 11) rfl 0⟩) un_22 sz_38 zl_38 (by decide) by_38 rfl hl257 fun Al257 cl257 hAl257 => ?_
    refine Tr.asg rfl rfl ?_
    refine Tr.nil (Tr.normBlock (Tr.normThen ?_))
    refine Tr.region ?_
    refine Tr.mv rfl rfl ?_
    refine Tr.v2 rfl run_add rfl rfl ?_
    refine Tr.asg rfl rfl ?_
    refine Tr.nil ?_
    exact Tr.backThen leL4 (l257, (w64 (x243 + 1)), Al257, cl257) ⟨H, hAl257⟩ (.r rfl) (.r rfl)
  ·refine Tr.exit (Tr.exitThen (Tr.exitThen (Tr.exitBlock (Tr.normBlock (Tr.normThen ?_)))))
   refine Tr.region ?_
   refine Tr.mv rfl rfl ?_
   refine Tr.v2 rfl run_add rfl rfl ?_
   refine Tr.asg rfl rfl ?_
   refine Tr.nil ?_
   exact Tr.backThen leL3 (l242, (w64 (x207 + 1)), Al242, cl242) ⟨H, hl242⟩ (.r rfl) (.r rfl)
 ·refine Tr.exit (Tr.exitThen (Tr.exitThen (Tr.exitBlock (Tr.normThen ?_))))
  refine Tr.sr ?_
  refine Tr.mv rfl rfl ?_
  refine Tr.asg rfl rfl ?_
  refine Tr.nil (Tr.normThen ?_)
  refine Tr.ret ?_
  obtain rfl := Option.some.inj H
  exact Tr.out (m := [(.slice Al206 (l206).length cl206)]) [] (res_tmp rfl res_nil) (fun W hW => ⟨(Al206, cl206), rfl, hl206, HF.lowE leB (hW.pick (ks := [2]) (by decide) (pk_cons rfl pk_nil)) ⟨ow_any _ _ _ _ tr_TRect, trivial⟩⟩)

theorem F_etchhouseref1_Canonical_ok (N : Nat) {w : Bs} (p0 : (List TRect)) (Ap0_0 : Option Addr) (cp0_0 : Nat) (hp0_0 : Sl w.R w.W fl_TRect Ap0_0 cp0_0 p0) (r : (List TRect)) (H : F_etchhouseref1_Canonical N p0 = some r) (hE : HF w w.W (LEn [emp])) : Calls Tryz.prog 81 [(.slice Ap0_0 (p0).length cp0_0)].toArray w.W fun e W' => ∃ u : (Option Addr × Nat), e = .returned (.slice u.1 (r).length u.2) ∧ (SlF u.1 (r).length u.2) ∧ HF w W' (LEn [ow u.1 u.2 38 fl_TRect r]) := by
 unfold F_etchhouseref1_Canonical at H
 have leB := Bs.Le.refl w
 refine Tr.enter (n := 35) Tryz.func81 rfl rfl rfl hE ?_
 refine Tr.sr ?_
 refine Tr.asg rfl rfl ?_
 refine Tr.nilOwn 1 38 fl_TRect ?_
 show Tr _ _ (uf _ 2 (.slice none (([] : List TRect)).length 0)) _ _
 refine Tr.nil (Tr.normThen ?_)
 refine Tr.sr ?_
 refine Tr.mv rfl rfl ?_
 obtain ⟨y100, hy100, H⟩ := bnd H
 refine Tr.callG [] [] (U := (Option Addr × Nat)) (fun u => (.slice u.1 (y100).length u.2)) (fun O W u => Sl O W fl_i64 u.1 u.2 y100) (fun u => []) rfl pk_nil (fun _ => rfl) (wn rfl) rfl Tryz.call121 (evl_cons rfl evl_nil) (fun W hW hp hE => F_etchhouseref1_heights_ok N p0 Ap0_0 cp0_0 (hp0_0.ext (hW.extS hp)) y100 hy100 hE) ?_
 intro w u le101 hu
 obtain ⟨Ay100_0, cy100_0⟩ := u
 have gy100_0 := hu
 replace hp0_0 := hp0_0.leR le101
 replace leB := leB.trans le101
 have hgy100_0 : Sl w.O w.W fl_i64 Ay100_0 cy100_0 y100 := gy100_0 --@phi
 show Tr _ _ (uf _ 7 (.slice Ay100_0 (y100).length cy100_0)) (_) _
 refine Tr.asg rfl rfl ?_
 refine Tr.nil (Tr.normThen ?_)
 refine Tr.sr ?_
 refine Tr.asg rfl rfl ?_
 refine Tr.nilOwn 2 173 fl_Tetchhouseref1Band ?_
 show Tr _ _ (uf _ 4 (.slice none (([] : List Tetchhouseref1Band)).length 0)) _ _
 refine Tr.nil (Tr.normThen ?_)
 refine Tr.seq ?_
 refine Tr.sr ?_
 refine Tr.asg rfl rfl ?_
 refine Tr.nil (Tr.normThen ?_)
 refine Tr.block ?_
 refine Tr.loop (σ := (List Tetchhouseref1Band) × Int × (Option Addr) × Nat) (fun m w s => F_etchhouseref1_Canonical_L1 N p0 y100 m s.1 s.2.1 = some r ∧ SlF s.2.2.1 (s.1).length s.2.2.2) (fun s => [(0, (.slice Ap0_0 (p0).length cp0_0)), (3, (.slice Ay100_0 (y100).length cy100_0)), (4, (.slice s.2.2.1 (s.1).length s.2.2.2)), (5, (iv s.2.1))]) (fun s => [(2, ow s.2.2.1 s.2.2.2 173 fl_Tetchhouseref1Band s.1)]) N (([] : List Tetchhouseref1Band), 1, none, 0) ⟨H, slf_nil⟩ (.r rfl) (.r rfl) (fun _ _ h => noSome (h.1)) ?_
 intro w leL1 mL1 s hs
 obtain ⟨l128, x129, Al128, cl128⟩ := s
 obtain ⟨H, hl128⟩ := hs
 replace H : F_etchhouseref1_Canonical_L1 N p0 y100 (mL1 + 1) l128 x129 = some r := H
 replace hp0_0 := hp0_0.leR leL1
 replace hgy100_0 := hgy100_0.le leL1
 replace leB := leB.trans leL1
 replace hl128 : SlF Al128 (l128).length cl128 := hl128
 rw [F_etchhouseref1_Canonical_L1.eq_2] at H
 show Tr _ _ (LF [(0, (.slice Ap0_0 (p0).length cp0_0)), (3, (.slice Ay100_0 (y100).length cy100_0)), (4, (.slice Al128 (l128).length cl128)), (5, (iv x129))]) (LE [(2, ow Al128 cl128 173 fl_Tetchhouseref1Band l128)]) _
 refine Tr.seq ?_
 refine Tr.sr ?_
 refine Tr.mv rfl rfl ?_
 refine Tr.mv rfl rfl ?_
 refine Tr.v1 rfl (run_len un_96) rfl ?_
 refine Tr.v2 rfl run_lss rfl rfl ?_
 refine Tr.nil (Tr.normThen ?_)
 refine Tr.cond rfl H (fun H => ?_) (fun H => ?_)
 ·refine Tr.skip (Tr.normThen ?_)
  refine Tr.seq ?_
  refine Tr.block ?_
  refine Tr.drawC 18 [] [] (by kernel_rfl) (by kernel_rfl) fun sz130 hlosz130 hEsz130 => ?_
  refine Dr.quiet 0 [(14, (.slice Al128 (l128).length cl128))] (by kernel_rfl) rfl rfl (by kernel_rfl) ?_ rfl rfl ?_
  ·refine Tq.mv rfl rfl ?_
   exact Tq.fin (.r rfl)
  refine Dr.quiet 1 [(15, (.slice Ay100_0 (y100).length cy100_0))] (by kernel_rfl) rfl rfl (by kernel_rfl) ?_ rfl rfl ?_
  ·refine Tq.mv rfl rfl ?_
   exact Tq.fin (.r rfl)
  refine Dr.quiet 2 [(16, (iv x129))] (by kernel_rfl) rfl rfl (by kernel_rfl) ?_ rfl rfl ?_
  ·refine Tq.mv rfl rfl ?_
   exact Tq.fin (.r rfl)
  refine Dr.quiet 3 [(17, (iv (w64 (x129 - 1))))] (by kernel_rfl) rfl rfl (by kernel_rfl) ?_ rfl rfl ?_
  ·refine Tq.v2 rfl run_sub rfl rfl ?_
   exact Tq.fin (.r rfl)
  obtain ⟨x131, hx131, H⟩ := bnd H
  obtain ⟨hx1310, hx1311, hx1312⟩ := idx_some hx131
  refine Dr.quiet 4 [(18, (.pointer (some ⟨adB Ay100_0, adO Ay100_0 + ((w64 (x129 - 1))).toNat * 1, none⟩)))] (by kernel_rfl) rfl rfl (by kernel_rfl) ?_ rfl rfl ?_
  ·refine Tq.va rfl (fun _ _ h1 h2 => run_indexAddr el_96 (h1.ev rfl) hgy100_0.form (h1.ev rfl) hx1310 hx1311) ?_
   exact Tq.fin (.r rfl)
  refine Dr.quiet 5 [(19, (iv x131))] (by kernel_rfl) rfl rfl (by kernel_rfl) ?_ rfl rfl ?_
  ·refine Tq.va rfl (fun _ _ h1 h2 => run_load1 ag_3 (h1.ev rfl) (rdF ef_i64 (hgy100_0.rl) hx1312 h2) rfl) ?_
   exact Tq.fin (.r rfl)
  refine Dr.quiet 6 [(20, (.slice Ay100_0 (y100).length cy100_0))] (by kernel_rfl) rfl rfl (by kernel_rfl) ?_ rfl rfl ?_
  ·refine Tq.mv rfl rfl ?_
   exact Tq.fin (.r rfl)
  refine Dr.quiet 7 [(21, (iv x129))] (by kernel_rfl) rfl rfl (by kernel_rfl) ?_ rfl rfl ?_
  ·refine Tq.mv rfl rfl ?_
   exact Tq.fin (.r rfl)
  obtain ⟨x132, hx132, H⟩ := bnd H
  obtain ⟨hx1320, hx1321, hx1322⟩ := idx_some hx132
  refine Dr.quiet 8 [(22, (.pointer (some ⟨adB Ay100_0, adO Ay100_0 + (x129).toNat * 1, none⟩)))] (by kernel_rfl) rfl rfl (by kernel_rfl) ?_ rfl rfl ?_
  ·refine Tq.va rfl (fun _ _ h1 h2 => run_indexAddr el_96 (h1.ev rfl) hgy100_0.form (h1.ev rfl) hx1320 hx1321) ?_
   exact Tq.fin (.r rfl)
  refine Dr.quiet 9 [(23, (iv x132))] (by kernel_rfl) rfl rfl (by kernel_rfl) ?_ rfl rfl ?_
  ·refine Tq.va rfl (fun _ _ h1 h2 => run_load1 ag_3 (h1.ev rfl) (rdF ef_i64 (hgy100_0.rl) hx1322 h2) rfl) ?_
   exact Tq.fin (.r rfl)
  refine Dr.quiet 10 [(24, (.slice Ap0_0 (p0).length cp0_0))] (by kernel_rfl) rfl rfl (by kernel_rfl) ?_ rfl rfl ?_
  ·refine Tq.mv rfl rfl ?_
   exact Tq.fin (.r rfl)
  refine Dr.quiet 11 [(25, (.slice Ay100_0 (y100).length cy100_0))] (by kernel_rfl) rfl rfl (by kernel_rfl) ?_ rfl rfl ?_
  ·refine Tq.mv rfl rfl ?_
   exact Tq.fin (.r rfl)
  refine Dr.quiet 12 [(26, (iv x129))] (by kernel_rfl) rfl rfl (by kernel_rfl) ?_ rfl rfl ?_
  ·refine Tq.mv rfl rfl ?_
   exact Tq.fin (.r rfl)
  refine Dr.quiet 13 [(27, (iv (w64 (x129 - 1))))] (by kernel_rfl) rfl rfl (by kernel_rfl) ?_ rfl rfl ?_
  ·refine Tq.v2 rfl run_sub rfl rfl ?_
   exact Tq.fin (.r rfl)
  obtain ⟨x133, hx133, H⟩ := bnd H
  obtain ⟨hx1330, hx1331, hx1332⟩ := idx_some hx133
  refine Dr.quiet 14 [(28, (.pointer (some ⟨adB Ay100_0, adO Ay100_0 + ((w64 (x129 - 1))).toNat * 1, none⟩)))] (by kernel_rfl) rfl rfl (by kernel_rfl) ?_ rfl rfl ?_
  ·refine Tq.va rfl (fun _ _ h1 h2 => run_indexAddr el_96 (h1.ev rfl) hgy100_0.form (h1.ev rfl) hx1330 hx1331) ?_
   exact Tq.fin (.r rfl)
  refine Dr.quiet 15 [(29, (iv x133))] (by kernel_rfl) rfl rfl (by kernel_rfl) ?_ rfl rfl ?_
  ·refine Tq.va rfl (fun _ _ h1 h2 => run_load1 ag_3 (h1.ev rfl) (rdF ef_i64 (hgy100_0.rl) hx1332 h2) rfl) ?_
   exact Tq.fin (.r rfl)
  obtain ⟨y134, hy134, H⟩ := bnd H
  refine Dr.one 16 (by kernel_rfl) ?_
  refine St.callM 16 [5] [emp] (U := (Option Addr × Nat)) (fun u => (.slice u.1 (y134).length u.2)) (fun u => SlF u.1 (y134).length u.2) (fun u => [ow u.1 u.2 220 fl_TSpan y134]) rfl (pk_cons rfl pk_nil) (fun _ => rfl) (insS_no rfl) rfl (wn rfl) rfl Tryz.call123 (evl_cons rfl (evl_cons rfl evl_nil)) (fun W hW hp hE => F_etchhouseref1_row_ok N p0 Ap0_0 cp0_0 (hp0_0.ext (hW.extS hp)) x133 y134 hy134 hE) ?_
  intro u hu hsy134
  obtain ⟨Ay134_0, cy134_0⟩ := u
  have gy134_0 := hu
  have hgy134_0 : SlF Ay134_0 (y134).length cy134_0 := gy134_0
  show Dr _ _ _ _ _ _ _ _ _ (uf _ 30 (.slice Ay134_0 (y134).length cy134_0)) (up _ 5 (ow Ay134_0 cy134_0 220 fl_TSpan y134))
  refine Dr.quiet 17 [(31, (.agg #[(iv x131), (iv x132), (.slice Ay134_0 (y134).length cy134_0)]))] (by kernel_rfl) rfl rfl (by kernel_rfl) ?_ rfl rfl ?_
  ·refine Tq.build (vs := [(0, (iv x131)), (1, (iv x132)), (2, (.slice Ay134_0 (y134).length cy134_0))]) (cs := [(iv x131), (iv x132), (.slice Ay134_0 (y134).length cy134_0)]) (wn rfl) rfl (evs_cons rfl (evs_cons rfl (evs_cons rfl evs_nil))) (by kernel_rfl) ?_
   exact Tq.fin (.r rfl)
  refine Dr.tail (by kernel_rfl) ?_
  refine Tr.freeze 5 rfl fun w le137 hz136 => ?_
  replace hp0_0 := hp0_0.leR le137
  replace hgy100_0 := hgy100_0.le le137
  replace leB := leB.trans le137
  replace leL1 := leL1.trans le137
  obtain ⟨y138, hy138, H⟩ := bnd H
  refine Tr.callG [2] [ow Al128 cl128 173 fl_Tetchhouseref1Band l128] (U := (Option Addr × Nat)) (fun u => (.slice u.1 (y138).length u.2)) (fun O W u => SlF u.1 (y138).length u.2) (fun u => [ow u.1 u.2 173 fl_Tetchhouseref1Band y138]) rfl (pk_cons rfl pk_nil) (fun _ => rfl) (wn rfl) rfl Tryz.call122 (evl_cons rfl (evl_cons rfl evl_nil)) (fun W hW hp hE => F_etchhouseref1_stacked_ok N l128 Al128 cl128 (Tetchhouseref1Band.mk x131 x132 y134) Ay134_0 cy134_0 (hz136.extO (hW.extS hp)) y138 hy138 hE) ?_
  intro w u le139 hu
  obtain ⟨Ay138_0, cy138_0⟩ := u
  have gy138_0 := hu
  replace hp0_0 := hp0_0.leR le139
  replace hgy100_0 := hgy100_0.le le139
  replace hz136 := hz136.le le139
  replace leB := leB.trans le139
  replace leL1 := leL1.trans le139
  have hgy138_0 : SlF Ay138_0 (y138).length cy138_0 := gy138_0 --@phi
  show Tr _ _ (uf _ 32 (.slice Ay138_0 (y138).length cy138_0)) (up _ 2 (ow Ay138_0 cy138_0 173 fl_Tetchhouseref1Band y138)) _
  refine Tr.asg rfl rfl ?_
  refine Tr.nil (Tr.normBlock (Tr.normThen ?_))
  refine Tr.region ?_
  refine Tr.mv rfl rfl ?_
  refine Tr.v2 rfl run_add rfl rfl ?_
  refine Tr.asg rfl rfl ?_
  refine Tr.nil ?_
  exact Tr.backThen leL1 (y138, (w64 (x129 + 1)), Ay138_0, cy138_0) ⟨H, hgy138_0⟩ (.r rfl) (.r rfl)
 ·refine Tr.exit (Tr.exitThen (Tr.exitThen (Tr.exitBlock (Tr.normThen ?_))))
  refine Tr.sr ?_
  refine Tr.mv rfl rfl ?_
  obtain ⟨y140, hy140, H⟩ := bnd H
  refine Tr.callM [6] [emp] (U := (Option Addr × Nat)) (fun u => (.slice u.1 (y140).length u.2)) (fun u => SlF u.1 (y140).length u.2) (fun u => [ow u.1 u.2 38 fl_TRect y140]) rfl (pk_cons rfl pk_nil) (fun _ => rfl) (wn rfl) rfl Tryz.call124 (evl_cons rfl evl_nil) (fun W hW hp hE => F_etchhouseref1_told_ok N l128 Al128 cl128 (hW.slS (k := 2) rfl hp rfl) y140 hy140 hE) ?_
  intro u hu
  obtain ⟨Ay140_0, cy140_0⟩ := u
  have gy140_0 := hu
  have hgy140_0 : SlF Ay140_0 (y140).length cy140_0 := gy140_0 --@phi
  show Tr _ _ (uf _ 34 (.slice Ay140_0 (y140).length cy140_0)) (up _ 6 (ow Ay140_0 cy140_0 38 fl_TRect y140)) _
  refine Tr.asg rfl rfl ?_
  refine Tr.nil (Tr.normThen ?_)
  refine Tr.ret ?_
  obtain rfl := Option.some.inj H
  exact Tr.out (m := [(.slice Ay140_0 (y140).length cy140_0)]) [] (res_tmp rfl res_nil) (fun W hW => ⟨(Ay140_0, cy140_0), rfl, hgy140_0, HF.lowE leB (hW.pick (ks := [6]) (by decide) (pk_cons rfl pk_nil)) ⟨ow_any _ _ _ _ tr_TRect, trivial⟩⟩)

theorem F_etchhouseref1_SameRects_ok (N : Nat) {w : Bs} (p0 : (List TRect)) (Ap0_0 : Option Addr) (cp0_0 : Nat) (hp0_0 : Sl w.R w.W fl_TRect Ap0_0 cp0_0 p0) (p1 : (List TRect)) (Ap1_0 : Option Addr) (cp1_0 : Nat) (hp1_0 : Sl w.R w.W fl_TRect Ap1_0 cp1_0 p1) (r : Bool) (H : F_etchhouseref1_SameRects N p0 p1 = some r) (hE : HF w w.W E0) : Calls Tryz.prog 22 [(.slice Ap0_0 (p0).length cp0_0), (.slice Ap1_0 (p1).length cp1_0)].toArray w.W fun e W' => e = .returned (.bool r) ∧ HF w W' E0 := by
 unfold F_etchhouseref1_SameRects at H
 have leB := Bs.Le.refl w
 refine Tr.enter (n := 26) Tryz.func22 rfl rfl rfl hE ?_
 refine Tr.sr ?_
 refine Tr.asg rfl rfl ?_
 refine Tr.nil (Tr.normThen ?_)
 refine Tr.seq ?_
 refine Tr.sr ?_
 refine Tr.mv rfl rfl ?_
 refine Tr.v1 rfl (run_len un_22) rfl ?_
 refine Tr.mv rfl rfl ?_
 refine Tr.v1 rfl (run_len un_22) rfl ?_
 refine Tr.v2 rfl run_neq rfl rfl ?_
 refine Tr.nil (Tr.normThen ?_)
 refine Tr.cond rfl H (fun H => ?_) (fun H => ?_)
 ·refine Tr.sr ?_
  refine Tr.asg rfl rfl ?_
  refine Tr.nil (Tr.normThen ?_)
  refine Tr.ret (Tr.retThen ?_)
  obtain rfl := Option.some.inj H
  exact Tr.out (m := [(.bool false)]) [] (res_tmp rfl res_nil) (fun W hW => ⟨rfl, hW.low leB⟩)
 ·refine Tr.skip (Tr.normThen ?_)
  refine Tr.seq ?_
  refine Tr.sr ?_
  refine Tr.asg rfl rfl ?_
  refine Tr.nil (Tr.normThen ?_)
  refine Tr.block ?_
  refine Tr.loop (σ := Int) (fun m w s => F_etchhouseref1_SameRects_L1 p0 p1 m s = some r) (fun s => [(0, (.slice Ap0_0 (p0).length cp0_0)), (1, (.slice Ap1_0 (p1).length cp1_0)), (5, (iv s))]) (fun s => []) N 0 H (.r rfl) .nil (fun _ _ h => noSome (h)) ?_
  intro w leL1 mL1 x107 hs
  have H := hs
  replace H : F_etchhouseref1_SameRects_L1 p0 p1 (mL1 + 1) x107 = some r := H
  replace hp0_0 := hp0_0.leR leL1
  replace hp1_0 := hp1_0.leR leL1
  replace leB := leB.trans leL1
  rw [F_etchhouseref1_SameRects_L1.eq_2] at H
  show Tr _ _ (LF [(0, (.slice Ap0_0 (p0).length cp0_0)), (1, (.slice Ap1_0 (p1).length cp1_0)), (5, (iv x107))]) (LE []) _
  refine Tr.seq ?_
  refine Tr.sr ?_
  refine Tr.mv rfl rfl ?_
  refine Tr.mv rfl rfl ?_
  refine Tr.v1 rfl (run_len un_22) rfl ?_
  refine Tr.v2 rfl run_lss rfl rfl ?_
  refine Tr.nil (Tr.normThen ?_)
  refine Tr.cond rfl H (fun H => ?_) (fun H => ?_)
  ·refine Tr.skip (Tr.normThen ?_)
   refine Tr.seq ?_
   refine Tr.block ?_
   refine Tr.seq ?_
   refine Tr.draw (by kernel_rfl) (by kernel_rfl) ?_
   refine Tq.mv rfl rfl ?_
   refine Tq.mv rfl rfl ?_
   obtain ⟨x108, hx108, H⟩ := bnd H
   obtain ⟨hx1080, hx1081, hx1082⟩ := idx_some hx108
   refine Tq.va rfl (fun _ _ h1 h2 => run_indexAddr el_22 (h1.ev rfl) hp0_0.form (h1.ev rfl) hx1080 hx1081) ?_
   refine Tq.va rfl (fun _ _ h1 h2 => run_loadN (cs := [(iv x108.X0), (iv x108.Y0), (iv x108.X1), (iv x108.Y1)]) ag_38 sz_38 (h1.ev rfl) (CellsAt.take (rdF ef_TRect hp0_0 hx1082 h2) 4) rfl) ?_
   refine Tq.mv rfl rfl ?_
   refine Tq.mv rfl rfl ?_
   obtain ⟨x109, hx109, H⟩ := bnd H
   obtain ⟨hx1090, hx1091, hx1092⟩ := idx_some hx109
   refine Tq.va rfl (fun _ _ h1 h2 => run_indexAddr el_22 (h1.ev rfl) hp1_0.form (h1.ev rfl) hx1090 hx1091) ?_
   refine Tq.va rfl (fun _ _ h1 h2 => run_loadN (cs := [(iv x109.X0), (iv x109.Y0), (iv x109.X1), (iv x109.Y1)]) ag_38 sz_38 (h1.ev rfl) (CellsAt.take (rdF ef_TRect hp1_0 hx1092 h2) 4) rfl) ?_
   refine Tq.v2 rfl (run_neq_38 x108 x109) rfl rfl ?_
   refine Tq.nil (Tr.normThen ?_)
   refine Tr.cond rfl H (fun H => ?_) (fun H => ?_)
   ·refine Tr.sr ?_
    refine Tr.asg rfl rfl ?_
    refine Tr.nil (Tr.normThen ?_)
    refine Tr.ret (Tr.retBlock (Tr.retThen (Tr.retThen (Tr.retBlock (Tr.retThen ?_)))))
    obtain rfl := Option.some.inj H
    exact Tr.out (m := [(.bool false)]) [] (res_tmp rfl res_nil) (fun W hW => ⟨rfl, hW.low leB⟩)
   ·refine Tr.skip (Tr.normBlock (Tr.normThen ?_))
    refine Tr.region ?_
    refine Tr.mv rfl rfl ?_
    refine Tr.v2 rfl run_add rfl rfl ?_
    refine Tr.asg rfl rfl ?_
    refine Tr.nil ?_
    exact Tr.backThen leL1 (w64 (x107 + 1)) H (.r rfl) .nil
  ·refine Tr.exit (Tr.exitThen (Tr.exitThen (Tr.exitBlock (Tr.normThen ?_))))
   refine Tr.sr ?_
   refine Tr.asg rfl rfl ?_
   refine Tr.nil (Tr.normThen ?_)
   refine Tr.ret ?_
   obtain rfl := Option.some.inj H
   exact Tr.out (m := [(.bool true)]) [] (res_tmp rfl res_nil) (fun W hW => ⟨rfl, hW.low leB⟩)

theorem F_etchhouseref1_CheckRegion_ok (N : Nat) {w : Bs} (p0 : (List TRect)) (Ap0_0 : Option Addr) (cp0_0 : Nat) (hp0_0 : Sl w.R w.W fl_TRect Ap0_0 cp0_0 p0) (r : Int) (H : F_etchhouseref1_CheckRegion N p0 = some r) (hE : HF w w.W E0) : Calls Tryz.prog 36 [(.slice Ap0_0 (p0).length cp0_0)].toArray w.W fun e W' => e = .returned (iv r) ∧ HF w W' E0 := by
 unfold F_etchhouseref1_CheckRegion at H
 have leB := Bs.Le.refl w
 refine Tr.enter (n := 32) Tryz.func36 rfl rfl rfl hE ?_
 refine Tr.sr ?_
 refine Tr.asg rfl rfl ?_
 refine Tr.nil (Tr.normThen ?_)
 refine Tr.seq ?_
 refine Tr.sr ?_
 refine Tr.mv rfl rfl ?_
 obtain ⟨y100, hy100, H⟩ := bnd H
 refine Tr.call0 (r := (iv y100)) (wn rfl) rfl Tryz.call79 (evl_cons rfl evl_nil) (fun W hW => F_etchhouseref1_CheckRects_ok N p0 Ap0_0 cp0_0 (hp0_0.ext hW.extAll) y100 hy100 (HF.start _)) ?_
 refine Tr.asg rfl rfl ?_
 refine Tr.nil (Tr.normThen ?_)
 refine Tr.sr ?_
 refine Tr.mv rfl rfl ?_
 refine Tr.v2 rfl run_neq rfl rfl ?_
 refine Tr.nil (Tr.normThen ?_)
 refine Tr.cond rfl H (fun H => ?_) (fun H => ?_)
 ·refine Tr.sr ?_
  refine Tr.mv rfl rfl ?_
  refine Tr.asg rfl rfl ?_
  refine Tr.nil (Tr.normThen ?_)
  refine Tr.ret (Tr.retThen ?_)
  obtain rfl := Option.some.inj H
  exact Tr.out (m := [(iv y100)]) [] (res_tmp rfl res_nil) (fun W hW => ⟨rfl, hW.low leB⟩)
 ·refine Tr.skip (Tr.normThen ?_)
  refine Tr.seq ?_
  refine Tr.sr ?_
  refine Tr.asg rfl rfl ?_
  refine Tr.nil (Tr.normThen ?_)
  refine Tr.block ?_
  refine Tr.loop (σ := Int) (fun m w s => F_etchhouseref1_CheckRegion_L1 N p0 m s = some r) (fun s => [(0, (.slice Ap0_0 (p0).length cp0_0)), (4, (iv s))]) (fun s => []) N 1 H (.r rfl) .nil (fun _ _ h => noSome (h)) ?_
  intro w leL1 mL1 x110 hs
  have H := hs
  replace H : F_etchhouseref1_CheckRegion_L1 N p0 (mL1 + 1) x110 = some r := H
  replace hp0_0 := hp0_0.leR leL1
  replace leB := leB.trans leL1
  rw [F_etchhouseref1_CheckRegion_L1.eq_2] at H
  show Tr _ _ (LF [(0, (.slice Ap0_0 (p0).length cp0_0)), (4, (iv x110))]) (LE []) _
  refine Tr.seq ?_
  refine Tr.sr ?_
  refine Tr.mv rfl rfl ?_
  refine Tr.mv rfl rfl ?_
  refine Tr.v1 rfl (run_len un_22) rfl ?_
  refine Tr.v2 rfl run_lss rfl rfl ?_
  refine Tr.nil (Tr.normThen ?_)
  refine Tr.cond rfl H (fun H => ?_) (fun H => ?_)
  ·refine Tr.skip (Tr.normThen ?_)
   refine Tr.seq ?_
   refine Tr.block ?_
   refine Tr.seq ?_
   refine Tr.draw (by kernel_rfl) (by kernel_rfl) ?_
   refine Tq.mv rfl rfl ?_
   refine Tq.mv rfl rfl ?_
   refine Tq.v2 rfl run_sub rfl rfl ?_
   obtain ⟨x111, hx111, H⟩ := bnd H
   obtain ⟨hx1110, hx1111, hx1112⟩ := idx_some hx111
   refine Tq.va rfl (fun _ _ h1 h2 => run_indexAddr el_22 (h1.ev rfl) hp0_0.form (h1.ev rfl) hx1110 hx1111) ?_
   refine Tq.va rfl (fun _ _ h1 h2 => run_loadN (cs := [(iv x111.X0), (iv x111.Y0), (iv x111.X1), (iv x111.Y1)]) ag_38 sz_38 (h1.ev rfl) (CellsAt.take (rdF ef_TRect hp0_0 hx1112 h2) 4) rfl) ?_
   refine Tq.mv rfl rfl ?_
   refine Tq.mv rfl rfl ?_
   obtain ⟨x112, hx112, H⟩ := bnd H
   obtain ⟨hx1120, hx1121, hx1122⟩ := idx_some hx112
   refine Tq.va rfl (fun _ _ h1 h2 => run_indexAddr el_22 (h1.ev rfl) hp0_0.form (h1.ev rfl) hx1120 hx1121) ?_
   refine Tq.va rfl (fun _ _ h1 h2 => run_loadN (cs := [(iv x112.X0), (iv x112.Y0), (iv x112.X1), (iv x112.Y1)]) ag_38 sz_38 (h1.ev rfl) (CellsAt.take (rdF ef_TRect hp0_0 hx1122 h2) 4) rfl) ?_
   obtain ⟨y113, hy113, H⟩ := bnd H
   refine Tq.call0 (r := (.bool y113)) (wn rfl) rfl Tryz.call80 (evl_cons rfl (evl_cons rfl evl_nil)) (fun W hW => F_etchhouseref1_before_ok x111 x112 y113 hy113 (HF.start _)) ?_
   refine Tq.v1 rfl run_not rfl ?_
   refine Tq.nil (Tr.normThen ?_)
   refine Tr.cond rfl H (fun H => ?_) (fun H => ?_)
   ·refine Tr.sr ?_
    refine Tr.asg rfl rfl ?_
    refine Tr.nil (Tr.normThen ?_)
    refine Tr.ret (Tr.retBlock (Tr.retThen (Tr.retThen (Tr.retBlock (Tr.retThen ?_)))))
    obtain rfl := Option.some.inj H
    exact Tr.out (m := [(iv 8)]) [] (res_tmp rfl res_nil) (fun W hW => ⟨rfl, hW.low leB⟩)
   ·refine Tr.skip (Tr.normBlock (Tr.normThen ?_))
    refine Tr.region ?_
    refine Tr.mv rfl rfl ?_
    refine Tr.v2 rfl run_add rfl rfl ?_
    refine Tr.asg rfl rfl ?_
    refine Tr.nil ?_
    exact Tr.backThen leL1 (w64 (x110 + 1)) H (.r rfl) .nil
  ·refine Tr.exit (Tr.exitThen (Tr.exitThen (Tr.exitBlock (Tr.normThen ?_))))
   refine Tr.seq ?_
   refine Tr.sr ?_
   refine Tr.mv rfl rfl ?_
   refine Tr.mv rfl rfl ?_
   obtain ⟨y114, hy114, H⟩ := bnd H
   refine Tr.callM [1] [emp] (U := (Option Addr × Nat)) (fun u => (.slice u.1 (y114).length u.2)) (fun u => SlF u.1 (y114).length u.2) (fun u => [ow u.1 u.2 38 fl_TRect y114]) rfl (pk_cons rfl pk_nil) (fun _ => rfl) (wn rfl) rfl Tryz.call81 (evl_cons rfl evl_nil) (fun W hW hp hE => F_etchhouseref1_Canonical_ok N p0 Ap0_0 cp0_0 (hp0_0.ext (hW.extS hp)) y114 hy114 hE) ?_
   intro u hu
   obtain ⟨Ay114_0, cy114_0⟩ := u
   have gy114_0 := hu
   have hgy114_0 : SlF Ay114_0 (y114).length cy114_0 := gy114_0 --@phi
   show Tr _ _ (uf _ 29 (.slice Ay114_0 (y114).length cy114_0)) (up _ 1 (ow Ay114_0 cy114_0 38 fl_TRect y114)) _
   obtain ⟨y116, hy116, H⟩ := bnd H
   refine Tr.call0 (r := (.bool y116)) (wn rfl) rfl Tryz.call22 (evl_cons rfl (evl_cons rfl evl_nil)) (fun W hW => F_etchhouseref1_SameRects_ok N p0 Ap0_0 cp0_0 (hp0_0.ext hW.extAll) y114 Ay114_0 cy114_0 (hW.slCall (k := 1) rfl) y116 hy116 (HF.start _)) ?_
   refine Tr.v1 rfl run_not rfl ?_
   refine Tr.nil (Tr.normThen ?_)
   refine Tr.cond rfl H (fun H => ?_) (fun H => ?_)
   ·refine Tr.sr ?_
    refine Tr.asg rfl rfl ?_
    refine Tr.nil (Tr.normThen ?_)
    refine Tr.ret (Tr.retThen ?_)
    obtain rfl := Option.some.inj H
    exact Tr.out (m := [(iv 3)]) [] (res_tmp rfl res_nil) (fun W hW => ⟨rfl, hW.low leB⟩)
   ·refine Tr.skip (Tr.normThen ?_)
    refine Tr.sr ?_
    refine Tr.asg rfl rfl ?_
    refine Tr.nil (Tr.normThen ?_)
    refine Tr.ret ?_
    obtain rfl := Option.some.inj H
    exact Tr.out (m := [(iv 0)]) [] (res_tmp rfl res_nil) (fun W hW => ⟨rfl, hW.low leB⟩)

theorem F_etchhouseref1_inside_ok (N : Nat) {w : Bs} (p0 : (List TSpan)) (Ap0_0 : Option Addr) (cp0_0 : Nat) (hp0_0 : Sl w.R w.W fl_TSpan Ap0_0 cp0_0 p0) (p1 : Int) (r : Bool) (H : F_etchhouseref1_inside N p0 p1 = some r) (hE : HF w w.W E0) : Calls Tryz.prog 175 [(.slice Ap0_0 (p0).length cp0_0), (iv p1)].toArray w.W fun e W' => e = .returned (.bool r) ∧ HF w W' E0 := by
 unfold F_etchhouseref1_inside at H
 have leB := Bs.Le.refl w
 refine Tr.enter (n := 28) Tryz.func175 rfl rfl rfl hE ?_
 refine Tr.sr ?_
 refine Tr.asg rfl rfl ?_
 refine Tr.nil (Tr.normThen ?_)
 refine Tr.seq ?_
 refine Tr.sr ?_
 refine Tr.asg rfl rfl ?_
 refine Tr.nil (Tr.normThen ?_)
 refine Tr.block ?_
 refine Tr.loop (σ := Int) (fun m w s => F_etchhouseref1_inside_L1 p0 p1 m s = some r) (fun s => [(0, (.slice Ap0_0 (p0).length cp0_0)), (1, (iv p1)), (5, (iv s))]) (fun s => []) N 0 H (.r rfl) .nil (fun _ _ h => noSome (h)) ?_
 intro w leL1 mL1 x111 hs
 have H := hs
 replace H : F_etchhouseref1_inside_L1 p0 p1 (mL1 + 1) x111 = some r := H
 replace hp0_0 := hp0_0.leR leL1
 replace leB := leB.trans leL1
 rw [F_etchhouseref1_inside_L1.eq_2] at H
 show Tr _ _ (LF [(0, (.slice Ap0_0 (p0).length cp0_0)), (1, (iv p1)), (5, (iv x111))]) (LE []) _
 refine Tr.seq ?_
 refine Tr.sr ?_
 refine Tr.mv rfl rfl ?_
 refine Tr.mv rfl rfl ?_
 refine Tr.v1 rfl (run_len un_170) rfl ?_
 refine Tr.v2 rfl run_lss rfl rfl ?_
 refine Tr.nil (Tr.normThen ?_)
 refine Tr.cond rfl H (fun H => ?_) (fun H => ?_)
 ·refine Tr.skip (Tr.normThen ?_)
  refine Tr.seq ?_
  refine Tr.block ?_
  refine Tr.sr ?_
  refine Tr.mv rfl rfl ?_
  refine Tr.mv rfl rfl ?_
  obtain ⟨x112, hx112, H⟩ := bnd H
  obtain ⟨hx1120, hx1121, hx1122⟩ := idx_some hx112
  refine Tr.va rfl (fun _ _ h1 h2 => run_indexAddr el_170 (h1.ev rfl) hp0_0.form (h1.ev rfl) hx1120 hx1121) ?_
  refine Tr.v1 rfl (run_fieldAddr fo_220_0) rfl ?_
  refine Tr.va rfl (fun _ _ h1 h2 => run_load1 ag_3 (h1.ev rfl) (CellsAt.drop (rdF ef_TSpan hp0_0 hx1122 h2) 0) rfl) ?_
  refine Tr.mv rfl rfl ?_
  refine Tr.v2 rfl run_leq rfl rfl ?_
  refine Tr.mv rfl rfl ?_
  obtain ⟨g114, hg114, H⟩ := bnd H
  refine Tr.mid0 8 [(0, (.slice Ap0_0 (p0).length cp0_0)), (1, (iv p1)), (5, (iv x111)), (27, (.bool g114))] [] ?_ ?_
  ·cases hg115 : (decide (x112.from_ ≤ p1))
   ·rw [hg115] at hg114
    rw [if_neg (by decide)] at hg114
    have H := hg114
    obtain rfl := Option.some.inj H
    refine Tr.ps ?_
    refine Tr.ps ?_
    refine Tr.ps ?_
    refine Tr.ps ?_
    refine Tr.ps ?_
    refine Tr.ps ?_
    refine Tr.ps ?_
    refine Tr.v2 rfl run_pickF rfl rfl ?_
    exact Tr.nil (Tr.fin0 (.r rfl) .nil)
   ·rw [hg115] at hg114
    rw [if_pos rfl] at hg114
    have H := hg114
    refine Tr.w1 (wg rfl rfl rfl) rfl run_move rfl ?_
    refine Tr.w1 (wg rfl rfl rfl) rfl run_move rfl ?_
    refine Tr.w1 (wg rfl rfl rfl) rfl run_move rfl ?_
    obtain ⟨x115, hx115, H⟩ := bnd H
    obtain ⟨hx1150, hx1151, hx1152⟩ := idx_some hx115
    refine Tr.val (wg rfl rfl rfl) rfl (fun _ _ h1 h2 => run_indexAddr el_170 (h1.ev rfl) hp0_0.form (h1.ev rfl) hx1150 hx1151) ?_
    refine Tr.w1 (wg rfl rfl rfl) rfl (run_fieldAddr fo_220_1) rfl ?_
    refine Tr.val (wg rfl rfl rfl) rfl (fun _ _ h1 h2 => run_load1 ag_3 (h1.ev rfl) (CellsAt.drop (rdF ef_TSpan hp0_0 hx1152 h2) 1) rfl) ?_
    refine Tr.w2 (wg rfl rfl rfl) rfl run_lss rfl rfl ?_
    refine Tr.v2 rfl run_pickT rfl rfl ?_
    obtain rfl := Option.some.inj H
    exact Tr.nil (Tr.fin0 (.r rfl) .nil)
  ·show Tr _ _ (LF [(0, (.slice Ap0_0 (p0).length cp0_0)), (1, (iv p1)), (5, (iv x111)), (27, (.bool g114))]) (LE []) _
   refine Tr.nil (Tr.normThen ?_)
   refine Tr.cond rfl H (fun H => ?_) (fun H => ?_)
   ·refine Tr.sr ?_
    refine Tr.asg rfl rfl ?_
    refine Tr.nil (Tr.normThen ?_)
    refine Tr.ret (Tr.retBlock (Tr.retThen (Tr.retThen (Tr.retBlock (Tr.retThen ?_)))))
    obtain rfl := Option.some.inj H
    exact Tr.out (m := [(.bool true)]) [] (res_tmp rfl res_nil) (fun W hW => ⟨rfl, hW.low leB⟩)
   ·refine Tr.skip (Tr.normBlock (Tr.normThen ?_))
    refine Tr.region ?_
    refine Tr.mv rfl rfl ?_
    refine Tr.v2 rfl run_add rfl rfl ?_
    refine Tr.asg rfl rfl ?_
    refine Tr.nil ?_
    exact Tr.backThen leL1 (w64 (x111 + 1)) H (.r rfl) .nil
 ·refine Tr.exit (Tr.exitThen (Tr.exitThen (Tr.exitBlock (Tr.normThen ?_))))
  refine Tr.sr ?_
  refine Tr.asg rfl rfl ?_
  refine Tr.nil (Tr.normThen ?_)
  refine Tr.ret ?_
  obtain rfl := Option.some.inj H
  exact Tr.out (m := [(.bool false)]) [] (res_tmp rfl res_nil) (fun W hW => ⟨rfl, hW.low leB⟩)

theorem F_etchhouseref1_cellsOf_ok (N : Nat) {w : Bs} (p0 : (List TRect)) (Ap0_0 : Option Addr) (cp0_0 : Nat) (hp0_0 : Sl w.R w.W fl_TRect Ap0_0 cp0_0 p0) (r : TCells) (H : F_etchhouseref1_cellsOf N p0 = some r) (hE : HF w w.W (LEn [emp])) : Calls Tryz.prog 125 [(.slice Ap0_0 (p0).length cp0_0)].toArray w.W fun e W' => ∃ (w' : Bs) (u : (Option Addr × Nat) × (Option Addr × Nat) × (Option Addr × Nat)), w.Le w' ∧ e = .returned (.agg #[(.slice u.1.1 (r.xs).length u.1.2), (.slice u.2.1.1 (r.ys).length u.2.1.2), (.slice u.2.2.1 (r.in_).length u.2.2.2)]) ∧ (Sl w'.O w'.W fl_i64 u.1.1 u.1.2 r.xs ∧ Sl w'.O w'.W fl_i64 u.2.1.1 u.2.1.2 r.ys ∧ SlF u.2.2.1 (r.in_).length u.2.2.2) ∧ HF w' W' (LEn [ow u.2.2.1 u.2.2.2 126 fl_Lbool r.in_]) := by
 unfold F_etchhouseref1_cellsOf at H
 have leB := Bs.Le.refl w
 refine Tr.enter (n := 90) Tryz.func125 rfl rfl rfl hE ?_
 refine Tr.sr ?_
 refine Tr.alloc 1 (wn rfl) rfl ze_177 fun b100 => ?_
 refine Tr.nil (Tr.normThen ?_)
 refine Tr.sr ?_
 refine Tr.alloc 2 (wn rfl) rfl ze_177 fun b101 => ?_
 refine Tr.nil (Tr.normThen ?_)
 refine Tr.seq ?_
 refine Tr.sr ?_
 refine Tr.asg rfl rfl ?_
 refine Tr.nil (Tr.normThen ?_)
 refine Tr.block ?_
 refine Tr.loop (σ := (List Int) × (List Int) × Int × (Option Addr) × Nat × (Option Addr) × Nat) (fun m w s => F_etchhouseref1_cellsOf_L1 N p0 m s.1 s.2.1 s.2.2.1 = some r ∧ Sl w.O w.W fl_i64 s.2.2.2.1 s.2.2.2.2.1 s.1 ∧ Sl w.O w.W fl_i64 s.2.2.2.2.2.1 s.2.2.2.2.2.2 s.2.1) (fun s => [(0, (.slice Ap0_0 (p0).length cp0_0)), (2, (.pointer (some ⟨b100, 0, none⟩))), (3, (.pointer (some ⟨b101, 0, none⟩))), (4, (iv s.2.2.1))]) (fun s => [(1, bx b100 #[(.slice none 0 0), (.slice none 0 0), (.slice none 0 0)] 177), (2, bx b101 #[(.slice s.2.2.2.1 (s.1).length s.2.2.2.2.1), (.slice s.2.2.2.2.2.1 (s.2.1).length s.2.2.2.2.2.2), (.slice none 0 0)] 177)]) N ([], [], 0, none, 0, none, 0) ⟨H, (Sl.nil _ _ _), (Sl.nil _ _ _)⟩ (.r rfl) (.r rfl) (fun _ _ h => noSome (h.1)) ?_
 intro w leL1 mL1 s hs
 obtain ⟨l139, l140, x141, Al139, cl139, Al140, cl140⟩ := s
 obtain ⟨H, hl139, hl140⟩ := hs
 replace H : F_etchhouseref1_cellsOf_L1 N p0 (mL1 + 1) l139 l140 x141 = some r := H
 replace hp0_0 := hp0_0.leR leL1
 replace leB := leB.trans leL1
 replace hl139 : Sl w.O w.W fl_i64 Al139 cl139 l139 := hl139
 replace hl140 : Sl w.O w.W fl_i64 Al140 cl140 l140 := hl140
 rw [F_etchhouseref1_cellsOf_L1.eq_2] at H
 show Tr _ _ (LF [(0, (.slice Ap0_0 (p0).length cp0_0)), (2, (.pointer (some ⟨b100, 0, none⟩))), (3, (.pointer (some ⟨b101, 0, none⟩))), (4, (iv x141))]) (LE [(1, bx b100 #[(.slice none 0 0), (.slice none 0 0), (.slice none 0 0)] 177), (2, bx b101 #[(.slice Al139 (l139).length cl139), (.slice Al140 (l140).length cl140), (.slice none 0 0)] 177)]) _
 refine Tr.seq ?_
 refine Tr.sr ?_
 refine Tr.mv rfl rfl ?_
 refine Tr.mv rfl rfl ?_
 refine Tr.v1 rfl (run_len un_22) rfl ?_
 refine Tr.v2 rfl run_lss rfl rfl ?_
 refine Tr.nil (Tr.normThen ?_)
 refine Tr.cond rfl H (fun H => ?_) (fun H => ?_)
 ·refine Tr.skip (Tr.normThen ?_)
  refine Tr.seq ?_
  refine Tr.block ?_
  refine Tr.seq ?_
  refine Tr.drawC 13 [] [] (by kernel_rfl) (by kernel_rfl) fun sz142 hlosz142 hEsz142 => ?_
  refine Dr.quiet 0 [(15, (.pointer (some ⟨b101, 0, none⟩)))] (by kernel_rfl) rfl rfl (by kernel_rfl) ?_ rfl rfl ?_
  ·refine Tq.v1 rfl (run_fieldAddr fo_177_0) rfl ?_
   exact Tq.fin (.r rfl)
  refine Dr.quiet 1 [(16, (.slice Al139 (l139).length cl139))] (by kernel_rfl) rfl rfl (by kernel_rfl) ?_ rfl rfl ?_
  ·refine Tq.va rfl (fun _ _ h1 h2 => run_load1 ag_96 (h1.ev rfl) (rdb h2 (vs := [(.slice Al139 (l139).length cl139), (.slice Al140 (l140).length cl140), (.slice none 0 0)]) (k := 2) rfl 0) rfl) ?_
   exact Tq.fin (.r rfl)
  refine Dr.quiet 2 [(17, (.slice Ap0_0 (p0).length cp0_0))] (by kernel_rfl) rfl rfl (by kernel_rfl) ?_ rfl rfl ?_
  ·refine Tq.mv rfl rfl ?_
   exact Tq.fin (.r rfl)
  refine Dr.quiet 3 [(18, (iv x141))] (by kernel_rfl) rfl rfl (by kernel_rfl) ?_ rfl rfl ?_
  ·refine Tq.mv rfl rfl ?_
   exact Tq.fin (.r rfl)
  obtain ⟨x143, hx143, H⟩ := bnd H
  obtain ⟨hx1430, hx1431, hx1432⟩ := idx_some hx143
  refine Dr.quiet 4 [(19, (.pointer (some ⟨adB Ap0_0, adO Ap0_0 + (x141).toNat * 4, none⟩)))] (by kernel_rfl) rfl rfl (by kernel_rfl) ?_ rfl rfl ?_
  ·refine Tq.va rfl (fun _ _ h1 h2 => run_indexAddr el_22 (h1.ev rfl) hp0_0.form (h1.ev rfl) hx1430 hx1431) ?_
   exact Tq.fin (.r rfl)
  refine Dr.quiet 5 [(20, (.pointer (some ⟨adB Ap0_0, adO Ap0_0 + (x141).toNat * 4 + 0, none⟩)))] (by kernel_rfl) rfl rfl (by kernel_rfl) ?_ rfl rfl ?_
  ·refine Tq.v1 rfl (run_fieldAddr fo_38_0) rfl ?_
   exact Tq.fin (.r rfl)
  refine Dr.quiet 6 [(21, (iv x143.X0))] (by kernel_rfl) rfl rfl (by kernel_rfl) ?_ rfl rfl ?_
  ·refine Tq.va rfl (fun _ _ h1 h2 => run_load1 ag_3 (h1.ev rfl) (CellsAt.drop (rdF ef_TRect hp0_0 hx1432 h2) 0) rfl) ?_
   exact Tq.fin (.r rfl)
  refine Dr.quiet 8 [(23, (.slice Ap0_0 (p0).length cp0_0))] (by kernel_rfl) rfl rfl (by kernel_rfl) ?_ rfl rfl ?_
  ·refine Tq.mv rfl rfl ?_
   exact Tq.fin (.r rfl)
  refine Dr.quiet 9 [(24, (iv x141))] (by kernel_rfl) rfl rfl (by kernel_rfl) ?_ rfl rfl ?_
  ·refine Tq.mv rfl rfl ?_
   exact Tq.fin (.r rfl)
  obtain ⟨x144, hx144, H⟩ := bnd H
  obtain ⟨hx1440, hx1441, hx1442⟩ := idx_some hx144
  refine Dr.quiet 10 [(25, (.pointer (some ⟨adB Ap0_0, adO Ap0_0 + (x141).toNat * 4, none⟩)))] (by kernel_rfl) rfl rfl (by kernel_rfl) ?_ rfl rfl ?_
  ·refine Tq.va rfl (fun _ _ h1 h2 => run_indexAddr el_22 (h1.ev rfl) hp0_0.form (h1.ev rfl) hx1440 hx1441) ?_
   exact Tq.fin (.r rfl)
  refine Dr.quiet 11 [(26, (.pointer (some ⟨adB Ap0_0, adO Ap0_0 + (x141).toNat * 4 + 2, none⟩)))] (by kernel_rfl) rfl rfl (by kernel_rfl) ?_ rfl rfl ?_
  ·refine Tq.v1 rfl (run_fieldAddr fo_38_2) rfl ?_
   exact Tq.fin (.r rfl)
  refine Dr.quiet 12 [(27, (iv x144.X1))] (by kernel_rfl) rfl rfl (by kernel_rfl) ?_ rfl rfl ?_
  ·refine Tq.va rfl (fun _ _ h1 h2 => run_load1 ag_3 (h1.ev rfl) (CellsAt.drop (rdF ef_TRect hp0_0 hx1442 h2) 2) rfl) ?_
   exact Tq.fin (.r rfl)
  obtain ⟨y145, hy145, H⟩ := bnd H
  refine Dr.one 7 (by kernel_rfl) ?_
  refine St.callG 7 [] [] (U := (Option Addr × Nat)) (fun u => (.slice u.1 (y145).length u.2)) (fun O W u => Sl O W fl_i64 u.1 u.2 y145) (fun u => []) rfl pk_nil (fun _ => rfl) (insS_no rfl) rfl (wn rfl) rfl Tryz.call172 (evl_cons rfl (evl_cons rfl evl_nil)) (fun W hW hp hE => F_etchhouseref1_put_ok N l139 Al139 cl139 (hl139.extO (hW.extS hp)) x143.X0 y145 hy145 hE) ?_
  intro w u le146 hu hsy145
  obtain ⟨Ay145_0, cy145_0⟩ := u
  have gy145_0 := hu
  replace hp0_0 := hp0_0.leR le146
  replace hl139 := hl139.le le146
  replace hl140 := hl140.le le146
  replace leB := leB.trans le146
  replace leL1 := leL1.trans le146
  have hgy145_0 : Sl w.O w.W fl_i64 Ay145_0 cy145_0 y145 := gy145_0
  show Dr _ _ _ _ _ _ _ _ _ (uf _ 22 (.slice Ay145_0 (y145).length cy145_0)) (_)
  refine Dr.tail (by kernel_rfl) ?_
  obtain ⟨y147, hy147, H⟩ := bnd H
  refine Tr.callG [] [] (U := (Option Addr × Nat)) (fun u => (.slice u.1 (y147).length u.2)) (fun O W u => Sl O W fl_i64 u.1 u.2 y147) (fun u => []) rfl pk_nil (fun _ => rfl) (wn rfl) rfl Tryz.call172 (evl_cons rfl (evl_cons rfl evl_nil)) (fun W hW hp hE => F_etchhouseref1_put_ok N y145 Ay145_0 cy145_0 (hgy145_0.extO (hW.extS hp)) x144.X1 y147 hy147 hE) ?_
  intro w u le148 hu
  obtain ⟨Ay147_0, cy147_0⟩ := u
  have gy147_0 := hu
  replace hp0_0 := hp0_0.leR le148
  replace hl139 := hl139.le le148
  replace hl140 := hl140.le le148
  replace hgy145_0 := hgy145_0.le le148
  replace leB := leB.trans le148
  replace leL1 := leL1.trans le148
  have hgy147_0 : Sl w.O w.W fl_i64 Ay147_0 cy147_0 y147 := gy147_0 --@phi
  show Tr _ _ (uf _ 28 (.slice Ay147_0 (y147).length cy147_0)) (_) _
  refine Tr.v1 rfl (run_fieldAddr fo_177_0) rfl ?_
  refine Tr.store 2 (cs := [(.slice Ay147_0 (y147).length cy147_0)]) [(.slice Ay147_0 (y147).length cy147_0), (.slice Al140 (l140).length cl140), (.slice none 0 0)] (wn rfl) rfl rfl rfl rfl sz_96 rfl rfl rfl ?_
  refine Tr.nil (Tr.normThen ?_)
  refine Tr.drawC 13 [] [] (by kernel_rfl) (by kernel_rfl) fun sz149 hlosz149 hEsz149 => ?_
  refine Dr.quiet 0 [(30, (.pointer (some ⟨b101, 1, none⟩)))] (by kernel_rfl) rfl rfl (by kernel_rfl) ?_ rfl rfl ?_
  ·refine Tq.v1 rfl (run_fieldAddr fo_177_1) rfl ?_
   exact Tq.fin (.r rfl)
  refine Dr.quiet 1 [(31, (.slice Al140 (l140).length cl140))] (by kernel_rfl) rfl rfl (by kernel_rfl) ?_ rfl rfl ?_
  ·refine Tq.va rfl (fun _ _ h1 h2 => run_load1 ag_96 (h1.ev rfl) (rdb h2 (vs := [(.slice Ay147_0 (y147).length cy147_0), (.slice Al140 (l140).length cl140), (.slice none 0 0)]) (k := 2) rfl 1) rfl) ?_
   exact Tq.fin (.r rfl)
  refine Dr.quiet 2 [(32, (.slice Ap0_0 (p0).length cp0_0))] (by kernel_rfl) rfl rfl (by kernel_rfl) ?_ rfl rfl ?_
  ·refine Tq.mv rfl rfl ?_
   exact Tq.fin (.r rfl)
  refine Dr.quiet 3 [(33, (iv x141))] (by kernel_rfl) rfl rfl (by kernel_rfl) ?_ rfl rfl ?_
  ·refine Tq.mv rfl rfl ?_
   exact Tq.fin (.r rfl)
  obtain ⟨x150, hx150, H⟩ := bnd H
  obtain ⟨hx1500, hx1501, hx1502⟩ := idx_some hx150
  refine Dr.quiet 4 [(34, (.pointer (some ⟨adB Ap0_0, adO Ap0_0 + (x141).toNat * 4, none⟩)))] (by kernel_rfl) rfl rfl (by kernel_rfl) ?_ rfl rfl ?_
  ·refine Tq.va rfl (fun _ _ h1 h2 => run_indexAddr el_22 (h1.ev rfl) hp0_0.form (h1.ev rfl) hx1500 hx1501) ?_
   exact Tq.fin (.r rfl)
  refine Dr.quiet 5 [(35, (.pointer (some ⟨adB Ap0_0, adO Ap0_0 + (x141).toNat * 4 + 1, none⟩)))] (by kernel_rfl) rfl rfl (by kernel_rfl) ?_ rfl rfl ?_
  ·refine Tq.v1 rfl (run_fieldAddr fo_38_1) rfl ?_
   exact Tq.fin (.r rfl)
  refine Dr.quiet 6 [(36, (iv x150.Y0))] (by kernel_rfl) rfl rfl (by kernel_rfl) ?_ rfl rfl ?_
  ·refine Tq.va rfl (fun _ _ h1 h2 => run_load1 ag_3 (h1.ev rfl) (CellsAt.drop (rdF ef_TRect hp0_0 hx1502 h2) 1) rfl) ?_
   exact Tq.fin (.r rfl)
  refine Dr.quiet 8 [(38, (.slice Ap0_0 (p0).length cp0_0))] (by kernel_rfl) rfl rfl (by kernel_rfl) ?_ rfl rfl ?_
  ·refine Tq.mv rfl rfl ?_
   exact Tq.fin (.r rfl)
  refine Dr.quiet 9 [(39, (iv x141))] (by kernel_rfl) rfl rfl (by kernel_rfl) ?_ rfl rfl ?_
  ·refine Tq.mv rfl rfl ?_
   exact Tq.fin (.r rfl)
  obtain ⟨x151, hx151, H⟩ := bnd H
  obtain ⟨hx1510, hx1511, hx1512⟩ := idx_some hx151
  refine Dr.quiet 10 [(40, (.pointer (some ⟨adB Ap0_0, adO Ap0_0 + (x141).toNat * 4, none⟩)))] (by kernel_rfl) rfl rfl (by kernel_rfl) ?_ rfl rfl ?_
  ·refine Tq.va rfl (fun _ _ h1 h2 => run_indexAddr el_22 (h1.ev rfl) hp0_0.form (h1.ev rfl) hx1510 hx1511) ?_
   exact Tq.fin (.r rfl)
  refine Dr.quiet 11 [(41, (.pointer (some ⟨adB Ap0_0, adO Ap0_0 + (x141).toNat * 4 + 3, none⟩)))] (by kernel_rfl) rfl rfl (by kernel_rfl) ?_ rfl rfl ?_
  ·refine Tq.v1 rfl (run_fieldAddr fo_38_3) rfl ?_
   exact Tq.fin (.r rfl)
  refine Dr.quiet 12 [(42, (iv x151.Y1))] (by kernel_rfl) rfl rfl (by kernel_rfl) ?_ rfl rfl ?_
  ·refine Tq.va rfl (fun _ _ h1 h2 => run_load1 ag_3 (h1.ev rfl) (CellsAt.drop (rdF ef_TRect hp0_0 hx1512 h2) 3) rfl) ?_
   exact Tq.fin (.r rfl)
  obtain ⟨y152, hy152, H⟩ := bnd H
  refine Dr.one 7 (by kernel_rfl) ?_
  refine St.callG 7 [] [] (U := (Option Addr × Nat)) (fun u => (.slice u.1 (y152).length u.2)) (fun O W u => Sl O W fl_i64 u.1 u.2 y152) (fun u => []) rfl pk_nil (fun _ => rfl) (insS_no rfl) rfl (wn rfl) rfl Tryz.call172 (evl_cons rfl (evl_cons rfl evl_nil)) (fun W hW hp hE => F_etchhouseref1_put_ok N l140 Al140 cl140 (hl140.extO (hW.extS hp)) x150.Y0 y152 hy152 hE) ?_
  intro w u le153 hu hsy152
  obtain ⟨Ay152_0, cy152_0⟩ := u
  have gy152_0 := hu
  replace hp0_0 := hp0_0.leR le153
  replace hgy147_0 := hgy147_0.le le153
  replace hl140 := hl140.le le153
  replace hl139 := hl139.le le153
  replace hgy145_0 := hgy145_0.le le153
  replace leB := leB.trans le153
  replace leL1 := leL1.trans le153
  have hgy152_0 : Sl w.O w.W fl_i64 Ay152_0 cy152_0 y152 := gy152_0
  show Dr _ _ _ _ _ _ _ _ _ (uf _ 37 (.slice Ay152_0 (y152).length cy152_0)) (_)
  refine Dr.tail (by kernel_rfl) ?_
  obtain ⟨y154, hy154, H⟩ := bnd H
  refine Tr.callG [] [] (U := (Option Addr × Nat)) (fun u => (.slice u.1 (y154).length u.2)) (fun O W u => Sl O W fl_i64 u.1 u.2 y154) (fun u => []) rfl pk_nil (fun _ => rfl) (wn rfl) rfl Tryz.call172 (evl_cons rfl (evl_cons rfl evl_nil)) (fun W hW hp hE => F_etchhouseref1_put_ok N y152 Ay152_0 cy152_0 (hgy152_0.extO (hW.extS hp)) x151.Y1 y154 hy154 hE) ?_
  intro w u le155 hu
  obtain ⟨Ay154_0, cy154_0⟩ := u
  have gy154_0 := hu
  replace hp0_0 := hp0_0.leR le155
  replace hgy147_0 := hgy147_0.le le155
  replace hl140 := hl140.le le155
  replace hl139 := hl139.le le155
  replace hgy145_0 := hgy145_0.le le155
  replace hgy152_0 := hgy152_0.le le155
  replace leB := leB.trans le155
  replace leL1 := leL1.trans le155
  have hgy154_0 : Sl w.O w.W fl_i64 Ay154_0 cy154_0 y154 := gy154_0 --@phi
  show Tr _ _ (uf _ 43 (.slice Ay154_0 (y154).length cy154_0)) (_) _
  refine Tr.v1 rfl (run_fieldAddr fo_177_1) rfl ?_
  refine Tr.store 2 (cs := [(.slice Ay154_0 (y154).length cy154_0)]) [(.slice Ay147_0 (y147).length cy147_0), (.slice Ay154_0 (y154).length cy154_0), (.slice none 0 0)] (wn rfl) rfl rfl rfl rfl sz_96 rfl rfl rfl ?_
  refine Tr.nil (Tr.normBlock (Tr.normThen ?_))
  refine Tr.region ?_
  refine Tr.mv rfl rfl ?_
  refine Tr.v2 rfl run_add rfl rfl ?_
  refine Tr.asg rfl rfl ?_
  refine Tr.nil ?_
  exact Tr.backThen leL1 (y147, y154, (w64 (x141 + 1)), Ay147_0, cy147_0, Ay154_0, cy154_0) ⟨H, hgy147_0, hgy154_0⟩ (.r rfl) (.r rfl)
 ·refine Tr.exit (Tr.exitThen (Tr.exitThen (Tr.exitBlock (Tr.normThen ?_))))
  refine Tr.seq ?_
  refine Tr.sr ?_
  refine Tr.asg rfl rfl ?_
  refine Tr.nil (Tr.normThen ?_)
  refine Tr.block ?_
  refine Tr.nilOwn 13 126 fl_Lbool ?_
  refine Tr.loop (σ := (List (List Bool)) × Int × (Option Addr) × Nat) (fun m w s => F_etchhouseref1_cellsOf_L4 N p0 l139 l140 m s.1 s.2.1 = some r ∧ SlF s.2.2.1 (s.1).length s.2.2.2) (fun s => [(0, (.slice Ap0_0 (p0).length cp0_0)), (2, (.pointer (some ⟨b100, 0, none⟩))), (3, (.pointer (some ⟨b101, 0, none⟩))), (5, (iv s.2.1))]) (fun s => [(1, bx b100 #[(.slice none 0 0), (.slice none 0 0), (.slice none 0 0)] 177), (2, bx b101 #[(.slice Al139 (l139).length cl139), (.slice Al140 (l140).length cl140), (.slice s.2.2.1 (s.1).length s.2.2.2)] 177), (13, ow s.2.2.1 s.2.2.2 126 fl_Lbool s.1)]) N (([] : List (List Bool)), 1, none, 0) ⟨H, slf_nil⟩ (.r rfl) (.r rfl) (fun _ _ h => noSome (h.1)) ?_
  intro w leL4 mL4 s hs
  obtain ⟨l220, x221, Al220, cl220⟩ := s
  obtain ⟨H, hl220⟩ := hs
  replace H : F_etchhouseref1_cellsOf_L4 N p0 l139 l140 (mL4 + 1) l220 x221 = some r := H
  replace hp0_0 := hp0_0.leR leL4
  replace hl139 := hl139.le leL4
  replace hl140 := hl140.le leL4
  replace leB := leB.trans leL4
  replace leL1 := leL1.trans leL4
  replace hl220 : SlF Al220 (l220).length cl220 := hl220
  rw [F_etchhouseref1_cellsOf_L4.eq_2] at H
  show Tr _ _ (LF [(0, (.slice Ap0_0 (p0).length cp0_0)), (2, (.pointer (some ⟨b100, 0, none⟩))), (3, (.pointer (some ⟨b101, 0, none⟩))), (5, (iv x221))]) (LE [(1, bx b100 #[(.slice none 0 0), (.slice none 0 0), (.slice none 0 0)] 177), (2, bx b101 #[(.slice Al139 (l139).length cl139), (.slice Al140 (l140).length cl140), (.slice Al220 (l220).length cl220)] 177), (13, ow Al220 cl220 126 fl_Lbool l220)]) _
  refine Tr.seq ?_
  refine Tr.sr ?_
  refine Tr.mv rfl rfl ?_
  refine Tr.v1 rfl (run_fieldAddr fo_177_1) rfl ?_
  refine Tr.va rfl (fun _ _ h1 h2 => run_load1 ag_96 (h1.ev rfl) (rdb h2 (vs := [(.slice Al139 (l139).length cl139), (.slice Al140 (l140).length cl140), (.slice Al220 (l220).length cl220)]) (k := 2) rfl 1) rfl) ?_
  refine Tr.v1 rfl (run_len un_96) rfl ?_
  refine Tr.v2 rfl run_lss rfl rfl ?_
  refine Tr.nil (Tr.normThen ?_)
  refine Tr.cond rfl H (fun H => ?_) (fun H => ?_)
  ·refine Tr.skip (Tr.normThen ?_)
   refine Tr.seq ?_
   refine Tr.block ?_
   refine Tr.sr ?_
   refine Tr.mv rfl rfl ?_
   refine Tr.v1 rfl (run_fieldAddr fo_177_1) rfl ?_
   refine Tr.va rfl (fun _ _ h1 h2 => run_load1 ag_96 (h1.ev rfl) (rdb h2 (vs := [(.slice Al139 (l139).length cl139), (.slice Al140 (l140).length cl140), (.slice Al220 (l220).length cl220)]) (k := 2) rfl 1) rfl) ?_
   refine Tr.mv rfl rfl ?_
   refine Tr.v2 rfl run_sub rfl rfl ?_
   obtain ⟨x222, hx222, H⟩ := bnd H
   obtain ⟨hx2220, hx2221, hx2222⟩ := idx_some hx222
   refine Tr.va rfl (fun _ _ h1 h2 => run_indexAddr el_96 (h1.ev rfl) hl140.form (h1.ev rfl) hx2220 hx2221) ?_
   refine Tr.va rfl (fun _ _ h1 h2 => run_load1 ag_3 (h1.ev rfl) (rdF ef_i64 (hl140.rl) hx2222 h2) rfl) ?_
   obtain ⟨y223, hy223, H⟩ := bnd H
   refine Tr.callM [14] [emp] (U := (Option Addr × Nat)) (fun u => (.slice u.1 (y223).length u.2)) (fun u => SlF u.1 (y223).length u.2) (fun u => [ow u.1 u.2 220 fl_TSpan y223]) rfl (pk_cons rfl pk_nil) (fun _ => rfl) (wn rfl) rfl Tryz.call123 (evl_cons rfl (evl_cons rfl evl_nil)) (fun W hW hp hE => F_etchhouseref1_row_ok N p0 Ap0_0 cp0_0 (hp0_0.ext (hW.extS hp)) x222 y223 hy223 hE) ?_
   intro u hu
   obtain ⟨Ay223_0, cy223_0⟩ := u
   have gy223_0 := hu
   have hgy223_0 : SlF Ay223_0 (y223).length cy223_0 := gy223_0 --@phi
   show Tr _ _ (uf _ 59 (.slice Ay223_0 (y223).length cy223_0)) (up _ 14 (ow Ay223_0 cy223_0 220 fl_TSpan y223)) _
   refine Tr.asg rfl rfl ?_
   refine Tr.nil (Tr.normThen ?_)
   refine Tr.sr ?_
   refine Tr.v1 rfl (run_fieldAddr fo_177_0) rfl ?_
   refine Tr.va rfl (fun _ _ h1 h2 => run_load1 ag_96 (h1.ev rfl) (rdb h2 (vs := [(.slice Al139 (l139).length cl139), (.slice Al140 (l140).length cl140), (.slice Al220 (l220).length cl220)]) (k := 2) rfl 0) rfl) ?_
   refine Tr.v1 rfl (run_len un_96) rfl ?_
   obtain ⟨l225, hl225, H⟩ := bnd H
   refine Tr.makeSlice 15 fl_bool false (wn rfl) rfl rfl rfl un_126 sz_4 rfl ze_4 by_4 rfl ⟨(), fun _ _ => tr_bool _ _ _ _, rfl⟩ hl225 fun b226 hfl225 => ?_
   refine Tr.asg rfl rfl ?_
   refine Tr.nil (Tr.normThen ?_)
   refine Tr.seq ?_
   refine Tr.sr ?_
   refine Tr.asg rfl rfl ?_
   refine Tr.nil (Tr.normThen ?_)
   refine Tr.block ?_
   refine Tr.loop (σ := (List Bool) × Int × (Option Addr) × Nat) (fun m w s => F_etchhouseref1_cellsOf_L5 N l139 l220 x221 (F_etchhouseref1_cellsOf_L4 N p0 l139 l140 mL4) y223 m s.1 s.2.1 = some r ∧ SlF s.2.2.1 (s.1).length s.2.2.2) (fun s => [(0, (.slice Ap0_0 (p0).length cp0_0)), (2, (.pointer (some ⟨b100, 0, none⟩))), (3, (.pointer (some ⟨b101, 0, none⟩))), (5, (iv x221)), (6, (.slice Ay223_0 (y223).length cy223_0)), (7, (.slice s.2.2.1 (s.1).length s.2.2.2)), (8, (iv s.2.1))]) (fun s => [(1, bx b100 #[(.slice none 0 0), (.slice none 0 0), (.slice none 0 0)] 177), (2, bx b101 #[(.slice Al139 (l139).length cl139), (.slice Al140 (l140).length cl140), (.slice Al220 (l220).length cl220)] 177), (13, ow Al220 cl220 126 fl_Lbool l220), (14, ow Ay223_0 cy223_0 220 fl_TSpan y223), (15, ow s.2.2.1 s.2.2.2 4 fl_bool s.1)]) N (l225, 1, (some ⟨b226, 0, none⟩), (l225).length) ⟨H, hfl225⟩ (.r rfl) (.r rfl) (fun _ _ h => noSome (h.1)) ?_
   intro w leL5 mL5 s hs
   obtain ⟨l241, x242, Al241, cl241⟩ := s
   obtain ⟨H, hl241⟩ := hs
   replace H : F_etchhouseref1_cellsOf_L5 N l139 l220 x221 (F_etchhouseref1_cellsOf_L4 N p0 l139 l140 mL4) y223 (mL5 + 1) l241 x242 = some r := H
   replace hp0_0 := hp0_0.leR leL5
   replace hl139 := hl139.le leL5
   replace hl140 := hl140.le leL5
   replace leB := leB.trans leL5
   replace leL1 := leL1.trans leL5
   replace leL4 := leL4.trans leL5
   replace hl241 : SlF Al241 (l241).length cl241 := hl241
   rw [F_etchhouseref1_cellsOf_L5.eq_2] at H
   show Tr _ _ (LF [(0, (.slice Ap0_0 (p0).length cp0_0)), (2, (.pointer (some ⟨b100, 0, none⟩))), (3, (.pointer (some ⟨b101, 0, none⟩))), (5, (iv x221)), (6, (.slice Ay223_0 (y223).length cy223_0)), (7, (.slice Al241 (l241).length cl241)), (8, (iv x242))]) (LE [(1, bx b100 #[(.slice none 0 0), (.slice none 0 0), (.slice none 0 0)] 177), (2, bx b101 #[(.slice Al139 (l139).length cl139), (.slice Al140 (l140).length cl140), (.slice Al220 (l220).length cl220)] 177), (13, ow Al220 cl220 126 fl_Lbool l220), (14, ow Ay223_0 cy223_0 220 fl_TSpan y223), (15, ow Al241 cl241 4 fl_bool l241)]) _
   refine Tr.seq ?_
   refine Tr.sr ?_
   refine Tr.mv rfl rfl ?_
   refine Tr.v1 rfl (run_fieldAddr fo_177_0) rfl ?_
   refine Tr.va rfl (fun _ _ h1 h2 => run_load1 ag_96 (h1.ev rfl) (rdb h2 (vs := [(.slice Al139 (l139).length cl139), (.slice Al140 (l140).length cl140), (.slice Al220 (l220).length cl220)]) (k := 2) rfl 0) rfl) ?_
   refine Tr.v1 rfl (run_len un_96) rfl ?_
   refine Tr.v2 rfl run_lss rfl rfl ?_
   refine Tr.nil (Tr.normThen ?_)
   refine Tr.cond rfl H (fun H => ?_) (fun H => ?_)
   ·refine Tr.skip (Tr.normThen ?_)
    refine Tr.seq ?_
    refine Tr.block ?_
    refine Tr.region ?_
    refine Tr.mv rfl rfl ?_
    refine Tr.mv rfl rfl ?_
    refine Tr.v2 rfl run_sub rfl rfl ?_
    refine Tr.mv rfl rfl ?_
    refine Tr.v1 rfl (run_fieldAddr fo_177_0) rfl ?_
    refine Tr.va rfl (fun _ _ h1 h2 => run_load1 ag_96 (h1.ev rfl) (rdb h2 (vs := [(.slice Al139 (l139).length cl139), (.slice Al140 (l140).length cl140), (.slice Al220 (l220).length cl220)]) (k := 2) rfl 0) rfl) ?_
    refine Tr.mv rfl rfl ?_
    refine Tr.v2 rfl run_sub rfl rfl ?_
    obtain ⟨x243, hx243, H⟩ := bnd H
    obtain ⟨hx2430, hx2431, hx2432⟩ := idx_some hx243
    refine Tr.va rfl (fun _ _ h1 h2 => run_indexAddr el_96 (h1.ev rfl) hl139.form (h1.ev rfl) hx2430 hx2431) ?_
    refine Tr.va rfl (fun _ _ h1 h2 => run_load1 ag_3 (h1.ev rfl) (rdF ef_i64 (hl139.rl) hx2432 h2) rfl) ?_
    obtain ⟨y244, hy244, H⟩ := bnd H
    refine Tr.call0 (r := (.bool y244)) (wn rfl) rfl Tryz.call175 (evl_cons rfl (evl_cons rfl evl_nil)) (fun W hW => F_etchhouseref1_inside_ok N y223 Ay223_0 cy223_0 (hW.slCall (k := 14) rfl) x243 y244 hy244 (HF.start _)) ?_
    obtain ⟨x245, hx245, H⟩ := bnd H
    obtain ⟨hx2450, hx2451, hx2452⟩ := idx_some hx245
    refine Tr.va rfl (fun _ _ h1 h2 => run_indexAddr el_126 (h1.ev rfl) hl241 (h1.ev rfl) hx2450 hx2451) ?_
    obtain ⟨l246, hl246, H⟩ := bnd H
    have hnl246 := sets_len hl246
    refine Tr.storeEl 15 (t := fl_bool) (l := l241) (i := (w64 (x242 - 1))) (fo := 0) (cs := [(.bool y244)]) y244 (wn rfl) rfl rfl rfl rfl rfl hx2452 sz_4 rfl (fun u _ => ⟨u, trivial, rfl⟩) rfl hl246 ?_
    have hfl246 : SlF Al241 (l246).length cl241 := by rw [hnl246]; exact hl241
    refine Tr.sel (lf := [(0, (.slice Ap0_0 (p0).length cp0_0)), (2, (.pointer (some ⟨b100, 0, none⟩))), (3, (.pointer (some ⟨b101, 0, none⟩))), (5, (iv x221)), (6, (.slice Ay223_0 (y223).length cy223_0)), (7, (.slice Al241 (l246).length cl241)), (8, (iv x242)), (64, (iv x242)), (65, (.pointer (some ⟨b101, 0, none⟩))), (66, (.slice Al139 (l139).length cl139)), (67, (iv (l139.length : Int))), (68, (.bool (decide (x242 < (l139.length : Int))))), (71, (.slice Al241 (l246).length cl241)), (72, (iv x242)), (73, (iv (w64 (x242 - 1)))), (74, (.slice Ay223_0 (y223).length cy223_0)), (75, (.pointer (some ⟨b101, 0, none⟩))), (76, (.slice Al139 (l139).length cl139)), (77, (iv x242)), (78, (iv (w64 (x242 - 1)))), (79, (.pointer (some ⟨adB Al139, adO Al139 + ((w64 (x242 - 1))).toNat * 1, none⟩))), (80, (iv x243)), (81, (.bool y244))]) (le := [(1, bx b100 #[(.slice none 0 0), (.slice none 0 0), (.slice none 0 0)] 177), (2, bx b101 #[(.slice Al139 (l139).length cl139), (.slice Al140 (l140).length cl140), (.slice Al220 (l220).length cl220)] 177), (13, ow Al220 cl220 126 fl_Lbool l220), (14, ow Ay223_0 cy223_0 220 fl_TSpan y223), (15, ow Al241 cl241 4 fl_bool l246)]) (.cons rfl (.cons rfl (.cons rfl (.cons rfl (.cons rfl (.cons (slenV rfl (by rw [hnl246])) (.cons rfl (.cons rfl (.cons rfl (.cons rfl (.cons rfl (.cons rfl (.cons (slenV rfl (by rw [hnl246])) (.r rfl)))))))))))))) (.r rfl) ?_
    refine Tr.nil (Tr.normBlock (Tr.normThen ?_))
    refine Tr.region ?_
    refine Tr.mv rfl rfl ?_
    refine Tr.v2 rfl run_add rfl rfl ?_
    refine Tr.asg rfl rfl ?_
    refine Tr.nil ?_
    exact Tr.backThen leL5 (l246, (w64 (x242 + 1)), Al241, cl241) ⟨H, hfl246⟩ (.r rfl) (.r rfl)
   ·refine Tr.exit (Tr.exitThen (Tr.exitThen (Tr.exitBlock (Tr.normThen ?_))))
    refine Tr.region ?_
    refine Tr.v1 rfl (run_fieldAddr fo_177_2) rfl ?_
    refine Tr.va rfl (fun _ _ h1 h2 => run_load1 ag_175 (h1.ev rfl) (rdb h2 (vs := [(.slice Al139 (l139).length cl139), (.slice Al140 (l140).length cl140), (.slice Al220 (l220).length cl220)]) (k := 2) rfl 2) rfl) ?_
    refine Tr.mv rfl rfl ?_
    refine Tr.freeze 15 rfl fun w le248 hz247 => ?_
    replace hp0_0 := hp0_0.leR le248
    replace hl139 := hl139.le le248
    replace hl140 := hl140.le le248
    replace leB := leB.trans le248
    replace leL1 := leL1.trans le248
    replace leL4 := leL4.trans le248
    replace leL5 := leL5.trans le248
    refine Tr.buildSlice 16 (e := 126) (vs := [(0, (.slice Al241 (l241).length cl241))]) (cs := [(.slice Al241 (l241).length cl241)]) (wn rfl) rfl (evs_cons rfl evs_nil) (by kernel_rfl) fun b249 => ?_
    obtain ⟨l250, hl250, H⟩ := bnd H
    refine Tr.append 13 (t := fl_Lbool) (l := l220) (l2 := [l241]) (wn rfl) rfl rfl rfl rfl (fun W hW => ⟨[[(.slice Al241 (l241).length cl241)]], (.cons ⟨(Al241, cl241), hz247, rfl⟩ .nil), rdb hW (vs := [(.slice Al241 (l241).length cl241)]) (k := 16) rfl 0⟩) un_175 sz_126 zl_126 (by decide) by_126 rfl hl250 fun Al250 cl250 hAl250 => ?_
    refine Tr.v1 rfl (run_fieldAddr fo_177_2) rfl ?_
    refine Tr.store 2 (cs := [(.slice Al250 (l250).length cl250)]) [(.slice Al139 (l139).length cl139), (.slice Al140 (l140).length cl140), (.slice Al250 (l250).length cl250)] (wn rfl) rfl rfl rfl rfl sz_175 rfl rfl rfl ?_
    refine Tr.nil (Tr.normBlock (Tr.normThen ?_))
    refine Tr.region ?_
    refine Tr.mv rfl rfl ?_
    refine Tr.v2 rfl run_add rfl rfl ?_
    refine Tr.asg rfl rfl ?_
    refine Tr.nil ?_
    exact Tr.backThen leL4 (l250, (w64 (x221 + 1)), Al250, cl250) ⟨H, hAl250⟩ (.r rfl) (.r rfl)
  ·refine Tr.exit (Tr.exitThen (Tr.exitThen (Tr.exitBlock (Tr.normThen ?_))))
   refine Tr.sr ?_
   refine Tr.va rfl (fun _ _ h1 h2 => run_loadN (cs := [(.slice Al139 (l139).length cl139), (.slice Al140 (l140).length cl140), (.slice Al220 (l220).length cl220)]) ag_177 sz_177 (h1.ev rfl) (CellsAt.take (rdb h2 (vs := [(.slice Al139 (l139).length cl139), (.slice Al140 (l140).length cl140), (.slice Al220 (l220).length cl220)]) (k := 2) rfl 0) 3) rfl) ?_
   refine Tr.store 1 (cs := [(.slice Al139 (l139).length cl139), (.slice Al140 (l140).length cl140), (.slice Al220 (l220).length cl220)]) [(.slice Al139 (l139).length cl139), (.slice Al140 (l140).length cl140), (.slice Al220 (l220).length cl220)] (wn rfl) rfl rfl rfl rfl sz_177 rfl rfl rfl ?_
   refine Tr.nil (Tr.normThen ?_)
   refine Tr.ret ?_
   obtain rfl := Option.some.inj H
   exact Tr.out (m := [(.agg #[(.slice Al139 (l139).length cl139), (.slice Al140 (l140).length cl140), (.slice Al220 (l220).length cl220)])]) [1] (res_cell rfl rfl ag_177 sz_177 res_nil) (fun W hW => ⟨w, ((Al139, cl139), (Al140, cl140), (Al220, cl220)), leB, rfl, ⟨hl139, hl140, hl220⟩, hW.pick (ks := [13]) (by decide) (pk_cons rfl pk_nil)⟩)

theorem F_etchhouseref1_cells__has_ok {w : Bs} (p0 : TCells) (Ap0_0 : Option Addr) (cp0_0 : Nat) (hp0_0 : Sl w.R w.W fl_i64 Ap0_0 cp0_0 p0.xs) (Ap0_1 : Option Addr) (cp0_1 : Nat) (hp0_1 : Sl w.R w.W fl_i64 Ap0_1 cp0_1 p0.ys) (Ap0_2 : Option Addr) (cp0_2 : Nat) (hp0_2 : Sl w.R w.W fl_Lbool Ap0_2 cp0_2 p0.in_) (p1 : Int) (p2 : Int) (r : Bool) (H : F_etchhouseref1_cells__has p0 p1 p2 = some r) (hE : HF w w.W E0) : Calls Tryz.prog 126 [(.agg #[(.slice Ap0_0 (p0.xs).length cp0_0), (.slice Ap0_1 (p0.ys).length cp0_1), (.slice Ap0_2 (p0.in_).length cp0_2)]), (iv p1), (iv p2)].toArray w.W fun e W' => e = .returned (.bool r) ∧ HF w W' E0 := by
 unfold F_etchhouseref1_cells__has at H
 have leB := Bs.Le.refl w
 refine Tr.enter (n := 38) Tryz.func126 rfl rfl rfl hE ?_
 refine Tr.sr ?_
 refine Tr.box 1 (cs := [(.slice Ap0_0 (p0.xs).length cp0_0), (.slice Ap0_1 (p0.ys).length cp0_1), (.slice Ap0_2 (p0.in_).length cp0_2)]) (wn rfl) rfl rfl rfl fun b100 => ?_
 refine Tr.asg rfl rfl ?_
 refine Tr.nil (Tr.normThen ?_)
 refine Tr.sr ?_
 refine Tr.mv rfl rfl ?_
 refine Tr.v2 rfl run_geq rfl rfl ?_
 refine Tr.mv rfl rfl ?_
 refine Tr.mid0 6 [(1, (iv p1)), (2, (iv p2)), (3, (.pointer (some ⟨b100, 0, none⟩))), (15, (.bool ((decide (0 ≤ p2)) && (decide (p2 < (p0.in_.length : Int))))))] [(1, bx b100 #[(.slice Ap0_0 (p0.xs).length cp0_0), (.slice Ap0_1 (p0.ys).length cp0_1), (.slice Ap0_2 (p0.in_).length cp0_2)] 177)] ?_ ?_
 ·cases hg107 : (decide (0 ≤ p2))
  ·refine Tr.ps ?_
   refine Tr.ps ?_
   refine Tr.ps ?_
   refine Tr.ps ?_
   refine Tr.ps ?_
   refine Tr.v2 rfl run_pickF rfl rfl ?_
   exact Tr.nil (Tr.fin0 (.r rfl) (.r rfl))
  ·refine Tr.w1 (wg rfl rfl rfl) rfl run_move rfl ?_
   refine Tr.w1 (wg rfl rfl rfl) rfl (run_fieldAddr fo_177_2) rfl ?_
   refine Tr.val (wg rfl rfl rfl) rfl (fun _ _ h1 h2 => run_load1 ag_175 (h1.ev rfl) (rdb h2 (vs := [(.slice Ap0_0 (p0.xs).length cp0_0), (.slice Ap0_1 (p0.ys).length cp0_1), (.slice Ap0_2 (p0.in_).length cp0_2)]) (k := 1) rfl 2) rfl) ?_
   refine Tr.w1 (wg rfl rfl rfl) rfl (run_len un_175) rfl ?_
   refine Tr.w2 (wg rfl rfl rfl) rfl run_lss rfl rfl ?_
   refine Tr.v2 rfl run_pickT rfl rfl ?_
   exact Tr.nil (Tr.fin0 (.r rfl) (.r rfl))
 ·show Tr _ _ (LF [(1, (iv p1)), (2, (iv p2)), (3, (.pointer (some ⟨b100, 0, none⟩))), (15, (.bool ((decide (0 ≤ p2)) && (decide (p2 < (p0.in_.length : Int))))))]) (LE [(1, bx b100 #[(.slice Ap0_0 (p0.xs).length cp0_0), (.slice Ap0_1 (p0.ys).length cp0_1), (.slice Ap0_2 (p0.in_).length cp0_2)] 177)]) _
  refine Tr.mv rfl rfl ?_
  refine Tr.mid0 3 [(1, (iv p1)), (2, (iv p2)), (3, (.pointer (some ⟨b100, 0, none⟩))), (19, (.bool (((decide (0 ≤ p2)) && (decide (p2 < (p0.in_.length : Int)))) && (decide (0 ≤ p1)))))] [(1, bx b100 #[(.slice Ap0_0 (p0.xs).length cp0_0), (.slice Ap0_1 (p0.ys).length cp0_1), (.slice Ap0_2 (p0.in_).length cp0_2)] 177)] ?_ ?_
  ·cases hg107 : ((decide (0 ≤ p2)) && (decide (p2 < (p0.in_.length : Int))))
   ·refine Tr.ps ?_
    refine Tr.ps ?_
    refine Tr.v2 rfl run_pickF rfl rfl ?_
    exact Tr.nil (Tr.fin0 (.r rfl) (.r rfl))
   ·refine Tr.w1 (wg rfl rfl rfl) rfl run_move rfl ?_
    refine Tr.w2 (wg rfl rfl rfl) rfl run_geq rfl rfl ?_
    refine Tr.v2 rfl run_pickT rfl rfl ?_
    exact Tr.nil (Tr.fin0 (.r rfl) (.r rfl))
  ·show Tr _ _ (LF [(1, (iv p1)), (2, (iv p2)), (3, (.pointer (some ⟨b100, 0, none⟩))), (19, (.bool (((decide (0 ≤ p2)) && (decide (p2 < (p0.in_.length : Int)))) && (decide (0 ≤ p1)))))]) (LE [(1, bx b100 #[(.slice Ap0_0 (p0.xs).length cp0_0), (.slice Ap0_1 (p0.ys).length cp0_1), (.slice Ap0_2 (p0.in_).length cp0_2)] 177)]) _
   refine Tr.mv rfl rfl ?_
   refine Tr.mid0 7 [(1, (iv p1)), (2, (iv p2)), (3, (.pointer (some ⟨b100, 0, none⟩))), (27, (.bool ((((decide (0 ≤ p2)) && (decide (p2 < (p0.in_.length : Int)))) && (decide (0 ≤ p1))) && (decide (p1 < (w64 ((p0.xs.length : Int) - 1)))))))] [(1, bx b100 #[(.slice Ap0_0 (p0.xs).length cp0_0), (.slice Ap0_1 (p0.ys).length cp0_1), (.slice Ap0_2 (p0.in_).length cp0_2)] 177)] ?_ ?_
   ·cases hg107 : (((decide (0 ≤ p2)) && (decide (p2 < (p0.in_.length : Int)))) && (decide (0 ≤ p1)))
    ·refine Tr.ps ?_
     refine Tr.ps ?_
     refine Tr.ps ?_
     refine Tr.ps ?_
     refine Tr.ps ?_
     refine Tr.ps ?_
     refine Tr.v2 rfl run_pickF rfl rfl ?_
     exact Tr.nil (Tr.fin0 (.r rfl) (.r rfl))
    ·refine Tr.w1 (wg rfl rfl rfl) rfl run_move rfl ?_
     refine Tr.w1 (wg rfl rfl rfl) rfl (run_fieldAddr fo_177_0) rfl ?_
     refine Tr.val (wg rfl rfl rfl) rfl (fun _ _ h1 h2 => run_load1 ag_96 (h1.ev rfl) (rdb h2 (vs := [(.slice Ap0_0 (p0.xs).length cp0_0), (.slice Ap0_1 (p0.ys).length cp0_1), (.slice Ap0_2 (p0.in_).length cp0_2)]) (k := 1) rfl 0) rfl) ?_
     refine Tr.w1 (wg rfl rfl rfl) rfl (run_len un_96) rfl ?_
     refine Tr.w2 (wg rfl rfl rfl) rfl run_sub rfl rfl ?_
     refine Tr.w2 (wg rfl rfl rfl) rfl run_lss rfl rfl ?_
     refine Tr.v2 rfl run_pickT rfl rfl ?_
     exact Tr.nil (Tr.fin0 (.r rfl) (.r rfl))
   ·show Tr _ _ (LF [(1, (iv p1)), (2, (iv p2)), (3, (.pointer (some ⟨b100, 0, none⟩))), (27, (.bool ((((decide (0 ≤ p2)) && (decide (p2 < (p0.in_.length : Int)))) && (decide (0 ≤ p1))) && (decide (p1 < (w64 ((p0.xs.length : Int) - 1)))))))]) (LE [(1, bx b100 #[(.slice Ap0_0 (p0.xs).length cp0_0), (.slice Ap0_1 (p0.ys).length cp0_1), (.slice Ap0_2 (p0.in_).length cp0_2)] 177)]) _
    refine Tr.mv rfl rfl ?_
    obtain ⟨g104, hg104, H⟩ := bnd H
    refine Tr.mid0 9 [(37, (.bool g104))] [(1, bx b100 #[(.slice Ap0_0 (p0.xs).length cp0_0), (.slice Ap0_1 (p0.ys).length cp0_1), (.slice Ap0_2 (p0.in_).length cp0_2)] 177)] ?_ ?_
    ·cases hg107 : ((((decide (0 ≤ p2)) && (decide (p2 < (p0.in_.length : Int)))) && (decide (0 ≤ p1))) && (decide (p1 < (w64 ((p0.xs.length : Int) - 1)))))
     ·rw [hg107] at hg104
      rw [if_neg (by decide)] at hg104
      have H := hg104
      obtain rfl := Option.some.inj H
      refine Tr.ps ?_
      refine Tr.ps ?_
      refine Tr.ps ?_
      refine Tr.ps ?_
      refine Tr.ps ?_
      refine Tr.ps ?_
      refine Tr.ps ?_
      refine Tr.ps ?_
      refine Tr.v2 rfl run_pickF rfl rfl ?_
      exact Tr.nil (Tr.fin0 (.r rfl) (.r rfl))
     ·rw [hg107] at hg104
      rw [if_pos rfl] at hg104
      have H := hg104
      refine Tr.w1 (wg rfl rfl rfl) rfl (run_fieldAddr fo_177_2) rfl ?_
      refine Tr.val (wg rfl rfl rfl) rfl (fun _ _ h1 h2 => run_load1 ag_175 (h1.ev rfl) (rdb h2 (vs := [(.slice Ap0_0 (p0.xs).length cp0_0), (.slice Ap0_1 (p0.ys).length cp0_1), (.slice Ap0_2 (p0.in_).length cp0_2)]) (k := 1) rfl 2) rfl) ?_
      refine Tr.w1 (wg rfl rfl rfl) rfl run_move rfl ?_
      obtain ⟨x105, hx105, H⟩ := bnd H
      obtain ⟨hx1050, hx1051, hx1052⟩ := idx_some hx105
      obtain ⟨u106, hRu106, hoku106, hcu106⟩ := (hp0_2).el hx1052
      obtain ⟨Au106_0, cu106_0⟩ := u106
      have hoku106_0 := hoku106
      replace hoku106_0 : Sl w.R w.W fl_bool Au106_0 cu106_0 x105 := hoku106_0
      refine Tr.val (wg rfl rfl rfl) rfl (fun _ _ h1 h2 => run_indexAddr el_175 (h1.ev rfl) hp0_2.form (h1.ev rfl) hx1050 hx1051) ?_
      refine Tr.val (wg rfl rfl rfl) rfl (fun _ _ h1 h2 => run_load1 ag_126 (h1.ev rfl) (rdR hRu106 hcu106 h2) rfl) ?_
      refine Tr.w1 (wg rfl rfl rfl) rfl run_move rfl ?_
      obtain ⟨x107, hx107, H⟩ := bnd H
      obtain ⟨hx1070, hx1071, hx1072⟩ := idx_some hx107
      refine Tr.val (wg rfl rfl rfl) rfl (fun _ _ h1 h2 => run_indexAddr el_126 (h1.ev rfl) hoku106_0.form (h1.ev rfl) hx1070 hx1071) ?_
      refine Tr.val (wg rfl rfl rfl) rfl (fun _ _ h1 h2 => run_load1 ag_4 (h1.ev rfl) (rdF ef_bool hoku106_0 hx1072 h2) rfl) ?_
      refine Tr.v2 rfl run_pickT rfl rfl ?_
      obtain rfl := Option.some.inj H
      exact Tr.nil (Tr.fin0 (.r rfl) (.r rfl))
    ·show Tr _ _ (LF [(37, (.bool g104))]) (LE [(1, bx b100 #[(.slice Ap0_0 (p0.xs).length cp0_0), (.slice Ap0_1 (p0.ys).length cp0_1), (.slice Ap0_2 (p0.in_).length cp0_2)] 177)]) _
     refine Tr.asg rfl rfl ?_
     refine Tr.nil (Tr.normThen ?_)
     refine Tr.ret ?_
     obtain rfl := Option.some.inj H
     exact Tr.out (m := [(.bool g104)]) [] (res_tmp rfl res_nil) (fun W hW => ⟨rfl, hW.low leB⟩)

theorem F_etchhouseref1_sides_ok (N : Nat) {w : Bs} (p0 : (List TRect)) (Ap0_0 : Option Addr) (cp0_0 : Nat) (hp0_0 : Sl w.R w.W fl_TRect Ap0_0 cp0_0 p0) (r : (List Tetchhouseref1Side)) (H : F_etchhouseref1_sides N p0 = some r) (hE : HF w w.W (LEn [emp])) : Calls Tryz.prog 82 [(.slice Ap0_0 (p0).length cp0_0)].toArray w.W fun e W' => ∃ u : (Option Addr × Nat), e = .returned (.slice u.1 (r).length u.2) ∧ (SlF u.1 (r).length u.2) ∧ HF w W' (LEn [ow u.1 u.2 142 fl_Tetchhouseref1Side r]) := by
 unfold F_etchhouseref1_sides at H
 have leB := Bs.Le.refl w
 refine Tr.enter (n := 124) Tryz.func82 rfl rfl rfl hE ?_
 refine Tr.sr ?_
 refine Tr.asg rfl rfl ?_
 refine Tr.nilOwn 1 142 fl_Tetchhouseref1Side ?_
 show Tr _ _ (uf _ 2 (.slice none (([] : List Tetchhouseref1Side)).length 0)) _ _
 refine Tr.nil (Tr.normThen ?_)
 refine Tr.sr ?_
 refine Tr.mv rfl rfl ?_
 obtain ⟨y100, hy100, H⟩ := bnd H
 refine Tr.callG [2] [emp] (U := (Option Addr × Nat) × (Option Addr × Nat) × (Option Addr × Nat)) (fun u => (.agg #[(.slice u.1.1 (y100.xs).length u.1.2), (.slice u.2.1.1 (y100.ys).length u.2.1.2), (.slice u.2.2.1 (y100.in_).length u.2.2.2)])) (fun O W u => Sl O W fl_i64 u.1.1 u.1.2 y100.xs ∧ Sl O W fl_i64 u.2.1.1 u.2.1.2 y100.ys ∧ SlF u.2.2.1 (y100.in_).length u.2.2.2) (fun u => [ow u.2.2.1 u.2.2.2 126 fl_Lbool y100.in_]) rfl (pk_cons rfl pk_nil) (fun _ => rfl) (wn rfl) rfl Tryz.call125 (evl_cons rfl evl_nil) (fun W hW hp hE => F_etchhouseref1_cellsOf_ok N p0 Ap0_0 cp0_0 (hp0_0.ext (hW.extS hp)) y100 hy100 hE) ?_
 intro w u le101 hu
 obtain ⟨⟨Ay100_0, cy100_0⟩, ⟨Ay100_1, cy100_1⟩, ⟨Ay100_2, cy100_2⟩⟩ := u
 obtain ⟨gy100_0, gy100_1, gy100_2⟩ := hu
 replace hp0_0 := hp0_0.leR le101
 replace leB := leB.trans le101
 have hgy100_0 : Sl w.O w.W fl_i64 Ay100_0 cy100_0 y100.xs := gy100_0 --@phi
 have hgy100_1 : Sl w.O w.W fl_i64 Ay100_1 cy100_1 y100.ys := gy100_1 --@phi
 have hgy100_2 : SlF Ay100_2 (y100.in_).length cy100_2 := gy100_2 --@phi
 show Tr _ _ (uf _ 12 (.agg #[(.slice Ay100_0 (y100.xs).length cy100_0), (.slice Ay100_1 (y100.ys).length cy100_1), (.slice Ay100_2 (y100.in_).length cy100_2)])) (up _ 2 (ow Ay100_2 cy100_2 126 fl_Lbool y100.in_)) _
 refine Tr.alloc 3 (wn rfl) rfl ze_177 fun b102 => ?_
 refine Tr.store 3 (cs := [(.slice Ay100_0 (y100.xs).length cy100_0), (.slice Ay100_1 (y100.ys).length cy100_1), (.slice Ay100_2 (y100.in_).length cy100_2)]) [(.slice Ay100_0 (y100.xs).length cy100_0), (.slice Ay100_1 (y100.ys).length cy100_1), (.slice Ay100_2 (y100.in_).length cy100_2)] (wn rfl) rfl rfl rfl rfl sz_177 rfl rfl rfl ?_
 refine Tr.nil (Tr.normThen ?_)
 refine Tr.sr ?_
 refine Tr.asg rfl rfl ?_
 refine Tr.nilOwn 4 142 fl_Tetchhouseref1Side ?_
 show Tr _ _ (uf _ 4 (.slice none (([] : List Tetchhouseref1Side)).length 0)) _ _
 refine Tr.nil (Tr.normThen ?_)
 refine Tr.seq ?_
 refine Tr.sr ?_
 refine Tr.asg rfl rfl ?_
 refine Tr.nil (Tr.normThen ?_)
 refine Tr.block ?_
 refine Tr.loop (σ := (List Tetchhouseref1Side) × Int × (Option Addr) × Nat) (fun m w s => F_etchhouseref1_sides_L21 N y100 m s.1 s.2.1 = some r ∧ SlF s.2.2.1 (s.1).length s.2.2.2) (fun s => [(3, (.pointer (some ⟨b102, 0, none⟩))), (4, (.slice s.2.2.1 (s.1).length s.2.2.2)), (5, (iv s.2.1))]) (fun s => [(2, ow Ay100_2 cy100_2 126 fl_Lbool y100.in_), (3, bx b102 #[(.slice Ay100_0 (y100.xs).length cy100_0), (.slice Ay100_1 (y100.ys).length cy100_1), (.slice Ay100_2 (y100.in_).length cy100_2)] 177), (4, ow s.2.2.1 s.2.2.2 142 fl_Tetchhouseref1Side s.1)]) N (([] : List Tetchhouseref1Side), 0, none, 0) ⟨H, slf_nil⟩ (.r rfl) (.r rfl) (fun _ _ h => noSome (h.1)) ?_
 intro w leL21 mL21 s hs
 obtain ⟨l347, x348, Al347, cl347⟩ := s
 obtain ⟨H, hl347⟩ := hs
 replace H : F_etchhouseref1_sides_L21 N y100 (mL21 + 1) l347 x348 = some r := H
 replace hgy100_0 := hgy100_0.le leL21
 replace hgy100_1 := hgy100_1.le leL21
 replace leB := leB.trans leL21
 replace hl347 : SlF Al347 (l347).length cl347 := hl347
 rw [F_etchhouseref1_sides_L21.eq_2] at H
 show Tr _ _ (LF [(3, (.pointer (some ⟨b102, 0, none⟩))), (4, (.slice Al347 (l347).length cl347)), (5, (iv x348))]) (LE [(2, ow Ay100_2 cy100_2 126 fl_Lbool y100.in_), (3, bx b102 #[(.slice Ay100_0 (y100.xs).length cy100_0), (.slice Ay100_1 (y100.ys).length cy100_1), (.slice Ay100_2 (y100.in_).length cy100_2)] 177), (4, ow Al347 cl347 142 fl_Tetchhouseref1Side l347)]) _
 refine Tr.seq ?_
 refine Tr.sr ?_
 refine Tr.mv rfl rfl ?_
 refine Tr.v1 rfl (run_fieldAddr fo_177_2) rfl ?_
 refine Tr.va rfl (fun _ _ h1 h2 => run_load1 ag_175 (h1.ev rfl) (rdb h2 (vs := [(.slice Ay100_0 (y100.xs).length cy100_0), (.slice Ay100_1 (y100.ys).length cy100_1), (.slice Ay100_2 (y100.in_).length cy100_2)]) (k := 3) rfl 2) rfl) ?_
 refine Tr.v1 rfl (run_len un_175) rfl ?_
 refine Tr.v2 rfl run_lss rfl rfl ?_
 refine Tr.nil (Tr.normThen ?_)
 refine Tr.cond rfl H (fun H => ?_) (fun H => ?_)
 ·refine Tr.skip (Tr.normThen ?_)
  refine Tr.seq ?_
  refine Tr.block ?_
  refine Tr.sr ?_
  refine Tr.asg rfl rfl ?_
  refine Tr.nil (Tr.normThen ?_)
  refine Tr.block ?_
  refine Tr.loop (σ := (List Tetchhouseref1Side) × Int × (Option Addr) × Nat) (fun m w s => F_etchhouseref1_sides_L28 y100 x348 (F_etchhouseref1_sides_L21 N y100 mL21) m s.1 s.2.1 = some r ∧ SlF s.2.2.1 (s.1).length s.2.2.2) (fun s => [(3, (.pointer (some ⟨b102, 0, none⟩))), (4, (.slice s.2.2.1 (s.1).length s.2.2.2)), (5, (iv x348)), (6, (iv s.2.1))]) (fun s => [(2, ow Ay100_2 cy100_2 126 fl_Lbool y100.in_), (3, bx b102 #[(.slice Ay100_0 (y100.xs).length cy100_0), (.slice Ay100_1 (y100.ys).length cy100_1), (.slice Ay100_2 (y100.in_).length cy100_2)] 177), (4, ow s.2.2.1 s.2.2.2 142 fl_Tetchhouseref1Side s.1)]) N (l347, 0, Al347, cl347) ⟨H, hl347⟩ (.r rfl) (.r rfl) (fun _ _ h => noSome (h.1)) ?_
  intro w leL28 mL28 s hs
  obtain ⟨l429, x430, Al429, cl429⟩ := s
  obtain ⟨H, hl429⟩ := hs
  replace H : F_etchhouseref1_sides_L28 y100 x348 (F_etchhouseref1_sides_L21 N y100 mL21) (mL28 + 1) l429 x430 = some r := H
  replace hgy100_0 := hgy100_0.le leL28
  replace hgy100_1 := hgy100_1.le leL28
  replace leB := leB.trans leL28
  replace leL21 := leL21.trans leL28
  replace hl429 : SlF Al429 (l429).length cl429 := hl429
  rw [F_etchhouseref1_sides_L28.eq_2] at H
  show Tr _ _ (LF [(3, (.pointer (some ⟨b102, 0, none⟩))), (4, (.slice Al429 (l429).length cl429)), (5, (iv x348)), (6, (iv x430))]) (LE [(2, ow Ay100_2 cy100_2 126 fl_Lbool y100.in_), (3, bx b102 #[(.slice Ay100_0 (y100.xs).length cy100_0), (.slice Ay100_1 (y100.ys).length cy100_1), (.slice Ay100_2 (y100.in_).length cy100_2)] 177), (4, ow Al429 cl429 142 fl_Tetchhouseref1Side l429)]) _
  refine Tr.seq ?_
  refine Tr.sr ?_
  refine Tr.mv rfl rfl ?_
  refine Tr.v1 rfl (run_fieldAddr fo_177_0) rfl ?_
  refine Tr.va rfl (fun _ _ h1 h2 => run_load1 ag_96 (h1.ev rfl) (rdb h2 (vs := [(.slice Ay100_0 (y100.xs).length cy100_0), (.slice Ay100_1 (y100.ys).length cy100_1), (.slice Ay100_2 (y100.in_).length cy100_2)]) (k := 3) rfl 0) rfl) ?_
  refine Tr.v1 rfl (run_len un_96) rfl ?_
  refine Tr.v2 rfl run_sub rfl rfl ?_
  refine Tr.v2 rfl run_lss rfl rfl ?_
  refine Tr.nil (Tr.normThen ?_)
  refine Tr.cond rfl H (fun H => ?_) (fun H => ?_)
  ·refine Tr.skip (Tr.normThen ?_)
   refine Tr.seq ?_
   refine Tr.block ?_
   refine Tr.seq ?_
   refine Tr.sr ?_
   refine Tr.v1 rfl (run_fieldAddr fo_177_2) rfl ?_
   refine Tr.va rfl (fun _ _ h1 h2 => run_load1 ag_175 (h1.ev rfl) (rdb h2 (vs := [(.slice Ay100_0 (y100.xs).length cy100_0), (.slice Ay100_1 (y100.ys).length cy100_1), (.slice Ay100_2 (y100.in_).length cy100_2)]) (k := 3) rfl 2) rfl) ?_
   refine Tr.mv rfl rfl ?_
   obtain ⟨x431, hx431, H⟩ := bnd H
   obtain ⟨hx4310, hx4311, hx4312⟩ := idx_some hx431
   refine Tr.va rfl (fun _ _ h1 h2 => run_indexAddr el_175 (h1.ev rfl) hgy100_2 (h1.ev rfl) hx4310 hx4311) ?_
   refine Tr.valE (U := (fl_Lbool).Ad) (fun u => (fl_Lbool).ok w.O w.W u x431) (fun u => (.slice u.1 (x431).length u.2)) (wn rfl) rfl (ldN (κ := 2) (t := fl_Lbool) (V := fun u => (.slice u.1 (x431).length u.2)) rfl hx4312 (fun _ _ u h1 hc => run_load1 ag_126 (h1.ev rfl) hc rfl)) ?_
   intro u432 hoku432
   obtain ⟨Au432_0, cu432_0⟩ := u432
   have hoku432_0 := hoku432
   replace hoku432_0 : Sl w.O w.W fl_bool Au432_0 cu432_0 x431 := hoku432_0
   show Tr _ _ (uf _ 32 (.slice Au432_0 (x431).length cu432_0)) _ _
   refine Tr.mv rfl rfl ?_
   obtain ⟨x433, hx433, H⟩ := bnd H
   obtain ⟨hx4330, hx4331, hx4332⟩ := idx_some hx433
   refine Tr.va rfl (fun _ _ h1 h2 => run_indexAddr el_126 (h1.ev rfl) hoku432_0.form (h1.ev rfl) hx4330 hx4331) ?_
   refine Tr.va rfl (fun _ _ h1 h2 => run_load1 ag_4 (h1.ev rfl) (rdF ef_bool (hoku432_0.rl) hx4332 h2) rfl) ?_
   refine Tr.v1 rfl run_not rfl ?_
   refine Tr.nil (Tr.normThen ?_)
   refine Tr.cond rfl H (fun H => ?_) (fun H => ?_)
   ·refine Tr.exit (Tr.exitThen (Tr.exitBlock (Tr.normThen ?_)))
    refine Tr.region ?_
    refine Tr.mv rfl rfl ?_
    refine Tr.v2 rfl run_add rfl rfl ?_
    refine Tr.asg rfl rfl ?_
    refine Tr.nil ?_
    exact Tr.backThen leL28 (l429, (w64 (x430 + 1)), Al429, cl429) ⟨H, hl429⟩ (.r rfl) (.r rfl)
   ·refine Tr.skip (Tr.normThen ?_)
    refine Tr.seq ?_
    refine Tr.draw (by kernel_rfl) (by kernel_rfl) ?_
    refine Tq.v1 rfl (run_fieldAddr fo_177_0) rfl ?_
    refine Tq.va rfl (fun _ _ h1 h2 => run_load1 ag_96 (h1.ev rfl) (rdb h2 (vs := [(.slice Ay100_0 (y100.xs).length cy100_0), (.slice Ay100_1 (y100.ys).length cy100_1), (.slice Ay100_2 (y100.in_).length cy100_2)]) (k := 3) rfl 0) rfl) ?_
    refine Tq.mv rfl rfl ?_
    obtain ⟨x434, hx434, H⟩ := bnd H
    obtain ⟨hx4340, hx4341, hx4342⟩ := idx_some hx434
    refine Tq.va rfl (fun _ _ h1 h2 => run_indexAddr el_96 (h1.ev rfl) hgy100_0.form (h1.ev rfl) hx4340 hx4341) ?_
    refine Tq.va rfl (fun _ _ h1 h2 => run_load1 ag_3 (h1.ev rfl) (rdF ef_i64 (hgy100_0.rl) hx4342 h2) rfl) ?_
    refine Tq.v1 rfl (run_fieldAddr fo_177_0) rfl ?_
    refine Tq.va rfl (fun _ _ h1 h2 => run_load1 ag_96 (h1.ev rfl) (rdb h2 (vs := [(.slice Ay100_0 (y100.xs).length cy100_0), (.slice Ay100_1 (y100.ys).length cy100_1), (.slice Ay100_2 (y100.in_).length cy100_2)]) (k := 3) rfl 0) rfl) ?_
    refine Tq.mv rfl rfl ?_
    refine Tq.v2 rfl run_add rfl rfl ?_
    obtain ⟨x435, hx435, H⟩ := bnd H
    obtain ⟨hx4350, hx4351, hx4352⟩ := idx_some hx435
    refine Tq.va rfl (fun _ _ h1 h2 => run_indexAddr el_96 (h1.ev rfl) hgy100_0.form (h1.ev rfl) hx4350 hx4351) ?_
    refine Tq.va rfl (fun _ _ h1 h2 => run_load1 ag_3 (h1.ev rfl) (rdF ef_i64 (hgy100_0.rl) hx4352 h2) rfl) ?_
    refine Tq.v1 rfl (run_fieldAddr fo_177_1) rfl ?_
    refine Tq.va rfl (fun _ _ h1 h2 => run_load1 ag_96 (h1.ev rfl) (rdb h2 (vs := [(.slice Ay100_0 (y100.xs).length cy100_0), (.slice Ay100_1 (y100.ys).length cy100_1), (.slice Ay100_2 (y100.in_).length cy100_2)]) (k := 3) rfl 1) rfl) ?_
    refine Tq.mv rfl rfl ?_
    obtain ⟨x436, hx436, H⟩ := bnd H
    obtain ⟨hx4360, hx4361, hx4362⟩ := idx_some hx436
    refine Tq.va rfl (fun _ _ h1 h2 => run_indexAddr el_96 (h1.ev rfl) hgy100_1.form (h1.ev rfl) hx4360 hx4361) ?_
    refine Tq.va rfl (fun _ _ h1 h2 => run_load1 ag_3 (h1.ev rfl) (rdF ef_i64 (hgy100_1.rl) hx4362 h2) rfl) ?_
    refine Tq.v1 rfl (run_fieldAddr fo_177_1) rfl ?_
    refine Tq.va rfl (fun _ _ h1 h2 => run_load1 ag_96 (h1.ev rfl) (rdb h2 (vs := [(.slice Ay100_0 (y100.xs).length cy100_0), (.slice Ay100_1 (y100.ys).length cy100_1), (.slice Ay100_2 (y100.in_).length cy100_2)]) (k := 3) rfl 1) rfl) ?_
    refine Tq.mv rfl rfl ?_
    refine Tq.v2 rfl run_add rfl rfl ?_
    obtain ⟨x437, hx437, H⟩ := bnd H
    obtain ⟨hx4370, hx4371, hx4372⟩ := idx_some hx437
    refine Tq.va rfl (fun _ _ h1 h2 => run_indexAddr el_96 (h1.ev rfl) hgy100_1.form (h1.ev rfl) hx4370 hx4371) ?_
    refine Tq.va rfl (fun _ _ h1 h2 => run_load1 ag_3 (h1.ev rfl) (rdF ef_i64 (hgy100_1.rl) hx4372 h2) rfl) ?_
    refine Tq.asg rfl rfl ?_
    refine Tq.asg rfl rfl ?_
    refine Tq.asg rfl rfl ?_
    refine Tq.asg rfl rfl ?_
    refine Tq.nil (Tr.normThen ?_)
    have leJ442 := Bs.Le.refl w
    refine Tr.cutJ (σ := (List Tetchhouseref1Side) × (Option Addr) × Nat) (fun w s => F_etchhouseref1_sides_J31 y100 x348 x430 (F_etchhouseref1_sides_L28 y100 x348 (F_etchhouseref1_sides_L21 N y100 mL21) mL28) x434 x435 x436 x437 s.1 = some r ∧ SlF s.2.1 (s.1).length s.2.2) (fun s => [(3, (.pointer (some ⟨b102, 0, none⟩))), (4, (.slice s.2.1 (s.1).length s.2.2)), (5, (iv x348)), (6, (iv x430)), (7, (iv x434)), (8, (iv x435)), (9, (iv x436)), (10, (iv x437))]) (fun s => [(2, ow Ay100_2 cy100_2 126 fl_Lbool y100.in_), (3, bx b102 #[(.slice Ay100_0 (y100.xs).length cy100_0), (.slice Ay100_1 (y100.ys).length cy100_1), (.slice Ay100_2 (y100.in_).length cy100_2)] 177), (4, ow s.2.1 s.2.2 142 fl_Tetchhouseref1Side s.1)]) ?_ ?_
    ·refine Tr.sr ?_
     refine Tr.va rfl (fun _ _ h1 h2 => run_loadN (cs := [(.slice Ay100_0 (y100.xs).length cy100_0), (.slice Ay100_1 (y100.ys).length cy100_1), (.slice Ay100_2 (y100.in_).length cy100_2)]) ag_177 sz_177 (h1.ev rfl) (CellsAt.take (rdb h2 (vs := [(.slice Ay100_0 (y100.xs).length cy100_0), (.slice Ay100_1 (y100.ys).length cy100_1), (.slice Ay100_2 (y100.in_).length cy100_2)]) (k := 3) rfl 0) 3) rfl) ?_
     refine Tr.mv rfl rfl ?_
     refine Tr.mv rfl rfl ?_
     refine Tr.v2 rfl run_sub rfl rfl ?_
     obtain ⟨y465, hy465, H⟩ := bnd H
     refine Tr.call0 (r := (.bool y465)) (wn rfl) rfl Tryz.call126 (evl_cons rfl (evl_cons rfl (evl_cons rfl evl_nil))) (fun W hW => F_etchhouseref1_cells__has_ok y100 Ay100_0 cy100_0 (hgy100_0.rl.ext hW.extAll) Ay100_1 cy100_1 (hgy100_1.rl.ext hW.extAll) Ay100_2 cy100_2 (hW.slCall (k := 2) rfl) x430 (w64 (x348 - 1)) y465 hy465 (HF.start _)) ?_
     refine Tr.v1 rfl run_not rfl ?_
     refine Tr.nil (Tr.normThen ?_)
     refine Tr.cond rfl H (fun H => ?_) (fun H => ?_)
     ·refine Tr.region ?_
      refine Tr.mv rfl rfl ?_
      refine Tr.mv rfl rfl ?_
      refine Tr.mv rfl rfl ?_
      refine Tr.build (vs := [(0, (iv x434)), (1, (iv x436))]) (cs := [(iv x434), (iv x436)]) (wn rfl) rfl (evs_cons rfl (evs_cons rfl evs_nil)) (by kernel_rfl) ?_
      refine Tr.mv rfl rfl ?_
      refine Tr.mv rfl rfl ?_
      refine Tr.build (vs := [(0, (iv x435)), (1, (iv x436))]) (cs := [(iv x435), (iv x436)]) (wn rfl) rfl (evs_cons rfl (evs_cons rfl evs_nil)) (by kernel_rfl) ?_
      refine Tr.build (vs := [(0, (.agg #[(iv x434), (iv x436)])), (1, (.agg #[(iv x435), (iv x436)]))]) (cs := [(iv x434), (iv x436), (iv x435), (iv x436)]) (wn rfl) rfl (evs_cons rfl (evs_cons rfl evs_nil)) (by kernel_rfl) ?_
      refine Tr.buildSlice 67 (e := 142) (vs := [(0, (.agg #[(iv x434), (iv x436), (iv x435), (iv x436)]))]) (cs := [(iv x434), (iv x436), (iv x435), (iv x436)]) (wn rfl) rfl (evs_cons rfl evs_nil) (by kernel_rfl) fun b466 => ?_
      obtain ⟨l467, hl467, H⟩ := bnd H
      refine Tr.append 4 (t := fl_Tetchhouseref1Side) (l := l429) (l2 := [(Tetchhouseref1Side.mk (TPoint.mk x434 x436) (TPoint.mk x435 x436))]) (wn rfl) rfl rfl rfl rfl (fun W hW => ⟨[[(iv x434), (iv x436), (iv x435), (iv x436)]], (.cons ⟨(), trivial, rfl⟩ .nil), rdb hW (vs := [(iv x434), (iv x436), (iv x435), (iv x436)]) (k := 67) rfl 0⟩) un_138 sz_142 zl_142 (by decide) by_142 rfl hl467 fun Al467 cl467 hAl467 => ?_
      refine Tr.asg rfl rfl ?_
      refine Tr.nil ?_
      exact Tr.backThen leJ442 (l467, Al467, cl467) ⟨H, hAl467⟩ (.r rfl) (.r rfl)
     ·refine Tr.skip ?_
      exact Tr.backThen leJ442 (l429, Al429, cl429) ⟨H, hl429⟩ (.r rfl) (.r rfl)
    ·intro w s hlJ443 hs
     obtain ⟨l441, Al441, cl441⟩ := s
     obtain ⟨H, hl441⟩ := hs
     replace H : F_etchhouseref1_sides_J31 y100 x348 x430 (F_etchhouseref1_sides_L28 y100 x348 (F_etchhouseref1_sides_L21 N y100 mL21) mL28) x434 x435 x436 x437 l441 = some r := H
     replace hgy100_0 := hgy100_0.le hlJ443
     replace hgy100_1 := hgy100_1.le hlJ443
     replace leB := leB.trans hlJ443
     replace leL21 := leL21.trans hlJ443
     replace leL28 := leL28.trans hlJ443
     replace hl441 : SlF Al441 (l441).length cl441 := hl441
     unfold F_etchhouseref1_sides_J31 at H
     show Tr _ _ (LF [(3, (.pointer (some ⟨b102, 0, none⟩))), (4, (.slice Al441 (l441).length cl441)), (5, (iv x348)), (6, (iv x430)), (7, (iv x434)), (8, (iv x435)), (9, (iv x436)), (10, (iv x437))]) (LE [(2, ow Ay100_2 cy100_2 126 fl_Lbool y100.in_), (3, bx b102 #[(.slice Ay100_0 (y100.xs).length cy100_0), (.slice Ay100_1 (y100.ys).length cy100_1), (.slice Ay100_2 (y100.in_).length cy100_2)] 177), (4, ow Al441 cl441 142 fl_Tetchhouseref1Side l441)]) _
     have leJ448 := Bs.Le.refl w
     refine Tr.cutJ (σ := (List Tetchhouseref1Side) × (Option Addr) × Nat) (fun w s => F_etchhouseref1_sides_J30 y100 x348 x430 (F_etchhouseref1_sides_L28 y100 x348 (F_etchhouseref1_sides_L21 N y100 mL21) mL28) x434 x435 x436 x437 s.1 = some r ∧ SlF s.2.1 (s.1).length s.2.2) (fun s => [(3, (.pointer (some ⟨b102, 0, none⟩))), (4, (.slice s.2.1 (s.1).length s.2.2)), (5, (iv x348)), (6, (iv x430)), (7, (iv x434)), (8, (iv x435)), (9, (iv x436)), (10, (iv x437))]) (fun s => [(2, ow Ay100_2 cy100_2 126 fl_Lbool y100.in_), (3, bx b102 #[(.slice Ay100_0 (y100.xs).length cy100_0), (.slice Ay100_1 (y100.ys).length cy100_1), (.slice Ay100_2 (y100.in_).length cy100_2)] 177), (4, ow s.2.1 s.2.2 142 fl_Tetchhouseref1Side s.1)]) ?_ ?_
     ·refine Tr.sr ?_
      refine Tr.va rfl (fun _ _ h1 h2 => run_loadN (cs := [(.slice Ay100_0 (y100.xs).length cy100_0), (.slice Ay100_1 (y100.ys).length cy100_1), (.slice Ay100_2 (y100.in_).length cy100_2)]) ag_177 sz_177 (h1.ev rfl) (CellsAt.take (rdb h2 (vs := [(.slice Ay100_0 (y100.xs).length cy100_0), (.slice Ay100_1 (y100.ys).length cy100_1), (.slice Ay100_2 (y100.in_).length cy100_2)]) (k := 3) rfl 0) 3) rfl) ?_
      refine Tr.mv rfl rfl ?_
      refine Tr.v2 rfl run_add rfl rfl ?_
      refine Tr.mv rfl rfl ?_
      obtain ⟨y462, hy462, H⟩ := bnd H
      refine Tr.call0 (r := (.bool y462)) (wn rfl) rfl Tryz.call126 (evl_cons rfl (evl_cons rfl (evl_cons rfl evl_nil))) (fun W hW => F_etchhouseref1_cells__has_ok y100 Ay100_0 cy100_0 (hgy100_0.rl.ext hW.extAll) Ay100_1 cy100_1 (hgy100_1.rl.ext hW.extAll) Ay100_2 cy100_2 (hW.slCall (k := 2) rfl) (w64 (x430 + 1)) x348 y462 hy462 (HF.start _)) ?_
      refine Tr.v1 rfl run_not rfl ?_
      refine Tr.nil (Tr.normThen ?_)
      refine Tr.cond rfl H (fun H => ?_) (fun H => ?_)
      ·refine Tr.region ?_
       refine Tr.mv rfl rfl ?_
       refine Tr.mv rfl rfl ?_
       refine Tr.mv rfl rfl ?_
       refine Tr.build (vs := [(0, (iv x435)), (1, (iv x436))]) (cs := [(iv x435), (iv x436)]) (wn rfl) rfl (evs_cons rfl (evs_cons rfl evs_nil)) (by kernel_rfl) ?_
       refine Tr.mv rfl rfl ?_
       refine Tr.mv rfl rfl ?_
       refine Tr.build (vs := [(0, (iv x435)), (1, (iv x437))]) (cs := [(iv x435), (iv x437)]) (wn rfl) rfl (evs_cons rfl (evs_cons rfl evs_nil)) (by kernel_rfl) ?_
       refine Tr.build (vs := [(0, (.agg #[(iv x435), (iv x436)])), (1, (.agg #[(iv x435), (iv x437)]))]) (cs := [(iv x435), (iv x436), (iv x435), (iv x437)]) (wn rfl) rfl (evs_cons rfl (evs_cons rfl evs_nil)) (by kernel_rfl) ?_
       refine Tr.buildSlice 66 (e := 142) (vs := [(0, (.agg #[(iv x435), (iv x436), (iv x435), (iv x437)]))]) (cs := [(iv x435), (iv x436), (iv x435), (iv x437)]) (wn rfl) rfl (evs_cons rfl evs_nil) (by kernel_rfl) fun b463 => ?_
       obtain ⟨l464, hl464, H⟩ := bnd H
       refine Tr.append 4 (t := fl_Tetchhouseref1Side) (l := l441) (l2 := [(Tetchhouseref1Side.mk (TPoint.mk x435 x436) (TPoint.mk x435 x437))]) (wn rfl) rfl rfl rfl rfl (fun W hW => ⟨[[(iv x435), (iv x436), (iv x435), (iv x437)]], (.cons ⟨(), trivial, rfl⟩ .nil), rdb hW (vs := [(iv x435), (iv x436), (iv x435), (iv x437)]) (k := 66) rfl 0⟩) un_138 sz_142 zl_142 (by decide) by_142 rfl hl464 fun Al464 cl464 hAl464 => ?_
       refine Tr.asg rfl rfl ?_
       refine Tr.nil ?_
       exact Tr.backThen leJ448 (l464, Al464, cl464) ⟨H, hAl464⟩ (.r rfl) (.r rfl)
      ·refine Tr.skip ?_
       exact Tr.backThen leJ448 (l441, Al441, cl441) ⟨H, hl441⟩ (.r rfl) (.r rfl)
     ·intro w s hlJ449 hs
      obtain ⟨l447, Al447, cl447⟩ := s
      obtain ⟨H, hl447⟩ := hs
      replace H : F_etchhouseref1_sides_J30 y100 x348 x430 (F_etchhouseref1_sides_L28 y100 x348 (F_etchhouseref1_sides_L21 N y100 mL21) mL28) x434 x435 x436 x437 l447 = some r := H
      replace hgy100_0 := hgy100_0.le hlJ449
      replace hgy100_1 := hgy100_1.le hlJ449
      replace leB := leB.trans hlJ449
      replace leL21 := leL21.trans hlJ449
      replace leL28 := leL28.trans hlJ449
      replace hl447 : SlF Al447 (l447).length cl447 := hl447
      unfold F_etchhouseref1_sides_J30 at H
      show Tr _ _ (LF [(3, (.pointer (some ⟨b102, 0, none⟩))), (4, (.slice Al447 (l447).length cl447)), (5, (iv x348)), (6, (iv x430)), (7, (iv x434)), (8, (iv x435)), (9, (iv x436)), (10, (iv x437))]) (LE [(2, ow Ay100_2 cy100_2 126 fl_Lbool y100.in_), (3, bx b102 #[(.slice Ay100_0 (y100.xs).length cy100_0), (.slice Ay100_1 (y100.ys).length cy100_1), (.slice Ay100_2 (y100.in_).length cy100_2)] 177), (4, ow Al447 cl447 142 fl_Tetchhouseref1Side l447)]) _
      have leJ454 := Bs.Le.refl w
      refine Tr.cutJ (σ := (List Tetchhouseref1Side) × (Option Addr) × Nat) (fun w s => F_etchhouseref1_sides_J29 y100 x348 x430 (F_etchhouseref1_sides_L28 y100 x348 (F_etchhouseref1_sides_L21 N y100 mL21) mL28) x434 x436 x437 s.1 = some r ∧ SlF s.2.1 (s.1).length s.2.2) (fun s => [(3, (.pointer (some ⟨b102, 0, none⟩))), (4, (.slice s.2.1 (s.1).length s.2.2)), (5, (iv x348)), (6, (iv x430)), (7, (iv x434)), (9, (iv x436)), (10, (iv x437))]) (fun s => [(2, ow Ay100_2 cy100_2 126 fl_Lbool y100.in_), (3, bx b102 #[(.slice Ay100_0 (y100.xs).length cy100_0), (.slice Ay100_1 (y100.ys).length cy100_1), (.slice Ay100_2 (y100.in_).length cy100_2)] 177), (4, ow s.2.1 s.2.2 142 fl_Tetchhouseref1Side s.1)]) ?_ ?_
      ·refine Tr.sr ?_
       refine Tr.va rfl (fun _ _ h1 h2 => run_loadN (cs := [(.slice Ay100_0 (y100.xs).length cy100_0), (.slice Ay100_1 (y100.ys).length cy100_1), (.slice Ay100_2 (y100.in_).length cy100_2)]) ag_177 sz_177 (h1.ev rfl) (CellsAt.take (rdb h2 (vs := [(.slice Ay100_0 (y100.xs).length cy100_0), (.slice Ay100_1 (y100.ys).length cy100_1), (.slice Ay100_2 (y100.in_).length cy100_2)]) (k := 3) rfl 0) 3) rfl) ?_
       refine Tr.mv rfl rfl ?_
       refine Tr.mv rfl rfl ?_
       refine Tr.v2 rfl run_add rfl rfl ?_
       obtain ⟨y459, hy459, H⟩ := bnd H
       refine Tr.call0 (r := (.bool y459)) (wn rfl) rfl Tryz.call126 (evl_cons rfl (evl_cons rfl (evl_cons rfl evl_nil))) (fun W hW => F_etchhouseref1_cells__has_ok y100 Ay100_0 cy100_0 (hgy100_0.rl.ext hW.extAll) Ay100_1 cy100_1 (hgy100_1.rl.ext hW.extAll) Ay100_2 cy100_2 (hW.slCall (k := 2) rfl) x430 (w64 (x348 + 1)) y459 hy459 (HF.start _)) ?_
       refine Tr.v1 rfl run_not rfl ?_
       refine Tr.nil (Tr.normThen ?_)
       refine Tr.cond rfl H (fun H => ?_) (fun H => ?_)
       ·refine Tr.region ?_
        refine Tr.mv rfl rfl ?_
        refine Tr.mv rfl rfl ?_
        refine Tr.mv rfl rfl ?_
        refine Tr.build (vs := [(0, (iv x435)), (1, (iv x437))]) (cs := [(iv x435), (iv x437)]) (wn rfl) rfl (evs_cons rfl (evs_cons rfl evs_nil)) (by kernel_rfl) ?_
        refine Tr.mv rfl rfl ?_
        refine Tr.mv rfl rfl ?_
        refine Tr.build (vs := [(0, (iv x434)), (1, (iv x437))]) (cs := [(iv x434), (iv x437)]) (wn rfl) rfl (evs_cons rfl (evs_cons rfl evs_nil)) (by kernel_rfl) ?_
        refine Tr.build (vs := [(0, (.agg #[(iv x435), (iv x437)])), (1, (.agg #[(iv x434), (iv x437)]))]) (cs := [(iv x435), (iv x437), (iv x434), (iv x437)]) (wn rfl) rfl (evs_cons rfl (evs_cons rfl evs_nil)) (by kernel_rfl) ?_
        refine Tr.buildSlice 65 (e := 142) (vs := [(0, (.agg #[(iv x435), (iv x437), (iv x434), (iv x437)]))]) (cs := [(iv x435), (iv x437), (iv x434), (iv x437)]) (wn rfl) rfl (evs_cons rfl evs_nil) (by kernel_rfl) fun b460 => ?_
        obtain ⟨l461, hl461, H⟩ := bnd H
        refine Tr.append 4 (t := fl_Tetchhouseref1Side) (l := l447) (l2 := [(Tetchhouseref1Side.mk (TPoint.mk x435 x437) (TPoint.mk x434 x437))]) (wn rfl) rfl rfl rfl rfl (fun W hW => ⟨[[(iv x435), (iv x437), (iv x434), (iv x437)]], (.cons ⟨(), trivial, rfl⟩ .nil), rdb hW (vs := [(iv x435), (iv x437), (iv x434), (iv x437)]) (k := 65) rfl 0⟩) un_138 sz_142 zl_142 (by decide) by_142 rfl hl461 fun Al461 cl461 hAl461 => ?_
        refine Tr.asg rfl rfl ?_
        refine Tr.nil ?_
        exact Tr.backThen leJ454 (l461, Al461, cl461) ⟨H, hAl461⟩ (.r rfl) (.r rfl)
       ·refine Tr.skip ?_
        exact Tr.backThen leJ454 (l447, Al447, cl447) ⟨H, hl447⟩ (.r rfl) (.r rfl)
      ·intro w s hlJ455 hs
       obtain ⟨l453, Al453, cl453⟩ := s
       obtain ⟨H, hl453⟩ := hs
       replace H : F_etchhouseref1_sides_J29 y100 x348 x430 (F_etchhouseref1_sides_L28 y100 x348 (F_etchhouseref1_sides_L21 N y100 mL21) mL28) x434 x436 x437 l453 = some r := H
       replace hgy100_0 := hgy100_0.le hlJ455
       replace hgy100_1 := hgy100_1.le hlJ455
       replace leB := leB.trans hlJ455
       replace leL21 := leL21.trans hlJ455
       replace leL28 := leL28.trans hlJ455
       replace hl453 : SlF Al453 (l453).length cl453 := hl453
       unfold F_etchhouseref1_sides_J29 at H
       show Tr _ _ (LF [(3, (.pointer (some ⟨b102, 0, none⟩))), (4, (.slice Al453 (l453).length cl453)), (5, (iv x348)), (6, (iv x430)), (7, (iv x434)), (9, (iv x436)), (10, (iv x437))]) (LE [(2, ow Ay100_2 cy100_2 126 fl_Lbool y100.in_), (3, bx b102 #[(.slice Ay100_0 (y100.xs).length cy100_0), (.slice Ay100_1 (y100.ys).length cy100_1), (.slice Ay100_2 (y100.in_).length cy100_2)] 177), (4, ow Al453 cl453 142 fl_Tetchhouseref1Side l453)]) _
       refine Tr.sr ?_
       refine Tr.va rfl (fun _ _ h1 h2 => run_loadN (cs := [(.slice Ay100_0 (y100.xs).length cy100_0), (.slice Ay100_1 (y100.ys).length cy100_1), (.slice Ay100_2 (y100.in_).length cy100_2)]) ag_177 sz_177 (h1.ev rfl) (CellsAt.take (rdb h2 (vs := [(.slice Ay100_0 (y100.xs).length cy100_0), (.slice Ay100_1 (y100.ys).length cy100_1), (.slice Ay100_2 (y100.in_).length cy100_2)]) (k := 3) rfl 0) 3) rfl) ?_
       refine Tr.mv rfl rfl ?_
       refine Tr.v2 rfl run_sub rfl rfl ?_
       refine Tr.mv rfl rfl ?_
       obtain ⟨y456, hy456, H⟩ := bnd H
       refine Tr.call0 (r := (.bool y456)) (wn rfl) rfl Tryz.call126 (evl_cons rfl (evl_cons rfl (evl_cons rfl evl_nil))) (fun W hW => F_etchhouseref1_cells__has_ok y100 Ay100_0 cy100_0 (hgy100_0.rl.ext hW.extAll) Ay100_1 cy100_1 (hgy100_1.rl.ext hW.extAll) Ay100_2 cy100_2 (hW.slCall (k := 2) rfl) (w64 (x430 - 1)) x348 y456 hy456 (HF.start _)) ?_
       refine Tr.v1 rfl run_not rfl ?_
       refine Tr.nil (Tr.normThen ?_)
       refine Tr.cond rfl H (fun H => ?_) (fun H => ?_)
       ·refine Tr.region ?_
        refine Tr.mv rfl rfl ?_
        refine Tr.mv rfl rfl ?_
        refine Tr.mv rfl rfl ?_
        refine Tr.build (vs := [(0, (iv x434)), (1, (iv x437))]) (cs := [(iv x434), (iv x437)]) (wn rfl) rfl (evs_cons rfl (evs_cons rfl evs_nil)) (by kernel_rfl) ?_
        refine Tr.mv rfl rfl ?_
        refine Tr.mv rfl rfl ?_
        refine Tr.build (vs := [(0, (iv x434)), (1, (iv x436))]) (cs := [(iv x434), (iv x436)]) (wn rfl) rfl (evs_cons rfl (evs_cons rfl evs_nil)) (by kernel_rfl) ?_
        refine Tr.build (vs := [(0, (.agg #[(iv x434), (iv x437)])), (1, (.agg #[(iv x434), (iv x436)]))]) (cs := [(iv x434), (iv x437), (iv x434), (iv x436)]) (wn rfl) rfl (evs_cons rfl (evs_cons rfl evs_nil)) (by kernel_rfl) ?_
        refine Tr.buildSlice 64 (e := 142) (vs := [(0, (.agg #[(iv x434), (iv x437), (iv x434), (iv x436)]))]) (cs := [(iv x434), (iv x437), (iv x434), (iv x436)]) (wn rfl) rfl (evs_cons rfl evs_nil) (by kernel_rfl) fun b457 => ?_
        obtain ⟨l458, hl458, H⟩ := bnd H
        refine Tr.append 4 (t := fl_Tetchhouseref1Side) (l := l453) (l2 := [(Tetchhouseref1Side.mk (TPoint.mk x434 x437) (TPoint.mk x434 x436))]) (wn rfl) rfl rfl rfl rfl (fun W hW => ⟨[[(iv x434), (iv x437), (iv x434), (iv x436)]], (.cons ⟨(), trivial, rfl⟩ .nil), rdb hW (vs := [(iv x434), (iv x437), (iv x434), (iv x436)]) (k := 64) rfl 0⟩) un_138 sz_142 zl_142 (by decide) by_142 rfl hl458 fun Al458 cl458 hAl458 => ?_
        refine Tr.asg rfl rfl ?_
        refine Tr.nil (Tr.normBlock (Tr.normThen ?_))
        refine Tr.region ?_
        refine Tr.mv rfl rfl ?_
        refine Tr.v2 rfl run_add rfl rfl ?_
        refine Tr.asg rfl rfl ?_
        refine Tr.nil ?_
        exact Tr.backThen leL28 (l458, (w64 (x430 + 1)), Al458, cl458) ⟨H, hAl458⟩ (.r rfl) (.r rfl)
       ·refine Tr.skip (Tr.normBlock (Tr.normThen ?_))
        refine Tr.region ?_
        refine Tr.mv rfl rfl ?_
        refine Tr.v2 rfl run_add rfl rfl ?_
        refine Tr.asg rfl rfl ?_
        refine Tr.nil ?_
        exact Tr.backThen leL28 (l453, (w64 (x430 + 1)), Al453, cl453) ⟨H, hl453⟩ (.r rfl) (.r rfl)
  ·refine Tr.exit (Tr.exitThen (Tr.exitThen (Tr.exitBlock (Tr.normBlock (Tr.normThen ?_)))))
   refine Tr.region ?_
   refine Tr.mv rfl rfl ?_
   refine Tr.v2 rfl run_add rfl rfl ?_
   refine Tr.asg rfl rfl ?_
   refine Tr.nil ?_
   exact Tr.backThen leL21 (l429, (w64 (x348 + 1)), Al429, cl429) ⟨H, hl429⟩ (.r rfl) (.r rfl)
 ·refine Tr.exit (Tr.exitThen (Tr.exitThen (Tr.exitBlock (Tr.normThen ?_))))
  refine Tr.sr ?_
  refine Tr.mv rfl rfl ?_
  refine Tr.asg rfl rfl ?_
  refine Tr.nil (Tr.normThen ?_)
  refine Tr.ret ?_
  obtain rfl := Option.some.inj H
  exact Tr.out (m := [(.slice Al347 (l347).length cl347)]) [] (res_tmp rfl res_nil) (fun W hW => ⟨(Al347, cl347), rfl, hl347, HF.lowE leB (hW.pick (ks := [4]) (by decide) (pk_cons rfl pk_nil)) ⟨ow_any _ _ _ _ tr_Tetchhouseref1Side, trivial⟩⟩)

theorem F_etchhouseref1_sign_ok {w : Bs} (p0 : Int) (r : Int) (H : F_etchhouseref1_sign p0 = some r) (hE : HF w w.W E0) : Calls Tryz.prog 176 [(iv p0)].toArray w.W fun e W' => e = .returned (iv r) ∧ HF w W' E0 := by
 unfold F_etchhouseref1_sign at H
 have leB := Bs.Le.refl w
 refine Tr.enter (n := 9) Tryz.func176 rfl rfl rfl hE ?_
 refine Tr.sr ?_
 refine Tr.asg rfl rfl ?_
 refine Tr.nil (Tr.normThen ?_)
 refine Tr.seq ?_
 refine Tr.block ?_
 refine Tr.sr ?_
 refine Tr.mv rfl rfl ?_
 refine Tr.v2 rfl run_lss rfl rfl ?_
 refine Tr.asg rfl rfl ?_
 refine Tr.nil (Tr.normThen ?_)
 refine Tr.cond rfl H (fun H => ?_) (fun H => ?_)
 ·refine Tr.sr ?_
  refine Tr.asg rfl rfl ?_
  refine Tr.nil (Tr.normThen ?_)
  refine Tr.ret (Tr.retBlock (Tr.retThen ?_))
  obtain rfl := Option.some.inj H
  exact Tr.out (m := [(iv (-1))]) [] (res_tmp rfl res_nil) (fun W hW => ⟨rfl, hW.low leB⟩)
 ·refine Tr.sr ?_
  refine Tr.mv rfl rfl ?_
  refine Tr.v2 rfl run_gtr rfl rfl ?_
  refine Tr.asg rfl rfl ?_
  refine Tr.nil (Tr.normThen ?_)
  refine Tr.cond rfl H (fun H => ?_) (fun H => ?_)
  ·refine Tr.sr ?_
   refine Tr.asg rfl rfl ?_
   refine Tr.nil (Tr.normThen ?_)
   refine Tr.ret (Tr.retBlock (Tr.retThen ?_))
   obtain rfl := Option.some.inj H
   exact Tr.out (m := [(iv 1)]) [] (res_tmp rfl res_nil) (fun W hW => ⟨rfl, hW.low leB⟩)
  ·refine Tr.skip (Tr.normBlock (Tr.normThen ?_))
   refine Tr.sr ?_
   refine Tr.asg rfl rfl ?_
   refine Tr.nil (Tr.normThen ?_)
   refine Tr.ret ?_
   obtain rfl := Option.some.inj H
   exact Tr.out (m := [(iv 0)]) [] (res_tmp rfl res_nil) (fun W hW => ⟨rfl, hW.low leB⟩)

theorem F_etchhouseref1_way_ok {w : Bs} (p0 : Tetchhouseref1Side) (r : TPoint) (H : F_etchhouseref1_way p0 = some r) (hE : HF w w.W E0) : Calls Tryz.prog 127 [(.agg #[(iv p0.from_.X), (iv p0.from_.Y), (iv p0.to_.X), (iv p0.to_.Y)])].toArray w.W fun e W' => e = .returned (.agg #[(iv r.X), (iv r.Y)]) ∧ HF w W' E0 := by
 unfold F_etchhouseref1_way at H
 have leB := Bs.Le.refl w
 refine Tr.enter (n := 20) Tryz.func127 rfl rfl rfl hE ?_
 refine Tr.sr ?_
 refine Tr.box 1 (cs := [(iv p0.from_.X), (iv p0.from_.Y), (iv p0.to_.X), (iv p0.to_.Y)]) (wn rfl) rfl rfl rfl fun b100 => ?_
 refine Tr.alloc 2 (wn rfl) rfl ze_47 fun b101 => ?_
 refine Tr.nil (Tr.normThen ?_)
 refine Tr.seq ?_
 refine Tr.drawTail 15 (by kernel_rfl) (by kernel_rfl) ?_
 refine Tq.v1 rfl (run_fieldAddr fo_142_1) rfl ?_
 refine Tq.v1 rfl (run_fieldAddr fo_47_0) rfl ?_
 refine Tq.va rfl (fun _ _ h1 h2 => run_load1 ag_3 (h1.ev rfl) (rdb h2 (vs := [(iv p0.from_.X), (iv p0.from_.Y), (iv p0.to_.X), (iv p0.to_.Y)]) (k := 1) rfl 2) rfl) ?_
 refine Tq.v1 rfl (run_fieldAddr fo_142_0) rfl ?_
 refine Tq.v1 rfl (run_fieldAddr fo_47_0) rfl ?_
 refine Tq.va rfl (fun _ _ h1 h2 => run_load1 ag_3 (h1.ev rfl) (rdb h2 (vs := [(iv p0.from_.X), (iv p0.from_.Y), (iv p0.to_.X), (iv p0.to_.Y)]) (k := 1) rfl 0) rfl) ?_
 refine Tq.v2 rfl run_sub rfl rfl ?_
 obtain ⟨y102, hy102, H⟩ := bnd H
 refine Tq.call0 (r := (iv y102)) (wn rfl) rfl Tryz.call176 (evl_cons rfl evl_nil) (fun W hW => F_etchhouseref1_sign_ok (w64 (p0.to_.X - p0.from_.X)) y102 hy102 (HF.start _)) ?_
 refine Tq.v1 rfl (run_fieldAddr fo_142_1) rfl ?_
 refine Tq.v1 rfl (run_fieldAddr fo_47_1) rfl ?_
 refine Tq.va rfl (fun _ _ h1 h2 => run_load1 ag_3 (h1.ev rfl) (rdb h2 (vs := [(iv p0.from_.X), (iv p0.from_.Y), (iv p0.to_.X), (iv p0.to_.Y)]) (k := 1) rfl 3) rfl) ?_
 refine Tq.v1 rfl (run_fieldAddr fo_142_0) rfl ?_
 refine Tq.v1 rfl (run_fieldAddr fo_47_1) rfl ?_
 refine Tq.va rfl (fun _ _ h1 h2 => run_load1 ag_3 (h1.ev rfl) (rdb h2 (vs := [(iv p0.from_.X), (iv p0.from_.Y), (iv p0.to_.X), (iv p0.to_.Y)]) (k := 1) rfl 1) rfl) ?_
 refine Tq.v2 rfl run_sub rfl rfl ?_
 refine Tq.nil ?_
 obtain ⟨y103, hy103, H⟩ := bnd H
 refine Tr.call0 (r := (iv y103)) (wn rfl) rfl Tryz.call176 (evl_cons rfl evl_nil) (fun W hW => F_etchhouseref1_sign_ok (w64 (p0.to_.Y - p0.from_.Y)) y103 hy103 (HF.start _)) ?_
 refine Tr.build (vs := [(0, (iv y102)), (1, (iv y103))]) (cs := [(iv y102), (iv y103)]) (wn rfl) rfl (evs_cons rfl (evs_cons rfl evs_nil)) (by kernel_rfl) ?_
 refine Tr.store 2 (cs := [(iv y102), (iv y103)]) [(iv y102), (iv y103)] (wn rfl) rfl rfl rfl rfl sz_47 rfl rfl rfl ?_
 refine Tr.nil (Tr.normThen ?_)
 refine Tr.ret ?_
 obtain rfl := Option.some.inj H
 exact Tr.out (m := [(.agg #[(iv y102), (iv y103)])]) [2] (res_cell rfl rfl ag_47 sz_47 res_nil) (fun W hW => ⟨rfl, hW.low leB⟩)

end Go.Proofs.YtcjeebkoafonpaaGreatDoor
