/- The walks: each function computes its plain function. -/
import Derived.Test.YtocjndhpgjccoaaDoorXWa
namespace Go.Proofs.YtocjndhpgjccoaaDoor
open Go.RowKit
set_option maxRecDepth 100000
set_option maxHeartbeats 1000000
theorem F_plot_ownTools__changed_2__scaled_1_ok (N : Nat) {w : Bs} (p0 : (List TPlotTool)) (Ap0_0 : Option Addr) (cp0_0 : Nat) (hp0_0 : Sl w.O w.W fl_TPlotTool Ap0_0 cp0_0 p0) (bq0 : Nat) (q1 : Bool) (bq1 : Nat) (q2 : TPlot) (Aq2_0 : Option Addr) (cq2_0 : Nat) (hq2_0 : Sl w.R w.W fl_TPlotTool Aq2_0 cq2_0 q2.Tools) (Aq2_1 : Option Addr) (cq2_1 : Nat) (hq2_1 : Sl w.R w.W fl_TPlotStep Aq2_1 cq2_1 q2.Steps) (bq2 : Nat) (hb2 : w.R bq2) (hc2 : CellsAt w.W bq2 0 [(.int .i64 q2.Unit), (.slice Aq2_0 (q2.Tools).length cq2_0), (.slice Aq2_1 (q2.Steps).length cq2_1)]) (q3 : Int) (bq3 : Nat) (hb3 : w.R bq3) (hc3 : CellsAt w.W bq3 0 [(.int .i64 q3)]) (hb0 : w.R bq0) (hc0 : CellsAt w.W bq0 0 [(.func (.func 69) #[] #[(.pointer (some ⟨bq1, 0, none⟩)), (.pointer (some ⟨bq2, 0, none⟩)), (.pointer (some ⟨bq3, 0, none⟩))])]) (r : ((List TPlotTool) × Bool)) (H : F_plot_ownTools__changed_2__scaled_1 N p0 q1 q2 q3 = some r) (hE : HF w w.W (LEn [bx bq1 #[(.bool q1)] 4, emp])) : Calls Tryd.prog 44 [(.slice Ap0_0 (p0).length cp0_0), (.func (.func 97) #[] #[(.pointer (some ⟨bq0, 0, none⟩))])].toArray w.W fun e W' => ∃ (w' : Bs) (u : (Option Addr × Nat)), w.Le w' ∧ e = .returned (.slice u.1 (r.1).length u.2) ∧ (SlF u.1 (r.1).length u.2) ∧ HF w' W' (LEn [bx bq1 #[(.bool r.2)] 4, ow u.1 u.2 55 fl_TPlotTool r.1]) := by
 unfold F_plot_ownTools__changed_2__scaled_1 at H
 have leB := Bs.Le.refl w
 refine Tr.enter (n := 50) Tryd.func44 rfl rfl rfl hE ?_
 refine Tr.sr ?_
 refine Tr.asg rfl rfl ?_
 refine Tr.nilOwn 1 55 fl_TPlotTool ?_
 show Tr _ _ (uf _ 4 (.slice none (([] : List TPlotTool)).length 0)) _ _
 refine Tr.nil (Tr.normThen ?_)
 refine Tr.sr ?_
 refine Tr.mv rfl rfl ?_
 obtain ⟨y100, hy100, H⟩ := bnd H
 refine Tr.callG [2] [emp] (U := (Option Addr × Nat)) (fun u => (.slice u.1 (y100).length u.2)) (fun O W u => SlF u.1 (y100).length u.2) (fun u => [ow u.1 u.2 55 fl_TPlotTool y100]) rfl (pk_cons rfl pk_nil) (fun _ => rfl) (wn rfl) rfl Tryd.call76 (evl_cons rfl evl_nil) (fun W hW hp hE => F_slices_Clone_PlotTool_ok p0 Ap0_0 cp0_0 (hp0_0.extO (hW.extS hp)) y100 hy100 hE) ?_
 intro w u le101 hu
 obtain ⟨Ay100_0, cy100_0⟩ := u
 have gy100_0 := hu
 replace hp0_0 := hp0_0.le le101
 replace hc0 := le101.ext.cells hb0 hc0
 replace hb0 := le101.r _ hb0
 replace hc2 := le101.ext.cells hb2 hc2
 replace hb2 := le101.r _ hb2
 replace hq2_0 := hq2_0.leR le101
 replace hq2_1 := hq2_1.leR le101
 replace hc3 := le101.ext.cells hb3 hc3
 replace hb3 := le101.r _ hb3
 replace leB := leB.trans le101
 have hgy100_0 : SlF Ay100_0 (y100).length cy100_0 := gy100_0 --@phi
 show Tr _ _ (uf _ 10 (.slice Ay100_0 (y100).length cy100_0)) (up _ 2 (ow Ay100_0 cy100_0 55 fl_TPlotTool y100)) _
 refine Tr.asg rfl rfl ?_
 refine Tr.nil (Tr.normThen ?_)
 refine Tr.seq ?_
 refine Tr.sr ?_
 refine Tr.mv rfl rfl ?_
 refine Tr.va rfl (fun _ _ h1 h2 => run_len un_22 (h1.ev rfl)) ?_
 refine Tr.mv rfl rfl ?_
 refine Tr.nil (Tr.normThen ?_)
 refine Tr.block ?_
 refine Tr.loop (σ := Bool × (List TPlotTool) × Int × (Option Addr) × Nat) (fun m w s => F_plot_ownTools__changed_2__scaled_1_L3 q2 q3 y100 m s.1 s.2.1 s.2.2.1 = some r ∧ SlF s.2.2.2.1 (s.2.1).length s.2.2.2.2) (fun s => [(1, (.func (.func 97) #[] #[(.pointer (some ⟨bq0, 0, none⟩))])), (5, (.slice s.2.2.2.1 (s.2.1).length s.2.2.2.2)), (12, (.int .i64 (y100.length : Int))), (13, (.int .i64 s.2.2.1))]) (fun s => [(0, bx bq1 #[(.bool s.1)] 4), (2, ow s.2.2.2.1 s.2.2.2.2 55 fl_TPlotTool s.2.1)]) N (q1, y100, 0, Ay100_0, cy100_0) ⟨H, hgy100_0⟩ (.cons rfl (.cons rfl (.cons rfl (.cons rfl .nil)))) (.cons rfl (.cons rfl .nil)) (fun _ _ h => noSome (h.1)) ?_
 intro w leF_plot_ownTools__changed_2__scaled_1_L3 mF_plot_ownTools__changed_2__scaled_1_L3 s hs
 obtain ⟨x207, l208, x209, Al208, cl208⟩ := s
 obtain ⟨H, hl208⟩ := hs
 replace H : F_plot_ownTools__changed_2__scaled_1_L3 q2 q3 y100 (mF_plot_ownTools__changed_2__scaled_1_L3 + 1) x207 l208 x209 = some r := H
 replace hc0 := leF_plot_ownTools__changed_2__scaled_1_L3.ext.cells hb0 hc0
 replace hb0 := leF_plot_ownTools__changed_2__scaled_1_L3.r _ hb0
 replace hc2 := leF_plot_ownTools__changed_2__scaled_1_L3.ext.cells hb2 hc2
 replace hb2 := leF_plot_ownTools__changed_2__scaled_1_L3.r _ hb2
 replace hq2_0 := hq2_0.leR leF_plot_ownTools__changed_2__scaled_1_L3
 replace hq2_1 := hq2_1.leR leF_plot_ownTools__changed_2__scaled_1_L3
 replace hc3 := leF_plot_ownTools__changed_2__scaled_1_L3.ext.cells hb3 hc3
 replace hb3 := leF_plot_ownTools__changed_2__scaled_1_L3.r _ hb3
 replace leB := leB.trans leF_plot_ownTools__changed_2__scaled_1_L3
 replace hl208 : SlF Al208 (l208).length cl208 := hl208
 rw [F_plot_ownTools__changed_2__scaled_1_L3.eq_2] at H
 show Tr _ _ (LF [(1, (.func (.func 97) #[] #[(.pointer (some ⟨bq0, 0, none⟩))])), (5, (.slice Al208 (l208).length cl208)), (12, (.int .i64 (y100.length : Int))), (13, (.int .i64 x209))]) (LE [(0, bx bq1 #[(.bool x207)] 4), (2, ow Al208 cl208 55 fl_TPlotTool l208)]) _
 refine Tr.sr ?_
 refine Tr.va rfl (fun _ _ h1 h2 => run_lss (h1.ev rfl) (h1.ev rfl)) ?_
 refine Tr.nil (Tr.normThen ?_)
 refine Tr.seq ?_
 refine Tr.cond rfl H (fun H => ?_) (fun H => ?_)
 ·refine Tr.skip (Tr.normThen ?_)
  refine Tr.seq ?_
  refine Tr.block ?_
  refine Tr.sr ?_
  refine Tr.mv rfl rfl ?_
  refine Tr.asg rfl rfl ?_
  refine Tr.nil (Tr.normThen ?_)
  refine Tr.sr ?_
  refine Tr.mv rfl rfl ?_
  refine Tr.mv rfl rfl ?_
  refine Tr.mv rfl rfl ?_
  refine Tr.mv rfl rfl ?_
  obtain ⟨x210, hx210, H⟩ := bnd H
  obtain ⟨hx2100, hx2101, hx2102⟩ := idx_some hx210
  refine Tr.va rfl (fun _ _ h1 h2 => run_indexAddr el_22 (h1.ev rfl) hl208 (h1.ev rfl) hx2100 hx2101) ?_
  refine Tr.va rfl (fun _ _ h1 h2 => run_fieldAddr fo_55_1 (h1.ev rfl)) ?_
  refine Tr.valE (U := (fl_TPlotTool).Ad) (fun u => (fl_TPlotTool).ok w.O w.W u x210) (fun u => (.slice u.1 (x210.Rects).length u.2)) (wn rfl) rfl (ldN (κ := 2) (t := fl_TPlotTool) (V := fun u => (.slice u.1 (x210.Rects).length u.2)) rfl hx2102 (fun _ _ u h1 hc => run_load1 ag_53 (h1.ev rfl) (hc.drop 1) rfl)) ?_
  intro u211 hoku211
  obtain ⟨Au211_0, cu211_0⟩ := u211
  have hoku211_0 := hoku211
  replace hoku211_0 : Sl w.O w.W fl_TRect Au211_0 cu211_0 x210.Rects := hoku211_0
  show Tr _ _ (uf _ 22 (.slice Au211_0 (x210.Rects).length cu211_0)) _ _
  obtain ⟨y212, hy212, H⟩ := bnd H
  refine Tr.callM [11] [emp] (U := (Option Addr × Nat)) (fun u => (.slice u.1 (y212).length u.2)) (fun u => SlF u.1 (y212).length u.2) (fun u => [ow u.1 u.2 57 fl_TRect y212]) rfl (pk_cons rfl pk_nil) (fun _ => rfl) (wn rfl) rfl Tryd.call77 (evl_cons rfl evl_nil) (fun W hW hp hE => F_slices_Clone_Rect_ok x210.Rects Au211_0 cu211_0 (hoku211_0.rl.ext (hW.extS hp)) y212 hy212 hE) ?_
  intro u hu
  obtain ⟨Ay212_0, cy212_0⟩ := u
  have gy212_0 := hu
  have hgy212_0 : SlF Ay212_0 (y212).length cy212_0 := gy212_0 --@phi
  show Tr _ _ (uf _ 23 (.slice Ay212_0 (y212).length cy212_0)) (up _ 11 (ow Ay212_0 cy212_0 57 fl_TRect y212)) _
  obtain ⟨x214, hx214, H⟩ := bnd H
  obtain ⟨hx2140, hx2141, hx2142⟩ := idx_some hx214
  refine Tr.va rfl (fun _ _ h1 h2 => run_indexAddr el_22 (h1.ev rfl) hl208 (h1.ev rfl) hx2140 hx2141) ?_
  refine Tr.va rfl (fun _ _ h1 h2 => run_fieldAddr fo_55_1 (h1.ev rfl)) ?_
  refine Tr.mixOpen 2 rfl hx2142 ?_
  intro u215 hoku215
  obtain ⟨Au215_0, cu215_0⟩ := u215
  have hoku215_0 := hoku215
  replace hoku215_0 : Sl w.O w.W fl_TRect Au215_0 cu215_0 x214.Rects := hoku215_0
  show Tr _ _ _ (up _ 2 (ow Al208 cl208 55 (mix fl_TPlotTool) (mixL l208 (x209).toNat (raw fl_TPlotTool [(.string x214.Name), (.slice Au215_0 (x214.Rects).length cu215_0)] rfl rfl)))) _
  refine Tr.storeMix 2 (raw fl_TPlotTool [(.string x214.Name), (.slice Ay212_0 (y212).length cy212_0)] rfl rfl) (cs := [(.slice Ay212_0 (y212).length cy212_0)]) (fo := 1) (wn rfl) rfl rfl rfl rfl rfl (List.getElem?_eq_some_iff.1 hx2142).1 sz_53 rfl rfl rfl ?_
  refine Tr.nil (Tr.normThen ?_)
  refine Tr.sr ?_
  refine Tr.mv rfl rfl ?_
  refine Tr.mv rfl rfl ?_
  obtain ⟨x216, hx216, H⟩ := bnd H
  obtain ⟨hx2160, hx2161, hx2162⟩ := idx_some hx216
  refine Tr.va rfl (fun _ _ h1 h2 => run_indexAddr el_22 (h1.ev rfl) hl208 (h1.ev rfl) hx2160 hx2161) ?_
  refine Tr.va rfl (fun _ _ h1 h2 => run_fieldAddr fo_55_1 (h1.ev rfl)) ?_
  refine Tr.va rfl (fun _ _ h1 h2 => run_load1 ag_53 (h1.ev rfl) (CellsAt.drop (rdm (cs := raw fl_TPlotTool [(.string x214.Name), (.slice Ay212_0 (y212).length cy212_0)] rfl rfl) h2 (κ := 2) rfl (List.getElem?_eq_some_iff.1 hx2162).1) 1) rfl) ?_
  refine Tr.va rfl (fun _ _ h1 h2 => run_len un_53 (h1.ev rfl)) ?_
  refine Tr.mv rfl rfl ?_
  refine Tr.nil (Tr.normThen ?_)
  refine Tr.block ?_
  refine Tr.loop (σ := (List TRect) × Nat × Bool × (List TRect) × (Option Addr) × Nat) (fun m w s => m = s.1.length + 1 ∧ s.1 = List.drop s.2.1 y212 ∧ s.2.1 ≤ y212.length ∧ F_plot_ownTools__changed_2__scaled_1_L4 q2 q3 l208 x209 (F_plot_ownTools__changed_2__scaled_1_L3 q2 q3 y100 mF_plot_ownTools__changed_2__scaled_1_L3) x214 s.1 s.2.1 s.2.2.1 s.2.2.2.1 = some r ∧ SlF s.2.2.2.2.1 (s.2.2.2.1).length s.2.2.2.2.2) (fun s => [(1, (.func (.func 97) #[] #[(.pointer (some ⟨bq0, 0, none⟩))])), (5, (.slice Al208 (l208).length cl208)), (6, (.int .i64 x209)), (12, (.int .i64 (y100.length : Int))), (13, (.int .i64 x209)), (30, (.slice s.2.2.2.2.1 (s.2.2.2.1).length s.2.2.2.2.2)), (31, (.int .i64 (y212.length : Int))), (32, (.int .i64 (s.2.1 : Int)))]) (fun s => [(0, bx bq1 #[(.bool s.2.2.1)] 4), (2, ow Al208 cl208 55 (mix fl_TPlotTool) (mixL l208 (x209).toNat (raw fl_TPlotTool [(.string x214.Name), (.slice s.2.2.2.2.1 (s.2.2.2.1).length s.2.2.2.2.2)] rfl rfl))), (11, ow s.2.2.2.2.1 s.2.2.2.2.2 57 fl_TRect s.2.2.2.1)]) (y212.length + 1) (y212, 0, x207, y212, Ay212_0, cy212_0) ⟨rfl, rfl, Nat.zero_le _, H, hgy212_0⟩ (.cons rfl (.cons rfl (.cons rfl (.cons rfl (.cons rfl (.cons rfl (.cons rfl (.cons rfl .nil)))))))) (.cons rfl (.cons rfl (.cons rfl .nil))) (fun _ _ h => absurd h.1 (by simp)) ?_
  intro w leF_plot_ownTools__changed_2__scaled_1_L4 m s hs
  obtain ⟨restF_plot_ownTools__changed_2__scaled_1_L4, iF_plot_ownTools__changed_2__scaled_1_L4, x242, l243, Al243, cl243⟩ := s
  obtain ⟨hmF_plot_ownTools__changed_2__scaled_1_L4, hdF_plot_ownTools__changed_2__scaled_1_L4, hiF_plot_ownTools__changed_2__scaled_1_L4, H, hl243⟩ := hs
  replace hdF_plot_ownTools__changed_2__scaled_1_L4 : restF_plot_ownTools__changed_2__scaled_1_L4 = List.drop iF_plot_ownTools__changed_2__scaled_1_L4 y212 := hdF_plot_ownTools__changed_2__scaled_1_L4
  replace H : F_plot_ownTools__changed_2__scaled_1_L4 q2 q3 l208 x209 (F_plot_ownTools__changed_2__scaled_1_L3 q2 q3 y100 mF_plot_ownTools__changed_2__scaled_1_L3) x214 restF_plot_ownTools__changed_2__scaled_1_L4 iF_plot_ownTools__changed_2__scaled_1_L4 x242 l243 = some r := H
  replace hmF_plot_ownTools__changed_2__scaled_1_L4 : m + 1 = restF_plot_ownTools__changed_2__scaled_1_L4.length + 1 := hmF_plot_ownTools__changed_2__scaled_1_L4
  replace hc0 := leF_plot_ownTools__changed_2__scaled_1_L4.ext.cells hb0 hc0
  replace hb0 := leF_plot_ownTools__changed_2__scaled_1_L4.r _ hb0
  replace hc2 := leF_plot_ownTools__changed_2__scaled_1_L4.ext.cells hb2 hc2
  replace hb2 := leF_plot_ownTools__changed_2__scaled_1_L4.r _ hb2
  replace hq2_0 := hq2_0.leR leF_plot_ownTools__changed_2__scaled_1_L4
  replace hq2_1 := hq2_1.leR leF_plot_ownTools__changed_2__scaled_1_L4
  replace hc3 := leF_plot_ownTools__changed_2__scaled_1_L4.ext.cells hb3 hc3
  replace hb3 := leF_plot_ownTools__changed_2__scaled_1_L4.r _ hb3
  replace leB := leB.trans leF_plot_ownTools__changed_2__scaled_1_L4
  replace leF_plot_ownTools__changed_2__scaled_1_L3 := leF_plot_ownTools__changed_2__scaled_1_L3.trans leF_plot_ownTools__changed_2__scaled_1_L4
  replace hl243 : SlF Al243 (l243).length cl243 := hl243
  obtain rfl : m = restF_plot_ownTools__changed_2__scaled_1_L4.length := by omega
  clear hmF_plot_ownTools__changed_2__scaled_1_L4
  show Tr _ _ (LF [(1, (.func (.func 97) #[] #[(.pointer (some ⟨bq0, 0, none⟩))])), (5, (.slice Al208 (l208).length cl208)), (6, (.int .i64 x209)), (12, (.int .i64 (y100.length : Int))), (13, (.int .i64 x209)), (30, (.slice Al243 (l243).length cl243)), (31, (.int .i64 (y212.length : Int))), (32, (.int .i64 (iF_plot_ownTools__changed_2__scaled_1_L4 : Int)))]) (LE [(0, bx bq1 #[(.bool x242)] 4), (2, ow Al208 cl208 55 (mix fl_TPlotTool) (mixL l208 (x209).toNat (raw fl_TPlotTool [(.string x214.Name), (.slice Al243 (l243).length cl243)] rfl rfl))), (11, ow Al243 cl243 57 fl_TRect l243)]) _
  cases restF_plot_ownTools__changed_2__scaled_1_L4 with
  | nil =>
   rw [F_plot_ownTools__changed_2__scaled_1_L4.eq_1] at H
   refine Tr.sr ?_
   refine Tr.va rfl (fun _ _ h1 h2 => run_lss (h1.ev rfl) (h1.ev rfl)) ?_
   refine Tr.nil (Tr.normThen ?_)
   refine Tr.seq ?_
   refine Tr.condF rfl (range_nil hdF_plot_ownTools__changed_2__scaled_1_L4) ?_
   refine Tr.exit (Tr.exitThen (Tr.exitThen (Tr.exitBlock (Tr.normBlock (Tr.normThen ?_)))))
   refine Tr.region ?_
   refine Tr.va rfl (fun _ _ h1 h2 => run_add (h1.ev rfl) (h1.ev rfl)) ?_
   refine Tr.mv rfl rfl ?_
   refine Tr.nil ?_
   refine Tr.freeze 11 rfl fun w le245 hz244 => ?_
   replace hc0 := le245.ext.cells hb0 hc0
   replace hb0 := le245.r _ hb0
   replace hc2 := le245.ext.cells hb2 hc2
   replace hb2 := le245.r _ hb2
   replace hq2_0 := hq2_0.leR le245
   replace hq2_1 := hq2_1.leR le245
   replace hc3 := le245.ext.cells hb3 hc3
   replace hb3 := le245.r _ hb3
   replace leB := leB.trans le245
   replace leF_plot_ownTools__changed_2__scaled_1_L3 := leF_plot_ownTools__changed_2__scaled_1_L3.trans le245
   replace leF_plot_ownTools__changed_2__scaled_1_L4 := leF_plot_ownTools__changed_2__scaled_1_L4.trans le245
   refine Tr.mixClose 2 rfl ((Al243, cl243)) (TPlotTool.mk x214.Name l243) hz244 rfl ?_
   have hs246 : ((l208).set (x209).toNat (TPlotTool.mk x214.Name l243)).length = (l208).length := List.length_set
   have hfhs246 : SlF Al208 ((l208).set (x209).toNat (TPlotTool.mk x214.Name l243)).length cl208 := by rw [hs246]; exact hl208
   refine Tr.sel (lf := [(1, (.func (.func 97) #[] #[(.pointer (some ⟨bq0, 0, none⟩))])), (5, (.slice Al208 (((l208).set (x209).toNat (TPlotTool.mk x214.Name l243))).length cl208)), (6, (.int .i64 x209)), (12, (.int .i64 (y100.length : Int))), (13, (.int .i64 (w64 (x209 + 1)))), (30, (.slice Al243 (l243).length cl243)), (31, (.int .i64 (y212.length : Int))), (32, (.int .i64 (iF_plot_ownTools__changed_2__scaled_1_L4 : Int))), (33, (.bool (decide ((iF_plot_ownTools__changed_2__scaled_1_L4 : Int) < (y212.length : Int))))), (48, (.int .i64 (w64 (x209 + 1))))]) (le := [(0, bx bq1 #[(.bool x242)] 4), (2, ow Al208 cl208 55 fl_TPlotTool ((l208).set (x209).toNat (TPlotTool.mk x214.Name l243)))]) (.cons rfl (.cons (slenV rfl (by rw [hs246])) (.cons rfl (.cons rfl (.cons rfl (.cons rfl (.cons rfl (.cons rfl (.cons rfl (.cons rfl .nil)))))))))) (.cons rfl (.cons rfl .nil)) ?_
   exact Tr.backThen leF_plot_ownTools__changed_2__scaled_1_L3 (x242, ((l208).set (x209).toNat (TPlotTool.mk x214.Name l243)), (w64 (x209 + 1)), Al208, cl208) ⟨H, hfhs246⟩ (.cons rfl (.cons rfl (.cons rfl (.cons rfl .nil)))) (.cons rfl (.cons rfl .nil))
  | cons xF_plot_ownTools__changed_2__scaled_1_L4 restF_plot_ownTools__changed_2__scaled_1_L4 =>
   rw [F_plot_ownTools__changed_2__scaled_1_L4.eq_2] at H
   refine Tr.sr ?_
   refine Tr.va rfl (fun _ _ h1 h2 => run_lss (h1.ev rfl) (h1.ev rfl)) ?_
   refine Tr.nil (Tr.normThen ?_)
   refine Tr.seq ?_
   refine Tr.condT rfl (range_on hdF_plot_ownTools__changed_2__scaled_1_L4) ?_
   refine Tr.skip (Tr.normThen ?_)
   refine Tr.seq ?_
   refine Tr.block ?_
   refine Tr.sr ?_
   refine Tr.mv rfl rfl ?_
   obtain ⟨x247, hx247, H⟩ := bnd H
   obtain ⟨hx2470, hx2471, hx2472⟩ := idx_some hx247
   refine Tr.va rfl (fun _ _ h1 h2 => run_indexAddr el_53 (h1.ev rfl) hl243 (h1.ev rfl) hx2470 hx2471) ?_
   refine Tr.va rfl (fun _ _ h1 h2 => run_loadN (cs := [(.int .i64 x247.X0), (.int .i64 x247.Y0), (.int .i64 x247.X1), (.int .i64 x247.Y1)]) ag_57 sz_57 (h1.ev rfl) (CellsAt.take (rdo ef_TRect (k := 11) h2 rfl hx2472) 4) rfl) ?_
   refine Tr.alloc 14 (wn rfl) rfl ze_57 fun b248 => ?_
   refine Tr.asg rfl rfl ?_
   refine Tr.store 14 (cs := [(.int .i64 x247.X0), (.int .i64 x247.Y0), (.int .i64 x247.X1), (.int .i64 x247.Y1)]) [(.int .i64 x247.X0), (.int .i64 x247.Y0), (.int .i64 x247.X1), (.int .i64 x247.Y1)] (wn rfl) rfl rfl rfl rfl sz_57 rfl rfl rfl ?_
   refine Tr.nil (Tr.normThen ?_)
   refine Tr.drawC 9 [(8, fun x => x = bq1)] [] (by kernel_rfl) (by kernel_rfl) fun sz249 hlosz249 hEsz249 => ?_
   refine Dr.quietP 0 (by kernel_rfl) rfl (wn rfl) rfl (by kernel_rfl) (fun _ _ h1 => run_move (h1.ev rfl)) rfl ?_
   refine Dr.quietP 1 (by kernel_rfl) rfl (wn rfl) rfl (by kernel_rfl) (fun _ _ h1 => run_move (h1.ev rfl)) rfl ?_
   obtain ⟨x250, hx250, H⟩ := bnd H
   obtain ⟨hx2500, hx2501, hx2502⟩ := idx_some hx250
   refine Dr.quietP 2 (by kernel_rfl) rfl (wn rfl) rfl (by kernel_rfl) (fun _ _ h1 => run_indexAddr el_22 (h1.ev rfl) hl208 (h1.ev rfl) hx2500 hx2501) rfl ?_
   refine Dr.quietP 3 (by kernel_rfl) rfl (wn rfl) rfl (by kernel_rfl) (fun _ _ h1 => run_fieldAddr fo_55_1 (h1.ev rfl)) rfl ?_
   refine Dr.quietZ 4 [(41, (.slice Al243 (l243).length cl243))] [8] false (by kernel_rfl) rfl rfl (by kernel_rfl) (fun W W' h2 hsW hk => HF.keepZ (le := [(2, ow Al208 cl208 55 (mix fl_TPlotTool) (mixL l208 (x209).toNat (raw fl_TPlotTool [(.string x214.Name), (.slice Al243 (l243).length cl243)] rfl rfl)))]) (ks := [(0, fun x => x = bq1)]) (s0 := sz249) false h2 hk (fun h => absurd h (by decide)) (.cons rfl .nil) (fun b hb => hb.elim (fun ⟨p, hp, hf, hb⟩ => by simp only [List.mem_cons, List.not_mem_nil, or_false] at hp; rcases hp with rfl; exact .inl ⟨_, List.mem_cons_self, hb⟩) (fun hb => absurd hb.1 (by decide))) (List.forall_mem_cons.2 ⟨fun b hb => hb, (fun _ h => nomatch h)⟩) rfl) ?_ rfl rfl ?_
   ·refine Tq.va rfl (fun _ _ h1 h2 => run_load1 ag_53 (h1.ev rfl) (CellsAt.drop (rdm (cs := raw fl_TPlotTool [(.string x214.Name), (.slice Al243 (l243).length cl243)] rfl rfl) h2 (κ := 2) rfl (List.getElem?_eq_some_iff.1 hx2502).1) 1) rfl) ?_
    exact Tq.fin (.cons rfl .nil)
   refine Dr.quietP 5 (by kernel_rfl) rfl (wn rfl) rfl (by kernel_rfl) (fun _ _ h1 => run_move (h1.ev rfl)) rfl ?_
   refine Dr.quiet 6 [(43, (.func (.func 97) #[] #[(.pointer (some ⟨bq0, 0, none⟩))]))] (by kernel_rfl) rfl rfl (by kernel_rfl) ?_ rfl rfl ?_
   ·refine Tq.mv rfl rfl ?_
    exact Tq.fin (.cons rfl .nil)
   refine Dr.quiet 7 [(44, (.agg #[(.int .i64 x247.X0), (.int .i64 x247.Y0), (.int .i64 x247.X1), (.int .i64 x247.Y1)]))] (by kernel_rfl) rfl rfl (by kernel_rfl) ?_ rfl rfl ?_
   ·refine Tq.va rfl (fun _ _ h1 h2 => run_loadN (cs := [(.int .i64 x247.X0), (.int .i64 x247.Y0), (.int .i64 x247.X1), (.int .i64 x247.Y1)]) ag_57 sz_57 (h1.ev rfl) (CellsAt.take (rdb h2 (vs := [(.int .i64 x247.X0), (.int .i64 x247.Y0), (.int .i64 x247.X1), (.int .i64 x247.Y1)]) (k := 14) rfl 0) 4) rfl) ?_
    exact Tq.fin (.cons rfl .nil)
   obtain ⟨y251, hy251, H⟩ := bnd H
   refine Dr.one 8 (by kernel_rfl) ?_
   refine St.callMC 8 [0] [bx bq1 #[(.bool x242)] 4] (U := Unit) (fun u => (.agg #[(.int .i64 y251.1.X0), (.int .i64 y251.1.Y0), (.int .i64 y251.1.X1), (.int .i64 y251.1.Y1)])) (fun u => True) (fun u => [bx bq1 #[(.bool y251.2)] 4]) rfl (pk_cons rfl pk_nil) (fun _ => rfl) (fun b ⟨e, he, hS⟩ => by simp only [List.mem_cons, List.not_mem_nil, or_false] at he; rcases he with rfl; exact .inl ⟨_, List.mem_cons_self, rfl, hS⟩) rfl (wn rfl) rfl rfl Tryd.call97 (evl_cons rfl evl_nil) (fun W hW hp hE => F_plot_changed_2__scaled_1_ok x247 bq0 x242 bq1 q2 Aq2_0 cq2_0 (hq2_0.ext (hW.extS hp)) Aq2_1 cq2_1 (hq2_1.ext (hW.extS hp)) bq2 ((hW.extS hp).r _ hb2) ((hW.extS hp).cells hb2 hc2) q3 bq3 ((hW.extS hp).r _ hb3) ((hW.extS hp).cells hb3 hc3) ((hW.extS hp).r _ hb0) ((hW.extS hp).cells hb0 hc0) y251 hy251 hE) ?_
   intro u hu hsy251
   show Dr _ _ _ _ _ _ _ _ _ (uf _ 45 (.agg #[(.int .i64 y251.1.X0), (.int .i64 y251.1.Y0), (.int .i64 y251.1.X1), (.int .i64 y251.1.Y1)])) (up _ 0 (bx bq1 #[(.bool y251.2)] 4))
   refine Dr.tail (by kernel_rfl) ?_
   obtain ⟨x253, hx253, H⟩ := bnd H
   obtain ⟨hx2530, hx2531, hx2532⟩ := idx_some hx253
   refine Tr.va rfl (fun _ _ h1 h2 => run_indexAddr el_53 (h1.ev rfl) hl243 (h1.ev rfl) hx2530 hx2531) ?_
   obtain ⟨l254, hl254, H⟩ := bnd H
   have hnl254 := sets_len hl254
   refine Tr.storeEl 11 (t := fl_TRect) (l := l243) (i := (iF_plot_ownTools__changed_2__scaled_1_L4 : Int)) (fo := 0) (cs := [(.int .i64 y251.1.X0), (.int .i64 y251.1.Y0), (.int .i64 y251.1.X1), (.int .i64 y251.1.Y1)]) y251.1 (wn rfl) rfl rfl rfl rfl rfl hx2532 sz_57 rfl (fun u _ => ⟨u, trivial, rfl⟩) rfl hl254 ?_
   have hfl254 : SlF Al243 (l254).length cl243 := by rw [hnl254]; exact hl243
   refine Tr.sel (lf := [(1, (.func (.func 97) #[] #[(.pointer (some ⟨bq0, 0, none⟩))])), (5, (.slice Al208 (l208).length cl208)), (6, (.int .i64 x209)), (7, (.int .i64 (iF_plot_ownTools__changed_2__scaled_1_L4 : Int))), (8, (.pointer (some ⟨b248, 0, none⟩))), (12, (.int .i64 (y100.length : Int))), (13, (.int .i64 x209)), (30, (.slice Al243 (l254).length cl243)), (31, (.int .i64 (y212.length : Int))), (32, (.int .i64 (iF_plot_ownTools__changed_2__scaled_1_L4 : Int))), (33, (.bool (decide ((iF_plot_ownTools__changed_2__scaled_1_L4 : Int) < (y212.length : Int))))), (34, (.int .i64 (iF_plot_ownTools__changed_2__scaled_1_L4 : Int))), (36, (.agg #[(.int .i64 x247.X0), (.int .i64 x247.Y0), (.int .i64 x247.X1), (.int .i64 x247.Y1)])), (37, (.slice Al208 (l208).length cl208)), (38, (.int .i64 x209)), (39, (.pointer (some ⟨adB Al208, adO Al208 + (x209).toNat * 2, none⟩))), (40, (.pointer (some ⟨adB Al208, adO Al208 + (x209).toNat * 2 + 1, none⟩))), (41, (.slice Al243 (l254).length cl243)), (42, (.int .i64 (iF_plot_ownTools__changed_2__scaled_1_L4 : Int))), (43, (.func (.func 97) #[] #[(.pointer (some ⟨bq0, 0, none⟩))])), (44, (.agg #[(.int .i64 x247.X0), (.int .i64 x247.Y0), (.int .i64 x247.X1), (.int .i64 x247.Y1)])), (45, (.agg #[(.int .i64 y251.1.X0), (.int .i64 y251.1.Y0), (.int .i64 y251.1.X1), (.int .i64 y251.1.Y1)]))]) (le := [(0, bx bq1 #[(.bool y251.2)] 4), (2, ow Al208 cl208 55 (mix fl_TPlotTool) (mixL l208 (x209).toNat (raw fl_TPlotTool [(.string x214.Name), (.slice Al243 (l254).length cl243)] rfl rfl))), (11, ow Al243 cl243 57 fl_TRect l254), (14, bx b248 #[(.int .i64 x247.X0), (.int .i64 x247.Y0), (.int .i64 x247.X1), (.int .i64 x247.Y1)] 57)]) (.cons rfl (.cons rfl (.cons rfl (.cons rfl (.cons rfl (.cons rfl (.cons rfl (.cons (slenV rfl (by rw [hnl254])) (.cons rfl (.cons rfl (.cons rfl (.cons rfl (.cons rfl (.cons rfl (.cons rfl (.cons rfl (.cons rfl (.cons (slenV rfl (by rw [hnl254])) (.cons rfl (.cons rfl (.cons rfl (.cons rfl .nil)))))))))))))))))))))) (.cons rfl (.cons (emix rfl (by rw [hnl254])) (.cons rfl (.cons rfl .nil)))) ?_
   refine Tr.nil (Tr.normBlock (Tr.normThen ?_))
   refine Tr.region ?_
   refine Tr.va rfl (fun _ _ h1 h2 => run_add (h1.ev rfl) (h1.ev rfl)) ?_
   refine Tr.mv rfl rfl ?_
   refine Tr.nil ?_
   exact Tr.backThen leF_plot_ownTools__changed_2__scaled_1_L4 (restF_plot_ownTools__changed_2__scaled_1_L4, (iF_plot_ownTools__changed_2__scaled_1_L4 + 1), y251.2, l254, Al243, cl243) ⟨rfl, range_tl hdF_plot_ownTools__changed_2__scaled_1_L4, range_lt hdF_plot_ownTools__changed_2__scaled_1_L4, H, hfl254⟩ (.cons rfl (.cons rfl (.cons rfl (.cons rfl (.cons rfl (.cons rfl (.cons rfl (.cons (congrArg (fun z => some (Value.int .i64 z)) (range_up hdF_plot_ownTools__changed_2__scaled_1_L4 hgy212_0)) .nil)))))))) (.cons rfl (.cons rfl (.cons rfl .nil)))
 ·refine Tr.exit (Tr.exitThen (Tr.exitThen (Tr.exitBlock (Tr.normThen ?_))))
  refine Tr.sr ?_
  refine Tr.mv rfl rfl ?_
  refine Tr.asg rfl rfl ?_
  refine Tr.nil (Tr.normThen ?_)
  refine Tr.ret ?_
  obtain rfl := Option.some.inj H
  exact Tr.out (m := [(.slice Al208 (l208).length cl208)]) [] (res_tmp rfl res_nil) (fun W hW => ⟨w, (Al208, cl208), leB, rfl, hl208, hW.pick (ks := [0, 2]) (by decide) (pk_cons rfl (pk_cons rfl pk_nil))⟩)

theorem F_plot_changed_1__scaled_1_ok {w : Bs} (p0 : TPoint) (bq0 : Nat) (q1 : Bool) (bq1 : Nat) (q2 : TPlot) (Aq2_0 : Option Addr) (cq2_0 : Nat) (hq2_0 : Sl w.R w.W fl_TPlotTool Aq2_0 cq2_0 q2.Tools) (Aq2_1 : Option Addr) (cq2_1 : Nat) (hq2_1 : Sl w.R w.W fl_TPlotStep Aq2_1 cq2_1 q2.Steps) (bq2 : Nat) (hb2 : w.R bq2) (hc2 : CellsAt w.W bq2 0 [(.int .i64 q2.Unit), (.slice Aq2_0 (q2.Tools).length cq2_0), (.slice Aq2_1 (q2.Steps).length cq2_1)]) (q3 : Int) (bq3 : Nat) (hb3 : w.R bq3) (hc3 : CellsAt w.W bq3 0 [(.int .i64 q3)]) (hb0 : w.R bq0) (hc0 : CellsAt w.W bq0 0 [(.func (.func 69) #[] #[(.pointer (some ⟨bq1, 0, none⟩)), (.pointer (some ⟨bq2, 0, none⟩)), (.pointer (some ⟨bq3, 0, none⟩))])]) (r : (TPoint × Bool)) (H : F_plot_changed_1__scaled_1 p0 q1 q2 q3 = some r) (hE : HF w w.W (LEn [bx bq1 #[(.bool q1)] 4])) : Calls Tryd.prog 96 [(.agg #[(.int .i64 p0.X), (.int .i64 p0.Y)]), (.pointer (some ⟨bq0, 0, none⟩))].toArray w.W fun e W' => ∃ u : Unit, e = .returned (.agg #[(.int .i64 r.1.X), (.int .i64 r.1.Y)]) ∧ (True) ∧ HF w W' (LEn [bx bq1 #[(.bool r.2)] 4]) := by
 unfold F_plot_changed_1__scaled_1 at H
 have leB := Bs.Le.refl w
 refine Tr.enter (n := 13) Tryd.func96 rfl rfl rfl hE ?_
 refine Tr.sr ?_
 refine Tr.box 1 (cs := [(.int .i64 p0.X), (.int .i64 p0.Y)]) (wn rfl) rfl rfl rfl fun b100 => ?_
 refine Tr.alloc 2 (wn rfl) rfl ze_37 fun b101 => ?_
 refine Tr.nil (Tr.normThen ?_)
 refine Tr.seq ?_
 refine Tr.drawC 7 [(3, fun x => x = bq1)] [] (by kernel_rfl) (by kernel_rfl) fun sz102 hlosz102 hEsz102 => ?_
 refine Dr.quiet 0 [(4, (.func (.func 69) #[] #[(.pointer (some ⟨bq1, 0, none⟩)), (.pointer (some ⟨bq2, 0, none⟩)), (.pointer (some ⟨bq3, 0, none⟩))]))] (by kernel_rfl) rfl rfl (by kernel_rfl) ?_ rfl rfl ?_
 ·refine Tq.va rfl (fun _ _ h1 h2 => run_load1 ag_101 (h1.ev rfl) (rdR hb0 hc0 h2) rfl) ?_
  exact Tq.fin (.cons rfl .nil)
 refine Dr.quietP 1 (by kernel_rfl) rfl (wn rfl) rfl (by kernel_rfl) (fun _ _ h1 => run_fieldAddr fo_37_0 (h1.ev rfl)) rfl ?_
 refine Dr.quiet 2 [(6, (.int .i64 p0.X))] (by kernel_rfl) rfl rfl (by kernel_rfl) ?_ rfl rfl ?_
 ·refine Tq.va rfl (fun _ _ h1 h2 => run_load1 ag_3 (h1.ev rfl) (rdb h2 (vs := [(.int .i64 p0.X), (.int .i64 p0.Y)]) (k := 1) rfl 0) rfl) ?_
  exact Tq.fin (.cons rfl .nil)
 refine Dr.quietZ 4 [(8, (.func (.func 69) #[] #[(.pointer (some ⟨bq1, 0, none⟩)), (.pointer (some ⟨bq2, 0, none⟩)), (.pointer (some ⟨bq3, 0, none⟩))]))] [3] false (by kernel_rfl) rfl rfl (by kernel_rfl) (fun W W' h2 hsW hk => HF.keepZ (le := []) (ks := [(0, fun x => x = bq1)]) (s0 := sz102) false h2 hk (fun h => absurd h (by decide)) .nil (fun b hb => hb.elim (fun ⟨p, hp, hf, hb⟩ => by simp only [List.mem_cons, List.not_mem_nil, or_false] at hp; rcases hp with rfl; exact .inl ⟨_, List.mem_cons_self, hb⟩) (fun hb => absurd hb.1 (by decide))) (List.forall_mem_cons.2 ⟨fun b hb => hb, (fun _ h => nomatch h)⟩) rfl) ?_ rfl rfl ?_
 ·refine Tq.va rfl (fun _ _ h1 h2 => run_load1 ag_101 (h1.ev rfl) (rdR hb0 hc0 h2) rfl) ?_
  exact Tq.fin (.cons rfl .nil)
 refine Dr.quietP 5 (by kernel_rfl) rfl (wn rfl) rfl (by kernel_rfl) (fun _ _ h1 => run_fieldAddr fo_37_1 (h1.ev rfl)) rfl ?_
 refine Dr.quietZ 6 [(10, (.int .i64 p0.Y))] [3] false (by kernel_rfl) rfl rfl (by kernel_rfl) (fun W W' h2 hsW hk => HF.keepZ (le := [(1, bx b100 #[(.int .i64 p0.X), (.int .i64 p0.Y)] 37)]) (ks := [(0, fun x => x = bq1)]) (s0 := sz102) false h2 hk (fun h => absurd h (by decide)) (.cons rfl .nil) (fun b hb => hb.elim (fun ⟨p, hp, hf, hb⟩ => by simp only [List.mem_cons, List.not_mem_nil, or_false] at hp; rcases hp with rfl; exact .inl ⟨_, List.mem_cons_self, hb⟩) (fun hb => absurd hb.1 (by decide))) (List.forall_mem_cons.2 ⟨fun b hb => hb, (fun _ h => nomatch h)⟩) rfl) ?_ rfl rfl ?_
 ·refine Tq.va rfl (fun _ _ h1 h2 => run_load1 ag_3 (h1.ev rfl) (rdb h2 (vs := [(.int .i64 p0.X), (.int .i64 p0.Y)]) (k := 1) rfl 1) rfl) ?_
  exact Tq.fin (.cons rfl .nil)
 obtain ⟨y103, hy103, H⟩ := bnd H
 refine Dr.one 3 (by kernel_rfl) ?_
 refine St.callMC 3 [0] [bx bq1 #[(.bool q1)] 4] (U := Unit) (fun u => (.int .i64 y103.1)) (fun u => True) (fun u => [bx bq1 #[(.bool y103.2)] 4]) rfl (pk_cons rfl pk_nil) (fun _ => rfl) (fun b ⟨e, he, hS⟩ => by simp only [List.mem_cons, List.not_mem_nil, or_false] at he; rcases he with rfl; exact .inl ⟨_, List.mem_cons_self, rfl, hS⟩) rfl (wn rfl) rfl rfl Tryd.call69 (evl_cons rfl evl_nil) (fun W hW hp hE => F_plot_scaled_1_ok p0.X q1 bq1 q2 Aq2_0 cq2_0 (hq2_0.ext (hW.extS hp)) Aq2_1 cq2_1 (hq2_1.ext (hW.extS hp)) bq2 ((hW.extS hp).r _ hb2) ((hW.extS hp).cells hb2 hc2) q3 bq3 ((hW.extS hp).r _ hb3) ((hW.extS hp).cells hb3 hc3) y103 hy103 hE) ?_
 intro u hu hsy103
 show Dr _ _ _ _ _ _ _ _ _ (uf _ 7 (.int .i64 y103.1)) (up _ 0 (bx bq1 #[(.bool y103.2)] 4))
 refine Dr.tail (by kernel_rfl) ?_
 obtain ⟨y105, hy105, H⟩ := bnd H
 refine Tr.callMC [0] [bx bq1 #[(.bool y103.2)] 4] (U := Unit) (fun u => (.int .i64 y105.1)) (fun u => True) (fun u => [bx bq1 #[(.bool y105.2)] 4]) rfl (pk_cons rfl pk_nil) (fun _ => rfl) (wn rfl) rfl rfl Tryd.call69 (evl_cons rfl evl_nil) (fun W hW hp hE => F_plot_scaled_1_ok p0.Y y103.2 bq1 q2 Aq2_0 cq2_0 (hq2_0.ext (hW.extS hp)) Aq2_1 cq2_1 (hq2_1.ext (hW.extS hp)) bq2 ((hW.extS hp).r _ hb2) ((hW.extS hp).cells hb2 hc2) q3 bq3 ((hW.extS hp).r _ hb3) ((hW.extS hp).cells hb3 hc3) y105 hy105 hE) ?_
 intro u hu
 show Tr _ _ (uf _ 11 (.int .i64 y105.1)) (up _ 0 (bx bq1 #[(.bool y105.2)] 4)) _
 refine Tr.build (vs := [(0, (.int .i64 y103.1)), (1, (.int .i64 y105.1))]) (cs := [(.int .i64 y103.1), (.int .i64 y105.1)]) (wn rfl) rfl (evs_cons rfl (evs_cons rfl evs_nil)) (by kernel_rfl) ?_
 refine Tr.store 2 (cs := [(.int .i64 y103.1), (.int .i64 y105.1)]) [(.int .i64 y103.1), (.int .i64 y105.1)] (wn rfl) rfl rfl rfl rfl sz_37 rfl rfl rfl ?_
 refine Tr.nil (Tr.normThen ?_)
 refine Tr.ret ?_
 obtain rfl := Option.some.inj H
 exact Tr.out (m := [(.agg #[(.int .i64 y103.1), (.int .i64 y105.1)])]) [2] (res_cell rfl rfl ag_37 sz_37 res_nil) (fun W hW => ⟨(), rfl, trivial, HF.lowE leB (hW.pick (ks := [0]) (by decide) (pk_cons rfl pk_nil)) ⟨bx_any _ _ _, trivial⟩⟩)

theorem F_plot_changed_3__changed_1__scaled_1_ok {w : Bs} (p0 : TPlotStep) (Ap0_0 : Option Addr) (cp0_0 : Nat) (Ap0_1 : Option Addr) (cp0_1 : Nat) (hp0_1 : Sl w.R w.W fl_TPlotStep Ap0_1 cp0_1 p0.Steps) (Ae0 : Option Addr) (ce0 : Nat) (le0 : List TPlotStep) (ie0 : Nat) (hi0 : ie0 < le0.length) (bq0 : Nat) (bq1 : Nat) (q2 : Bool) (bq2 : Nat) (q3 : TPlot) (Aq3_0 : Option Addr) (cq3_0 : Nat) (hq3_0 : Sl w.R w.W fl_TPlotTool Aq3_0 cq3_0 q3.Tools) (Aq3_1 : Option Addr) (cq3_1 : Nat) (hq3_1 : Sl w.R w.W fl_TPlotStep Aq3_1 cq3_1 q3.Steps) (bq3 : Nat) (hb3 : w.R bq3) (hc3 : CellsAt w.W bq3 0 [(.int .i64 q3.Unit), (.slice Aq3_0 (q3.Tools).length cq3_0), (.slice Aq3_1 (q3.Steps).length cq3_1)]) (q4 : Int) (bq4 : Nat) (hb4 : w.R bq4) (hc4 : CellsAt w.W bq4 0 [(.int .i64 q4)]) (hb0 : w.R bq0) (hc0 : CellsAt w.W bq0 0 [(.func (.func 96) #[] #[(.pointer (some ⟨bq1, 0, none⟩))])]) (hb1 : w.R bq1) (hc1 : CellsAt w.W bq1 0 [(.func (.func 69) #[] #[(.pointer (some ⟨bq2, 0, none⟩)), (.pointer (some ⟨bq3, 0, none⟩)), (.pointer (some ⟨bq4, 0, none⟩))])]) (r : (Int × Int × (List TPoint) × Bool)) (H : F_plot_changed_3__changed_1__scaled_1 p0 q2 q3 q4 = some r) (hE : HF w w.W (LEn [ow Ae0 ce0 84 (mix fl_TPlotStep) (mixL le0 ie0 (raw fl_TPlotStep [(.int .i64 p0.Kind), (.string p0.Name), (.int .i64 p0.At.X), (.int .i64 p0.At.Y), (.slice Ap0_0 (p0.Points).length cp0_0), (.int .i64 p0.NX), (.int .i64 p0.NY), (.slice Ap0_1 (p0.Steps).length cp0_1)] rfl rfl)), ow Ap0_0 cp0_0 37 fl_TPoint p0.Points, bx bq2 #[(.bool q2)] 4])) : Calls Tryd.prog 98 [(.pointer (some ⟨adB Ae0, adO Ae0 + ie0 * 8, none⟩)), (.pointer (some ⟨bq0, 0, none⟩))].toArray w.W fun e W' => ∃ (w' : Bs) (u : Unit), w.Le w' ∧ e = .returned (.tuple #[]) ∧ ((r.2.2.1).length = (p0.Points).length) ∧ HF w' W' (LEn [ow Ae0 ce0 84 (mix fl_TPlotStep) (mixL le0 ie0 (raw fl_TPlotStep [(.int .i64 p0.Kind), (.string p0.Name), (.int .i64 r.1), (.int .i64 r.2.1), (.slice Ap0_0 (r.2.2.1).length cp0_0), (.int .i64 p0.NX), (.int .i64 p0.NY), (.slice Ap0_1 (p0.Steps).length cp0_1)] rfl rfl)), ow Ap0_0 cp0_0 37 fl_TPoint r.2.2.1, bx bq2 #[(.bool r.2.2.2)] 4]) := by
 unfold F_plot_changed_3__changed_1__scaled_1 at H
 have hfhp0_0 := (hE.sl (k := 1) rfl).form
 have leB := Bs.Le.refl w
 refine Tr.enter (n := 37) Tryd.func98 rfl rfl rfl hE ?_
 refine Tr.seq ?_
 refine Tr.drawC 7 [(6, fun x => x = bq2)] [] (by kernel_rfl) (by kernel_rfl) fun sz100 hlosz100 hEsz100 => ?_
 refine Dr.quietP 0 (by kernel_rfl) rfl (wn rfl) rfl (by kernel_rfl) (fun _ _ h1 => run_move (h1.ev rfl)) rfl ?_
 refine Dr.quiet 1 [(5, (.func (.func 96) #[] #[(.pointer (some ⟨bq1, 0, none⟩))]))] (by kernel_rfl) rfl rfl (by kernel_rfl) ?_ rfl rfl ?_
 ·refine Tq.va rfl (fun _ _ h1 h2 => run_load1 ag_120 (h1.ev rfl) (rdR hb0 hc0 h2) rfl) ?_
  exact Tq.fin (.cons rfl .nil)
 refine Dr.quietP 2 (by kernel_rfl) rfl (wn rfl) rfl (by kernel_rfl) (fun _ _ h1 => run_move (h1.ev rfl)) rfl ?_
 refine Dr.quietP 3 (by kernel_rfl) rfl (wn rfl) rfl (by kernel_rfl) (fun _ _ h1 => run_nilCheck (h1.ev rfl)) rfl ?_
 refine Dr.quietP 4 (by kernel_rfl) rfl (wn rfl) rfl (by kernel_rfl) (fun _ _ h1 => run_fieldAddr fo_84_2 (h1.ev rfl)) rfl ?_
 refine Dr.quiet 5 [(9, (.agg #[(.int .i64 p0.At.X), (.int .i64 p0.At.Y)]))] (by kernel_rfl) rfl rfl (by kernel_rfl) ?_ rfl rfl ?_
 ·refine Tq.va rfl (fun _ _ h1 h2 => run_loadN (cs := [(.int .i64 p0.At.X), (.int .i64 p0.At.Y)]) ag_37 sz_37 (h1.ev rfl) (CellsAt.take (CellsAt.drop (rdm (cs := raw fl_TPlotStep [(.int .i64 p0.Kind), (.string p0.Name), (.int .i64 p0.At.X), (.int .i64 p0.At.Y), (.slice Ap0_0 (p0.Points).length cp0_0), (.int .i64 p0.NX), (.int .i64 p0.NY), (.slice Ap0_1 (p0.Steps).length cp0_1)] rfl rfl) h2 (κ := 0) rfl hi0) 2) 2) rfl) ?_
  exact Tq.fin (.cons rfl .nil)
 obtain ⟨y101, hy101, H⟩ := bnd H
 refine Dr.one 6 (by kernel_rfl) ?_
 refine St.callMC 6 [2] [bx bq2 #[(.bool q2)] 4] (U := Unit) (fun u => (.agg #[(.int .i64 y101.1.X), (.int .i64 y101.1.Y)])) (fun u => True) (fun u => [bx bq2 #[(.bool y101.2)] 4]) rfl (pk_cons rfl pk_nil) (fun _ => rfl) (fun b ⟨e, he, hS⟩ => by simp only [List.mem_cons, List.not_mem_nil, or_false] at he; rcases he with rfl; exact .inl ⟨_, List.mem_cons_self, rfl, hS⟩) rfl (wn rfl) rfl rfl Tryd.call96 (evl_cons rfl evl_nil) (fun W hW hp hE => F_plot_changed_1__scaled_1_ok p0.At bq1 q2 bq2 q3 Aq3_0 cq3_0 (hq3_0.ext (hW.extS hp)) Aq3_1 cq3_1 (hq3_1.ext (hW.extS hp)) bq3 ((hW.extS hp).r _ hb3) ((hW.extS hp).cells hb3 hc3) q4 bq4 ((hW.extS hp).r _ hb4) ((hW.extS hp).cells hb4 hc4) ((hW.extS hp).r _ hb1) ((hW.extS hp).cells hb1 hc1) y101 hy101 hE) ?_
 intro u hu hsy101
 show Dr _ _ _ _ _ _ _ _ _ (uf _ 10 (.agg #[(.int .i64 y101.1.X), (.int .i64 y101.1.Y)])) (up _ 2 (bx bq2 #[(.bool y101.2)] 4))
 refine Dr.tail (by kernel_rfl) ?_
 refine Tr.va rfl (fun _ _ h1 h2 => run_nilCheck (h1.ev rfl)) ?_
 refine Tr.va rfl (fun _ _ h1 h2 => run_fieldAddr fo_84_2 (h1.ev rfl)) ?_
 refine Tr.storeMix 0 (raw fl_TPlotStep [(.int .i64 p0.Kind), (.string p0.Name), (.int .i64 y101.1.X), (.int .i64 y101.1.Y), (.slice Ap0_0 (p0.Points).length cp0_0), (.int .i64 p0.NX), (.int .i64 p0.NY), (.slice Ap0_1 (p0.Steps).length cp0_1)] rfl rfl) (cs := [(.int .i64 y101.1.X), (.int .i64 y101.1.Y)]) (fo := 2) (wn rfl) rfl rfl rfl rfl rfl hi0 sz_37 rfl rfl rfl ?_
 refine Tr.nil (Tr.normThen ?_)
 refine Tr.sr ?_
 refine Tr.mv rfl rfl ?_
 refine Tr.va rfl (fun _ _ h1 h2 => run_nilCheck (h1.ev rfl)) ?_
 refine Tr.va rfl (fun _ _ h1 h2 => run_fieldAddr fo_84_3 (h1.ev rfl)) ?_
 refine Tr.va rfl (fun _ _ h1 h2 => run_load1 ag_82 (h1.ev rfl) (CellsAt.drop (rdm (cs := raw fl_TPlotStep [(.int .i64 p0.Kind), (.string p0.Name), (.int .i64 y101.1.X), (.int .i64 y101.1.Y), (.slice Ap0_0 (p0.Points).length cp0_0), (.int .i64 p0.NX), (.int .i64 p0.NY), (.slice Ap0_1 (p0.Steps).length cp0_1)] rfl rfl) h2 (κ := 0) rfl hi0) 4) rfl) ?_
 refine Tr.va rfl (fun _ _ h1 h2 => run_len un_82 (h1.ev rfl)) ?_
 refine Tr.mv rfl rfl ?_
 refine Tr.nil (Tr.normThen ?_)
 refine Tr.block ?_
 refine Tr.loop (σ := (List TPoint) × Nat × Bool × (List TPoint)) (fun m w s => m = s.1.length + 1 ∧ s.1 = List.drop s.2.1 p0.Points ∧ s.2.1 ≤ p0.Points.length ∧ F_plot_changed_3__changed_1__scaled_1_L1 q3 q4 y101 s.1 s.2.1 s.2.2.1 s.2.2.2 = some r ∧ (s.2.2.2).length = (p0.Points).length) (fun s => [(0, (.pointer (some ⟨adB Ae0, adO Ae0 + ie0 * 8, none⟩))), (1, (.pointer (some ⟨bq0, 0, none⟩))), (17, (.int .i64 (p0.Points.length : Int))), (18, (.int .i64 (s.2.1 : Int)))]) (fun s => [(0, ow Ae0 ce0 84 (mix fl_TPlotStep) (mixL le0 ie0 (raw fl_TPlotStep [(.int .i64 p0.Kind), (.string p0.Name), (.int .i64 y101.1.X), (.int .i64 y101.1.Y), (.slice Ap0_0 (s.2.2.2).length cp0_0), (.int .i64 p0.NX), (.int .i64 p0.NY), (.slice Ap0_1 (p0.Steps).length cp0_1)] rfl rfl))), (1, ow Ap0_0 cp0_0 37 fl_TPoint s.2.2.2), (2, bx bq2 #[(.bool s.2.2.1)] 4)]) (p0.Points.length + 1) (p0.Points, 0, y101.2, p0.Points) ⟨rfl, rfl, Nat.zero_le _, H, rfl⟩ (.cons rfl (.cons rfl (.cons rfl (.cons rfl .nil)))) (.cons rfl (.cons rfl (.cons rfl .nil))) (fun _ _ h => absurd h.1 (by simp)) ?_
 intro w leF_plot_changed_3__changed_1__scaled_1_L1 m s hs
 obtain ⟨restF_plot_changed_3__changed_1__scaled_1_L1, iF_plot_changed_3__changed_1__scaled_1_L1, x124, l125⟩ := s
 obtain ⟨hmF_plot_changed_3__changed_1__scaled_1_L1, hdF_plot_changed_3__changed_1__scaled_1_L1, hiF_plot_changed_3__changed_1__scaled_1_L1, H, hl125⟩ := hs
 replace hdF_plot_changed_3__changed_1__scaled_1_L1 : restF_plot_changed_3__changed_1__scaled_1_L1 = List.drop iF_plot_changed_3__changed_1__scaled_1_L1 p0.Points := hdF_plot_changed_3__changed_1__scaled_1_L1
 replace H : F_plot_changed_3__changed_1__scaled_1_L1 q3 q4 y101 restF_plot_changed_3__changed_1__scaled_1_L1 iF_plot_changed_3__changed_1__scaled_1_L1 x124 l125 = some r := H
 replace hmF_plot_changed_3__changed_1__scaled_1_L1 : m + 1 = restF_plot_changed_3__changed_1__scaled_1_L1.length + 1 := hmF_plot_changed_3__changed_1__scaled_1_L1
 replace hc0 := leF_plot_changed_3__changed_1__scaled_1_L1.ext.cells hb0 hc0
 replace hb0 := leF_plot_changed_3__changed_1__scaled_1_L1.r _ hb0
 replace hc1 := leF_plot_changed_3__changed_1__scaled_1_L1.ext.cells hb1 hc1
 replace hb1 := leF_plot_changed_3__changed_1__scaled_1_L1.r _ hb1
 replace hc3 := leF_plot_changed_3__changed_1__scaled_1_L1.ext.cells hb3 hc3
 replace hb3 := leF_plot_changed_3__changed_1__scaled_1_L1.r _ hb3
 replace hq3_0 := hq3_0.leR leF_plot_changed_3__changed_1__scaled_1_L1
 replace hq3_1 := hq3_1.leR leF_plot_changed_3__changed_1__scaled_1_L1
 replace hc4 := leF_plot_changed_3__changed_1__scaled_1_L1.ext.cells hb4 hc4
 replace hb4 := leF_plot_changed_3__changed_1__scaled_1_L1.r _ hb4
 replace hp0_1 := hp0_1.leR leF_plot_changed_3__changed_1__scaled_1_L1
 replace leB := leB.trans leF_plot_changed_3__changed_1__scaled_1_L1
 replace hl125 : (l125).length = (p0.Points).length := hl125
 have hfl125 : SlF Ap0_0 (l125).length cp0_0 := (by rw [hl125]; exact hfhp0_0)
 obtain rfl : m = restF_plot_changed_3__changed_1__scaled_1_L1.length := by omega
 clear hmF_plot_changed_3__changed_1__scaled_1_L1
 show Tr _ _ (LF [(0, (.pointer (some ⟨adB Ae0, adO Ae0 + ie0 * 8, none⟩))), (1, (.pointer (some ⟨bq0, 0, none⟩))), (17, (.int .i64 (p0.Points.length : Int))), (18, (.int .i64 (iF_plot_changed_3__changed_1__scaled_1_L1 : Int)))]) (LE [(0, ow Ae0 ce0 84 (mix fl_TPlotStep) (mixL le0 ie0 (raw fl_TPlotStep [(.int .i64 p0.Kind), (.string p0.Name), (.int .i64 y101.1.X), (.int .i64 y101.1.Y), (.slice Ap0_0 (l125).length cp0_0), (.int .i64 p0.NX), (.int .i64 p0.NY), (.slice Ap0_1 (p0.Steps).length cp0_1)] rfl rfl))), (1, ow Ap0_0 cp0_0 37 fl_TPoint l125), (2, bx bq2 #[(.bool x124)] 4)]) _
 cases restF_plot_changed_3__changed_1__scaled_1_L1 with
 | nil =>
  rw [F_plot_changed_3__changed_1__scaled_1_L1.eq_1] at H
  refine Tr.sr ?_
  refine Tr.va rfl (fun _ _ h1 h2 => run_lss (h1.ev rfl) (h1.ev rfl)) ?_
  refine Tr.nil (Tr.normThen ?_)
  refine Tr.seq ?_
  refine Tr.condF rfl (range_nil hdF_plot_changed_3__changed_1__scaled_1_L1) ?_
  refine Tr.exit (Tr.exitThen (Tr.exitThen (Tr.exitBlock (Tr.offEnd ?_))))
  obtain rfl := Option.some.inj H
  exact Tr.out (m := []) [] res_nil (fun W hW => ⟨w, (), leB, rfl, hl125, hW.pick (ks := [0, 1, 2]) (by decide) (pk_cons rfl (pk_cons rfl (pk_cons rfl pk_nil)))⟩)
 | cons xF_plot_changed_3__changed_1__scaled_1_L1 restF_plot_changed_3__changed_1__scaled_1_L1 =>
  rw [F_plot_changed_3__changed_1__scaled_1_L1.eq_2] at H
  refine Tr.sr ?_
  refine Tr.va rfl (fun _ _ h1 h2 => run_lss (h1.ev rfl) (h1.ev rfl)) ?_
  refine Tr.nil (Tr.normThen ?_)
  refine Tr.seq ?_
  refine Tr.condT rfl (range_on hdF_plot_changed_3__changed_1__scaled_1_L1) ?_
  refine Tr.skip (Tr.normThen ?_)
  refine Tr.seq ?_
  refine Tr.block ?_
  refine Tr.sr ?_
  refine Tr.mv rfl rfl ?_
  refine Tr.asg rfl rfl ?_
  refine Tr.nil (Tr.normThen ?_)
  refine Tr.drawC 14 [(13, fun x => x = bq2)] [] (by kernel_rfl) (by kernel_rfl) fun sz126 hlosz126 hEsz126 => ?_
  refine Dr.quietP 0 (by kernel_rfl) rfl (wn rfl) rfl (by kernel_rfl) (fun _ _ h1 => run_move (h1.ev rfl)) rfl ?_
  refine Dr.quietP 1 (by kernel_rfl) rfl (wn rfl) rfl (by kernel_rfl) (fun _ _ h1 => run_nilCheck (h1.ev rfl)) rfl ?_
  refine Dr.quietP 2 (by kernel_rfl) rfl (wn rfl) rfl (by kernel_rfl) (fun _ _ h1 => run_fieldAddr fo_84_3 (h1.ev rfl)) rfl ?_
  refine Dr.quietZ 3 [(24, (.slice Ap0_0 (l125).length cp0_0))] [13] false (by kernel_rfl) rfl rfl (by kernel_rfl) (fun W W' h2 hsW hk => HF.keepZ (le := [(0, ow Ae0 ce0 84 (mix fl_TPlotStep) (mixL le0 ie0 (raw fl_TPlotStep [(.int .i64 p0.Kind), (.string p0.Name), (.int .i64 y101.1.X), (.int .i64 y101.1.Y), (.slice Ap0_0 (l125).length cp0_0), (.int .i64 p0.NX), (.int .i64 p0.NY), (.slice Ap0_1 (p0.Steps).length cp0_1)] rfl rfl)))]) (ks := [(2, fun x => x = bq2)]) (s0 := sz126) false h2 hk (fun h => absurd h (by decide)) (.cons rfl .nil) (fun b hb => hb.elim (fun ⟨p, hp, hf, hb⟩ => by simp only [List.mem_cons, List.not_mem_nil, or_false] at hp; rcases hp with rfl; exact .inl ⟨_, List.mem_cons_self, hb⟩) (fun hb => absurd hb.1 (by decide))) (List.forall_mem_cons.2 ⟨fun b hb => hb, (fun _ h => nomatch h)⟩) rfl) ?_ rfl rfl ?_
  ·refine Tq.va rfl (fun _ _ h1 h2 => run_load1 ag_82 (h1.ev rfl) (CellsAt.drop (rdm (cs := raw fl_TPlotStep [(.int .i64 p0.Kind), (.string p0.Name), (.int .i64 y101.1.X), (.int .i64 y101.1.Y), (.slice Ap0_0 (l125).length cp0_0), (.int .i64 p0.NX), (.int .i64 p0.NY), (.slice Ap0_1 (p0.Steps).length cp0_1)] rfl rfl) h2 (κ := 0) rfl hi0) 4) rfl) ?_
   exact Tq.fin (.cons rfl .nil)
  refine Dr.quietP 4 (by kernel_rfl) rfl (wn rfl) rfl (by kernel_rfl) (fun _ _ h1 => run_move (h1.ev rfl)) rfl ?_
  refine Dr.quiet 5 [(26, (.func (.func 96) #[] #[(.pointer (some ⟨bq1, 0, none⟩))]))] (by kernel_rfl) rfl rfl (by kernel_rfl) ?_ rfl rfl ?_
  ·refine Tq.va rfl (fun _ _ h1 h2 => run_load1 ag_120 (h1.ev rfl) (rdR hb0 hc0 h2) rfl) ?_
   exact Tq.fin (.cons rfl .nil)
  refine Dr.quietP 6 (by kernel_rfl) rfl (wn rfl) rfl (by kernel_rfl) (fun _ _ h1 => run_move (h1.ev rfl)) rfl ?_
  refine Dr.quietP 7 (by kernel_rfl) rfl (wn rfl) rfl (by kernel_rfl) (fun _ _ h1 => run_nilCheck (h1.ev rfl)) rfl ?_
  refine Dr.quietP 8 (by kernel_rfl) rfl (wn rfl) rfl (by kernel_rfl) (fun _ _ h1 => run_fieldAddr fo_84_3 (h1.ev rfl)) rfl ?_
  refine Dr.quietZ 9 [(30, (.slice Ap0_0 (l125).length cp0_0))] [13] false (by kernel_rfl) rfl rfl (by kernel_rfl) (fun W W' h2 hsW hk => HF.keepZ (le := [(0, ow Ae0 ce0 84 (mix fl_TPlotStep) (mixL le0 ie0 (raw fl_TPlotStep [(.int .i64 p0.Kind), (.string p0.Name), (.int .i64 y101.1.X), (.int .i64 y101.1.Y), (.slice Ap0_0 (l125).length cp0_0), (.int .i64 p0.NX), (.int .i64 p0.NY), (.slice Ap0_1 (p0.Steps).length cp0_1)] rfl rfl)))]) (ks := [(2, fun x => x = bq2)]) (s0 := sz126) false h2 hk (fun h => absurd h (by decide)) (.cons rfl .nil) (fun b hb => hb.elim (fun ⟨p, hp, hf, hb⟩ => by simp only [List.mem_cons, List.not_mem_nil, or_false] at hp; rcases hp with rfl; exact .inl ⟨_, List.mem_cons_self, hb⟩) (fun hb => absurd hb.1 (by decide))) (List.forall_mem_cons.2 ⟨fun b hb => hb, (fun _ h => nomatch h)⟩) rfl) ?_ rfl rfl ?_
  ·refine Tq.va rfl (fun _ _ h1 h2 => run_load1 ag_82 (h1.ev rfl) (CellsAt.drop (rdm (cs := raw fl_TPlotStep [(.int .i64 p0.Kind), (.string p0.Name), (.int .i64 y101.1.X), (.int .i64 y101.1.Y), (.slice Ap0_0 (l125).length cp0_0), (.int .i64 p0.NX), (.int .i64 p0.NY), (.slice Ap0_1 (p0.Steps).length cp0_1)] rfl rfl) h2 (κ := 0) rfl hi0) 4) rfl) ?_
   exact Tq.fin (.cons rfl .nil)
  refine Dr.quietP 10 (by kernel_rfl) rfl (wn rfl) rfl (by kernel_rfl) (fun _ _ h1 => run_move (h1.ev rfl)) rfl ?_
  obtain ⟨x127, hx127, H⟩ := bnd H
  obtain ⟨hx1270, hx1271, hx1272⟩ := idx_some hx127
  refine Dr.quietP 11 (by kernel_rfl) rfl (wn rfl) rfl (by kernel_rfl) (fun _ _ h1 => run_indexAddr el_82 (h1.ev rfl) hfl125 (h1.ev rfl) hx1270 hx1271) rfl ?_
  refine Dr.quiet 12 [(33, (.agg #[(.int .i64 x127.X), (.int .i64 x127.Y)]))] (by kernel_rfl) rfl rfl (by kernel_rfl) ?_ rfl rfl ?_
  ·refine Tq.va rfl (fun _ _ h1 h2 => run_loadN (cs := [(.int .i64 x127.X), (.int .i64 x127.Y)]) ag_37 sz_37 (h1.ev rfl) (CellsAt.take (rdo ef_TPoint (k := 1) h2 rfl hx1272) 2) rfl) ?_
   exact Tq.fin (.cons rfl .nil)
  obtain ⟨y128, hy128, H⟩ := bnd H
  refine Dr.one 13 (by kernel_rfl) ?_
  refine St.callMC 13 [2] [bx bq2 #[(.bool x124)] 4] (U := Unit) (fun u => (.agg #[(.int .i64 y128.1.X), (.int .i64 y128.1.Y)])) (fun u => True) (fun u => [bx bq2 #[(.bool y128.2)] 4]) rfl (pk_cons rfl pk_nil) (fun _ => rfl) (fun b ⟨e, he, hS⟩ => by simp only [List.mem_cons, List.not_mem_nil, or_false] at he; rcases he with rfl; exact .inl ⟨_, List.mem_cons_self, rfl, hS⟩) rfl (wn rfl) rfl rfl Tryd.call96 (evl_cons rfl evl_nil) (fun W hW hp hE => F_plot_changed_1__scaled_1_ok x127 bq1 x124 bq2 q3 Aq3_0 cq3_0 (hq3_0.ext (hW.extS hp)) Aq3_1 cq3_1 (hq3_1.ext (hW.extS hp)) bq3 ((hW.extS hp).r _ hb3) ((hW.extS hp).cells hb3 hc3) q4 bq4 ((hW.extS hp).r _ hb4) ((hW.extS hp).cells hb4 hc4) ((hW.extS hp).r _ hb1) ((hW.extS hp).cells hb1 hc1) y128 hy128 hE) ?_
  intro u hu hsy128
  show Dr _ _ _ _ _ _ _ _ _ (uf _ 34 (.agg #[(.int .i64 y128.1.X), (.int .i64 y128.1.Y)])) (up _ 2 (bx bq2 #[(.bool y128.2)] 4))
  refine Dr.tail (by kernel_rfl) ?_
  obtain ⟨x130, hx130, H⟩ := bnd H
  obtain ⟨hx1300, hx1301, hx1302⟩ := idx_some hx130
  refine Tr.va rfl (fun _ _ h1 h2 => run_indexAddr el_82 (h1.ev rfl) hfl125 (h1.ev rfl) hx1300 hx1301) ?_
  obtain ⟨l131, hl131, H⟩ := bnd H
  have hnl131 := sets_len hl131
  refine Tr.storeEl 1 (t := fl_TPoint) (l := l125) (i := (iF_plot_changed_3__changed_1__scaled_1_L1 : Int)) (fo := 0) (cs := [(.int .i64 y128.1.X), (.int .i64 y128.1.Y)]) y128.1 (wn rfl) rfl rfl rfl rfl rfl hx1302 sz_37 rfl (fun u _ => ⟨u, trivial, rfl⟩) rfl hl131 ?_
  have hfl131 : SlF Ap0_0 (l131).length cp0_0 := by rw [hnl131]; exact hfl125
  have hsl131 := hnl131.trans hl125
  refine Tr.sel (lf := [(0, (.pointer (some ⟨adB Ae0, adO Ae0 + ie0 * 8, none⟩))), (1, (.pointer (some ⟨bq0, 0, none⟩))), (3, (.int .i64 (iF_plot_changed_3__changed_1__scaled_1_L1 : Int))), (17, (.int .i64 (p0.Points.length : Int))), (18, (.int .i64 (iF_plot_changed_3__changed_1__scaled_1_L1 : Int))), (19, (.bool (decide ((iF_plot_changed_3__changed_1__scaled_1_L1 : Int) < (p0.Points.length : Int))))), (20, (.int .i64 (iF_plot_changed_3__changed_1__scaled_1_L1 : Int))), (21, (.pointer (some ⟨adB Ae0, adO Ae0 + ie0 * 8, none⟩))), (22, (.pointer (some ⟨adB Ae0, adO Ae0 + ie0 * 8, none⟩))), (23, (.pointer (some ⟨adB Ae0, adO Ae0 + ie0 * 8 + 4, none⟩))), (24, (.slice Ap0_0 (l131).length cp0_0)), (25, (.int .i64 (iF_plot_changed_3__changed_1__scaled_1_L1 : Int))), (26, (.func (.func 96) #[] #[(.pointer (some ⟨bq1, 0, none⟩))])), (27, (.pointer (some ⟨adB Ae0, adO Ae0 + ie0 * 8, none⟩))), (28, (.pointer (some ⟨adB Ae0, adO Ae0 + ie0 * 8, none⟩))), (29, (.pointer (some ⟨adB Ae0, adO Ae0 + ie0 * 8 + 4, none⟩))), (30, (.slice Ap0_0 (l131).length cp0_0)), (31, (.int .i64 (iF_plot_changed_3__changed_1__scaled_1_L1 : Int))), (33, (.agg #[(.int .i64 x127.X), (.int .i64 x127.Y)])), (34, (.agg #[(.int .i64 y128.1.X), (.int .i64 y128.1.Y)]))]) (le := [(0, ow Ae0 ce0 84 (mix fl_TPlotStep) (mixL le0 ie0 (raw fl_TPlotStep [(.int .i64 p0.Kind), (.string p0.Name), (.int .i64 y101.1.X), (.int .i64 y101.1.Y), (.slice Ap0_0 (l131).length cp0_0), (.int .i64 p0.NX), (.int .i64 p0.NY), (.slice Ap0_1 (p0.Steps).length cp0_1)] rfl rfl))), (1, ow Ap0_0 cp0_0 37 fl_TPoint l131), (2, bx bq2 #[(.bool y128.2)] 4)]) (.cons rfl (.cons rfl (.cons rfl (.cons rfl (.cons rfl (.cons rfl (.cons rfl (.cons rfl (.cons rfl (.cons rfl (.cons (slenV rfl (by rw [hnl131])) (.cons rfl (.cons rfl (.cons rfl (.cons rfl (.cons rfl (.cons (slenV rfl (by rw [hnl131])) (.cons rfl (.cons rfl (.cons rfl .nil)))))))))))))))))))) (.cons (emix rfl (by rw [hnl131])) (.cons rfl (.cons rfl .nil))) ?_
  refine Tr.nil (Tr.normBlock (Tr.normThen ?_))
  refine Tr.region ?_
  refine Tr.va rfl (fun _ _ h1 h2 => run_add (h1.ev rfl) (h1.ev rfl)) ?_
  refine Tr.mv rfl rfl ?_
  refine Tr.nil ?_
  exact Tr.backThen leF_plot_changed_3__changed_1__scaled_1_L1 (restF_plot_changed_3__changed_1__scaled_1_L1, (iF_plot_changed_3__changed_1__scaled_1_L1 + 1), y128.2, l131) ⟨rfl, range_tl hdF_plot_changed_3__changed_1__scaled_1_L1, range_lt hdF_plot_changed_3__changed_1__scaled_1_L1, H, hsl131⟩ (.cons rfl (.cons rfl (.cons rfl (.cons (congrArg (fun z => some (Value.int .i64 z)) (range_up hdF_plot_changed_3__changed_1__scaled_1_L1 hfhp0_0)) .nil)))) (.cons rfl (.cons rfl (.cons rfl .nil)))

theorem F_plot_own__changed_3__changed_1__scaled_1_b_ok (N : Nat) (rec : (List TPlotStep) → Bool → TPlot → Int → Option ((List TPlotStep) × Bool)) (hrec : ∀ {w : Bs} (p0 : (List TPlotStep)) (Ap0_0 : Option Addr) (cp0_0 : Nat) (hp0_0 : Sl w.O w.W fl_TPlotStep Ap0_0 cp0_0 p0) (bq0 : Nat) (bq1 : Nat) (q2 : Bool) (bq2 : Nat) (q3 : TPlot) (Aq3_0 : Option Addr) (cq3_0 : Nat) (hq3_0 : Sl w.R w.W fl_TPlotTool Aq3_0 cq3_0 q3.Tools) (Aq3_1 : Option Addr) (cq3_1 : Nat) (hq3_1 : Sl w.R w.W fl_TPlotStep Aq3_1 cq3_1 q3.Steps) (bq3 : Nat) (hb3 : w.R bq3) (hc3 : CellsAt w.W bq3 0 [(.int .i64 q3.Unit), (.slice Aq3_0 (q3.Tools).length cq3_0), (.slice Aq3_1 (q3.Steps).length cq3_1)]) (q4 : Int) (bq4 : Nat) (hb4 : w.R bq4) (hc4 : CellsAt w.W bq4 0 [(.int .i64 q4)]) (hb0 : w.R bq0) (hc0 : CellsAt w.W bq0 0 [(.func (.func 96) #[] #[(.pointer (some ⟨bq1, 0, none⟩))])]) (hb1 : w.R bq1) (hc1 : CellsAt w.W bq1 0 [(.func (.func 69) #[] #[(.pointer (some ⟨bq2, 0, none⟩)), (.pointer (some ⟨bq3, 0, none⟩)), (.pointer (some ⟨bq4, 0, none⟩))])]) (r : ((List TPlotStep) × Bool)) (H : rec p0 q2 q3 q4 = some r) (hE : HF w w.W (LEn [bx bq2 #[(.bool q2)] 4, emp])), Calls Tryd.prog 41 [(.slice Ap0_0 (p0).length cp0_0), (.func (.func 98) #[] #[(.pointer (some ⟨bq0, 0, none⟩))])].toArray w.W fun e W' => ∃ (w' : Bs) (u : (Option Addr × Nat)), w.Le w' ∧ e = .returned (.slice u.1 (r.1).length u.2) ∧ (SlF u.1 (r.1).length u.2) ∧ HF w' W' (LEn [bx bq2 #[(.bool r.2)] 4, ow u.1 u.2 84 fl_TPlotStep r.1])) {w : Bs} (p0 : (List TPlotStep)) (Ap0_0 : Option Addr) (cp0_0 : Nat) (hp0_0 : Sl w.O w.W fl_TPlotStep Ap0_0 cp0_0 p0) (bq0 : Nat) (bq1 : Nat) (q2 : Bool) (bq2 : Nat) (q3 : TPlot) (Aq3_0 : Option Addr) (cq3_0 : Nat) (hq3_0 : Sl w.R w.W fl_TPlotTool Aq3_0 cq3_0 q3.Tools) (Aq3_1 : Option Addr) (cq3_1 : Nat) (hq3_1 : Sl w.R w.W fl_TPlotStep Aq3_1 cq3_1 q3.Steps) (bq3 : Nat) (hb3 : w.R bq3) (hc3 : CellsAt w.W bq3 0 [(.int .i64 q3.Unit), (.slice Aq3_0 (q3.Tools).length cq3_0), (.slice Aq3_1 (q3.Steps).length cq3_1)]) (q4 : Int) (bq4 : Nat) (hb4 : w.R bq4) (hc4 : CellsAt w.W bq4 0 [(.int .i64 q4)]) (hb0 : w.R bq0) (hc0 : CellsAt w.W bq0 0 [(.func (.func 96) #[] #[(.pointer (some ⟨bq1, 0, none⟩))])]) (hb1 : w.R bq1) (hc1 : CellsAt w.W bq1 0 [(.func (.func 69) #[] #[(.pointer (some ⟨bq2, 0, none⟩)), (.pointer (some ⟨bq3, 0, none⟩)), (.pointer (some ⟨bq4, 0, none⟩))])]) (r : ((List TPlotStep) × Bool)) (H : F_plot_own__changed_3__changed_1__scaled_1_b N rec p0 q2 q3 q4 = some r) (hE : HF w w.W (LEn [bx bq2 #[(.bool q2)] 4, emp])) : Calls Tryd.prog 41 [(.slice Ap0_0 (p0).length cp0_0), (.func (.func 98) #[] #[(.pointer (some ⟨bq0, 0, none⟩))])].toArray w.W fun e W' => ∃ (w' : Bs) (u : (Option Addr × Nat)), w.Le w' ∧ e = .returned (.slice u.1 (r.1).length u.2) ∧ (SlF u.1 (r.1).length u.2) ∧ HF w' W' (LEn [bx bq2 #[(.bool r.2)] 4, ow u.1 u.2 84 fl_TPlotStep r.1]) := by
 unfold F_plot_own__changed_3__changed_1__scaled_1_b at H
 have leB := Bs.Le.refl w
 refine Tr.enter (n := 42) Tryd.func41 rfl rfl rfl hE ?_
 refine Tr.sr ?_
 refine Tr.asg rfl rfl ?_
 refine Tr.nilOwn 1 84 fl_TPlotStep ?_
 show Tr _ _ (uf _ 4 (.slice none (([] : List TPlotStep)).length 0)) _ _
 refine Tr.nil (Tr.normThen ?_)
 refine Tr.sr ?_
 refine Tr.mv rfl rfl ?_
 obtain ⟨y100, hy100, H⟩ := bnd H
 refine Tr.callG [2] [emp] (U := (Option Addr × Nat)) (fun u => (.slice u.1 (y100).length u.2)) (fun O W u => SlF u.1 (y100).length u.2) (fun u => [ow u.1 u.2 84 fl_TPlotStep y100]) rfl (pk_cons rfl pk_nil) (fun _ => rfl) (wn rfl) rfl Tryd.call74 (evl_cons rfl evl_nil) (fun W hW hp hE => F_slices_Clone_PlotStep_ok p0 Ap0_0 cp0_0 (hp0_0.extO (hW.extS hp)) y100 hy100 hE) ?_
 intro w u le101 hu
 obtain ⟨Ay100_0, cy100_0⟩ := u
 have gy100_0 := hu
 replace hp0_0 := hp0_0.le le101
 replace hc0 := le101.ext.cells hb0 hc0
 replace hb0 := le101.r _ hb0
 replace hc1 := le101.ext.cells hb1 hc1
 replace hb1 := le101.r _ hb1
 replace hc3 := le101.ext.cells hb3 hc3
 replace hb3 := le101.r _ hb3
 replace hq3_0 := hq3_0.leR le101
 replace hq3_1 := hq3_1.leR le101
 replace hc4 := le101.ext.cells hb4 hc4
 replace hb4 := le101.r _ hb4
 replace leB := leB.trans le101
 have hgy100_0 : SlF Ay100_0 (y100).length cy100_0 := gy100_0 --@phi
 show Tr _ _ (uf _ 8 (.slice Ay100_0 (y100).length cy100_0)) (up _ 2 (ow Ay100_0 cy100_0 84 fl_TPlotStep y100)) _
 refine Tr.asg rfl rfl ?_
 refine Tr.nil (Tr.normThen ?_)
 refine Tr.seq ?_
 refine Tr.sr ?_
 refine Tr.mv rfl rfl ?_
 refine Tr.va rfl (fun _ _ h1 h2 => run_len un_23 (h1.ev rfl)) ?_
 refine Tr.mv rfl rfl ?_
 refine Tr.nil (Tr.normThen ?_)
 refine Tr.block ?_
 refine Tr.loop (σ := Bool × (List TPlotStep) × Int × (Option Addr) × Nat) (fun m w s => F_plot_own__changed_3__changed_1__scaled_1_L1 q3 q4 rec y100 m s.1 s.2.1 s.2.2.1 = some r ∧ SlF s.2.2.2.1 (s.2.1).length s.2.2.2.2) (fun s => [(1, (.func (.func 98) #[] #[(.pointer (some ⟨bq0, 0, none⟩))])), (5, (.slice s.2.2.2.1 (s.2.1).length s.2.2.2.2)), (10, (.int .i64 (y100.length : Int))), (11, (.int .i64 s.2.2.1))]) (fun s => [(0, bx bq2 #[(.bool s.1)] 4), (2, ow s.2.2.2.1 s.2.2.2.2 84 fl_TPlotStep s.2.1)]) N (q2, y100, 0, Ay100_0, cy100_0) ⟨H, hgy100_0⟩ (.cons rfl (.cons rfl (.cons rfl (.cons rfl .nil)))) (.cons rfl (.cons rfl .nil)) (fun _ _ h => noSome (h.1)) ?_
 intro w leF_plot_own__changed_3__changed_1__scaled_1_L1 mF_plot_own__changed_3__changed_1__scaled_1_L1 s hs
 obtain ⟨x157, l158, x159, Al158, cl158⟩ := s
 obtain ⟨H, hl158⟩ := hs
 replace H : F_plot_own__changed_3__changed_1__scaled_1_L1 q3 q4 rec y100 (mF_plot_own__changed_3__changed_1__scaled_1_L1 + 1) x157 l158 x159 = some r := H
 replace hc0 := leF_plot_own__changed_3__changed_1__scaled_1_L1.ext.cells hb0 hc0
 replace hb0 := leF_plot_own__changed_3__changed_1__scaled_1_L1.r _ hb0
 replace hc1 := leF_plot_own__changed_3__changed_1__scaled_1_L1.ext.cells hb1 hc1
 replace hb1 := leF_plot_own__changed_3__changed_1__scaled_1_L1.r _ hb1
 replace hc3 := leF_plot_own__changed_3__changed_1__scaled_1_L1.ext.cells hb3 hc3
 replace hb3 := leF_plot_own__changed_3__changed_1__scaled_1_L1.r _ hb3
 replace hq3_0 := hq3_0.leR leF_plot_own__changed_3__changed_1__scaled_1_L1
 replace hq3_1 := hq3_1.leR leF_plot_own__changed_3__changed_1__scaled_1_L1
 replace hc4 := leF_plot_own__changed_3__changed_1__scaled_1_L1.ext.cells hb4 hc4
 replace hb4 := leF_plot_own__changed_3__changed_1__scaled_1_L1.r _ hb4
 replace leB := leB.trans leF_plot_own__changed_3__changed_1__scaled_1_L1
 replace hl158 : SlF Al158 (l158).length cl158 := hl158
 rw [F_plot_own__changed_3__changed_1__scaled_1_L1.eq_2] at H
 show Tr _ _ (LF [(1, (.func (.func 98) #[] #[(.pointer (some ⟨bq0, 0, none⟩))])), (5, (.slice Al158 (l158).length cl158)), (10, (.int .i64 (y100.length : Int))), (11, (.int .i64 x159))]) (LE [(0, bx bq2 #[(.bool x157)] 4), (2, ow Al158 cl158 84 fl_TPlotStep l158)]) _
 refine Tr.sr ?_
 refine Tr.va rfl (fun _ _ h1 h2 => run_lss (h1.ev rfl) (h1.ev rfl)) ?_
 refine Tr.nil (Tr.normThen ?_)
 refine Tr.seq ?_
 refine Tr.cond rfl H (fun H => ?_) (fun H => ?_)
 ·refine Tr.skip (Tr.normThen ?_)
  refine Tr.seq ?_
  refine Tr.block ?_
  refine Tr.sr ?_
  refine Tr.mv rfl rfl ?_
  refine Tr.asg rfl rfl ?_
  refine Tr.nil (Tr.normThen ?_)
  refine Tr.sr ?_
  refine Tr.mv rfl rfl ?_
  refine Tr.mv rfl rfl ?_
  refine Tr.mv rfl rfl ?_
  refine Tr.mv rfl rfl ?_
  obtain ⟨x160, hx160, H⟩ := bnd H
  obtain ⟨hx1600, hx1601, hx1602⟩ := idx_some hx160
  refine Tr.va rfl (fun _ _ h1 h2 => run_indexAddr el_23 (h1.ev rfl) hl158 (h1.ev rfl) hx1600 hx1601) ?_
  refine Tr.va rfl (fun _ _ h1 h2 => run_fieldAddr fo_84_3 (h1.ev rfl)) ?_
  refine Tr.valE (U := (fl_TPlotStep).Ad) (fun u => (fl_TPlotStep).ok w.O w.W u x160) (fun u => (.slice u.1.1 (x160.Points).length u.1.2)) (wn rfl) rfl (ldN (κ := 2) (t := fl_TPlotStep) (V := fun u => (.slice u.1.1 (x160.Points).length u.1.2)) rfl hx1602 (fun _ _ u h1 hc => run_load1 ag_82 (h1.ev rfl) (hc.drop 4) rfl)) ?_
  intro u161 hoku161
  obtain ⟨⟨Au161_0, cu161_0⟩, ⟨Au161_1, cu161_1⟩⟩ := u161
  obtain ⟨hoku161_0, hoku161_1⟩ := TPlotStep_ok.1 hoku161
  replace hoku161_0 : Sl w.O w.W fl_TPoint Au161_0 cu161_0 x160.Points := hoku161_0
  replace hoku161_1 : Sl w.O w.W fl_TPlotStep Au161_1 cu161_1 x160.Steps := hoku161_1
  show Tr _ _ (uf _ 20 (.slice Au161_0 (x160.Points).length cu161_0)) _ _
  obtain ⟨y162, hy162, H⟩ := bnd H
  refine Tr.callM [7] [emp] (U := (Option Addr × Nat)) (fun u => (.slice u.1 (y162).length u.2)) (fun u => SlF u.1 (y162).length u.2) (fun u => [ow u.1 u.2 37 fl_TPoint y162]) rfl (pk_cons rfl pk_nil) (fun _ => rfl) (wn rfl) rfl Tryd.call75 (evl_cons rfl evl_nil) (fun W hW hp hE => F_slices_Clone_Point_ok x160.Points Au161_0 cu161_0 (hoku161_0.rl.ext (hW.extS hp)) y162 hy162 hE) ?_
  intro u hu
  obtain ⟨Ay162_0, cy162_0⟩ := u
  have gy162_0 := hu
  have hgy162_0 : SlF Ay162_0 (y162).length cy162_0 := gy162_0 --@phi
  show Tr _ _ (uf _ 21 (.slice Ay162_0 (y162).length cy162_0)) (up _ 7 (ow Ay162_0 cy162_0 37 fl_TPoint y162)) _
  obtain ⟨x164, hx164, H⟩ := bnd H
  obtain ⟨hx1640, hx1641, hx1642⟩ := idx_some hx164
  refine Tr.va rfl (fun _ _ h1 h2 => run_indexAddr el_23 (h1.ev rfl) hl158 (h1.ev rfl) hx1640 hx1641) ?_
  refine Tr.va rfl (fun _ _ h1 h2 => run_fieldAddr fo_84_3 (h1.ev rfl)) ?_
  refine Tr.mixOpen 2 rfl hx1642 ?_
  intro u165 hoku165
  obtain ⟨⟨Au165_0, cu165_0⟩, ⟨Au165_1, cu165_1⟩⟩ := u165
  obtain ⟨hoku165_0, hoku165_1⟩ := TPlotStep_ok.1 hoku165
  replace hoku165_0 : Sl w.O w.W fl_TPoint Au165_0 cu165_0 x164.Points := hoku165_0
  replace hoku165_1 : Sl w.O w.W fl_TPlotStep Au165_1 cu165_1 x164.Steps := hoku165_1
  show Tr _ _ _ (up _ 2 (ow Al158 cl158 84 (mix fl_TPlotStep) (mixL l158 (x159).toNat (raw fl_TPlotStep [(.int .i64 x164.Kind), (.string x164.Name), (.int .i64 x164.At.X), (.int .i64 x164.At.Y), (.slice Au165_0 (x164.Points).length cu165_0), (.int .i64 x164.NX), (.int .i64 x164.NY), (.slice Au165_1 (x164.Steps).length cu165_1)] rfl rfl)))) _
  refine Tr.storeMix 2 (raw fl_TPlotStep [(.int .i64 x164.Kind), (.string x164.Name), (.int .i64 x164.At.X), (.int .i64 x164.At.Y), (.slice Ay162_0 (y162).length cy162_0), (.int .i64 x164.NX), (.int .i64 x164.NY), (.slice Au165_1 (x164.Steps).length cu165_1)] rfl rfl) (cs := [(.slice Ay162_0 (y162).length cy162_0)]) (fo := 4) (wn rfl) rfl rfl rfl rfl rfl (List.getElem?_eq_some_iff.1 hx1642).1 sz_82 rfl rfl rfl ?_
  refine Tr.nil (Tr.normThen ?_)
  refine Tr.sr ?_
  refine Tr.mv rfl rfl ?_
  refine Tr.mv rfl rfl ?_
  refine Tr.mv rfl rfl ?_
  refine Tr.mv rfl rfl ?_
  obtain ⟨x166, hx166, H⟩ := bnd H
  obtain ⟨hx1660, hx1661, hx1662⟩ := idx_some hx166
  refine Tr.va rfl (fun _ _ h1 h2 => run_indexAddr el_23 (h1.ev rfl) hl158 (h1.ev rfl) hx1660 hx1661) ?_
  refine Tr.va rfl (fun _ _ h1 h2 => run_fieldAddr fo_84_6 (h1.ev rfl)) ?_
  refine Tr.va rfl (fun _ _ h1 h2 => run_load1 ag_23 (h1.ev rfl) (CellsAt.drop (rdm (cs := raw fl_TPlotStep [(.int .i64 x164.Kind), (.string x164.Name), (.int .i64 x164.At.X), (.int .i64 x164.At.Y), (.slice Ay162_0 (y162).length cy162_0), (.int .i64 x164.NX), (.int .i64 x164.NY), (.slice Au165_1 (x164.Steps).length cu165_1)] rfl rfl) h2 (κ := 2) rfl (List.getElem?_eq_some_iff.1 hx1662).1) 7) rfl) ?_
  refine Tr.mv rfl rfl ?_
  obtain ⟨y167, hy167, H⟩ := bnd H
  refine Tr.callG [0, 8] [bx bq2 #[(.bool x157)] 4, emp] (U := (Option Addr × Nat)) (fun u => (.slice u.1 (y167.1).length u.2)) (fun O W u => SlF u.1 (y167.1).length u.2) (fun u => [bx bq2 #[(.bool y167.2)] 4, ow u.1 u.2 84 fl_TPlotStep y167.1]) rfl (pk_cons rfl (pk_cons rfl pk_nil)) (fun _ => rfl) (wn rfl) rfl Tryd.call41 (evl_cons rfl (evl_cons rfl evl_nil)) (fun W hW hp hE => hrec x164.Steps Au165_1 cu165_1 (hoku165_1.extO (hW.extS hp)) bq0 bq1 x157 bq2 q3 Aq3_0 cq3_0 (hq3_0.ext (hW.extS hp)) Aq3_1 cq3_1 (hq3_1.ext (hW.extS hp)) bq3 ((hW.extS hp).r _ hb3) ((hW.extS hp).cells hb3 hc3) q4 bq4 ((hW.extS hp).r _ hb4) ((hW.extS hp).cells hb4 hc4) ((hW.extS hp).r _ hb0) ((hW.extS hp).cells hb0 hc0) ((hW.extS hp).r _ hb1) ((hW.extS hp).cells hb1 hc1) y167 hy167 hE) ?_
  intro w u le168 hu
  obtain ⟨Ay167_0, cy167_0⟩ := u
  have gy167_0 := hu
  replace hc0 := le168.ext.cells hb0 hc0
  replace hb0 := le168.r _ hb0
  replace hc1 := le168.ext.cells hb1 hc1
  replace hb1 := le168.r _ hb1
  replace hc3 := le168.ext.cells hb3 hc3
  replace hb3 := le168.r _ hb3
  replace hq3_0 := hq3_0.leR le168
  replace hq3_1 := hq3_1.leR le168
  replace hc4 := le168.ext.cells hb4 hc4
  replace hb4 := le168.r _ hb4
  replace hoku161_0 := hoku161_0.le le168
  replace hoku165_1 := hoku165_1.le le168
  replace leB := leB.trans le168
  replace leF_plot_own__changed_3__changed_1__scaled_1_L1 := leF_plot_own__changed_3__changed_1__scaled_1_L1.trans le168
  have hgy167_0 : SlF Ay167_0 (y167.1).length cy167_0 := gy167_0 --@phi
  show Tr _ _ (uf _ 32 (.slice Ay167_0 (y167.1).length cy167_0)) (up (up _ 8 (ow Ay167_0 cy167_0 84 fl_TPlotStep y167.1)) 0 (bx bq2 #[(.bool y167.2)] 4)) _
  obtain ⟨x169, hx169, H⟩ := bnd H
  obtain ⟨hx1690, hx1691, hx1692⟩ := idx_some hx169
  refine Tr.va rfl (fun _ _ h1 h2 => run_indexAddr el_23 (h1.ev rfl) hl158 (h1.ev rfl) hx1690 hx1691) ?_
  refine Tr.va rfl (fun _ _ h1 h2 => run_fieldAddr fo_84_6 (h1.ev rfl)) ?_
  refine Tr.storeMix 2 (raw fl_TPlotStep [(.int .i64 x164.Kind), (.string x164.Name), (.int .i64 x164.At.X), (.int .i64 x164.At.Y), (.slice Ay162_0 (y162).length cy162_0), (.int .i64 x164.NX), (.int .i64 x164.NY), (.slice Ay167_0 (y167.1).length cy167_0)] rfl rfl) (cs := [(.slice Ay167_0 (y167.1).length cy167_0)]) (fo := 7) (wn rfl) rfl rfl rfl rfl rfl (List.getElem?_eq_some_iff.1 hx1692).1 sz_23 rfl rfl rfl ?_
  refine Tr.nil (Tr.normThen ?_)
  refine Tr.region ?_
  refine Tr.mv rfl rfl ?_
  refine Tr.mv rfl rfl ?_
  refine Tr.mv rfl rfl ?_
  obtain ⟨x170, hx170, H⟩ := bnd H
  obtain ⟨hx1700, hx1701, hx1702⟩ := idx_some hx170
  refine Tr.va rfl (fun _ _ h1 h2 => run_indexAddr el_23 (h1.ev rfl) hl158 (h1.ev rfl) hx1700 hx1701) ?_
  obtain ⟨y171, hy171, H⟩ := bnd H
  refine Tr.callGC [2, 7, 0] [ow Al158 cl158 84 (mix fl_TPlotStep) (mixL l158 (x159).toNat (raw fl_TPlotStep [(.int .i64 x164.Kind), (.string x164.Name), (.int .i64 x164.At.X), (.int .i64 x164.At.Y), (.slice Ay162_0 (y162).length cy162_0), (.int .i64 x164.NX), (.int .i64 x164.NY), (.slice Ay167_0 (y167.1).length cy167_0)] rfl rfl)), ow Ay162_0 cy162_0 37 fl_TPoint y162, bx bq2 #[(.bool y167.2)] 4] (U := Unit) (fun u => (.tuple #[])) (fun O W u => (y171.2.2.1).length = (y162).length) (fun u => [ow Al158 cl158 84 (mix fl_TPlotStep) (mixL l158 (x159).toNat (raw fl_TPlotStep [(.int .i64 x164.Kind), (.string x164.Name), (.int .i64 y171.1), (.int .i64 y171.2.1), (.slice Ay162_0 (y171.2.2.1).length cy162_0), (.int .i64 x164.NX), (.int .i64 x164.NY), (.slice Ay167_0 (y167.1).length cy167_0)] rfl rfl)), ow Ay162_0 cy162_0 37 fl_TPoint y171.2.2.1, bx bq2 #[(.bool y171.2.2.2)] 4]) rfl (pk_cons rfl (pk_cons rfl (pk_cons rfl pk_nil))) (fun _ => rfl) (wn rfl) rfl rfl Tryd.call98 (evl_cons rfl evl_nil) (fun W hW hp hE => F_plot_changed_3__changed_1__scaled_1_ok (TPlotStep.mk x164.Kind x164.Name x164.At y162 x164.NX x164.NY y167.1) Ay162_0 cy162_0 Ay167_0 cy167_0 (hW.slS (k := 8) rfl hp rfl) Al158 cl158 l158 ((x159).toNat) (List.getElem?_eq_some_iff.1 hx1702).1 bq0 bq1 y167.2 bq2 q3 Aq3_0 cq3_0 (hq3_0.ext (hW.extS hp)) Aq3_1 cq3_1 (hq3_1.ext (hW.extS hp)) bq3 ((hW.extS hp).r _ hb3) ((hW.extS hp).cells hb3 hc3) q4 bq4 ((hW.extS hp).r _ hb4) ((hW.extS hp).cells hb4 hc4) ((hW.extS hp).r _ hb0) ((hW.extS hp).cells hb0 hc0) ((hW.extS hp).r _ hb1) ((hW.extS hp).cells hb1 hc1) y171 hy171 hE) ?_
  intro w u le172 hu
  have gky171_1 := hu
  replace hc0 := le172.ext.cells hb0 hc0
  replace hb0 := le172.r _ hb0
  replace hc1 := le172.ext.cells hb1 hc1
  replace hb1 := le172.r _ hb1
  replace hc3 := le172.ext.cells hb3 hc3
  replace hb3 := le172.r _ hb3
  replace hq3_0 := hq3_0.leR le172
  replace hq3_1 := hq3_1.leR le172
  replace hc4 := le172.ext.cells hb4 hc4
  replace hb4 := le172.r _ hb4
  replace hoku161_0 := hoku161_0.le le172
  replace hoku165_1 := hoku165_1.le le172
  replace leB := leB.trans le172
  replace leF_plot_own__changed_3__changed_1__scaled_1_L1 := leF_plot_own__changed_3__changed_1__scaled_1_L1.trans le172
  have hgky171_1 : (y171.2.2.1).length = (y162).length := gky171_1 --@phi
  have hfky171_1 : SlF Ay162_0 (y171.2.2.1).length cy162_0 := by rw [hgky171_1]; exact hgy162_0
  show Tr _ _ (uf _ 39 (.tuple #[])) (up (up (up _ 0 (bx bq2 #[(.bool y171.2.2.2)] 4)) 7 (ow Ay162_0 cy162_0 37 fl_TPoint y171.2.2.1)) 2 (ow Al158 cl158 84 (mix fl_TPlotStep) (mixL l158 (x159).toNat (raw fl_TPlotStep [(.int .i64 x164.Kind), (.string x164.Name), (.int .i64 y171.1), (.int .i64 y171.2.1), (.slice Ay162_0 (y171.2.2.1).length cy162_0), (.int .i64 x164.NX), (.int .i64 x164.NY), (.slice Ay167_0 (y167.1).length cy167_0)] rfl rfl)))) _
  refine Tr.sel (lf := [(1, (.func (.func 98) #[] #[(.pointer (some ⟨bq0, 0, none⟩))])), (5, (.slice Al158 (l158).length cl158)), (6, (.int .i64 x159)), (10, (.int .i64 (y100.length : Int))), (11, (.int .i64 x159)), (12, (.bool (decide (x159 < (y100.length : Int))))), (13, (.int .i64 x159)), (14, (.slice Al158 (l158).length cl158)), (15, (.int .i64 x159)), (16, (.slice Al158 (l158).length cl158)), (17, (.int .i64 x159)), (20, (.slice Au161_0 (x160.Points).length cu161_0)), (21, (.slice Ay162_0 (y171.2.2.1).length cy162_0)), (24, (.slice Al158 (l158).length cl158)), (25, (.int .i64 x159)), (26, (.slice Al158 (l158).length cl158)), (27, (.int .i64 x159)), (28, (.pointer (some ⟨adB Al158, adO Al158 + (x159).toNat * 8, none⟩))), (29, (.pointer (some ⟨adB Al158, adO Al158 + (x159).toNat * 8 + 7, none⟩))), (30, (.slice Au165_1 (x164.Steps).length cu165_1)), (31, (.func (.func 98) #[] #[(.pointer (some ⟨bq0, 0, none⟩))])), (32, (.slice Ay167_0 (y167.1).length cy167_0)), (33, (.pointer (some ⟨adB Al158, adO Al158 + (x159).toNat * 8, none⟩))), (34, (.pointer (some ⟨adB Al158, adO Al158 + (x159).toNat * 8 + 7, none⟩))), (35, (.func (.func 98) #[] #[(.pointer (some ⟨bq0, 0, none⟩))])), (36, (.slice Al158 (l158).length cl158)), (37, (.int .i64 x159)), (38, (.pointer (some ⟨adB Al158, adO Al158 + (x159).toNat * 8, none⟩))), (39, (.tuple #[]))]) (le := [(0, bx bq2 #[(.bool y171.2.2.2)] 4), (2, ow Al158 cl158 84 (mix fl_TPlotStep) (mixL l158 (x159).toNat (raw fl_TPlotStep [(.int .i64 x164.Kind), (.string x164.Name), (.int .i64 y171.1), (.int .i64 y171.2.1), (.slice Ay162_0 (y171.2.2.1).length cy162_0), (.int .i64 x164.NX), (.int .i64 x164.NY), (.slice Ay167_0 (y167.1).length cy167_0)] rfl rfl))), (7, ow Ay162_0 cy162_0 37 fl_TPoint y171.2.2.1), (8, ow Ay167_0 cy167_0 84 fl_TPlotStep y167.1)]) (.cons rfl (.cons rfl (.cons rfl (.cons rfl (.cons rfl (.cons rfl (.cons rfl (.cons rfl (.cons rfl (.cons rfl (.cons rfl (.cons rfl (.cons (slenV rfl (by rw [hgky171_1])) (.cons rfl (.cons rfl (.cons rfl (.cons rfl (.cons rfl (.cons rfl (.cons rfl (.cons rfl (.cons rfl (.cons rfl (.cons rfl (.cons rfl (.cons rfl (.cons rfl (.cons rfl (.cons rfl .nil))))))))))))))))))))))))))))) (.cons rfl (.cons (emix rfl (by rw [hgky171_1])) (.cons rfl (.cons rfl .nil)))) ?_
  refine Tr.nil (Tr.normBlock (Tr.normThen ?_))
  refine Tr.region ?_
  refine Tr.va rfl (fun _ _ h1 h2 => run_add (h1.ev rfl) (h1.ev rfl)) ?_
  refine Tr.mv rfl rfl ?_
  refine Tr.nil ?_
  refine Tr.freeze 7 rfl fun w le174 hz173 => ?_
  replace hc0 := le174.ext.cells hb0 hc0
  replace hb0 := le174.r _ hb0
  replace hc1 := le174.ext.cells hb1 hc1
  replace hb1 := le174.r _ hb1
  replace hc3 := le174.ext.cells hb3 hc3
  replace hb3 := le174.r _ hb3
  replace hq3_0 := hq3_0.leR le174
  replace hq3_1 := hq3_1.leR le174
  replace hc4 := le174.ext.cells hb4 hc4
  replace hb4 := le174.r _ hb4
  replace hoku161_0 := hoku161_0.le le174
  replace hoku165_1 := hoku165_1.le le174
  replace leB := leB.trans le174
  replace leF_plot_own__changed_3__changed_1__scaled_1_L1 := leF_plot_own__changed_3__changed_1__scaled_1_L1.trans le174
  refine Tr.freeze 8 rfl fun w le176 hz175 => ?_
  replace hc0 := le176.ext.cells hb0 hc0
  replace hb0 := le176.r _ hb0
  replace hc1 := le176.ext.cells hb1 hc1
  replace hb1 := le176.r _ hb1
  replace hc3 := le176.ext.cells hb3 hc3
  replace hb3 := le176.r _ hb3
  replace hq3_0 := hq3_0.leR le176
  replace hq3_1 := hq3_1.leR le176
  replace hc4 := le176.ext.cells hb4 hc4
  replace hb4 := le176.r _ hb4
  replace hoku161_0 := hoku161_0.le le176
  replace hz173 := hz173.le le176
  replace hoku165_1 := hoku165_1.le le176
  replace leB := leB.trans le176
  replace leF_plot_own__changed_3__changed_1__scaled_1_L1 := leF_plot_own__changed_3__changed_1__scaled_1_L1.trans le176
  refine Tr.mixClose 2 rfl (((Ay162_0, cy162_0), (Ay167_0, cy167_0))) (TPlotStep.mk x164.Kind x164.Name (TPoint.mk y171.1 y171.2.1) y171.2.2.1 x164.NX x164.NY y167.1) (TPlotStep_ok.2 ⟨hz173, hz175⟩) rfl ?_
  have hs177 : ((l158).set (x159).toNat (TPlotStep.mk x164.Kind x164.Name (TPoint.mk y171.1 y171.2.1) y171.2.2.1 x164.NX x164.NY y167.1)).length = (l158).length := List.length_set
  have hfhs177 : SlF Al158 ((l158).set (x159).toNat (TPlotStep.mk x164.Kind x164.Name (TPoint.mk y171.1 y171.2.1) y171.2.2.1 x164.NX x164.NY y167.1)).length cl158 := by rw [hs177]; exact hl158
  refine Tr.sel (lf := [(1, (.func (.func 98) #[] #[(.pointer (some ⟨bq0, 0, none⟩))])), (5, (.slice Al158 (((l158).set (x159).toNat (TPlotStep.mk x164.Kind x164.Name (TPoint.mk y171.1 y171.2.1) y171.2.2.1 x164.NX x164.NY y167.1))).length cl158)), (6, (.int .i64 x159)), (10, (.int .i64 (y100.length : Int))), (11, (.int .i64 (w64 (x159 + 1)))), (12, (.bool (decide (x159 < (y100.length : Int))))), (13, (.int .i64 x159)), (14, (.slice Al158 (((l158).set (x159).toNat (TPlotStep.mk x164.Kind x164.Name (TPoint.mk y171.1 y171.2.1) y171.2.2.1 x164.NX x164.NY y167.1))).length cl158)), (15, (.int .i64 x159)), (16, (.slice Al158 (((l158).set (x159).toNat (TPlotStep.mk x164.Kind x164.Name (TPoint.mk y171.1 y171.2.1) y171.2.2.1 x164.NX x164.NY y167.1))).length cl158)), (17, (.int .i64 x159)), (20, (.slice Au161_0 (x160.Points).length cu161_0)), (21, (.slice Ay162_0 (y171.2.2.1).length cy162_0)), (24, (.slice Al158 (((l158).set (x159).toNat (TPlotStep.mk x164.Kind x164.Name (TPoint.mk y171.1 y171.2.1) y171.2.2.1 x164.NX x164.NY y167.1))).length cl158)), (25, (.int .i64 x159)), (26, (.slice Al158 (((l158).set (x159).toNat (TPlotStep.mk x164.Kind x164.Name (TPoint.mk y171.1 y171.2.1) y171.2.2.1 x164.NX x164.NY y167.1))).length cl158)), (27, (.int .i64 x159)), (30, (.slice Au165_1 (x164.Steps).length cu165_1)), (31, (.func (.func 98) #[] #[(.pointer (some ⟨bq0, 0, none⟩))])), (32, (.slice Ay167_0 (y167.1).length cy167_0)), (35, (.func (.func 98) #[] #[(.pointer (some ⟨bq0, 0, none⟩))])), (36, (.slice Al158 (((l158).set (x159).toNat (TPlotStep.mk x164.Kind x164.Name (TPoint.mk y171.1 y171.2.1) y171.2.2.1 x164.NX x164.NY y167.1))).length cl158)), (37, (.int .i64 x159)), (39, (.tuple #[])), (40, (.int .i64 (w64 (x159 + 1))))]) (le := [(0, bx bq2 #[(.bool y171.2.2.2)] 4), (2, ow Al158 cl158 84 fl_TPlotStep ((l158).set (x159).toNat (TPlotStep.mk x164.Kind x164.Name (TPoint.mk y171.1 y171.2.1) y171.2.2.1 x164.NX x164.NY y167.1)))]) (.cons rfl (.cons (slenV rfl (by rw [hs177])) (.cons rfl (.cons rfl (.cons rfl (.cons rfl (.cons rfl (.cons (slenV rfl (by rw [hs177])) (.cons rfl (.cons (slenV rfl (by rw [hs177])) (.cons rfl (.cons rfl (.cons rfl (.cons (slenV rfl (by rw [hs177])) (.cons rfl (.cons (slenV rfl (by rw [hs177])) (.cons rfl (.cons rfl (.cons rfl (.cons rfl (.cons rfl (.cons (slenV rfl (by rw [hs177])) (.cons rfl (.cons rfl (.cons rfl .nil))))))))))))))))))))))))) (.cons rfl (.cons rfl .nil)) ?_
  exact Tr.backThen leF_plot_own__changed_3__changed_1__scaled_1_L1 (y171.2.2.2, ((l158).set (x159).toNat (TPlotStep.mk x164.Kind x164.Name (TPoint.mk y171.1 y171.2.1) y171.2.2.1 x164.NX x164.NY y167.1)), (w64 (x159 + 1)), Al158, cl158) ⟨H, hfhs177⟩ (.cons rfl (.cons rfl (.cons rfl (.cons rfl .nil)))) (.cons rfl (.cons rfl .nil))
 ·refine Tr.exit (Tr.exitThen (Tr.exitThen (Tr.exitBlock (Tr.normThen ?_))))
  refine Tr.sr ?_
  refine Tr.mv rfl rfl ?_
  refine Tr.asg rfl rfl ?_
  refine Tr.nil (Tr.normThen ?_)
  refine Tr.ret ?_
  obtain rfl := Option.some.inj H
  exact Tr.out (m := [(.slice Al158 (l158).length cl158)]) [] (res_tmp rfl res_nil) (fun W hW => ⟨w, (Al158, cl158), leB, rfl, hl158, hW.pick (ks := [0, 2]) (by decide) (pk_cons rfl (pk_cons rfl pk_nil))⟩)
theorem F_plot_own__changed_3__changed_1__scaled_1_ok : ∀ (N : Nat) {w : Bs} (p0 : (List TPlotStep)) (Ap0_0 : Option Addr) (cp0_0 : Nat) (hp0_0 : Sl w.O w.W fl_TPlotStep Ap0_0 cp0_0 p0) (bq0 : Nat) (bq1 : Nat) (q2 : Bool) (bq2 : Nat) (q3 : TPlot) (Aq3_0 : Option Addr) (cq3_0 : Nat) (hq3_0 : Sl w.R w.W fl_TPlotTool Aq3_0 cq3_0 q3.Tools) (Aq3_1 : Option Addr) (cq3_1 : Nat) (hq3_1 : Sl w.R w.W fl_TPlotStep Aq3_1 cq3_1 q3.Steps) (bq3 : Nat) (hb3 : w.R bq3) (hc3 : CellsAt w.W bq3 0 [(.int .i64 q3.Unit), (.slice Aq3_0 (q3.Tools).length cq3_0), (.slice Aq3_1 (q3.Steps).length cq3_1)]) (q4 : Int) (bq4 : Nat) (hb4 : w.R bq4) (hc4 : CellsAt w.W bq4 0 [(.int .i64 q4)]) (hb0 : w.R bq0) (hc0 : CellsAt w.W bq0 0 [(.func (.func 96) #[] #[(.pointer (some ⟨bq1, 0, none⟩))])]) (hb1 : w.R bq1) (hc1 : CellsAt w.W bq1 0 [(.func (.func 69) #[] #[(.pointer (some ⟨bq2, 0, none⟩)), (.pointer (some ⟨bq3, 0, none⟩)), (.pointer (some ⟨bq4, 0, none⟩))])]) (r : ((List TPlotStep) × Bool)) (H : F_plot_own__changed_3__changed_1__scaled_1 N p0 q2 q3 q4 = some r) (hE : HF w w.W (LEn [bx bq2 #[(.bool q2)] 4, emp])), Calls Tryd.prog 41 [(.slice Ap0_0 (p0).length cp0_0), (.func (.func 98) #[] #[(.pointer (some ⟨bq0, 0, none⟩))])].toArray w.W fun e W' => ∃ (w' : Bs) (u : (Option Addr × Nat)), w.Le w' ∧ e = .returned (.slice u.1 (r.1).length u.2) ∧ (SlF u.1 (r.1).length u.2) ∧ HF w' W' (LEn [bx bq2 #[(.bool r.2)] 4, ow u.1 u.2 84 fl_TPlotStep r.1])
 | 0 => by intros; rename_i H _; cases H
 | N + 1 => F_plot_own__changed_3__changed_1__scaled_1_b_ok N (F_plot_own__changed_3__changed_1__scaled_1 N) (F_plot_own__changed_3__changed_1__scaled_1_ok N)

theorem F_plot_changed__scaled_1_ok (N : Nat) {w : Bs} (p0 : TPlot) (Ap0_0 : Option Addr) (cp0_0 : Nat) (hp0_0 : Sl w.O w.W fl_TPlotTool Ap0_0 cp0_0 p0.Tools) (Ap0_1 : Option Addr) (cp0_1 : Nat) (hp0_1 : Sl w.O w.W fl_TPlotStep Ap0_1 cp0_1 p0.Steps) (q0 : Bool) (bq0 : Nat) (q1 : TPlot) (Aq1_0 : Option Addr) (cq1_0 : Nat) (hq1_0 : Sl w.R w.W fl_TPlotTool Aq1_0 cq1_0 q1.Tools) (Aq1_1 : Option Addr) (cq1_1 : Nat) (hq1_1 : Sl w.R w.W fl_TPlotStep Aq1_1 cq1_1 q1.Steps) (bq1 : Nat) (hb1 : w.R bq1) (hc1 : CellsAt w.W bq1 0 [(.int .i64 q1.Unit), (.slice Aq1_0 (q1.Tools).length cq1_0), (.slice Aq1_1 (q1.Steps).length cq1_1)]) (q2 : Int) (bq2 : Nat) (hb2 : w.R bq2) (hc2 : CellsAt w.W bq2 0 [(.int .i64 q2)]) (r : (TPlot × Bool)) (H : F_plot_changed__scaled_1 N p0 q0 q1 q2 = some r) (hE : HF w w.W (LEn [bx bq0 #[(.bool q0)] 4, emp, emp])) : Calls Tryd.prog 68 [(.agg #[(.int .i64 p0.Unit), (.slice Ap0_0 (p0.Tools).length cp0_0), (.slice Ap0_1 (p0.Steps).length cp0_1)]), (.func (.func 69) #[] #[(.pointer (some ⟨bq0, 0, none⟩)), (.pointer (some ⟨bq1, 0, none⟩)), (.pointer (some ⟨bq2, 0, none⟩))])].toArray w.W fun e W' => ∃ (w' : Bs) (u : (Option Addr × Nat) × (Option Addr × Nat)), w.Le w' ∧ e = .returned (.agg #[(.int .i64 r.1.Unit), (.slice u.1.1 (r.1.Tools).length u.1.2), (.slice u.2.1 (r.1.Steps).length u.2.2)]) ∧ (SlF u.1.1 (r.1.Tools).length u.1.2 ∧ SlF u.2.1 (r.1.Steps).length u.2.2) ∧ HF w' W' (LEn [bx bq0 #[(.bool r.2)] 4, ow u.1.1 u.1.2 55 fl_TPlotTool r.1.Tools, ow u.2.1 u.2.2 84 fl_TPlotStep r.1.Steps]) := by
 unfold F_plot_changed__scaled_1 at H
 have leB := Bs.Le.refl w
 refine Tr.enter (n := 22) Tryd.func68 rfl rfl rfl hE ?_
 refine Tr.sr ?_
 refine Tr.box 1 (cs := [(.int .i64 p0.Unit), (.slice Ap0_0 (p0.Tools).length cp0_0), (.slice Ap0_1 (p0.Steps).length cp0_1)]) (wn rfl) rfl rfl rfl fun b100 => ?_
 refine Tr.box 2 (cs := [(.func (.func 69) #[] #[(.pointer (some ⟨bq0, 0, none⟩)), (.pointer (some ⟨bq1, 0, none⟩)), (.pointer (some ⟨bq2, 0, none⟩))])]) (wn rfl) rfl rfl rfl fun b101 => ?_
 refine Tr.alloc 3 (wn rfl) rfl ze_25 fun b102 => ?_
 refine Tr.nil (Tr.normThen ?_)
 refine Tr.sr ?_
 refine Tr.mkFunc (vs := [(.pointer (some ⟨b101, 0, none⟩))]) (wn rfl) rfl (evl_cons rfl evl_nil) ?_
 refine Tr.alloc 4 (wn rfl) rfl ze_120 fun b103 => ?_
 refine Tr.store 4 (cs := [(.func (.func 96) #[] #[(.pointer (some ⟨b101, 0, none⟩))])]) [(.func (.func 96) #[] #[(.pointer (some ⟨b101, 0, none⟩))])] (wn rfl) rfl rfl rfl rfl sz_120 rfl rfl rfl ?_
 refine Tr.nil (Tr.normThen ?_)
 refine Tr.sr ?_
 refine Tr.va rfl (fun _ _ h1 h2 => run_fieldAddr fo_25_1 (h1.ev rfl)) ?_
 refine Tr.va rfl (fun _ _ h1 h2 => run_load1 ag_22 (h1.ev rfl) (rdb h2 (vs := [(.int .i64 p0.Unit), (.slice Ap0_0 (p0.Tools).length cp0_0), (.slice Ap0_1 (p0.Steps).length cp0_1)]) (k := 1) rfl 1) rfl) ?_
 refine Tr.mkFunc (vs := [(.pointer (some ⟨b101, 0, none⟩))]) (wn rfl) rfl (evl_cons rfl evl_nil) ?_
 obtain ⟨y104, hy104, H⟩ := bnd H
 refine Tr.callG [0, 5] [bx bq0 #[(.bool q0)] 4, emp] (U := (Option Addr × Nat)) (fun u => (.slice u.1 (y104.1).length u.2)) (fun O W u => SlF u.1 (y104.1).length u.2) (fun u => [bx bq0 #[(.bool y104.2)] 4, ow u.1 u.2 55 fl_TPlotTool y104.1]) rfl (pk_cons rfl (pk_cons rfl pk_nil)) (fun _ => rfl) (wn rfl) rfl Tryd.call44 (evl_cons rfl (evl_cons rfl evl_nil)) (fun W hW hp hE => F_plot_ownTools__changed_2__scaled_1_ok N p0.Tools Ap0_0 cp0_0 (hp0_0.extO (hW.extS hp)) b101 q0 bq0 q1 Aq1_0 cq1_0 (hq1_0.ext (hW.extS hp)) Aq1_1 cq1_1 (hq1_1.ext (hW.extS hp)) bq1 ((hW.extS hp).r _ hb1) ((hW.extS hp).cells hb1 hc1) q2 bq2 ((hW.extS hp).r _ hb2) ((hW.extS hp).cells hb2 hc2) (hW.boxS (k := 2) rfl hp rfl) (hW.boxC (k := 2) rfl) y104 hy104 hE) ?_
 intro w u le105 hu
 obtain ⟨Ay104_0, cy104_0⟩ := u
 have gy104_0 := hu
 replace hp0_0 := hp0_0.le le105
 replace hp0_1 := hp0_1.le le105
 replace hc1 := le105.ext.cells hb1 hc1
 replace hb1 := le105.r _ hb1
 replace hq1_0 := hq1_0.leR le105
 replace hq1_1 := hq1_1.leR le105
 replace hc2 := le105.ext.cells hb2 hc2
 replace hb2 := le105.r _ hb2
 replace leB := leB.trans le105
 have hgy104_0 : SlF Ay104_0 (y104.1).length cy104_0 := gy104_0 --@phi
 show Tr _ _ (uf _ 12 (.slice Ay104_0 (y104.1).length cy104_0)) (up (up _ 5 (ow Ay104_0 cy104_0 55 fl_TPlotTool y104.1)) 0 (bx bq0 #[(.bool y104.2)] 4)) _
 refine Tr.asg rfl rfl ?_
 refine Tr.nil (Tr.normThen ?_)
 refine Tr.sr ?_
 refine Tr.va rfl (fun _ _ h1 h2 => run_fieldAddr fo_25_2 (h1.ev rfl)) ?_
 refine Tr.va rfl (fun _ _ h1 h2 => run_load1 ag_23 (h1.ev rfl) (rdb h2 (vs := [(.int .i64 p0.Unit), (.slice Ap0_0 (p0.Tools).length cp0_0), (.slice Ap0_1 (p0.Steps).length cp0_1)]) (k := 1) rfl 2) rfl) ?_
 refine Tr.mkFunc (vs := [(.pointer (some ⟨b103, 0, none⟩))]) (wn rfl) rfl (evl_cons rfl evl_nil) ?_
 obtain ⟨y106, hy106, H⟩ := bnd H
 refine Tr.callG [0, 6] [bx bq0 #[(.bool y104.2)] 4, emp] (U := (Option Addr × Nat)) (fun u => (.slice u.1 (y106.1).length u.2)) (fun O W u => SlF u.1 (y106.1).length u.2) (fun u => [bx bq0 #[(.bool y106.2)] 4, ow u.1 u.2 84 fl_TPlotStep y106.1]) rfl (pk_cons rfl (pk_cons rfl pk_nil)) (fun _ => rfl) (wn rfl) rfl Tryd.call41 (evl_cons rfl (evl_cons rfl evl_nil)) (fun W hW hp hE => F_plot_own__changed_3__changed_1__scaled_1_ok N p0.Steps Ap0_1 cp0_1 (hp0_1.extO (hW.extS hp)) b103 b101 y104.2 bq0 q1 Aq1_0 cq1_0 (hq1_0.ext (hW.extS hp)) Aq1_1 cq1_1 (hq1_1.ext (hW.extS hp)) bq1 ((hW.extS hp).r _ hb1) ((hW.extS hp).cells hb1 hc1) q2 bq2 ((hW.extS hp).r _ hb2) ((hW.extS hp).cells hb2 hc2) (hW.boxS (k := 4) rfl hp rfl) (hW.boxC (k := 4) rfl) (hW.boxS (k := 2) rfl hp rfl) (hW.boxC (k := 2) rfl) y106 hy106 hE) ?_
 intro w u le107 hu
 obtain ⟨Ay106_0, cy106_0⟩ := u
 have gy106_0 := hu
 replace hp0_0 := hp0_0.le le107
 replace hp0_1 := hp0_1.le le107
 replace hc1 := le107.ext.cells hb1 hc1
 replace hb1 := le107.r _ hb1
 replace hq1_0 := hq1_0.leR le107
 replace hq1_1 := hq1_1.leR le107
 replace hc2 := le107.ext.cells hb2 hc2
 replace hb2 := le107.r _ hb2
 replace leB := leB.trans le107
 have hgy106_0 : SlF Ay106_0 (y106.1).length cy106_0 := gy106_0 --@phi
 show Tr _ _ (uf _ 16 (.slice Ay106_0 (y106.1).length cy106_0)) (up (up _ 6 (ow Ay106_0 cy106_0 84 fl_TPlotStep y106.1)) 0 (bx bq0 #[(.bool y106.2)] 4)) _
 refine Tr.asg rfl rfl ?_
 refine Tr.nil (Tr.normThen ?_)
 refine Tr.sr ?_
 refine Tr.va rfl (fun _ _ h1 h2 => run_fieldAddr fo_25_0 (h1.ev rfl)) ?_
 refine Tr.va rfl (fun _ _ h1 h2 => run_load1 ag_3 (h1.ev rfl) (rdb h2 (vs := [(.int .i64 p0.Unit), (.slice Ap0_0 (p0.Tools).length cp0_0), (.slice Ap0_1 (p0.Steps).length cp0_1)]) (k := 1) rfl 0) rfl) ?_
 refine Tr.mv rfl rfl ?_
 refine Tr.mv rfl rfl ?_
 refine Tr.build (vs := [(0, (.int .i64 p0.Unit)), (1, (.slice Ay104_0 (y104.1).length cy104_0)), (2, (.slice Ay106_0 (y106.1).length cy106_0))]) (cs := [(.int .i64 p0.Unit), (.slice Ay104_0 (y104.1).length cy104_0), (.slice Ay106_0 (y106.1).length cy106_0)]) (wn rfl) rfl (evs_cons rfl (evs_cons rfl (evs_cons rfl evs_nil))) (by kernel_rfl) ?_
 refine Tr.store 3 (cs := [(.int .i64 p0.Unit), (.slice Ay104_0 (y104.1).length cy104_0), (.slice Ay106_0 (y106.1).length cy106_0)]) [(.int .i64 p0.Unit), (.slice Ay104_0 (y104.1).length cy104_0), (.slice Ay106_0 (y106.1).length cy106_0)] (wn rfl) rfl rfl rfl rfl sz_25 rfl rfl rfl ?_
 refine Tr.nil (Tr.normThen ?_)
 refine Tr.ret ?_
 obtain rfl := Option.some.inj H
 exact Tr.out (m := [(.agg #[(.int .i64 p0.Unit), (.slice Ay104_0 (y104.1).length cy104_0), (.slice Ay106_0 (y106.1).length cy106_0)])]) [3] (res_cell rfl rfl ag_25 sz_25 res_nil) (fun W hW => ⟨w, ((Ay104_0, cy104_0), (Ay106_0, cy106_0)), leB, rfl, ⟨hgy104_0, hgy106_0⟩, hW.pick (ks := [0, 5, 6]) (by decide) (pk_cons rfl (pk_cons rfl (pk_cons rfl pk_nil)))⟩)

theorem F_plot_scaled_ok (N : Nat) {w : Bs} (p0 : TPlot) (Ap0_0 : Option Addr) (cp0_0 : Nat) (hp0_0 : Sl w.O w.W fl_TPlotTool Ap0_0 cp0_0 p0.Tools) (Ap0_1 : Option Addr) (cp0_1 : Nat) (hp0_1 : Sl w.O w.W fl_TPlotStep Ap0_1 cp0_1 p0.Steps) (p1 : Int) (r : (TPlot × Bool)) (H : F_plot_scaled N p0 p1 = some r) (hE : HF w w.W (LEn [emp, emp])) : Calls Tryd.prog 35 [(.agg #[(.int .i64 p0.Unit), (.slice Ap0_0 (p0.Tools).length cp0_0), (.slice Ap0_1 (p0.Steps).length cp0_1)]), (.int .i64 p1)].toArray w.W fun e W' => ∃ (w' : Bs) (u : (Option Addr × Nat) × (Option Addr × Nat)), w.Le w' ∧ e = .returned (.tuple #[(.agg #[(.int .i64 r.1.Unit), (.slice u.1.1 (r.1.Tools).length u.1.2), (.slice u.2.1 (r.1.Steps).length u.2.2)]), (.bool r.2)]) ∧ (SlF u.1.1 (r.1.Tools).length u.1.2 ∧ SlF u.2.1 (r.1.Steps).length u.2.2) ∧ HF w' W' (LEn [ow u.1.1 u.1.2 55 fl_TPlotTool r.1.Tools, ow u.2.1 u.2.2 84 fl_TPlotStep r.1.Steps]) := by
 unfold F_plot_scaled at H
 have leB := Bs.Le.refl w
 refine Tr.enter (n := 15) Tryd.func35 rfl rfl rfl hE ?_
 refine Tr.sr ?_
 refine Tr.box 1 (cs := [(.int .i64 p0.Unit), (.slice Ap0_0 (p0.Tools).length cp0_0), (.slice Ap0_1 (p0.Steps).length cp0_1)]) (wn rfl) rfl rfl rfl fun b100 => ?_
 refine Tr.box 2 (cs := [(.int .i64 p1)]) (wn rfl) rfl rfl rfl fun b101 => ?_
 refine Tr.alloc 3 (wn rfl) rfl ze_25 fun b102 => ?_
 refine Tr.asg rfl rfl ?_
 refine Tr.nil (Tr.normThen ?_)
 refine Tr.sr ?_
 refine Tr.alloc 4 (wn rfl) rfl ze_4 fun b103 => ?_
 refine Tr.store 4 (cs := [(.bool true)]) [(.bool true)] (wn rfl) rfl rfl rfl rfl sz_4 rfl rfl rfl ?_
 refine Tr.nil (Tr.normThen ?_)
 refine Tr.sr ?_
 refine Tr.va rfl (fun _ _ h1 h2 => run_loadN (cs := [(.int .i64 p0.Unit), (.slice Ap0_0 (p0.Tools).length cp0_0), (.slice Ap0_1 (p0.Steps).length cp0_1)]) ag_25 sz_25 (h1.ev rfl) (CellsAt.take (rdb h2 (vs := [(.int .i64 p0.Unit), (.slice Ap0_0 (p0.Tools).length cp0_0), (.slice Ap0_1 (p0.Steps).length cp0_1)]) (k := 1) rfl 0) 3) rfl) ?_
 refine Tr.mkFunc (vs := [(.pointer (some ⟨b103, 0, none⟩)), (.pointer (some ⟨b100, 0, none⟩)), (.pointer (some ⟨b101, 0, none⟩))]) (wn rfl) rfl (evl_cons rfl (evl_cons rfl (evl_cons rfl evl_nil))) ?_
 obtain ⟨y104, hy104, H⟩ := bnd H
 refine Tr.callG [4, 5, 6] [bx b103 #[(.bool true)] 4, emp, emp] (U := (Option Addr × Nat) × (Option Addr × Nat)) (fun u => (.agg #[(.int .i64 y104.1.Unit), (.slice u.1.1 (y104.1.Tools).length u.1.2), (.slice u.2.1 (y104.1.Steps).length u.2.2)])) (fun O W u => SlF u.1.1 (y104.1.Tools).length u.1.2 ∧ SlF u.2.1 (y104.1.Steps).length u.2.2) (fun u => [bx b103 #[(.bool y104.2)] 4, ow u.1.1 u.1.2 55 fl_TPlotTool y104.1.Tools, ow u.2.1 u.2.2 84 fl_TPlotStep y104.1.Steps]) rfl (pk_cons rfl (pk_cons rfl (pk_cons rfl pk_nil))) (fun _ => rfl) (wn rfl) rfl Tryd.call68 (evl_cons rfl (evl_cons rfl evl_nil)) (fun W hW hp hE => F_plot_changed__scaled_1_ok N p0 Ap0_0 cp0_0 (hp0_0.extO (hW.extS hp)) Ap0_1 cp0_1 (hp0_1.extO (hW.extS hp)) true b103 p0 Ap0_0 cp0_0 (hp0_0.rl.ext (hW.extS hp)) Ap0_1 cp0_1 (hp0_1.rl.ext (hW.extS hp)) b100 (hW.boxS (k := 1) rfl hp rfl) (hW.boxC (k := 1) rfl) p1 b101 (hW.boxS (k := 2) rfl hp rfl) (hW.boxC (k := 2) rfl) y104 hy104 hE) ?_
 intro w u le105 hu
 obtain ⟨⟨Ay104_0, cy104_0⟩, ⟨Ay104_1, cy104_1⟩⟩ := u
 obtain ⟨gy104_0, gy104_1⟩ := hu
 replace hp0_0 := hp0_0.le le105
 replace hp0_1 := hp0_1.le le105
 replace leB := leB.trans le105
 have hgy104_0 : SlF Ay104_0 (y104.1.Tools).length cy104_0 := gy104_0 --@phi
 have hgy104_1 : SlF Ay104_1 (y104.1.Steps).length cy104_1 := gy104_1 --@phi
 show Tr _ _ (uf _ 10 (.agg #[(.int .i64 y104.1.Unit), (.slice Ay104_0 (y104.1.Tools).length cy104_0), (.slice Ay104_1 (y104.1.Steps).length cy104_1)])) (up (up (up _ 6 (ow Ay104_1 cy104_1 84 fl_TPlotStep y104.1.Steps)) 5 (ow Ay104_0 cy104_0 55 fl_TPlotTool y104.1.Tools)) 4 (bx b103 #[(.bool y104.2)] 4)) _
 refine Tr.alloc 7 (wn rfl) rfl ze_25 fun b106 => ?_
 refine Tr.store 7 (cs := [(.int .i64 y104.1.Unit), (.slice Ay104_0 (y104.1.Tools).length cy104_0), (.slice Ay104_1 (y104.1.Steps).length cy104_1)]) [(.int .i64 y104.1.Unit), (.slice Ay104_0 (y104.1.Tools).length cy104_0), (.slice Ay104_1 (y104.1.Steps).length cy104_1)] (wn rfl) rfl rfl rfl rfl sz_25 rfl rfl rfl ?_
 refine Tr.nil (Tr.normThen ?_)
 refine Tr.sr ?_
 refine Tr.va rfl (fun _ _ h1 h2 => run_load1 ag_3 (h1.ev rfl) (rdb h2 (vs := [(.int .i64 p1)]) (k := 2) rfl 0) rfl) ?_
 refine Tr.va rfl (fun _ _ h1 h2 => run_fieldAddr fo_25_0 (h1.ev rfl)) ?_
 refine Tr.store 7 (cs := [(.int .i64 p1)]) [(.int .i64 p1), (.slice Ay104_0 (y104.1.Tools).length cy104_0), (.slice Ay104_1 (y104.1.Steps).length cy104_1)] (wn rfl) rfl rfl rfl rfl sz_3 rfl rfl rfl ?_
 refine Tr.nil (Tr.normThen ?_)
 refine Tr.seq ?_
 refine Tr.drawC 3 [(2, fun x => x = b102)] [] (by kernel_rfl) (by kernel_rfl) fun sz107 hlosz107 hEsz107 => ?_
 refine Dr.quiet 0 [(13, (.agg #[(.int .i64 p1), (.slice Ay104_0 (y104.1.Tools).length cy104_0), (.slice Ay104_1 (y104.1.Steps).length cy104_1)]))] (by kernel_rfl) rfl rfl (by kernel_rfl) ?_ rfl rfl ?_
 ·refine Tq.va rfl (fun _ _ h1 h2 => run_loadN (cs := [(.int .i64 p1), (.slice Ay104_0 (y104.1.Tools).length cy104_0), (.slice Ay104_1 (y104.1.Steps).length cy104_1)]) ag_25 sz_25 (h1.ev rfl) (CellsAt.take (rdb h2 (vs := [(.int .i64 p1), (.slice Ay104_0 (y104.1.Tools).length cy104_0), (.slice Ay104_1 (y104.1.Steps).length cy104_1)]) (k := 7) rfl 0) 3) rfl) ?_
  exact Tq.fin (.cons rfl .nil)
 refine Dr.quietZ 1 [(14, (.bool y104.2))] [2] false (by kernel_rfl) rfl rfl (by kernel_rfl) (fun W W' h2 hsW hk => HF.keepZ (le := [(4, bx b103 #[(.bool y104.2)] 4)]) (ks := [(3, fun x => x = b102)]) (s0 := sz107) false h2 hk (fun h => absurd h (by decide)) (.cons rfl .nil) (fun b hb => hb.elim (fun ⟨p, hp, hf, hb⟩ => by simp only [List.mem_cons, List.not_mem_nil, or_false] at hp; rcases hp with rfl; exact .inl ⟨_, List.mem_cons_self, hb⟩) (fun hb => absurd hb.1 (by decide))) (List.forall_mem_cons.2 ⟨fun b hb => hb, (fun _ h => nomatch h)⟩) rfl) ?_ rfl rfl ?_
 ·refine Tq.va rfl (fun _ _ h1 h2 => run_load1 ag_4 (h1.ev rfl) (rdb h2 (vs := [(.bool y104.2)]) (k := 4) rfl 0) rfl) ?_
  exact Tq.fin (.cons rfl .nil)
 refine Dr.one 2 (by kernel_rfl) ?_
 refine St.store 2 3 (cs := [(.int .i64 p1), (.slice Ay104_0 (y104.1.Tools).length cy104_0), (.slice Ay104_1 (y104.1.Steps).length cy104_1)]) [(.int .i64 p1), (.slice Ay104_0 (y104.1.Tools).length cy104_0), (.slice Ay104_1 (y104.1.Steps).length cy104_1)] rfl (wn rfl) (.inl ⟨_, List.mem_cons_self, rfl, rfl⟩) rfl rfl rfl rfl sz_25 rfl rfl rfl ?_
 refine Dr.tail (by kernel_rfl) ?_
 refine Tr.asg rfl rfl ?_
 refine Tr.nil (Tr.normThen ?_)
 refine Tr.ret ?_
 obtain rfl := Option.some.inj H
 exact Tr.out (m := [(.agg #[(.int .i64 p1), (.slice Ay104_0 (y104.1.Tools).length cy104_0), (.slice Ay104_1 (y104.1.Steps).length cy104_1)]), (.bool y104.2)]) [3] (res_cell rfl rfl ag_25 sz_25 (res_tmp rfl res_nil)) (fun W hW => ⟨w, ((Ay104_0, cy104_0), (Ay104_1, cy104_1)), leB, rfl, ⟨hgy104_0, hgy104_1⟩, hW.pick (ks := [5, 6]) (by decide) (pk_cons rfl (pk_cons rfl pk_nil))⟩)

theorem F_plot_told_ok (N : Nat) {w : Bs} (p0 : TPlot) (Ap0_0 : Option Addr) (cp0_0 : Nat) (hp0_0 : Sl w.O w.W fl_TPlotTool Ap0_0 cp0_0 p0.Tools) (Ap0_1 : Option Addr) (cp0_1 : Nat) (hp0_1 : Sl w.O w.W fl_TPlotStep Ap0_1 cp0_1 p0.Steps) (r : (TPlot × Int)) (H : F_plot_told N p0 = some r) (hE : HF w w.W (LEn [])) : Calls Tryd.prog 36 [(.agg #[(.int .i64 p0.Unit), (.slice Ap0_0 (p0.Tools).length cp0_0), (.slice Ap0_1 (p0.Steps).length cp0_1)])].toArray w.W fun e W' => ∃ (w' : Bs) (u : (Option Addr × Nat) × (Option Addr × Nat)), w.Le w' ∧ e = .returned (.tuple #[(.agg #[(.int .i64 r.1.Unit), (.slice u.1.1 (r.1.Tools).length u.1.2), (.slice u.2.1 (r.1.Steps).length u.2.2)]), (.int .i64 r.2)]) ∧ (Sl w'.O w'.W fl_TPlotTool u.1.1 u.1.2 r.1.Tools ∧ Sl w'.O w'.W fl_TPlotStep u.2.1 u.2.2 r.1.Steps) ∧ HF w' W' (LEn []) := by
 unfold F_plot_told at H
 have leB := Bs.Le.refl w
 refine Tr.enter (n := 12) Tryd.func36 rfl rfl rfl hE ?_
 refine Tr.sr ?_
 refine Tr.box 1 (cs := [(.int .i64 p0.Unit), (.slice Ap0_0 (p0.Tools).length cp0_0), (.slice Ap0_1 (p0.Steps).length cp0_1)]) (wn rfl) rfl rfl rfl fun b100 => ?_
 refine Tr.alloc 2 (wn rfl) rfl ze_25 fun b101 => ?_
 refine Tr.asg rfl rfl ?_
 refine Tr.nil (Tr.normThen ?_)
 refine Tr.seq ?_
 refine Tr.sr ?_
 refine Tr.va rfl (fun _ _ h1 h2 => run_loadN (cs := [(.int .i64 p0.Unit), (.slice Ap0_0 (p0.Tools).length cp0_0), (.slice Ap0_1 (p0.Steps).length cp0_1)]) ag_25 sz_25 (h1.ev rfl) (CellsAt.take (rdb h2 (vs := [(.int .i64 p0.Unit), (.slice Ap0_0 (p0.Tools).length cp0_0), (.slice Ap0_1 (p0.Steps).length cp0_1)]) (k := 1) rfl 0) 3) rfl) ?_
 obtain ⟨y102, hy102, H⟩ := bnd H
 refine Tr.call0 (r := (.int .i64 y102)) (wn rfl) rfl Tryd.call8 (evl_cons rfl evl_nil) (fun W hW => F_plot_CheckPlot_ok N p0 Ap0_0 cp0_0 (hp0_0.rl.ext hW.extAll) Ap0_1 cp0_1 (hp0_1.rl.ext hW.extAll) y102 hy102 (HF.start _)) ?_
 refine Tr.asg rfl rfl ?_
 refine Tr.nil (Tr.normThen ?_)
 refine Tr.sr ?_
 refine Tr.mv rfl rfl ?_
 refine Tr.va rfl (fun _ _ h1 h2 => run_neq (h1.ev rfl) (h1.ev rfl)) ?_
 refine Tr.nil (Tr.normThen ?_)
 refine Tr.cond rfl H (fun H => ?_) (fun H => ?_)
 ·refine Tr.sr ?_
  refine Tr.build (vs := []) (cs := [(.int .i64 0), (.slice none 0 0), (.slice none 0 0)]) (wn rfl) rfl evs_nil (by kernel_rfl) ?_
  refine Tr.mv rfl rfl ?_
  refine Tr.store 2 (cs := [(.int .i64 0), (.slice none 0 0), (.slice none 0 0)]) [(.int .i64 0), (.slice none 0 0), (.slice none 0 0)] (wn rfl) rfl rfl rfl rfl sz_25 rfl rfl rfl ?_
  refine Tr.asg rfl rfl ?_
  refine Tr.nil (Tr.normThen ?_)
  refine Tr.ret (Tr.retThen ?_)
  obtain rfl := Option.some.inj H
  exact Tr.out (m := [(.agg #[(.int .i64 0), (.slice none 0 0), (.slice none 0 0)]), (.int .i64 y102)]) [2] (res_cell rfl rfl ag_25 sz_25 (res_tmp rfl res_nil)) (fun W hW => ⟨w, ((none, 0), (none, 0)), leB, rfl, ⟨(Sl.nil _ _ _), (Sl.nil _ _ _)⟩, hW.pick (ks := []) (by decide) pk_nil⟩)
 ·refine Tr.skip (Tr.normThen ?_)
  refine Tr.sr ?_
  refine Tr.va rfl (fun _ _ h1 h2 => run_loadN (cs := [(.int .i64 p0.Unit), (.slice Ap0_0 (p0.Tools).length cp0_0), (.slice Ap0_1 (p0.Steps).length cp0_1)]) ag_25 sz_25 (h1.ev rfl) (CellsAt.take (rdb h2 (vs := [(.int .i64 p0.Unit), (.slice Ap0_0 (p0.Tools).length cp0_0), (.slice Ap0_1 (p0.Steps).length cp0_1)]) (k := 1) rfl 0) 3) rfl) ?_
  refine Tr.store 2 (cs := [(.int .i64 p0.Unit), (.slice Ap0_0 (p0.Tools).length cp0_0), (.slice Ap0_1 (p0.Steps).length cp0_1)]) [(.int .i64 p0.Unit), (.slice Ap0_0 (p0.Tools).length cp0_0), (.slice Ap0_1 (p0.Steps).length cp0_1)] (wn rfl) rfl rfl rfl rfl sz_25 rfl rfl rfl ?_
  refine Tr.asg rfl rfl ?_
  refine Tr.nil (Tr.normThen ?_)
  refine Tr.ret ?_
  obtain rfl := Option.some.inj H
  exact Tr.out (m := [(.agg #[(.int .i64 p0.Unit), (.slice Ap0_0 (p0.Tools).length cp0_0), (.slice Ap0_1 (p0.Steps).length cp0_1)]), (.int .i64 0)]) [2] (res_cell rfl rfl ag_25 sz_25 (res_tmp rfl res_nil)) (fun W hW => ⟨w, ((Ap0_0, cp0_0), (Ap0_1, cp0_1)), leB, rfl, ⟨hp0_0, hp0_1⟩, hW.pick (ks := []) (by decide) pk_nil⟩)

theorem F_plot_Scaled_ok (N : Nat) {w : Bs} (p0 : TPlot) (Ap0_0 : Option Addr) (cp0_0 : Nat) (hp0_0 : Sl w.O w.W fl_TPlotTool Ap0_0 cp0_0 p0.Tools) (Ap0_1 : Option Addr) (cp0_1 : Nat) (hp0_1 : Sl w.O w.W fl_TPlotStep Ap0_1 cp0_1 p0.Steps) (p1 : Int) (r : (TPlot × Bool × Int)) (H : F_plot_Scaled N p0 p1 = some r) (hE : HF w w.W (LEn [])) : Calls Tryd.prog 11 [(.agg #[(.int .i64 p0.Unit), (.slice Ap0_0 (p0.Tools).length cp0_0), (.slice Ap0_1 (p0.Steps).length cp0_1)]), (.int .i64 p1)].toArray w.W fun e W' => ∃ (w' : Bs) (u : (Option Addr × Nat) × (Option Addr × Nat)), w.Le w' ∧ e = .returned (.tuple #[(.agg #[(.int .i64 r.1.Unit), (.slice u.1.1 (r.1.Tools).length u.1.2), (.slice u.2.1 (r.1.Steps).length u.2.2)]), (.bool r.2.1), (.int .i64 r.2.2)]) ∧ (Sl w'.O w'.W fl_TPlotTool u.1.1 u.1.2 r.1.Tools ∧ Sl w'.O w'.W fl_TPlotStep u.2.1 u.2.2 r.1.Steps) ∧ HF w' W' (LEn []) := by
 unfold F_plot_Scaled at H
 have leB := Bs.Le.refl w
 refine Tr.enter (n := 39) Tryd.func11 rfl rfl rfl hE ?_
 refine Tr.sr ?_
 refine Tr.box 1 (cs := [(.int .i64 p0.Unit), (.slice Ap0_0 (p0.Tools).length cp0_0), (.slice Ap0_1 (p0.Steps).length cp0_1)]) (wn rfl) rfl rfl rfl fun b100 => ?_
 refine Tr.alloc 2 (wn rfl) rfl ze_25 fun b101 => ?_
 refine Tr.asg rfl rfl ?_
 refine Tr.asg rfl rfl ?_
 refine Tr.nil (Tr.normThen ?_)
 refine Tr.seq ?_
 refine Tr.sr ?_
 refine Tr.va rfl (fun _ _ h1 h2 => run_loadN (cs := [(.int .i64 p0.Unit), (.slice Ap0_0 (p0.Tools).length cp0_0), (.slice Ap0_1 (p0.Steps).length cp0_1)]) ag_25 sz_25 (h1.ev rfl) (CellsAt.take (rdb h2 (vs := [(.int .i64 p0.Unit), (.slice Ap0_0 (p0.Tools).length cp0_0), (.slice Ap0_1 (p0.Steps).length cp0_1)]) (k := 1) rfl 0) 3) rfl) ?_
 obtain ⟨y102, hy102, H⟩ := bnd H
 refine Tr.call0 (r := (.int .i64 y102)) (wn rfl) rfl Tryd.call8 (evl_cons rfl evl_nil) (fun W hW => F_plot_CheckPlot_ok N p0 Ap0_0 cp0_0 (hp0_0.rl.ext hW.extAll) Ap0_1 cp0_1 (hp0_1.rl.ext hW.extAll) y102 hy102 (HF.start _)) ?_
 refine Tr.asg rfl rfl ?_
 refine Tr.nil (Tr.normThen ?_)
 refine Tr.sr ?_
 refine Tr.mv rfl rfl ?_
 refine Tr.va rfl (fun _ _ h1 h2 => run_neq (h1.ev rfl) (h1.ev rfl)) ?_
 refine Tr.nil (Tr.normThen ?_)
 refine Tr.cond rfl H (fun H => ?_) (fun H => ?_)
 ·refine Tr.sr ?_
  refine Tr.build (vs := []) (cs := [(.int .i64 0), (.slice none 0 0), (.slice none 0 0)]) (wn rfl) rfl evs_nil (by kernel_rfl) ?_
  refine Tr.mv rfl rfl ?_
  refine Tr.store 2 (cs := [(.int .i64 0), (.slice none 0 0), (.slice none 0 0)]) [(.int .i64 0), (.slice none 0 0), (.slice none 0 0)] (wn rfl) rfl rfl rfl rfl sz_25 rfl rfl rfl ?_
  refine Tr.asg rfl rfl ?_
  refine Tr.asg rfl rfl ?_
  refine Tr.nil (Tr.normThen ?_)
  refine Tr.ret (Tr.retThen ?_)
  obtain rfl := Option.some.inj H
  exact Tr.out (m := [(.agg #[(.int .i64 0), (.slice none 0 0), (.slice none 0 0)]), (.bool false), (.int .i64 y102)]) [2] (res_cell rfl rfl ag_25 sz_25 (res_tmp rfl (res_tmp rfl res_nil))) (fun W hW => ⟨w, ((none, 0), (none, 0)), leB, rfl, ⟨(Sl.nil _ _ _), (Sl.nil _ _ _)⟩, hW.pick (ks := []) (by decide) pk_nil⟩)
 ·refine Tr.skip (Tr.normThen ?_)
  refine Tr.seq ?_
  refine Tr.sr ?_
  refine Tr.mv rfl rfl ?_
  obtain ⟨y103, hy103, H⟩ := bnd H
  refine Tr.call0 (r := (.bool y103)) (wn rfl) rfl Tryd.call26 (evl_cons rfl (evl_cons rfl (evl_cons rfl evl_nil))) (fun W hW => F_plot_within_ok p1 1 1000 y103 hy103 (HF.start _)) ?_
  refine Tr.va rfl (fun _ _ h1 h2 => run_not (h1.ev rfl)) ?_
  refine Tr.nil (Tr.normThen ?_)
  refine Tr.cond rfl H (fun H => ?_) (fun H => ?_)
  ·refine Tr.sr ?_
   refine Tr.build (vs := []) (cs := [(.int .i64 0), (.slice none 0 0), (.slice none 0 0)]) (wn rfl) rfl evs_nil (by kernel_rfl) ?_
   refine Tr.store 2 (cs := [(.int .i64 0), (.slice none 0 0), (.slice none 0 0)]) [(.int .i64 0), (.slice none 0 0), (.slice none 0 0)] (wn rfl) rfl rfl rfl rfl sz_25 rfl rfl rfl ?_
   refine Tr.asg rfl rfl ?_
   refine Tr.asg rfl rfl ?_
   refine Tr.nil (Tr.normThen ?_)
   refine Tr.ret (Tr.retThen ?_)
   obtain rfl := Option.some.inj H
   exact Tr.out (m := [(.agg #[(.int .i64 0), (.slice none 0 0), (.slice none 0 0)]), (.bool false), (.int .i64 1)]) [2] (res_cell rfl rfl ag_25 sz_25 (res_tmp rfl (res_tmp rfl res_nil))) (fun W hW => ⟨w, ((none, 0), (none, 0)), leB, rfl, ⟨(Sl.nil _ _ _), (Sl.nil _ _ _)⟩, hW.pick (ks := []) (by decide) pk_nil⟩)
  ·refine Tr.skip (Tr.normThen ?_)
   refine Tr.sr ?_
   refine Tr.va rfl (fun _ _ h1 h2 => run_loadN (cs := [(.int .i64 p0.Unit), (.slice Ap0_0 (p0.Tools).length cp0_0), (.slice Ap0_1 (p0.Steps).length cp0_1)]) ag_25 sz_25 (h1.ev rfl) (CellsAt.take (rdb h2 (vs := [(.int .i64 p0.Unit), (.slice Ap0_0 (p0.Tools).length cp0_0), (.slice Ap0_1 (p0.Steps).length cp0_1)]) (k := 1) rfl 0) 3) rfl) ?_
   refine Tr.mv rfl rfl ?_
   obtain ⟨y104, hy104, H⟩ := bnd H
   refine Tr.callG [3, 4] [emp, emp] (U := (Option Addr × Nat) × (Option Addr × Nat)) (fun u => (.tuple #[(.agg #[(.int .i64 y104.1.Unit), (.slice u.1.1 (y104.1.Tools).length u.1.2), (.slice u.2.1 (y104.1.Steps).length u.2.2)]), (.bool y104.2)])) (fun O W u => SlF u.1.1 (y104.1.Tools).length u.1.2 ∧ SlF u.2.1 (y104.1.Steps).length u.2.2) (fun u => [ow u.1.1 u.1.2 55 fl_TPlotTool y104.1.Tools, ow u.2.1 u.2.2 84 fl_TPlotStep y104.1.Steps]) rfl (pk_cons rfl (pk_cons rfl pk_nil)) (fun _ => rfl) (wn rfl) rfl Tryd.call35 (evl_cons rfl (evl_cons rfl evl_nil)) (fun W hW hp hE => F_plot_scaled_ok N p0 Ap0_0 cp0_0 (hp0_0.extO (hW.extS hp)) Ap0_1 cp0_1 (hp0_1.extO (hW.extS hp)) p1 y104 hy104 hE) ?_
   intro w u le105 hu
   obtain ⟨⟨Ay104_0, cy104_0⟩, ⟨Ay104_1, cy104_1⟩⟩ := u
   obtain ⟨gy104_0, gy104_1⟩ := hu
   replace hp0_0 := hp0_0.le le105
   replace hp0_1 := hp0_1.le le105
   replace leB := leB.trans le105
   have hgy104_0 : SlF Ay104_0 (y104.1.Tools).length cy104_0 := gy104_0 --@phi
   have hgy104_1 : SlF Ay104_1 (y104.1.Steps).length cy104_1 := gy104_1 --@phi
   show Tr _ _ (uf _ 24 (.tuple #[(.agg #[(.int .i64 y104.1.Unit), (.slice Ay104_0 (y104.1.Tools).length cy104_0), (.slice Ay104_1 (y104.1.Steps).length cy104_1)]), (.bool y104.2)])) (up (up _ 4 (ow Ay104_1 cy104_1 84 fl_TPlotStep y104.1.Steps)) 3 (ow Ay104_0 cy104_0 55 fl_TPlotTool y104.1.Tools)) _
   refine Tr.mv rfl rfl ?_
   refine Tr.va rfl (fun _ _ h1 h2 => run_extract (h1.ev rfl) rfl) ?_
   refine Tr.va rfl (fun _ _ h1 h2 => run_extract (h1.ev rfl) rfl) ?_
   refine Tr.alloc 5 (wn rfl) rfl ze_25 fun b106 => ?_
   refine Tr.store 5 (cs := [(.int .i64 y104.1.Unit), (.slice Ay104_0 (y104.1.Tools).length cy104_0), (.slice Ay104_1 (y104.1.Steps).length cy104_1)]) [(.int .i64 y104.1.Unit), (.slice Ay104_0 (y104.1.Tools).length cy104_0), (.slice Ay104_1 (y104.1.Steps).length cy104_1)] (wn rfl) rfl rfl rfl rfl sz_25 rfl rfl rfl ?_
   refine Tr.asg rfl rfl ?_
   refine Tr.nil (Tr.normThen ?_)
   refine Tr.seq ?_
   refine Tr.sr ?_
   refine Tr.mv rfl rfl ?_
   refine Tr.va rfl (fun _ _ h1 h2 => run_not (h1.ev rfl)) ?_
   refine Tr.nil (Tr.normThen ?_)
   refine Tr.cond rfl H (fun H => ?_) (fun H => ?_)
   ·refine Tr.sr ?_
    refine Tr.build (vs := []) (cs := [(.int .i64 0), (.slice none 0 0), (.slice none 0 0)]) (wn rfl) rfl evs_nil (by kernel_rfl) ?_
    refine Tr.store 2 (cs := [(.int .i64 0), (.slice none 0 0), (.slice none 0 0)]) [(.int .i64 0), (.slice none 0 0), (.slice none 0 0)] (wn rfl) rfl rfl rfl rfl sz_25 rfl rfl rfl ?_
    refine Tr.asg rfl rfl ?_
    refine Tr.asg rfl rfl ?_
    refine Tr.nil (Tr.normThen ?_)
    refine Tr.ret (Tr.retThen ?_)
    obtain rfl := Option.some.inj H
    exact Tr.out (m := [(.agg #[(.int .i64 0), (.slice none 0 0), (.slice none 0 0)]), (.bool false), (.int .i64 0)]) [2] (res_cell rfl rfl ag_25 sz_25 (res_tmp rfl (res_tmp rfl res_nil))) (fun W hW => ⟨w, ((none, 0), (none, 0)), leB, rfl, ⟨(Sl.nil _ _ _), (Sl.nil _ _ _)⟩, hW.pick (ks := []) (by decide) pk_nil⟩)
   ·refine Tr.skip (Tr.normThen ?_)
    refine Tr.sr ?_
    refine Tr.va rfl (fun _ _ h1 h2 => run_loadN (cs := [(.int .i64 y104.1.Unit), (.slice Ay104_0 (y104.1.Tools).length cy104_0), (.slice Ay104_1 (y104.1.Steps).length cy104_1)]) ag_25 sz_25 (h1.ev rfl) (CellsAt.take (rdb h2 (vs := [(.int .i64 y104.1.Unit), (.slice Ay104_0 (y104.1.Tools).length cy104_0), (.slice Ay104_1 (y104.1.Steps).length cy104_1)]) (k := 5) rfl 0) 3) rfl) ?_
    refine Tr.freeze 3 rfl fun w le108 hz107 => ?_
    replace hp0_0 := hp0_0.le le108
    replace hp0_1 := hp0_1.le le108
    replace leB := leB.trans le108
    refine Tr.freeze 4 rfl fun w le110 hz109 => ?_
    replace hp0_0 := hp0_0.le le110
    replace hp0_1 := hp0_1.le le110
    replace hz107 := hz107.le le110
    replace leB := leB.trans le110
    obtain ⟨y111, hy111, H⟩ := bnd H
    refine Tr.callG [] [] (U := (Option Addr × Nat) × (Option Addr × Nat)) (fun u => (.tuple #[(.agg #[(.int .i64 y111.1.Unit), (.slice u.1.1 (y111.1.Tools).length u.1.2), (.slice u.2.1 (y111.1.Steps).length u.2.2)]), (.int .i64 y111.2)])) (fun O W u => Sl O W fl_TPlotTool u.1.1 u.1.2 y111.1.Tools ∧ Sl O W fl_TPlotStep u.2.1 u.2.2 y111.1.Steps) (fun u => []) rfl pk_nil (fun _ => rfl) (wn rfl) rfl Tryd.call36 (evl_cons rfl evl_nil) (fun W hW hp hE => F_plot_told_ok N y104.1 Ay104_0 cy104_0 (hz107.extO (hW.extS hp)) Ay104_1 cy104_1 (hz109.extO (hW.extS hp)) y111 hy111 hE) ?_
    intro w u le112 hu
    obtain ⟨⟨Ay111_0, cy111_0⟩, ⟨Ay111_1, cy111_1⟩⟩ := u
    obtain ⟨gy111_0, gy111_1⟩ := hu
    replace hp0_0 := hp0_0.le le112
    replace hp0_1 := hp0_1.le le112
    replace hz107 := hz107.le le112
    replace hz109 := hz109.le le112
    replace leB := leB.trans le112
    have hgy111_0 : Sl w.O w.W fl_TPlotTool Ay111_0 cy111_0 y111.1.Tools := gy111_0 --@phi
    have hgy111_1 : Sl w.O w.W fl_TPlotStep Ay111_1 cy111_1 y111.1.Steps := gy111_1 --@phi
    show Tr _ _ (uf _ 32 (.tuple #[(.agg #[(.int .i64 y111.1.Unit), (.slice Ay111_0 (y111.1.Tools).length cy111_0), (.slice Ay111_1 (y111.1.Steps).length cy111_1)]), (.int .i64 y111.2)])) (_) _
    refine Tr.mv rfl rfl ?_
    refine Tr.va rfl (fun _ _ h1 h2 => run_extract (h1.ev rfl) rfl) ?_
    refine Tr.va rfl (fun _ _ h1 h2 => run_extract (h1.ev rfl) rfl) ?_
    refine Tr.store 5 (cs := [(.int .i64 y111.1.Unit), (.slice Ay111_0 (y111.1.Tools).length cy111_0), (.slice Ay111_1 (y111.1.Steps).length cy111_1)]) [(.int .i64 y111.1.Unit), (.slice Ay111_0 (y111.1.Tools).length cy111_0), (.slice Ay111_1 (y111.1.Steps).length cy111_1)] (wn rfl) rfl rfl rfl rfl sz_25 rfl rfl rfl ?_
    refine Tr.asg rfl rfl ?_
    refine Tr.nil (Tr.normThen ?_)
    refine Tr.sr ?_
    refine Tr.va rfl (fun _ _ h1 h2 => run_loadN (cs := [(.int .i64 y111.1.Unit), (.slice Ay111_0 (y111.1.Tools).length cy111_0), (.slice Ay111_1 (y111.1.Steps).length cy111_1)]) ag_25 sz_25 (h1.ev rfl) (CellsAt.take (rdb h2 (vs := [(.int .i64 y111.1.Unit), (.slice Ay111_0 (y111.1.Tools).length cy111_0), (.slice Ay111_1 (y111.1.Steps).length cy111_1)]) (k := 5) rfl 0) 3) rfl) ?_
    refine Tr.mv rfl rfl ?_
    refine Tr.va rfl (fun _ _ h1 h2 => run_eql (h1.ev rfl) (h1.ev rfl)) ?_
    refine Tr.mv rfl rfl ?_
    refine Tr.store 2 (cs := [(.int .i64 y111.1.Unit), (.slice Ay111_0 (y111.1.Tools).length cy111_0), (.slice Ay111_1 (y111.1.Steps).length cy111_1)]) [(.int .i64 y111.1.Unit), (.slice Ay111_0 (y111.1.Tools).length cy111_0), (.slice Ay111_1 (y111.1.Steps).length cy111_1)] (wn rfl) rfl rfl rfl rfl sz_25 rfl rfl rfl ?_
    refine Tr.asg rfl rfl ?_
    refine Tr.asg rfl rfl ?_
    refine Tr.nil (Tr.normThen ?_)
    refine Tr.ret ?_
    obtain rfl := Option.some.inj H
    exact Tr.out (m := [(.agg #[(.int .i64 y111.1.Unit), (.slice Ay111_0 (y111.1.Tools).length cy111_0), (.slice Ay111_1 (y111.1.Steps).length cy111_1)]), (.bool (y111.2 == 0)), (.int .i64 y111.2)]) [2] (res_cell rfl rfl ag_25 sz_25 (res_tmp rfl (res_tmp rfl res_nil))) (fun W hW => ⟨w, ((Ay111_0, cy111_0), (Ay111_1, cy111_1)), leB, rfl, ⟨hgy111_0, hgy111_1⟩, hW.pick (ks := []) (by decide) pk_nil⟩)

theorem F_etchhouseref3_within_ok {w : Bs} (p0 : Int) (p1 : Int) (p2 : Int) (r : Bool) (H : F_etchhouseref3_within p0 p1 p2 = some r) (hE : HF w w.W E0) : Calls Tryd.prog 30 [(.int .i64 p0), (.int .i64 p1), (.int .i64 p2)].toArray w.W fun e W' => e = .returned (.bool r) ∧ HF w W' E0 := by
 unfold F_etchhouseref3_within at H
 have leB := Bs.Le.refl w
 refine Tr.enter (n := 15) Tryd.func30 rfl rfl rfl hE ?_
 refine Tr.sr ?_
 refine Tr.asg rfl rfl ?_
 refine Tr.nil (Tr.normThen ?_)
 refine Tr.sr ?_
 refine Tr.mv rfl rfl ?_
 refine Tr.mv rfl rfl ?_
 refine Tr.va rfl (fun _ _ h1 h2 => run_geq (h1.ev rfl) (h1.ev rfl)) ?_
 refine Tr.mv rfl rfl ?_
 refine Tr.mid0 4 [(14, (.bool ((decide (p1 ≤ p0)) && (decide (p0 ≤ p2)))))] [] ?_ ?_
 ·cases hg99 : (decide (p1 ≤ p0))
  ·refine Tr.pass rfl rfl rfl rfl rfl (by decide) ?_
   refine Tr.pass rfl rfl rfl rfl rfl (by decide) ?_
   refine Tr.pass rfl rfl rfl rfl rfl (by decide) ?_
   refine Tr.va rfl (fun _ _ h1 h2 => run_pickF (h1.ev rfl) (h1.ev rfl)) ?_
   exact Tr.nil (Tr.fin0 (.cons rfl .nil) .nil)
  ·refine Tr.val (wg rfl rfl rfl) rfl (fun _ _ h1 h2 => run_move (h1.ev rfl)) ?_
   refine Tr.val (wg rfl rfl rfl) rfl (fun _ _ h1 h2 => run_move (h1.ev rfl)) ?_
   refine Tr.val (wg rfl rfl rfl) rfl (fun _ _ h1 h2 => run_leq (h1.ev rfl) (h1.ev rfl)) ?_
   refine Tr.va rfl (fun _ _ h1 h2 => run_pickT (h1.ev rfl) (h1.ev rfl)) ?_
   exact Tr.nil (Tr.fin0 (.cons rfl .nil) .nil)
 ·show Tr _ _ (LF [(14, (.bool ((decide (p1 ≤ p0)) && (decide (p0 ≤ p2)))))]) (LE []) _
  refine Tr.asg rfl rfl ?_
  refine Tr.nil (Tr.normThen ?_)
  refine Tr.ret ?_
  obtain rfl := Option.some.inj H
  exact Tr.out (m := [(.bool ((decide (p1 ≤ p0)) && (decide (p0 ≤ p2))))]) [] (res_tmp rfl res_nil) (fun W hW => ⟨rfl, hW.low leB⟩)

theorem F_etchhouseref3_IsName_ok (N : Nat) {w : Bs} (p0 : ByteArray) (r : Bool) (H : F_etchhouseref3_IsName N p0 = some r) (hE : HF w w.W E0) : Calls Tryd.prog 31 [(.string p0)].toArray w.W fun e W' => e = .returned (.bool r) ∧ HF w W' E0 := by
 unfold F_etchhouseref3_IsName at H
 have leB := Bs.Le.refl w
 refine Tr.enter (n := 55) Tryd.func31 rfl rfl rfl hE ?_
 refine Tr.sr ?_
 refine Tr.asg rfl rfl ?_
 refine Tr.nil (Tr.normThen ?_)
 refine Tr.seq ?_
 refine Tr.sr ?_
 refine Tr.asg rfl rfl ?_
 refine Tr.nil (Tr.normThen ?_)
 refine Tr.block ?_
 refine Tr.loop (σ := Int) (fun m w s => F_etchhouseref3_IsName_L1 p0 m s = some r) (fun s => [(0, (.string p0)), (3, (.int .i64 s))]) (fun s => []) N 0 H (.cons rfl (.cons rfl .nil)) .nil (fun _ _ h => noSome (h)) ?_
 intro w leF_etchhouseref3_IsName_L1 mF_etchhouseref3_IsName_L1 x105 hs
 have H := hs
 replace H : F_etchhouseref3_IsName_L1 p0 (mF_etchhouseref3_IsName_L1 + 1) x105 = some r := H
 replace leB := leB.trans leF_etchhouseref3_IsName_L1
 rw [F_etchhouseref3_IsName_L1.eq_2] at H
 show Tr _ _ (LF [(0, (.string p0)), (3, (.int .i64 x105))]) (LE []) _
 refine Tr.seq ?_
 refine Tr.sr ?_
 refine Tr.mv rfl rfl ?_
 refine Tr.mv rfl rfl ?_
 refine Tr.va rfl (fun _ _ h1 h2 => run_lenS un_9 (h1.ev rfl)) ?_
 refine Tr.va rfl (fun _ _ h1 h2 => run_lss (h1.ev rfl) (h1.ev rfl)) ?_
 refine Tr.nil (Tr.normThen ?_)
 refine Tr.cond rfl H (fun H => ?_) (fun H => ?_)
 ·refine Tr.skip (Tr.normThen ?_)
  refine Tr.seq ?_
  refine Tr.block ?_
  refine Tr.sr ?_
  refine Tr.mv rfl rfl ?_
  refine Tr.mv rfl rfl ?_
  obtain ⟨c106, hc106, H⟩ := bnd H
  refine Tr.va rfl (fun _ _ h1 h2 => run_indexS un_9 (h1.ev rfl) (h1.ev rfl) hc106) ?_
  refine Tr.asg rfl rfl ?_
  refine Tr.nil (Tr.normThen ?_)
  refine Tr.sr ?_
  refine Tr.mv rfl rfl ?_
  refine Tr.va rfl (fun _ _ h1 h2 => run_geq (h1.ev rfl) (h1.ev rfl)) ?_
  refine Tr.mv rfl rfl ?_
  refine Tr.mid0 3 [(0, (.string p0)), (3, (.int .i64 x105)), (4, (.int .u8 c106)), (20, (.bool ((decide (97 ≤ c106)) && (decide (c106 ≤ 122)))))] [] ?_ ?_
  ·cases hg106 : (decide (97 ≤ c106))
   ·refine Tr.pass rfl rfl rfl rfl rfl (by decide) ?_
    refine Tr.pass rfl rfl rfl rfl rfl (by decide) ?_
    refine Tr.va rfl (fun _ _ h1 h2 => run_pickF (h1.ev rfl) (h1.ev rfl)) ?_
    exact Tr.nil (Tr.fin0 (.cons rfl (.cons rfl (.cons rfl (.cons rfl .nil)))) .nil)
   ·refine Tr.val (wg rfl rfl rfl) rfl (fun _ _ h1 h2 => run_move (h1.ev rfl)) ?_
    refine Tr.val (wg rfl rfl rfl) rfl (fun _ _ h1 h2 => run_leq (h1.ev rfl) (h1.ev rfl)) ?_
    refine Tr.va rfl (fun _ _ h1 h2 => run_pickT (h1.ev rfl) (h1.ev rfl)) ?_
    exact Tr.nil (Tr.fin0 (.cons rfl (.cons rfl (.cons rfl (.cons rfl .nil)))) .nil)
  ·show Tr _ _ (LF [(0, (.string p0)), (3, (.int .i64 x105)), (4, (.int .u8 c106)), (20, (.bool ((decide (97 ≤ c106)) && (decide (c106 ≤ 122)))))]) (LE []) _
   refine Tr.mv rfl rfl ?_
   refine Tr.mid0 7 [(0, (.string p0)), (3, (.int .i64 x105)), (4, (.int .u8 c106)), (28, (.bool (((decide (97 ≤ c106)) && (decide (c106 ≤ 122))) || ((decide (65 ≤ c106)) && (decide (c106 ≤ 90))))))] [] ?_ ?_
   ·cases hg106 : ((decide (97 ≤ c106)) && (decide (c106 ≤ 122)))
    ·refine Tr.val (wg rfl rfl rfl) rfl (fun _ _ h1 h2 => run_move (h1.ev rfl)) ?_
     refine Tr.val (wg rfl rfl rfl) rfl (fun _ _ h1 h2 => run_geq (h1.ev rfl) (h1.ev rfl)) ?_
     refine Tr.val (wg rfl rfl rfl) rfl (fun _ _ h1 h2 => run_move (h1.ev rfl)) ?_
     refine Tr.mid0 3 [(0, (.string p0)), (3, (.int .i64 x105)), (4, (.int .u8 c106)), (21, (.bool false)), (27, (.bool ((decide (65 ≤ c106)) && (decide (c106 ≤ 90)))))] [] ?_ ?_
     ·cases hg106 : (decide (65 ≤ c106))
      ·refine Tr.pass rfl rfl rfl rfl rfl (by decide) ?_
       refine Tr.pass rfl rfl rfl rfl rfl (by decide) ?_
       refine Tr.val (wg rfl rfl rfl) rfl (fun _ _ h1 h2 => run_pickF (h1.ev rfl) (h1.ev rfl)) ?_
       exact Tr.nil (Tr.fin0 (.cons rfl (.cons rfl (.cons rfl (.cons rfl (.cons rfl .nil))))) .nil)
      ·refine Tr.val (wg rfl rfl rfl) rfl (fun _ _ h1 h2 => run_move (h1.ev rfl)) ?_
       refine Tr.val (wg rfl rfl rfl) rfl (fun _ _ h1 h2 => run_leq (h1.ev rfl) (h1.ev rfl)) ?_
       refine Tr.val (wg rfl rfl rfl) rfl (fun _ _ h1 h2 => run_pickT (h1.ev rfl) (h1.ev rfl)) ?_
       exact Tr.nil (Tr.fin0 (.cons rfl (.cons rfl (.cons rfl (.cons rfl (.cons rfl .nil))))) .nil)
     ·show Tr _ _ (LF [(0, (.string p0)), (3, (.int .i64 x105)), (4, (.int .u8 c106)), (21, (.bool false)), (27, (.bool ((decide (65 ≤ c106)) && (decide (c106 ≤ 90)))))]) (LE []) _
      refine Tr.va rfl (fun _ _ h1 h2 => run_pickF (h1.ev rfl) (h1.ev rfl)) ?_
      exact Tr.nil (Tr.fin0 (.cons rfl (.cons rfl (.cons rfl (.cons rfl .nil)))) .nil)
    ·refine Tr.pass rfl rfl rfl rfl rfl (by decide) ?_
     refine Tr.pass rfl rfl rfl rfl rfl (by decide) ?_
     refine Tr.pass rfl rfl rfl rfl rfl (by decide) ?_
     refine Tr.passU rfl rfl rfl rfl (by decide) ?_
     refine Tr.passU rfl rfl rfl rfl (by decide) ?_
     refine Tr.pass rfl rfl rfl rfl rfl (by decide) ?_
     refine Tr.va rfl (fun _ _ h1 h2 => run_pickT (h1.ev rfl) (h1.ev rfl)) ?_
     exact Tr.nil (Tr.fin0 (.cons rfl (.cons rfl (.cons rfl (.cons rfl .nil)))) .nil)
   ·show Tr _ _ (LF [(0, (.string p0)), (3, (.int .i64 x105)), (4, (.int .u8 c106)), (28, (.bool (((decide (97 ≤ c106)) && (decide (c106 ≤ 122))) || ((decide (65 ≤ c106)) && (decide (c106 ≤ 90))))))]) (LE []) _
    refine Tr.asg rfl rfl ?_
    refine Tr.nil (Tr.normThen ?_)
    refine Tr.sr ?_
    refine Tr.mv rfl rfl ?_
    refine Tr.va rfl (fun _ _ h1 h2 => run_not (h1.ev rfl)) ?_
    refine Tr.mv rfl rfl ?_
    refine Tr.mid0 20 [(0, (.string p0)), (3, (.int .i64 x105)), (51, (.bool ((!(((decide (97 ≤ c106)) && (decide (c106 ≤ 122))) || ((decide (65 ≤ c106)) && (decide (c106 ≤ 90))))) && ((x105 == 0) || (((c106 != 95) && (c106 != 45)) && (!((decide (48 ≤ c106)) && (decide (c106 ≤ 57)))))))))] [] ?_ ?_
    ·cases hg106 : (!(((decide (97 ≤ c106)) && (decide (c106 ≤ 122))) || ((decide (65 ≤ c106)) && (decide (c106 ≤ 90)))))
     ·refine Tr.pass rfl rfl rfl rfl rfl (by decide) ?_
      refine Tr.pass rfl rfl rfl rfl rfl (by decide) ?_
      refine Tr.pass rfl rfl rfl rfl rfl (by decide) ?_
      refine Tr.passU rfl rfl rfl rfl (by decide) ?_
      refine Tr.passU rfl rfl rfl rfl (by decide) ?_
      refine Tr.passU rfl rfl rfl rfl (by decide) ?_
      refine Tr.passU rfl rfl rfl rfl (by decide) ?_
      refine Tr.passU rfl rfl rfl rfl (by decide) ?_
      refine Tr.passU rfl rfl rfl rfl (by decide) ?_
      refine Tr.passU rfl rfl rfl rfl (by decide) ?_
      refine Tr.passU rfl rfl rfl rfl (by decide) ?_
      refine Tr.passU rfl rfl rfl rfl (by decide) ?_
      refine Tr.passU rfl rfl rfl rfl (by decide) ?_
      refine Tr.passU rfl rfl rfl rfl (by decide) ?_
      refine Tr.passU rfl rfl rfl rfl (by decide) ?_
      refine Tr.passU rfl rfl rfl rfl (by decide) ?_
      refine Tr.passU rfl rfl rfl rfl (by decide) ?_
      refine Tr.passU rfl rfl rfl rfl (by decide) ?_
      refine Tr.pass rfl rfl rfl rfl rfl (by decide) ?_
      refine Tr.va rfl (fun _ _ h1 h2 => run_pickF (h1.ev rfl) (h1.ev rfl)) ?_
      exact Tr.nil (Tr.fin0 (.cons rfl (.cons rfl (.cons rfl .nil))) .nil)
     ·refine Tr.val (wg rfl rfl rfl) rfl (fun _ _ h1 h2 => run_move (h1.ev rfl)) ?_
      refine Tr.val (wg rfl rfl rfl) rfl (fun _ _ h1 h2 => run_eql (h1.ev rfl) (h1.ev rfl)) ?_
      refine Tr.val (wg rfl rfl rfl) rfl (fun _ _ h1 h2 => run_move (h1.ev rfl)) ?_
      refine Tr.mid0 16 [(0, (.string p0)), (3, (.int .i64 x105)), (31, (.bool true)), (50, (.bool ((x105 == 0) || (((c106 != 95) && (c106 != 45)) && (!((decide (48 ≤ c106)) && (decide (c106 ≤ 57))))))))] [] ?_ ?_
      ·cases hg106 : (x105 == 0)
       ·refine Tr.val (wg rfl rfl rfl) rfl (fun _ _ h1 h2 => run_move (h1.ev rfl)) ?_
        refine Tr.val (wg rfl rfl rfl) rfl (fun _ _ h1 h2 => run_neq (h1.ev rfl) (h1.ev rfl)) ?_
        refine Tr.val (wg rfl rfl rfl) rfl (fun _ _ h1 h2 => run_move (h1.ev rfl)) ?_
        refine Tr.mid0 3 [(0, (.string p0)), (3, (.int .i64 x105)), (4, (.int .u8 c106)), (31, (.bool true)), (34, (.bool false)), (40, (.bool ((c106 != 95) && (c106 != 45))))] [] ?_ ?_
        ·cases hg106 : (c106 != 95)
         ·refine Tr.pass rfl rfl rfl rfl rfl (by decide) ?_
          refine Tr.pass rfl rfl rfl rfl rfl (by decide) ?_
          refine Tr.val (wg rfl rfl rfl) rfl (fun _ _ h1 h2 => run_pickF (h1.ev rfl) (h1.ev rfl)) ?_
          exact Tr.nil (Tr.fin0 (.cons rfl (.cons rfl (.cons rfl (.cons rfl (.cons rfl (.cons rfl .nil)))))) .nil)
         ·refine Tr.val (wg rfl rfl rfl) rfl (fun _ _ h1 h2 => run_move (h1.ev rfl)) ?_
          refine Tr.val (wg rfl rfl rfl) rfl (fun _ _ h1 h2 => run_neq (h1.ev rfl) (h1.ev rfl)) ?_
          refine Tr.val (wg rfl rfl rfl) rfl (fun _ _ h1 h2 => run_pickT (h1.ev rfl) (h1.ev rfl)) ?_
          exact Tr.nil (Tr.fin0 (.cons rfl (.cons rfl (.cons rfl (.cons rfl (.cons rfl (.cons rfl .nil)))))) .nil)
        ·show Tr _ _ (LF [(0, (.string p0)), (3, (.int .i64 x105)), (4, (.int .u8 c106)), (31, (.bool true)), (34, (.bool false)), (40, (.bool ((c106 != 95) && (c106 != 45))))]) (LE []) _
         refine Tr.val (wg rfl rfl rfl) rfl (fun _ _ h1 h2 => run_move (h1.ev rfl)) ?_
         refine Tr.mid0 8 [(0, (.string p0)), (3, (.int .i64 x105)), (31, (.bool true)), (34, (.bool false)), (49, (.bool (((c106 != 95) && (c106 != 45)) && (!((decide (48 ≤ c106)) && (decide (c106 ≤ 57)))))))] [] ?_ ?_
         ·cases hg106 : ((c106 != 95) && (c106 != 45))
          ·refine Tr.pass rfl rfl rfl rfl rfl (by decide) ?_
           refine Tr.pass rfl rfl rfl rfl rfl (by decide) ?_
           refine Tr.pass rfl rfl rfl rfl rfl (by decide) ?_
           refine Tr.passU rfl rfl rfl rfl (by decide) ?_
           refine Tr.passU rfl rfl rfl rfl (by decide) ?_
           refine Tr.pass rfl rfl rfl rfl rfl (by decide) ?_
           refine Tr.pass rfl rfl rfl rfl rfl (by decide) ?_
           refine Tr.val (wg rfl rfl rfl) rfl (fun _ _ h1 h2 => run_pickF (h1.ev rfl) (h1.ev rfl)) ?_
           exact Tr.nil (Tr.fin0 (.cons rfl (.cons rfl (.cons rfl (.cons rfl (.cons rfl .nil))))) .nil)
          ·refine Tr.val (wg rfl rfl rfl) rfl (fun _ _ h1 h2 => run_move (h1.ev rfl)) ?_
           refine Tr.val (wg rfl rfl rfl) rfl (fun _ _ h1 h2 => run_geq (h1.ev rfl) (h1.ev rfl)) ?_
           refine Tr.val (wg rfl rfl rfl) rfl (fun _ _ h1 h2 => run_move (h1.ev rfl)) ?_
           refine Tr.mid0 3 [(0, (.string p0)), (3, (.int .i64 x105)), (31, (.bool true)), (34, (.bool false)), (41, (.bool true)), (47, (.bool ((decide (48 ≤ c106)) && (decide (c106 ≤ 57)))))] [] ?_ ?_
           ·cases hg106 : (decide (48 ≤ c106))
            ·refine Tr.pass rfl rfl rfl rfl rfl (by decide) ?_
             refine Tr.pass rfl rfl rfl rfl rfl (by decide) ?_
             refine Tr.val (wg rfl rfl rfl) rfl (fun _ _ h1 h2 => run_pickF (h1.ev rfl) (h1.ev rfl)) ?_
             exact Tr.nil (Tr.fin0 (.cons rfl (.cons rfl (.cons rfl (.cons rfl (.cons rfl (.cons rfl .nil)))))) .nil)
            ·refine Tr.val (wg rfl rfl rfl) rfl (fun _ _ h1 h2 => run_move (h1.ev rfl)) ?_
             refine Tr.val (wg rfl rfl rfl) rfl (fun _ _ h1 h2 => run_leq (h1.ev rfl) (h1.ev rfl)) ?_
             refine Tr.val (wg rfl rfl rfl) rfl (fun _ _ h1 h2 => run_pickT (h1.ev rfl) (h1.ev rfl)) ?_
             exact Tr.nil (Tr.fin0 (.cons rfl (.cons rfl (.cons rfl (.cons rfl (.cons rfl (.cons rfl .nil)))))) .nil)
           ·show Tr _ _ (LF [(0, (.string p0)), (3, (.int .i64 x105)), (31, (.bool true)), (34, (.bool false)), (41, (.bool true)), (47, (.bool ((decide (48 ≤ c106)) && (decide (c106 ≤ 57)))))]) (LE []) _
            refine Tr.val (wg rfl rfl rfl) rfl (fun _ _ h1 h2 => run_not (h1.ev rfl)) ?_
            refine Tr.val (wg rfl rfl rfl) rfl (fun _ _ h1 h2 => run_pickT (h1.ev rfl) (h1.ev rfl)) ?_
            exact Tr.nil (Tr.fin0 (.cons rfl (.cons rfl (.cons rfl (.cons rfl (.cons rfl .nil))))) .nil)
         ·show Tr _ _ (LF [(0, (.string p0)), (3, (.int .i64 x105)), (31, (.bool true)), (34, (.bool false)), (49, (.bool (((c106 != 95) && (c106 != 45)) && (!((decide (48 ≤ c106)) && (decide (c106 ≤ 57)))))))]) (LE []) _
          refine Tr.val (wg rfl rfl rfl) rfl (fun _ _ h1 h2 => run_pickF (h1.ev rfl) (h1.ev rfl)) ?_
          exact Tr.nil (Tr.fin0 (.cons rfl (.cons rfl (.cons rfl (.cons rfl .nil)))) .nil)
       ·refine Tr.pass rfl rfl rfl rfl rfl (by decide) ?_
        refine Tr.pass rfl rfl rfl rfl rfl (by decide) ?_
        refine Tr.pass rfl rfl rfl rfl rfl (by decide) ?_
        refine Tr.passU rfl rfl rfl rfl (by decide) ?_
        refine Tr.passU rfl rfl rfl rfl (by decide) ?_
        refine Tr.pass rfl rfl rfl rfl rfl (by decide) ?_
        refine Tr.pass rfl rfl rfl rfl rfl (by decide) ?_
        refine Tr.passU rfl rfl rfl rfl (by decide) ?_
        refine Tr.passU rfl rfl rfl rfl (by decide) ?_
        refine Tr.passU rfl rfl rfl rfl (by decide) ?_
        refine Tr.passU rfl rfl rfl rfl (by decide) ?_
        refine Tr.passU rfl rfl rfl rfl (by decide) ?_
        refine Tr.passU rfl rfl rfl rfl (by decide) ?_
        refine Tr.passU rfl rfl rfl rfl (by decide) ?_
        refine Tr.pass rfl rfl rfl rfl rfl (by decide) ?_
        refine Tr.val (wg rfl rfl rfl) rfl (fun _ _ h1 h2 => run_pickT (h1.ev rfl) (h1.ev rfl)) ?_
        exact Tr.nil (Tr.fin0 (.cons rfl (.cons rfl (.cons rfl (.cons rfl .nil)))) .nil)
      ·show Tr _ _ (LF [(0, (.string p0)), (3, (.int .i64 x105)), (31, (.bool true)), (50, (.bool ((x105 == 0) || (((c106 != 95) && (c106 != 45)) && (!((decide (48 ≤ c106)) && (decide (c106 ≤ 57))))))))]) (LE []) _
       refine Tr.va rfl (fun _ _ h1 h2 => run_pickT (h1.ev rfl) (h1.ev rfl)) ?_
       exact Tr.nil (Tr.fin0 (.cons rfl (.cons rfl (.cons rfl .nil))) .nil)
    ·show Tr _ _ (LF [(0, (.string p0)), (3, (.int .i64 x105)), (51, (.bool ((!(((decide (97 ≤ c106)) && (decide (c106 ≤ 122))) || ((decide (65 ≤ c106)) && (decide (c106 ≤ 90))))) && ((x105 == 0) || (((c106 != 95) && (c106 != 45)) && (!((decide (48 ≤ c106)) && (decide (c106 ≤ 57)))))))))]) (LE []) _
     refine Tr.nil (Tr.normThen ?_)
     refine Tr.cond rfl H (fun H => ?_) (fun H => ?_)
     ·refine Tr.sr ?_
      refine Tr.asg rfl rfl ?_
      refine Tr.nil (Tr.normThen ?_)
      refine Tr.ret (Tr.retBlock (Tr.retThen (Tr.retThen (Tr.retBlock (Tr.retThen ?_)))))
      obtain rfl := Option.some.inj H
      exact Tr.out (m := [(.bool false)]) [] (res_tmp rfl res_nil) (fun W hW => ⟨rfl, hW.low leB⟩)
     ·refine Tr.skip (Tr.normBlock (Tr.normThen ?_))
      refine Tr.region ?_
      refine Tr.mv rfl rfl ?_
      refine Tr.va rfl (fun _ _ h1 h2 => run_add (h1.ev rfl) (h1.ev rfl)) ?_
      refine Tr.asg rfl rfl ?_
      refine Tr.nil ?_
      exact Tr.backThen leF_etchhouseref3_IsName_L1 (w64 (x105 + 1)) H (.cons rfl (.cons rfl .nil)) .nil
 ·refine Tr.exit (Tr.exitThen (Tr.exitThen (Tr.exitBlock (Tr.normThen ?_))))
  refine Tr.sr ?_
  refine Tr.mv rfl rfl ?_
  refine Tr.va rfl (fun _ _ h1 h2 => run_lenS un_9 (h1.ev rfl)) ?_
  obtain ⟨y107, hy107, H⟩ := bnd H
  refine Tr.call0 (r := (.bool y107)) (wn rfl) rfl Tryd.call30 (evl_cons rfl (evl_cons rfl (evl_cons rfl evl_nil))) (fun W hW => F_etchhouseref3_within_ok (p0.size : Int) 1 40 y107 hy107 (HF.start _)) ?_
  refine Tr.asg rfl rfl ?_
  refine Tr.nil (Tr.normThen ?_)
  refine Tr.ret ?_
  obtain rfl := Option.some.inj H
  exact Tr.out (m := [(.bool y107)]) [] (res_tmp rfl res_nil) (fun W hW => ⟨rfl, hW.low leB⟩)

theorem F_etchhouseref1_within_ok {w : Bs} (p0 : Int) (p1 : Int) (p2 : Int) (r : Bool) (H : F_etchhouseref1_within p0 p1 p2 = some r) (hE : HF w w.W E0) : Calls Tryd.prog 82 [(.int .i64 p0), (.int .i64 p1), (.int .i64 p2)].toArray w.W fun e W' => e = .returned (.bool r) ∧ HF w W' E0 := by
 unfold F_etchhouseref1_within at H
 have leB := Bs.Le.refl w
 refine Tr.enter (n := 15) Tryd.func82 rfl rfl rfl hE ?_
 refine Tr.sr ?_
 refine Tr.asg rfl rfl ?_
 refine Tr.nil (Tr.normThen ?_)
 refine Tr.sr ?_
 refine Tr.mv rfl rfl ?_
 refine Tr.mv rfl rfl ?_
 refine Tr.va rfl (fun _ _ h1 h2 => run_geq (h1.ev rfl) (h1.ev rfl)) ?_
 refine Tr.mv rfl rfl ?_
 refine Tr.mid0 4 [(14, (.bool ((decide (p1 ≤ p0)) && (decide (p0 ≤ p2)))))] [] ?_ ?_
 ·cases hg99 : (decide (p1 ≤ p0))
  ·refine Tr.pass rfl rfl rfl rfl rfl (by decide) ?_
   refine Tr.pass rfl rfl rfl rfl rfl (by decide) ?_
   refine Tr.pass rfl rfl rfl rfl rfl (by decide) ?_
   refine Tr.va rfl (fun _ _ h1 h2 => run_pickF (h1.ev rfl) (h1.ev rfl)) ?_
   exact Tr.nil (Tr.fin0 (.cons rfl .nil) .nil)
  ·refine Tr.val (wg rfl rfl rfl) rfl (fun _ _ h1 h2 => run_move (h1.ev rfl)) ?_
   refine Tr.val (wg rfl rfl rfl) rfl (fun _ _ h1 h2 => run_move (h1.ev rfl)) ?_
   refine Tr.val (wg rfl rfl rfl) rfl (fun _ _ h1 h2 => run_leq (h1.ev rfl) (h1.ev rfl)) ?_
   refine Tr.va rfl (fun _ _ h1 h2 => run_pickT (h1.ev rfl) (h1.ev rfl)) ?_
   exact Tr.nil (Tr.fin0 (.cons rfl .nil) .nil)
 ·show Tr _ _ (LF [(14, (.bool ((decide (p1 ≤ p0)) && (decide (p0 ≤ p2)))))]) (LE []) _
  refine Tr.asg rfl rfl ?_
  refine Tr.nil (Tr.normThen ?_)
  refine Tr.ret ?_
  obtain rfl := Option.some.inj H
  exact Tr.out (m := [(.bool ((decide (p1 ≤ p0)) && (decide (p0 ≤ p2))))]) [] (res_tmp rfl res_nil) (fun W hW => ⟨rfl, hW.low leB⟩)

theorem F_etchhouseref1_At_ok {w : Bs} (p0 : Int) (r : Bool) (H : F_etchhouseref1_At p0 = some r) (hE : HF w w.W E0) : Calls Tryd.prog 78 [(.int .i64 p0)].toArray w.W fun e W' => e = .returned (.bool r) ∧ HF w W' E0 := by
 unfold F_etchhouseref1_At at H
 have leB := Bs.Le.refl w
 refine Tr.enter (n := 5) Tryd.func78 rfl rfl rfl hE ?_
 refine Tr.sr ?_
 refine Tr.asg rfl rfl ?_
 refine Tr.nil (Tr.normThen ?_)
 refine Tr.sr ?_
 refine Tr.mv rfl rfl ?_
 obtain ⟨y100, hy100, H⟩ := bnd H
 refine Tr.call0 (r := (.bool y100)) (wn rfl) rfl Tryd.call82 (evl_cons rfl (evl_cons rfl (evl_cons rfl evl_nil))) (fun W hW => F_etchhouseref1_within_ok p0 (-1000000) 1000000 y100 hy100 (HF.start _)) ?_
 refine Tr.asg rfl rfl ?_
 refine Tr.nil (Tr.normThen ?_)
 refine Tr.ret ?_
 obtain rfl := Option.some.inj H
 exact Tr.out (m := [(.bool y100)]) [] (res_tmp rfl res_nil) (fun W hW => ⟨rfl, hW.low leB⟩)

theorem F_etchhouseref3_fits_ok {w : Bs} (p0 : Int) (p1 : Int) (r : Bool) (H : F_etchhouseref3_fits p0 p1 = some r) (hE : HF w w.W E0) : Calls Tryd.prog 66 [(.int .i64 p0), (.int .i64 p1)].toArray w.W fun e W' => e = .returned (.bool r) ∧ HF w W' E0 := by
 unfold F_etchhouseref3_fits at H
 have leB := Bs.Le.refl w
 refine Tr.enter (n := 13) Tryd.func66 rfl rfl rfl hE ?_
 refine Tr.sr ?_
 refine Tr.asg rfl rfl ?_
 refine Tr.nil (Tr.normThen ?_)
 refine Tr.sr ?_
 refine Tr.mv rfl rfl ?_
 obtain ⟨y100, hy100, H⟩ := bnd H
 refine Tr.call0 (r := (.bool y100)) (wn rfl) rfl Tryd.call78 (evl_cons rfl evl_nil) (fun W hW => F_etchhouseref1_At_ok p0 y100 hy100 (HF.start _)) ?_
 refine Tr.mv rfl rfl ?_
 obtain ⟨g102, hg102, H⟩ := bnd H
 refine Tr.mid0 5 [(12, (.bool g102))] [] ?_ ?_
 ·cases hg103 : y100
  ·rw [hg103] at hg102
   rw [if_neg (by decide)] at hg102
   have H := hg102
   obtain rfl := Option.some.inj H
   refine Tr.pass rfl rfl rfl rfl rfl (by decide) ?_
   refine Tr.pass rfl rfl rfl rfl rfl (by decide) ?_
   refine Tr.pass rfl rfl rfl rfl rfl (by decide) ?_
   refine Tr.pass rfl rfl rfl rfl rfl (by decide) ?_
   refine Tr.va rfl (fun _ _ h1 h2 => run_pickF (h1.ev rfl) (h1.ev rfl)) ?_
   exact Tr.nil (Tr.fin0 (.cons rfl .nil) .nil)
  ·rw [hg103] at hg102
   rw [if_pos rfl] at hg102
   have H := hg102
   refine Tr.val (wg rfl rfl rfl) rfl (fun _ _ h1 h2 => run_move (h1.ev rfl)) ?_
   refine Tr.val (wg rfl rfl rfl) rfl (fun _ _ h1 h2 => run_move (h1.ev rfl)) ?_
   refine Tr.val (wg rfl rfl rfl) rfl (fun _ _ h1 h2 => run_mul (h1.ev rfl) (h1.ev rfl)) ?_
   obtain ⟨y103, hy103, H⟩ := bnd H
   refine Tr.call0 (r := (.bool y103)) (wg rfl rfl rfl) rfl Tryd.call78 (evl_cons rfl evl_nil) (fun W hW => F_etchhouseref1_At_ok (w64 (p0 * p1)) y103 hy103 (HF.start _)) ?_
   refine Tr.va rfl (fun _ _ h1 h2 => run_pickT (h1.ev rfl) (h1.ev rfl)) ?_
   obtain rfl := Option.some.inj H
   exact Tr.nil (Tr.fin0 (.cons rfl .nil) .nil)
 ·show Tr _ _ (LF [(12, (.bool g102))]) (LE []) _
  refine Tr.asg rfl rfl ?_
  refine Tr.nil (Tr.normThen ?_)
  refine Tr.ret ?_
  obtain rfl := Option.some.inj H
  exact Tr.out (m := [(.bool g102)]) [] (res_tmp rfl res_nil) (fun W hW => ⟨rfl, hW.low leB⟩)

theorem F_etchhouseref3_checkToolRects_ok (N : Nat) {w : Bs} (p0 : (List TRect)) (Ap0_0 : Option Addr) (cp0_0 : Nat) (hp0_0 : Sl w.R w.W fl_TRect Ap0_0 cp0_0 p0) (p1 : Int) (r : Int) (H : F_etchhouseref3_checkToolRects N p0 p1 = some r) (hE : HF w w.W E0) : Calls Tryd.prog 32 [(.slice Ap0_0 (p0).length cp0_0), (.int .i64 p1)].toArray w.W fun e W' => e = .returned (.int .i64 r) ∧ HF w W' E0 := by
 unfold F_etchhouseref3_checkToolRects at H
 have leB := Bs.Le.refl w
 refine Tr.enter (n := 61) Tryd.func32 rfl rfl rfl hE ?_
 refine Tr.sr ?_
 refine Tr.asg rfl rfl ?_
 refine Tr.nil (Tr.normThen ?_)
 refine Tr.seq ?_
 refine Tr.sr ?_
 refine Tr.mv rfl rfl ?_
 refine Tr.va rfl (fun _ _ h1 h2 => run_len un_53 (h1.ev rfl)) ?_
 refine Tr.va rfl (fun _ _ h1 h2 => run_eql (h1.ev rfl) (h1.ev rfl)) ?_
 refine Tr.nil (Tr.normThen ?_)
 refine Tr.cond rfl H (fun H => ?_) (fun H => ?_)
 ·refine Tr.sr ?_
  refine Tr.asg rfl rfl ?_
  refine Tr.nil (Tr.normThen ?_)
  refine Tr.ret (Tr.retThen ?_)
  obtain rfl := Option.some.inj H
  exact Tr.out (m := [(.int .i64 9)]) [] (res_tmp rfl res_nil) (fun W hW => ⟨rfl, hW.low leB⟩)
 ·refine Tr.skip (Tr.normThen ?_)
  refine Tr.seq ?_
  refine Tr.sr ?_
  refine Tr.mv rfl rfl ?_
  refine Tr.va rfl (fun _ _ h1 h2 => run_len un_53 (h1.ev rfl)) ?_
  refine Tr.va rfl (fun _ _ h1 h2 => run_gtr (h1.ev rfl) (h1.ev rfl)) ?_
  refine Tr.nil (Tr.normThen ?_)
  refine Tr.cond rfl H (fun H => ?_) (fun H => ?_)
  ·refine Tr.sr ?_
   refine Tr.asg rfl rfl ?_
   refine Tr.nil (Tr.normThen ?_)
   refine Tr.ret (Tr.retThen ?_)
   obtain rfl := Option.some.inj H
   exact Tr.out (m := [(.int .i64 2)]) [] (res_tmp rfl res_nil) (fun W hW => ⟨rfl, hW.low leB⟩)
  ·refine Tr.skip (Tr.normThen ?_)
   refine Tr.seq ?_
   refine Tr.sr ?_
   refine Tr.asg rfl rfl ?_
   refine Tr.nil (Tr.normThen ?_)
   refine Tr.block ?_
   refine Tr.loop (σ := Int) (fun m w s => F_etchhouseref3_checkToolRects_L1 p0 p1 m s = some r) (fun s => [(0, (.slice Ap0_0 (p0).length cp0_0)), (1, (.int .i64 p1)), (5, (.int .i64 s))]) (fun s => []) N 0 H (.cons rfl (.cons rfl (.cons rfl .nil))) .nil (fun _ _ h => noSome (h)) ?_
   intro w leF_etchhouseref3_checkToolRects_L1 mF_etchhouseref3_checkToolRects_L1 x127 hs
   have H := hs
   replace H : F_etchhouseref3_checkToolRects_L1 p0 p1 (mF_etchhouseref3_checkToolRects_L1 + 1) x127 = some r := H
   replace hp0_0 := hp0_0.leR leF_etchhouseref3_checkToolRects_L1
   replace leB := leB.trans leF_etchhouseref3_checkToolRects_L1
   rw [F_etchhouseref3_checkToolRects_L1.eq_2] at H
   show Tr _ _ (LF [(0, (.slice Ap0_0 (p0).length cp0_0)), (1, (.int .i64 p1)), (5, (.int .i64 x127))]) (LE []) _
   refine Tr.seq ?_
   refine Tr.sr ?_
   refine Tr.mv rfl rfl ?_
   refine Tr.mv rfl rfl ?_
   refine Tr.va rfl (fun _ _ h1 h2 => run_len un_53 (h1.ev rfl)) ?_
   refine Tr.va rfl (fun _ _ h1 h2 => run_lss (h1.ev rfl) (h1.ev rfl)) ?_
   refine Tr.nil (Tr.normThen ?_)
   refine Tr.cond rfl H (fun H => ?_) (fun H => ?_)
   ·refine Tr.skip (Tr.normThen ?_)
    refine Tr.seq ?_
    refine Tr.block ?_
    refine Tr.sr ?_
    refine Tr.mv rfl rfl ?_
    refine Tr.mv rfl rfl ?_
    obtain ⟨x128, hx128, H⟩ := bnd H
    obtain ⟨hx1280, hx1281, hx1282⟩ := idx_some hx128
    refine Tr.va rfl (fun _ _ h1 h2 => run_indexAddr el_53 (h1.ev rfl) hp0_0.form (h1.ev rfl) hx1280 hx1281) ?_
    refine Tr.va rfl (fun _ _ h1 h2 => run_loadN (cs := [(.int .i64 x128.X0), (.int .i64 x128.Y0), (.int .i64 x128.X1), (.int .i64 x128.Y1)]) ag_57 sz_57 (h1.ev rfl) (CellsAt.take (rdF ef_TRect hp0_0 hx1282 h2) 4) rfl) ?_
    refine Tr.alloc 3 (wn rfl) rfl ze_57 fun b129 => ?_
    refine Tr.store 3 (cs := [(.int .i64 x128.X0), (.int .i64 x128.Y0), (.int .i64 x128.X1), (.int .i64 x128.Y1)]) [(.int .i64 x128.X0), (.int .i64 x128.Y0), (.int .i64 x128.X1), (.int .i64 x128.Y1)] (wn rfl) rfl rfl rfl rfl sz_57 rfl rfl rfl ?_
    refine Tr.nil (Tr.normThen ?_)
    refine Tr.seq ?_
    refine Tr.sr ?_
    refine Tr.va rfl (fun _ _ h1 h2 => run_fieldAddr fo_57_0 (h1.ev rfl)) ?_
    refine Tr.va rfl (fun _ _ h1 h2 => run_load1 ag_3 (h1.ev rfl) (rdb h2 (vs := [(.int .i64 x128.X0), (.int .i64 x128.Y0), (.int .i64 x128.X1), (.int .i64 x128.Y1)]) (k := 3) rfl 0) rfl) ?_
    refine Tr.mv rfl rfl ?_
    obtain ⟨y130, hy130, H⟩ := bnd H
    refine Tr.call0 (r := (.bool y130)) (wn rfl) rfl Tryd.call66 (evl_cons rfl (evl_cons rfl evl_nil)) (fun W hW => F_etchhouseref3_fits_ok x128.X0 p1 y130 hy130 (HF.start _)) ?_
    refine Tr.va rfl (fun _ _ h1 h2 => run_not (h1.ev rfl)) ?_
    refine Tr.mv rfl rfl ?_
    obtain ⟨g132, hg132, H⟩ := bnd H
    refine Tr.mid0 6 [(0, (.slice Ap0_0 (p0).length cp0_0)), (1, (.int .i64 p1)), (5, (.int .i64 x127)), (6, (.pointer (some ⟨b129, 0, none⟩))), (34, (.bool g132))] [(3, bx b129 #[(.int .i64 x128.X0), (.int .i64 x128.Y0), (.int .i64 x128.X1), (.int .i64 x128.Y1)] 57)] ?_ ?_
    ·cases hg139 : (!y130)
     ·rw [hg139] at hg132
      rw [if_neg (by decide)] at hg132
      have H := hg132
      refine Tr.val (wg rfl rfl rfl) rfl (fun _ _ h1 h2 => run_fieldAddr fo_57_1 (h1.ev rfl)) ?_
      refine Tr.val (wg rfl rfl rfl) rfl (fun _ _ h1 h2 => run_load1 ag_3 (h1.ev rfl) (rdb h2 (vs := [(.int .i64 x128.X0), (.int .i64 x128.Y0), (.int .i64 x128.X1), (.int .i64 x128.Y1)]) (k := 3) rfl 1) rfl) ?_
      refine Tr.val (wg rfl rfl rfl) rfl (fun _ _ h1 h2 => run_move (h1.ev rfl)) ?_
      obtain ⟨y133, hy133, H⟩ := bnd H
      refine Tr.call0 (r := (.bool y133)) (wg rfl rfl rfl) rfl Tryd.call66 (evl_cons rfl (evl_cons rfl evl_nil)) (fun W hW => F_etchhouseref3_fits_ok x128.Y0 p1 y133 hy133 (HF.start _)) ?_
      refine Tr.val (wg rfl rfl rfl) rfl (fun _ _ h1 h2 => run_not (h1.ev rfl)) ?_
      refine Tr.va rfl (fun _ _ h1 h2 => run_pickF (h1.ev rfl) (h1.ev rfl)) ?_
      obtain rfl := Option.some.inj H
      exact Tr.nil (Tr.fin0 (.cons rfl (.cons rfl (.cons rfl (.cons rfl (.cons rfl .nil))))) (.cons rfl .nil))
     ·rw [hg139] at hg132
      rw [if_pos rfl] at hg132
      have H := hg132
      obtain rfl := Option.some.inj H
      refine Tr.pass rfl rfl rfl rfl rfl (by decide) ?_
      refine Tr.pass rfl rfl rfl rfl rfl (by decide) ?_
      refine Tr.pass rfl rfl rfl rfl rfl (by decide) ?_
      refine Tr.pass rfl rfl rfl rfl rfl (by decide) ?_
      refine Tr.pass rfl rfl rfl rfl rfl (by decide) ?_
      refine Tr.va rfl (fun _ _ h1 h2 => run_pickT (h1.ev rfl) (h1.ev rfl)) ?_
      exact Tr.nil (Tr.fin0 (.cons rfl (.cons rfl (.cons rfl (.cons rfl (.cons rfl .nil))))) (.cons rfl .nil))
    ·show Tr _ _ (LF [(0, (.slice Ap0_0 (p0).length cp0_0)), (1, (.int .i64 p1)), (5, (.int .i64 x127)), (6, (.pointer (some ⟨b129, 0, none⟩))), (34, (.bool g132))]) (LE [(3, bx b129 #[(.int .i64 x128.X0), (.int .i64 x128.Y0), (.int .i64 x128.X1), (.int .i64 x128.Y1)] 57)]) _
     refine Tr.mv rfl rfl ?_
     obtain ⟨g135, hg135, H⟩ := bnd H
     refine Tr.mid0 6 [(0, (.slice Ap0_0 (p0).length cp0_0)), (1, (.int .i64 p1)), (5, (.int .i64 x127)), (6, (.pointer (some ⟨b129, 0, none⟩))), (41, (.bool g135))] [(3, bx b129 #[(.int .i64 x128.X0), (.int .i64 x128.Y0), (.int .i64 x128.X1), (.int .i64 x128.Y1)] 57)] ?_ ?_
     ·cases hg139 : g132
      ·rw [hg139] at hg135
       rw [if_neg (by decide)] at hg135
       have H := hg135
       refine Tr.val (wg rfl rfl rfl) rfl (fun _ _ h1 h2 => run_fieldAddr fo_57_2 (h1.ev rfl)) ?_
       refine Tr.val (wg rfl rfl rfl) rfl (fun _ _ h1 h2 => run_load1 ag_3 (h1.ev rfl) (rdb h2 (vs := [(.int .i64 x128.X0), (.int .i64 x128.Y0), (.int .i64 x128.X1), (.int .i64 x128.Y1)]) (k := 3) rfl 2) rfl) ?_
       refine Tr.val (wg rfl rfl rfl) rfl (fun _ _ h1 h2 => run_move (h1.ev rfl)) ?_
       obtain ⟨y136, hy136, H⟩ := bnd H
       refine Tr.call0 (r := (.bool y136)) (wg rfl rfl rfl) rfl Tryd.call66 (evl_cons rfl (evl_cons rfl evl_nil)) (fun W hW => F_etchhouseref3_fits_ok x128.X1 p1 y136 hy136 (HF.start _)) ?_
       refine Tr.val (wg rfl rfl rfl) rfl (fun _ _ h1 h2 => run_not (h1.ev rfl)) ?_
       refine Tr.va rfl (fun _ _ h1 h2 => run_pickF (h1.ev rfl) (h1.ev rfl)) ?_
       obtain rfl := Option.some.inj H
       exact Tr.nil (Tr.fin0 (.cons rfl (.cons rfl (.cons rfl (.cons rfl (.cons rfl .nil))))) (.cons rfl .nil))
      ·rw [hg139] at hg135
       rw [if_pos rfl] at hg135
       have H := hg135
       obtain rfl := Option.some.inj H
       refine Tr.pass rfl rfl rfl rfl rfl (by decide) ?_
       refine Tr.pass rfl rfl rfl rfl rfl (by decide) ?_
       refine Tr.pass rfl rfl rfl rfl rfl (by decide) ?_
       refine Tr.pass rfl rfl rfl rfl rfl (by decide) ?_
       refine Tr.pass rfl rfl rfl rfl rfl (by decide) ?_
       refine Tr.va rfl (fun _ _ h1 h2 => run_pickT (h1.ev rfl) (h1.ev rfl)) ?_
       exact Tr.nil (Tr.fin0 (.cons rfl (.cons rfl (.cons rfl (.cons rfl (.cons rfl .nil))))) (.cons rfl .nil))
     ·show Tr _ _ (LF [(0, (.slice Ap0_0 (p0).length cp0_0)), (1, (.int .i64 p1)), (5, (.int .i64 x127)), (6, (.pointer (some ⟨b129, 0, none⟩))), (41, (.bool g135))]) (LE [(3, bx b129 #[(.int .i64 x128.X0), (.int .i64 x128.Y0), (.int .i64 x128.X1), (.int .i64 x128.Y1)] 57)]) _
      refine Tr.mv rfl rfl ?_
      obtain ⟨g138, hg138, H⟩ := bnd H
      refine Tr.mid0 6 [(0, (.slice Ap0_0 (p0).length cp0_0)), (1, (.int .i64 p1)), (5, (.int .i64 x127)), (6, (.pointer (some ⟨b129, 0, none⟩))), (48, (.bool g138))] [(3, bx b129 #[(.int .i64 x128.X0), (.int .i64 x128.Y0), (.int .i64 x128.X1), (.int .i64 x128.Y1)] 57)] ?_ ?_
      ·cases hg139 : g135
       ·rw [hg139] at hg138
        rw [if_neg (by decide)] at hg138
        have H := hg138
        refine Tr.val (wg rfl rfl rfl) rfl (fun _ _ h1 h2 => run_fieldAddr fo_57_3 (h1.ev rfl)) ?_
        refine Tr.val (wg rfl rfl rfl) rfl (fun _ _ h1 h2 => run_load1 ag_3 (h1.ev rfl) (rdb h2 (vs := [(.int .i64 x128.X0), (.int .i64 x128.Y0), (.int .i64 x128.X1), (.int .i64 x128.Y1)]) (k := 3) rfl 3) rfl) ?_
        refine Tr.val (wg rfl rfl rfl) rfl (fun _ _ h1 h2 => run_move (h1.ev rfl)) ?_
        obtain ⟨y139, hy139, H⟩ := bnd H
        refine Tr.call0 (r := (.bool y139)) (wg rfl rfl rfl) rfl Tryd.call66 (evl_cons rfl (evl_cons rfl evl_nil)) (fun W hW => F_etchhouseref3_fits_ok x128.Y1 p1 y139 hy139 (HF.start _)) ?_
        refine Tr.val (wg rfl rfl rfl) rfl (fun _ _ h1 h2 => run_not (h1.ev rfl)) ?_
        refine Tr.va rfl (fun _ _ h1 h2 => run_pickF (h1.ev rfl) (h1.ev rfl)) ?_
        obtain rfl := Option.some.inj H
        exact Tr.nil (Tr.fin0 (.cons rfl (.cons rfl (.cons rfl (.cons rfl (.cons rfl .nil))))) (.cons rfl .nil))
       ·rw [hg139] at hg138
        rw [if_pos rfl] at hg138
        have H := hg138
        obtain rfl := Option.some.inj H
        refine Tr.pass rfl rfl rfl rfl rfl (by decide) ?_
        refine Tr.pass rfl rfl rfl rfl rfl (by decide) ?_
        refine Tr.pass rfl rfl rfl rfl rfl (by decide) ?_
        refine Tr.pass rfl rfl rfl rfl rfl (by decide) ?_
        refine Tr.pass rfl rfl rfl rfl rfl (by decide) ?_
        refine Tr.va rfl (fun _ _ h1 h2 => run_pickT (h1.ev rfl) (h1.ev rfl)) ?_
        exact Tr.nil (Tr.fin0 (.cons rfl (.cons rfl (.cons rfl (.cons rfl (.cons rfl .nil))))) (.cons rfl .nil))
      ·show Tr _ _ (LF [(0, (.slice Ap0_0 (p0).length cp0_0)), (1, (.int .i64 p1)), (5, (.int .i64 x127)), (6, (.pointer (some ⟨b129, 0, none⟩))), (48, (.bool g138))]) (LE [(3, bx b129 #[(.int .i64 x128.X0), (.int .i64 x128.Y0), (.int .i64 x128.X1), (.int .i64 x128.Y1)] 57)]) _
       refine Tr.nil (Tr.normThen ?_)
       refine Tr.cond rfl H (fun H => ?_) (fun H => ?_)
       ·refine Tr.sr ?_
        refine Tr.asg rfl rfl ?_
        refine Tr.nil (Tr.normThen ?_)
        refine Tr.ret (Tr.retThen (Tr.retBlock (Tr.retThen (Tr.retThen (Tr.retBlock (Tr.retThen ?_))))))
        obtain rfl := Option.some.inj H
        exact Tr.out (m := [(.int .i64 1)]) [] (res_tmp rfl res_nil) (fun W hW => ⟨rfl, hW.low leB⟩)
       ·refine Tr.skip (Tr.normThen ?_)
        refine Tr.sr ?_
        refine Tr.va rfl (fun _ _ h1 h2 => run_fieldAddr fo_57_2 (h1.ev rfl)) ?_
        refine Tr.va rfl (fun _ _ h1 h2 => run_load1 ag_3 (h1.ev rfl) (rdb h2 (vs := [(.int .i64 x128.X0), (.int .i64 x128.Y0), (.int .i64 x128.X1), (.int .i64 x128.Y1)]) (k := 3) rfl 2) rfl) ?_
        refine Tr.va rfl (fun _ _ h1 h2 => run_fieldAddr fo_57_0 (h1.ev rfl)) ?_
        refine Tr.va rfl (fun _ _ h1 h2 => run_load1 ag_3 (h1.ev rfl) (rdb h2 (vs := [(.int .i64 x128.X0), (.int .i64 x128.Y0), (.int .i64 x128.X1), (.int .i64 x128.Y1)]) (k := 3) rfl 0) rfl) ?_
        refine Tr.va rfl (fun _ _ h1 h2 => run_leq (h1.ev rfl) (h1.ev rfl)) ?_
        refine Tr.mv rfl rfl ?_
        refine Tr.mid0 6 [(0, (.slice Ap0_0 (p0).length cp0_0)), (1, (.int .i64 p1)), (5, (.int .i64 x127)), (60, (.bool ((decide (x128.X1 ≤ x128.X0)) || (decide (x128.Y1 ≤ x128.Y0)))))] [(3, bx b129 #[(.int .i64 x128.X0), (.int .i64 x128.Y0), (.int .i64 x128.X1), (.int .i64 x128.Y1)] 57)] ?_ ?_
        ·cases hg139 : (decide (x128.X1 ≤ x128.X0))
         ·refine Tr.val (wg rfl rfl rfl) rfl (fun _ _ h1 h2 => run_fieldAddr fo_57_3 (h1.ev rfl)) ?_
          refine Tr.val (wg rfl rfl rfl) rfl (fun _ _ h1 h2 => run_load1 ag_3 (h1.ev rfl) (rdb h2 (vs := [(.int .i64 x128.X0), (.int .i64 x128.Y0), (.int .i64 x128.X1), (.int .i64 x128.Y1)]) (k := 3) rfl 3) rfl) ?_
          refine Tr.val (wg rfl rfl rfl) rfl (fun _ _ h1 h2 => run_fieldAddr fo_57_1 (h1.ev rfl)) ?_
          refine Tr.val (wg rfl rfl rfl) rfl (fun _ _ h1 h2 => run_load1 ag_3 (h1.ev rfl) (rdb h2 (vs := [(.int .i64 x128.X0), (.int .i64 x128.Y0), (.int .i64 x128.X1), (.int .i64 x128.Y1)]) (k := 3) rfl 1) rfl) ?_
          refine Tr.val (wg rfl rfl rfl) rfl (fun _ _ h1 h2 => run_leq (h1.ev rfl) (h1.ev rfl)) ?_
          refine Tr.va rfl (fun _ _ h1 h2 => run_pickF (h1.ev rfl) (h1.ev rfl)) ?_
          exact Tr.nil (Tr.fin0 (.cons rfl (.cons rfl (.cons rfl (.cons rfl .nil)))) (.cons rfl .nil))
         ·refine Tr.pass rfl rfl rfl rfl rfl (by decide) ?_
          refine Tr.pass rfl rfl rfl rfl rfl (by decide) ?_
          refine Tr.pass rfl rfl rfl rfl rfl (by decide) ?_
          refine Tr.pass rfl rfl rfl rfl rfl (by decide) ?_
          refine Tr.pass rfl rfl rfl rfl rfl (by decide) ?_
          refine Tr.va rfl (fun _ _ h1 h2 => run_pickT (h1.ev rfl) (h1.ev rfl)) ?_
          exact Tr.nil (Tr.fin0 (.cons rfl (.cons rfl (.cons rfl (.cons rfl .nil)))) (.cons rfl .nil))
        ·show Tr _ _ (LF [(0, (.slice Ap0_0 (p0).length cp0_0)), (1, (.int .i64 p1)), (5, (.int .i64 x127)), (60, (.bool ((decide (x128.X1 ≤ x128.X0)) || (decide (x128.Y1 ≤ x128.Y0)))))]) (LE [(3, bx b129 #[(.int .i64 x128.X0), (.int .i64 x128.Y0), (.int .i64 x128.X1), (.int .i64 x128.Y1)] 57)]) _
         refine Tr.nil (Tr.normThen ?_)
         refine Tr.cond rfl H (fun H => ?_) (fun H => ?_)
         ·refine Tr.sr ?_
          refine Tr.asg rfl rfl ?_
          refine Tr.nil (Tr.normThen ?_)
          refine Tr.ret (Tr.retBlock (Tr.retThen (Tr.retThen (Tr.retBlock (Tr.retThen ?_)))))
          obtain rfl := Option.some.inj H
          exact Tr.out (m := [(.int .i64 13)]) [] (res_tmp rfl res_nil) (fun W hW => ⟨rfl, hW.low leB⟩)
         ·refine Tr.skip (Tr.normBlock (Tr.normThen ?_))
          refine Tr.region ?_
          refine Tr.mv rfl rfl ?_
          refine Tr.va rfl (fun _ _ h1 h2 => run_add (h1.ev rfl) (h1.ev rfl)) ?_
          refine Tr.asg rfl rfl ?_
          refine Tr.nil ?_
          exact Tr.backThen leF_etchhouseref3_checkToolRects_L1 (w64 (x127 + 1)) H (.cons rfl (.cons rfl (.cons rfl .nil))) .nil
   ·refine Tr.exit (Tr.exitThen (Tr.exitThen (Tr.exitBlock (Tr.normThen ?_))))
    refine Tr.sr ?_
    refine Tr.asg rfl rfl ?_
    refine Tr.nil (Tr.normThen ?_)
    refine Tr.ret ?_
    obtain rfl := Option.some.inj H
    exact Tr.out (m := [(.int .i64 0)]) [] (res_tmp rfl res_nil) (fun W hW => ⟨rfl, hW.low leB⟩)

theorem F_etchhouseref3_count_b_ok (N : Nat) (rec : (List TPlotStep) → Option Int) (hrec : ∀ {w : Bs} (p0 : (List TPlotStep)) (Ap0_0 : Option Addr) (cp0_0 : Nat) (hp0_0 : Sl w.R w.W fl_TPlotStep Ap0_0 cp0_0 p0) (r : Int) (H : rec p0 = some r) (hE : HF w w.W E0), Calls Tryd.prog 33 [(.slice Ap0_0 (p0).length cp0_0)].toArray w.W fun e W' => e = .returned (.int .i64 r) ∧ HF w W' E0) {w : Bs} (p0 : (List TPlotStep)) (Ap0_0 : Option Addr) (cp0_0 : Nat) (hp0_0 : Sl w.R w.W fl_TPlotStep Ap0_0 cp0_0 p0) (r : Int) (H : F_etchhouseref3_count_b N rec p0 = some r) (hE : HF w w.W E0) : Calls Tryd.prog 33 [(.slice Ap0_0 (p0).length cp0_0)].toArray w.W fun e W' => e = .returned (.int .i64 r) ∧ HF w W' E0 := by
 unfold F_etchhouseref3_count_b at H
 have leB := Bs.Le.refl w
 refine Tr.enter (n := 55) Tryd.func33 rfl rfl rfl hE ?_
 refine Tr.sr ?_
 refine Tr.asg rfl rfl ?_
 refine Tr.nil (Tr.normThen ?_)
 refine Tr.sr ?_
 refine Tr.asg rfl rfl ?_
 refine Tr.nil (Tr.normThen ?_)
 refine Tr.seq ?_
 refine Tr.sr ?_
 refine Tr.asg rfl rfl ?_
 refine Tr.nil (Tr.normThen ?_)
 refine Tr.block ?_
 refine Tr.loop (σ := Int × Int) (fun m w s => F_etchhouseref3_count_L5 p0 rec m s.1 s.2 = some r) (fun s => [(0, (.slice Ap0_0 (p0).length cp0_0)), (3, (.int .i64 s.1)), (4, (.int .i64 s.2))]) (fun s => []) N (0, 0) H (.cons rfl (.cons rfl (.cons rfl .nil))) .nil (fun _ _ h => noSome (h)) ?_
 intro w leF_etchhouseref3_count_L5 mF_etchhouseref3_count_L5 s hs
 obtain ⟨x164, x165⟩ := s
 have H := hs
 replace H : F_etchhouseref3_count_L5 p0 rec (mF_etchhouseref3_count_L5 + 1) x164 x165 = some r := H
 replace hp0_0 := hp0_0.leR leF_etchhouseref3_count_L5
 replace leB := leB.trans leF_etchhouseref3_count_L5
 rw [F_etchhouseref3_count_L5.eq_2] at H
 show Tr _ _ (LF [(0, (.slice Ap0_0 (p0).length cp0_0)), (3, (.int .i64 x164)), (4, (.int .i64 x165))]) (LE []) _
 refine Tr.seq ?_
 refine Tr.sr ?_
 refine Tr.mv rfl rfl ?_
 refine Tr.mv rfl rfl ?_
 refine Tr.va rfl (fun _ _ h1 h2 => run_len un_23 (h1.ev rfl)) ?_
 refine Tr.va rfl (fun _ _ h1 h2 => run_lss (h1.ev rfl) (h1.ev rfl)) ?_
 refine Tr.mv rfl rfl ?_
 refine Tr.mid0 3 [(0, (.slice Ap0_0 (p0).length cp0_0)), (3, (.int .i64 x164)), (4, (.int .i64 x165)), (14, (.bool ((decide (x165 < (p0.length : Int))) && (decide (x164 ≤ 3000)))))] [] ?_ ?_
 ·cases hg194 : (decide (x165 < (p0.length : Int)))
  ·refine Tr.pass rfl rfl rfl rfl rfl (by decide) ?_
   refine Tr.pass rfl rfl rfl rfl rfl (by decide) ?_
   refine Tr.va rfl (fun _ _ h1 h2 => run_pickF (h1.ev rfl) (h1.ev rfl)) ?_
   exact Tr.nil (Tr.fin0 (.cons rfl (.cons rfl (.cons rfl (.cons rfl .nil)))) .nil)
  ·refine Tr.val (wg rfl rfl rfl) rfl (fun _ _ h1 h2 => run_move (h1.ev rfl)) ?_
   refine Tr.val (wg rfl rfl rfl) rfl (fun _ _ h1 h2 => run_leq (h1.ev rfl) (h1.ev rfl)) ?_
   refine Tr.va rfl (fun _ _ h1 h2 => run_pickT (h1.ev rfl) (h1.ev rfl)) ?_
   exact Tr.nil (Tr.fin0 (.cons rfl (.cons rfl (.cons rfl (.cons rfl .nil)))) .nil)
 ·show Tr _ _ (LF [(0, (.slice Ap0_0 (p0).length cp0_0)), (3, (.int .i64 x164)), (4, (.int .i64 x165)), (14, (.bool ((decide (x165 < (p0.length : Int))) && (decide (x164 ≤ 3000)))))]) (LE []) _
  refine Tr.nil (Tr.normThen ?_)
  refine Tr.cond rfl H (fun H => ?_) (fun H => ?_)
  ·refine Tr.skip (Tr.normThen ?_)
   refine Tr.seq ?_
   refine Tr.block ?_
   refine Tr.sr ?_
   refine Tr.mv rfl rfl ?_
   refine Tr.va rfl (fun _ _ h1 h2 => run_add (h1.ev rfl) (h1.ev rfl)) ?_
   refine Tr.asg rfl rfl ?_
   refine Tr.nil (Tr.normThen ?_)
   refine Tr.sr ?_
   refine Tr.asg rfl rfl ?_
   refine Tr.asg rfl rfl ?_
   refine Tr.nil (Tr.normThen ?_)
   have leJ172 := Bs.Le.refl w
   refine Tr.cutJ (σ := Int) (fun w s => F_etchhouseref3_count_J7 p0 rec x164 x165 (F_etchhouseref3_count_L5 p0 rec mF_etchhouseref3_count_L5) s = some r) (fun s => [(0, (.slice Ap0_0 (p0).length cp0_0)), (3, (.int .i64 (w64 (x164 + 1)))), (4, (.int .i64 x165)), (5, (.int .i64 s)), (6, (.int .i64 1))]) (fun s => []) ?_ ?_
   ·refine Tr.sr ?_
    refine Tr.mv rfl rfl ?_
    refine Tr.mv rfl rfl ?_
    obtain ⟨x190, hx190, H⟩ := bnd H
    obtain ⟨hx1900, hx1901, hx1902⟩ := idx_some hx190
    obtain ⟨u191, hRu191, hoku191, hcu191⟩ := (hp0_0).el hx1902
    obtain ⟨⟨Au191_0, cu191_0⟩, ⟨Au191_1, cu191_1⟩⟩ := u191
    obtain ⟨hoku191_0, hoku191_1⟩ := TPlotStep_ok.1 hoku191
    replace hoku191_0 : Sl w.R w.W fl_TPoint Au191_0 cu191_0 x190.Points := hoku191_0
    replace hoku191_1 : Sl w.R w.W fl_TPlotStep Au191_1 cu191_1 x190.Steps := hoku191_1
    refine Tr.va rfl (fun _ _ h1 h2 => run_indexAddr el_23 (h1.ev rfl) hp0_0.form (h1.ev rfl) hx1900 hx1901) ?_
    refine Tr.va rfl (fun _ _ h1 h2 => run_fieldAddr fo_84_4 (h1.ev rfl)) ?_
    refine Tr.va rfl (fun _ _ h1 h2 => run_load1 ag_3 (h1.ev rfl) (CellsAt.drop (rdR hRu191 hcu191 h2) 5) rfl) ?_
    obtain ⟨y192, hy192, H⟩ := bnd H
    refine Tr.call0 (r := (.bool y192)) (wn rfl) rfl Tryd.call30 (evl_cons rfl (evl_cons rfl (evl_cons rfl evl_nil))) (fun W hW => F_etchhouseref3_within_ok x190.NX 1 100 y192 hy192 (HF.start _)) ?_
    refine Tr.nil (Tr.normThen ?_)
    refine Tr.cond rfl H (fun H => ?_) (fun H => ?_)
    ·refine Tr.region ?_
     refine Tr.mv rfl rfl ?_
     refine Tr.mv rfl rfl ?_
     obtain ⟨x193, hx193, H⟩ := bnd H
     obtain ⟨hx1930, hx1931, hx1932⟩ := idx_some hx193
     obtain ⟨u194, hRu194, hoku194, hcu194⟩ := (hp0_0).el hx1932
     obtain ⟨⟨Au194_0, cu194_0⟩, ⟨Au194_1, cu194_1⟩⟩ := u194
     obtain ⟨hoku194_0, hoku194_1⟩ := TPlotStep_ok.1 hoku194
     replace hoku194_0 : Sl w.R w.W fl_TPoint Au194_0 cu194_0 x193.Points := hoku194_0
     replace hoku194_1 : Sl w.R w.W fl_TPlotStep Au194_1 cu194_1 x193.Steps := hoku194_1
     refine Tr.va rfl (fun _ _ h1 h2 => run_indexAddr el_23 (h1.ev rfl) hp0_0.form (h1.ev rfl) hx1930 hx1931) ?_
     refine Tr.va rfl (fun _ _ h1 h2 => run_fieldAddr fo_84_4 (h1.ev rfl)) ?_
     refine Tr.va rfl (fun _ _ h1 h2 => run_load1 ag_3 (h1.ev rfl) (CellsAt.drop (rdR hRu194 hcu194 h2) 5) rfl) ?_
     refine Tr.asg rfl rfl ?_
     refine Tr.nil ?_
     exact Tr.backThen leJ172 x193.NX H (.cons rfl (.cons rfl (.cons rfl (.cons rfl (.cons rfl .nil))))) .nil
    ·refine Tr.skip ?_
     exact Tr.backThen leJ172 1 H (.cons rfl (.cons rfl (.cons rfl (.cons rfl (.cons rfl .nil))))) .nil
   ·intro w x171 hlJ173 hs
    have H := hs
    replace H : F_etchhouseref3_count_J7 p0 rec x164 x165 (F_etchhouseref3_count_L5 p0 rec mF_etchhouseref3_count_L5) x171 = some r := H
    replace hp0_0 := hp0_0.leR hlJ173
    replace leB := leB.trans hlJ173
    replace leF_etchhouseref3_count_L5 := leF_etchhouseref3_count_L5.trans hlJ173
    unfold F_etchhouseref3_count_J7 at H
    show Tr _ _ (LF [(0, (.slice Ap0_0 (p0).length cp0_0)), (3, (.int .i64 (w64 (x164 + 1)))), (4, (.int .i64 x165)), (5, (.int .i64 x171)), (6, (.int .i64 1))]) (LE []) _
    have leJ180 := Bs.Le.refl w
    refine Tr.cutJ (σ := Int) (fun w s => F_etchhouseref3_count_J6 p0 rec x164 x165 (F_etchhouseref3_count_L5 p0 rec mF_etchhouseref3_count_L5) x171 s = some r) (fun s => [(0, (.slice Ap0_0 (p0).length cp0_0)), (3, (.int .i64 (w64 (x164 + 1)))), (4, (.int .i64 x165)), (5, (.int .i64 x171)), (6, (.int .i64 s))]) (fun s => []) ?_ ?_
    ·refine Tr.sr ?_
     refine Tr.mv rfl rfl ?_
     refine Tr.mv rfl rfl ?_
     obtain ⟨x185, hx185, H⟩ := bnd H
     obtain ⟨hx1850, hx1851, hx1852⟩ := idx_some hx185
     obtain ⟨u186, hRu186, hoku186, hcu186⟩ := (hp0_0).el hx1852
     obtain ⟨⟨Au186_0, cu186_0⟩, ⟨Au186_1, cu186_1⟩⟩ := u186
     obtain ⟨hoku186_0, hoku186_1⟩ := TPlotStep_ok.1 hoku186
     replace hoku186_0 : Sl w.R w.W fl_TPoint Au186_0 cu186_0 x185.Points := hoku186_0
     replace hoku186_1 : Sl w.R w.W fl_TPlotStep Au186_1 cu186_1 x185.Steps := hoku186_1
     refine Tr.va rfl (fun _ _ h1 h2 => run_indexAddr el_23 (h1.ev rfl) hp0_0.form (h1.ev rfl) hx1850 hx1851) ?_
     refine Tr.va rfl (fun _ _ h1 h2 => run_fieldAddr fo_84_5 (h1.ev rfl)) ?_
     refine Tr.va rfl (fun _ _ h1 h2 => run_load1 ag_3 (h1.ev rfl) (CellsAt.drop (rdR hRu186 hcu186 h2) 6) rfl) ?_
     obtain ⟨y187, hy187, H⟩ := bnd H
     refine Tr.call0 (r := (.bool y187)) (wn rfl) rfl Tryd.call30 (evl_cons rfl (evl_cons rfl (evl_cons rfl evl_nil))) (fun W hW => F_etchhouseref3_within_ok x185.NY 1 100 y187 hy187 (HF.start _)) ?_
     refine Tr.nil (Tr.normThen ?_)
     refine Tr.cond rfl H (fun H => ?_) (fun H => ?_)
     ·refine Tr.region ?_
      refine Tr.mv rfl rfl ?_
      refine Tr.mv rfl rfl ?_
      obtain ⟨x188, hx188, H⟩ := bnd H
      obtain ⟨hx1880, hx1881, hx1882⟩ := idx_some hx188
      obtain ⟨u189, hRu189, hoku189, hcu189⟩ := (hp0_0).el hx1882
      obtain ⟨⟨Au189_0, cu189_0⟩, ⟨Au189_1, cu189_1⟩⟩ := u189
      obtain ⟨hoku189_0, hoku189_1⟩ := TPlotStep_ok.1 hoku189
      replace hoku189_0 : Sl w.R w.W fl_TPoint Au189_0 cu189_0 x188.Points := hoku189_0
      replace hoku189_1 : Sl w.R w.W fl_TPlotStep Au189_1 cu189_1 x188.Steps := hoku189_1
      refine Tr.va rfl (fun _ _ h1 h2 => run_indexAddr el_23 (h1.ev rfl) hp0_0.form (h1.ev rfl) hx1880 hx1881) ?_
      refine Tr.va rfl (fun _ _ h1 h2 => run_fieldAddr fo_84_5 (h1.ev rfl)) ?_
      refine Tr.va rfl (fun _ _ h1 h2 => run_load1 ag_3 (h1.ev rfl) (CellsAt.drop (rdR hRu189 hcu189 h2) 6) rfl) ?_
      refine Tr.asg rfl rfl ?_
      refine Tr.nil ?_
      exact Tr.backThen leJ180 x188.NY H (.cons rfl (.cons rfl (.cons rfl (.cons rfl (.cons rfl .nil))))) .nil
     ·refine Tr.skip ?_
      exact Tr.backThen leJ180 1 H (.cons rfl (.cons rfl (.cons rfl (.cons rfl (.cons rfl .nil))))) .nil
    ·intro w x179 hlJ181 hs
     have H := hs
     replace H : F_etchhouseref3_count_J6 p0 rec x164 x165 (F_etchhouseref3_count_L5 p0 rec mF_etchhouseref3_count_L5) x171 x179 = some r := H
     replace hp0_0 := hp0_0.leR hlJ181
     replace leB := leB.trans hlJ181
     replace leF_etchhouseref3_count_L5 := leF_etchhouseref3_count_L5.trans hlJ181
     unfold F_etchhouseref3_count_J6 at H
     show Tr _ _ (LF [(0, (.slice Ap0_0 (p0).length cp0_0)), (3, (.int .i64 (w64 (x164 + 1)))), (4, (.int .i64 x165)), (5, (.int .i64 x171)), (6, (.int .i64 x179))]) (LE []) _
     refine Tr.region ?_
     refine Tr.mv rfl rfl ?_
     refine Tr.mv rfl rfl ?_
     refine Tr.mv rfl rfl ?_
     refine Tr.va rfl (fun _ _ h1 h2 => run_mul (h1.ev rfl) (h1.ev rfl)) ?_
     refine Tr.mv rfl rfl ?_
     refine Tr.mv rfl rfl ?_
     obtain ⟨x182, hx182, H⟩ := bnd H
     obtain ⟨hx1820, hx1821, hx1822⟩ := idx_some hx182
     obtain ⟨u183, hRu183, hoku183, hcu183⟩ := (hp0_0).el hx1822
     obtain ⟨⟨Au183_0, cu183_0⟩, ⟨Au183_1, cu183_1⟩⟩ := u183
     obtain ⟨hoku183_0, hoku183_1⟩ := TPlotStep_ok.1 hoku183
     replace hoku183_0 : Sl w.R w.W fl_TPoint Au183_0 cu183_0 x182.Points := hoku183_0
     replace hoku183_1 : Sl w.R w.W fl_TPlotStep Au183_1 cu183_1 x182.Steps := hoku183_1
     refine Tr.va rfl (fun _ _ h1 h2 => run_indexAddr el_23 (h1.ev rfl) hp0_0.form (h1.ev rfl) hx1820 hx1821) ?_
     refine Tr.va rfl (fun _ _ h1 h2 => run_fieldAddr fo_84_6 (h1.ev rfl)) ?_
     refine Tr.va rfl (fun _ _ h1 h2 => run_load1 ag_23 (h1.ev rfl) (CellsAt.drop (rdR hRu183 hcu183 h2) 7) rfl) ?_
     obtain ⟨y184, hy184, H⟩ := bnd H
     refine Tr.call0 (r := (.int .i64 y184)) (wn rfl) rfl Tryd.call33 (evl_cons rfl evl_nil) (fun W hW => hrec x182.Steps Au183_1 cu183_1 (hoku183_1.ext hW.extAll) y184 hy184 (HF.start _)) ?_
     refine Tr.va rfl (fun _ _ h1 h2 => run_mul (h1.ev rfl) (h1.ev rfl)) ?_
     refine Tr.va rfl (fun _ _ h1 h2 => run_add (h1.ev rfl) (h1.ev rfl)) ?_
     refine Tr.asg rfl rfl ?_
     refine Tr.nil (Tr.normBlock (Tr.normThen ?_))
     refine Tr.region ?_
     refine Tr.mv rfl rfl ?_
     refine Tr.va rfl (fun _ _ h1 h2 => run_add (h1.ev rfl) (h1.ev rfl)) ?_
     refine Tr.asg rfl rfl ?_
     refine Tr.nil ?_
     exact Tr.backThen leF_etchhouseref3_count_L5 ((w64 ((w64 (x164 + 1)) + (w64 ((w64 (x171 * x179)) * y184)))), (w64 (x165 + 1))) H (.cons rfl (.cons rfl (.cons rfl .nil))) .nil
  ·refine Tr.exit (Tr.exitThen (Tr.exitThen (Tr.exitBlock (Tr.normThen ?_))))
   refine Tr.sr ?_
   refine Tr.mv rfl rfl ?_
   refine Tr.va rfl (fun _ _ h1 h2 => run_min (h1.ev rfl) (h1.ev rfl) _) ?_
   refine Tr.asg rfl rfl ?_
   refine Tr.nil (Tr.normThen ?_)
   refine Tr.ret ?_
   obtain rfl := Option.some.inj H
   exact Tr.out (m := [(.int .i64 (min x164 3001))]) [] (res_tmp rfl res_nil) (fun W hW => ⟨rfl, hW.low leB⟩)
theorem F_etchhouseref3_count_ok : ∀ (N : Nat) {w : Bs} (p0 : (List TPlotStep)) (Ap0_0 : Option Addr) (cp0_0 : Nat) (hp0_0 : Sl w.R w.W fl_TPlotStep Ap0_0 cp0_0 p0) (r : Int) (H : F_etchhouseref3_count N p0 = some r) (hE : HF w w.W E0), Calls Tryd.prog 33 [(.slice Ap0_0 (p0).length cp0_0)].toArray w.W fun e W' => e = .returned (.int .i64 r) ∧ HF w W' E0
 | 0 => by intros; rename_i H _; cases H
 | N + 1 => F_etchhouseref3_count_b_ok N (F_etchhouseref3_count N) (F_etchhouseref3_count_ok N)

theorem F_etchhouseref3_fields_ok {w : Bs} (p0 : TPlotStep) (Ap0_0 : Option Addr) (cp0_0 : Nat) (hp0_0 : Sl w.R w.W fl_TPoint Ap0_0 cp0_0 p0.Points) (Ap0_1 : Option Addr) (cp0_1 : Nat) (hp0_1 : Sl w.R w.W fl_TPlotStep Ap0_1 cp0_1 p0.Steps) (r : Bool) (H : F_etchhouseref3_fields p0 = some r) (hE : HF w w.W E0) : Calls Tryd.prog 92 [(.agg #[(.int .i64 p0.Kind), (.string p0.Name), (.int .i64 p0.At.X), (.int .i64 p0.At.Y), (.slice Ap0_0 (p0.Points).length cp0_0), (.int .i64 p0.NX), (.int .i64 p0.NY), (.slice Ap0_1 (p0.Steps).length cp0_1)])].toArray w.W fun e W' => e = .returned (.bool r) ∧ HF w W' E0 := by
 unfold F_etchhouseref3_fields at H
 have leB := Bs.Le.refl w
 refine Tr.enter (n := 62) Tryd.func92 rfl rfl rfl hE ?_
 refine Tr.sr ?_
 refine Tr.box 1 (cs := [(.int .i64 p0.Kind), (.string p0.Name), (.int .i64 p0.At.X), (.int .i64 p0.At.Y), (.slice Ap0_0 (p0.Points).length cp0_0), (.int .i64 p0.NX), (.int .i64 p0.NY), (.slice Ap0_1 (p0.Steps).length cp0_1)]) (wn rfl) rfl rfl rfl fun b100 => ?_
 refine Tr.asg rfl rfl ?_
 refine Tr.nil (Tr.normThen ?_)
 refine Tr.sr ?_
 refine Tr.asg rfl rfl ?_
 refine Tr.asg rfl rfl ?_
 refine Tr.asg rfl rfl ?_
 refine Tr.asg rfl rfl ?_
 refine Tr.nil (Tr.normThen ?_)
 have leJ108 := Bs.Le.refl w
 refine Tr.cutJ (σ := Bool × Bool × Bool × Bool) (fun w s => F_etchhouseref3_fields_J2 p0 s.1 s.2.1 s.2.2.1 s.2.2.2 = some r) (fun s => [(1, (.pointer (some ⟨b100, 0, none⟩))), (3, (.bool s.1)), (4, (.bool s.2.1)), (5, (.bool s.2.2.1)), (6, (.bool s.2.2.2))]) (fun s => [(1, bx b100 #[(.int .i64 p0.Kind), (.string p0.Name), (.int .i64 p0.At.X), (.int .i64 p0.At.Y), (.slice Ap0_0 (p0.Points).length cp0_0), (.int .i64 p0.NX), (.int .i64 p0.NY), (.slice Ap0_1 (p0.Steps).length cp0_1)] 84)]) ?_ ?_
 ·refine Tr.sr ?_
  refine Tr.va rfl (fun _ _ h1 h2 => run_fieldAddr fo_84_0 (h1.ev rfl)) ?_
  refine Tr.va rfl (fun _ _ h1 h2 => run_load1 ag_3 (h1.ev rfl) (rdb h2 (vs := [(.int .i64 p0.Kind), (.string p0.Name), (.int .i64 p0.At.X), (.int .i64 p0.At.Y), (.slice Ap0_0 (p0.Points).length cp0_0), (.int .i64 p0.NX), (.int .i64 p0.NY), (.slice Ap0_1 (p0.Steps).length cp0_1)]) (k := 1) rfl 0) rfl) ?_
  refine Tr.nil (Tr.normThen ?_)
  refine Tr.block ?_
  refine Tr.sr ?_
  refine Tr.va rfl (fun _ _ h1 h2 => run_eql (h1.ev rfl) (h1.ev rfl)) ?_
  refine Tr.asg rfl rfl ?_
  refine Tr.nil (Tr.normThen ?_)
  refine Tr.cond rfl H (fun H => ?_) (fun H => ?_)
  ·refine Tr.region ?_
   refine Tr.asg rfl rfl ?_
   refine Tr.nil (Tr.normBlock ?_)
   exact Tr.backThen leJ108 (true, false, false, false) H (.cons rfl (.cons rfl (.cons rfl (.cons rfl (.cons rfl .nil))))) (.cons rfl .nil)
  ·have leJ111 := Bs.Le.refl w
   refine Tr.cutJ (σ := Bool) (fun w s => F_etchhouseref3_fields_J3 p0 s = some r) (fun s => [(1, (.pointer (some ⟨b100, 0, none⟩))), (3, (.bool false)), (4, (.bool false)), (5, (.bool false)), (6, (.bool false)), (8, (.int .i64 p0.Kind)), (11, (.bool s))]) (fun s => [(1, bx b100 #[(.int .i64 p0.Kind), (.string p0.Name), (.int .i64 p0.At.X), (.int .i64 p0.At.Y), (.slice Ap0_0 (p0.Points).length cp0_0), (.int .i64 p0.NX), (.int .i64 p0.NY), (.slice Ap0_1 (p0.Steps).length cp0_1)] 84)]) ?_ ?_
   ·refine Tr.sr ?_
    refine Tr.va rfl (fun _ _ h1 h2 => run_eql (h1.ev rfl) (h1.ev rfl)) ?_
    refine Tr.asg rfl rfl ?_
    refine Tr.nil (Tr.normThen ?_)
    refine Tr.cond rfl H (fun H => ?_) (fun H => ?_)
    ·refine Tr.skip ?_
     exact Tr.backThen leJ111 (p0.Kind == 4) H (.cons rfl (.cons rfl (.cons rfl (.cons rfl (.cons rfl (.cons rfl (.cons rfl .nil))))))) (.cons rfl .nil)
    ·refine Tr.sr ?_
     refine Tr.va rfl (fun _ _ h1 h2 => run_eql (h1.ev rfl) (h1.ev rfl)) ?_
     refine Tr.asg rfl rfl ?_
     refine Tr.nil (Tr.normThen ?_)
     refine Tr.cond rfl H (fun H => ?_) (fun H => ?_)
     ·refine Tr.skip ?_
      exact Tr.backThen leJ111 (p0.Kind == 5) H (.cons rfl (.cons rfl (.cons rfl (.cons rfl (.cons rfl (.cons rfl (.cons rfl .nil))))))) (.cons rfl .nil)
     ·refine Tr.region ?_
      refine Tr.va rfl (fun _ _ h1 h2 => run_eql (h1.ev rfl) (h1.ev rfl)) ?_
      refine Tr.asg rfl rfl ?_
      refine Tr.nil ?_
      exact Tr.backThen leJ111 (p0.Kind == 6) H (.cons rfl (.cons rfl (.cons rfl (.cons rfl (.cons rfl (.cons rfl (.cons rfl .nil))))))) (.cons rfl .nil)
   ·intro w x110 hlJ112 hs
    have H := hs
    replace H : F_etchhouseref3_fields_J3 p0 x110 = some r := H
    replace hp0_0 := hp0_0.leR hlJ112
    replace hp0_1 := hp0_1.leR hlJ112
    replace leB := leB.trans hlJ112
    replace leJ108 := leJ108.trans hlJ112
    unfold F_etchhouseref3_fields_J3 at H
    show Tr _ _ (LF [(1, (.pointer (some ⟨b100, 0, none⟩))), (3, (.bool false)), (4, (.bool false)), (5, (.bool false)), (6, (.bool false)), (8, (.int .i64 p0.Kind)), (11, (.bool x110))]) (LE [(1, bx b100 #[(.int .i64 p0.Kind), (.string p0.Name), (.int .i64 p0.At.X), (.int .i64 p0.At.Y), (.slice Ap0_0 (p0.Points).length cp0_0), (.int .i64 p0.NX), (.int .i64 p0.NY), (.slice Ap0_1 (p0.Steps).length cp0_1)] 84)]) _
    refine Tr.cond rfl H (fun H => ?_) (fun H => ?_)
    ·refine Tr.region ?_
     refine Tr.asg rfl rfl ?_
     refine Tr.nil (Tr.normBlock ?_)
     exact Tr.backThen leJ108 (false, true, false, false) H (.cons rfl (.cons rfl (.cons rfl (.cons rfl (.cons rfl .nil))))) (.cons rfl .nil)
    ·refine Tr.sr ?_
     refine Tr.va rfl (fun _ _ h1 h2 => run_eql (h1.ev rfl) (h1.ev rfl)) ?_
     refine Tr.asg rfl rfl ?_
     refine Tr.nil (Tr.normThen ?_)
     refine Tr.cond rfl H (fun H => ?_) (fun H => ?_)
     ·refine Tr.region ?_
      refine Tr.asg rfl rfl ?_
      refine Tr.nil (Tr.normBlock ?_)
      exact Tr.backThen leJ108 (false, false, true, false) H (.cons rfl (.cons rfl (.cons rfl (.cons rfl (.cons rfl .nil))))) (.cons rfl .nil)
     ·refine Tr.sr ?_
      refine Tr.va rfl (fun _ _ h1 h2 => run_eql (h1.ev rfl) (h1.ev rfl)) ?_
      refine Tr.asg rfl rfl ?_
      refine Tr.nil (Tr.normThen ?_)
      refine Tr.cond rfl H (fun H => ?_) (fun H => ?_)
      ·refine Tr.region ?_
       refine Tr.asg rfl rfl ?_
       refine Tr.asg rfl rfl ?_
       refine Tr.nil (Tr.normBlock ?_)
       exact Tr.backThen leJ108 (false, true, false, true) H (.cons rfl (.cons rfl (.cons rfl (.cons rfl (.cons rfl .nil))))) (.cons rfl .nil)
      ·refine Tr.skip (Tr.normBlock ?_)
       exact Tr.backThen leJ108 (false, false, false, false) H (.cons rfl (.cons rfl (.cons rfl (.cons rfl (.cons rfl .nil))))) (.cons rfl .nil)
 ·intro w s hlJ109 hs
  obtain ⟨x104, x105, x106, x107⟩ := s
  have H := hs
  replace H : F_etchhouseref3_fields_J2 p0 x104 x105 x106 x107 = some r := H
  replace hp0_0 := hp0_0.leR hlJ109
  replace hp0_1 := hp0_1.leR hlJ109
  replace leB := leB.trans hlJ109
  unfold F_etchhouseref3_fields_J2 at H
  show Tr _ _ (LF [(1, (.pointer (some ⟨b100, 0, none⟩))), (3, (.bool x104)), (4, (.bool x105)), (5, (.bool x106)), (6, (.bool x107))]) (LE [(1, bx b100 #[(.int .i64 p0.Kind), (.string p0.Name), (.int .i64 p0.At.X), (.int .i64 p0.At.Y), (.slice Ap0_0 (p0.Points).length cp0_0), (.int .i64 p0.NX), (.int .i64 p0.NY), (.slice Ap0_1 (p0.Steps).length cp0_1)] 84)]) _
  refine Tr.sr ?_
  refine Tr.mv rfl rfl ?_
  refine Tr.mv rfl rfl ?_
  refine Tr.mid0 4 [(1, (.pointer (some ⟨b100, 0, none⟩))), (4, (.bool x105)), (5, (.bool x106)), (6, (.bool x107)), (24, (.bool (x104 || (sEq p0.Name ByteArray.empty))))] [(1, bx b100 #[(.int .i64 p0.Kind), (.string p0.Name), (.int .i64 p0.At.X), (.int .i64 p0.At.Y), (.slice Ap0_0 (p0.Points).length cp0_0), (.int .i64 p0.NX), (.int .i64 p0.NY), (.slice Ap0_1 (p0.Steps).length cp0_1)] 84)] ?_ ?_
  ·cases hg109 : x104
   ·refine Tr.val (wg rfl rfl rfl) rfl (fun _ _ h1 h2 => run_fieldAddr fo_84_1 (h1.ev rfl)) ?_
    refine Tr.val (wg rfl rfl rfl) rfl (fun _ _ h1 h2 => run_load1 ag_9 (h1.ev rfl) (rdb h2 (vs := [(.int .i64 p0.Kind), (.string p0.Name), (.int .i64 p0.At.X), (.int .i64 p0.At.Y), (.slice Ap0_0 (p0.Points).length cp0_0), (.int .i64 p0.NX), (.int .i64 p0.NY), (.slice Ap0_1 (p0.Steps).length cp0_1)]) (k := 1) rfl 1) rfl) ?_
    refine Tr.val (wg rfl rfl rfl) rfl (fun _ _ h1 h2 => run_eqlS (h1.ev rfl) (h1.ev rfl)) ?_
    refine Tr.va rfl (fun _ _ h1 h2 => run_pickF (h1.ev rfl) (h1.ev rfl)) ?_
    exact Tr.nil (Tr.fin0 (.cons rfl (.cons rfl (.cons rfl (.cons rfl (.cons rfl .nil))))) (.cons rfl .nil))
   ·refine Tr.pass rfl rfl rfl rfl rfl (by decide) ?_
    refine Tr.pass rfl rfl rfl rfl rfl (by decide) ?_
    refine Tr.pass rfl rfl rfl rfl rfl (by decide) ?_
    refine Tr.va rfl (fun _ _ h1 h2 => run_pickT (h1.ev rfl) (h1.ev rfl)) ?_
    exact Tr.nil (Tr.fin0 (.cons rfl (.cons rfl (.cons rfl (.cons rfl (.cons rfl .nil))))) (.cons rfl .nil))
  ·show Tr _ _ (LF [(1, (.pointer (some ⟨b100, 0, none⟩))), (4, (.bool x105)), (5, (.bool x106)), (6, (.bool x107)), (24, (.bool (x104 || (sEq p0.Name ByteArray.empty))))]) (LE [(1, bx b100 #[(.int .i64 p0.Kind), (.string p0.Name), (.int .i64 p0.At.X), (.int .i64 p0.At.Y), (.slice Ap0_0 (p0.Points).length cp0_0), (.int .i64 p0.NX), (.int .i64 p0.NY), (.slice Ap0_1 (p0.Steps).length cp0_1)] 84)]) _
   refine Tr.mv rfl rfl ?_
   refine Tr.mid0 8 [(1, (.pointer (some ⟨b100, 0, none⟩))), (5, (.bool x106)), (6, (.bool x107)), (33, (.bool ((x104 || (sEq p0.Name ByteArray.empty)) && (x105 || (eqTPoint p0.At (TPoint.mk 0 0))))))] [(1, bx b100 #[(.int .i64 p0.Kind), (.string p0.Name), (.int .i64 p0.At.X), (.int .i64 p0.At.Y), (.slice Ap0_0 (p0.Points).length cp0_0), (.int .i64 p0.NX), (.int .i64 p0.NY), (.slice Ap0_1 (p0.Steps).length cp0_1)] 84)] ?_ ?_
   ·cases hg109 : (x104 || (sEq p0.Name ByteArray.empty))
    ·refine Tr.pass rfl rfl rfl rfl rfl (by decide) ?_
     refine Tr.pass rfl rfl rfl rfl rfl (by decide) ?_
     refine Tr.passU rfl rfl rfl rfl (by decide) ?_
     refine Tr.passU rfl rfl rfl rfl (by decide) ?_
     refine Tr.passU rfl rfl rfl rfl (by decide) ?_
     refine Tr.passU rfl rfl rfl rfl (by decide) ?_
     refine Tr.pass rfl rfl rfl rfl rfl (by decide) ?_
     refine Tr.va rfl (fun _ _ h1 h2 => run_pickF (h1.ev rfl) (h1.ev rfl)) ?_
     exact Tr.nil (Tr.fin0 (.cons rfl (.cons rfl (.cons rfl (.cons rfl .nil)))) (.cons rfl .nil))
    ·refine Tr.val (wg rfl rfl rfl) rfl (fun _ _ h1 h2 => run_move (h1.ev rfl)) ?_
     refine Tr.val (wg rfl rfl rfl) rfl (fun _ _ h1 h2 => run_move (h1.ev rfl)) ?_
     refine Tr.mid0 5 [(1, (.pointer (some ⟨b100, 0, none⟩))), (5, (.bool x106)), (6, (.bool x107)), (25, (.bool true)), (32, (.bool (x105 || (eqTPoint p0.At (TPoint.mk 0 0)))))] [(1, bx b100 #[(.int .i64 p0.Kind), (.string p0.Name), (.int .i64 p0.At.X), (.int .i64 p0.At.Y), (.slice Ap0_0 (p0.Points).length cp0_0), (.int .i64 p0.NX), (.int .i64 p0.NY), (.slice Ap0_1 (p0.Steps).length cp0_1)] 84)] ?_ ?_
     ·cases hg109 : x105
      ·refine Tr.val (wg rfl rfl rfl) rfl (fun _ _ h1 h2 => run_fieldAddr fo_84_2 (h1.ev rfl)) ?_
       refine Tr.val (wg rfl rfl rfl) rfl (fun _ _ h1 h2 => run_loadN (cs := [(.int .i64 p0.At.X), (.int .i64 p0.At.Y)]) ag_37 sz_37 (h1.ev rfl) (CellsAt.take (rdb h2 (vs := [(.int .i64 p0.Kind), (.string p0.Name), (.int .i64 p0.At.X), (.int .i64 p0.At.Y), (.slice Ap0_0 (p0.Points).length cp0_0), (.int .i64 p0.NX), (.int .i64 p0.NY), (.slice Ap0_1 (p0.Steps).length cp0_1)]) (k := 1) rfl 2) 2) rfl) ?_
       refine Tr.build (vs := []) (cs := [(.int .i64 0), (.int .i64 0)]) (wg rfl rfl rfl) rfl evs_nil (by kernel_rfl) ?_
       refine Tr.val (wg rfl rfl rfl) rfl (fun _ _ h1 h2 => run_eql_37 p0.At (TPoint.mk 0 0) (h1.ev rfl) (h1.ev rfl)) ?_
       refine Tr.val (wg rfl rfl rfl) rfl (fun _ _ h1 h2 => run_pickF (h1.ev rfl) (h1.ev rfl)) ?_
       exact Tr.nil (Tr.fin0 (.cons rfl (.cons rfl (.cons rfl (.cons rfl (.cons rfl .nil))))) (.cons rfl .nil))
      ·refine Tr.pass rfl rfl rfl rfl rfl (by decide) ?_
       refine Tr.pass rfl rfl rfl rfl rfl (by decide) ?_
       refine Tr.pass rfl rfl rfl rfl rfl (by decide) ?_
       refine Tr.pass rfl rfl rfl rfl rfl (by decide) ?_
       refine Tr.val (wg rfl rfl rfl) rfl (fun _ _ h1 h2 => run_pickT (h1.ev rfl) (h1.ev rfl)) ?_
       exact Tr.nil (Tr.fin0 (.cons rfl (.cons rfl (.cons rfl (.cons rfl (.cons rfl .nil))))) (.cons rfl .nil))
     ·show Tr _ _ (LF [(1, (.pointer (some ⟨b100, 0, none⟩))), (5, (.bool x106)), (6, (.bool x107)), (25, (.bool true)), (32, (.bool (x105 || (eqTPoint p0.At (TPoint.mk 0 0)))))]) (LE [(1, bx b100 #[(.int .i64 p0.Kind), (.string p0.Name), (.int .i64 p0.At.X), (.int .i64 p0.At.Y), (.slice Ap0_0 (p0.Points).length cp0_0), (.int .i64 p0.NX), (.int .i64 p0.NY), (.slice Ap0_1 (p0.Steps).length cp0_1)] 84)]) _
      refine Tr.va rfl (fun _ _ h1 h2 => run_pickT (h1.ev rfl) (h1.ev rfl)) ?_
      exact Tr.nil (Tr.fin0 (.cons rfl (.cons rfl (.cons rfl (.cons rfl .nil)))) (.cons rfl .nil))
   ·show Tr _ _ (LF [(1, (.pointer (some ⟨b100, 0, none⟩))), (5, (.bool x106)), (6, (.bool x107)), (33, (.bool ((x104 || (sEq p0.Name ByteArray.empty)) && (x105 || (eqTPoint p0.At (TPoint.mk 0 0))))))]) (LE [(1, bx b100 #[(.int .i64 p0.Kind), (.string p0.Name), (.int .i64 p0.At.X), (.int .i64 p0.At.Y), (.slice Ap0_0 (p0.Points).length cp0_0), (.int .i64 p0.NX), (.int .i64 p0.NY), (.slice Ap0_1 (p0.Steps).length cp0_1)] 84)]) _
    refine Tr.mv rfl rfl ?_
    refine Tr.mid0 8 [(1, (.pointer (some ⟨b100, 0, none⟩))), (6, (.bool x107)), (42, (.bool (((x104 || (sEq p0.Name ByteArray.empty)) && (x105 || (eqTPoint p0.At (TPoint.mk 0 0)))) && (x106 || ((p0.Points.length : Int) == 0)))))] [(1, bx b100 #[(.int .i64 p0.Kind), (.string p0.Name), (.int .i64 p0.At.X), (.int .i64 p0.At.Y), (.slice Ap0_0 (p0.Points).length cp0_0), (.int .i64 p0.NX), (.int .i64 p0.NY), (.slice Ap0_1 (p0.Steps).length cp0_1)] 84)] ?_ ?_
    ·cases hg109 : ((x104 || (sEq p0.Name ByteArray.empty)) && (x105 || (eqTPoint p0.At (TPoint.mk 0 0))))
     ·refine Tr.pass rfl rfl rfl rfl rfl (by decide) ?_
      refine Tr.pass rfl rfl rfl rfl rfl (by decide) ?_
      refine Tr.passU rfl rfl rfl rfl (by decide) ?_
      refine Tr.passU rfl rfl rfl rfl (by decide) ?_
      refine Tr.passU rfl rfl rfl rfl (by decide) ?_
      refine Tr.passU rfl rfl rfl rfl (by decide) ?_
      refine Tr.pass rfl rfl rfl rfl rfl (by decide) ?_
      refine Tr.va rfl (fun _ _ h1 h2 => run_pickF (h1.ev rfl) (h1.ev rfl)) ?_
      exact Tr.nil (Tr.fin0 (.cons rfl (.cons rfl (.cons rfl .nil))) (.cons rfl .nil))
     ·refine Tr.val (wg rfl rfl rfl) rfl (fun _ _ h1 h2 => run_move (h1.ev rfl)) ?_
      refine Tr.val (wg rfl rfl rfl) rfl (fun _ _ h1 h2 => run_move (h1.ev rfl)) ?_
      refine Tr.mid0 5 [(1, (.pointer (some ⟨b100, 0, none⟩))), (6, (.bool x107)), (34, (.bool true)), (41, (.bool (x106 || ((p0.Points.length : Int) == 0))))] [(1, bx b100 #[(.int .i64 p0.Kind), (.string p0.Name), (.int .i64 p0.At.X), (.int .i64 p0.At.Y), (.slice Ap0_0 (p0.Points).length cp0_0), (.int .i64 p0.NX), (.int .i64 p0.NY), (.slice Ap0_1 (p0.Steps).length cp0_1)] 84)] ?_ ?_
      ·cases hg109 : x106
       ·refine Tr.val (wg rfl rfl rfl) rfl (fun _ _ h1 h2 => run_fieldAddr fo_84_3 (h1.ev rfl)) ?_
        refine Tr.val (wg rfl rfl rfl) rfl (fun _ _ h1 h2 => run_load1 ag_82 (h1.ev rfl) (rdb h2 (vs := [(.int .i64 p0.Kind), (.string p0.Name), (.int .i64 p0.At.X), (.int .i64 p0.At.Y), (.slice Ap0_0 (p0.Points).length cp0_0), (.int .i64 p0.NX), (.int .i64 p0.NY), (.slice Ap0_1 (p0.Steps).length cp0_1)]) (k := 1) rfl 4) rfl) ?_
        refine Tr.val (wg rfl rfl rfl) rfl (fun _ _ h1 h2 => run_len un_82 (h1.ev rfl)) ?_
        refine Tr.val (wg rfl rfl rfl) rfl (fun _ _ h1 h2 => run_eql (h1.ev rfl) (h1.ev rfl)) ?_
        refine Tr.val (wg rfl rfl rfl) rfl (fun _ _ h1 h2 => run_pickF (h1.ev rfl) (h1.ev rfl)) ?_
        exact Tr.nil (Tr.fin0 (.cons rfl (.cons rfl (.cons rfl (.cons rfl .nil)))) (.cons rfl .nil))
       ·refine Tr.pass rfl rfl rfl rfl rfl (by decide) ?_
        refine Tr.pass rfl rfl rfl rfl rfl (by decide) ?_
        refine Tr.pass rfl rfl rfl rfl rfl (by decide) ?_
        refine Tr.pass rfl rfl rfl rfl rfl (by decide) ?_
        refine Tr.val (wg rfl rfl rfl) rfl (fun _ _ h1 h2 => run_pickT (h1.ev rfl) (h1.ev rfl)) ?_
        exact Tr.nil (Tr.fin0 (.cons rfl (.cons rfl (.cons rfl (.cons rfl .nil)))) (.cons rfl .nil))
      ·show Tr _ _ (LF [(1, (.pointer (some ⟨b100, 0, none⟩))), (6, (.bool x107)), (34, (.bool true)), (41, (.bool (x106 || ((p0.Points.length : Int) == 0))))]) (LE [(1, bx b100 #[(.int .i64 p0.Kind), (.string p0.Name), (.int .i64 p0.At.X), (.int .i64 p0.At.Y), (.slice Ap0_0 (p0.Points).length cp0_0), (.int .i64 p0.NX), (.int .i64 p0.NY), (.slice Ap0_1 (p0.Steps).length cp0_1)] 84)]) _
       refine Tr.va rfl (fun _ _ h1 h2 => run_pickT (h1.ev rfl) (h1.ev rfl)) ?_
       exact Tr.nil (Tr.fin0 (.cons rfl (.cons rfl (.cons rfl .nil))) (.cons rfl .nil))
    ·show Tr _ _ (LF [(1, (.pointer (some ⟨b100, 0, none⟩))), (6, (.bool x107)), (42, (.bool (((x104 || (sEq p0.Name ByteArray.empty)) && (x105 || (eqTPoint p0.At (TPoint.mk 0 0)))) && (x106 || ((p0.Points.length : Int) == 0)))))]) (LE [(1, bx b100 #[(.int .i64 p0.Kind), (.string p0.Name), (.int .i64 p0.At.X), (.int .i64 p0.At.Y), (.slice Ap0_0 (p0.Points).length cp0_0), (.int .i64 p0.NX), (.int .i64 p0.NY), (.slice Ap0_1 (p0.Steps).length cp0_1)] 84)]) _
     refine Tr.mv rfl rfl ?_
     refine Tr.mid0 18 [(61, (.bool ((((x104 || (sEq p0.Name ByteArray.empty)) && (x105 || (eqTPoint p0.At (TPoint.mk 0 0)))) && (x106 || ((p0.Points.length : Int) == 0))) && (x107 || (((p0.NX == 0) && (p0.NY == 0)) && ((p0.Steps.length : Int) == 0))))))] [(1, bx b100 #[(.int .i64 p0.Kind), (.string p0.Name), (.int .i64 p0.At.X), (.int .i64 p0.At.Y), (.slice Ap0_0 (p0.Points).length cp0_0), (.int .i64 p0.NX), (.int .i64 p0.NY), (.slice Ap0_1 (p0.Steps).length cp0_1)] 84)] ?_ ?_
     ·cases hg109 : (((x104 || (sEq p0.Name ByteArray.empty)) && (x105 || (eqTPoint p0.At (TPoint.mk 0 0)))) && (x106 || ((p0.Points.length : Int) == 0)))
      ·refine Tr.pass rfl rfl rfl rfl rfl (by decide) ?_
       refine Tr.pass rfl rfl rfl rfl rfl (by decide) ?_
       refine Tr.passU rfl rfl rfl rfl (by decide) ?_
       refine Tr.passU rfl rfl rfl rfl (by decide) ?_
       refine Tr.passU rfl rfl rfl rfl (by decide) ?_
       refine Tr.passU rfl rfl rfl rfl (by decide) ?_
       refine Tr.passU rfl rfl rfl rfl (by decide) ?_
       refine Tr.passU rfl rfl rfl rfl (by decide) ?_
       refine Tr.passU rfl rfl rfl rfl (by decide) ?_
       refine Tr.passU rfl rfl rfl rfl (by decide) ?_
       refine Tr.passU rfl rfl rfl rfl (by decide) ?_
       refine Tr.passU rfl rfl rfl rfl (by decide) ?_
       refine Tr.passU rfl rfl rfl rfl (by decide) ?_
       refine Tr.passU rfl rfl rfl rfl (by decide) ?_
       refine Tr.passU rfl rfl rfl rfl (by decide) ?_
       refine Tr.passU rfl rfl rfl rfl (by decide) ?_
       refine Tr.pass rfl rfl rfl rfl rfl (by decide) ?_
       refine Tr.va rfl (fun _ _ h1 h2 => run_pickF (h1.ev rfl) (h1.ev rfl)) ?_
       exact Tr.nil (Tr.fin0 (.cons rfl .nil) (.cons rfl .nil))
      ·refine Tr.val (wg rfl rfl rfl) rfl (fun _ _ h1 h2 => run_move (h1.ev rfl)) ?_
       refine Tr.val (wg rfl rfl rfl) rfl (fun _ _ h1 h2 => run_move (h1.ev rfl)) ?_
       refine Tr.mid0 15 [(43, (.bool true)), (60, (.bool (x107 || (((p0.NX == 0) && (p0.NY == 0)) && ((p0.Steps.length : Int) == 0)))))] [(1, bx b100 #[(.int .i64 p0.Kind), (.string p0.Name), (.int .i64 p0.At.X), (.int .i64 p0.At.Y), (.slice Ap0_0 (p0.Points).length cp0_0), (.int .i64 p0.NX), (.int .i64 p0.NY), (.slice Ap0_1 (p0.Steps).length cp0_1)] 84)] ?_ ?_
       ·cases hg109 : x107
        ·refine Tr.val (wg rfl rfl rfl) rfl (fun _ _ h1 h2 => run_fieldAddr fo_84_4 (h1.ev rfl)) ?_
         refine Tr.val (wg rfl rfl rfl) rfl (fun _ _ h1 h2 => run_load1 ag_3 (h1.ev rfl) (rdb h2 (vs := [(.int .i64 p0.Kind), (.string p0.Name), (.int .i64 p0.At.X), (.int .i64 p0.At.Y), (.slice Ap0_0 (p0.Points).length cp0_0), (.int .i64 p0.NX), (.int .i64 p0.NY), (.slice Ap0_1 (p0.Steps).length cp0_1)]) (k := 1) rfl 5) rfl) ?_
         refine Tr.val (wg rfl rfl rfl) rfl (fun _ _ h1 h2 => run_eql (h1.ev rfl) (h1.ev rfl)) ?_
         refine Tr.val (wg rfl rfl rfl) rfl (fun _ _ h1 h2 => run_move (h1.ev rfl)) ?_
         refine Tr.mid0 4 [(1, (.pointer (some ⟨b100, 0, none⟩))), (43, (.bool true)), (45, (.bool false)), (53, (.bool ((p0.NX == 0) && (p0.NY == 0))))] [(1, bx b100 #[(.int .i64 p0.Kind), (.string p0.Name), (.int .i64 p0.At.X), (.int .i64 p0.At.Y), (.slice Ap0_0 (p0.Points).length cp0_0), (.int .i64 p0.NX), (.int .i64 p0.NY), (.slice Ap0_1 (p0.Steps).length cp0_1)] 84)] ?_ ?_
         ·cases hg109 : (p0.NX == 0)
          ·refine Tr.pass rfl rfl rfl rfl rfl (by decide) ?_
           refine Tr.pass rfl rfl rfl rfl rfl (by decide) ?_
           refine Tr.pass rfl rfl rfl rfl rfl (by decide) ?_
           refine Tr.val (wg rfl rfl rfl) rfl (fun _ _ h1 h2 => run_pickF (h1.ev rfl) (h1.ev rfl)) ?_
           exact Tr.nil (Tr.fin0 (.cons rfl (.cons rfl (.cons rfl (.cons rfl .nil)))) (.cons rfl .nil))
          ·refine Tr.val (wg rfl rfl rfl) rfl (fun _ _ h1 h2 => run_fieldAddr fo_84_5 (h1.ev rfl)) ?_
           refine Tr.val (wg rfl rfl rfl) rfl (fun _ _ h1 h2 => run_load1 ag_3 (h1.ev rfl) (rdb h2 (vs := [(.int .i64 p0.Kind), (.string p0.Name), (.int .i64 p0.At.X), (.int .i64 p0.At.Y), (.slice Ap0_0 (p0.Points).length cp0_0), (.int .i64 p0.NX), (.int .i64 p0.NY), (.slice Ap0_1 (p0.Steps).length cp0_1)]) (k := 1) rfl 6) rfl) ?_
           refine Tr.val (wg rfl rfl rfl) rfl (fun _ _ h1 h2 => run_eql (h1.ev rfl) (h1.ev rfl)) ?_
           refine Tr.val (wg rfl rfl rfl) rfl (fun _ _ h1 h2 => run_pickT (h1.ev rfl) (h1.ev rfl)) ?_
           exact Tr.nil (Tr.fin0 (.cons rfl (.cons rfl (.cons rfl (.cons rfl .nil)))) (.cons rfl .nil))
         ·show Tr _ _ (LF [(1, (.pointer (some ⟨b100, 0, none⟩))), (43, (.bool true)), (45, (.bool false)), (53, (.bool ((p0.NX == 0) && (p0.NY == 0))))]) (LE [(1, bx b100 #[(.int .i64 p0.Kind), (.string p0.Name), (.int .i64 p0.At.X), (.int .i64 p0.At.Y), (.slice Ap0_0 (p0.Points).length cp0_0), (.int .i64 p0.NX), (.int .i64 p0.NY), (.slice Ap0_1 (p0.Steps).length cp0_1)] 84)]) _
          refine Tr.val (wg rfl rfl rfl) rfl (fun _ _ h1 h2 => run_move (h1.ev rfl)) ?_
          refine Tr.mid0 5 [(43, (.bool true)), (45, (.bool false)), (59, (.bool (((p0.NX == 0) && (p0.NY == 0)) && ((p0.Steps.length : Int) == 0))))] [(1, bx b100 #[(.int .i64 p0.Kind), (.string p0.Name), (.int .i64 p0.At.X), (.int .i64 p0.At.Y), (.slice Ap0_0 (p0.Points).length cp0_0), (.int .i64 p0.NX), (.int .i64 p0.NY), (.slice Ap0_1 (p0.Steps).length cp0_1)] 84)] ?_ ?_
          ·cases hg109 : ((p0.NX == 0) && (p0.NY == 0))
           ·refine Tr.pass rfl rfl rfl rfl rfl (by decide) ?_
            refine Tr.pass rfl rfl rfl rfl rfl (by decide) ?_
            refine Tr.pass rfl rfl rfl rfl rfl (by decide) ?_
            refine Tr.pass rfl rfl rfl rfl rfl (by decide) ?_
            refine Tr.val (wg rfl rfl rfl) rfl (fun _ _ h1 h2 => run_pickF (h1.ev rfl) (h1.ev rfl)) ?_
            exact Tr.nil (Tr.fin0 (.cons rfl (.cons rfl (.cons rfl .nil))) (.cons rfl .nil))
           ·refine Tr.val (wg rfl rfl rfl) rfl (fun _ _ h1 h2 => run_fieldAddr fo_84_6 (h1.ev rfl)) ?_
            refine Tr.val (wg rfl rfl rfl) rfl (fun _ _ h1 h2 => run_load1 ag_23 (h1.ev rfl) (rdb h2 (vs := [(.int .i64 p0.Kind), (.string p0.Name), (.int .i64 p0.At.X), (.int .i64 p0.At.Y), (.slice Ap0_0 (p0.Points).length cp0_0), (.int .i64 p0.NX), (.int .i64 p0.NY), (.slice Ap0_1 (p0.Steps).length cp0_1)]) (k := 1) rfl 7) rfl) ?_
            refine Tr.val (wg rfl rfl rfl) rfl (fun _ _ h1 h2 => run_len un_23 (h1.ev rfl)) ?_
            refine Tr.val (wg rfl rfl rfl) rfl (fun _ _ h1 h2 => run_eql (h1.ev rfl) (h1.ev rfl)) ?_
            refine Tr.val (wg rfl rfl rfl) rfl (fun _ _ h1 h2 => run_pickT (h1.ev rfl) (h1.ev rfl)) ?_
            exact Tr.nil (Tr.fin0 (.cons rfl (.cons rfl (.cons rfl .nil))) (.cons rfl .nil))
          ·show Tr _ _ (LF [(43, (.bool true)), (45, (.bool false)), (59, (.bool (((p0.NX == 0) && (p0.NY == 0)) && ((p0.Steps.length : Int) == 0))))]) (LE [(1, bx b100 #[(.int .i64 p0.Kind), (.string p0.Name), (.int .i64 p0.At.X), (.int .i64 p0.At.Y), (.slice Ap0_0 (p0.Points).length cp0_0), (.int .i64 p0.NX), (.int .i64 p0.NY), (.slice Ap0_1 (p0.Steps).length cp0_1)] 84)]) _
           refine Tr.val (wg rfl rfl rfl) rfl (fun _ _ h1 h2 => run_pickF (h1.ev rfl) (h1.ev rfl)) ?_
           exact Tr.nil (Tr.fin0 (.cons rfl (.cons rfl .nil)) (.cons rfl .nil))
        ·refine Tr.pass rfl rfl rfl rfl rfl (by decide) ?_
         refine Tr.pass rfl rfl rfl rfl rfl (by decide) ?_
         refine Tr.pass rfl rfl rfl rfl rfl (by decide) ?_
         refine Tr.pass rfl rfl rfl rfl rfl (by decide) ?_
         refine Tr.passU rfl rfl rfl rfl (by decide) ?_
         refine Tr.passU rfl rfl rfl rfl (by decide) ?_
         refine Tr.passU rfl rfl rfl rfl (by decide) ?_
         refine Tr.pass rfl rfl rfl rfl rfl (by decide) ?_
         refine Tr.pass rfl rfl rfl rfl rfl (by decide) ?_
         refine Tr.passU rfl rfl rfl rfl (by decide) ?_
         refine Tr.passU rfl rfl rfl rfl (by decide) ?_
         refine Tr.passU rfl rfl rfl rfl (by decide) ?_
         refine Tr.passU rfl rfl rfl rfl (by decide) ?_
         refine Tr.pass rfl rfl rfl rfl rfl (by decide) ?_
         refine Tr.val (wg rfl rfl rfl) rfl (fun _ _ h1 h2 => run_pickT (h1.ev rfl) (h1.ev rfl)) ?_
         exact Tr.nil (Tr.fin0 (.cons rfl (.cons rfl .nil)) (.cons rfl .nil))
       ·show Tr _ _ (LF [(43, (.bool true)), (60, (.bool (x107 || (((p0.NX == 0) && (p0.NY == 0)) && ((p0.Steps.length : Int) == 0)))))]) (LE [(1, bx b100 #[(.int .i64 p0.Kind), (.string p0.Name), (.int .i64 p0.At.X), (.int .i64 p0.At.Y), (.slice Ap0_0 (p0.Points).length cp0_0), (.int .i64 p0.NX), (.int .i64 p0.NY), (.slice Ap0_1 (p0.Steps).length cp0_1)] 84)]) _
        refine Tr.va rfl (fun _ _ h1 h2 => run_pickT (h1.ev rfl) (h1.ev rfl)) ?_
        exact Tr.nil (Tr.fin0 (.cons rfl .nil) (.cons rfl .nil))
     ·show Tr _ _ (LF [(61, (.bool ((((x104 || (sEq p0.Name ByteArray.empty)) && (x105 || (eqTPoint p0.At (TPoint.mk 0 0)))) && (x106 || ((p0.Points.length : Int) == 0))) && (x107 || (((p0.NX == 0) && (p0.NY == 0)) && ((p0.Steps.length : Int) == 0))))))]) (LE [(1, bx b100 #[(.int .i64 p0.Kind), (.string p0.Name), (.int .i64 p0.At.X), (.int .i64 p0.At.Y), (.slice Ap0_0 (p0.Points).length cp0_0), (.int .i64 p0.NX), (.int .i64 p0.NY), (.slice Ap0_1 (p0.Steps).length cp0_1)] 84)]) _
      refine Tr.asg rfl rfl ?_
      refine Tr.nil (Tr.normThen ?_)
      refine Tr.ret ?_
      obtain rfl := Option.some.inj H
      exact Tr.out (m := [(.bool ((((x104 || (sEq p0.Name ByteArray.empty)) && (x105 || (eqTPoint p0.At (TPoint.mk 0 0)))) && (x106 || ((p0.Points.length : Int) == 0))) && (x107 || (((p0.NX == 0) && (p0.NY == 0)) && ((p0.Steps.length : Int) == 0)))))]) [] (res_tmp rfl res_nil) (fun W hW => ⟨rfl, hW.low leB⟩)

theorem F_etchhouseref3_tool_ok (N : Nat) {w : Bs} (p0 : TPlot) (Ap0_0 : Option Addr) (cp0_0 : Nat) (hp0_0 : Sl w.R w.W fl_TPlotTool Ap0_0 cp0_0 p0.Tools) (Ap0_1 : Option Addr) (cp0_1 : Nat) (hp0_1 : Sl w.R w.W fl_TPlotStep Ap0_1 cp0_1 p0.Steps) (p1 : ByteArray) (r : Int) (H : F_etchhouseref3_tool N p0 p1 = some r) (hE : HF w w.W E0) : Calls Tryd.prog 93 [(.agg #[(.int .i64 p0.Unit), (.slice Ap0_0 (p0.Tools).length cp0_0), (.slice Ap0_1 (p0.Steps).length cp0_1)]), (.string p1)].toArray w.W fun e W' => e = .returned (.int .i64 r) ∧ HF w W' E0 := by
 unfold F_etchhouseref3_tool at H
 have leB := Bs.Le.refl w
 refine Tr.enter (n := 22) Tryd.func93 rfl rfl rfl hE ?_
 refine Tr.sr ?_
 refine Tr.box 1 (cs := [(.int .i64 p0.Unit), (.slice Ap0_0 (p0.Tools).length cp0_0), (.slice Ap0_1 (p0.Steps).length cp0_1)]) (wn rfl) rfl rfl rfl fun b100 => ?_
 refine Tr.asg rfl rfl ?_
 refine Tr.nil (Tr.normThen ?_)
 refine Tr.seq ?_
 refine Tr.sr ?_
 refine Tr.asg rfl rfl ?_
 refine Tr.nil (Tr.normThen ?_)
 refine Tr.block ?_
 refine Tr.loop (σ := Int) (fun m w s => F_etchhouseref3_tool_L1 p0 p1 m s = some r) (fun s => [(1, (.string p1)), (2, (.pointer (some ⟨b100, 0, none⟩))), (5, (.int .i64 s))]) (fun s => [(1, bx b100 #[(.int .i64 p0.Unit), (.slice Ap0_0 (p0.Tools).length cp0_0), (.slice Ap0_1 (p0.Steps).length cp0_1)] 25)]) N 0 H (.cons rfl (.cons rfl (.cons rfl .nil))) (.cons rfl .nil) (fun _ _ h => noSome (h)) ?_
 intro w leF_etchhouseref3_tool_L1 mF_etchhouseref3_tool_L1 x108 hs
 have H := hs
 replace H : F_etchhouseref3_tool_L1 p0 p1 (mF_etchhouseref3_tool_L1 + 1) x108 = some r := H
 replace hp0_0 := hp0_0.leR leF_etchhouseref3_tool_L1
 replace hp0_1 := hp0_1.leR leF_etchhouseref3_tool_L1
 replace leB := leB.trans leF_etchhouseref3_tool_L1
 rw [F_etchhouseref3_tool_L1.eq_2] at H
 show Tr _ _ (LF [(1, (.string p1)), (2, (.pointer (some ⟨b100, 0, none⟩))), (5, (.int .i64 x108))]) (LE [(1, bx b100 #[(.int .i64 p0.Unit), (.slice Ap0_0 (p0.Tools).length cp0_0), (.slice Ap0_1 (p0.Steps).length cp0_1)] 25)]) _
 refine Tr.seq ?_
 refine Tr.sr ?_
 refine Tr.mv rfl rfl ?_
 refine Tr.va rfl (fun _ _ h1 h2 => run_fieldAddr fo_25_1 (h1.ev rfl)) ?_
 refine Tr.va rfl (fun _ _ h1 h2 => run_load1 ag_22 (h1.ev rfl) (rdb h2 (vs := [(.int .i64 p0.Unit), (.slice Ap0_0 (p0.Tools).length cp0_0), (.slice Ap0_1 (p0.Steps).length cp0_1)]) (k := 1) rfl 1) rfl) ?_
 refine Tr.va rfl (fun _ _ h1 h2 => run_len un_22 (h1.ev rfl)) ?_
 refine Tr.va rfl (fun _ _ h1 h2 => run_lss (h1.ev rfl) (h1.ev rfl)) ?_
 refine Tr.nil (Tr.normThen ?_)
 refine Tr.cond rfl H (fun H => ?_) (fun H => ?_)
 ·refine Tr.skip (Tr.normThen ?_)
  refine Tr.seq ?_
  refine Tr.block ?_
  refine Tr.sr ?_
  refine Tr.va rfl (fun _ _ h1 h2 => run_fieldAddr fo_25_1 (h1.ev rfl)) ?_
  refine Tr.va rfl (fun _ _ h1 h2 => run_load1 ag_22 (h1.ev rfl) (rdb h2 (vs := [(.int .i64 p0.Unit), (.slice Ap0_0 (p0.Tools).length cp0_0), (.slice Ap0_1 (p0.Steps).length cp0_1)]) (k := 1) rfl 1) rfl) ?_
  refine Tr.mv rfl rfl ?_
  obtain ⟨x109, hx109, H⟩ := bnd H
  obtain ⟨hx1090, hx1091, hx1092⟩ := idx_some hx109
  obtain ⟨u110, hRu110, hoku110, hcu110⟩ := (hp0_0).el hx1092
  obtain ⟨Au110_0, cu110_0⟩ := u110
  have hoku110_0 := hoku110
  replace hoku110_0 : Sl w.R w.W fl_TRect Au110_0 cu110_0 x109.Rects := hoku110_0
  refine Tr.va rfl (fun _ _ h1 h2 => run_indexAddr el_22 (h1.ev rfl) hp0_0.form (h1.ev rfl) hx1090 hx1091) ?_
  refine Tr.va rfl (fun _ _ h1 h2 => run_fieldAddr fo_55_0 (h1.ev rfl)) ?_
  refine Tr.va rfl (fun _ _ h1 h2 => run_load1 ag_9 (h1.ev rfl) (CellsAt.drop (rdR hRu110 hcu110 h2) 0) rfl) ?_
  refine Tr.mv rfl rfl ?_
  refine Tr.va rfl (fun _ _ h1 h2 => run_eqlS (h1.ev rfl) (h1.ev rfl)) ?_
  refine Tr.nil (Tr.normThen ?_)
  refine Tr.cond rfl H (fun H => ?_) (fun H => ?_)
  ·refine Tr.sr ?_
   refine Tr.mv rfl rfl ?_
   refine Tr.asg rfl rfl ?_
   refine Tr.nil (Tr.normThen ?_)
   refine Tr.ret (Tr.retBlock (Tr.retThen (Tr.retThen (Tr.retBlock (Tr.retThen ?_)))))
   obtain rfl := Option.some.inj H
   exact Tr.out (m := [(.int .i64 x108)]) [] (res_tmp rfl res_nil) (fun W hW => ⟨rfl, hW.low leB⟩)
  ·refine Tr.skip (Tr.normBlock (Tr.normThen ?_))
   refine Tr.region ?_
   refine Tr.mv rfl rfl ?_
   refine Tr.va rfl (fun _ _ h1 h2 => run_add (h1.ev rfl) (h1.ev rfl)) ?_
   refine Tr.asg rfl rfl ?_
   refine Tr.nil ?_
   exact Tr.backThen leF_etchhouseref3_tool_L1 (w64 (x108 + 1)) H (.cons rfl (.cons rfl (.cons rfl .nil))) (.cons rfl .nil)
 ·refine Tr.exit (Tr.exitThen (Tr.exitThen (Tr.exitBlock (Tr.normThen ?_))))
  refine Tr.sr ?_
  refine Tr.asg rfl rfl ?_
  refine Tr.nil (Tr.normThen ?_)
  refine Tr.ret ?_
  obtain rfl := Option.some.inj H
  exact Tr.out (m := [(.int .i64 (-1))]) [] (res_tmp rfl res_nil) (fun W hW => ⟨rfl, hW.low leB⟩)

theorem F_etchhouseref3_pointFits_ok {w : Bs} (p0 : TPoint) (p1 : Int) (r : Bool) (H : F_etchhouseref3_pointFits p0 p1 = some r) (hE : HF w w.W E0) : Calls Tryd.prog 94 [(.agg #[(.int .i64 p0.X), (.int .i64 p0.Y)]), (.int .i64 p1)].toArray w.W fun e W' => e = .returned (.bool r) ∧ HF w W' E0 := by
 unfold F_etchhouseref3_pointFits at H
 have leB := Bs.Le.refl w
 refine Tr.enter (n := 15) Tryd.func94 rfl rfl rfl hE ?_
 refine Tr.sr ?_
 refine Tr.box 1 (cs := [(.int .i64 p0.X), (.int .i64 p0.Y)]) (wn rfl) rfl rfl rfl fun b100 => ?_
 refine Tr.asg rfl rfl ?_
 refine Tr.nil (Tr.normThen ?_)
 refine Tr.sr ?_
 refine Tr.va rfl (fun _ _ h1 h2 => run_fieldAddr fo_37_0 (h1.ev rfl)) ?_
 refine Tr.va rfl (fun _ _ h1 h2 => run_load1 ag_3 (h1.ev rfl) (rdb h2 (vs := [(.int .i64 p0.X), (.int .i64 p0.Y)]) (k := 1) rfl 0) rfl) ?_
 refine Tr.mv rfl rfl ?_
 obtain ⟨y101, hy101, H⟩ := bnd H
 refine Tr.call0 (r := (.bool y101)) (wn rfl) rfl Tryd.call66 (evl_cons rfl (evl_cons rfl evl_nil)) (fun W hW => F_etchhouseref3_fits_ok p0.X p1 y101 hy101 (HF.start _)) ?_
 refine Tr.mv rfl rfl ?_
 obtain ⟨g103, hg103, H⟩ := bnd H
 refine Tr.mid0 5 [(14, (.bool g103))] [(1, bx b100 #[(.int .i64 p0.X), (.int .i64 p0.Y)] 37)] ?_ ?_
 ·cases hg104 : y101
  ·rw [hg104] at hg103
   rw [if_neg (by decide)] at hg103
   have H := hg103
   obtain rfl := Option.some.inj H
   refine Tr.pass rfl rfl rfl rfl rfl (by decide) ?_
   refine Tr.pass rfl rfl rfl rfl rfl (by decide) ?_
   refine Tr.pass rfl rfl rfl rfl rfl (by decide) ?_
   refine Tr.pass rfl rfl rfl rfl rfl (by decide) ?_
   refine Tr.va rfl (fun _ _ h1 h2 => run_pickF (h1.ev rfl) (h1.ev rfl)) ?_
   exact Tr.nil (Tr.fin0 (.cons rfl .nil) (.cons rfl .nil))
  ·rw [hg104] at hg103
   rw [if_pos rfl] at hg103
   have H := hg103
   refine Tr.val (wg rfl rfl rfl) rfl (fun _ _ h1 h2 => run_fieldAddr fo_37_1 (h1.ev rfl)) ?_
   refine Tr.val (wg rfl rfl rfl) rfl (fun _ _ h1 h2 => run_load1 ag_3 (h1.ev rfl) (rdb h2 (vs := [(.int .i64 p0.X), (.int .i64 p0.Y)]) (k := 1) rfl 1) rfl) ?_
   refine Tr.val (wg rfl rfl rfl) rfl (fun _ _ h1 h2 => run_move (h1.ev rfl)) ?_
   obtain ⟨y104, hy104, H⟩ := bnd H
   refine Tr.call0 (r := (.bool y104)) (wg rfl rfl rfl) rfl Tryd.call66 (evl_cons rfl (evl_cons rfl evl_nil)) (fun W hW => F_etchhouseref3_fits_ok p0.Y p1 y104 hy104 (HF.start _)) ?_
   refine Tr.va rfl (fun _ _ h1 h2 => run_pickT (h1.ev rfl) (h1.ev rfl)) ?_
   obtain rfl := Option.some.inj H
   exact Tr.nil (Tr.fin0 (.cons rfl .nil) (.cons rfl .nil))
 ·show Tr _ _ (LF [(14, (.bool g103))]) (LE [(1, bx b100 #[(.int .i64 p0.X), (.int .i64 p0.Y)] 37)]) _
  refine Tr.asg rfl rfl ?_
  refine Tr.nil (Tr.normThen ?_)
  refine Tr.ret ?_
  obtain rfl := Option.some.inj H
  exact Tr.out (m := [(.bool g103)]) [] (res_tmp rfl res_nil) (fun W hW => ⟨rfl, hW.low leB⟩)

theorem F_etchhouseref3_checkArea_ok (N : Nat) {w : Bs} (p0 : (List TPoint)) (Ap0_0 : Option Addr) (cp0_0 : Nat) (hp0_0 : Sl w.R w.W fl_TPoint Ap0_0 cp0_0 p0) (p1 : Int) (r : Int) (H : F_etchhouseref3_checkArea N p0 p1 = some r) (hE : HF w w.W E0) : Calls Tryd.prog 95 [(.slice Ap0_0 (p0).length cp0_0), (.int .i64 p1)].toArray w.W fun e W' => e = .returned (.int .i64 r) ∧ HF w W' E0 := by
 unfold F_etchhouseref3_checkArea at H
 have leB := Bs.Le.refl w
 refine Tr.enter (n := 57) Tryd.func95 rfl rfl rfl hE ?_
 refine Tr.sr ?_
 refine Tr.asg rfl rfl ?_
 refine Tr.nil (Tr.normThen ?_)
 refine Tr.seq ?_
 refine Tr.sr ?_
 refine Tr.asg rfl rfl ?_
 refine Tr.nil (Tr.normThen ?_)
 refine Tr.block ?_
 refine Tr.loop (σ := Int) (fun m w s => F_etchhouseref3_checkArea_L1 N p0 p1 m s = some r) (fun s => [(0, (.slice Ap0_0 (p0).length cp0_0)), (1, (.int .i64 p1)), (5, (.int .i64 s))]) (fun s => []) N 0 H (.cons rfl (.cons rfl (.cons rfl .nil))) .nil (fun _ _ h => noSome (h)) ?_
 intro w leF_etchhouseref3_checkArea_L1 mF_etchhouseref3_checkArea_L1 x107 hs
 have H := hs
 replace H : F_etchhouseref3_checkArea_L1 N p0 p1 (mF_etchhouseref3_checkArea_L1 + 1) x107 = some r := H
 replace hp0_0 := hp0_0.leR leF_etchhouseref3_checkArea_L1
 replace leB := leB.trans leF_etchhouseref3_checkArea_L1
 rw [F_etchhouseref3_checkArea_L1.eq_2] at H
 show Tr _ _ (LF [(0, (.slice Ap0_0 (p0).length cp0_0)), (1, (.int .i64 p1)), (5, (.int .i64 x107))]) (LE []) _
 refine Tr.seq ?_
 refine Tr.sr ?_
 refine Tr.mv rfl rfl ?_
 refine Tr.mv rfl rfl ?_
 refine Tr.va rfl (fun _ _ h1 h2 => run_len un_82 (h1.ev rfl)) ?_
 refine Tr.va rfl (fun _ _ h1 h2 => run_lss (h1.ev rfl) (h1.ev rfl)) ?_
 refine Tr.nil (Tr.normThen ?_)
 refine Tr.cond rfl H (fun H => ?_) (fun H => ?_)
 ·refine Tr.skip (Tr.normThen ?_)
  refine Tr.seq ?_
  refine Tr.block ?_
  refine Tr.sr ?_
  refine Tr.mv rfl rfl ?_
  refine Tr.mv rfl rfl ?_
  obtain ⟨x108, hx108, H⟩ := bnd H
  obtain ⟨hx1080, hx1081, hx1082⟩ := idx_some hx108
  refine Tr.va rfl (fun _ _ h1 h2 => run_indexAddr el_82 (h1.ev rfl) hp0_0.form (h1.ev rfl) hx1080 hx1081) ?_
  refine Tr.va rfl (fun _ _ h1 h2 => run_loadN (cs := [(.int .i64 x108.X), (.int .i64 x108.Y)]) ag_37 sz_37 (h1.ev rfl) (CellsAt.take (rdF ef_TPoint hp0_0 hx1082 h2) 2) rfl) ?_
  refine Tr.mv rfl rfl ?_
  obtain ⟨y109, hy109, H⟩ := bnd H
  refine Tr.call0 (r := (.bool y109)) (wn rfl) rfl Tryd.call94 (evl_cons rfl (evl_cons rfl evl_nil)) (fun W hW => F_etchhouseref3_pointFits_ok x108 p1 y109 hy109 (HF.start _)) ?_
  refine Tr.va rfl (fun _ _ h1 h2 => run_not (h1.ev rfl)) ?_
  refine Tr.nil (Tr.normThen ?_)
  refine Tr.cond rfl H (fun H => ?_) (fun H => ?_)
  ·refine Tr.sr ?_
   refine Tr.asg rfl rfl ?_
   refine Tr.nil (Tr.normThen ?_)
   refine Tr.ret (Tr.retBlock (Tr.retThen (Tr.retThen (Tr.retBlock (Tr.retThen ?_)))))
   obtain rfl := Option.some.inj H
   exact Tr.out (m := [(.int .i64 1)]) [] (res_tmp rfl res_nil) (fun W hW => ⟨rfl, hW.low leB⟩)
  ·refine Tr.skip (Tr.normBlock (Tr.normThen ?_))
   refine Tr.region ?_
   refine Tr.mv rfl rfl ?_
   refine Tr.va rfl (fun _ _ h1 h2 => run_add (h1.ev rfl) (h1.ev rfl)) ?_
   refine Tr.asg rfl rfl ?_
   refine Tr.nil ?_
   exact Tr.backThen leF_etchhouseref3_checkArea_L1 (w64 (x107 + 1)) H (.cons rfl (.cons rfl (.cons rfl .nil))) .nil
 ·refine Tr.exit (Tr.exitThen (Tr.exitThen (Tr.exitBlock (Tr.normThen ?_))))
  refine Tr.seq ?_
  refine Tr.sr ?_
  refine Tr.mv rfl rfl ?_
  refine Tr.va rfl (fun _ _ h1 h2 => run_len un_82 (h1.ev rfl)) ?_
  refine Tr.va rfl (fun _ _ h1 h2 => run_gtr (h1.ev rfl) (h1.ev rfl)) ?_
  refine Tr.nil (Tr.normThen ?_)
  refine Tr.cond rfl H (fun H => ?_) (fun H => ?_)
  ·refine Tr.sr ?_
   refine Tr.asg rfl rfl ?_
   refine Tr.nil (Tr.normThen ?_)
   refine Tr.ret (Tr.retThen ?_)
   obtain rfl := Option.some.inj H
   exact Tr.out (m := [(.int .i64 2)]) [] (res_tmp rfl res_nil) (fun W hW => ⟨rfl, hW.low leB⟩)
  ·refine Tr.skip (Tr.normThen ?_)
   refine Tr.seq ?_
   refine Tr.sr ?_
   refine Tr.mv rfl rfl ?_
   refine Tr.va rfl (fun _ _ h1 h2 => run_len un_82 (h1.ev rfl)) ?_
   refine Tr.va rfl (fun _ _ h1 h2 => run_lss (h1.ev rfl) (h1.ev rfl)) ?_
   refine Tr.nil (Tr.normThen ?_)
   refine Tr.cond rfl H (fun H => ?_) (fun H => ?_)
   ·refine Tr.sr ?_
    refine Tr.asg rfl rfl ?_
    refine Tr.nil (Tr.normThen ?_)
    refine Tr.ret (Tr.retThen ?_)
    obtain rfl := Option.some.inj H
    exact Tr.out (m := [(.int .i64 3)]) [] (res_tmp rfl res_nil) (fun W hW => ⟨rfl, hW.low leB⟩)
   ·refine Tr.skip (Tr.normThen ?_)
    refine Tr.seq ?_
    refine Tr.sr ?_
    refine Tr.asg rfl rfl ?_
    refine Tr.nil (Tr.normThen ?_)
    refine Tr.block ?_
    refine Tr.loop (σ := Int) (fun m w s => F_etchhouseref3_checkArea_L2 p0 m s = some r) (fun s => [(0, (.slice Ap0_0 (p0).length cp0_0)), (6, (.int .i64 s))]) (fun s => []) N 0 H (.cons rfl (.cons rfl .nil)) .nil (fun _ _ h => noSome (h)) ?_
    intro w leF_etchhouseref3_checkArea_L2 mF_etchhouseref3_checkArea_L2 x127 hs
    have H := hs
    replace H : F_etchhouseref3_checkArea_L2 p0 (mF_etchhouseref3_checkArea_L2 + 1) x127 = some r := H
    replace hp0_0 := hp0_0.leR leF_etchhouseref3_checkArea_L2
    replace leB := leB.trans leF_etchhouseref3_checkArea_L2
    replace leF_etchhouseref3_checkArea_L1 := leF_etchhouseref3_checkArea_L1.trans leF_etchhouseref3_checkArea_L2
    rw [F_etchhouseref3_checkArea_L2.eq_2] at H
    show Tr _ _ (LF [(0, (.slice Ap0_0 (p0).length cp0_0)), (6, (.int .i64 x127))]) (LE []) _
    refine Tr.seq ?_
    refine Tr.sr ?_
    refine Tr.mv rfl rfl ?_
    refine Tr.mv rfl rfl ?_
    refine Tr.va rfl (fun _ _ h1 h2 => run_len un_82 (h1.ev rfl)) ?_
    refine Tr.va rfl (fun _ _ h1 h2 => run_lss (h1.ev rfl) (h1.ev rfl)) ?_
    refine Tr.nil (Tr.normThen ?_)
    refine Tr.cond rfl H (fun H => ?_) (fun H => ?_)
    ·refine Tr.skip (Tr.normThen ?_)
     refine Tr.seq ?_
     refine Tr.block ?_
     refine Tr.seq ?_
     refine Tr.drawC 15 [] [14] (by kernel_rfl) (by kernel_rfl) fun sz128 hlosz128 hEsz128 => ?_
     refine Dr.quiet 0 [(34, (.slice Ap0_0 (p0).length cp0_0))] (by kernel_rfl) rfl rfl (by kernel_rfl) ?_ rfl rfl ?_
     ·refine Tq.mv rfl rfl ?_
      exact Tq.fin (.cons rfl .nil)
     refine Dr.quiet 1 [(35, (.int .i64 x127))] (by kernel_rfl) rfl rfl (by kernel_rfl) ?_ rfl rfl ?_
     ·refine Tq.mv rfl rfl ?_
      exact Tq.fin (.cons rfl .nil)
     obtain ⟨x129, hx129, H⟩ := bnd H
     obtain ⟨hx1290, hx1291, hx1292⟩ := idx_some hx129
     refine Dr.quiet 2 [(36, (.pointer (some ⟨adB Ap0_0, adO Ap0_0 + (x127).toNat * 2, none⟩)))] (by kernel_rfl) rfl rfl (by kernel_rfl) ?_ rfl rfl ?_
     ·refine Tq.va rfl (fun _ _ h1 h2 => run_indexAddr el_82 (h1.ev rfl) hp0_0.form (h1.ev rfl) hx1290 hx1291) ?_
      exact Tq.fin (.cons rfl .nil)
     refine Dr.quiet 3 [(37, (.agg #[(.int .i64 x129.X), (.int .i64 x129.Y)]))] (by kernel_rfl) rfl rfl (by kernel_rfl) ?_ rfl rfl ?_
     ·refine Tq.va rfl (fun _ _ h1 h2 => run_loadN (cs := [(.int .i64 x129.X), (.int .i64 x129.Y)]) ag_37 sz_37 (h1.ev rfl) (CellsAt.take (rdF ef_TPoint hp0_0 hx1292 h2) 2) rfl) ?_
      exact Tq.fin (.cons rfl .nil)
     refine Dr.quietP 4 (by kernel_rfl) rfl (wn rfl) rfl (by kernel_rfl) (fun _ _ h1 => run_move (h1.ev rfl)) rfl ?_
     refine Dr.quietP 5 (by kernel_rfl) rfl (wn rfl) rfl (by kernel_rfl) (fun _ _ h1 => run_move (h1.ev rfl)) rfl ?_
     refine Dr.quietP 6 (by kernel_rfl) rfl (wn rfl) rfl (by kernel_rfl) (fun _ _ h1 => run_add (h1.ev rfl) (h1.ev rfl)) rfl ?_
     refine Dr.quietP 7 (by kernel_rfl) rfl (wn rfl) rfl (by kernel_rfl) (fun _ _ h1 => run_move (h1.ev rfl)) rfl ?_
     refine Dr.quietP 8 (by kernel_rfl) rfl (wn rfl) rfl (by kernel_rfl) (fun _ _ h1 => run_len un_82 (h1.ev rfl)) rfl ?_
     obtain ⟨q130, hq130, H⟩ := bnd H
     refine Dr.quietP 9 (by kernel_rfl) rfl (wn rfl) rfl (by kernel_rfl) (fun _ _ h1 => run_md (h1.ev rfl) (h1.ev rfl) hq130) rfl ?_
     obtain ⟨x131, hx131, H⟩ := bnd H
     obtain ⟨hx1310, hx1311, hx1312⟩ := idx_some hx131
     refine Dr.quietP 10 (by kernel_rfl) rfl (wn rfl) rfl (by kernel_rfl) (fun _ _ h1 => run_indexAddr el_82 (h1.ev rfl) hp0_0.form (h1.ev rfl) hx1310 hx1311) rfl ?_
     refine Dr.quietZ 11 [(45, (.agg #[(.int .i64 x131.X), (.int .i64 x131.Y)]))] [] true (by kernel_rfl) rfl rfl (by kernel_rfl) (fun W W' h2 hsW hk => HF.keepZ (le := []) (ks := []) (s0 := sz128) true h2 hk (fun _ => hlosz128) .nil (fun b hb => hb.elim (fun ⟨_, hp, _⟩ => nomatch hp) (fun hb => .inr ⟨rfl, hb.2, (fun _ h => nomatch h)⟩)) (fun _ h => nomatch h) rfl) ?_ rfl rfl ?_
     ·refine Tq.va rfl (fun _ _ h1 h2 => run_loadN (cs := [(.int .i64 x131.X), (.int .i64 x131.Y)]) ag_37 sz_37 (h1.ev rfl) (CellsAt.take (rdF ef_TPoint hp0_0 hx1312 h2) 2) rfl) ?_
      exact Tq.fin (.cons rfl .nil)
     refine Dr.cut (U := Nat × Nat) [12, 13] 1 (fun u => sz128 ≤ u.1 ∧ sz128 ≤ u.2) (fun u => [(0, (.slice Ap0_0 (p0).length cp0_0)), (6, (.int .i64 x127)), (7, (.pointer (some ⟨u.1, 0, none⟩))), (8, (.pointer (some ⟨u.2, 0, none⟩))), (28, (.int .i64 x127)), (29, (.slice Ap0_0 (p0).length cp0_0)), (30, (.int .i64 (p0.length : Int))), (31, (.bool (decide (x127 < (p0.length : Int))))), (34, (.slice Ap0_0 (p0).length cp0_0)), (35, (.int .i64 x127)), (36, (.pointer (some ⟨adB Ap0_0, adO Ap0_0 + (x127).toNat * 2, none⟩))), (37, (.agg #[(.int .i64 x129.X), (.int .i64 x129.Y)])), (38, (.slice Ap0_0 (p0).length cp0_0)), (39, (.int .i64 x127)), (40, (.int .i64 (w64 (x127 + 1)))), (41, (.slice Ap0_0 (p0).length cp0_0)), (42, (.int .i64 (p0.length : Int))), (43, (.int .i64 q130)), (44, (.pointer (some ⟨adB Ap0_0, adO Ap0_0 + (q130).toNat * 2, none⟩))), (45, (.agg #[(.int .i64 x131.X), (.int .i64 x131.Y)]))]) (fun u => [(5, bx u.1 #[(.int .i64 0), (.int .i64 0)] 37), (6, bx u.2 #[(.int .i64 0), (.int .i64 0)] 37)]) ?_ ?_
     ·intro hC
      refine Dr.pair 12 13 (by kernel_rfl) ?_ ?_
      ·refine St.alloc 12 5 rfl (wn rfl) rfl ze_37 fun b132 hb132 => ?_
       refine Dr.one 13 (by kernel_rfl) ?_
       refine St.alloc 13 6 rfl (wn rfl) rfl ze_37 fun b133 hb133 => ?_
       exact (hC ⟨b132, b133⟩ ⟨hb132, hb133⟩).use (by kernel_rfl) (.cons rfl (.cons rfl (.cons rfl (.cons rfl (.cons rfl (.cons rfl (.cons rfl (.cons rfl (.cons rfl (.cons rfl (.cons rfl (.cons rfl (.cons rfl (.cons rfl (.cons rfl (.cons rfl (.cons rfl (.cons rfl (.cons rfl (.cons rfl .nil)))))))))))))))))))) (.cons rfl (.cons rfl .nil))
      ·refine St.alloc 13 6 rfl (wn rfl) rfl ze_37 fun b133 hb133 => ?_
       refine Dr.one 12 (by kernel_rfl) ?_
       refine St.alloc 12 5 rfl (wn rfl) rfl ze_37 fun b132 hb132 => ?_
       exact (hC ⟨b132, b133⟩ ⟨hb132, hb133⟩).use (by kernel_rfl) (.cons rfl (.cons rfl (.cons rfl (.cons rfl (.cons rfl (.cons rfl (.cons rfl (.cons rfl (.cons rfl (.cons rfl (.cons rfl (.cons rfl (.cons rfl (.cons rfl (.cons rfl (.cons rfl (.cons rfl (.cons rfl (.cons rfl (.cons rfl .nil)))))))))))))))))))) (.cons rfl (.cons rfl .nil))
     intro u hu
     obtain ⟨b132, b133⟩ := u
     obtain ⟨hb132, hb133⟩ := hu
     replace hb132 : sz128 ≤ b132 := hb132
     replace hb133 : sz128 ≤ b133 := hb133
     show Dr _ _ _ _ _ _ _ _ _ (LF [(0, (.slice Ap0_0 (p0).length cp0_0)), (6, (.int .i64 x127)), (7, (.pointer (some ⟨b132, 0, none⟩))), (8, (.pointer (some ⟨b133, 0, none⟩))), (28, (.int .i64 x127)), (29, (.slice Ap0_0 (p0).length cp0_0)), (30, (.int .i64 (p0.length : Int))), (31, (.bool (decide (x127 < (p0.length : Int))))), (34, (.slice Ap0_0 (p0).length cp0_0)), (35, (.int .i64 x127)), (36, (.pointer (some ⟨adB Ap0_0, adO Ap0_0 + (x127).toNat * 2, none⟩))), (37, (.agg #[(.int .i64 x129.X), (.int .i64 x129.Y)])), (38, (.slice Ap0_0 (p0).length cp0_0)), (39, (.int .i64 x127)), (40, (.int .i64 (w64 (x127 + 1)))), (41, (.slice Ap0_0 (p0).length cp0_0)), (42, (.int .i64 (p0.length : Int))), (43, (.int .i64 q130)), (44, (.pointer (some ⟨adB Ap0_0, adO Ap0_0 + (q130).toNat * 2, none⟩))), (45, (.agg #[(.int .i64 x131.X), (.int .i64 x131.Y)]))]) (LE [(5, bx b132 #[(.int .i64 0), (.int .i64 0)] 37), (6, bx b133 #[(.int .i64 0), (.int .i64 0)] 37)])
     refine Dr.one 14 (by kernel_rfl) ?_
     refine St.store 14 5 (cs := [(.int .i64 x129.X), (.int .i64 x129.Y)]) [(.int .i64 x129.X), (.int .i64 x129.Y)] rfl (wn rfl) (.inr ⟨by simp, hb132⟩) rfl rfl rfl rfl sz_37 rfl rfl rfl ?_
     refine Dr.tail (by kernel_rfl) ?_
     refine Tr.store 6 (cs := [(.int .i64 x131.X), (.int .i64 x131.Y)]) [(.int .i64 x131.X), (.int .i64 x131.Y)] (wn rfl) rfl rfl rfl rfl sz_37 rfl rfl rfl ?_
     refine Tr.nil (Tr.normThen ?_)
     refine Tr.sr ?_
     refine Tr.va rfl (fun _ _ h1 h2 => run_fieldAddr fo_37_0 (h1.ev rfl)) ?_
     refine Tr.va rfl (fun _ _ h1 h2 => run_load1 ag_3 (h1.ev rfl) (rdb h2 (vs := [(.int .i64 x129.X), (.int .i64 x129.Y)]) (k := 5) rfl 0) rfl) ?_
     refine Tr.va rfl (fun _ _ h1 h2 => run_fieldAddr fo_37_0 (h1.ev rfl)) ?_
     refine Tr.va rfl (fun _ _ h1 h2 => run_load1 ag_3 (h1.ev rfl) (rdb h2 (vs := [(.int .i64 x131.X), (.int .i64 x131.Y)]) (k := 6) rfl 0) rfl) ?_
     refine Tr.va rfl (fun _ _ h1 h2 => run_eql (h1.ev rfl) (h1.ev rfl)) ?_
     refine Tr.va rfl (fun _ _ h1 h2 => run_fieldAddr fo_37_1 (h1.ev rfl)) ?_
     refine Tr.va rfl (fun _ _ h1 h2 => run_load1 ag_3 (h1.ev rfl) (rdb h2 (vs := [(.int .i64 x129.X), (.int .i64 x129.Y)]) (k := 5) rfl 1) rfl) ?_
     refine Tr.va rfl (fun _ _ h1 h2 => run_fieldAddr fo_37_1 (h1.ev rfl)) ?_
     refine Tr.va rfl (fun _ _ h1 h2 => run_load1 ag_3 (h1.ev rfl) (rdb h2 (vs := [(.int .i64 x131.X), (.int .i64 x131.Y)]) (k := 6) rfl 1) rfl) ?_
     refine Tr.va rfl (fun _ _ h1 h2 => run_eql (h1.ev rfl) (h1.ev rfl)) ?_
     refine Tr.va rfl (fun _ _ h1 h2 => run_eqlB un_4 (h1.ev rfl) (h1.ev rfl)) ?_
     refine Tr.nil (Tr.normThen ?_)
     refine Tr.cond rfl H (fun H => ?_) (fun H => ?_)
     ·refine Tr.sr ?_
      refine Tr.asg rfl rfl ?_
      refine Tr.nil (Tr.normThen ?_)
      refine Tr.ret (Tr.retBlock (Tr.retThen (Tr.retThen (Tr.retBlock (Tr.retThen ?_)))))
      obtain rfl := Option.some.inj H
      exact Tr.out (m := [(.int .i64 3)]) [] (res_tmp rfl res_nil) (fun W hW => ⟨rfl, hW.low leB⟩)
     ·refine Tr.skip (Tr.normBlock (Tr.normThen ?_))
      refine Tr.region ?_
      refine Tr.mv rfl rfl ?_
      refine Tr.va rfl (fun _ _ h1 h2 => run_add (h1.ev rfl) (h1.ev rfl)) ?_
      refine Tr.asg rfl rfl ?_
      refine Tr.nil ?_
      exact Tr.backThen leF_etchhouseref3_checkArea_L2 (w64 (x127 + 1)) H (.cons rfl (.cons rfl .nil)) .nil
    ·refine Tr.exit (Tr.exitThen (Tr.exitThen (Tr.exitBlock (Tr.normThen ?_))))
     refine Tr.sr ?_
     refine Tr.asg rfl rfl ?_
     refine Tr.nil (Tr.normThen ?_)
     refine Tr.ret ?_
     obtain rfl := Option.some.inj H
     exact Tr.out (m := [(.int .i64 0)]) [] (res_tmp rfl res_nil) (fun W hW => ⟨rfl, hW.low leB⟩)

end Go.Proofs.YtocjndhpgjccoaaDoor
