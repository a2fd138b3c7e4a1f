/- The walks: each function computes its plain function. -/
import Derived.Test.YtneghcpnehiffaaDoorXWb
namespace Go.Proofs.YtneghcpnehiffaaDoor
open Go.RowKit
set_option maxRecDepth 100000
set_option maxHeartbeats 1000000
theorem F_etchhouseref3_movedSteps_b_ok (N : Nat) (rec : (List TPlotStep) → TPoint → Option (List TPlotStep)) (hrec : ∀ {w : Bs} (p0 : (List TPlotStep)) (Ap0_0 : Option Addr) (cp0_0 : Nat) (hp0_0 : Sl w.O w.W fl_TPlotStep Ap0_0 cp0_0 p0) (p1 : TPoint) (r : (List TPlotStep)) (H : rec p0 p1 = some r) (hE : HF w w.W (LEn [emp])), Calls Tryd.prog 21 [(.slice Ap0_0 (p0).length cp0_0), (.agg #[(iv p1.X), (iv p1.Y)])].toArray w.W fun e W' => ∃ (w' : Bs) (u : (Option Addr × Nat)), w.Le w' ∧ e = .returned (.slice u.1 (r).length u.2) ∧ (SlF u.1 (r).length u.2) ∧ HF w' W' (LEn [ow u.1 u.2 46 fl_TPlotStep r])) {w : Bs} (p0 : (List TPlotStep)) (Ap0_0 : Option Addr) (cp0_0 : Nat) (hp0_0 : Sl w.O w.W fl_TPlotStep Ap0_0 cp0_0 p0) (p1 : TPoint) (r : (List TPlotStep)) (H : F_etchhouseref3_movedSteps_b N rec p0 p1 = some r) (hE : HF w w.W (LEn [emp])) : Calls Tryd.prog 21 [(.slice Ap0_0 (p0).length cp0_0), (.agg #[(iv p1.X), (iv p1.Y)])].toArray w.W fun e W' => ∃ (w' : Bs) (u : (Option Addr × Nat)), w.Le w' ∧ e = .returned (.slice u.1 (r).length u.2) ∧ (SlF u.1 (r).length u.2) ∧ HF w' W' (LEn [ow u.1 u.2 46 fl_TPlotStep r]) := by
 unfold F_etchhouseref3_movedSteps_b at H
 have leB := Bs.Le.refl w
 refine Tr.enter (n := 33) Tryd.func21 rfl rfl rfl hE ?_
 refine Tr.sr ?_
 refine Tr.box 1 (cs := [(iv p1.X), (iv p1.Y)]) (wn rfl) rfl rfl rfl fun b100 => ?_
 refine Tr.asg rfl rfl ?_
 refine Tr.nilOwn 2 46 fl_TPlotStep ?_
 show Tr _ _ (uf _ 4 (.slice none (([] : List TPlotStep)).length 0)) _ _
 refine Tr.nil (Tr.normThen ?_)
 refine Tr.sr ?_
 refine Tr.asg rfl rfl ?_
 refine Tr.nilOwn 3 46 fl_TPlotStep ?_
 show Tr _ _ (uf _ 5 (.slice none (([] : List TPlotStep)).length 0)) _ _
 refine Tr.nil (Tr.normThen ?_)
 refine Tr.seq ?_
 refine Tr.sr ?_
 refine Tr.asg rfl rfl ?_
 refine Tr.nil (Tr.normThen ?_)
 refine Tr.block ?_
 refine Tr.loop (σ := (List TPlotStep) × Int × (Option Addr) × Nat) (fun m w s => F_etchhouseref3_movedSteps_L1 N p0 p1 rec m s.1 s.2.1 = some r ∧ SlF s.2.2.1 (s.1).length s.2.2.2) (fun s => [(0, (.slice Ap0_0 (p0).length cp0_0)), (3, (.pointer (some ⟨b100, 0, none⟩))), (5, (.slice s.2.2.1 (s.1).length s.2.2.2)), (6, (iv s.2.1))]) (fun s => [(1, bx b100 #[(iv p1.X), (iv p1.Y)] 27), (3, ow s.2.2.1 s.2.2.2 46 fl_TPlotStep s.1)]) N (([] : List TPlotStep), 0, none, 0) ⟨H, slf_nil⟩ (.cons rfl (.cons rfl (.cons rfl (.cons rfl .nil)))) (.cons rfl (.cons rfl .nil)) (fun _ _ h => noSome (h.1)) ?_
 intro w leL1 mL1 s hs
 obtain ⟨l141, x142, Al141, cl141⟩ := s
 obtain ⟨H, hl141⟩ := hs
 replace H : F_etchhouseref3_movedSteps_L1 N p0 p1 rec (mL1 + 1) l141 x142 = some r := H
 replace hp0_0 := hp0_0.le leL1
 replace leB := leB.trans leL1
 replace hl141 : SlF Al141 (l141).length cl141 := hl141
 rw [F_etchhouseref3_movedSteps_L1.eq_2] at H
 show Tr _ _ (LF [(0, (.slice Ap0_0 (p0).length cp0_0)), (3, (.pointer (some ⟨b100, 0, none⟩))), (5, (.slice Al141 (l141).length cl141)), (6, (iv x142))]) (LE [(1, bx b100 #[(iv p1.X), (iv p1.Y)] 27), (3, ow Al141 cl141 46 fl_TPlotStep l141)]) _
 refine Tr.seq ?_
 refine Tr.sr ?_
 refine Tr.mv rfl rfl ?_
 refine Tr.mv rfl rfl ?_
 refine Tr.va rfl (fun _ _ h1 h2 => run_len un_23 (h1.ev rfl)) ?_
 refine Tr.va rfl (fun _ _ h1 h2 => run_lss (h1.ev rfl) (h1.ev rfl)) ?_
 refine Tr.nil (Tr.normThen ?_)
 refine Tr.cond rfl H (fun H => ?_) (fun H => ?_)
 ·refine Tr.skip (Tr.normThen ?_)
  refine Tr.seq ?_
  refine Tr.block ?_
  refine Tr.seq ?_
  refine Tr.drawC 7 [] [] (by kernel_rfl) (by kernel_rfl) fun sz143 hlosz143 hEsz143 => ?_
  refine Dr.quiet 0 [(14, (.slice Ap0_0 (p0).length cp0_0))] (by kernel_rfl) rfl rfl (by kernel_rfl) ?_ rfl rfl ?_
  ·refine Tq.mv rfl rfl ?_
   exact Tq.fin (.cons rfl .nil)
  refine Dr.quiet 1 [(15, (iv x142))] (by kernel_rfl) rfl rfl (by kernel_rfl) ?_ rfl rfl ?_
  ·refine Tq.mv rfl rfl ?_
   exact Tq.fin (.cons rfl .nil)
  obtain ⟨x144, hx144, H⟩ := bnd H
  obtain ⟨hx1440, hx1441, hx1442⟩ := idx_some hx144
  obtain ⟨u145, hRu145, hoku145, hcu145⟩ := (hp0_0).el hx1442
  obtain ⟨⟨Au145_0, cu145_0⟩, ⟨Au145_1, cu145_1⟩⟩ := u145
  obtain ⟨hoku145_0, hoku145_1⟩ := TPlotStep_ok.1 hoku145
  replace hoku145_0 : Sl w.O w.W fl_TPoint Au145_0 cu145_0 x144.Points := hoku145_0
  replace hoku145_1 : Sl w.O w.W fl_TPlotStep Au145_1 cu145_1 x144.Steps := hoku145_1
  replace hRu145 : w.R (adB Ap0_0) := Or.inl hRu145
  refine Dr.quiet 2 [(16, (.pointer (some ⟨adB Ap0_0, adO Ap0_0 + (x142).toNat * 8, none⟩)))] (by kernel_rfl) rfl rfl (by kernel_rfl) ?_ rfl rfl ?_
  ·refine Tq.va rfl (fun _ _ h1 h2 => run_indexAddr el_23 (h1.ev rfl) hp0_0.form (h1.ev rfl) hx1440 hx1441) ?_
   exact Tq.fin (.cons rfl .nil)
  refine Dr.quiet 3 [(17, (.agg #[(iv x144.Kind), (sv x144.Name), (iv x144.At.X), (iv x144.At.Y), (.slice Au145_0 (x144.Points).length cu145_0), (iv x144.NX), (iv x144.NY), (.slice Au145_1 (x144.Steps).length cu145_1)]))] (by kernel_rfl) rfl rfl (by kernel_rfl) ?_ rfl rfl ?_
  ·refine Tq.va rfl (fun _ _ h1 h2 => run_loadN (cs := [(iv x144.Kind), (sv x144.Name), (iv x144.At.X), (iv x144.At.Y), (.slice Au145_0 (x144.Points).length cu145_0), (iv x144.NX), (iv x144.NY), (.slice Au145_1 (x144.Steps).length cu145_1)]) ag_46 sz_46 (h1.ev rfl) (CellsAt.take (rdR hRu145 hcu145 h2) 8) rfl) ?_
   exact Tq.fin (.cons rfl .nil)
  refine Dr.quiet 4 [(18, (.agg #[(iv p1.X), (iv p1.Y)]))] (by kernel_rfl) rfl rfl (by kernel_rfl) ?_ rfl rfl ?_
  ·refine Tq.va rfl (fun _ _ h1 h2 => run_loadN (cs := [(iv p1.X), (iv p1.Y)]) ag_27 sz_27 (h1.ev rfl) (CellsAt.take (rdb h2 (vs := [(iv p1.X), (iv p1.Y)]) (k := 1) rfl 0) 2) rfl) ?_
   exact Tq.fin (.cons rfl .nil)
  obtain ⟨y146, hy146, H⟩ := bnd H
  refine Dr.cutG (U := Option Addr × Nat × Option Addr × Nat × Nat) [5, 6] 0 (fun w u => SlF u.1 (y146.Points).length u.2.1 ∧ Sl w.O w.W fl_TPlotStep u.2.2.1 u.2.2.2.1 y146.Steps ∧ (∀ b, insS [ow u.1 u.2.1 27 fl_TPoint y146.Points] b → sz143 ≤ b ∨ insS [emp] b) ∧ sz143 ≤ u.2.2.2.2) (fun u => [(0, (.slice Ap0_0 (p0).length cp0_0)), (3, (.pointer (some ⟨b100, 0, none⟩))), (5, (.slice Al141 (l141).length cl141)), (6, (iv x142)), (7, (.pointer (some ⟨u.2.2.2.2, 0, none⟩))), (8, (iv x142)), (9, (.slice Ap0_0 (p0).length cp0_0)), (10, (iv (p0.length : Int))), (11, (.bool (decide (x142 < (p0.length : Int))))), (14, (.slice Ap0_0 (p0).length cp0_0)), (15, (iv x142)), (16, (.pointer (some ⟨adB Ap0_0, adO Ap0_0 + (x142).toNat * 8, none⟩))), (17, (.agg #[(iv x144.Kind), (sv x144.Name), (iv x144.At.X), (iv x144.At.Y), (.slice Au145_0 (x144.Points).length cu145_0), (iv x144.NX), (iv x144.NY), (.slice Au145_1 (x144.Steps).length cu145_1)])), (18, (.agg #[(iv p1.X), (iv p1.Y)])), (19, (.agg #[(iv y146.Kind), (sv y146.Name), (iv y146.At.X), (iv y146.At.Y), (.slice u.1 (y146.Points).length u.2.1), (iv y146.NX), (iv y146.NY), (.slice u.2.2.1 (y146.Steps).length u.2.2.2.1)]))]) (fun u => [(1, bx b100 #[(iv p1.X), (iv p1.Y)] 27), (3, ow Al141 cl141 46 fl_TPlotStep l141), (12, ow u.1 u.2.1 27 fl_TPoint y146.Points), (13, bx u.2.2.2.2 #[(iv 0), (sv ⟨#[]⟩), (iv 0), (iv 0), (.slice none 0 0), (iv 0), (iv 0), (.slice none 0 0)] 46)]) ?_ ?_
  ·intro hC
   refine Dr.pair 5 6 (by kernel_rfl) ?_ ?_
   ·refine St.callG 5 [12] [emp] (U := (Option Addr × Nat) × (Option Addr × Nat)) (fun u => (.agg #[(iv y146.Kind), (sv y146.Name), (iv y146.At.X), (iv y146.At.Y), (.slice u.1.1 (y146.Points).length u.1.2), (iv y146.NX), (iv y146.NY), (.slice u.2.1 (y146.Steps).length u.2.2)])) (fun O W u => SlF u.1.1 (y146.Points).length u.1.2 ∧ Sl O W fl_TPlotStep u.2.1 u.2.2 y146.Steps) (fun u => [ow u.1.1 u.1.2 27 fl_TPoint y146.Points]) rfl (pk_cons rfl pk_nil) (fun _ => rfl) (insS_no rfl) rfl (wn rfl) rfl Tryd.call52 (evl_cons rfl (evl_cons rfl evl_nil)) (fun W hW hp hE => F_etchhouseref3_moved_ok N x144 Au145_0 cu145_0 (hoku145_0.rl.ext (hW.extS hp)) Au145_1 cu145_1 (hoku145_1.extO (hW.extS hp)) p1 y146 hy146 hE) ?_
    intro w u le147 hu hsy146
    obtain ⟨⟨Ay146_0, cy146_0⟩, ⟨Ay146_1, cy146_1⟩⟩ := u
    obtain ⟨gy146_0, gy146_1⟩ := hu
    replace hp0_0 := hp0_0.le le147
    replace hcu145 := le147.ext.cells hRu145 hcu145
    replace hRu145 := le147.r _ hRu145
    replace hoku145_0 := hoku145_0.le le147
    replace hoku145_1 := hoku145_1.le le147
    replace leB := leB.trans le147
    replace leL1 := leL1.trans le147
    have hgy146_0 : SlF Ay146_0 (y146.Points).length cy146_0 := gy146_0
    have hgy146_1 : Sl w.O w.W fl_TPlotStep Ay146_1 cy146_1 y146.Steps := gy146_1
    show Dr _ _ _ _ _ _ _ _ _ (uf _ 19 (.agg #[(iv y146.Kind), (sv y146.Name), (iv y146.At.X), (iv y146.At.Y), (.slice Ay146_0 (y146.Points).length cy146_0), (iv y146.NX), (iv y146.NY), (.slice Ay146_1 (y146.Steps).length cy146_1)])) (up _ 12 (ow Ay146_0 cy146_0 27 fl_TPoint y146.Points))
    refine Dr.one 6 (by kernel_rfl) ?_
    refine St.alloc 6 13 rfl (wn rfl) rfl ze_46 fun b148 hb148 => ?_
    exact (hC w ⟨Ay146_0, cy146_0, Ay146_1, cy146_1, b148⟩ le147 ⟨hgy146_0, hgy146_1, hsy146, hb148⟩).use (by kernel_rfl) (.cons rfl (.cons rfl (.cons rfl (.cons rfl (.cons rfl (.cons rfl (.cons rfl (.cons rfl (.cons rfl (.cons rfl (.cons rfl (.cons rfl (.cons rfl (.cons rfl (.cons rfl .nil))))))))))))))) (.cons rfl (.cons rfl (.cons rfl (.cons rfl .nil))))
   ·refine St.alloc 6 13 rfl (wn rfl) rfl ze_46 fun b148 hb148 => ?_
    refine Dr.one 5 (by kernel_rfl) ?_
    refine St.callG 5 [12] [emp] (U := (Option Addr × Nat) × (Option Addr × Nat)) (fun u => (.agg #[(iv y146.Kind), (sv y146.Name), (iv y146.At.X), (iv y146.At.Y), (.slice u.1.1 (y146.Points).length u.1.2), (iv y146.NX), (iv y146.NY), (.slice u.2.1 (y146.Steps).length u.2.2)])) (fun O W u => SlF u.1.1 (y146.Points).length u.1.2 ∧ Sl O W fl_TPlotStep u.2.1 u.2.2 y146.Steps) (fun u => [ow u.1.1 u.1.2 27 fl_TPoint y146.Points]) rfl (pk_cons rfl pk_nil) (fun _ => rfl) (insS_no rfl) rfl (wn rfl) rfl Tryd.call52 (evl_cons rfl (evl_cons rfl evl_nil)) (fun W hW hp hE => F_etchhouseref3_moved_ok N x144 Au145_0 cu145_0 (hoku145_0.rl.ext (hW.extS hp)) Au145_1 cu145_1 (hoku145_1.extO (hW.extS hp)) p1 y146 hy146 hE) ?_
    intro w u le147 hu hsy146
    obtain ⟨⟨Ay146_0, cy146_0⟩, ⟨Ay146_1, cy146_1⟩⟩ := u
    obtain ⟨gy146_0, gy146_1⟩ := hu
    replace hp0_0 := hp0_0.le le147
    replace hcu145 := le147.ext.cells hRu145 hcu145
    replace hRu145 := le147.r _ hRu145
    replace hoku145_0 := hoku145_0.le le147
    replace hoku145_1 := hoku145_1.le le147
    replace leB := leB.trans le147
    replace leL1 := leL1.trans le147
    have hgy146_0 : SlF Ay146_0 (y146.Points).length cy146_0 := gy146_0
    have hgy146_1 : Sl w.O w.W fl_TPlotStep Ay146_1 cy146_1 y146.Steps := gy146_1
    show Dr _ _ _ _ _ _ _ _ _ (uf _ 19 (.agg #[(iv y146.Kind), (sv y146.Name), (iv y146.At.X), (iv y146.At.Y), (.slice Ay146_0 (y146.Points).length cy146_0), (iv y146.NX), (iv y146.NY), (.slice Ay146_1 (y146.Steps).length cy146_1)])) (up _ 12 (ow Ay146_0 cy146_0 27 fl_TPoint y146.Points))
    exact (hC w ⟨Ay146_0, cy146_0, Ay146_1, cy146_1, b148⟩ le147 ⟨hgy146_0, hgy146_1, hsy146, hb148⟩).use (by kernel_rfl) (.cons rfl (.cons rfl (.cons rfl (.cons rfl (.cons rfl (.cons rfl (.cons rfl (.cons rfl (.cons rfl (.cons rfl (.cons rfl (.cons rfl (.cons rfl (.cons rfl (.cons rfl .nil))))))))))))))) (.cons rfl (.cons rfl (.cons rfl (.cons rfl .nil))))
  intro w u le159 hu
  obtain ⟨Ay146_0, cy146_0, Ay146_1, cy146_1, b148⟩ := u
  obtain ⟨hgy146_0, hgy146_1, hsy146, hb148⟩ := hu
  replace hgy146_0 : SlF Ay146_0 (y146.Points).length cy146_0 := hgy146_0
  replace hgy146_1 : Sl w.O w.W fl_TPlotStep Ay146_1 cy146_1 y146.Steps := hgy146_1
  replace hsy146 : (∀ b, insS [ow Ay146_0 cy146_0 27 fl_TPoint y146.Points] b → sz143 ≤ b ∨ insS [emp] b) := hsy146
  replace hb148 : sz143 ≤ b148 := hb148
  replace hp0_0 := hp0_0.le le159
  replace hcu145 := le159.ext.cells hRu145 hcu145
  replace hRu145 := le159.r _ hRu145
  replace hoku145_0 := hoku145_0.le le159
  replace hoku145_1 := hoku145_1.le le159
  replace leB := leB.trans le159
  replace leL1 := leL1.trans le159
  show Dr _ _ _ _ _ _ _ _ _ (LF [(0, (.slice Ap0_0 (p0).length cp0_0)), (3, (.pointer (some ⟨b100, 0, none⟩))), (5, (.slice Al141 (l141).length cl141)), (6, (iv x142)), (7, (.pointer (some ⟨b148, 0, none⟩))), (8, (iv x142)), (9, (.slice Ap0_0 (p0).length cp0_0)), (10, (iv (p0.length : Int))), (11, (.bool (decide (x142 < (p0.length : Int))))), (14, (.slice Ap0_0 (p0).length cp0_0)), (15, (iv x142)), (16, (.pointer (some ⟨adB Ap0_0, adO Ap0_0 + (x142).toNat * 8, none⟩))), (17, (.agg #[(iv x144.Kind), (sv x144.Name), (iv x144.At.X), (iv x144.At.Y), (.slice Au145_0 (x144.Points).length cu145_0), (iv x144.NX), (iv x144.NY), (.slice Au145_1 (x144.Steps).length cu145_1)])), (18, (.agg #[(iv p1.X), (iv p1.Y)])), (19, (.agg #[(iv y146.Kind), (sv y146.Name), (iv y146.At.X), (iv y146.At.Y), (.slice Ay146_0 (y146.Points).length cy146_0), (iv y146.NX), (iv y146.NY), (.slice Ay146_1 (y146.Steps).length cy146_1)]))]) (LE [(1, bx b100 #[(iv p1.X), (iv p1.Y)] 27), (3, ow Al141 cl141 46 fl_TPlotStep l141), (12, ow Ay146_0 cy146_0 27 fl_TPoint y146.Points), (13, bx b148 #[(iv 0), (sv ⟨#[]⟩), (iv 0), (iv 0), (.slice none 0 0), (iv 0), (iv 0), (.slice none 0 0)] 46)])
  refine Dr.tail (by kernel_rfl) ?_
  refine Tr.store 13 (cs := [(iv y146.Kind), (sv y146.Name), (iv y146.At.X), (iv y146.At.Y), (.slice Ay146_0 (y146.Points).length cy146_0), (iv y146.NX), (iv y146.NY), (.slice Ay146_1 (y146.Steps).length cy146_1)]) [(iv y146.Kind), (sv y146.Name), (iv y146.At.X), (iv y146.At.Y), (.slice Ay146_0 (y146.Points).length cy146_0), (iv y146.NX), (iv y146.NY), (.slice Ay146_1 (y146.Steps).length cy146_1)] (wn rfl) rfl rfl rfl rfl sz_46 rfl rfl rfl ?_
  refine Tr.nil (Tr.normThen ?_)
  refine Tr.seq ?_
  refine Tr.drawTail 6 (by kernel_rfl) (by kernel_rfl) ?_
  refine Tq.mv rfl rfl ?_
  refine Tq.mv rfl rfl ?_
  obtain ⟨x149, hx149, H⟩ := bnd H
  obtain ⟨hx1490, hx1491, hx1492⟩ := idx_some hx149
  obtain ⟨u150, hRu150, hoku150, hcu150⟩ := (hp0_0).el hx1492
  obtain ⟨⟨Au150_0, cu150_0⟩, ⟨Au150_1, cu150_1⟩⟩ := u150
  obtain ⟨hoku150_0, hoku150_1⟩ := TPlotStep_ok.1 hoku150
  replace hoku150_0 : Sl w.O w.W fl_TPoint Au150_0 cu150_0 x149.Points := hoku150_0
  replace hoku150_1 : Sl w.O w.W fl_TPlotStep Au150_1 cu150_1 x149.Steps := hoku150_1
  replace hRu150 : w.R (adB Ap0_0) := Or.inl hRu150
  refine Tq.va rfl (fun _ _ h1 h2 => run_indexAddr el_23 (h1.ev rfl) hp0_0.form (h1.ev rfl) hx1490 hx1491) ?_
  refine Tq.va rfl (fun _ _ h1 h2 => run_fieldAddr fo_46_6 (h1.ev rfl)) ?_
  refine Tq.va rfl (fun _ _ h1 h2 => run_load1 ag_23 (h1.ev rfl) (CellsAt.drop (rdR hRu150 hcu150 h2) 7) rfl) ?_
  refine Tq.va rfl (fun _ _ h1 h2 => run_loadN (cs := [(iv p1.X), (iv p1.Y)]) ag_27 sz_27 (h1.ev rfl) (CellsAt.take (rdb h2 (vs := [(iv p1.X), (iv p1.Y)]) (k := 1) rfl 0) 2) rfl) ?_
  refine Tq.nil ?_
  obtain ⟨y151, hy151, H⟩ := bnd H
  refine Tr.callG [14] [emp] (U := (Option Addr × Nat)) (fun u => (.slice u.1 (y151).length u.2)) (fun O W u => SlF u.1 (y151).length u.2) (fun u => [ow u.1 u.2 46 fl_TPlotStep y151]) rfl (pk_cons rfl pk_nil) (fun _ => rfl) (wn rfl) rfl Tryd.call21 (evl_cons rfl (evl_cons rfl evl_nil)) (fun W hW hp hE => hrec x149.Steps Au150_1 cu150_1 (hoku150_1.extO (hW.extS hp)) p1 y151 hy151 hE) ?_
  intro w u le152 hu
  obtain ⟨Ay151_0, cy151_0⟩ := u
  have gy151_0 := hu
  replace hp0_0 := hp0_0.le le152
  replace hcu145 := le152.ext.cells hRu145 hcu145
  replace hRu145 := le152.r _ hRu145
  replace hoku145_0 := hoku145_0.le le152
  replace hoku145_1 := hoku145_1.le le152
  replace hgy146_1 := hgy146_1.le le152
  replace hcu150 := le152.ext.cells hRu150 hcu150
  replace hRu150 := le152.r _ hRu150
  replace hoku150_0 := hoku150_0.le le152
  replace hoku150_1 := hoku150_1.le le152
  replace leB := leB.trans le152
  replace leL1 := leL1.trans le152
  have hgy151_0 : SlF Ay151_0 (y151).length cy151_0 := gy151_0 --@phi
  show Tr _ _ (uf _ 26 (.slice Ay151_0 (y151).length cy151_0)) (up _ 14 (ow Ay151_0 cy151_0 46 fl_TPlotStep y151)) _
  refine Tr.va rfl (fun _ _ h1 h2 => run_fieldAddr fo_46_6 (h1.ev rfl)) ?_
  refine Tr.store 13 (cs := [(.slice Ay151_0 (y151).length cy151_0)]) [(iv y146.Kind), (sv y146.Name), (iv y146.At.X), (iv y146.At.Y), (.slice Ay146_0 (y146.Points).length cy146_0), (iv y146.NX), (iv y146.NY), (.slice Ay151_0 (y151).length cy151_0)] (wn rfl) rfl rfl rfl rfl sz_23 rfl rfl rfl ?_
  refine Tr.nil (Tr.normThen ?_)
  refine Tr.region ?_
  refine Tr.mv rfl rfl ?_
  refine Tr.va rfl (fun _ _ h1 h2 => run_loadN (cs := [(iv y146.Kind), (sv y146.Name), (iv y146.At.X), (iv y146.At.Y), (.slice Ay146_0 (y146.Points).length cy146_0), (iv y146.NX), (iv y146.NY), (.slice Ay151_0 (y151).length cy151_0)]) ag_46 sz_46 (h1.ev rfl) (CellsAt.take (rdb h2 (vs := [(iv y146.Kind), (sv y146.Name), (iv y146.At.X), (iv y146.At.Y), (.slice Ay146_0 (y146.Points).length cy146_0), (iv y146.NX), (iv y146.NY), (.slice Ay151_0 (y151).length cy151_0)]) (k := 13) rfl 0) 8) rfl) ?_
  refine Tr.freeze 12 rfl fun w le154 hz153 => ?_
  replace hp0_0 := hp0_0.le le154
  replace hcu145 := le154.ext.cells hRu145 hcu145
  replace hRu145 := le154.r _ hRu145
  replace hoku145_0 := hoku145_0.le le154
  replace hoku145_1 := hoku145_1.le le154
  replace hgy146_1 := hgy146_1.le le154
  replace hcu150 := le154.ext.cells hRu150 hcu150
  replace hRu150 := le154.r _ hRu150
  replace hoku150_0 := hoku150_0.le le154
  replace hoku150_1 := hoku150_1.le le154
  replace leB := leB.trans le154
  replace leL1 := leL1.trans le154
  refine Tr.freeze 14 rfl fun w le156 hz155 => ?_
  replace hp0_0 := hp0_0.le le156
  replace hcu145 := le156.ext.cells hRu145 hcu145
  replace hRu145 := le156.r _ hRu145
  replace hoku145_0 := hoku145_0.le le156
  replace hoku145_1 := hoku145_1.le le156
  replace hz153 := hz153.le le156
  replace hgy146_1 := hgy146_1.le le156
  replace hcu150 := le156.ext.cells hRu150 hcu150
  replace hRu150 := le156.r _ hRu150
  replace hoku150_0 := hoku150_0.le le156
  replace hoku150_1 := hoku150_1.le le156
  replace leB := leB.trans le156
  replace leL1 := leL1.trans le156
  refine Tr.buildSlice 15 (e := 46) (vs := [(0, (.agg #[(iv y146.Kind), (sv y146.Name), (iv y146.At.X), (iv y146.At.Y), (.slice Ay146_0 (y146.Points).length cy146_0), (iv y146.NX), (iv y146.NY), (.slice Ay151_0 (y151).length cy151_0)]))]) (cs := [(iv y146.Kind), (sv y146.Name), (iv y146.At.X), (iv y146.At.Y), (.slice Ay146_0 (y146.Points).length cy146_0), (iv y146.NX), (iv y146.NY), (.slice Ay151_0 (y151).length cy151_0)]) (wn rfl) rfl (evs_cons rfl evs_nil) (by kernel_rfl) fun b157 => ?_
  obtain ⟨l158, hl158, H⟩ := bnd H
  refine Tr.append 3 (t := fl_TPlotStep) (l := l141) (l2 := [(TPlotStep.mk y146.Kind y146.Name y146.At y146.Points y146.NX y146.NY y151)]) (wn rfl) rfl rfl rfl rfl (fun W hW => ⟨[[(iv y146.Kind), (sv y146.Name), (iv y146.At.X), (iv y146.At.Y), (.slice Ay146_0 (y146.Points).length cy146_0), (iv y146.NX), (iv y146.NY), (.slice Ay151_0 (y151).length cy151_0)]], (.cons ⟨((Ay146_0, cy146_0), (Ay151_0, cy151_0)), (TPlotStep_ok.2 ⟨hz153, hz155⟩), rfl⟩ .nil), rdb hW (vs := [(iv y146.Kind), (sv y146.Name), (iv y146.At.X), (iv y146.At.Y), (.slice Ay146_0 (y146.Points).length cy146_0), (iv y146.NX), (iv y146.NY), (.slice Ay151_0 (y151).length cy151_0)]) (k := 15) rfl 0⟩) un_23 sz_46 zl_46 (by decide) by_46 rfl hl158 fun Al158 cl158 hAl158 => ?_
  refine Tr.asg rfl rfl ?_
  refine Tr.nil (Tr.normBlock (Tr.normThen ?_))
  refine Tr.region ?_
  refine Tr.mv rfl rfl ?_
  refine Tr.va rfl (fun _ _ h1 h2 => run_add (h1.ev rfl) (h1.ev rfl)) ?_
  refine Tr.asg rfl rfl ?_
  refine Tr.nil ?_
  exact Tr.backThen leL1 (l158, (w64 (x142 + 1)), Al158, cl158) ⟨H, hAl158⟩ (.cons rfl (.cons rfl (.cons rfl (.cons rfl .nil)))) (.cons rfl (.cons rfl .nil))
 ·refine Tr.exit (Tr.exitThen (Tr.exitThen (Tr.exitBlock (Tr.normThen ?_))))
  refine Tr.sr ?_
  refine Tr.mv rfl rfl ?_
  refine Tr.asg rfl rfl ?_
  refine Tr.nil (Tr.normThen ?_)
  refine Tr.ret ?_
  obtain rfl := Option.some.inj H
  exact Tr.out (m := [(.slice Al141 (l141).length cl141)]) [] (res_tmp rfl res_nil) (fun W hW => ⟨w, (Al141, cl141), leB, rfl, hl141, hW.pick (ks := [3]) (by decide) (pk_cons rfl pk_nil)⟩)
theorem F_etchhouseref3_movedSteps_ok : ∀ (N : Nat) {w : Bs} (p0 : (List TPlotStep)) (Ap0_0 : Option Addr) (cp0_0 : Nat) (hp0_0 : Sl w.O w.W fl_TPlotStep Ap0_0 cp0_0 p0) (p1 : TPoint) (r : (List TPlotStep)) (H : F_etchhouseref3_movedSteps N p0 p1 = some r) (hE : HF w w.W (LEn [emp])), Calls Tryd.prog 21 [(.slice Ap0_0 (p0).length cp0_0), (.agg #[(iv p1.X), (iv p1.Y)])].toArray w.W fun e W' => ∃ (w' : Bs) (u : (Option Addr × Nat)), w.Le w' ∧ e = .returned (.slice u.1 (r).length u.2) ∧ (SlF u.1 (r).length u.2) ∧ HF w' W' (LEn [ow u.1 u.2 46 fl_TPlotStep r])
 | 0 => by intros; rename_i H _; cases H
 | N + 1 => F_etchhouseref3_movedSteps_b_ok N (F_etchhouseref3_movedSteps N) (F_etchhouseref3_movedSteps_ok N)

theorem F_etchhouseref3_right_ok (N : Nat) {w : Bs} (p0 : TPlot) (Ap0_0 : Option Addr) (cp0_0 : Nat) (hp0_0 : Sl w.O w.W fl_TPlotTool Ap0_0 cp0_0 p0.Tools) (Ap0_1 : Option Addr) (cp0_1 : Nat) (hp0_1 : Sl w.O w.W fl_TPlotStep Ap0_1 cp0_1 p0.Steps) (r : (TPlot × Int)) (H : F_etchhouseref3_right N p0 = some r) (hE : HF w w.W (LEn [])) : Calls Tryd.prog 22 [(.agg #[(iv p0.Unit), (.slice Ap0_0 (p0.Tools).length cp0_0), (.slice Ap0_1 (p0.Steps).length cp0_1)])].toArray w.W fun e W' => ∃ (w' : Bs) (u : (Option Addr × Nat) × (Option Addr × Nat)), w.Le w' ∧ e = .returned (.tuple #[(.agg #[(iv r.1.Unit), (.slice u.1.1 (r.1.Tools).length u.1.2), (.slice u.2.1 (r.1.Steps).length u.2.2)]), (iv r.2)]) ∧ (Sl w'.O w'.W fl_TPlotTool u.1.1 u.1.2 r.1.Tools ∧ Sl w'.O w'.W fl_TPlotStep u.2.1 u.2.2 r.1.Steps) ∧ HF w' W' (LEn []) := by
 unfold F_etchhouseref3_right at H
 have leB := Bs.Le.refl w
 refine Tr.enter (n := 12) Tryd.func22 rfl rfl rfl hE ?_
 refine Tr.sr ?_
 refine Tr.box 1 (cs := [(iv p0.Unit), (.slice Ap0_0 (p0.Tools).length cp0_0), (.slice Ap0_1 (p0.Steps).length cp0_1)]) (wn rfl) rfl rfl rfl fun b100 => ?_
 refine Tr.alloc 2 (wn rfl) rfl ze_25 fun b101 => ?_
 refine Tr.asg rfl rfl ?_
 refine Tr.nil (Tr.normThen ?_)
 refine Tr.seq ?_
 refine Tr.sr ?_
 refine Tr.va rfl (fun _ _ h1 h2 => run_loadN (cs := [(iv p0.Unit), (.slice Ap0_0 (p0.Tools).length cp0_0), (.slice Ap0_1 (p0.Steps).length cp0_1)]) ag_25 sz_25 (h1.ev rfl) (CellsAt.take (rdb h2 (vs := [(iv p0.Unit), (.slice Ap0_0 (p0.Tools).length cp0_0), (.slice Ap0_1 (p0.Steps).length cp0_1)]) (k := 1) rfl 0) 3) rfl) ?_
 obtain ⟨y102, hy102, H⟩ := bnd H
 refine Tr.call0 (r := (iv y102)) (wn rfl) rfl Tryd.call18 (evl_cons rfl evl_nil) (fun W hW => F_etchhouseref3_CheckPlot_ok N p0 Ap0_0 cp0_0 (hp0_0.rl.ext hW.extAll) Ap0_1 cp0_1 (hp0_1.rl.ext hW.extAll) y102 hy102 (HF.start _)) ?_
 refine Tr.asg rfl rfl ?_
 refine Tr.nil (Tr.normThen ?_)
 refine Tr.sr ?_
 refine Tr.mv rfl rfl ?_
 refine Tr.va rfl (fun _ _ h1 h2 => run_neq (h1.ev rfl) (h1.ev rfl)) ?_
 refine Tr.nil (Tr.normThen ?_)
 refine Tr.cond rfl H (fun H => ?_) (fun H => ?_)
 ·refine Tr.sr ?_
  refine Tr.build (vs := []) (cs := [(iv 0), (.slice none 0 0), (.slice none 0 0)]) (wn rfl) rfl evs_nil (by kernel_rfl) ?_
  refine Tr.mv rfl rfl ?_
  refine Tr.store 2 (cs := [(iv 0), (.slice none 0 0), (.slice none 0 0)]) [(iv 0), (.slice none 0 0), (.slice none 0 0)] (wn rfl) rfl rfl rfl rfl sz_25 rfl rfl rfl ?_
  refine Tr.asg rfl rfl ?_
  refine Tr.nil (Tr.normThen ?_)
  refine Tr.ret (Tr.retThen ?_)
  obtain rfl := Option.some.inj H
  exact Tr.out (m := [(.agg #[(iv 0), (.slice none 0 0), (.slice none 0 0)]), (iv y102)]) [2] (res_cell rfl rfl ag_25 sz_25 (res_tmp rfl res_nil)) (fun W hW => ⟨w, ((none, 0), (none, 0)), leB, rfl, ⟨(Sl.nil _ _ _), (Sl.nil _ _ _)⟩, hW.pick (ks := []) (by decide) pk_nil⟩)
 ·refine Tr.skip (Tr.normThen ?_)
  refine Tr.sr ?_
  refine Tr.va rfl (fun _ _ h1 h2 => run_loadN (cs := [(iv p0.Unit), (.slice Ap0_0 (p0.Tools).length cp0_0), (.slice Ap0_1 (p0.Steps).length cp0_1)]) ag_25 sz_25 (h1.ev rfl) (CellsAt.take (rdb h2 (vs := [(iv p0.Unit), (.slice Ap0_0 (p0.Tools).length cp0_0), (.slice Ap0_1 (p0.Steps).length cp0_1)]) (k := 1) rfl 0) 3) rfl) ?_
  refine Tr.store 2 (cs := [(iv p0.Unit), (.slice Ap0_0 (p0.Tools).length cp0_0), (.slice Ap0_1 (p0.Steps).length cp0_1)]) [(iv p0.Unit), (.slice Ap0_0 (p0.Tools).length cp0_0), (.slice Ap0_1 (p0.Steps).length cp0_1)] (wn rfl) rfl rfl rfl rfl sz_25 rfl rfl rfl ?_
  refine Tr.asg rfl rfl ?_
  refine Tr.nil (Tr.normThen ?_)
  refine Tr.ret ?_
  obtain rfl := Option.some.inj H
  exact Tr.out (m := [(.agg #[(iv p0.Unit), (.slice Ap0_0 (p0.Tools).length cp0_0), (.slice Ap0_1 (p0.Steps).length cp0_1)]), (iv 0)]) [2] (res_cell rfl rfl ag_25 sz_25 (res_tmp rfl res_nil)) (fun W hW => ⟨w, ((Ap0_0, cp0_0), (Ap0_1, cp0_1)), leB, rfl, ⟨hp0_0, hp0_1⟩, hW.pick (ks := []) (by decide) pk_nil⟩)

theorem F_etchhouseref3_Moved_ok (N : Nat) {w : Bs} (p0 : TPlot) (Ap0_0 : Option Addr) (cp0_0 : Nat) (hp0_0 : Sl w.O w.W fl_TPlotTool Ap0_0 cp0_0 p0.Tools) (Ap0_1 : Option Addr) (cp0_1 : Nat) (hp0_1 : Sl w.O w.W fl_TPlotStep Ap0_1 cp0_1 p0.Steps) (p1 : TPoint) (r : (TPlot × Int)) (H : F_etchhouseref3_Moved N p0 p1 = some r) (hE : HF w w.W (LEn [])) : Calls Tryd.prog 5 [(.agg #[(iv p0.Unit), (.slice Ap0_0 (p0.Tools).length cp0_0), (.slice Ap0_1 (p0.Steps).length cp0_1)]), (.agg #[(iv p1.X), (iv p1.Y)])].toArray w.W fun e W' => ∃ (w' : Bs) (u : (Option Addr × Nat) × (Option Addr × Nat)), w.Le w' ∧ e = .returned (.tuple #[(.agg #[(iv r.1.Unit), (.slice u.1.1 (r.1.Tools).length u.1.2), (.slice u.2.1 (r.1.Steps).length u.2.2)]), (iv r.2)]) ∧ (Sl w'.O w'.W fl_TPlotTool u.1.1 u.1.2 r.1.Tools ∧ Sl w'.O w'.W fl_TPlotStep u.2.1 u.2.2 r.1.Steps) ∧ HF w' W' (LEn []) := by
 unfold F_etchhouseref3_Moved at H
 have leB := Bs.Le.refl w
 refine Tr.enter (n := 38) Tryd.func5 rfl rfl rfl hE ?_
 refine Tr.sr ?_
 refine Tr.box 1 (cs := [(iv p0.Unit), (.slice Ap0_0 (p0.Tools).length cp0_0), (.slice Ap0_1 (p0.Steps).length cp0_1)]) (wn rfl) rfl rfl rfl fun b100 => ?_
 refine Tr.box 2 (cs := [(iv p1.X), (iv p1.Y)]) (wn rfl) rfl rfl rfl fun b101 => ?_
 refine Tr.alloc 3 (wn rfl) rfl ze_25 fun b102 => ?_
 refine Tr.asg rfl rfl ?_
 refine Tr.nil (Tr.normThen ?_)
 refine Tr.seq ?_
 refine Tr.sr ?_
 refine Tr.va rfl (fun _ _ h1 h2 => run_loadN (cs := [(iv p0.Unit), (.slice Ap0_0 (p0.Tools).length cp0_0), (.slice Ap0_1 (p0.Steps).length cp0_1)]) ag_25 sz_25 (h1.ev rfl) (CellsAt.take (rdb h2 (vs := [(iv p0.Unit), (.slice Ap0_0 (p0.Tools).length cp0_0), (.slice Ap0_1 (p0.Steps).length cp0_1)]) (k := 1) rfl 0) 3) rfl) ?_
 obtain ⟨y103, hy103, H⟩ := bnd H
 refine Tr.call0 (r := (iv y103)) (wn rfl) rfl Tryd.call18 (evl_cons rfl evl_nil) (fun W hW => F_etchhouseref3_CheckPlot_ok N p0 Ap0_0 cp0_0 (hp0_0.rl.ext hW.extAll) Ap0_1 cp0_1 (hp0_1.rl.ext hW.extAll) y103 hy103 (HF.start _)) ?_
 refine Tr.asg rfl rfl ?_
 refine Tr.nil (Tr.normThen ?_)
 refine Tr.sr ?_
 refine Tr.mv rfl rfl ?_
 refine Tr.va rfl (fun _ _ h1 h2 => run_neq (h1.ev rfl) (h1.ev rfl)) ?_
 refine Tr.nil (Tr.normThen ?_)
 refine Tr.cond rfl H (fun H => ?_) (fun H => ?_)
 ·refine Tr.sr ?_
  refine Tr.build (vs := []) (cs := [(iv 0), (.slice none 0 0), (.slice none 0 0)]) (wn rfl) rfl evs_nil (by kernel_rfl) ?_
  refine Tr.mv rfl rfl ?_
  refine Tr.store 3 (cs := [(iv 0), (.slice none 0 0), (.slice none 0 0)]) [(iv 0), (.slice none 0 0), (.slice none 0 0)] (wn rfl) rfl rfl rfl rfl sz_25 rfl rfl rfl ?_
  refine Tr.asg rfl rfl ?_
  refine Tr.nil (Tr.normThen ?_)
  refine Tr.ret (Tr.retThen ?_)
  obtain rfl := Option.some.inj H
  exact Tr.out (m := [(.agg #[(iv 0), (.slice none 0 0), (.slice none 0 0)]), (iv y103)]) [3] (res_cell rfl rfl ag_25 sz_25 (res_tmp rfl res_nil)) (fun W hW => ⟨w, ((none, 0), (none, 0)), leB, rfl, ⟨(Sl.nil _ _ _), (Sl.nil _ _ _)⟩, hW.pick (ks := []) (by decide) pk_nil⟩)
 ·refine Tr.skip (Tr.normThen ?_)
  refine Tr.seq ?_
  refine Tr.sr ?_
  refine Tr.va rfl (fun _ _ h1 h2 => run_loadN (cs := [(iv p1.X), (iv p1.Y)]) ag_27 sz_27 (h1.ev rfl) (CellsAt.take (rdb h2 (vs := [(iv p1.X), (iv p1.Y)]) (k := 2) rfl 0) 2) rfl) ?_
  obtain ⟨y104, hy104, H⟩ := bnd H
  refine Tr.call0 (r := (.bool y104)) (wn rfl) rfl Tryd.call19 (evl_cons rfl evl_nil) (fun W hW => F_etchhouseref1_IsPoint_ok p1 y104 hy104 (HF.start _)) ?_
  refine Tr.va rfl (fun _ _ h1 h2 => run_not (h1.ev rfl)) ?_
  refine Tr.nil (Tr.normThen ?_)
  refine Tr.cond rfl H (fun H => ?_) (fun H => ?_)
  ·refine Tr.sr ?_
   refine Tr.build (vs := []) (cs := [(iv 0), (.slice none 0 0), (.slice none 0 0)]) (wn rfl) rfl evs_nil (by kernel_rfl) ?_
   refine Tr.store 3 (cs := [(iv 0), (.slice none 0 0), (.slice none 0 0)]) [(iv 0), (.slice none 0 0), (.slice none 0 0)] (wn rfl) rfl rfl rfl rfl sz_25 rfl rfl rfl ?_
   refine Tr.asg rfl rfl ?_
   refine Tr.nil (Tr.normThen ?_)
   refine Tr.ret (Tr.retThen ?_)
   obtain rfl := Option.some.inj H
   exact Tr.out (m := [(.agg #[(iv 0), (.slice none 0 0), (.slice none 0 0)]), (iv 1)]) [3] (res_cell rfl rfl ag_25 sz_25 (res_tmp rfl res_nil)) (fun W hW => ⟨w, ((none, 0), (none, 0)), leB, rfl, ⟨(Sl.nil _ _ _), (Sl.nil _ _ _)⟩, hW.pick (ks := []) (by decide) pk_nil⟩)
  ·refine Tr.skip (Tr.normThen ?_)
   refine Tr.sr ?_
   refine Tr.va rfl (fun _ _ h1 h2 => run_loadN (cs := [(iv p1.X), (iv p1.Y)]) ag_27 sz_27 (h1.ev rfl) (CellsAt.take (rdb h2 (vs := [(iv p1.X), (iv p1.Y)]) (k := 2) rfl 0) 2) rfl) ?_
   refine Tr.va rfl (fun _ _ h1 h2 => run_fieldAddr fo_25_0 (h1.ev rfl)) ?_
   refine Tr.va rfl (fun _ _ h1 h2 => run_load1 ag_3 (h1.ev rfl) (rdb h2 (vs := [(iv p0.Unit), (.slice Ap0_0 (p0.Tools).length cp0_0), (.slice Ap0_1 (p0.Steps).length cp0_1)]) (k := 1) rfl 0) rfl) ?_
   obtain ⟨y105, hy105, H⟩ := bnd H
   refine Tr.call0 (r := (.tuple #[(.agg #[(iv y105.1.X), (iv y105.1.Y)]), (.bool y105.2)])) (wn rfl) rfl Tryd.call20 (evl_cons rfl (evl_cons rfl evl_nil)) (fun W hW => F_etchhouseref3_inUnits_ok p1 p0.Unit y105 hy105 (HF.start _)) ?_
   refine Tr.mv rfl rfl ?_
   refine Tr.va rfl (fun _ _ h1 h2 => run_extract (h1.ev rfl) rfl) ?_
   refine Tr.va rfl (fun _ _ h1 h2 => run_extract (h1.ev rfl) rfl) ?_
   refine Tr.alloc 4 (wn rfl) rfl ze_27 fun b106 => ?_
   refine Tr.store 4 (cs := [(iv y105.1.X), (iv y105.1.Y)]) [(iv y105.1.X), (iv y105.1.Y)] (wn rfl) rfl rfl rfl rfl sz_27 rfl rfl rfl ?_
   refine Tr.asg rfl rfl ?_
   refine Tr.nil (Tr.normThen ?_)
   refine Tr.seq ?_
   refine Tr.sr ?_
   refine Tr.mv rfl rfl ?_
   refine Tr.va rfl (fun _ _ h1 h2 => run_not (h1.ev rfl)) ?_
   refine Tr.nil (Tr.normThen ?_)
   refine Tr.cond rfl H (fun H => ?_) (fun H => ?_)
   ·refine Tr.sr ?_
    refine Tr.build (vs := []) (cs := [(iv 0), (.slice none 0 0), (.slice none 0 0)]) (wn rfl) rfl evs_nil (by kernel_rfl) ?_
    refine Tr.store 3 (cs := [(iv 0), (.slice none 0 0), (.slice none 0 0)]) [(iv 0), (.slice none 0 0), (.slice none 0 0)] (wn rfl) rfl rfl rfl rfl sz_25 rfl rfl rfl ?_
    refine Tr.asg rfl rfl ?_
    refine Tr.nil (Tr.normThen ?_)
    refine Tr.ret (Tr.retThen ?_)
    obtain rfl := Option.some.inj H
    exact Tr.out (m := [(.agg #[(iv 0), (.slice none 0 0), (.slice none 0 0)]), (iv 3)]) [3] (res_cell rfl rfl ag_25 sz_25 (res_tmp rfl res_nil)) (fun W hW => ⟨w, ((none, 0), (none, 0)), leB, rfl, ⟨(Sl.nil _ _ _), (Sl.nil _ _ _)⟩, hW.pick (ks := []) (by decide) pk_nil⟩)
   ·refine Tr.skip (Tr.normThen ?_)
    refine Tr.sr ?_
    refine Tr.va rfl (fun _ _ h1 h2 => run_fieldAddr fo_25_2 (h1.ev rfl)) ?_
    refine Tr.va rfl (fun _ _ h1 h2 => run_load1 ag_23 (h1.ev rfl) (rdb h2 (vs := [(iv p0.Unit), (.slice Ap0_0 (p0.Tools).length cp0_0), (.slice Ap0_1 (p0.Steps).length cp0_1)]) (k := 1) rfl 2) rfl) ?_
    refine Tr.va rfl (fun _ _ h1 h2 => run_loadN (cs := [(iv y105.1.X), (iv y105.1.Y)]) ag_27 sz_27 (h1.ev rfl) (CellsAt.take (rdb h2 (vs := [(iv y105.1.X), (iv y105.1.Y)]) (k := 4) rfl 0) 2) rfl) ?_
    obtain ⟨y107, hy107, H⟩ := bnd H
    refine Tr.callG [5] [emp] (U := (Option Addr × Nat)) (fun u => (.slice u.1 (y107).length u.2)) (fun O W u => SlF u.1 (y107).length u.2) (fun u => [ow u.1 u.2 46 fl_TPlotStep y107]) rfl (pk_cons rfl pk_nil) (fun _ => rfl) (wn rfl) rfl Tryd.call21 (evl_cons rfl (evl_cons rfl evl_nil)) (fun W hW hp hE => F_etchhouseref3_movedSteps_ok N p0.Steps Ap0_1 cp0_1 (hp0_1.extO (hW.extS hp)) y105.1 y107 hy107 hE) ?_
    intro w u le108 hu
    obtain ⟨Ay107_0, cy107_0⟩ := u
    have gy107_0 := hu
    replace hp0_0 := hp0_0.le le108
    replace hp0_1 := hp0_1.le le108
    replace leB := leB.trans le108
    have hgy107_0 : SlF Ay107_0 (y107).length cy107_0 := gy107_0 --@phi
    show Tr _ _ (uf _ 32 (.slice Ay107_0 (y107).length cy107_0)) (up _ 5 (ow Ay107_0 cy107_0 46 fl_TPlotStep y107)) _
    refine Tr.va rfl (fun _ _ h1 h2 => run_fieldAddr fo_25_2 (h1.ev rfl)) ?_
    refine Tr.store 1 (cs := [(.slice Ay107_0 (y107).length cy107_0)]) [(iv p0.Unit), (.slice Ap0_0 (p0.Tools).length cp0_0), (.slice Ay107_0 (y107).length cy107_0)] (wn rfl) rfl rfl rfl rfl sz_23 rfl rfl rfl ?_
    refine Tr.nil (Tr.normThen ?_)
    refine Tr.sr ?_
    refine Tr.va rfl (fun _ _ h1 h2 => run_loadN (cs := [(iv p0.Unit), (.slice Ap0_0 (p0.Tools).length cp0_0), (.slice Ay107_0 (y107).length cy107_0)]) ag_25 sz_25 (h1.ev rfl) (CellsAt.take (rdb h2 (vs := [(iv p0.Unit), (.slice Ap0_0 (p0.Tools).length cp0_0), (.slice Ay107_0 (y107).length cy107_0)]) (k := 1) rfl 0) 3) rfl) ?_
    refine Tr.freeze 5 rfl fun w le110 hz109 => ?_
    replace hp0_0 := hp0_0.le le110
    replace hp0_1 := hp0_1.le le110
    replace leB := leB.trans le110
    obtain ⟨y111, hy111, H⟩ := bnd H
    refine Tr.callG [] [] (U := (Option Addr × Nat) × (Option Addr × Nat)) (fun u => (.tuple #[(.agg #[(iv y111.1.Unit), (.slice u.1.1 (y111.1.Tools).length u.1.2), (.slice u.2.1 (y111.1.Steps).length u.2.2)]), (iv y111.2)])) (fun O W u => Sl O W fl_TPlotTool u.1.1 u.1.2 y111.1.Tools ∧ Sl O W fl_TPlotStep u.2.1 u.2.2 y111.1.Steps) (fun u => []) rfl pk_nil (fun _ => rfl) (wn rfl) rfl Tryd.call22 (evl_cons rfl evl_nil) (fun W hW hp hE => F_etchhouseref3_right_ok N (TPlot.mk p0.Unit p0.Tools y107) Ap0_0 cp0_0 (hp0_0.extO (hW.extS hp)) Ay107_0 cy107_0 (hz109.extO (hW.extS hp)) y111 hy111 hE) ?_
    intro w u le112 hu
    obtain ⟨⟨Ay111_0, cy111_0⟩, ⟨Ay111_1, cy111_1⟩⟩ := u
    obtain ⟨gy111_0, gy111_1⟩ := hu
    replace hp0_0 := hp0_0.le le112
    replace hp0_1 := hp0_1.le le112
    replace hz109 := hz109.le le112
    replace leB := leB.trans le112
    have hgy111_0 : Sl w.O w.W fl_TPlotTool Ay111_0 cy111_0 y111.1.Tools := gy111_0 --@phi
    have hgy111_1 : Sl w.O w.W fl_TPlotStep Ay111_1 cy111_1 y111.1.Steps := gy111_1 --@phi
    show Tr _ _ (uf _ 35 (.tuple #[(.agg #[(iv y111.1.Unit), (.slice Ay111_0 (y111.1.Tools).length cy111_0), (.slice Ay111_1 (y111.1.Steps).length cy111_1)]), (iv y111.2)])) (_) _
    refine Tr.va rfl (fun _ _ h1 h2 => run_extract (h1.ev rfl) rfl) ?_
    refine Tr.va rfl (fun _ _ h1 h2 => run_extract (h1.ev rfl) rfl) ?_
    refine Tr.store 3 (cs := [(iv y111.1.Unit), (.slice Ay111_0 (y111.1.Tools).length cy111_0), (.slice Ay111_1 (y111.1.Steps).length cy111_1)]) [(iv y111.1.Unit), (.slice Ay111_0 (y111.1.Tools).length cy111_0), (.slice Ay111_1 (y111.1.Steps).length cy111_1)] (wn rfl) rfl rfl rfl rfl sz_25 rfl rfl rfl ?_
    refine Tr.asg rfl rfl ?_
    refine Tr.nil (Tr.normThen ?_)
    refine Tr.ret ?_
    obtain rfl := Option.some.inj H
    exact Tr.out (m := [(.agg #[(iv y111.1.Unit), (.slice Ay111_0 (y111.1.Tools).length cy111_0), (.slice Ay111_1 (y111.1.Steps).length cy111_1)]), (iv y111.2)]) [3] (res_cell rfl rfl ag_25 sz_25 (res_tmp rfl res_nil)) (fun W hW => ⟨w, ((Ay111_0, cy111_0), (Ay111_1, cy111_1)), leB, rfl, ⟨hgy111_0, hgy111_1⟩, hW.pick (ks := []) (by decide) pk_nil⟩)

theorem F_shape_CheckTurn_ok {w : Bs} (p0 : TTurn) (r : Int) (H : F_shape_CheckTurn p0 = some r) (hE : HF w w.W E0) : Calls Tryd.prog 23 [(.agg #[(.bool p0.Flip), (iv p0.Quarters), (iv p0.At.X), (iv p0.At.Y)])].toArray w.W fun e W' => e = .returned (iv r) ∧ HF w W' E0 := by
 unfold F_shape_CheckTurn at H
 have leB := Bs.Le.refl w
 refine Tr.enter (n := 13) Tryd.func23 rfl rfl rfl hE ?_
 refine Tr.sr ?_
 refine Tr.box 1 (cs := [(.bool p0.Flip), (iv p0.Quarters), (iv p0.At.X), (iv p0.At.Y)]) (wn rfl) rfl rfl rfl fun b100 => ?_
 refine Tr.asg rfl rfl ?_
 refine Tr.nil (Tr.normThen ?_)
 refine Tr.seq ?_
 refine Tr.sr ?_
 refine Tr.va rfl (fun _ _ h1 h2 => run_fieldAddr fo_29_1 (h1.ev rfl)) ?_
 refine Tr.va rfl (fun _ _ h1 h2 => run_load1 ag_3 (h1.ev rfl) (rdb h2 (vs := [(.bool p0.Flip), (iv p0.Quarters), (iv p0.At.X), (iv p0.At.Y)]) (k := 1) rfl 1) rfl) ?_
 obtain ⟨y101, hy101, H⟩ := bnd H
 refine Tr.call0 (r := (.bool y101)) (wn rfl) rfl Tryd.call53 (evl_cons rfl (evl_cons rfl (evl_cons rfl evl_nil))) (fun W hW => F_shape_within_ok p0.Quarters 0 3 y101 hy101 (HF.start _)) ?_
 refine Tr.va rfl (fun _ _ h1 h2 => run_not (h1.ev rfl)) ?_
 refine Tr.mv rfl rfl ?_
 obtain ⟨g103, hg103, H⟩ := bnd H
 refine Tr.mid0 5 [(12, (.bool g103))] [(1, bx b100 #[(.bool p0.Flip), (iv p0.Quarters), (iv p0.At.X), (iv p0.At.Y)] 29)] ?_ ?_
 ·cases hg104 : (!y101)
  ·rw [hg104] at hg103
   rw [if_neg (by decide)] at hg103
   have H := hg103
   refine Tr.val (wg rfl rfl rfl) rfl (fun _ _ h1 h2 => run_fieldAddr fo_29_2 (h1.ev rfl)) ?_
   refine Tr.val (wg rfl rfl rfl) rfl (fun _ _ h1 h2 => run_loadN (cs := [(iv p0.At.X), (iv p0.At.Y)]) ag_27 sz_27 (h1.ev rfl) (CellsAt.take (rdb h2 (vs := [(.bool p0.Flip), (iv p0.Quarters), (iv p0.At.X), (iv p0.At.Y)]) (k := 1) rfl 2) 2) rfl) ?_
   obtain ⟨y104, hy104, H⟩ := bnd H
   refine Tr.call0 (r := (.bool y104)) (wg rfl rfl rfl) rfl Tryd.call11 (evl_cons rfl evl_nil) (fun W hW => F_shape_IsPoint_ok p0.At y104 hy104 (HF.start _)) ?_
   refine Tr.val (wg rfl rfl rfl) rfl (fun _ _ h1 h2 => run_not (h1.ev rfl)) ?_
   refine Tr.va rfl (fun _ _ h1 h2 => run_pickF (h1.ev rfl) (h1.ev rfl)) ?_
   obtain rfl := Option.some.inj H
   exact Tr.nil (Tr.fin0 (.cons rfl .nil) (.cons rfl .nil))
  ·rw [hg104] at hg103
   rw [if_pos rfl] at hg103
   have H := hg103
   obtain rfl := Option.some.inj H
   refine Tr.pass rfl rfl rfl rfl rfl (by decide) ?_
   refine Tr.pass rfl rfl rfl rfl rfl (by decide) ?_
   refine Tr.pass rfl rfl rfl rfl rfl (by decide) ?_
   refine Tr.pass rfl rfl rfl rfl rfl (by decide) ?_
   refine Tr.va rfl (fun _ _ h1 h2 => run_pickT (h1.ev rfl) (h1.ev rfl)) ?_
   exact Tr.nil (Tr.fin0 (.cons rfl .nil) (.cons rfl .nil))
 ·show Tr _ _ (LF [(12, (.bool g103))]) (LE [(1, bx b100 #[(.bool p0.Flip), (iv p0.Quarters), (iv p0.At.X), (iv p0.At.Y)] 29)]) _
  refine Tr.nil (Tr.normThen ?_)
  refine Tr.cond rfl H (fun H => ?_) (fun H => ?_)
  ·refine Tr.sr ?_
   refine Tr.asg rfl rfl ?_
   refine Tr.nil (Tr.normThen ?_)
   refine Tr.ret (Tr.retThen ?_)
   obtain rfl := Option.some.inj H
   exact Tr.out (m := [(iv 1)]) [] (res_tmp rfl res_nil) (fun W hW => ⟨rfl, hW.low leB⟩)
  ·refine Tr.skip (Tr.normThen ?_)
   refine Tr.sr ?_
   refine Tr.asg rfl rfl ?_
   refine Tr.nil (Tr.normThen ?_)
   refine Tr.ret ?_
   obtain rfl := Option.some.inj H
   exact Tr.out (m := [(iv 0)]) [] (res_tmp rfl res_nil) (fun W hW => ⟨rfl, hW.low leB⟩)

theorem F_plot_flat_b_ok (N : Nat) (rec : (List TPlotStep) → TPoint → Option (List TPlotStep)) (hrec : ∀ {w : Bs} (p0 : (List TPlotStep)) (Ap0_0 : Option Addr) (cp0_0 : Nat) (hp0_0 : Sl w.O w.W fl_TPlotStep Ap0_0 cp0_0 p0) (p1 : TPoint) (r : (List TPlotStep)) (H : rec p0 p1 = some r) (hE : HF w w.W (LEn [emp])), Calls Tryd.prog 54 [(.slice Ap0_0 (p0).length cp0_0), (.agg #[(iv p1.X), (iv p1.Y)])].toArray w.W fun e W' => ∃ (w' : Bs) (u : (Option Addr × Nat × List (DE fl_TPlotStep))), w.Le w' ∧ e = .returned (.slice u.1 (r).length u.2.1) ∧ ((DC u.2.2 r ∧ SlF u.1 (r).length u.2.1)) ∧ HF w' W' (LEn [dq u.1 (r).length u.2.1 46 27 ln_TPlotStep u.2.2])) {w : Bs} (p0 : (List TPlotStep)) (Ap0_0 : Option Addr) (cp0_0 : Nat) (hp0_0 : Sl w.O w.W fl_TPlotStep Ap0_0 cp0_0 p0) (p1 : TPoint) (r : (List TPlotStep)) (H : F_plot_flat_b N rec p0 p1 = some r) (hE : HF w w.W (LEn [emp])) : Calls Tryd.prog 54 [(.slice Ap0_0 (p0).length cp0_0), (.agg #[(iv p1.X), (iv p1.Y)])].toArray w.W fun e W' => ∃ (w' : Bs) (u : (Option Addr × Nat × List (DE fl_TPlotStep))), w.Le w' ∧ e = .returned (.slice u.1 (r).length u.2.1) ∧ ((DC u.2.2 r ∧ SlF u.1 (r).length u.2.1)) ∧ HF w' W' (LEn [dq u.1 (r).length u.2.1 46 27 ln_TPlotStep u.2.2]) := by
 unfold F_plot_flat_b at H
 have leB := Bs.Le.refl w
 refine Tr.enter (n := 113) Tryd.func54 rfl rfl rfl hE ?_
 refine Tr.sr ?_
 refine Tr.box 1 (cs := [(iv p1.X), (iv p1.Y)]) (wn rfl) rfl rfl rfl fun b100 => ?_
 refine Tr.asg rfl rfl ?_
 refine Tr.nilOwn 2 46 fl_TPlotStep ?_
 show Tr _ _ (uf _ 4 (.slice none (([] : List TPlotStep)).length 0)) _ _
 refine Tr.nil (Tr.normThen ?_)
 refine Tr.sr ?_
 refine Tr.asg rfl rfl ?_
 refine Tr.dqNil 3 46 27 ln_TPlotStep ?_
 show Tr _ _ (uf _ 5 (.slice none (([] : List TPlotStep)).length 0)) (up _ 3 (dq none ([] : List TPlotStep).length 0 46 27 ln_TPlotStep [])) _
 refine Tr.nil (Tr.normThen ?_)
 refine Tr.seq ?_
 refine Tr.sr ?_
 refine Tr.mv rfl rfl ?_
 refine Tr.va rfl (fun _ _ h1 h2 => run_len un_23 (h1.ev rfl)) ?_
 refine Tr.mv rfl rfl ?_
 refine Tr.nil (Tr.normThen ?_)
 refine Tr.block ?_
 refine Tr.loop (σ := (List TPlotStep) × Nat × (List TPlotStep) × (Option Addr) × Nat × (List (DE fl_TPlotStep))) (fun m w s => m = s.1.length + 1 ∧ s.1 = List.drop s.2.1 p0 ∧ s.2.1 ≤ p0.length ∧ F_plot_flat_L21 N p1 rec s.1 s.2.1 s.2.2.1 = some r ∧ (DC s.2.2.2.2.2 s.2.2.1 ∧ SlF s.2.2.2.1 (s.2.2.1).length s.2.2.2.2.1)) (fun s => [(3, (.pointer (some ⟨b100, 0, none⟩))), (5, (.slice s.2.2.2.1 (s.2.2.1).length s.2.2.2.2.1)), (11, (.slice Ap0_0 (p0).length cp0_0)), (12, (iv (p0.length : Int))), (13, (iv (s.2.1 : Int)))]) (fun s => [(1, bx b100 #[(iv p1.X), (iv p1.Y)] 27), (3, dq s.2.2.2.1 (s.2.2.1).length s.2.2.2.2.1 46 27 ln_TPlotStep s.2.2.2.2.2)]) (p0.length + 1) (p0, 0, ([] : List TPlotStep), none, 0, ([] : List (DE fl_TPlotStep))) ⟨rfl, rfl, Nat.zero_le _, H, ⟨DC.nil, slf_nil⟩⟩ (.cons rfl (.cons rfl (.cons rfl (.cons rfl (.cons rfl .nil))))) (.cons rfl (.cons rfl .nil)) (fun _ _ h => absurd h.1 (by simp)) ?_
 intro w leL21 m s hs
 obtain ⟨restL21, iL21, m459, Am459, cm459, msm459⟩ := s
 obtain ⟨hmL21, hdL21, hiL21, H, hm459⟩ := hs
 replace hdL21 : restL21 = List.drop iL21 p0 := hdL21
 replace H : F_plot_flat_L21 N p1 rec restL21 iL21 m459 = some r := H
 replace hmL21 : m + 1 = restL21.length + 1 := hmL21
 replace hp0_0 := hp0_0.le leL21
 replace leB := leB.trans leL21
 replace hm459 : DC msm459 m459 ∧ SlF Am459 (m459).length cm459 := hm459
 obtain rfl : m = restL21.length := by omega
 clear hmL21
 show Tr _ _ (LF [(3, (.pointer (some ⟨b100, 0, none⟩))), (5, (.slice Am459 (m459).length cm459)), (11, (.slice Ap0_0 (p0).length cp0_0)), (12, (iv (p0.length : Int))), (13, (iv (iL21 : Int)))]) (LE [(1, bx b100 #[(iv p1.X), (iv p1.Y)] 27), (3, dq Am459 (m459).length cm459 46 27 ln_TPlotStep msm459)]) _
 cases restL21 with
 | nil =>
  rw [F_plot_flat_L21.eq_1] at H
  refine Tr.sr ?_
  refine Tr.va rfl (fun _ _ h1 h2 => run_lss (h1.ev rfl) (h1.ev rfl)) ?_
  refine Tr.nil (Tr.normThen ?_)
  refine Tr.seq ?_
  refine Tr.condF rfl (range_nil hdL21) ?_
  refine Tr.exit (Tr.exitThen (Tr.exitThen (Tr.exitBlock (Tr.normThen ?_))))
  refine Tr.sr ?_
  refine Tr.mv rfl rfl ?_
  refine Tr.asg rfl rfl ?_
  refine Tr.nil (Tr.normThen ?_)
  refine Tr.ret ?_
  obtain rfl := Option.some.inj H
  exact Tr.out (m := [(.slice Am459 (m459).length cm459)]) [] (res_tmp rfl res_nil) (fun W hW => ⟨w, (Am459, cm459, msm459), leB, rfl, ⟨hm459.1, hm459.2⟩, hW.pick (ks := [3]) (by decide) (pk_cons rfl pk_nil)⟩)
 | cons xL21 restL21 =>
  rw [F_plot_flat_L21.eq_2] at H
  refine Tr.sr ?_
  refine Tr.va rfl (fun _ _ h1 h2 => run_lss (h1.ev rfl) (h1.ev rfl)) ?_
  refine Tr.nil (Tr.normThen ?_)
  refine Tr.seq ?_
  refine Tr.condT rfl (range_on hdL21) ?_
  refine Tr.skip (Tr.normThen ?_)
  refine Tr.seq ?_
  refine Tr.block ?_
  refine Tr.sr ?_
  obtain ⟨u460, hRu460, hoku460, hcu460⟩ := (hp0_0).el (range_at hdL21)
  obtain ⟨⟨Au460_0, cu460_0⟩, ⟨Au460_1, cu460_1⟩⟩ := u460
  obtain ⟨hoku460_0, hoku460_1⟩ := TPlotStep_ok.1 hoku460
  replace hoku460_0 : Sl w.O w.W fl_TPoint Au460_0 cu460_0 xL21.Points := hoku460_0
  replace hoku460_1 : Sl w.O w.W fl_TPlotStep Au460_1 cu460_1 xL21.Steps := hoku460_1
  replace hRu460 : w.R (adB Ap0_0) := Or.inl hRu460
  refine Tr.va rfl (fun _ _ h1 h2 => run_indexAddr el_23 (h1.ev rfl) hp0_0.form (h1.ev rfl) (Int.natCast_nonneg _) (range_lt hdL21)) ?_
  refine Tr.va rfl (fun _ _ h1 h2 => run_loadN (cs := [(iv xL21.Kind), (sv xL21.Name), (iv xL21.At.X), (iv xL21.At.Y), (.slice Au460_0 (xL21.Points).length cu460_0), (iv xL21.NX), (iv xL21.NY), (.slice Au460_1 (xL21.Steps).length cu460_1)]) ag_46 sz_46 (h1.ev rfl) (CellsAt.take (rdR hRu460 hcu460 h2) 8) rfl) ?_
  refine Tr.alloc 120 (wn rfl) rfl ze_46 fun b461 => ?_
  refine Tr.store 120 (cs := [(iv xL21.Kind), (sv xL21.Name), (iv xL21.At.X), (iv xL21.At.Y), (.slice Au460_0 (xL21.Points).length cu460_0), (iv xL21.NX), (iv xL21.NY), (.slice Au460_1 (xL21.Steps).length cu460_1)]) [(iv xL21.Kind), (sv xL21.Name), (iv xL21.At.X), (iv xL21.At.Y), (.slice Au460_0 (xL21.Points).length cu460_0), (iv xL21.NX), (iv xL21.NY), (.slice Au460_1 (xL21.Steps).length cu460_1)] (wn rfl) rfl rfl rfl rfl sz_46 rfl rfl rfl ?_
  refine Tr.nil (Tr.normThen ?_)
  have leJ533 := Bs.Le.refl w
  refine Tr.cutJ (σ := Int × Int) (fun w s => F_plot_flat_J27 N p1 m459 (F_plot_flat_L21 N p1 rec restL21 (iL21 + 1)) xL21 s.1 s.2 = some r) (fun s => [(3, (.pointer (some ⟨b100, 0, none⟩))), (5, (.slice Am459 (m459).length cm459)), (7, (.pointer (some ⟨b461, 0, none⟩))), (11, (.slice Ap0_0 (p0).length cp0_0)), (12, (iv (p0.length : Int))), (13, (iv (iL21 : Int)))]) (fun s => [(1, bx b100 #[(iv p1.X), (iv p1.Y)] 27), (3, dq Am459 (m459).length cm459 46 27 ln_TPlotStep msm459), (120, bx b461 #[(iv xL21.Kind), (sv xL21.Name), (iv s.1), (iv s.2), (.slice Au460_0 (xL21.Points).length cu460_0), (iv xL21.NX), (iv xL21.NY), (.slice Au460_1 (xL21.Steps).length cu460_1)] 46)]) ?_ ?_
  ·refine Tr.block ?_
   refine Tr.sr ?_
   refine Tr.va rfl (fun _ _ h1 h2 => run_fieldAddr fo_46_0 (h1.ev rfl)) ?_
   refine Tr.va rfl (fun _ _ h1 h2 => run_load1 ag_3 (h1.ev rfl) (rdb h2 (vs := [(iv xL21.Kind), (sv xL21.Name), (iv xL21.At.X), (iv xL21.At.Y), (.slice Au460_0 (xL21.Points).length cu460_0), (iv xL21.NX), (iv xL21.NY), (.slice Au460_1 (xL21.Steps).length cu460_1)]) (k := 120) rfl 0) rfl) ?_
   refine Tr.va rfl (fun _ _ h1 h2 => run_eql (h1.ev rfl) (h1.ev rfl)) ?_
   refine Tr.asg rfl rfl ?_
   refine Tr.nil (Tr.normThen ?_)
   refine Tr.cond rfl H (fun H => ?_) (fun H => ?_)
   ·refine Tr.seq ?_
    refine Tr.sr ?_
    refine Tr.va rfl (fun _ _ h1 h2 => run_fieldAddr fo_46_5 (h1.ev rfl)) ?_
    refine Tr.va rfl (fun _ _ h1 h2 => run_load1 ag_3 (h1.ev rfl) (rdb h2 (vs := [(iv xL21.Kind), (sv xL21.Name), (iv xL21.At.X), (iv xL21.At.Y), (.slice Au460_0 (xL21.Points).length cu460_0), (iv xL21.NX), (iv xL21.NY), (.slice Au460_1 (xL21.Steps).length cu460_1)]) (k := 120) rfl 6) rfl) ?_
    refine Tr.mv rfl rfl ?_
    refine Tr.nil (Tr.normThen ?_)
    refine Tr.block ?_
    refine Tr.loop (σ := (List TPlotStep) × Int × (Option Addr) × Nat × (List (DE fl_TPlotStep))) (fun m w s => F_plot_flat_L30 N p1 rec (F_plot_flat_L21 N p1 rec restL21 (iL21 + 1)) xL21 m s.1 s.2.1 = some r ∧ (DC s.2.2.2.2 s.1 ∧ SlF s.2.2.1 (s.1).length s.2.2.2.1)) (fun s => [(3, (.pointer (some ⟨b100, 0, none⟩))), (5, (.slice s.2.2.1 (s.1).length s.2.2.2.1)), (7, (.pointer (some ⟨b461, 0, none⟩))), (11, (.slice Ap0_0 (p0).length cp0_0)), (12, (iv (p0.length : Int))), (13, (iv (iL21 : Int))), (22, (iv xL21.NY)), (23, (iv s.2.1))]) (fun s => [(1, bx b100 #[(iv p1.X), (iv p1.Y)] 27), (3, dq s.2.2.1 (s.1).length s.2.2.2.1 46 27 ln_TPlotStep s.2.2.2.2), (120, bx b461 #[(iv xL21.Kind), (sv xL21.Name), (iv xL21.At.X), (iv xL21.At.Y), (.slice Au460_0 (xL21.Points).length cu460_0), (iv xL21.NX), (iv xL21.NY), (.slice Au460_1 (xL21.Steps).length cu460_1)] 46)]) N (m459, 0, Am459, cm459, msm459) ⟨H, ⟨hm459.1, hm459.2⟩⟩ (.cons rfl (.cons rfl (.cons rfl (.cons rfl (.cons rfl (.cons rfl (.cons rfl (.cons rfl .nil)))))))) (.cons rfl (.cons rfl (.cons rfl .nil))) (fun _ _ h => noSome (h.1)) ?_
    intro w leL30 mL30 s hs
    obtain ⟨m612, x613, Am612, cm612, msm612⟩ := s
    obtain ⟨H, hm612⟩ := hs
    replace H : F_plot_flat_L30 N p1 rec (F_plot_flat_L21 N p1 rec restL21 (iL21 + 1)) xL21 (mL30 + 1) m612 x613 = some r := H
    replace hoku460_0 := hoku460_0.le leL30
    replace hoku460_1 := hoku460_1.le leL30
    replace hp0_0 := hp0_0.le leL30
    replace leB := leB.trans leL30
    replace leL21 := leL21.trans leL30
    replace leJ533 := leJ533.trans leL30
    replace hm612 : DC msm612 m612 ∧ SlF Am612 (m612).length cm612 := hm612
    rw [F_plot_flat_L30.eq_2] at H
    show Tr _ _ (LF [(3, (.pointer (some ⟨b100, 0, none⟩))), (5, (.slice Am612 (m612).length cm612)), (7, (.pointer (some ⟨b461, 0, none⟩))), (11, (.slice Ap0_0 (p0).length cp0_0)), (12, (iv (p0.length : Int))), (13, (iv (iL21 : Int))), (22, (iv xL21.NY)), (23, (iv x613))]) (LE [(1, bx b100 #[(iv p1.X), (iv p1.Y)] 27), (3, dq Am612 (m612).length cm612 46 27 ln_TPlotStep msm612), (120, bx b461 #[(iv xL21.Kind), (sv xL21.Name), (iv xL21.At.X), (iv xL21.At.Y), (.slice Au460_0 (xL21.Points).length cu460_0), (iv xL21.NX), (iv xL21.NY), (.slice Au460_1 (xL21.Steps).length cu460_1)] 46)]) _
    refine Tr.sr ?_
    refine Tr.va rfl (fun _ _ h1 h2 => run_lss (h1.ev rfl) (h1.ev rfl)) ?_
    refine Tr.nil (Tr.normThen ?_)
    refine Tr.seq ?_
    refine Tr.cond rfl H (fun H => ?_) (fun H => ?_)
    ·refine Tr.skip (Tr.normThen ?_)
     refine Tr.seq ?_
     refine Tr.block ?_
     refine Tr.sr ?_
     refine Tr.mv rfl rfl ?_
     refine Tr.asg rfl rfl ?_
     refine Tr.nil (Tr.normThen ?_)
     refine Tr.sr ?_
     refine Tr.va rfl (fun _ _ h1 h2 => run_fieldAddr fo_46_4 (h1.ev rfl)) ?_
     refine Tr.va rfl (fun _ _ h1 h2 => run_load1 ag_3 (h1.ev rfl) (rdb h2 (vs := [(iv xL21.Kind), (sv xL21.Name), (iv xL21.At.X), (iv xL21.At.Y), (.slice Au460_0 (xL21.Points).length cu460_0), (iv xL21.NX), (iv xL21.NY), (.slice Au460_1 (xL21.Steps).length cu460_1)]) (k := 120) rfl 5) rfl) ?_
     refine Tr.mv rfl rfl ?_
     refine Tr.nil (Tr.normThen ?_)
     refine Tr.block ?_
     refine Tr.loop (σ := (List TPlotStep) × Int × (Option Addr) × Nat × (List (DE fl_TPlotStep))) (fun m w s => F_plot_flat_L31 p1 rec xL21 x613 (F_plot_flat_L30 N p1 rec (F_plot_flat_L21 N p1 rec restL21 (iL21 + 1)) xL21 mL30) m s.1 s.2.1 = some r ∧ (DC s.2.2.2.2 s.1 ∧ SlF s.2.2.1 (s.1).length s.2.2.2.1)) (fun s => [(3, (.pointer (some ⟨b100, 0, none⟩))), (5, (.slice s.2.2.1 (s.1).length s.2.2.2.1)), (7, (.pointer (some ⟨b461, 0, none⟩))), (8, (iv x613)), (11, (.slice Ap0_0 (p0).length cp0_0)), (12, (iv (p0.length : Int))), (13, (iv (iL21 : Int))), (22, (iv xL21.NY)), (23, (iv x613)), (27, (iv xL21.NX)), (28, (iv s.2.1))]) (fun s => [(1, bx b100 #[(iv p1.X), (iv p1.Y)] 27), (3, dq s.2.2.1 (s.1).length s.2.2.2.1 46 27 ln_TPlotStep s.2.2.2.2), (120, bx b461 #[(iv xL21.Kind), (sv xL21.Name), (iv xL21.At.X), (iv xL21.At.Y), (.slice Au460_0 (xL21.Points).length cu460_0), (iv xL21.NX), (iv xL21.NY), (.slice Au460_1 (xL21.Steps).length cu460_1)] 46)]) N (m612, 0, Am612, cm612, msm612) ⟨H, ⟨hm612.1, hm612.2⟩⟩ (.cons rfl (.cons rfl (.cons rfl (.cons rfl (.cons rfl (.cons rfl (.cons rfl (.cons rfl (.cons rfl (.cons rfl (.cons rfl .nil))))))))))) (.cons rfl (.cons rfl (.cons rfl .nil))) (fun _ _ h => noSome (h.1)) ?_
     intro w leL31 mL31 s hs
     obtain ⟨m628, x629, Am628, cm628, msm628⟩ := s
     obtain ⟨H, hm628⟩ := hs
     replace H : F_plot_flat_L31 p1 rec xL21 x613 (F_plot_flat_L30 N p1 rec (F_plot_flat_L21 N p1 rec restL21 (iL21 + 1)) xL21 mL30) (mL31 + 1) m628 x629 = some r := H
     replace hoku460_0 := hoku460_0.le leL31
     replace hoku460_1 := hoku460_1.le leL31
     replace hp0_0 := hp0_0.le leL31
     replace leB := leB.trans leL31
     replace leL21 := leL21.trans leL31
     replace leJ533 := leJ533.trans leL31
     replace leL30 := leL30.trans leL31
     replace hm628 : DC msm628 m628 ∧ SlF Am628 (m628).length cm628 := hm628
     rw [F_plot_flat_L31.eq_2] at H
     show Tr _ _ (LF [(3, (.pointer (some ⟨b100, 0, none⟩))), (5, (.slice Am628 (m628).length cm628)), (7, (.pointer (some ⟨b461, 0, none⟩))), (8, (iv x613)), (11, (.slice Ap0_0 (p0).length cp0_0)), (12, (iv (p0.length : Int))), (13, (iv (iL21 : Int))), (22, (iv xL21.NY)), (23, (iv x613)), (27, (iv xL21.NX)), (28, (iv x629))]) (LE [(1, bx b100 #[(iv p1.X), (iv p1.Y)] 27), (3, dq Am628 (m628).length cm628 46 27 ln_TPlotStep msm628), (120, bx b461 #[(iv xL21.Kind), (sv xL21.Name), (iv xL21.At.X), (iv xL21.At.Y), (.slice Au460_0 (xL21.Points).length cu460_0), (iv xL21.NX), (iv xL21.NY), (.slice Au460_1 (xL21.Steps).length cu460_1)] 46)]) _
     refine Tr.sr ?_
     refine Tr.va rfl (fun _ _ h1 h2 => run_lss (h1.ev rfl) (h1.ev rfl)) ?_
     refine Tr.nil (Tr.normThen ?_)
     refine Tr.seq ?_
     refine Tr.cond rfl H (fun H => ?_) (fun H => ?_)
     ·refine Tr.skip (Tr.normThen ?_)
      refine Tr.seq ?_
      refine Tr.block ?_
      refine Tr.sr ?_
      refine Tr.mv rfl rfl ?_
      refine Tr.asg rfl rfl ?_
      refine Tr.nil (Tr.normThen ?_)
      refine Tr.region ?_
      refine Tr.mv rfl rfl ?_
      refine Tr.va rfl (fun _ _ h1 h2 => run_fieldAddr fo_46_6 (h1.ev rfl)) ?_
      refine Tr.va rfl (fun _ _ h1 h2 => run_load1 ag_23 (h1.ev rfl) (rdb h2 (vs := [(iv xL21.Kind), (sv xL21.Name), (iv xL21.At.X), (iv xL21.At.Y), (.slice Au460_0 (xL21.Points).length cu460_0), (iv xL21.NX), (iv xL21.NY), (.slice Au460_1 (xL21.Steps).length cu460_1)]) (k := 120) rfl 7) rfl) ?_
      refine Tr.va rfl (fun _ _ h1 h2 => run_fieldAddr fo_27_0 (h1.ev rfl)) ?_
      refine Tr.va rfl (fun _ _ h1 h2 => run_load1 ag_3 (h1.ev rfl) (rdb h2 (vs := [(iv p1.X), (iv p1.Y)]) (k := 1) rfl 0) rfl) ?_
      refine Tr.mv rfl rfl ?_
      refine Tr.va rfl (fun _ _ h1 h2 => run_fieldAddr fo_46_2 (h1.ev rfl)) ?_
      refine Tr.va rfl (fun _ _ h1 h2 => run_fieldAddr fo_27_0 (h1.ev rfl)) ?_
      refine Tr.va rfl (fun _ _ h1 h2 => run_load1 ag_3 (h1.ev rfl) (rdb h2 (vs := [(iv xL21.Kind), (sv xL21.Name), (iv xL21.At.X), (iv xL21.At.Y), (.slice Au460_0 (xL21.Points).length cu460_0), (iv xL21.NX), (iv xL21.NY), (.slice Au460_1 (xL21.Steps).length cu460_1)]) (k := 120) rfl 2) rfl) ?_
      refine Tr.va rfl (fun _ _ h1 h2 => run_mul (h1.ev rfl) (h1.ev rfl)) ?_
      refine Tr.va rfl (fun _ _ h1 h2 => run_add (h1.ev rfl) (h1.ev rfl)) ?_
      refine Tr.va rfl (fun _ _ h1 h2 => run_fieldAddr fo_27_1 (h1.ev rfl)) ?_
      refine Tr.va rfl (fun _ _ h1 h2 => run_load1 ag_3 (h1.ev rfl) (rdb h2 (vs := [(iv p1.X), (iv p1.Y)]) (k := 1) rfl 1) rfl) ?_
      refine Tr.mv rfl rfl ?_
      refine Tr.va rfl (fun _ _ h1 h2 => run_fieldAddr fo_46_2 (h1.ev rfl)) ?_
      refine Tr.va rfl (fun _ _ h1 h2 => run_fieldAddr fo_27_1 (h1.ev rfl)) ?_
      refine Tr.va rfl (fun _ _ h1 h2 => run_load1 ag_3 (h1.ev rfl) (rdb h2 (vs := [(iv xL21.Kind), (sv xL21.Name), (iv xL21.At.X), (iv xL21.At.Y), (.slice Au460_0 (xL21.Points).length cu460_0), (iv xL21.NX), (iv xL21.NY), (.slice Au460_1 (xL21.Steps).length cu460_1)]) (k := 120) rfl 3) rfl) ?_
      refine Tr.va rfl (fun _ _ h1 h2 => run_mul (h1.ev rfl) (h1.ev rfl)) ?_
      refine Tr.va rfl (fun _ _ h1 h2 => run_add (h1.ev rfl) (h1.ev rfl)) ?_
      refine Tr.build (vs := [(0, (iv (w64 (p1.X + (w64 (x629 * xL21.At.X)))))), (1, (iv (w64 (p1.Y + (w64 (x613 * xL21.At.Y))))))]) (cs := [(iv (w64 (p1.X + (w64 (x629 * xL21.At.X))))), (iv (w64 (p1.Y + (w64 (x613 * xL21.At.Y)))))]) (wn rfl) rfl (evs_cons rfl (evs_cons rfl evs_nil)) (by kernel_rfl) ?_
      obtain ⟨y630, hy630, H⟩ := bnd H
      refine Tr.callG [175] [emp] (U := (Option Addr × Nat × List (DE fl_TPlotStep))) (fun u => (.slice u.1 (y630).length u.2.1)) (fun O W u => (DC u.2.2 y630 ∧ SlF u.1 (y630).length u.2.1)) (fun u => [dq u.1 (y630).length u.2.1 46 27 ln_TPlotStep u.2.2]) rfl (pk_cons rfl pk_nil) (fun _ => rfl) (wn rfl) rfl Tryd.call54 (evl_cons rfl (evl_cons rfl evl_nil)) (fun W hW hp hE => hrec xL21.Steps Au460_1 cu460_1 (hoku460_1.extO (hW.extS hp)) (TPoint.mk (w64 (p1.X + (w64 (x629 * xL21.At.X)))) (w64 (p1.Y + (w64 (x613 * xL21.At.Y))))) y630 hy630 hE) ?_
      intro w u le631 hu
      obtain ⟨Ay630_0, cy630_0, Dy630_0⟩ := u
      have gy630_0 := hu
      replace hoku460_0 := hoku460_0.le le631
      replace hoku460_1 := hoku460_1.le le631
      replace hp0_0 := hp0_0.le le631
      replace leB := leB.trans le631
      replace leL21 := leL21.trans le631
      replace leJ533 := leJ533.trans le631
      replace leL30 := leL30.trans le631
      replace leL31 := leL31.trans le631
      have hgy630_0 : (DC Dy630_0 y630 ∧ SlF Ay630_0 (y630).length cy630_0) := gy630_0 --@phi
      show Tr _ _ (uf _ 51 (.slice Ay630_0 (y630).length cy630_0)) (up _ 175 (dq Ay630_0 (y630).length cy630_0 46 27 ln_TPlotStep Dy630_0)) _
      obtain ⟨l632, hl632, H⟩ := bnd H
      refine Tr.dqJoin 3 175 176 177 rfl rfl rfl rfl rfl rfl rfl rfl (wn rfl) rfl rfl rfl hm628.1 rfl rfl hgy630_0.1 un_23 sz_46 zl_46 (by decide) by_46 rfl hl632 fun Al632 cl632 ms633 hmms633 hfl632 => ?_
      refine Tr.asg rfl rfl ?_
      refine Tr.nil (Tr.normBlock (Tr.normThen ?_))
      refine Tr.region ?_
      refine Tr.va rfl (fun _ _ h1 h2 => run_add (h1.ev rfl) (h1.ev rfl)) ?_
      refine Tr.mv rfl rfl ?_
      refine Tr.nil ?_
      exact Tr.backThen leL31 (l632, (w64 (x629 + 1)), Al632, cl632, ms633) ⟨H, ⟨hmms633, hfl632⟩⟩ (.cons rfl (.cons rfl (.cons rfl (.cons rfl (.cons rfl (.cons rfl (.cons rfl (.cons rfl (.cons rfl (.cons rfl (.cons rfl .nil))))))))))) (.cons rfl (.cons rfl (.cons rfl .nil)))
     ·refine Tr.exit (Tr.exitThen (Tr.exitThen (Tr.exitBlock (Tr.normBlock (Tr.normThen ?_)))))
      refine Tr.region ?_
      refine Tr.va rfl (fun _ _ h1 h2 => run_add (h1.ev rfl) (h1.ev rfl)) ?_
      refine Tr.mv rfl rfl ?_
      refine Tr.nil ?_
      exact Tr.backThen leL30 (m628, (w64 (x613 + 1)), Am628, cm628, msm628) ⟨H, ⟨hm628.1, hm628.2⟩⟩ (.cons rfl (.cons rfl (.cons rfl (.cons rfl (.cons rfl (.cons rfl (.cons rfl (.cons rfl .nil)))))))) (.cons rfl (.cons rfl (.cons rfl .nil)))
    ·refine Tr.exit (Tr.exitThen (Tr.exitThen (Tr.exitBlock (Tr.normThen ?_))))
     refine Tr.exit (Tr.exitOver rfl (Tr.exitThen (Tr.exitBlock (Tr.normThen ?_))))
     refine Tr.region ?_
     refine Tr.va rfl (fun _ _ h1 h2 => run_add (h1.ev rfl) (h1.ev rfl)) ?_
     refine Tr.mv rfl rfl ?_
     refine Tr.nil ?_
     exact Tr.backThen leL21 (restL21, (iL21 + 1), m612, Am612, cm612, msm612) ⟨rfl, range_tl hdL21, range_lt hdL21, H, ⟨hm612.1, hm612.2⟩⟩ (.cons rfl (.cons rfl (.cons rfl (.cons rfl (.cons (congrArg (fun z => some (Value.int .i64 z)) (range_up hdL21 hp0_0.form)) .nil))))) (.cons rfl (.cons rfl .nil))
   ·refine Tr.sr ?_
    refine Tr.va rfl (fun _ _ h1 h2 => run_fieldAddr fo_46_0 (h1.ev rfl)) ?_
    refine Tr.va rfl (fun _ _ h1 h2 => run_load1 ag_3 (h1.ev rfl) (rdb h2 (vs := [(iv xL21.Kind), (sv xL21.Name), (iv xL21.At.X), (iv xL21.At.Y), (.slice Au460_0 (xL21.Points).length cu460_0), (iv xL21.NX), (iv xL21.NY), (.slice Au460_1 (xL21.Steps).length cu460_1)]) (k := 120) rfl 0) rfl) ?_
    obtain ⟨y634, hy634, H⟩ := bnd H
    refine Tr.call0 (r := (.agg #[(.bool y634.name), (.bool y634.at_), (.bool y634.points), (.bool y634.repeat_)])) (wn rfl) rfl Tryd.call14 (evl_cons rfl evl_nil) (fun W hW => F_plot_fieldsOf_ok xL21.Kind y634 hy634 (HF.start _)) ?_
    refine Tr.va rfl (fun _ _ h1 h2 => run_field1 fa_42_1 ag_4 (h1.ev rfl) rfl) ?_
    refine Tr.asg rfl rfl ?_
    refine Tr.nil (Tr.normThen ?_)
    refine Tr.cond rfl H (fun H => ?_) (fun H => ?_)
    ·refine Tr.region ?_
     refine Tr.va rfl (fun _ _ h1 h2 => run_fieldAddr fo_46_2 (h1.ev rfl)) ?_
     refine Tr.va rfl (fun _ _ h1 h2 => run_fieldAddr fo_27_0 (h1.ev rfl)) ?_
     refine Tr.va rfl (fun _ _ h1 h2 => run_load1 ag_3 (h1.ev rfl) (rdb h2 (vs := [(iv xL21.Kind), (sv xL21.Name), (iv xL21.At.X), (iv xL21.At.Y), (.slice Au460_0 (xL21.Points).length cu460_0), (iv xL21.NX), (iv xL21.NY), (.slice Au460_1 (xL21.Steps).length cu460_1)]) (k := 120) rfl 2) rfl) ?_
     refine Tr.va rfl (fun _ _ h1 h2 => run_fieldAddr fo_27_0 (h1.ev rfl)) ?_
     refine Tr.va rfl (fun _ _ h1 h2 => run_load1 ag_3 (h1.ev rfl) (rdb h2 (vs := [(iv p1.X), (iv p1.Y)]) (k := 1) rfl 0) rfl) ?_
     refine Tr.va rfl (fun _ _ h1 h2 => run_add (h1.ev rfl) (h1.ev rfl)) ?_
     refine Tr.va rfl (fun _ _ h1 h2 => run_fieldAddr fo_46_2 (h1.ev rfl)) ?_
     refine Tr.va rfl (fun _ _ h1 h2 => run_fieldAddr fo_27_1 (h1.ev rfl)) ?_
     refine Tr.va rfl (fun _ _ h1 h2 => run_load1 ag_3 (h1.ev rfl) (rdb h2 (vs := [(iv xL21.Kind), (sv xL21.Name), (iv xL21.At.X), (iv xL21.At.Y), (.slice Au460_0 (xL21.Points).length cu460_0), (iv xL21.NX), (iv xL21.NY), (.slice Au460_1 (xL21.Steps).length cu460_1)]) (k := 120) rfl 3) rfl) ?_
     refine Tr.va rfl (fun _ _ h1 h2 => run_fieldAddr fo_27_1 (h1.ev rfl)) ?_
     refine Tr.va rfl (fun _ _ h1 h2 => run_load1 ag_3 (h1.ev rfl) (rdb h2 (vs := [(iv p1.X), (iv p1.Y)]) (k := 1) rfl 1) rfl) ?_
     refine Tr.va rfl (fun _ _ h1 h2 => run_add (h1.ev rfl) (h1.ev rfl)) ?_
     refine Tr.build (vs := [(0, (iv (w64 (xL21.At.X + p1.X)))), (1, (iv (w64 (xL21.At.Y + p1.Y))))]) (cs := [(iv (w64 (xL21.At.X + p1.X))), (iv (w64 (xL21.At.Y + p1.Y)))]) (wn rfl) rfl (evs_cons rfl (evs_cons rfl evs_nil)) (by kernel_rfl) ?_
     refine Tr.va rfl (fun _ _ h1 h2 => run_fieldAddr fo_46_2 (h1.ev rfl)) ?_
     refine Tr.store 120 (cs := [(iv (w64 (xL21.At.X + p1.X))), (iv (w64 (xL21.At.Y + p1.Y)))]) [(iv xL21.Kind), (sv xL21.Name), (iv (w64 (xL21.At.X + p1.X))), (iv (w64 (xL21.At.Y + p1.Y))), (.slice Au460_0 (xL21.Points).length cu460_0), (iv xL21.NX), (iv xL21.NY), (.slice Au460_1 (xL21.Steps).length cu460_1)] (wn rfl) rfl rfl rfl rfl sz_27 rfl rfl rfl ?_
     refine Tr.nil (Tr.normBlock ?_)
     exact Tr.backThen leJ533 ((w64 (xL21.At.X + p1.X)), (w64 (xL21.At.Y + p1.Y))) H (.cons rfl (.cons rfl (.cons rfl (.cons rfl (.cons rfl (.cons rfl .nil)))))) (.cons rfl (.cons rfl (.cons rfl .nil)))
    ·refine Tr.skip (Tr.normBlock ?_)
     exact Tr.backThen leJ533 (xL21.At.X, xL21.At.Y) H (.cons rfl (.cons rfl (.cons rfl (.cons rfl (.cons rfl (.cons rfl .nil)))))) (.cons rfl (.cons rfl (.cons rfl .nil)))
  ·intro w s hlJ534 hs
   obtain ⟨x531, x532⟩ := s
   have H := hs
   replace H : F_plot_flat_J27 N p1 m459 (F_plot_flat_L21 N p1 rec restL21 (iL21 + 1)) xL21 x531 x532 = some r := H
   replace hoku460_0 := hoku460_0.le hlJ534
   replace hoku460_1 := hoku460_1.le hlJ534
   replace hp0_0 := hp0_0.le hlJ534
   replace leB := leB.trans hlJ534
   replace leL21 := leL21.trans hlJ534
   unfold F_plot_flat_J27 at H
   show Tr _ _ (LF [(3, (.pointer (some ⟨b100, 0, none⟩))), (5, (.slice Am459 (m459).length cm459)), (7, (.pointer (some ⟨b461, 0, none⟩))), (11, (.slice Ap0_0 (p0).length cp0_0)), (12, (iv (p0.length : Int))), (13, (iv (iL21 : Int)))]) (LE [(1, bx b100 #[(iv p1.X), (iv p1.Y)] 27), (3, dq Am459 (m459).length cm459 46 27 ln_TPlotStep msm459), (120, bx b461 #[(iv xL21.Kind), (sv xL21.Name), (iv x531), (iv x532), (.slice Au460_0 (xL21.Points).length cu460_0), (iv xL21.NX), (iv xL21.NY), (.slice Au460_1 (xL21.Steps).length cu460_1)] 46)]) _
   refine Tr.sr ?_
   refine Tr.va rfl (fun _ _ h1 h2 => run_fieldAddr fo_46_3 (h1.ev rfl)) ?_
   refine Tr.va rfl (fun _ _ h1 h2 => run_load1 ag_44 (h1.ev rfl) (rdb h2 (vs := [(iv xL21.Kind), (sv xL21.Name), (iv x531), (iv x532), (.slice Au460_0 (xL21.Points).length cu460_0), (iv xL21.NX), (iv xL21.NY), (.slice Au460_1 (xL21.Steps).length cu460_1)]) (k := 120) rfl 4) rfl) ?_
   obtain ⟨y535, hy535, H⟩ := bnd H
   refine Tr.callM [148] [emp] (U := (Option Addr × Nat)) (fun u => (.slice u.1 (y535).length u.2)) (fun u => SlF u.1 (y535).length u.2) (fun u => [ow u.1 u.2 27 fl_TPoint y535]) rfl (pk_cons rfl pk_nil) (fun _ => rfl) (wn rfl) rfl Tryd.call42 (evl_cons rfl evl_nil) (fun W hW hp hE => F_slices_Clone_Point_ok xL21.Points Au460_0 cu460_0 (hoku460_0.rl.ext (hW.extS hp)) y535 hy535 hE) ?_
   intro u hu
   obtain ⟨Ay535_0, cy535_0⟩ := u
   have gy535_0 := hu
   have hgy535_0 : SlF Ay535_0 (y535).length cy535_0 := gy535_0 --@phi
   show Tr _ _ (uf _ 76 (.slice Ay535_0 (y535).length cy535_0)) (up _ 148 (ow Ay535_0 cy535_0 27 fl_TPoint y535)) _
   refine Tr.va rfl (fun _ _ h1 h2 => run_fieldAddr fo_46_3 (h1.ev rfl)) ?_
   refine Tr.store 120 (cs := [(.slice Ay535_0 (y535).length cy535_0)]) [(iv xL21.Kind), (sv xL21.Name), (iv x531), (iv x532), (.slice Ay535_0 (y535).length cy535_0), (iv xL21.NX), (iv xL21.NY), (.slice Au460_1 (xL21.Steps).length cu460_1)] (wn rfl) rfl rfl rfl rfl sz_44 rfl rfl rfl ?_
   refine Tr.nil (Tr.normThen ?_)
   refine Tr.seq ?_
   refine Tr.sr ?_
   refine Tr.va rfl (fun _ _ h1 h2 => run_fieldAddr fo_46_3 (h1.ev rfl)) ?_
   refine Tr.va rfl (fun _ _ h1 h2 => run_load1 ag_44 (h1.ev rfl) (rdb h2 (vs := [(iv xL21.Kind), (sv xL21.Name), (iv x531), (iv x532), (.slice Ay535_0 (y535).length cy535_0), (iv xL21.NX), (iv xL21.NY), (.slice Au460_1 (xL21.Steps).length cu460_1)]) (k := 120) rfl 4) rfl) ?_
   refine Tr.va rfl (fun _ _ h1 h2 => run_len un_44 (h1.ev rfl)) ?_
   refine Tr.mv rfl rfl ?_
   refine Tr.nil (Tr.normThen ?_)
   refine Tr.block ?_
   refine Tr.loop (σ := (List TPoint) × Int × (Option Addr) × Nat) (fun m w s => F_plot_flat_L26 p1 m459 (F_plot_flat_L21 N p1 rec restL21 (iL21 + 1)) xL21 x531 x532 y535 m s.1 s.2.1 = some r ∧ SlF s.2.2.1 (s.1).length s.2.2.2) (fun s => [(3, (.pointer (some ⟨b100, 0, none⟩))), (5, (.slice Am459 (m459).length cm459)), (7, (.pointer (some ⟨b461, 0, none⟩))), (11, (.slice Ap0_0 (p0).length cp0_0)), (12, (iv (p0.length : Int))), (13, (iv (iL21 : Int))), (80, (iv (y535.length : Int))), (81, (iv s.2.1))]) (fun s => [(1, bx b100 #[(iv p1.X), (iv p1.Y)] 27), (3, dq Am459 (m459).length cm459 46 27 ln_TPlotStep msm459), (120, bx b461 #[(iv xL21.Kind), (sv xL21.Name), (iv x531), (iv x532), (.slice s.2.2.1 (s.1).length s.2.2.2), (iv xL21.NX), (iv xL21.NY), (.slice Au460_1 (xL21.Steps).length cu460_1)] 46), (148, ow s.2.2.1 s.2.2.2 27 fl_TPoint s.1)]) N (y535, 0, Ay535_0, cy535_0) ⟨H, hgy535_0⟩ (.cons rfl (.cons rfl (.cons rfl (.cons rfl (.cons rfl (.cons rfl (.cons rfl (.cons rfl .nil)))))))) (.cons rfl (.cons rfl (.cons rfl (.cons rfl .nil)))) (fun _ _ h => noSome (h.1)) ?_
   intro w leL26 mL26 s hs
   obtain ⟨l555, x556, Al555, cl555⟩ := s
   obtain ⟨H, hl555⟩ := hs
   replace H : F_plot_flat_L26 p1 m459 (F_plot_flat_L21 N p1 rec restL21 (iL21 + 1)) xL21 x531 x532 y535 (mL26 + 1) l555 x556 = some r := H
   replace hoku460_1 := hoku460_1.le leL26
   replace hp0_0 := hp0_0.le leL26
   replace leB := leB.trans leL26
   replace leL21 := leL21.trans leL26
   replace hl555 : SlF Al555 (l555).length cl555 := hl555
   rw [F_plot_flat_L26.eq_2] at H
   show Tr _ _ (LF [(3, (.pointer (some ⟨b100, 0, none⟩))), (5, (.slice Am459 (m459).length cm459)), (7, (.pointer (some ⟨b461, 0, none⟩))), (11, (.slice Ap0_0 (p0).length cp0_0)), (12, (iv (p0.length : Int))), (13, (iv (iL21 : Int))), (80, (iv (y535.length : Int))), (81, (iv x556))]) (LE [(1, bx b100 #[(iv p1.X), (iv p1.Y)] 27), (3, dq Am459 (m459).length cm459 46 27 ln_TPlotStep msm459), (120, bx b461 #[(iv xL21.Kind), (sv xL21.Name), (iv x531), (iv x532), (.slice Al555 (l555).length cl555), (iv xL21.NX), (iv xL21.NY), (.slice Au460_1 (xL21.Steps).length cu460_1)] 46), (148, ow Al555 cl555 27 fl_TPoint l555)]) _
   refine Tr.sr ?_
   refine Tr.va rfl (fun _ _ h1 h2 => run_lss (h1.ev rfl) (h1.ev rfl)) ?_
   refine Tr.nil (Tr.normThen ?_)
   refine Tr.seq ?_
   refine Tr.cond rfl H (fun H => ?_) (fun H => ?_)
   ·refine Tr.skip (Tr.normThen ?_)
    refine Tr.seq ?_
    refine Tr.block ?_
    refine Tr.sr ?_
    refine Tr.mv rfl rfl ?_
    refine Tr.asg rfl rfl ?_
    refine Tr.nil (Tr.normThen ?_)
    refine Tr.seq ?_
    refine Tr.drawTail 8 (by kernel_rfl) (by kernel_rfl) ?_
    refine Tq.va rfl (fun _ _ h1 h2 => run_fieldAddr fo_46_3 (h1.ev rfl)) ?_
    refine Tq.va rfl (fun _ _ h1 h2 => run_load1 ag_44 (h1.ev rfl) (rdb h2 (vs := [(iv xL21.Kind), (sv xL21.Name), (iv x531), (iv x532), (.slice Al555 (l555).length cl555), (iv xL21.NX), (iv xL21.NY), (.slice Au460_1 (xL21.Steps).length cu460_1)]) (k := 120) rfl 4) rfl) ?_
    refine Tq.mv rfl rfl ?_
    obtain ⟨x557, hx557, H⟩ := bnd H
    obtain ⟨hx5570, hx5571, hx5572⟩ := idx_some hx557
    refine Tq.va rfl (fun _ _ h1 h2 => run_indexAddr el_44 (h1.ev rfl) hl555 (h1.ev rfl) hx5570 hx5571) ?_
    refine Tq.va rfl (fun _ _ h1 h2 => run_fieldAddr fo_27_0 (h1.ev rfl)) ?_
    refine Tq.va rfl (fun _ _ h1 h2 => run_load1 ag_3 (h1.ev rfl) (CellsAt.drop (rdo ef_TPoint (k := 148) h2 rfl hx5572) 0) rfl) ?_
    refine Tq.va rfl (fun _ _ h1 h2 => run_fieldAddr fo_27_0 (h1.ev rfl)) ?_
    refine Tq.va rfl (fun _ _ h1 h2 => run_load1 ag_3 (h1.ev rfl) (rdb h2 (vs := [(iv p1.X), (iv p1.Y)]) (k := 1) rfl 0) rfl) ?_
    refine Tq.nil ?_
    refine Tr.va rfl (fun _ _ h1 h2 => run_add (h1.ev rfl) (h1.ev rfl)) ?_
    obtain ⟨x558, hx558, H⟩ := bnd H
    obtain ⟨hx5580, hx5581, hx5582⟩ := idx_some hx558
    refine Tr.va rfl (fun _ _ h1 h2 => run_indexAddr el_44 (h1.ev rfl) hl555 (h1.ev rfl) hx5580 hx5581) ?_
    refine Tr.va rfl (fun _ _ h1 h2 => run_fieldAddr fo_27_0 (h1.ev rfl)) ?_
    obtain ⟨l559, hl559, H⟩ := bnd H
    have hnl559 := sets_len hl559
    refine Tr.storeEl 148 (t := fl_TPoint) (l := l555) (i := x556) (fo := 0) (cs := [(iv (w64 (x557.X + p1.X)))]) (TPoint.mk (w64 (x557.X + p1.X)) x558.Y) (wn rfl) rfl rfl rfl rfl rfl hx5582 sz_3 rfl (fun u _ => ⟨u, trivial, rfl⟩) rfl hl559 ?_
    have hfl559 : SlF Al555 (l559).length cl555 := by rw [hnl559]; exact hl555
    refine Tr.sel (lf := [(3, (.pointer (some ⟨b100, 0, none⟩))), (5, (.slice Am459 (m459).length cm459)), (7, (.pointer (some ⟨b461, 0, none⟩))), (10, (iv x556)), (11, (.slice Ap0_0 (p0).length cp0_0)), (12, (iv (p0.length : Int))), (13, (iv (iL21 : Int))), (80, (iv (y535.length : Int))), (81, (iv x556)), (82, (.bool (decide (x556 < (y535.length : Int))))), (83, (iv x556)), (84, (.pointer (some ⟨b461, 4, none⟩))), (85, (.slice Al555 (l559).length cl555)), (86, (iv x556)), (89, (iv x557.X)), (90, (.pointer (some ⟨b100, 0, none⟩))), (91, (iv p1.X)), (92, (iv (w64 (x557.X + p1.X))))]) (le := [(1, bx b100 #[(iv p1.X), (iv p1.Y)] 27), (3, dq Am459 (m459).length cm459 46 27 ln_TPlotStep msm459), (120, bx b461 #[(iv xL21.Kind), (sv xL21.Name), (iv x531), (iv x532), (.slice Al555 (l559).length cl555), (iv xL21.NX), (iv xL21.NY), (.slice Au460_1 (xL21.Steps).length cu460_1)] 46), (148, ow Al555 cl555 27 fl_TPoint l559)]) (.cons rfl (.cons rfl (.cons rfl (.cons rfl (.cons rfl (.cons rfl (.cons rfl (.cons rfl (.cons rfl (.cons rfl (.cons rfl (.cons rfl (.cons (slenV rfl (by rw [hnl559])) (.cons rfl (.cons rfl (.cons rfl (.cons rfl (.cons rfl .nil)))))))))))))))))) (.cons rfl (.cons rfl (.cons (ebx rfl (by rw [hnl559])) (.cons rfl .nil)))) ?_
    refine Tr.nil (Tr.normThen ?_)
    refine Tr.drawTail 8 (by kernel_rfl) (by kernel_rfl) ?_
    refine Tq.va rfl (fun _ _ h1 h2 => run_fieldAddr fo_46_3 (h1.ev rfl)) ?_
    refine Tq.va rfl (fun _ _ h1 h2 => run_load1 ag_44 (h1.ev rfl) (rdb h2 (vs := [(iv xL21.Kind), (sv xL21.Name), (iv x531), (iv x532), (.slice Al555 (l559).length cl555), (iv xL21.NX), (iv xL21.NY), (.slice Au460_1 (xL21.Steps).length cu460_1)]) (k := 120) rfl 4) rfl) ?_
    refine Tq.mv rfl rfl ?_
    obtain ⟨x560, hx560, H⟩ := bnd H
    obtain ⟨hx5600, hx5601, hx5602⟩ := idx_some hx560
    refine Tq.va rfl (fun _ _ h1 h2 => run_indexAddr el_44 (h1.ev rfl) hfl559 (h1.ev rfl) hx5600 hx5601) ?_
    refine Tq.va rfl (fun _ _ h1 h2 => run_fieldAddr fo_27_1 (h1.ev rfl)) ?_
    refine Tq.va rfl (fun _ _ h1 h2 => run_load1 ag_3 (h1.ev rfl) (CellsAt.drop (rdo ef_TPoint (k := 148) h2 rfl hx5602) 1) rfl) ?_
    refine Tq.va rfl (fun _ _ h1 h2 => run_fieldAddr fo_27_1 (h1.ev rfl)) ?_
    refine Tq.va rfl (fun _ _ h1 h2 => run_load1 ag_3 (h1.ev rfl) (rdb h2 (vs := [(iv p1.X), (iv p1.Y)]) (k := 1) rfl 1) rfl) ?_
    refine Tq.nil ?_
    refine Tr.va rfl (fun _ _ h1 h2 => run_add (h1.ev rfl) (h1.ev rfl)) ?_
    obtain ⟨x561, hx561, H⟩ := bnd H
    obtain ⟨hx5610, hx5611, hx5612⟩ := idx_some hx561
    refine Tr.va rfl (fun _ _ h1 h2 => run_indexAddr el_44 (h1.ev rfl) hfl559 (h1.ev rfl) hx5610 hx5611) ?_
    refine Tr.va rfl (fun _ _ h1 h2 => run_fieldAddr fo_27_1 (h1.ev rfl)) ?_
    obtain ⟨l562, hl562, H⟩ := bnd H
    have hnl562 := sets_len hl562
    refine Tr.storeEl 148 (t := fl_TPoint) (l := l559) (i := x556) (fo := 1) (cs := [(iv (w64 (x560.Y + p1.Y)))]) (TPoint.mk x561.X (w64 (x560.Y + p1.Y))) (wn rfl) rfl rfl rfl rfl rfl hx5612 sz_3 rfl (fun u _ => ⟨u, trivial, rfl⟩) rfl hl562 ?_
    have hfl562 : SlF Al555 (l562).length cl555 := by rw [hnl562]; exact hfl559
    refine Tr.sel (lf := [(3, (.pointer (some ⟨b100, 0, none⟩))), (5, (.slice Am459 (m459).length cm459)), (7, (.pointer (some ⟨b461, 0, none⟩))), (10, (iv x556)), (11, (.slice Ap0_0 (p0).length cp0_0)), (12, (iv (p0.length : Int))), (13, (iv (iL21 : Int))), (80, (iv (y535.length : Int))), (81, (iv x556)), (82, (.bool (decide (x556 < (y535.length : Int))))), (83, (iv x556)), (84, (.pointer (some ⟨b461, 4, none⟩))), (85, (.slice Al555 (l562).length cl555)), (86, (iv x556)), (89, (iv x557.X)), (90, (.pointer (some ⟨b100, 0, none⟩))), (91, (iv p1.X)), (92, (iv (w64 (x557.X + p1.X)))), (95, (.pointer (some ⟨b461, 4, none⟩))), (96, (.slice Al555 (l562).length cl555)), (97, (iv x556)), (100, (iv x560.Y)), (101, (.pointer (some ⟨b100, 1, none⟩))), (102, (iv p1.Y)), (103, (iv (w64 (x560.Y + p1.Y))))]) (le := [(1, bx b100 #[(iv p1.X), (iv p1.Y)] 27), (3, dq Am459 (m459).length cm459 46 27 ln_TPlotStep msm459), (120, bx b461 #[(iv xL21.Kind), (sv xL21.Name), (iv x531), (iv x532), (.slice Al555 (l562).length cl555), (iv xL21.NX), (iv xL21.NY), (.slice Au460_1 (xL21.Steps).length cu460_1)] 46), (148, ow Al555 cl555 27 fl_TPoint l562)]) (.cons rfl (.cons rfl (.cons rfl (.cons rfl (.cons rfl (.cons rfl (.cons rfl (.cons rfl (.cons rfl (.cons rfl (.cons rfl (.cons rfl (.cons (slenV rfl (by rw [hnl562])) (.cons rfl (.cons rfl (.cons rfl (.cons rfl (.cons rfl (.cons rfl (.cons (slenV rfl (by rw [hnl562])) (.cons rfl (.cons rfl (.cons rfl (.cons rfl (.cons rfl .nil))))))))))))))))))))))))) (.cons rfl (.cons rfl (.cons (ebx rfl (by rw [hnl562])) (.cons rfl .nil)))) ?_
    refine Tr.nil (Tr.normBlock (Tr.normThen ?_))
    refine Tr.region ?_
    refine Tr.va rfl (fun _ _ h1 h2 => run_add (h1.ev rfl) (h1.ev rfl)) ?_
    refine Tr.mv rfl rfl ?_
    refine Tr.nil ?_
    exact Tr.backThen leL26 (l562, (w64 (x556 + 1)), Al555, cl555) ⟨H, hfl562⟩ (.cons rfl (.cons rfl (.cons rfl (.cons rfl (.cons rfl (.cons rfl (.cons rfl (.cons rfl .nil)))))))) (.cons rfl (.cons rfl (.cons rfl (.cons rfl .nil))))
   ·refine Tr.exit (Tr.exitThen (Tr.exitThen (Tr.exitBlock (Tr.normThen ?_))))
    refine Tr.region ?_
    refine Tr.mv rfl rfl ?_
    refine Tr.va rfl (fun _ _ h1 h2 => run_loadN (cs := [(iv xL21.Kind), (sv xL21.Name), (iv x531), (iv x532), (.slice Al555 (l555).length cl555), (iv xL21.NX), (iv xL21.NY), (.slice Au460_1 (xL21.Steps).length cu460_1)]) ag_46 sz_46 (h1.ev rfl) (CellsAt.take (rdb h2 (vs := [(iv xL21.Kind), (sv xL21.Name), (iv x531), (iv x532), (.slice Al555 (l555).length cl555), (iv xL21.NX), (iv xL21.NY), (.slice Au460_1 (xL21.Steps).length cu460_1)]) (k := 120) rfl 0) 8) rfl) ?_
    refine Tr.buildSlice 149 (e := 46) (vs := [(0, (.agg #[(iv xL21.Kind), (sv xL21.Name), (iv x531), (iv x532), (.slice Al555 (l555).length cl555), (iv xL21.NX), (iv xL21.NY), (.slice Au460_1 (xL21.Steps).length cu460_1)]))]) (cs := [(iv xL21.Kind), (sv xL21.Name), (iv x531), (iv x532), (.slice Al555 (l555).length cl555), (iv xL21.NX), (iv xL21.NY), (.slice Au460_1 (xL21.Steps).length cu460_1)]) (wn rfl) rfl (evs_cons rfl evs_nil) (by kernel_rfl) fun b563 => ?_
    obtain ⟨l564, hl564, H⟩ := bnd H
    refine Tr.dqPush (L := ln_TPlotStep) 3 148 150 149 (u := ((Al555, cl555), (Au460_1, cu460_1))) (x := (TPlotStep.mk xL21.Kind xL21.Name (TPoint.mk x531 x532) l555 xL21.NX xL21.NY xL21.Steps)) (cs := [(iv xL21.Kind), (sv xL21.Name), (iv x531), (iv x532), (.slice Al555 (l555).length cl555), (iv xL21.NX), (iv xL21.NY), (.slice Au460_1 (xL21.Steps).length cu460_1)]) rfl rfl rfl rfl rfl rfl (wn rfl) rfl rfl rfl hm459.1 rfl rfl rfl hoku460_1 rfl rfl rfl hl555 un_23 sz_46 zl_46 (by decide) by_46 rfl hl564 fun Al564 cl564 ms565 hmms565 hfl564 => ?_
    refine Tr.asg rfl rfl ?_
    refine Tr.nil (Tr.normBlock (Tr.normThen ?_))
    refine Tr.region ?_
    refine Tr.va rfl (fun _ _ h1 h2 => run_add (h1.ev rfl) (h1.ev rfl)) ?_
    refine Tr.mv rfl rfl ?_
    refine Tr.nil ?_
    exact Tr.backThen leL21 (restL21, (iL21 + 1), l564, Al564, cl564, ms565) ⟨rfl, range_tl hdL21, range_lt hdL21, H, ⟨hmms565, hfl564⟩⟩ (.cons rfl (.cons rfl (.cons rfl (.cons rfl (.cons (congrArg (fun z => some (Value.int .i64 z)) (range_up hdL21 hp0_0.form)) .nil))))) (.cons rfl (.cons rfl .nil))
theorem F_plot_flat_ok : ∀ (N : Nat) {w : Bs} (p0 : (List TPlotStep)) (Ap0_0 : Option Addr) (cp0_0 : Nat) (hp0_0 : Sl w.O w.W fl_TPlotStep Ap0_0 cp0_0 p0) (p1 : TPoint) (r : (List TPlotStep)) (H : F_plot_flat N p0 p1 = some r) (hE : HF w w.W (LEn [emp])), Calls Tryd.prog 54 [(.slice Ap0_0 (p0).length cp0_0), (.agg #[(iv p1.X), (iv p1.Y)])].toArray w.W fun e W' => ∃ (w' : Bs) (u : (Option Addr × Nat × List (DE fl_TPlotStep))), w.Le w' ∧ e = .returned (.slice u.1 (r).length u.2.1) ∧ ((DC u.2.2 r ∧ SlF u.1 (r).length u.2.1)) ∧ HF w' W' (LEn [dq u.1 (r).length u.2.1 46 27 ln_TPlotStep u.2.2])
 | 0 => by intros; rename_i H _; cases H
 | N + 1 => F_plot_flat_b_ok N (F_plot_flat N) (F_plot_flat_ok N)

theorem F_plot_flatPlot_ok (N : Nat) {w : Bs} (p0 : TPlot) (Ap0_0 : Option Addr) (cp0_0 : Nat) (hp0_0 : Sl w.O w.W fl_TPlotTool Ap0_0 cp0_0 p0.Tools) (Ap0_1 : Option Addr) (cp0_1 : Nat) (hp0_1 : Sl w.O w.W fl_TPlotStep Ap0_1 cp0_1 p0.Steps) (r : TPlot) (H : F_plot_flatPlot N p0 = some r) (hE : HF w w.W (LEn [emp, emp])) : Calls Tryd.prog 24 [(.agg #[(iv p0.Unit), (.slice Ap0_0 (p0.Tools).length cp0_0), (.slice Ap0_1 (p0.Steps).length cp0_1)])].toArray w.W fun e W' => ∃ (w' : Bs) (u : (Option Addr × Nat) × (Option Addr × Nat × List (DE fl_TPlotStep))), w.Le w' ∧ e = .returned (.agg #[(iv r.Unit), (.slice u.1.1 (r.Tools).length u.1.2), (.slice u.2.1 (r.Steps).length u.2.2.1)]) ∧ (SlF u.1.1 (r.Tools).length u.1.2 ∧ (DC u.2.2.2 r.Steps ∧ SlF u.2.1 (r.Steps).length u.2.2.1)) ∧ HF w' W' (LEn [ow u.1.1 u.1.2 62 fl_TPlotTool r.Tools, dq u.2.1 (r.Steps).length u.2.2.1 46 27 ln_TPlotStep u.2.2.2]) := by
 unfold F_plot_flatPlot at H
 have leB := Bs.Le.refl w
 refine Tr.enter (n := 13) Tryd.func24 rfl rfl rfl hE ?_
 refine Tr.sr ?_
 refine Tr.box 1 (cs := [(iv p0.Unit), (.slice Ap0_0 (p0.Tools).length cp0_0), (.slice Ap0_1 (p0.Steps).length cp0_1)]) (wn rfl) rfl rfl rfl fun b100 => ?_
 refine Tr.alloc 2 (wn rfl) rfl ze_25 fun b101 => ?_
 refine Tr.nil (Tr.normThen ?_)
 refine Tr.seq ?_
 refine Tr.drawC 9 [] [] (by kernel_rfl) (by kernel_rfl) fun sz102 hlosz102 hEsz102 => ?_
 refine Dr.quiet 0 [(3, (.pointer (some ⟨b100, 0, none⟩)))] (by kernel_rfl) rfl rfl (by kernel_rfl) ?_ rfl rfl ?_
 ·refine Tq.va rfl (fun _ _ h1 h2 => run_fieldAddr fo_25_0 (h1.ev rfl)) ?_
  exact Tq.fin (.cons rfl .nil)
 refine Dr.quiet 1 [(4, (iv p0.Unit))] (by kernel_rfl) rfl rfl (by kernel_rfl) ?_ rfl rfl ?_
 ·refine Tq.va rfl (fun _ _ h1 h2 => run_load1 ag_3 (h1.ev rfl) (rdb h2 (vs := [(iv p0.Unit), (.slice Ap0_0 (p0.Tools).length cp0_0), (.slice Ap0_1 (p0.Steps).length cp0_1)]) (k := 1) rfl 0) rfl) ?_
  exact Tq.fin (.cons rfl .nil)
 refine Dr.quiet 2 [(5, (.pointer (some ⟨b100, 1, none⟩)))] (by kernel_rfl) rfl rfl (by kernel_rfl) ?_ rfl rfl ?_
 ·refine Tq.va rfl (fun _ _ h1 h2 => run_fieldAddr fo_25_1 (h1.ev rfl)) ?_
  exact Tq.fin (.cons rfl .nil)
 refine Dr.quiet 3 [(6, (.slice Ap0_0 (p0.Tools).length cp0_0))] (by kernel_rfl) rfl rfl (by kernel_rfl) ?_ rfl rfl ?_
 ·refine Tq.va rfl (fun _ _ h1 h2 => run_load1 ag_22 (h1.ev rfl) (rdb h2 (vs := [(iv p0.Unit), (.slice Ap0_0 (p0.Tools).length cp0_0), (.slice Ap0_1 (p0.Steps).length cp0_1)]) (k := 1) rfl 1) rfl) ?_
  exact Tq.fin (.cons rfl .nil)
 refine Dr.quiet 5 [(8, (.pointer (some ⟨b100, 2, none⟩)))] (by kernel_rfl) rfl rfl (by kernel_rfl) ?_ rfl rfl ?_
 ·refine Tq.va rfl (fun _ _ h1 h2 => run_fieldAddr fo_25_2 (h1.ev rfl)) ?_
  exact Tq.fin (.cons rfl .nil)
 refine Dr.quiet 6 [(9, (.slice Ap0_1 (p0.Steps).length cp0_1))] (by kernel_rfl) rfl rfl (by kernel_rfl) ?_ rfl rfl ?_
 ·refine Tq.va rfl (fun _ _ h1 h2 => run_load1 ag_23 (h1.ev rfl) (rdb h2 (vs := [(iv p0.Unit), (.slice Ap0_0 (p0.Tools).length cp0_0), (.slice Ap0_1 (p0.Steps).length cp0_1)]) (k := 1) rfl 2) rfl) ?_
  exact Tq.fin (.cons rfl .nil)
 refine Dr.quiet 7 [(10, (.agg #[(iv 0), (iv 0)]))] (by kernel_rfl) rfl rfl (by kernel_rfl) ?_ rfl rfl ?_
 ·refine Tq.build (vs := []) (cs := [(iv 0), (iv 0)]) (wn rfl) rfl evs_nil (by kernel_rfl) ?_
  exact Tq.fin (.cons rfl .nil)
 obtain ⟨y103, hy103, H⟩ := bnd H
 refine Dr.one 4 (by kernel_rfl) ?_
 refine St.callG 4 [3] [emp] (U := (Option Addr × Nat)) (fun u => (.slice u.1 (y103).length u.2)) (fun O W u => SlF u.1 (y103).length u.2) (fun u => [ow u.1 u.2 62 fl_TPlotTool y103]) rfl (pk_cons rfl pk_nil) (fun _ => rfl) (insS_no rfl) rfl (wn rfl) rfl Tryd.call16 (evl_cons rfl (evl_cons rfl evl_nil)) (fun W hW hp hE => F_plot_ownTools_ok N p0.Tools Ap0_0 cp0_0 (hp0_0.extO (hW.extS hp)) (fun z0 => F_plot_asItIs z0) 17 [] Tryd.call17 (fun w' he z0 y hy => F_plot_asItIs_ok z0 y hy (HF.start _)) y103 hy103 hE) ?_
 intro w u le104 hu hsy103
 obtain ⟨Ay103_0, cy103_0⟩ := u
 have gy103_0 := hu
 replace hp0_0 := hp0_0.le le104
 replace hp0_1 := hp0_1.le le104
 replace leB := leB.trans le104
 have hgy103_0 : SlF Ay103_0 (y103).length cy103_0 := gy103_0
 show Dr _ _ _ _ _ _ _ _ _ (uf _ 7 (.slice Ay103_0 (y103).length cy103_0)) (up _ 3 (ow Ay103_0 cy103_0 62 fl_TPlotTool y103))
 obtain ⟨y105, hy105, H⟩ := bnd H
 refine Dr.one 8 (by kernel_rfl) ?_
 refine St.callG 8 [4] [emp] (U := (Option Addr × Nat × List (DE fl_TPlotStep))) (fun u => (.slice u.1 (y105).length u.2.1)) (fun O W u => (DC u.2.2 y105 ∧ SlF u.1 (y105).length u.2.1)) (fun u => [dq u.1 (y105).length u.2.1 46 27 ln_TPlotStep u.2.2]) rfl (pk_cons rfl pk_nil) (fun _ => rfl) (insS_no rfl) rfl (wn rfl) rfl Tryd.call54 (evl_cons rfl (evl_cons rfl evl_nil)) (fun W hW hp hE => F_plot_flat_ok N p0.Steps Ap0_1 cp0_1 (hp0_1.extO (hW.extS hp)) (TPoint.mk 0 0) y105 hy105 hE) ?_
 intro w u le106 hu hsy105
 obtain ⟨Ay105_0, cy105_0, Dy105_0⟩ := u
 have gy105_0 := hu
 replace hp0_0 := hp0_0.le le106
 replace hp0_1 := hp0_1.le le106
 replace leB := leB.trans le106
 have hgy105_0 : (DC Dy105_0 y105 ∧ SlF Ay105_0 (y105).length cy105_0) := gy105_0
 show Dr _ _ _ _ _ _ _ _ _ (uf _ 11 (.slice Ay105_0 (y105).length cy105_0)) (up _ 4 (dq Ay105_0 (y105).length cy105_0 46 27 ln_TPlotStep Dy105_0))
 refine Dr.tail (by kernel_rfl) ?_
 refine Tr.build (vs := [(0, (iv p0.Unit)), (1, (.slice Ay103_0 (y103).length cy103_0)), (2, (.slice Ay105_0 (y105).length cy105_0))]) (cs := [(iv p0.Unit), (.slice Ay103_0 (y103).length cy103_0), (.slice Ay105_0 (y105).length cy105_0)]) (wn rfl) rfl (evs_cons rfl (evs_cons rfl (evs_cons rfl evs_nil))) (by kernel_rfl) ?_
 refine Tr.store 2 (cs := [(iv p0.Unit), (.slice Ay103_0 (y103).length cy103_0), (.slice Ay105_0 (y105).length cy105_0)]) [(iv p0.Unit), (.slice Ay103_0 (y103).length cy103_0), (.slice Ay105_0 (y105).length cy105_0)] (wn rfl) rfl rfl rfl rfl sz_25 rfl rfl rfl ?_
 refine Tr.nil (Tr.normThen ?_)
 refine Tr.ret ?_
 obtain rfl := Option.some.inj H
 exact Tr.out (m := [(.agg #[(iv p0.Unit), (.slice Ay103_0 (y103).length cy103_0), (.slice Ay105_0 (y105).length cy105_0)])]) [2] (res_cell rfl rfl ag_25 sz_25 res_nil) (fun W hW => ⟨w, ((Ay103_0, cy103_0), (Ay105_0, cy105_0, Dy105_0)), leB, rfl, ⟨hgy103_0, ⟨hgy105_0.1, hgy105_0.2⟩⟩, hW.pick (ks := [3, 4]) (by decide) (pk_cons rfl (pk_cons rfl pk_nil))⟩)

theorem F_shape_TurnPoint_ok (N : Nat) {w : Bs} (p0 : TPoint) (p1 : TTurn) (r : TPoint) (H : F_shape_TurnPoint N p0 p1 = some r) (hE : HF w w.W E0) : Calls Tryd.prog 27 [(.agg #[(iv p0.X), (iv p0.Y)]), (.agg #[(.bool p1.Flip), (iv p1.Quarters), (iv p1.At.X), (iv p1.At.Y)])].toArray w.W fun e W' => e = .returned (.agg #[(iv r.X), (iv r.Y)]) ∧ HF w W' E0 := by
 unfold F_shape_TurnPoint at H
 have leB := Bs.Le.refl w
 refine Tr.enter (n := 36) Tryd.func27 rfl rfl rfl hE ?_
 refine Tr.sr ?_
 refine Tr.box 1 (cs := [(iv p0.X), (iv p0.Y)]) (wn rfl) rfl rfl rfl fun b100 => ?_
 refine Tr.box 2 (cs := [(.bool p1.Flip), (iv p1.Quarters), (iv p1.At.X), (iv p1.At.Y)]) (wn rfl) rfl rfl rfl fun b101 => ?_
 refine Tr.alloc 3 (wn rfl) rfl ze_27 fun b102 => ?_
 refine Tr.nil (Tr.normThen ?_)
 have leJ104 := Bs.Le.refl w
 refine Tr.cutJ (σ := Int) (fun w s => F_shape_TurnPoint_J2 N p0 p1 s = some r) (fun s => [(2, (.pointer (some ⟨b100, 0, none⟩))), (3, (.pointer (some ⟨b101, 0, none⟩))), (4, (.pointer (some ⟨b102, 0, none⟩)))]) (fun s => [(1, bx b100 #[(iv s), (iv p0.Y)] 27), (2, bx b101 #[(.bool p1.Flip), (iv p1.Quarters), (iv p1.At.X), (iv p1.At.Y)] 29), (3, bx b102 #[(iv 0), (iv 0)] 27)]) ?_ ?_
 ·refine Tr.sr ?_
  refine Tr.va rfl (fun _ _ h1 h2 => run_fieldAddr fo_29_0 (h1.ev rfl)) ?_
  refine Tr.va rfl (fun _ _ h1 h2 => run_load1 ag_4 (h1.ev rfl) (rdb h2 (vs := [(.bool p1.Flip), (iv p1.Quarters), (iv p1.At.X), (iv p1.At.Y)]) (k := 2) rfl 0) rfl) ?_
  refine Tr.nil (Tr.normThen ?_)
  refine Tr.cond rfl H (fun H => ?_) (fun H => ?_)
  ·refine Tr.region ?_
   refine Tr.va rfl (fun _ _ h1 h2 => run_fieldAddr fo_27_0 (h1.ev rfl)) ?_
   refine Tr.va rfl (fun _ _ h1 h2 => run_load1 ag_3 (h1.ev rfl) (rdb h2 (vs := [(iv p0.X), (iv p0.Y)]) (k := 1) rfl 0) rfl) ?_
   refine Tr.va rfl (fun _ _ h1 h2 => run_neg (h1.ev rfl)) ?_
   refine Tr.va rfl (fun _ _ h1 h2 => run_fieldAddr fo_27_0 (h1.ev rfl)) ?_
   refine Tr.store 1 (cs := [(iv (w64 (0 - p0.X)))]) [(iv (w64 (0 - p0.X))), (iv p0.Y)] (wn rfl) rfl rfl rfl rfl sz_3 rfl rfl rfl ?_
   refine Tr.nil ?_
   exact Tr.backThen leJ104 (w64 (0 - p0.X)) H (.cons rfl (.cons rfl (.cons rfl .nil))) (.cons rfl (.cons rfl (.cons rfl .nil)))
  ·refine Tr.skip ?_
   exact Tr.backThen leJ104 p0.X H (.cons rfl (.cons rfl (.cons rfl .nil))) (.cons rfl (.cons rfl (.cons rfl .nil)))
 ·intro w x103 hlJ105 hs
  have H := hs
  replace H : F_shape_TurnPoint_J2 N p0 p1 x103 = some r := H
  replace leB := leB.trans hlJ105
  unfold F_shape_TurnPoint_J2 at H
  show Tr _ _ (LF [(2, (.pointer (some ⟨b100, 0, none⟩))), (3, (.pointer (some ⟨b101, 0, none⟩))), (4, (.pointer (some ⟨b102, 0, none⟩)))]) (LE [(1, bx b100 #[(iv x103), (iv p0.Y)] 27), (2, bx b101 #[(.bool p1.Flip), (iv p1.Quarters), (iv p1.At.X), (iv p1.At.Y)] 29), (3, bx b102 #[(iv 0), (iv 0)] 27)]) _
  refine Tr.seq ?_
  refine Tr.sr ?_
  refine Tr.va rfl (fun _ _ h1 h2 => run_fieldAddr fo_29_1 (h1.ev rfl)) ?_
  refine Tr.va rfl (fun _ _ h1 h2 => run_load1 ag_3 (h1.ev rfl) (rdb h2 (vs := [(.bool p1.Flip), (iv p1.Quarters), (iv p1.At.X), (iv p1.At.Y)]) (k := 2) rfl 1) rfl) ?_
  refine Tr.mv rfl rfl ?_
  refine Tr.nil (Tr.normThen ?_)
  refine Tr.block ?_
  refine Tr.loop (σ := Int × Int × Int) (fun m w s => F_shape_TurnPoint_L1 p1 m s.1 s.2.1 s.2.2 = some r) (fun s => [(2, (.pointer (some ⟨b100, 0, none⟩))), (3, (.pointer (some ⟨b101, 0, none⟩))), (4, (.pointer (some ⟨b102, 0, none⟩))), (12, (iv p1.Quarters)), (13, (iv s.2.2))]) (fun s => [(1, bx b100 #[(iv s.1), (iv s.2.1)] 27), (2, bx b101 #[(.bool p1.Flip), (iv p1.Quarters), (iv p1.At.X), (iv p1.At.Y)] 29), (3, bx b102 #[(iv 0), (iv 0)] 27)]) N (x103, p0.Y, 0) H (.cons rfl (.cons rfl (.cons rfl (.cons rfl (.cons rfl .nil))))) (.cons rfl (.cons rfl (.cons rfl .nil))) (fun _ _ h => noSome (h)) ?_
  intro w leL1 mL1 s hs
  obtain ⟨x115, x116, x117⟩ := s
  have H := hs
  replace H : F_shape_TurnPoint_L1 p1 (mL1 + 1) x115 x116 x117 = some r := H
  replace leB := leB.trans leL1
  rw [F_shape_TurnPoint_L1.eq_2] at H
  show Tr _ _ (LF [(2, (.pointer (some ⟨b100, 0, none⟩))), (3, (.pointer (some ⟨b101, 0, none⟩))), (4, (.pointer (some ⟨b102, 0, none⟩))), (12, (iv p1.Quarters)), (13, (iv x117))]) (LE [(1, bx b100 #[(iv x115), (iv x116)] 27), (2, bx b101 #[(.bool p1.Flip), (iv p1.Quarters), (iv p1.At.X), (iv p1.At.Y)] 29), (3, bx b102 #[(iv 0), (iv 0)] 27)]) _
  refine Tr.sr ?_
  refine Tr.va rfl (fun _ _ h1 h2 => run_lss (h1.ev rfl) (h1.ev rfl)) ?_
  refine Tr.nil (Tr.normThen ?_)
  refine Tr.seq ?_
  refine Tr.cond rfl H (fun H => ?_) (fun H => ?_)
  ·refine Tr.skip (Tr.normThen ?_)
   refine Tr.seq ?_
   refine Tr.block ?_
   refine Tr.region ?_
   refine Tr.va rfl (fun _ _ h1 h2 => run_fieldAddr fo_27_1 (h1.ev rfl)) ?_
   refine Tr.va rfl (fun _ _ h1 h2 => run_load1 ag_3 (h1.ev rfl) (rdb h2 (vs := [(iv x115), (iv x116)]) (k := 1) rfl 1) rfl) ?_
   refine Tr.va rfl (fun _ _ h1 h2 => run_neg (h1.ev rfl)) ?_
   refine Tr.va rfl (fun _ _ h1 h2 => run_fieldAddr fo_27_0 (h1.ev rfl)) ?_
   refine Tr.va rfl (fun _ _ h1 h2 => run_load1 ag_3 (h1.ev rfl) (rdb h2 (vs := [(iv x115), (iv x116)]) (k := 1) rfl 0) rfl) ?_
   refine Tr.va rfl (fun _ _ h1 h2 => run_fieldAddr fo_27_0 (h1.ev rfl)) ?_
   refine Tr.store 1 (cs := [(iv (w64 (0 - x116)))]) [(iv (w64 (0 - x116))), (iv x116)] (wn rfl) rfl rfl rfl rfl sz_3 rfl rfl rfl ?_
   refine Tr.va rfl (fun _ _ h1 h2 => run_fieldAddr fo_27_1 (h1.ev rfl)) ?_
   refine Tr.store 1 (cs := [(iv x115)]) [(iv (w64 (0 - x116))), (iv x115)] (wn rfl) rfl rfl rfl rfl sz_3 rfl rfl rfl ?_
   refine Tr.nil (Tr.normBlock (Tr.normThen ?_))
   refine Tr.region ?_
   refine Tr.va rfl (fun _ _ h1 h2 => run_add (h1.ev rfl) (h1.ev rfl)) ?_
   refine Tr.mv rfl rfl ?_
   refine Tr.nil ?_
   exact Tr.backThen leL1 ((w64 (0 - x116)), x115, (w64 (x117 + 1))) H (.cons rfl (.cons rfl (.cons rfl (.cons rfl (.cons rfl .nil))))) (.cons rfl (.cons rfl (.cons rfl .nil)))
  ·refine Tr.exit (Tr.exitThen (Tr.exitThen (Tr.exitBlock (Tr.normThen ?_))))
   refine Tr.sr ?_
   refine Tr.va rfl (fun _ _ h1 h2 => run_fieldAddr fo_27_0 (h1.ev rfl)) ?_
   refine Tr.va rfl (fun _ _ h1 h2 => run_load1 ag_3 (h1.ev rfl) (rdb h2 (vs := [(iv x115), (iv x116)]) (k := 1) rfl 0) rfl) ?_
   refine Tr.va rfl (fun _ _ h1 h2 => run_fieldAddr fo_29_2 (h1.ev rfl)) ?_
   refine Tr.va rfl (fun _ _ h1 h2 => run_fieldAddr fo_27_0 (h1.ev rfl)) ?_
   refine Tr.va rfl (fun _ _ h1 h2 => run_load1 ag_3 (h1.ev rfl) (rdb h2 (vs := [(.bool p1.Flip), (iv p1.Quarters), (iv p1.At.X), (iv p1.At.Y)]) (k := 2) rfl 2) rfl) ?_
   refine Tr.va rfl (fun _ _ h1 h2 => run_add (h1.ev rfl) (h1.ev rfl)) ?_
   refine Tr.va rfl (fun _ _ h1 h2 => run_fieldAddr fo_27_1 (h1.ev rfl)) ?_
   refine Tr.va rfl (fun _ _ h1 h2 => run_load1 ag_3 (h1.ev rfl) (rdb h2 (vs := [(iv x115), (iv x116)]) (k := 1) rfl 1) rfl) ?_
   refine Tr.va rfl (fun _ _ h1 h2 => run_fieldAddr fo_29_2 (h1.ev rfl)) ?_
   refine Tr.va rfl (fun _ _ h1 h2 => run_fieldAddr fo_27_1 (h1.ev rfl)) ?_
   refine Tr.va rfl (fun _ _ h1 h2 => run_load1 ag_3 (h1.ev rfl) (rdb h2 (vs := [(.bool p1.Flip), (iv p1.Quarters), (iv p1.At.X), (iv p1.At.Y)]) (k := 2) rfl 3) rfl) ?_
   refine Tr.va rfl (fun _ _ h1 h2 => run_add (h1.ev rfl) (h1.ev rfl)) ?_
   refine Tr.build (vs := [(0, (iv (w64 (x115 + p1.At.X)))), (1, (iv (w64 (x116 + p1.At.Y))))]) (cs := [(iv (w64 (x115 + p1.At.X))), (iv (w64 (x116 + p1.At.Y)))]) (wn rfl) rfl (evs_cons rfl (evs_cons rfl evs_nil)) (by kernel_rfl) ?_
   refine Tr.store 3 (cs := [(iv (w64 (x115 + p1.At.X))), (iv (w64 (x116 + p1.At.Y)))]) [(iv (w64 (x115 + p1.At.X))), (iv (w64 (x116 + p1.At.Y)))] (wn rfl) rfl rfl rfl rfl sz_27 rfl rfl rfl ?_
   refine Tr.nil (Tr.normThen ?_)
   refine Tr.ret ?_
   obtain rfl := Option.some.inj H
   exact Tr.out (m := [(.agg #[(iv (w64 (x115 + p1.At.X))), (iv (w64 (x116 + p1.At.Y)))])]) [3] (res_cell rfl rfl ag_27 sz_27 res_nil) (fun W hW => ⟨rfl, hW.low leB⟩)

theorem F_shape_TurnRect_ok (N : Nat) {w : Bs} (p0 : TRect) (p1 : TTurn) (r : TRect) (H : F_shape_TurnRect N p0 p1 = some r) (hE : HF w w.W E0) : Calls Tryd.prog 26 [(.agg #[(iv p0.X0), (iv p0.Y0), (iv p0.X1), (iv p0.Y1)]), (.agg #[(.bool p1.Flip), (iv p1.Quarters), (iv p1.At.X), (iv p1.At.Y)])].toArray w.W fun e W' => e = .returned (.agg #[(iv r.X0), (iv r.Y0), (iv r.X1), (iv r.Y1)]) ∧ HF w W' E0 := by
 unfold F_shape_TurnRect at H
 have leB := Bs.Le.refl w
 refine Tr.enter (n := 42) Tryd.func26 rfl rfl rfl hE ?_
 refine Tr.sr ?_
 refine Tr.box 1 (cs := [(iv p0.X0), (iv p0.Y0), (iv p0.X1), (iv p0.Y1)]) (wn rfl) rfl rfl rfl fun b100 => ?_
 refine Tr.box 2 (cs := [(.bool p1.Flip), (iv p1.Quarters), (iv p1.At.X), (iv p1.At.Y)]) (wn rfl) rfl rfl rfl fun b101 => ?_
 refine Tr.alloc 3 (wn rfl) rfl ze_57 fun b102 => ?_
 refine Tr.nil (Tr.normThen ?_)
 refine Tr.seq ?_
 obtain ⟨y104, hy104, H⟩ := bnd H
 obtain ⟨y105, hy105, H⟩ := bnd H
 refine Tr.drawF 16 [(14, .makeFunc (.func 0) #[] #[]), (15, .makeFunc (.func 0) #[] #[])] [(14, ⟨5, 4, (.func (.func 0) #[] #[]), fun b => .pointer (some ⟨b, 0, none⟩), fun b => bx b #[(iv 0), (iv 0)] 27⟩), (15, ⟨6, 5, (.func (.func 0) #[] #[]), fun b => .pointer (some ⟨b, 0, none⟩), fun b => bx b #[(iv 0), (iv 0)] 27⟩)] [(0, (.agg #[(iv p0.X0), (iv p0.Y0), (iv p0.X1), (iv p0.Y1)])), (1, (.agg #[(.bool p1.Flip), (iv p1.Quarters), (iv p1.At.X), (iv p1.At.Y)])), (2, (.pointer (some ⟨b100, 0, none⟩))), (3, (.pointer (some ⟨b101, 0, none⟩))), (4, (.pointer (some ⟨b102, 0, none⟩))), (5, (.func (.func 0) #[] #[])), (6, (.func (.func 0) #[] #[])), (7, (.pointer (some ⟨b100, 0, none⟩))), (8, (iv p0.X0)), (9, (.pointer (some ⟨b100, 1, none⟩))), (10, (iv p0.Y0)), (11, (.agg #[(iv p0.X0), (iv p0.Y0)])), (12, (.agg #[(.bool p1.Flip), (iv p1.Quarters), (iv p1.At.X), (iv p1.At.Y)])), (13, (.agg #[(iv y104.X), (iv y104.Y)])), (14, (.pointer (some ⟨b100, 2, none⟩))), (15, (iv p0.X1)), (16, (.pointer (some ⟨b100, 3, none⟩))), (17, (iv p0.Y1)), (18, (.agg #[(iv p0.X1), (iv p0.Y1)])), (19, (.agg #[(.bool p1.Flip), (iv p1.Quarters), (iv p1.At.X), (iv p1.At.Y)])), (20, (.agg #[(iv y105.X), (iv y105.Y)]))] (by kernel_rfl) (by kernel_rfl) (by kernel_rfl) (by kernel_rfl) (by kernel_rfl) (by kernel_rfl) (by kernel_rfl) (fall_cons (fr_alloc rfl rfl ze_27) (fall_cons (fr_alloc rfl rfl ze_27) fall_nil)) (fall_cons rfl (fall_cons rfl fall_nil)) (fall_cons rfl (fall_cons rfl fall_nil)) ?_ ?_
 ·refine Tq.va rfl (fun _ _ h1 h2 => run_fieldAddr fo_57_0 (h1.ev rfl)) ?_
  refine Tq.va rfl (fun _ _ h1 h2 => run_load1 ag_3 (h1.ev rfl) (rdb h2 (vs := [(iv p0.X0), (iv p0.Y0), (iv p0.X1), (iv p0.Y1)]) (k := 1) rfl 0) rfl) ?_
  refine Tq.va rfl (fun _ _ h1 h2 => run_fieldAddr fo_57_1 (h1.ev rfl)) ?_
  refine Tq.va rfl (fun _ _ h1 h2 => run_load1 ag_3 (h1.ev rfl) (rdb h2 (vs := [(iv p0.X0), (iv p0.Y0), (iv p0.X1), (iv p0.Y1)]) (k := 1) rfl 1) rfl) ?_
  refine Tq.build (vs := [(0, (iv p0.X0)), (1, (iv p0.Y0))]) (cs := [(iv p0.X0), (iv p0.Y0)]) (wn rfl) rfl (evs_cons rfl (evs_cons rfl evs_nil)) (by kernel_rfl) ?_
  refine Tq.va rfl (fun _ _ h1 h2 => run_loadN (cs := [(.bool p1.Flip), (iv p1.Quarters), (iv p1.At.X), (iv p1.At.Y)]) ag_29 sz_29 (h1.ev rfl) (CellsAt.take (rdb h2 (vs := [(.bool p1.Flip), (iv p1.Quarters), (iv p1.At.X), (iv p1.At.Y)]) (k := 2) rfl 0) 4) rfl) ?_
  refine Tq.call0 (r := (.agg #[(iv y104.X), (iv y104.Y)])) (wn rfl) rfl Tryd.call27 (evl_cons rfl (evl_cons rfl evl_nil)) (fun W hW => F_shape_TurnPoint_ok N (TPoint.mk p0.X0 p0.Y0) p1 y104 hy104 (HF.start _)) ?_
  refine Tq.va rfl (fun _ _ h1 h2 => run_fieldAddr fo_57_2 (h1.ev rfl)) ?_
  refine Tq.va rfl (fun _ _ h1 h2 => run_load1 ag_3 (h1.ev rfl) (rdb h2 (vs := [(iv p0.X0), (iv p0.Y0), (iv p0.X1), (iv p0.Y1)]) (k := 1) rfl 2) rfl) ?_
  refine Tq.va rfl (fun _ _ h1 h2 => run_fieldAddr fo_57_3 (h1.ev rfl)) ?_
  refine Tq.va rfl (fun _ _ h1 h2 => run_load1 ag_3 (h1.ev rfl) (rdb h2 (vs := [(iv p0.X0), (iv p0.Y0), (iv p0.X1), (iv p0.Y1)]) (k := 1) rfl 3) rfl) ?_
  refine Tq.build (vs := [(0, (iv p0.X1)), (1, (iv p0.Y1))]) (cs := [(iv p0.X1), (iv p0.Y1)]) (wn rfl) rfl (evs_cons rfl (evs_cons rfl evs_nil)) (by kernel_rfl) ?_
  refine Tq.va rfl (fun _ _ h1 h2 => run_loadN (cs := [(.bool p1.Flip), (iv p1.Quarters), (iv p1.At.X), (iv p1.At.Y)]) ag_29 sz_29 (h1.ev rfl) (CellsAt.take (rdb h2 (vs := [(.bool p1.Flip), (iv p1.Quarters), (iv p1.At.X), (iv p1.At.Y)]) (k := 2) rfl 0) 4) rfl) ?_
  refine Tq.call0 (r := (.agg #[(iv y105.X), (iv y105.Y)])) (wn rfl) rfl Tryd.call27 (evl_cons rfl (evl_cons rfl evl_nil)) (fun W hW => F_shape_TurnPoint_ok N (TPoint.mk p0.X1 p0.Y1) p1 y105 hy105 (HF.start _)) ?_
  refine Tq.mkFunc (vs := []) (wn rfl) rfl evl_nil ?_
  refine Tq.mkFunc (vs := []) (wn rfl) rfl evl_nil ?_
  exact Tq.fin (.cons rfl (.cons rfl (.cons rfl (.cons rfl (.cons rfl (.cons rfl (.cons rfl (.cons rfl (.cons rfl (.cons rfl (.cons rfl (.cons rfl (.cons rfl (.cons rfl (.cons rfl (.cons rfl (.cons rfl (.cons rfl (.cons rfl (.cons rfl (.cons rfl .nil)))))))))))))))))))))
 ·intro bs103
  refine Tr.sel (lf := [(4, (.pointer (some ⟨b102, 0, none⟩))), (5, (.pointer (some ⟨(bs103 14), 0, none⟩))), (6, (.pointer (some ⟨(bs103 15), 0, none⟩))), (13, (.agg #[(iv y104.X), (iv y104.Y)])), (20, (.agg #[(iv y105.X), (iv y105.Y)]))]) (le := [(1, bx b100 #[(iv p0.X0), (iv p0.Y0), (iv p0.X1), (iv p0.Y1)] 57), (2, bx b101 #[(.bool p1.Flip), (iv p1.Quarters), (iv p1.At.X), (iv p1.At.Y)] 29), (3, bx b102 #[(iv 0), (iv 0), (iv 0), (iv 0)] 57), (4, bx (bs103 14) #[(iv 0), (iv 0)] 27), (5, bx (bs103 15) #[(iv 0), (iv 0)] 27)]) (.cons rfl (.cons rfl (.cons rfl (.cons rfl (.cons rfl .nil))))) (.cons rfl (.cons rfl (.cons rfl (.cons rfl (.cons rfl .nil))))) ?_
  refine Tr.store 4 (cs := [(iv y104.X), (iv y104.Y)]) [(iv y104.X), (iv y104.Y)] (wn rfl) rfl rfl rfl rfl sz_27 rfl rfl rfl ?_
  refine Tr.store 5 (cs := [(iv y105.X), (iv y105.Y)]) [(iv y105.X), (iv y105.Y)] (wn rfl) rfl rfl rfl rfl sz_27 rfl rfl rfl ?_
  refine Tr.nil (Tr.normThen ?_)
  refine Tr.sr ?_
  refine Tr.va rfl (fun _ _ h1 h2 => run_fieldAddr fo_27_0 (h1.ev rfl)) ?_
  refine Tr.va rfl (fun _ _ h1 h2 => run_load1 ag_3 (h1.ev rfl) (rdb h2 (vs := [(iv y104.X), (iv y104.Y)]) (k := 4) rfl 0) rfl) ?_
  refine Tr.va rfl (fun _ _ h1 h2 => run_fieldAddr fo_27_0 (h1.ev rfl)) ?_
  refine Tr.va rfl (fun _ _ h1 h2 => run_load1 ag_3 (h1.ev rfl) (rdb h2 (vs := [(iv y105.X), (iv y105.Y)]) (k := 5) rfl 0) rfl) ?_
  refine Tr.va rfl (fun _ _ h1 h2 => run_min (h1.ev rfl) (h1.ev rfl) _) ?_
  refine Tr.va rfl (fun _ _ h1 h2 => run_fieldAddr fo_27_1 (h1.ev rfl)) ?_
  refine Tr.va rfl (fun _ _ h1 h2 => run_load1 ag_3 (h1.ev rfl) (rdb h2 (vs := [(iv y104.X), (iv y104.Y)]) (k := 4) rfl 1) rfl) ?_
  refine Tr.va rfl (fun _ _ h1 h2 => run_fieldAddr fo_27_1 (h1.ev rfl)) ?_
  refine Tr.va rfl (fun _ _ h1 h2 => run_load1 ag_3 (h1.ev rfl) (rdb h2 (vs := [(iv y105.X), (iv y105.Y)]) (k := 5) rfl 1) rfl) ?_
  refine Tr.va rfl (fun _ _ h1 h2 => run_min (h1.ev rfl) (h1.ev rfl) _) ?_
  refine Tr.va rfl (fun _ _ h1 h2 => run_fieldAddr fo_27_0 (h1.ev rfl)) ?_
  refine Tr.va rfl (fun _ _ h1 h2 => run_load1 ag_3 (h1.ev rfl) (rdb h2 (vs := [(iv y104.X), (iv y104.Y)]) (k := 4) rfl 0) rfl) ?_
  refine Tr.va rfl (fun _ _ h1 h2 => run_fieldAddr fo_27_0 (h1.ev rfl)) ?_
  refine Tr.va rfl (fun _ _ h1 h2 => run_load1 ag_3 (h1.ev rfl) (rdb h2 (vs := [(iv y105.X), (iv y105.Y)]) (k := 5) rfl 0) rfl) ?_
  refine Tr.va rfl (fun _ _ h1 h2 => run_max (h1.ev rfl) (h1.ev rfl) _) ?_
  refine Tr.va rfl (fun _ _ h1 h2 => run_fieldAddr fo_27_1 (h1.ev rfl)) ?_
  refine Tr.va rfl (fun _ _ h1 h2 => run_load1 ag_3 (h1.ev rfl) (rdb h2 (vs := [(iv y104.X), (iv y104.Y)]) (k := 4) rfl 1) rfl) ?_
  refine Tr.va rfl (fun _ _ h1 h2 => run_fieldAddr fo_27_1 (h1.ev rfl)) ?_
  refine Tr.va rfl (fun _ _ h1 h2 => run_load1 ag_3 (h1.ev rfl) (rdb h2 (vs := [(iv y105.X), (iv y105.Y)]) (k := 5) rfl 1) rfl) ?_
  refine Tr.va rfl (fun _ _ h1 h2 => run_max (h1.ev rfl) (h1.ev rfl) _) ?_
  refine Tr.build (vs := [(0, (iv (min y104.X y105.X))), (1, (iv (min y104.Y y105.Y))), (2, (iv (max y104.X y105.X))), (3, (iv (max y104.Y y105.Y)))]) (cs := [(iv (min y104.X y105.X)), (iv (min y104.Y y105.Y)), (iv (max y104.X y105.X)), (iv (max y104.Y y105.Y))]) (wn rfl) rfl (evs_cons rfl (evs_cons rfl (evs_cons rfl (evs_cons rfl evs_nil)))) (by kernel_rfl) ?_
  refine Tr.store 3 (cs := [(iv (min y104.X y105.X)), (iv (min y104.Y y105.Y)), (iv (max y104.X y105.X)), (iv (max y104.Y y105.Y))]) [(iv (min y104.X y105.X)), (iv (min y104.Y y105.Y)), (iv (max y104.X y105.X)), (iv (max y104.Y y105.Y))] (wn rfl) rfl rfl rfl rfl sz_57 rfl rfl rfl ?_
  refine Tr.nil (Tr.normThen ?_)
  refine Tr.ret ?_
  obtain rfl := Option.some.inj H
  exact Tr.out (m := [(.agg #[(iv (min y104.X y105.X)), (iv (min y104.Y y105.Y)), (iv (max y104.X y105.X)), (iv (max y104.Y y105.Y))])]) [3] (res_cell rfl rfl ag_57 sz_57 res_nil) (fun W hW => ⟨rfl, hW.low leB⟩)

theorem F_plot_TurnedPlot_1_ok (N : Nat) {w : Bs} (p0 : TRect) (q0 : TTurn) (bq0 : Nat) (hb0 : w.R bq0) (hc0 : CellsAt w.W bq0 0 [(.bool q0.Flip), (iv q0.Quarters), (iv q0.At.X), (iv q0.At.Y)]) (r : TRect) (H : F_plot_TurnedPlot_1 N p0 q0 = some r) (hE : HF w w.W E0) : Calls Tryd.prog 25 [(.agg #[(iv p0.X0), (iv p0.Y0), (iv p0.X1), (iv p0.Y1)]), (.pointer (some ⟨bq0, 0, none⟩))].toArray w.W fun e W' => e = .returned (.agg #[(iv r.X0), (iv r.Y0), (iv r.X1), (iv r.Y1)]) ∧ HF w W' E0 := by
 unfold F_plot_TurnedPlot_1 at H
 have leB := Bs.Le.refl w
 refine Tr.enter (n := 7) Tryd.func25 rfl rfl rfl hE ?_
 refine Tr.sr ?_
 refine Tr.box 1 (cs := [(iv p0.X0), (iv p0.Y0), (iv p0.X1), (iv p0.Y1)]) (wn rfl) rfl rfl rfl fun b100 => ?_
 refine Tr.alloc 2 (wn rfl) rfl ze_57 fun b101 => ?_
 refine Tr.nil (Tr.normThen ?_)
 refine Tr.sr ?_
 refine Tr.va rfl (fun _ _ h1 h2 => run_loadN (cs := [(iv p0.X0), (iv p0.Y0), (iv p0.X1), (iv p0.Y1)]) ag_57 sz_57 (h1.ev rfl) (CellsAt.take (rdb h2 (vs := [(iv p0.X0), (iv p0.Y0), (iv p0.X1), (iv p0.Y1)]) (k := 1) rfl 0) 4) rfl) ?_
 refine Tr.va rfl (fun _ _ h1 h2 => run_loadN (cs := [(.bool q0.Flip), (iv q0.Quarters), (iv q0.At.X), (iv q0.At.Y)]) ag_29 sz_29 (h1.ev rfl) (CellsAt.take (rdR hb0 hc0 h2) 4) rfl) ?_
 obtain ⟨y102, hy102, H⟩ := bnd H
 refine Tr.call0 (r := (.agg #[(iv y102.X0), (iv y102.Y0), (iv y102.X1), (iv y102.Y1)])) (wn rfl) rfl Tryd.call26 (evl_cons rfl (evl_cons rfl evl_nil)) (fun W hW => F_shape_TurnRect_ok N p0 q0 y102 hy102 (HF.start _)) ?_
 refine Tr.store 2 (cs := [(iv y102.X0), (iv y102.Y0), (iv y102.X1), (iv y102.Y1)]) [(iv y102.X0), (iv y102.Y0), (iv y102.X1), (iv y102.Y1)] (wn rfl) rfl rfl rfl rfl sz_57 rfl rfl rfl ?_
 refine Tr.nil (Tr.normThen ?_)
 refine Tr.ret ?_
 obtain rfl := Option.some.inj H
 exact Tr.out (m := [(.agg #[(iv y102.X0), (iv y102.Y0), (iv y102.X1), (iv y102.Y1)])]) [2] (res_cell rfl rfl ag_57 sz_57 res_nil) (fun W hW => ⟨rfl, hW.low leB⟩)

theorem F_plot_TurnedPlot_ok (N : Nat) {w : Bs} (p0 : TPlot) (Ap0_0 : Option Addr) (cp0_0 : Nat) (hp0_0 : Sl w.O w.W fl_TPlotTool Ap0_0 cp0_0 p0.Tools) (Ap0_1 : Option Addr) (cp0_1 : Nat) (hp0_1 : Sl w.O w.W fl_TPlotStep Ap0_1 cp0_1 p0.Steps) (p1 : TTurn) (r : (TPlot × Int)) (H : F_plot_TurnedPlot N p0 p1 = some r) (hE : HF w w.W (LEn [])) : Calls Tryd.prog 6 [(.agg #[(iv p0.Unit), (.slice Ap0_0 (p0.Tools).length cp0_0), (.slice Ap0_1 (p0.Steps).length cp0_1)]), (.agg #[(.bool p1.Flip), (iv p1.Quarters), (iv p1.At.X), (iv p1.At.Y)])].toArray w.W fun e W' => ∃ (w' : Bs) (u : (Option Addr × Nat) × (Option Addr × Nat)), w.Le w' ∧ e = .returned (.tuple #[(.agg #[(iv r.1.Unit), (.slice u.1.1 (r.1.Tools).length u.1.2), (.slice u.2.1 (r.1.Steps).length u.2.2)]), (iv r.2)]) ∧ (Sl w'.O w'.W fl_TPlotTool u.1.1 u.1.2 r.1.Tools ∧ Sl w'.O w'.W fl_TPlotStep u.2.1 u.2.2 r.1.Steps) ∧ HF w' W' (LEn []) := by
 unfold F_plot_TurnedPlot at H
 have leB := Bs.Le.refl w
 refine Tr.enter (n := 119) Tryd.func6 rfl rfl rfl hE ?_
 refine Tr.sr ?_
 refine Tr.box 1 (cs := [(iv p0.Unit), (.slice Ap0_0 (p0.Tools).length cp0_0), (.slice Ap0_1 (p0.Steps).length cp0_1)]) (wn rfl) rfl rfl rfl fun b100 => ?_
 refine Tr.box 2 (cs := [(.bool p1.Flip), (iv p1.Quarters), (iv p1.At.X), (iv p1.At.Y)]) (wn rfl) rfl rfl rfl fun b101 => ?_
 refine Tr.alloc 3 (wn rfl) rfl ze_25 fun b102 => ?_
 refine Tr.asg rfl rfl ?_
 refine Tr.nil (Tr.normThen ?_)
 refine Tr.seq ?_
 refine Tr.sr ?_
 refine Tr.va rfl (fun _ _ h1 h2 => run_loadN (cs := [(iv p0.Unit), (.slice Ap0_0 (p0.Tools).length cp0_0), (.slice Ap0_1 (p0.Steps).length cp0_1)]) ag_25 sz_25 (h1.ev rfl) (CellsAt.take (rdb h2 (vs := [(iv p0.Unit), (.slice Ap0_0 (p0.Tools).length cp0_0), (.slice Ap0_1 (p0.Steps).length cp0_1)]) (k := 1) rfl 0) 3) rfl) ?_
 obtain ⟨y103, hy103, H⟩ := bnd H
 refine Tr.call0 (r := (iv y103)) (wn rfl) rfl Tryd.call10 (evl_cons rfl evl_nil) (fun W hW => F_plot_CheckPlot_ok N p0 Ap0_0 cp0_0 (hp0_0.rl.ext hW.extAll) Ap0_1 cp0_1 (hp0_1.rl.ext hW.extAll) y103 hy103 (HF.start _)) ?_
 refine Tr.asg rfl rfl ?_
 refine Tr.nil (Tr.normThen ?_)
 refine Tr.sr ?_
 refine Tr.mv rfl rfl ?_
 refine Tr.va rfl (fun _ _ h1 h2 => run_neq (h1.ev rfl) (h1.ev rfl)) ?_
 refine Tr.nil (Tr.normThen ?_)
 refine Tr.cond rfl H (fun H => ?_) (fun H => ?_)
 ·refine Tr.sr ?_
  refine Tr.build (vs := []) (cs := [(iv 0), (.slice none 0 0), (.slice none 0 0)]) (wn rfl) rfl evs_nil (by kernel_rfl) ?_
  refine Tr.mv rfl rfl ?_
  refine Tr.store 3 (cs := [(iv 0), (.slice none 0 0), (.slice none 0 0)]) [(iv 0), (.slice none 0 0), (.slice none 0 0)] (wn rfl) rfl rfl rfl rfl sz_25 rfl rfl rfl ?_
  refine Tr.asg rfl rfl ?_
  refine Tr.nil (Tr.normThen ?_)
  refine Tr.ret (Tr.retThen ?_)
  obtain rfl := Option.some.inj H
  exact Tr.out (m := [(.agg #[(iv 0), (.slice none 0 0), (.slice none 0 0)]), (iv y103)]) [3] (res_cell rfl rfl ag_25 sz_25 (res_tmp rfl res_nil)) (fun W hW => ⟨w, ((none, 0), (none, 0)), leB, rfl, ⟨(Sl.nil _ _ _), (Sl.nil _ _ _)⟩, hW.pick (ks := []) (by decide) pk_nil⟩)
 ·refine Tr.skip (Tr.normThen ?_)
  refine Tr.seq ?_
  refine Tr.sr ?_
  refine Tr.va rfl (fun _ _ h1 h2 => run_loadN (cs := [(.bool p1.Flip), (iv p1.Quarters), (iv p1.At.X), (iv p1.At.Y)]) ag_29 sz_29 (h1.ev rfl) (CellsAt.take (rdb h2 (vs := [(.bool p1.Flip), (iv p1.Quarters), (iv p1.At.X), (iv p1.At.Y)]) (k := 2) rfl 0) 4) rfl) ?_
  obtain ⟨y104, hy104, H⟩ := bnd H
  refine Tr.call0 (r := (iv y104)) (wn rfl) rfl Tryd.call23 (evl_cons rfl evl_nil) (fun W hW => F_shape_CheckTurn_ok p1 y104 hy104 (HF.start _)) ?_
  refine Tr.asg rfl rfl ?_
  refine Tr.nil (Tr.normThen ?_)
  refine Tr.sr ?_
  refine Tr.mv rfl rfl ?_
  refine Tr.va rfl (fun _ _ h1 h2 => run_neq (h1.ev rfl) (h1.ev rfl)) ?_
  refine Tr.nil (Tr.normThen ?_)
  refine Tr.cond rfl H (fun H => ?_) (fun H => ?_)
  ·refine Tr.sr ?_
   refine Tr.build (vs := []) (cs := [(iv 0), (.slice none 0 0), (.slice none 0 0)]) (wn rfl) rfl evs_nil (by kernel_rfl) ?_
   refine Tr.mv rfl rfl ?_
   refine Tr.store 3 (cs := [(iv 0), (.slice none 0 0), (.slice none 0 0)]) [(iv 0), (.slice none 0 0), (.slice none 0 0)] (wn rfl) rfl rfl rfl rfl sz_25 rfl rfl rfl ?_
   refine Tr.asg rfl rfl ?_
   refine Tr.nil (Tr.normThen ?_)
   refine Tr.ret (Tr.retThen ?_)
   obtain rfl := Option.some.inj H
   exact Tr.out (m := [(.agg #[(iv 0), (.slice none 0 0), (.slice none 0 0)]), (iv y104)]) [3] (res_cell rfl rfl ag_25 sz_25 (res_tmp rfl res_nil)) (fun W hW => ⟨w, ((none, 0), (none, 0)), leB, rfl, ⟨(Sl.nil _ _ _), (Sl.nil _ _ _)⟩, hW.pick (ks := []) (by decide) pk_nil⟩)
  ·refine Tr.skip (Tr.normThen ?_)
   refine Tr.seq ?_
   refine Tr.sr ?_
   refine Tr.va rfl (fun _ _ h1 h2 => run_fieldAddr fo_29_2 (h1.ev rfl)) ?_
   refine Tr.va rfl (fun _ _ h1 h2 => run_fieldAddr fo_27_0 (h1.ev rfl)) ?_
   refine Tr.va rfl (fun _ _ h1 h2 => run_load1 ag_3 (h1.ev rfl) (rdb h2 (vs := [(.bool p1.Flip), (iv p1.Quarters), (iv p1.At.X), (iv p1.At.Y)]) (k := 2) rfl 2) rfl) ?_
   refine Tr.va rfl (fun _ _ h1 h2 => run_fieldAddr fo_25_0 (h1.ev rfl)) ?_
   refine Tr.va rfl (fun _ _ h1 h2 => run_load1 ag_3 (h1.ev rfl) (rdb h2 (vs := [(iv p0.Unit), (.slice Ap0_0 (p0.Tools).length cp0_0), (.slice Ap0_1 (p0.Steps).length cp0_1)]) (k := 1) rfl 0) rfl) ?_
   obtain ⟨q105, hq105, H⟩ := bnd H
   refine Tr.va rfl (fun _ _ h1 h2 => run_md (h1.ev rfl) (h1.ev rfl) hq105) ?_
   refine Tr.va rfl (fun _ _ h1 h2 => run_neq (h1.ev rfl) (h1.ev rfl)) ?_
   refine Tr.mv rfl rfl ?_
   obtain ⟨g107, hg107, H⟩ := bnd H
   refine Tr.mid0 8 [(2, (.pointer (some ⟨b100, 0, none⟩))), (3, (.pointer (some ⟨b101, 0, none⟩))), (4, (.pointer (some ⟨b102, 0, none⟩))), (41, (.bool g107))] [(1, bx b100 #[(iv p0.Unit), (.slice Ap0_0 (p0.Tools).length cp0_0), (.slice Ap0_1 (p0.Steps).length cp0_1)] 25), (2, bx b101 #[(.bool p1.Flip), (iv p1.Quarters), (iv p1.At.X), (iv p1.At.Y)] 29), (3, bx b102 #[(iv 0), (.slice none 0 0), (.slice none 0 0)] 25)] ?_ ?_
   ·cases hg232 : (q105 != 0)
    ·rw [hg232] at hg107
     rw [if_neg (by decide)] at hg107
     have H := hg107
     refine Tr.val (wg rfl rfl rfl) rfl (fun _ _ h1 h2 => run_fieldAddr fo_29_2 (h1.ev rfl)) ?_
     refine Tr.val (wg rfl rfl rfl) rfl (fun _ _ h1 h2 => run_fieldAddr fo_27_1 (h1.ev rfl)) ?_
     refine Tr.val (wg rfl rfl rfl) rfl (fun _ _ h1 h2 => run_load1 ag_3 (h1.ev rfl) (rdb h2 (vs := [(.bool p1.Flip), (iv p1.Quarters), (iv p1.At.X), (iv p1.At.Y)]) (k := 2) rfl 3) rfl) ?_
     refine Tr.val (wg rfl rfl rfl) rfl (fun _ _ h1 h2 => run_fieldAddr fo_25_0 (h1.ev rfl)) ?_
     refine Tr.val (wg rfl rfl rfl) rfl (fun _ _ h1 h2 => run_load1 ag_3 (h1.ev rfl) (rdb h2 (vs := [(iv p0.Unit), (.slice Ap0_0 (p0.Tools).length cp0_0), (.slice Ap0_1 (p0.Steps).length cp0_1)]) (k := 1) rfl 0) rfl) ?_
     obtain ⟨q108, hq108, H⟩ := bnd H
     refine Tr.val (wg rfl rfl rfl) rfl (fun _ _ h1 h2 => run_md (h1.ev rfl) (h1.ev rfl) hq108) ?_
     refine Tr.val (wg rfl rfl rfl) rfl (fun _ _ h1 h2 => run_neq (h1.ev rfl) (h1.ev rfl)) ?_
     refine Tr.va rfl (fun _ _ h1 h2 => run_pickF (h1.ev rfl) (h1.ev rfl)) ?_
     obtain rfl := Option.some.inj H
     exact Tr.nil (Tr.fin0 (.cons rfl (.cons rfl (.cons rfl (.cons rfl .nil)))) (.cons rfl (.cons rfl (.cons rfl .nil))))
    ·rw [hg232] at hg107
     rw [if_pos rfl] at hg107
     have H := hg107
     obtain rfl := Option.some.inj H
     refine Tr.pass rfl rfl rfl rfl rfl (by decide) ?_
     refine Tr.pass rfl rfl rfl rfl rfl (by decide) ?_
     refine Tr.pass rfl rfl rfl rfl rfl (by decide) ?_
     refine Tr.pass rfl rfl rfl rfl rfl (by decide) ?_
     refine Tr.pass rfl rfl rfl rfl rfl (by decide) ?_
     refine Tr.pass rfl rfl rfl rfl rfl (by decide) ?_
     refine Tr.pass rfl rfl rfl rfl rfl (by decide) ?_
     refine Tr.va rfl (fun _ _ h1 h2 => run_pickT (h1.ev rfl) (h1.ev rfl)) ?_
     exact Tr.nil (Tr.fin0 (.cons rfl (.cons rfl (.cons rfl (.cons rfl .nil)))) (.cons rfl (.cons rfl (.cons rfl .nil))))
   ·show Tr _ _ (LF [(2, (.pointer (some ⟨b100, 0, none⟩))), (3, (.pointer (some ⟨b101, 0, none⟩))), (4, (.pointer (some ⟨b102, 0, none⟩))), (41, (.bool g107))]) (LE [(1, bx b100 #[(iv p0.Unit), (.slice Ap0_0 (p0.Tools).length cp0_0), (.slice Ap0_1 (p0.Steps).length cp0_1)] 25), (2, bx b101 #[(.bool p1.Flip), (iv p1.Quarters), (iv p1.At.X), (iv p1.At.Y)] 29), (3, bx b102 #[(iv 0), (.slice none 0 0), (.slice none 0 0)] 25)]) _
    refine Tr.nil (Tr.normThen ?_)
    refine Tr.cond rfl H (fun H => ?_) (fun H => ?_)
    ·refine Tr.sr ?_
     refine Tr.build (vs := []) (cs := [(iv 0), (.slice none 0 0), (.slice none 0 0)]) (wn rfl) rfl evs_nil (by kernel_rfl) ?_
     refine Tr.store 3 (cs := [(iv 0), (.slice none 0 0), (.slice none 0 0)]) [(iv 0), (.slice none 0 0), (.slice none 0 0)] (wn rfl) rfl rfl rfl rfl sz_25 rfl rfl rfl ?_
     refine Tr.asg rfl rfl ?_
     refine Tr.nil (Tr.normThen ?_)
     refine Tr.ret (Tr.retThen ?_)
     obtain rfl := Option.some.inj H
     exact Tr.out (m := [(.agg #[(iv 0), (.slice none 0 0), (.slice none 0 0)]), (iv 3)]) [3] (res_cell rfl rfl ag_25 sz_25 (res_tmp rfl res_nil)) (fun W hW => ⟨w, ((none, 0), (none, 0)), leB, rfl, ⟨(Sl.nil _ _ _), (Sl.nil _ _ _)⟩, hW.pick (ks := []) (by decide) pk_nil⟩)
    ·refine Tr.skip (Tr.normThen ?_)
     refine Tr.sr ?_
     refine Tr.va rfl (fun _ _ h1 h2 => run_loadN (cs := [(iv p0.Unit), (.slice Ap0_0 (p0.Tools).length cp0_0), (.slice Ap0_1 (p0.Steps).length cp0_1)]) ag_25 sz_25 (h1.ev rfl) (CellsAt.take (rdb h2 (vs := [(iv p0.Unit), (.slice Ap0_0 (p0.Tools).length cp0_0), (.slice Ap0_1 (p0.Steps).length cp0_1)]) (k := 1) rfl 0) 3) rfl) ?_
     obtain ⟨y109, hy109, H⟩ := bnd H
     refine Tr.callG [4, 5] [emp, emp] (U := (Option Addr × Nat) × (Option Addr × Nat × List (DE fl_TPlotStep))) (fun u => (.agg #[(iv y109.Unit), (.slice u.1.1 (y109.Tools).length u.1.2), (.slice u.2.1 (y109.Steps).length u.2.2.1)])) (fun O W u => SlF u.1.1 (y109.Tools).length u.1.2 ∧ (DC u.2.2.2 y109.Steps ∧ SlF u.2.1 (y109.Steps).length u.2.2.1)) (fun u => [ow u.1.1 u.1.2 62 fl_TPlotTool y109.Tools, dq u.2.1 (y109.Steps).length u.2.2.1 46 27 ln_TPlotStep u.2.2.2]) rfl (pk_cons rfl (pk_cons rfl pk_nil)) (fun _ => rfl) (wn rfl) rfl Tryd.call24 (evl_cons rfl evl_nil) (fun W hW hp hE => F_plot_flatPlot_ok N p0 Ap0_0 cp0_0 (hp0_0.extO (hW.extS hp)) Ap0_1 cp0_1 (hp0_1.extO (hW.extS hp)) y109 hy109 hE) ?_
     intro w u le110 hu
     obtain ⟨⟨Ay109_0, cy109_0⟩, ⟨Ay109_1, cy109_1, Dy109_1⟩⟩ := u
     obtain ⟨gy109_0, gy109_1⟩ := hu
     replace hp0_0 := hp0_0.le le110
     replace hp0_1 := hp0_1.le le110
     replace leB := leB.trans le110
     have hgy109_0 : SlF Ay109_0 (y109.Tools).length cy109_0 := gy109_0 --@phi
     have hgy109_1 : (DC Dy109_1 y109.Steps ∧ SlF Ay109_1 (y109.Steps).length cy109_1) := gy109_1 --@phi
     show Tr _ _ (uf _ 44 (.agg #[(iv y109.Unit), (.slice Ay109_0 (y109.Tools).length cy109_0), (.slice Ay109_1 (y109.Steps).length cy109_1)])) (up (up _ 5 (dq Ay109_1 (y109.Steps).length cy109_1 46 27 ln_TPlotStep Dy109_1)) 4 (ow Ay109_0 cy109_0 62 fl_TPlotTool y109.Tools)) _
     refine Tr.alloc 6 (wn rfl) rfl ze_25 fun b111 => ?_
     refine Tr.store 6 (cs := [(iv y109.Unit), (.slice Ay109_0 (y109.Tools).length cy109_0), (.slice Ay109_1 (y109.Steps).length cy109_1)]) [(iv y109.Unit), (.slice Ay109_0 (y109.Tools).length cy109_0), (.slice Ay109_1 (y109.Steps).length cy109_1)] (wn rfl) rfl rfl rfl rfl sz_25 rfl rfl rfl ?_
     refine Tr.nil (Tr.normThen ?_)
     refine Tr.sr ?_
     refine Tr.va rfl (fun _ _ h1 h2 => run_fieldAddr fo_29_0 (h1.ev rfl)) ?_
     refine Tr.va rfl (fun _ _ h1 h2 => run_load1 ag_4 (h1.ev rfl) (rdb h2 (vs := [(.bool p1.Flip), (iv p1.Quarters), (iv p1.At.X), (iv p1.At.Y)]) (k := 2) rfl 0) rfl) ?_
     refine Tr.va rfl (fun _ _ h1 h2 => run_fieldAddr fo_29_1 (h1.ev rfl)) ?_
     refine Tr.va rfl (fun _ _ h1 h2 => run_load1 ag_3 (h1.ev rfl) (rdb h2 (vs := [(.bool p1.Flip), (iv p1.Quarters), (iv p1.At.X), (iv p1.At.Y)]) (k := 2) rfl 1) rfl) ?_
     refine Tr.build (vs := [(0, (.bool p1.Flip)), (1, (iv p1.Quarters))]) (cs := [(.bool p1.Flip), (iv p1.Quarters), (iv 0), (iv 0)]) (wn rfl) rfl (evs_cons rfl (evs_cons rfl evs_nil)) (by kernel_rfl) ?_
     refine Tr.alloc 7 (wn rfl) rfl ze_29 fun b112 => ?_
     refine Tr.store 7 (cs := [(.bool p1.Flip), (iv p1.Quarters), (iv 0), (iv 0)]) [(.bool p1.Flip), (iv p1.Quarters), (iv 0), (iv 0)] (wn rfl) rfl rfl rfl rfl sz_29 rfl rfl rfl ?_
     refine Tr.nil (Tr.normThen ?_)
     refine Tr.sr ?_
     refine Tr.va rfl (fun _ _ h1 h2 => run_fieldAddr fo_25_1 (h1.ev rfl)) ?_
     refine Tr.va rfl (fun _ _ h1 h2 => run_load1 ag_22 (h1.ev rfl) (rdb h2 (vs := [(iv y109.Unit), (.slice Ay109_0 (y109.Tools).length cy109_0), (.slice Ay109_1 (y109.Steps).length cy109_1)]) (k := 6) rfl 1) rfl) ?_
     refine Tr.mkFunc (vs := [(.pointer (some ⟨b112, 0, none⟩))]) (wn rfl) rfl (evl_cons rfl evl_nil) ?_
     refine Tr.freeze 4 rfl fun w le114 hz113 => ?_
     replace hp0_0 := hp0_0.le le114
     replace hp0_1 := hp0_1.le le114
     replace leB := leB.trans le114
     obtain ⟨y115, hy115, H⟩ := bnd H
     refine Tr.callG [8] [emp] (U := (Option Addr × Nat)) (fun u => (.slice u.1 (y115).length u.2)) (fun O W u => SlF u.1 (y115).length u.2) (fun u => [ow u.1 u.2 62 fl_TPlotTool y115]) rfl (pk_cons rfl pk_nil) (fun _ => rfl) (wn rfl) rfl Tryd.call16 (evl_cons rfl (evl_cons rfl evl_nil)) (fun W hW hp hE => F_plot_ownTools_ok N y109.Tools Ay109_0 cy109_0 (hz113.extO (hW.extS hp)) (fun z0 => F_plot_TurnedPlot_1 N z0 (TTurn.mk p1.Flip p1.Quarters (TPoint.mk 0 0))) 25 [(.pointer (some ⟨b112, 0, none⟩))] Tryd.call25 (fun w' he z0 y hy => F_plot_TurnedPlot_1_ok N z0 (TTurn.mk p1.Flip p1.Quarters (TPoint.mk 0 0)) b112 (he.r _ (hW.boxS (k := 7) rfl hp rfl)) (he.cells (hW.boxS (k := 7) rfl hp rfl) (hW.boxC (k := 7) rfl)) y hy (HF.start _)) y115 hy115 hE) ?_
     intro w u le116 hu
     obtain ⟨Ay115_0, cy115_0⟩ := u
     have gy115_0 := hu
     replace hp0_0 := hp0_0.le le116
     replace hp0_1 := hp0_1.le le116
     replace hz113 := hz113.le le116
     replace leB := leB.trans le116
     have hgy115_0 : SlF Ay115_0 (y115).length cy115_0 := gy115_0 --@phi
     show Tr _ _ (uf _ 53 (.slice Ay115_0 (y115).length cy115_0)) (up _ 8 (ow Ay115_0 cy115_0 62 fl_TPlotTool y115)) _
     refine Tr.va rfl (fun _ _ h1 h2 => run_fieldAddr fo_25_1 (h1.ev rfl)) ?_
     refine Tr.store 6 (cs := [(.slice Ay115_0 (y115).length cy115_0)]) [(iv y109.Unit), (.slice Ay115_0 (y115).length cy115_0), (.slice Ay109_1 (y109.Steps).length cy109_1)] (wn rfl) rfl rfl rfl rfl sz_22 rfl rfl rfl ?_
     refine Tr.nil (Tr.normThen ?_)
     refine Tr.seq ?_
     refine Tr.drawTail 12 (by kernel_rfl) (by kernel_rfl) ?_
     refine Tq.va rfl (fun _ _ h1 h2 => run_fieldAddr fo_29_2 (h1.ev rfl)) ?_
     refine Tq.va rfl (fun _ _ h1 h2 => run_fieldAddr fo_27_0 (h1.ev rfl)) ?_
     refine Tq.va rfl (fun _ _ h1 h2 => run_load1 ag_3 (h1.ev rfl) (rdb h2 (vs := [(.bool p1.Flip), (iv p1.Quarters), (iv p1.At.X), (iv p1.At.Y)]) (k := 2) rfl 2) rfl) ?_
     refine Tq.va rfl (fun _ _ h1 h2 => run_fieldAddr fo_25_0 (h1.ev rfl)) ?_
     refine Tq.va rfl (fun _ _ h1 h2 => run_load1 ag_3 (h1.ev rfl) (rdb h2 (vs := [(iv p0.Unit), (.slice Ap0_0 (p0.Tools).length cp0_0), (.slice Ap0_1 (p0.Steps).length cp0_1)]) (k := 1) rfl 0) rfl) ?_
     obtain ⟨q117, hq117, H⟩ := bnd H
     refine Tq.va rfl (fun _ _ h1 h2 => run_dv (h1.ev rfl) (h1.ev rfl) hq117) ?_
     refine Tq.va rfl (fun _ _ h1 h2 => run_fieldAddr fo_29_2 (h1.ev rfl)) ?_
     refine Tq.va rfl (fun _ _ h1 h2 => run_fieldAddr fo_27_1 (h1.ev rfl)) ?_
     refine Tq.va rfl (fun _ _ h1 h2 => run_load1 ag_3 (h1.ev rfl) (rdb h2 (vs := [(.bool p1.Flip), (iv p1.Quarters), (iv p1.At.X), (iv p1.At.Y)]) (k := 2) rfl 3) rfl) ?_
     refine Tq.va rfl (fun _ _ h1 h2 => run_fieldAddr fo_25_0 (h1.ev rfl)) ?_
     refine Tq.va rfl (fun _ _ h1 h2 => run_load1 ag_3 (h1.ev rfl) (rdb h2 (vs := [(iv p0.Unit), (.slice Ap0_0 (p0.Tools).length cp0_0), (.slice Ap0_1 (p0.Steps).length cp0_1)]) (k := 1) rfl 0) rfl) ?_
     obtain ⟨q118, hq118, H⟩ := bnd H
     refine Tq.va rfl (fun _ _ h1 h2 => run_dv (h1.ev rfl) (h1.ev rfl) hq118) ?_
     refine Tq.nil ?_
     refine Tr.build (vs := [(0, (iv q117)), (1, (iv q118))]) (cs := [(iv q117), (iv q118)]) (wn rfl) rfl (evs_cons rfl (evs_cons rfl evs_nil)) (by kernel_rfl) ?_
     refine Tr.va rfl (fun _ _ h1 h2 => run_fieldAddr fo_29_2 (h1.ev rfl)) ?_
     refine Tr.store 2 (cs := [(iv q117), (iv q118)]) [(.bool p1.Flip), (iv p1.Quarters), (iv q117), (iv q118)] (wn rfl) rfl rfl rfl rfl sz_27 rfl rfl rfl ?_
     refine Tr.nil (Tr.normThen ?_)
     refine Tr.seq ?_
     refine Tr.sr ?_
     refine Tr.va rfl (fun _ _ h1 h2 => run_fieldAddr fo_25_2 (h1.ev rfl)) ?_
     refine Tr.va rfl (fun _ _ h1 h2 => run_load1 ag_23 (h1.ev rfl) (rdb h2 (vs := [(iv y109.Unit), (.slice Ay115_0 (y115).length cy115_0), (.slice Ay109_1 (y109.Steps).length cy109_1)]) (k := 6) rfl 2) rfl) ?_
     refine Tr.va rfl (fun _ _ h1 h2 => run_len un_23 (h1.ev rfl)) ?_
     refine Tr.mv rfl rfl ?_
     refine Tr.nil (Tr.normThen ?_)
     refine Tr.block ?_
     refine Tr.loop (σ := (List TPlotStep) × Nat × (List TPlotStep) × (Option Addr) × Nat × (List (DE fl_TPlotStep))) (fun m w s => m = s.1.length + 1 ∧ s.1 = List.drop s.2.1 y109.Steps ∧ s.2.1 ≤ y109.Steps.length ∧ F_plot_TurnedPlot_L5 N p1 y109 y115 q117 q118 s.1 s.2.1 s.2.2.1 = some r ∧ (DC s.2.2.2.2.2 s.2.2.1 ∧ SlF s.2.2.2.1 (s.2.2.1).length s.2.2.2.2.1)) (fun s => [(3, (.pointer (some ⟨b101, 0, none⟩))), (4, (.pointer (some ⟨b102, 0, none⟩))), (8, (.pointer (some ⟨b111, 0, none⟩))), (71, (iv (y109.Steps.length : Int))), (72, (iv (s.2.1 : Int)))]) (fun s => [(2, bx b101 #[(.bool p1.Flip), (iv p1.Quarters), (iv q117), (iv q118)] 29), (3, bx b102 #[(iv 0), (.slice none 0 0), (.slice none 0 0)] 25), (5, dq s.2.2.2.1 (s.2.2.1).length s.2.2.2.2.1 46 27 ln_TPlotStep s.2.2.2.2.2), (6, bx b111 #[(iv y109.Unit), (.slice Ay115_0 (y115).length cy115_0), (.slice s.2.2.2.1 (s.2.2.1).length s.2.2.2.2.1)] 25), (8, ow Ay115_0 cy115_0 62 fl_TPlotTool y115)]) (y109.Steps.length + 1) (y109.Steps, 0, y109.Steps, Ay109_1, cy109_1, Dy109_1) ⟨rfl, rfl, Nat.zero_le _, H, ⟨hgy109_1.1, hgy109_1.2⟩⟩ (.cons rfl (.cons rfl (.cons rfl (.cons rfl (.cons rfl .nil))))) (.cons rfl (.cons rfl (.cons rfl (.cons rfl (.cons rfl .nil))))) (fun _ _ h => absurd h.1 (by simp)) ?_
     intro w leL5 m s hs
     obtain ⟨restL5, iL5, m193, Am193, cm193, msm193⟩ := s
     obtain ⟨hmL5, hdL5, hiL5, H, hm193⟩ := hs
     replace hdL5 : restL5 = List.drop iL5 y109.Steps := hdL5
     replace H : F_plot_TurnedPlot_L5 N p1 y109 y115 q117 q118 restL5 iL5 m193 = some r := H
     replace hmL5 : m + 1 = restL5.length + 1 := hmL5
     replace leB := leB.trans leL5
     replace hm193 : DC msm193 m193 ∧ SlF Am193 (m193).length cm193 := hm193
     obtain rfl : m = restL5.length := by omega
     clear hmL5
     show Tr _ _ (LF [(3, (.pointer (some ⟨b101, 0, none⟩))), (4, (.pointer (some ⟨b102, 0, none⟩))), (8, (.pointer (some ⟨b111, 0, none⟩))), (71, (iv (y109.Steps.length : Int))), (72, (iv (iL5 : Int)))]) (LE [(2, bx b101 #[(.bool p1.Flip), (iv p1.Quarters), (iv q117), (iv q118)] 29), (3, bx b102 #[(iv 0), (.slice none 0 0), (.slice none 0 0)] 25), (5, dq Am193 (m193).length cm193 46 27 ln_TPlotStep msm193), (6, bx b111 #[(iv y109.Unit), (.slice Ay115_0 (y115).length cy115_0), (.slice Am193 (m193).length cm193)] 25), (8, ow Ay115_0 cy115_0 62 fl_TPlotTool y115)]) _
     cases restL5 with
     | nil =>
      rw [F_plot_TurnedPlot_L5.eq_1] at H
      refine Tr.sr ?_
      refine Tr.va rfl (fun _ _ h1 h2 => run_lss (h1.ev rfl) (h1.ev rfl)) ?_
      refine Tr.nil (Tr.normThen ?_)
      refine Tr.seq ?_
      refine Tr.condF rfl (range_nil hdL5) ?_
      refine Tr.exit (Tr.exitThen (Tr.exitThen (Tr.exitBlock (Tr.normThen ?_))))
      refine Tr.sr ?_
      refine Tr.va rfl (fun _ _ h1 h2 => run_loadN (cs := [(iv y109.Unit), (.slice Ay115_0 (y115).length cy115_0), (.slice Am193 (m193).length cm193)]) ag_25 sz_25 (h1.ev rfl) (CellsAt.take (rdb h2 (vs := [(iv y109.Unit), (.slice Ay115_0 (y115).length cy115_0), (.slice Am193 (m193).length cm193)]) (k := 6) rfl 0) 3) rfl) ?_
      refine Tr.freeze 8 rfl fun w le195 hz194 => ?_
      replace leB := leB.trans le195
      replace leL5 := leL5.trans le195
      refine Tr.dqFreeze 5 rfl hm193.1 fun w le197 hz196 => ?_
      replace hz194 := hz194.le le197
      replace leB := leB.trans le197
      replace leL5 := leL5.trans le197
      obtain ⟨y198, hy198, H⟩ := bnd H
      refine Tr.callG [] [] (U := (Option Addr × Nat) × (Option Addr × Nat)) (fun u => (.tuple #[(.agg #[(iv y198.1.Unit), (.slice u.1.1 (y198.1.Tools).length u.1.2), (.slice u.2.1 (y198.1.Steps).length u.2.2)]), (iv y198.2)])) (fun O W u => Sl O W fl_TPlotTool u.1.1 u.1.2 y198.1.Tools ∧ Sl O W fl_TPlotStep u.2.1 u.2.2 y198.1.Steps) (fun u => []) rfl pk_nil (fun _ => rfl) (wn rfl) rfl Tryd.call15 (evl_cons rfl evl_nil) (fun W hW hp hE => F_plot_told_ok N (TPlot.mk y109.Unit y115 m193) Ay115_0 cy115_0 (hz194.extO (hW.extS hp)) Am193 cm193 (hz196.extO (hW.extS hp)) y198 hy198 hE) ?_
      intro w u le199 hu
      obtain ⟨⟨Ay198_0, cy198_0⟩, ⟨Ay198_1, cy198_1⟩⟩ := u
      obtain ⟨gy198_0, gy198_1⟩ := hu
      replace hz194 := hz194.le le199
      replace hz196 := hz196.le le199
      replace leB := leB.trans le199
      replace leL5 := leL5.trans le199
      have hgy198_0 : Sl w.O w.W fl_TPlotTool Ay198_0 cy198_0 y198.1.Tools := gy198_0 --@phi
      have hgy198_1 : Sl w.O w.W fl_TPlotStep Ay198_1 cy198_1 y198.1.Steps := gy198_1 --@phi
      show Tr _ _ (uf _ 116 (.tuple #[(.agg #[(iv y198.1.Unit), (.slice Ay198_0 (y198.1.Tools).length cy198_0), (.slice Ay198_1 (y198.1.Steps).length cy198_1)]), (iv y198.2)])) (_) _
      refine Tr.va rfl (fun _ _ h1 h2 => run_extract (h1.ev rfl) rfl) ?_
      refine Tr.va rfl (fun _ _ h1 h2 => run_extract (h1.ev rfl) rfl) ?_
      refine Tr.store 3 (cs := [(iv y198.1.Unit), (.slice Ay198_0 (y198.1.Tools).length cy198_0), (.slice Ay198_1 (y198.1.Steps).length cy198_1)]) [(iv y198.1.Unit), (.slice Ay198_0 (y198.1.Tools).length cy198_0), (.slice Ay198_1 (y198.1.Steps).length cy198_1)] (wn rfl) rfl rfl rfl rfl sz_25 rfl rfl rfl ?_
      refine Tr.asg rfl rfl ?_
      refine Tr.nil (Tr.normThen ?_)
      refine Tr.ret ?_
      obtain rfl := Option.some.inj H
      exact Tr.out (m := [(.agg #[(iv y198.1.Unit), (.slice Ay198_0 (y198.1.Tools).length cy198_0), (.slice Ay198_1 (y198.1.Steps).length cy198_1)]), (iv y198.2)]) [3] (res_cell rfl rfl ag_25 sz_25 (res_tmp rfl res_nil)) (fun W hW => ⟨w, ((Ay198_0, cy198_0), (Ay198_1, cy198_1)), leB, rfl, ⟨hgy198_0, hgy198_1⟩, hW.pick (ks := []) (by decide) pk_nil⟩)
     | cons xL5 restL5 =>
      rw [F_plot_TurnedPlot_L5.eq_2] at H
      refine Tr.sr ?_
      refine Tr.va rfl (fun _ _ h1 h2 => run_lss (h1.ev rfl) (h1.ev rfl)) ?_
      refine Tr.nil (Tr.normThen ?_)
      refine Tr.seq ?_
      refine Tr.condT rfl (range_on hdL5) ?_
      refine Tr.skip (Tr.normThen ?_)
      refine Tr.seq ?_
      refine Tr.block ?_
      refine Tr.sr ?_
      refine Tr.mv rfl rfl ?_
      refine Tr.asg rfl rfl ?_
      refine Tr.nil (Tr.normThen ?_)
      refine Tr.sr ?_
      refine Tr.va rfl (fun _ _ h1 h2 => run_fieldAddr fo_25_2 (h1.ev rfl)) ?_
      refine Tr.va rfl (fun _ _ h1 h2 => run_load1 ag_23 (h1.ev rfl) (rdb h2 (vs := [(iv y109.Unit), (.slice Ay115_0 (y115).length cy115_0), (.slice Am193 (m193).length cm193)]) (k := 6) rfl 2) rfl) ?_
      refine Tr.mv rfl rfl ?_
      obtain ⟨x200, hx200, H⟩ := bnd H
      obtain ⟨hx2000, hx2001, hx2002⟩ := idx_some hx200
      refine Tr.dqTake 5 19 20 (i := ((iL5 : Int)).toNat) rfl rfl rfl hx2002 rfl hm193.1 fun u201 hoku201 hfu201 hdu201 => ?_
      obtain ⟨⟨Au201_0, cu201_0⟩, ⟨Au201_1, cu201_1⟩⟩ := u201
      have hoku201_1 : Sl w.O w.W fl_TPlotStep Au201_1 cu201_1 x200.Steps := hoku201
      replace hfu201 : SlF Au201_0 (x200.Points).length cu201_0 := hfu201
      replace hdu201 : DT msm193 m193 ((iL5 : Int)).toNat ((Au201_0, cu201_0), (Au201_1, cu201_1)) x200 := hdu201
      show Tr _ _ _ (up (up (up _ 5 (ow Am193 cm193 46 (mix (flU ln_TPlotStep)) (mixL msm193 ((iL5 : Int)).toNat (raw (flU ln_TPlotStep) [(iv x200.Kind), (sv x200.Name), (iv x200.At.X), (iv x200.At.Y), (.slice Au201_0 (x200.Points).length cu201_0), (iv x200.NX), (iv x200.NY), (.slice Au201_1 (x200.Steps).length cu201_1)] rfl rfl)))) 19 (ins 27 fl_TPoint ((List.set msm193 ((iL5 : Int)).toNat ⟨((Au201_0, cu201_0), (Au201_1, cu201_1)), x200, false⟩).map (ne ln_TPlotStep)))) 20 (ow Au201_0 cu201_0 27 fl_TPoint x200.Points)) _
      refine Tr.va rfl (fun _ _ h1 h2 => run_indexAddr el_23 (h1.ev rfl) hm193.2 (h1.ev rfl) hx2000 hx2001) ?_
      refine Tr.asg rfl rfl ?_
      refine Tr.nil (Tr.normThen ?_)
      have leJ206 := Bs.Le.refl w
      refine Tr.cutJ (σ := Int × Int) (fun w s => F_plot_TurnedPlot_J7 N p1 q117 q118 m193 (F_plot_TurnedPlot_L5 N p1 y109 y115 q117 q118 restL5 (iL5 + 1)) iL5 x200 s.1 s.2 = some r) (fun s => [(3, (.pointer (some ⟨b101, 0, none⟩))), (4, (.pointer (some ⟨b102, 0, none⟩))), (8, (.pointer (some ⟨b111, 0, none⟩))), (11, (.pointer (some ⟨adB Am193, adO Am193 + ((iL5 : Int)).toNat * 8, none⟩))), (71, (iv (y109.Steps.length : Int))), (72, (iv (iL5 : Int)))]) (fun s => [(2, bx b101 #[(.bool p1.Flip), (iv p1.Quarters), (iv q117), (iv q118)] 29), (3, bx b102 #[(iv 0), (.slice none 0 0), (.slice none 0 0)] 25), (5, ow Am193 cm193 46 (mix (flU ln_TPlotStep)) (mixL msm193 ((iL5 : Int)).toNat (raw (flU ln_TPlotStep) [(iv x200.Kind), (sv x200.Name), (iv s.1), (iv s.2), (.slice Au201_0 (x200.Points).length cu201_0), (iv x200.NX), (iv x200.NY), (.slice Au201_1 (x200.Steps).length cu201_1)] rfl rfl))), (6, bx b111 #[(iv y109.Unit), (.slice Ay115_0 (y115).length cy115_0), (.slice Am193 (m193).length cm193)] 25), (8, ow Ay115_0 cy115_0 62 fl_TPlotTool y115), (19, ins 27 fl_TPoint ((List.set msm193 ((iL5 : Int)).toNat ⟨((Au201_0, cu201_0), (Au201_1, cu201_1)), x200, false⟩).map (ne ln_TPlotStep))), (20, ow Au201_0 cu201_0 27 fl_TPoint x200.Points)]) ?_ ?_
      ·refine Tr.sr ?_
       refine Tr.mv rfl rfl ?_
       refine Tr.va rfl (fun _ _ h1 h2 => run_nilCheck (h1.ev rfl)) ?_
       refine Tr.va rfl (fun _ _ h1 h2 => run_fieldAddr fo_46_0 (h1.ev rfl)) ?_
       refine Tr.va rfl (fun _ _ h1 h2 => run_load1 ag_3 (h1.ev rfl) (rdm (cs := raw (flU ln_TPlotStep) [(iv x200.Kind), (sv x200.Name), (iv x200.At.X), (iv x200.At.Y), (.slice Au201_0 (x200.Points).length cu201_0), (iv x200.NX), (iv x200.NY), (.slice Au201_1 (x200.Steps).length cu201_1)] rfl rfl) h2 (κ := 5) rfl (hdu201.hi)) rfl) ?_
       obtain ⟨y231, hy231, H⟩ := bnd H
       refine Tr.call0 (r := (.agg #[(.bool y231.name), (.bool y231.at_), (.bool y231.points), (.bool y231.repeat_)])) (wn rfl) rfl Tryd.call14 (evl_cons rfl evl_nil) (fun W hW => F_plot_fieldsOf_ok x200.Kind y231 hy231 (HF.start _)) ?_
       refine Tr.va rfl (fun _ _ h1 h2 => run_field1 fa_42_1 ag_4 (h1.ev rfl) rfl) ?_
       refine Tr.nil (Tr.normThen ?_)
       refine Tr.cond rfl H (fun H => ?_) (fun H => ?_)
       ·refine Tr.drawTail 7 (by kernel_rfl) (by kernel_rfl) ?_
        refine Tq.mv rfl rfl ?_
        refine Tq.mv rfl rfl ?_
        refine Tq.va rfl (fun _ _ h1 h2 => run_nilCheck (h1.ev rfl)) ?_
        refine Tq.va rfl (fun _ _ h1 h2 => run_fieldAddr fo_46_2 (h1.ev rfl)) ?_
        refine Tq.va rfl (fun _ _ h1 h2 => run_loadN (cs := [(iv x200.At.X), (iv x200.At.Y)]) ag_27 sz_27 (h1.ev rfl) (CellsAt.take (CellsAt.drop (rdm (cs := raw (flU ln_TPlotStep) [(iv x200.Kind), (sv x200.Name), (iv x200.At.X), (iv x200.At.Y), (.slice Au201_0 (x200.Points).length cu201_0), (iv x200.NX), (iv x200.NY), (.slice Au201_1 (x200.Steps).length cu201_1)] rfl rfl) h2 (κ := 5) rfl (hdu201.hi)) 2) 2) rfl) ?_
        refine Tq.va rfl (fun _ _ h1 h2 => run_loadN (cs := [(.bool p1.Flip), (iv p1.Quarters), (iv q117), (iv q118)]) ag_29 sz_29 (h1.ev rfl) (CellsAt.take (rdb h2 (vs := [(.bool p1.Flip), (iv p1.Quarters), (iv q117), (iv q118)]) (k := 2) rfl 0) 4) rfl) ?_
        obtain ⟨y232, hy232, H⟩ := bnd H
        refine Tq.call0 (r := (.agg #[(iv y232.X), (iv y232.Y)])) (wn rfl) rfl Tryd.call27 (evl_cons rfl (evl_cons rfl evl_nil)) (fun W hW => F_shape_TurnPoint_ok N x200.At (TTurn.mk p1.Flip p1.Quarters (TPoint.mk q117 q118)) y232 hy232 (HF.start _)) ?_
        refine Tq.nil ?_
        refine Tr.va rfl (fun _ _ h1 h2 => run_nilCheck (h1.ev rfl)) ?_
        refine Tr.va rfl (fun _ _ h1 h2 => run_fieldAddr fo_46_2 (h1.ev rfl)) ?_
        refine Tr.storeMix 5 (raw (flU ln_TPlotStep) [(iv x200.Kind), (sv x200.Name), (iv y232.X), (iv y232.Y), (.slice Au201_0 (x200.Points).length cu201_0), (iv x200.NX), (iv x200.NY), (.slice Au201_1 (x200.Steps).length cu201_1)] rfl rfl) (cs := [(iv y232.X), (iv y232.Y)]) (fo := 2) (wn rfl) rfl rfl rfl rfl rfl (hdu201.hi) sz_27 rfl rfl rfl ?_
        refine Tr.nil ?_
        exact Tr.backThen leJ206 (y232.X, y232.Y) H (.cons rfl (.cons rfl (.cons rfl (.cons rfl (.cons rfl (.cons rfl .nil)))))) (.cons rfl (.cons rfl (.cons rfl (.cons rfl (.cons rfl (.cons rfl (.cons rfl .nil)))))))
       ·refine Tr.skip ?_
        exact Tr.backThen leJ206 (x200.At.X, x200.At.Y) H (.cons rfl (.cons rfl (.cons rfl (.cons rfl (.cons rfl (.cons rfl .nil)))))) (.cons rfl (.cons rfl (.cons rfl (.cons rfl (.cons rfl (.cons rfl (.cons rfl .nil)))))))
      ·intro w s hlJ207 hs
       obtain ⟨x204, x205⟩ := s
       have H := hs
       replace H : F_plot_TurnedPlot_J7 N p1 q117 q118 m193 (F_plot_TurnedPlot_L5 N p1 y109 y115 q117 q118 restL5 (iL5 + 1)) iL5 x200 x204 x205 = some r := H
       replace hoku201_1 := hoku201_1.le hlJ207
       replace leB := leB.trans hlJ207
       replace leL5 := leL5.trans hlJ207
       unfold F_plot_TurnedPlot_J7 at H
       show Tr _ _ (LF [(3, (.pointer (some ⟨b101, 0, none⟩))), (4, (.pointer (some ⟨b102, 0, none⟩))), (8, (.pointer (some ⟨b111, 0, none⟩))), (11, (.pointer (some ⟨adB Am193, adO Am193 + ((iL5 : Int)).toNat * 8, none⟩))), (71, (iv (y109.Steps.length : Int))), (72, (iv (iL5 : Int)))]) (LE [(2, bx b101 #[(.bool p1.Flip), (iv p1.Quarters), (iv q117), (iv q118)] 29), (3, bx b102 #[(iv 0), (.slice none 0 0), (.slice none 0 0)] 25), (5, ow Am193 cm193 46 (mix (flU ln_TPlotStep)) (mixL msm193 ((iL5 : Int)).toNat (raw (flU ln_TPlotStep) [(iv x200.Kind), (sv x200.Name), (iv x204), (iv x205), (.slice Au201_0 (x200.Points).length cu201_0), (iv x200.NX), (iv x200.NY), (.slice Au201_1 (x200.Steps).length cu201_1)] rfl rfl))), (6, bx b111 #[(iv y109.Unit), (.slice Ay115_0 (y115).length cy115_0), (.slice Am193 (m193).length cm193)] 25), (8, ow Ay115_0 cy115_0 62 fl_TPlotTool y115), (19, ins 27 fl_TPoint ((List.set msm193 ((iL5 : Int)).toNat ⟨((Au201_0, cu201_0), (Au201_1, cu201_1)), x200, false⟩).map (ne ln_TPlotStep))), (20, ow Au201_0 cu201_0 27 fl_TPoint x200.Points)]) _
       refine Tr.sr ?_
       refine Tr.mv rfl rfl ?_
       refine Tr.va rfl (fun _ _ h1 h2 => run_nilCheck (h1.ev rfl)) ?_
       refine Tr.va rfl (fun _ _ h1 h2 => run_fieldAddr fo_46_3 (h1.ev rfl)) ?_
       refine Tr.va rfl (fun _ _ h1 h2 => run_load1 ag_44 (h1.ev rfl) (CellsAt.drop (rdm (cs := raw (flU ln_TPlotStep) [(iv x200.Kind), (sv x200.Name), (iv x204), (iv x205), (.slice Au201_0 (x200.Points).length cu201_0), (iv x200.NX), (iv x200.NY), (.slice Au201_1 (x200.Steps).length cu201_1)] rfl rfl) h2 (κ := 5) rfl (hdu201.hi)) 4) rfl) ?_
       refine Tr.va rfl (fun _ _ h1 h2 => run_len un_44 (h1.ev rfl)) ?_
       refine Tr.mv rfl rfl ?_
       refine Tr.nil (Tr.normThen ?_)
       refine Tr.block ?_
       refine Tr.loop (σ := (List TPoint) × Nat × (List TPoint)) (fun m w s => m = s.1.length + 1 ∧ s.1 = List.drop s.2.1 x200.Points ∧ s.2.1 ≤ x200.Points.length ∧ F_plot_TurnedPlot_L6 N p1 q117 q118 m193 (F_plot_TurnedPlot_L5 N p1 y109 y115 q117 q118 restL5 (iL5 + 1)) iL5 x200 x204 x205 s.1 s.2.1 s.2.2 = some r ∧ (s.2.2).length = (x200.Points).length) (fun s => [(3, (.pointer (some ⟨b101, 0, none⟩))), (4, (.pointer (some ⟨b102, 0, none⟩))), (8, (.pointer (some ⟨b111, 0, none⟩))), (11, (.pointer (some ⟨adB Am193, adO Am193 + ((iL5 : Int)).toNat * 8, none⟩))), (71, (iv (y109.Steps.length : Int))), (72, (iv (iL5 : Int))), (97, (.slice Au201_0 (s.2.2).length cu201_0)), (98, (iv (x200.Points.length : Int))), (99, (iv (s.2.1 : Int)))]) (fun s => [(2, bx b101 #[(.bool p1.Flip), (iv p1.Quarters), (iv q117), (iv q118)] 29), (3, bx b102 #[(iv 0), (.slice none 0 0), (.slice none 0 0)] 25), (5, ow Am193 cm193 46 (mix (flU ln_TPlotStep)) (mixL msm193 ((iL5 : Int)).toNat (raw (flU ln_TPlotStep) [(iv x200.Kind), (sv x200.Name), (iv x204), (iv x205), (.slice Au201_0 (s.2.2).length cu201_0), (iv x200.NX), (iv x200.NY), (.slice Au201_1 (x200.Steps).length cu201_1)] rfl rfl))), (6, bx b111 #[(iv y109.Unit), (.slice Ay115_0 (y115).length cy115_0), (.slice Am193 (m193).length cm193)] 25), (8, ow Ay115_0 cy115_0 62 fl_TPlotTool y115), (19, ins 27 fl_TPoint ((List.set msm193 ((iL5 : Int)).toNat ⟨((Au201_0, cu201_0), (Au201_1, cu201_1)), x200, false⟩).map (ne ln_TPlotStep))), (20, ow Au201_0 cu201_0 27 fl_TPoint s.2.2)]) (x200.Points.length + 1) (x200.Points, 0, x200.Points) ⟨rfl, rfl, Nat.zero_le _, H, rfl⟩ (.cons rfl (.cons rfl (.cons rfl (.cons rfl (.cons rfl (.cons rfl (.cons rfl (.cons rfl (.cons rfl .nil))))))))) (.cons rfl (.cons rfl (.cons rfl (.cons rfl (.cons rfl (.cons rfl (.cons rfl .nil))))))) (fun _ _ h => absurd h.1 (by simp)) ?_
       intro w leL6 m s hs
       obtain ⟨restL6, iL6, l224⟩ := s
       obtain ⟨hmL6, hdL6, hiL6, H, hl224⟩ := hs
       replace hdL6 : restL6 = List.drop iL6 x200.Points := hdL6
       replace H : F_plot_TurnedPlot_L6 N p1 q117 q118 m193 (F_plot_TurnedPlot_L5 N p1 y109 y115 q117 q118 restL5 (iL5 + 1)) iL5 x200 x204 x205 restL6 iL6 l224 = some r := H
       replace hmL6 : m + 1 = restL6.length + 1 := hmL6
       replace hoku201_1 := hoku201_1.le leL6
       replace leB := leB.trans leL6
       replace leL5 := leL5.trans leL6
       replace hl224 : (l224).length = (x200.Points).length := hl224
       have hfl224 : SlF Au201_0 (l224).length cu201_0 := (by rw [hl224]; exact hfu201)
       obtain rfl : m = restL6.length := by omega
       clear hmL6
       show Tr _ _ (LF [(3, (.pointer (some ⟨b101, 0, none⟩))), (4, (.pointer (some ⟨b102, 0, none⟩))), (8, (.pointer (some ⟨b111, 0, none⟩))), (11, (.pointer (some ⟨adB Am193, adO Am193 + ((iL5 : Int)).toNat * 8, none⟩))), (71, (iv (y109.Steps.length : Int))), (72, (iv (iL5 : Int))), (97, (.slice Au201_0 (l224).length cu201_0)), (98, (iv (x200.Points.length : Int))), (99, (iv (iL6 : Int)))]) (LE [(2, bx b101 #[(.bool p1.Flip), (iv p1.Quarters), (iv q117), (iv q118)] 29), (3, bx b102 #[(iv 0), (.slice none 0 0), (.slice none 0 0)] 25), (5, ow Am193 cm193 46 (mix (flU ln_TPlotStep)) (mixL msm193 ((iL5 : Int)).toNat (raw (flU ln_TPlotStep) [(iv x200.Kind), (sv x200.Name), (iv x204), (iv x205), (.slice Au201_0 (l224).length cu201_0), (iv x200.NX), (iv x200.NY), (.slice Au201_1 (x200.Steps).length cu201_1)] rfl rfl))), (6, bx b111 #[(iv y109.Unit), (.slice Ay115_0 (y115).length cy115_0), (.slice Am193 (m193).length cm193)] 25), (8, ow Ay115_0 cy115_0 62 fl_TPlotTool y115), (19, ins 27 fl_TPoint ((List.set msm193 ((iL5 : Int)).toNat ⟨((Au201_0, cu201_0), (Au201_1, cu201_1)), x200, false⟩).map (ne ln_TPlotStep))), (20, ow Au201_0 cu201_0 27 fl_TPoint l224)]) _
       cases restL6 with
       | nil =>
        rw [F_plot_TurnedPlot_L6.eq_1] at H
        refine Tr.sr ?_
        refine Tr.va rfl (fun _ _ h1 h2 => run_lss (h1.ev rfl) (h1.ev rfl)) ?_
        refine Tr.nil (Tr.normThen ?_)
        refine Tr.seq ?_
        refine Tr.condF rfl (range_nil hdL6) ?_
        refine Tr.exit (Tr.exitThen (Tr.exitThen (Tr.exitBlock (Tr.normBlock (Tr.normThen ?_)))))
        refine Tr.region ?_
        refine Tr.va rfl (fun _ _ h1 h2 => run_add (h1.ev rfl) (h1.ev rfl)) ?_
        refine Tr.mv rfl rfl ?_
        refine Tr.nil ?_
        refine Tr.dqPut (L := ln_TPlotStep) 5 19 20 (u := ((Au201_0, cu201_0), (Au201_1, cu201_1))) (x' := (TPlotStep.mk x200.Kind x200.Name (TPoint.mk x204 x205) l224 x200.NX x200.NY x200.Steps)) rfl rfl rfl rfl rfl rfl hdu201 hoku201_1 rfl rfl rfl hfl224 fun ms225 hmms225 => ?_
        have hnms225 : (List.set m193 ((iL5 : Int)).toNat (TPlotStep.mk x200.Kind x200.Name (TPoint.mk x204 x205) l224 x200.NX x200.NY x200.Steps)).length = (m193).length := List.length_set
        have hfms225 : SlF Am193 (List.set m193 ((iL5 : Int)).toNat (TPlotStep.mk x200.Kind x200.Name (TPoint.mk x204 x205) l224 x200.NX x200.NY x200.Steps)).length cm193 := by rw [hnms225]; exact hm193.2
        refine Tr.sel (lf := [(3, (.pointer (some ⟨b101, 0, none⟩))), (4, (.pointer (some ⟨b102, 0, none⟩))), (8, (.pointer (some ⟨b111, 0, none⟩))), (71, (iv (y109.Steps.length : Int))), (72, (iv (w64 ((iL5 : Int) + 1)))), (98, (iv (x200.Points.length : Int))), (99, (iv (iL6 : Int))), (100, (.bool (decide ((iL6 : Int) < (x200.Points.length : Int))))), (114, (iv (w64 ((iL5 : Int) + 1))))]) (le := [(2, bx b101 #[(.bool p1.Flip), (iv p1.Quarters), (iv q117), (iv q118)] 29), (3, bx b102 #[(iv 0), (.slice none 0 0), (.slice none 0 0)] 25), (5, dq Am193 ((List.set m193 ((iL5 : Int)).toNat (TPlotStep.mk x200.Kind x200.Name (TPoint.mk x204 x205) l224 x200.NX x200.NY x200.Steps))).length cm193 46 27 ln_TPlotStep ms225), (6, bx b111 #[(iv y109.Unit), (.slice Ay115_0 (y115).length cy115_0), (.slice Am193 ((List.set m193 ((iL5 : Int)).toNat (TPlotStep.mk x200.Kind x200.Name (TPoint.mk x204 x205) l224 x200.NX x200.NY x200.Steps))).length cm193)] 25), (8, ow Ay115_0 cy115_0 62 fl_TPlotTool y115)]) (.cons rfl (.cons rfl (.cons rfl (.cons rfl (.cons rfl (.cons rfl (.cons rfl (.cons rfl (.cons rfl .nil))))))))) (.cons rfl (.cons rfl (.cons rfl (.cons (ebx rfl (by rw [hnms225])) (.cons rfl .nil))))) ?_
        exact Tr.backThen leL5 (restL5, (iL5 + 1), (List.set m193 ((iL5 : Int)).toNat (TPlotStep.mk x200.Kind x200.Name (TPoint.mk x204 x205) l224 x200.NX x200.NY x200.Steps)), Am193, cm193, ms225) ⟨rfl, range_tl hdL5, range_lt hdL5, H, ⟨hmms225, hfms225⟩⟩ (.cons rfl (.cons rfl (.cons rfl (.cons rfl (.cons (congrArg (fun z => some (Value.int .i64 z)) (range_up hdL5 hgy109_1.2)) .nil))))) (.cons rfl (.cons rfl (.cons rfl (.cons rfl (.cons rfl .nil)))))
       | cons xL6 restL6 =>
        rw [F_plot_TurnedPlot_L6.eq_2] at H
        refine Tr.sr ?_
        refine Tr.va rfl (fun _ _ h1 h2 => run_lss (h1.ev rfl) (h1.ev rfl)) ?_
        refine Tr.nil (Tr.normThen ?_)
        refine Tr.seq ?_
        refine Tr.condT rfl (range_on hdL6) ?_
        refine Tr.skip (Tr.normThen ?_)
        refine Tr.seq ?_
        refine Tr.block ?_
        refine Tr.sr ?_
        refine Tr.mv rfl rfl ?_
        obtain ⟨x226, hx226, H⟩ := bnd H
        obtain ⟨hx2260, hx2261, hx2262⟩ := idx_some hx226
        refine Tr.va rfl (fun _ _ h1 h2 => run_indexAddr el_44 (h1.ev rfl) hfl224 (h1.ev rfl) hx2260 hx2261) ?_
        refine Tr.va rfl (fun _ _ h1 h2 => run_loadN (cs := [(iv x226.X), (iv x226.Y)]) ag_27 sz_27 (h1.ev rfl) (CellsAt.take (rdo ef_TPoint (k := 20) h2 rfl hx2262) 2) rfl) ?_
        refine Tr.alloc 23 (wn rfl) rfl ze_27 fun b227 => ?_
        refine Tr.asg rfl rfl ?_
        refine Tr.store 23 (cs := [(iv x226.X), (iv x226.Y)]) [(iv x226.X), (iv x226.Y)] (wn rfl) rfl rfl rfl rfl sz_27 rfl rfl rfl ?_
        refine Tr.nil (Tr.normThen ?_)
        refine Tr.drawTail 8 (by kernel_rfl) (by kernel_rfl) ?_
        refine Tq.mv rfl rfl ?_
        refine Tq.va rfl (fun _ _ h1 h2 => run_nilCheck (h1.ev rfl)) ?_
        refine Tq.va rfl (fun _ _ h1 h2 => run_fieldAddr fo_46_3 (h1.ev rfl)) ?_
        refine Tq.va rfl (fun _ _ h1 h2 => run_load1 ag_44 (h1.ev rfl) (CellsAt.drop (rdm (cs := raw (flU ln_TPlotStep) [(iv x200.Kind), (sv x200.Name), (iv x204), (iv x205), (.slice Au201_0 (l224).length cu201_0), (iv x200.NX), (iv x200.NY), (.slice Au201_1 (x200.Steps).length cu201_1)] rfl rfl) h2 (κ := 5) rfl (hdu201.hi)) 4) rfl) ?_
        refine Tq.mv rfl rfl ?_
        refine Tq.va rfl (fun _ _ h1 h2 => run_loadN (cs := [(iv x226.X), (iv x226.Y)]) ag_27 sz_27 (h1.ev rfl) (CellsAt.take (rdb h2 (vs := [(iv x226.X), (iv x226.Y)]) (k := 23) rfl 0) 2) rfl) ?_
        refine Tq.va rfl (fun _ _ h1 h2 => run_loadN (cs := [(.bool p1.Flip), (iv p1.Quarters), (iv q117), (iv q118)]) ag_29 sz_29 (h1.ev rfl) (CellsAt.take (rdb h2 (vs := [(.bool p1.Flip), (iv p1.Quarters), (iv q117), (iv q118)]) (k := 2) rfl 0) 4) rfl) ?_
        obtain ⟨y228, hy228, H⟩ := bnd H
        refine Tq.call0 (r := (.agg #[(iv y228.X), (iv y228.Y)])) (wn rfl) rfl Tryd.call27 (evl_cons rfl (evl_cons rfl evl_nil)) (fun W hW => F_shape_TurnPoint_ok N x226 (TTurn.mk p1.Flip p1.Quarters (TPoint.mk q117 q118)) y228 hy228 (HF.start _)) ?_
        refine Tq.nil ?_
        obtain ⟨x229, hx229, H⟩ := bnd H
        obtain ⟨hx2290, hx2291, hx2292⟩ := idx_some hx229
        refine Tr.va rfl (fun _ _ h1 h2 => run_indexAddr el_44 (h1.ev rfl) hfl224 (h1.ev rfl) hx2290 hx2291) ?_
        obtain ⟨l230, hl230, H⟩ := bnd H
        have hnl230 := sets_len hl230
        refine Tr.storeEl 20 (t := fl_TPoint) (l := l224) (i := (iL6 : Int)) (fo := 0) (cs := [(iv y228.X), (iv y228.Y)]) y228 (wn rfl) rfl rfl rfl rfl rfl hx2292 sz_27 rfl (fun u _ => ⟨u, trivial, rfl⟩) rfl hl230 ?_
        have hfl230 : SlF Au201_0 (l230).length cu201_0 := by rw [hnl230]; exact hfl224
        have hsl230 := hnl230.trans hl224
        refine Tr.sel (lf := [(3, (.pointer (some ⟨b101, 0, none⟩))), (4, (.pointer (some ⟨b102, 0, none⟩))), (8, (.pointer (some ⟨b111, 0, none⟩))), (11, (.pointer (some ⟨adB Am193, adO Am193 + ((iL5 : Int)).toNat * 8, none⟩))), (12, (iv (iL6 : Int))), (13, (.pointer (some ⟨b227, 0, none⟩))), (71, (iv (y109.Steps.length : Int))), (72, (iv (iL5 : Int))), (97, (.slice Au201_0 (l230).length cu201_0)), (98, (iv (x200.Points.length : Int))), (99, (iv (iL6 : Int))), (100, (.bool (decide ((iL6 : Int) < (x200.Points.length : Int))))), (101, (iv (iL6 : Int))), (103, (.agg #[(iv x226.X), (iv x226.Y)])), (104, (.pointer (some ⟨adB Am193, adO Am193 + ((iL5 : Int)).toNat * 8, none⟩))), (105, (.pointer (some ⟨adB Am193, adO Am193 + ((iL5 : Int)).toNat * 8, none⟩))), (106, (.pointer (some ⟨adB Am193, adO Am193 + ((iL5 : Int)).toNat * 8 + 4, none⟩))), (107, (.slice Au201_0 (l230).length cu201_0)), (108, (iv (iL6 : Int))), (109, (.agg #[(iv x226.X), (iv x226.Y)])), (110, (.agg #[(.bool p1.Flip), (iv p1.Quarters), (iv q117), (iv q118)])), (111, (.agg #[(iv y228.X), (iv y228.Y)]))]) (le := [(2, bx b101 #[(.bool p1.Flip), (iv p1.Quarters), (iv q117), (iv q118)] 29), (3, bx b102 #[(iv 0), (.slice none 0 0), (.slice none 0 0)] 25), (5, ow Am193 cm193 46 (mix (flU ln_TPlotStep)) (mixL msm193 ((iL5 : Int)).toNat (raw (flU ln_TPlotStep) [(iv x200.Kind), (sv x200.Name), (iv x204), (iv x205), (.slice Au201_0 (l230).length cu201_0), (iv x200.NX), (iv x200.NY), (.slice Au201_1 (x200.Steps).length cu201_1)] rfl rfl))), (6, bx b111 #[(iv y109.Unit), (.slice Ay115_0 (y115).length cy115_0), (.slice Am193 (m193).length cm193)] 25), (8, ow Ay115_0 cy115_0 62 fl_TPlotTool y115), (19, ins 27 fl_TPoint ((List.set msm193 ((iL5 : Int)).toNat ⟨((Au201_0, cu201_0), (Au201_1, cu201_1)), x200, false⟩).map (ne ln_TPlotStep))), (20, ow Au201_0 cu201_0 27 fl_TPoint l230), (23, bx b227 #[(iv x226.X), (iv x226.Y)] 27)]) (.cons rfl (.cons rfl (.cons rfl (.cons rfl (.cons rfl (.cons rfl (.cons rfl (.cons rfl (.cons (slenV rfl (by rw [hnl230])) (.cons rfl (.cons rfl (.cons rfl (.cons rfl (.cons rfl (.cons rfl (.cons rfl (.cons rfl (.cons (slenV rfl (by rw [hnl230])) (.cons rfl (.cons rfl (.cons rfl (.cons rfl .nil)))))))))))))))))))))) (.cons rfl (.cons rfl (.cons (emix rfl (by rw [hnl230])) (.cons rfl (.cons rfl (.cons rfl (.cons rfl (.cons rfl .nil)))))))) ?_
        refine Tr.nil (Tr.normBlock (Tr.normThen ?_))
        refine Tr.region ?_
        refine Tr.va rfl (fun _ _ h1 h2 => run_add (h1.ev rfl) (h1.ev rfl)) ?_
        refine Tr.mv rfl rfl ?_
        refine Tr.nil ?_
        exact Tr.backThen leL6 (restL6, (iL6 + 1), l230) ⟨rfl, range_tl hdL6, range_lt hdL6, H, hsl230⟩ (.cons rfl (.cons rfl (.cons rfl (.cons rfl (.cons rfl (.cons rfl (.cons rfl (.cons rfl (.cons (congrArg (fun z => some (Value.int .i64 z)) (range_up hdL6 hfu201)) .nil))))))))) (.cons rfl (.cons rfl (.cons rfl (.cons rfl (.cons rfl (.cons rfl (.cons rfl .nil)))))))

theorem F_etchhouseref1_CheckTurn_ok {w : Bs} (p0 : TTurn) (r : Int) (H : F_etchhouseref1_CheckTurn p0 = some r) (hE : HF w w.W E0) : Calls Tryd.prog 28 [(.agg #[(.bool p0.Flip), (iv p0.Quarters), (iv p0.At.X), (iv p0.At.Y)])].toArray w.W fun e W' => e = .returned (iv r) ∧ HF w W' E0 := by
 unfold F_etchhouseref1_CheckTurn at H
 have leB := Bs.Le.refl w
 refine Tr.enter (n := 13) Tryd.func28 rfl rfl rfl hE ?_
 refine Tr.sr ?_
 refine Tr.box 1 (cs := [(.bool p0.Flip), (iv p0.Quarters), (iv p0.At.X), (iv p0.At.Y)]) (wn rfl) rfl rfl rfl fun b100 => ?_
 refine Tr.asg rfl rfl ?_
 refine Tr.nil (Tr.normThen ?_)
 refine Tr.seq ?_
 refine Tr.sr ?_
 refine Tr.va rfl (fun _ _ h1 h2 => run_fieldAddr fo_29_1 (h1.ev rfl)) ?_
 refine Tr.va rfl (fun _ _ h1 h2 => run_load1 ag_3 (h1.ev rfl) (rdb h2 (vs := [(.bool p0.Flip), (iv p0.Quarters), (iv p0.At.X), (iv p0.At.Y)]) (k := 1) rfl 1) rfl) ?_
 obtain ⟨y101, hy101, H⟩ := bnd H
 refine Tr.call0 (r := (.bool y101)) (wn rfl) rfl Tryd.call55 (evl_cons rfl (evl_cons rfl (evl_cons rfl evl_nil))) (fun W hW => F_etchhouseref1_within_ok p0.Quarters 0 3 y101 hy101 (HF.start _)) ?_
 refine Tr.va rfl (fun _ _ h1 h2 => run_not (h1.ev rfl)) ?_
 refine Tr.mv rfl rfl ?_
 obtain ⟨g103, hg103, H⟩ := bnd H
 refine Tr.mid0 5 [(12, (.bool g103))] [(1, bx b100 #[(.bool p0.Flip), (iv p0.Quarters), (iv p0.At.X), (iv p0.At.Y)] 29)] ?_ ?_
 ·cases hg104 : (!y101)
  ·rw [hg104] at hg103
   rw [if_neg (by decide)] at hg103
   have H := hg103
   refine Tr.val (wg rfl rfl rfl) rfl (fun _ _ h1 h2 => run_fieldAddr fo_29_2 (h1.ev rfl)) ?_
   refine Tr.val (wg rfl rfl rfl) rfl (fun _ _ h1 h2 => run_loadN (cs := [(iv p0.At.X), (iv p0.At.Y)]) ag_27 sz_27 (h1.ev rfl) (CellsAt.take (rdb h2 (vs := [(.bool p0.Flip), (iv p0.Quarters), (iv p0.At.X), (iv p0.At.Y)]) (k := 1) rfl 2) 2) rfl) ?_
   obtain ⟨y104, hy104, H⟩ := bnd H
   refine Tr.call0 (r := (.bool y104)) (wg rfl rfl rfl) rfl Tryd.call19 (evl_cons rfl evl_nil) (fun W hW => F_etchhouseref1_IsPoint_ok p0.At y104 hy104 (HF.start _)) ?_
   refine Tr.val (wg rfl rfl rfl) rfl (fun _ _ h1 h2 => run_not (h1.ev rfl)) ?_
   refine Tr.va rfl (fun _ _ h1 h2 => run_pickF (h1.ev rfl) (h1.ev rfl)) ?_
   obtain rfl := Option.some.inj H
   exact Tr.nil (Tr.fin0 (.cons rfl .nil) (.cons rfl .nil))
  ·rw [hg104] at hg103
   rw [if_pos rfl] at hg103
   have H := hg103
   obtain rfl := Option.some.inj H
   refine Tr.pass rfl rfl rfl rfl rfl (by decide) ?_
   refine Tr.pass rfl rfl rfl rfl rfl (by decide) ?_
   refine Tr.pass rfl rfl rfl rfl rfl (by decide) ?_
   refine Tr.pass rfl rfl rfl rfl rfl (by decide) ?_
   refine Tr.va rfl (fun _ _ h1 h2 => run_pickT (h1.ev rfl) (h1.ev rfl)) ?_
   exact Tr.nil (Tr.fin0 (.cons rfl .nil) (.cons rfl .nil))
 ·show Tr _ _ (LF [(12, (.bool g103))]) (LE [(1, bx b100 #[(.bool p0.Flip), (iv p0.Quarters), (iv p0.At.X), (iv p0.At.Y)] 29)]) _
  refine Tr.nil (Tr.normThen ?_)
  refine Tr.cond rfl H (fun H => ?_) (fun H => ?_)
  ·refine Tr.sr ?_
   refine Tr.asg rfl rfl ?_
   refine Tr.nil (Tr.normThen ?_)
   refine Tr.ret (Tr.retThen ?_)
   obtain rfl := Option.some.inj H
   exact Tr.out (m := [(iv 1)]) [] (res_tmp rfl res_nil) (fun W hW => ⟨rfl, hW.low leB⟩)
  ·refine Tr.skip (Tr.normThen ?_)
   refine Tr.sr ?_
   refine Tr.asg rfl rfl ?_
   refine Tr.nil (Tr.normThen ?_)
   refine Tr.ret ?_
   obtain rfl := Option.some.inj H
   exact Tr.out (m := [(iv 0)]) [] (res_tmp rfl res_nil) (fun W hW => ⟨rfl, hW.low leB⟩)

theorem F_etchhouseref1_around_ok (N : Nat) {w : Bs} (p0 : TPoint) (p1 : TTurn) (r : TPoint) (H : F_etchhouseref1_around N p0 p1 = some r) (hE : HF w w.W E0) : Calls Tryd.prog 56 [(.agg #[(iv p0.X), (iv p0.Y)]), (.agg #[(.bool p1.Flip), (iv p1.Quarters), (iv p1.At.X), (iv p1.At.Y)])].toArray w.W fun e W' => e = .returned (.agg #[(iv r.X), (iv r.Y)]) ∧ HF w W' E0 := by
 unfold F_etchhouseref1_around at H
 have leB := Bs.Le.refl w
 refine Tr.enter (n := 23) Tryd.func56 rfl rfl rfl hE ?_
 refine Tr.sr ?_
 refine Tr.box 1 (cs := [(iv p0.X), (iv p0.Y)]) (wn rfl) rfl rfl rfl fun b100 => ?_
 refine Tr.box 2 (cs := [(.bool p1.Flip), (iv p1.Quarters), (iv p1.At.X), (iv p1.At.Y)]) (wn rfl) rfl rfl rfl fun b101 => ?_
 refine Tr.alloc 3 (wn rfl) rfl ze_27 fun b102 => ?_
 refine Tr.nil (Tr.normThen ?_)
 have leJ104 := Bs.Le.refl w
 refine Tr.cutJ (σ := Int) (fun w s => F_etchhouseref1_around_J2 N p0 p1 s = some r) (fun s => [(2, (.pointer (some ⟨b100, 0, none⟩))), (3, (.pointer (some ⟨b101, 0, none⟩))), (4, (.pointer (some ⟨b102, 0, none⟩)))]) (fun s => [(1, bx b100 #[(iv s), (iv p0.Y)] 27), (2, bx b101 #[(.bool p1.Flip), (iv p1.Quarters), (iv p1.At.X), (iv p1.At.Y)] 29), (3, bx b102 #[(iv 0), (iv 0)] 27)]) ?_ ?_
 ·refine Tr.sr ?_
  refine Tr.va rfl (fun _ _ h1 h2 => run_fieldAddr fo_29_0 (h1.ev rfl)) ?_
  refine Tr.va rfl (fun _ _ h1 h2 => run_load1 ag_4 (h1.ev rfl) (rdb h2 (vs := [(.bool p1.Flip), (iv p1.Quarters), (iv p1.At.X), (iv p1.At.Y)]) (k := 2) rfl 0) rfl) ?_
  refine Tr.nil (Tr.normThen ?_)
  refine Tr.cond rfl H (fun H => ?_) (fun H => ?_)
  ·refine Tr.region ?_
   refine Tr.va rfl (fun _ _ h1 h2 => run_fieldAddr fo_27_0 (h1.ev rfl)) ?_
   refine Tr.va rfl (fun _ _ h1 h2 => run_load1 ag_3 (h1.ev rfl) (rdb h2 (vs := [(iv p0.X), (iv p0.Y)]) (k := 1) rfl 0) rfl) ?_
   refine Tr.va rfl (fun _ _ h1 h2 => run_neg (h1.ev rfl)) ?_
   refine Tr.va rfl (fun _ _ h1 h2 => run_fieldAddr fo_27_0 (h1.ev rfl)) ?_
   refine Tr.store 1 (cs := [(iv (w64 (0 - p0.X)))]) [(iv (w64 (0 - p0.X))), (iv p0.Y)] (wn rfl) rfl rfl rfl rfl sz_3 rfl rfl rfl ?_
   refine Tr.nil ?_
   exact Tr.backThen leJ104 (w64 (0 - p0.X)) H (.cons rfl (.cons rfl (.cons rfl .nil))) (.cons rfl (.cons rfl (.cons rfl .nil)))
  ·refine Tr.skip ?_
   exact Tr.backThen leJ104 p0.X H (.cons rfl (.cons rfl (.cons rfl .nil))) (.cons rfl (.cons rfl (.cons rfl .nil)))
 ·intro w x103 hlJ105 hs
  have H := hs
  replace H : F_etchhouseref1_around_J2 N p0 p1 x103 = some r := H
  replace leB := leB.trans hlJ105
  unfold F_etchhouseref1_around_J2 at H
  show Tr _ _ (LF [(2, (.pointer (some ⟨b100, 0, none⟩))), (3, (.pointer (some ⟨b101, 0, none⟩))), (4, (.pointer (some ⟨b102, 0, none⟩)))]) (LE [(1, bx b100 #[(iv x103), (iv p0.Y)] 27), (2, bx b101 #[(.bool p1.Flip), (iv p1.Quarters), (iv p1.At.X), (iv p1.At.Y)] 29), (3, bx b102 #[(iv 0), (iv 0)] 27)]) _
  refine Tr.seq ?_
  refine Tr.sr ?_
  refine Tr.va rfl (fun _ _ h1 h2 => run_fieldAddr fo_29_1 (h1.ev rfl)) ?_
  refine Tr.va rfl (fun _ _ h1 h2 => run_load1 ag_3 (h1.ev rfl) (rdb h2 (vs := [(.bool p1.Flip), (iv p1.Quarters), (iv p1.At.X), (iv p1.At.Y)]) (k := 2) rfl 1) rfl) ?_
  refine Tr.mv rfl rfl ?_
  refine Tr.nil (Tr.normThen ?_)
  refine Tr.block ?_
  refine Tr.loop (σ := Int × Int × Int) (fun m w s => F_etchhouseref1_around_L1 p1 m s.1 s.2.1 s.2.2 = some r) (fun s => [(2, (.pointer (some ⟨b100, 0, none⟩))), (4, (.pointer (some ⟨b102, 0, none⟩))), (12, (iv p1.Quarters)), (13, (iv s.2.2))]) (fun s => [(1, bx b100 #[(iv s.1), (iv s.2.1)] 27), (3, bx b102 #[(iv 0), (iv 0)] 27)]) N (x103, p0.Y, 0) H (.cons rfl (.cons rfl (.cons rfl (.cons rfl .nil)))) (.cons rfl (.cons rfl .nil)) (fun _ _ h => noSome (h)) ?_
  intro w leL1 mL1 s hs
  obtain ⟨x115, x116, x117⟩ := s
  have H := hs
  replace H : F_etchhouseref1_around_L1 p1 (mL1 + 1) x115 x116 x117 = some r := H
  replace leB := leB.trans leL1
  rw [F_etchhouseref1_around_L1.eq_2] at H
  show Tr _ _ (LF [(2, (.pointer (some ⟨b100, 0, none⟩))), (4, (.pointer (some ⟨b102, 0, none⟩))), (12, (iv p1.Quarters)), (13, (iv x117))]) (LE [(1, bx b100 #[(iv x115), (iv x116)] 27), (3, bx b102 #[(iv 0), (iv 0)] 27)]) _
  refine Tr.sr ?_
  refine Tr.va rfl (fun _ _ h1 h2 => run_lss (h1.ev rfl) (h1.ev rfl)) ?_
  refine Tr.nil (Tr.normThen ?_)
  refine Tr.seq ?_
  refine Tr.cond rfl H (fun H => ?_) (fun H => ?_)
  ·refine Tr.skip (Tr.normThen ?_)
   refine Tr.seq ?_
   refine Tr.block ?_
   refine Tr.region ?_
   refine Tr.va rfl (fun _ _ h1 h2 => run_fieldAddr fo_27_1 (h1.ev rfl)) ?_
   refine Tr.va rfl (fun _ _ h1 h2 => run_load1 ag_3 (h1.ev rfl) (rdb h2 (vs := [(iv x115), (iv x116)]) (k := 1) rfl 1) rfl) ?_
   refine Tr.va rfl (fun _ _ h1 h2 => run_neg (h1.ev rfl)) ?_
   refine Tr.va rfl (fun _ _ h1 h2 => run_fieldAddr fo_27_0 (h1.ev rfl)) ?_
   refine Tr.va rfl (fun _ _ h1 h2 => run_load1 ag_3 (h1.ev rfl) (rdb h2 (vs := [(iv x115), (iv x116)]) (k := 1) rfl 0) rfl) ?_
   refine Tr.build (vs := [(0, (iv (w64 (0 - x116)))), (1, (iv x115))]) (cs := [(iv (w64 (0 - x116))), (iv x115)]) (wn rfl) rfl (evs_cons rfl (evs_cons rfl evs_nil)) (by kernel_rfl) ?_
   refine Tr.store 1 (cs := [(iv (w64 (0 - x116))), (iv x115)]) [(iv (w64 (0 - x116))), (iv x115)] (wn rfl) rfl rfl rfl rfl sz_27 rfl rfl rfl ?_
   refine Tr.nil (Tr.normBlock (Tr.normThen ?_))
   refine Tr.region ?_
   refine Tr.va rfl (fun _ _ h1 h2 => run_add (h1.ev rfl) (h1.ev rfl)) ?_
   refine Tr.mv rfl rfl ?_
   refine Tr.nil ?_
   exact Tr.backThen leL1 ((w64 (0 - x116)), x115, (w64 (x117 + 1))) H (.cons rfl (.cons rfl (.cons rfl (.cons rfl .nil)))) (.cons rfl (.cons rfl .nil))
  ·refine Tr.exit (Tr.exitThen (Tr.exitThen (Tr.exitBlock (Tr.normThen ?_))))
   refine Tr.sr ?_
   refine Tr.va rfl (fun _ _ h1 h2 => run_loadN (cs := [(iv x115), (iv x116)]) ag_27 sz_27 (h1.ev rfl) (CellsAt.take (rdb h2 (vs := [(iv x115), (iv x116)]) (k := 1) rfl 0) 2) rfl) ?_
   refine Tr.store 3 (cs := [(iv x115), (iv x116)]) [(iv x115), (iv x116)] (wn rfl) rfl rfl rfl rfl sz_27 rfl rfl rfl ?_
   refine Tr.nil (Tr.normThen ?_)
   refine Tr.ret ?_
   obtain rfl := Option.some.inj H
   exact Tr.out (m := [(.agg #[(iv x115), (iv x116)])]) [3] (res_cell rfl rfl ag_27 sz_27 res_nil) (fun W hW => ⟨rfl, hW.low leB⟩)

theorem F_etchhouseref1_TurnPoint_ok (N : Nat) {w : Bs} (p0 : TPoint) (p1 : TTurn) (r : TPoint) (H : F_etchhouseref1_TurnPoint N p0 p1 = some r) (hE : HF w w.W E0) : Calls Tryd.prog 32 [(.agg #[(iv p0.X), (iv p0.Y)]), (.agg #[(.bool p1.Flip), (iv p1.Quarters), (iv p1.At.X), (iv p1.At.Y)])].toArray w.W fun e W' => e = .returned (.agg #[(iv r.X), (iv r.Y)]) ∧ HF w W' E0 := by
 unfold F_etchhouseref1_TurnPoint at H
 have leB := Bs.Le.refl w
 refine Tr.enter (n := 21) Tryd.func32 rfl rfl rfl hE ?_
 refine Tr.sr ?_
 refine Tr.box 1 (cs := [(iv p0.X), (iv p0.Y)]) (wn rfl) rfl rfl rfl fun b100 => ?_
 refine Tr.box 2 (cs := [(.bool p1.Flip), (iv p1.Quarters), (iv p1.At.X), (iv p1.At.Y)]) (wn rfl) rfl rfl rfl fun b101 => ?_
 refine Tr.alloc 3 (wn rfl) rfl ze_27 fun b102 => ?_
 refine Tr.nil (Tr.normThen ?_)
 refine Tr.sr ?_
 refine Tr.va rfl (fun _ _ h1 h2 => run_loadN (cs := [(iv p0.X), (iv p0.Y)]) ag_27 sz_27 (h1.ev rfl) (CellsAt.take (rdb h2 (vs := [(iv p0.X), (iv p0.Y)]) (k := 1) rfl 0) 2) rfl) ?_
 refine Tr.va rfl (fun _ _ h1 h2 => run_loadN (cs := [(.bool p1.Flip), (iv p1.Quarters), (iv p1.At.X), (iv p1.At.Y)]) ag_29 sz_29 (h1.ev rfl) (CellsAt.take (rdb h2 (vs := [(.bool p1.Flip), (iv p1.Quarters), (iv p1.At.X), (iv p1.At.Y)]) (k := 2) rfl 0) 4) rfl) ?_
 obtain ⟨y103, hy103, H⟩ := bnd H
 refine Tr.call0 (r := (.agg #[(iv y103.X), (iv y103.Y)])) (wn rfl) rfl Tryd.call56 (evl_cons rfl (evl_cons rfl evl_nil)) (fun W hW => F_etchhouseref1_around_ok N p0 p1 y103 hy103 (HF.start _)) ?_
 refine Tr.store 1 (cs := [(iv y103.X), (iv y103.Y)]) [(iv y103.X), (iv y103.Y)] (wn rfl) rfl rfl rfl rfl sz_27 rfl rfl rfl ?_
 refine Tr.nil (Tr.normThen ?_)
 refine Tr.sr ?_
 refine Tr.va rfl (fun _ _ h1 h2 => run_fieldAddr fo_27_0 (h1.ev rfl)) ?_
 refine Tr.va rfl (fun _ _ h1 h2 => run_load1 ag_3 (h1.ev rfl) (rdb h2 (vs := [(iv y103.X), (iv y103.Y)]) (k := 1) rfl 0) rfl) ?_
 refine Tr.va rfl (fun _ _ h1 h2 => run_fieldAddr fo_29_2 (h1.ev rfl)) ?_
 refine Tr.va rfl (fun _ _ h1 h2 => run_fieldAddr fo_27_0 (h1.ev rfl)) ?_
 refine Tr.va rfl (fun _ _ h1 h2 => run_load1 ag_3 (h1.ev rfl) (rdb h2 (vs := [(.bool p1.Flip), (iv p1.Quarters), (iv p1.At.X), (iv p1.At.Y)]) (k := 2) rfl 2) rfl) ?_
 refine Tr.va rfl (fun _ _ h1 h2 => run_add (h1.ev rfl) (h1.ev rfl)) ?_
 refine Tr.va rfl (fun _ _ h1 h2 => run_fieldAddr fo_27_1 (h1.ev rfl)) ?_
 refine Tr.va rfl (fun _ _ h1 h2 => run_load1 ag_3 (h1.ev rfl) (rdb h2 (vs := [(iv y103.X), (iv y103.Y)]) (k := 1) rfl 1) rfl) ?_
 refine Tr.va rfl (fun _ _ h1 h2 => run_fieldAddr fo_29_2 (h1.ev rfl)) ?_
 refine Tr.va rfl (fun _ _ h1 h2 => run_fieldAddr fo_27_1 (h1.ev rfl)) ?_
 refine Tr.va rfl (fun _ _ h1 h2 => run_load1 ag_3 (h1.ev rfl) (rdb h2 (vs := [(.bool p1.Flip), (iv p1.Quarters), (iv p1.At.X), (iv p1.At.Y)]) (k := 2) rfl 3) rfl) ?_
 refine Tr.va rfl (fun _ _ h1 h2 => run_add (h1.ev rfl) (h1.ev rfl)) ?_
 refine Tr.build (vs := [(0, (iv (w64 (y103.X + p1.At.X)))), (1, (iv (w64 (y103.Y + p1.At.Y))))]) (cs := [(iv (w64 (y103.X + p1.At.X))), (iv (w64 (y103.Y + p1.At.Y)))]) (wn rfl) rfl (evs_cons rfl (evs_cons rfl evs_nil)) (by kernel_rfl) ?_
 refine Tr.store 3 (cs := [(iv (w64 (y103.X + p1.At.X))), (iv (w64 (y103.Y + p1.At.Y)))]) [(iv (w64 (y103.X + p1.At.X))), (iv (w64 (y103.Y + p1.At.Y)))] (wn rfl) rfl rfl rfl rfl sz_27 rfl rfl rfl ?_
 refine Tr.nil (Tr.normThen ?_)
 refine Tr.ret ?_
 obtain rfl := Option.some.inj H
 exact Tr.out (m := [(.agg #[(iv (w64 (y103.X + p1.At.X))), (iv (w64 (y103.Y + p1.At.Y)))])]) [3] (res_cell rfl rfl ag_27 sz_27 res_nil) (fun W hW => ⟨rfl, hW.low leB⟩)

theorem F_etchhouseref1_TurnRect_ok (N : Nat) {w : Bs} (p0 : TRect) (p1 : TTurn) (r : TRect) (H : F_etchhouseref1_TurnRect N p0 p1 = some r) (hE : HF w w.W E0) : Calls Tryd.prog 29 [(.agg #[(iv p0.X0), (iv p0.Y0), (iv p0.X1), (iv p0.Y1)]), (.agg #[(.bool p1.Flip), (iv p1.Quarters), (iv p1.At.X), (iv p1.At.Y)])].toArray w.W fun e W' => e = .returned (.agg #[(iv r.X0), (iv r.Y0), (iv r.X1), (iv r.Y1)]) ∧ HF w W' E0 := by
 unfold F_etchhouseref1_TurnRect at H
 have leB := Bs.Le.refl w
 refine Tr.enter (n := 42) Tryd.func29 rfl rfl rfl hE ?_
 refine Tr.sr ?_
 refine Tr.box 1 (cs := [(iv p0.X0), (iv p0.Y0), (iv p0.X1), (iv p0.Y1)]) (wn rfl) rfl rfl rfl fun b100 => ?_
 refine Tr.box 2 (cs := [(.bool p1.Flip), (iv p1.Quarters), (iv p1.At.X), (iv p1.At.Y)]) (wn rfl) rfl rfl rfl fun b101 => ?_
 refine Tr.alloc 3 (wn rfl) rfl ze_57 fun b102 => ?_
 refine Tr.nil (Tr.normThen ?_)
 refine Tr.seq ?_
 obtain ⟨y104, hy104, H⟩ := bnd H
 obtain ⟨y105, hy105, H⟩ := bnd H
 refine Tr.drawF 16 [(14, .makeFunc (.func 0) #[] #[]), (15, .makeFunc (.func 0) #[] #[])] [(14, ⟨5, 4, (.func (.func 0) #[] #[]), fun b => .pointer (some ⟨b, 0, none⟩), fun b => bx b #[(iv 0), (iv 0)] 27⟩), (15, ⟨6, 5, (.func (.func 0) #[] #[]), fun b => .pointer (some ⟨b, 0, none⟩), fun b => bx b #[(iv 0), (iv 0)] 27⟩)] [(0, (.agg #[(iv p0.X0), (iv p0.Y0), (iv p0.X1), (iv p0.Y1)])), (1, (.agg #[(.bool p1.Flip), (iv p1.Quarters), (iv p1.At.X), (iv p1.At.Y)])), (2, (.pointer (some ⟨b100, 0, none⟩))), (3, (.pointer (some ⟨b101, 0, none⟩))), (4, (.pointer (some ⟨b102, 0, none⟩))), (5, (.func (.func 0) #[] #[])), (6, (.func (.func 0) #[] #[])), (7, (.pointer (some ⟨b100, 0, none⟩))), (8, (iv p0.X0)), (9, (.pointer (some ⟨b100, 1, none⟩))), (10, (iv p0.Y0)), (11, (.agg #[(iv p0.X0), (iv p0.Y0)])), (12, (.agg #[(.bool p1.Flip), (iv p1.Quarters), (iv p1.At.X), (iv p1.At.Y)])), (13, (.agg #[(iv y104.X), (iv y104.Y)])), (14, (.pointer (some ⟨b100, 2, none⟩))), (15, (iv p0.X1)), (16, (.pointer (some ⟨b100, 3, none⟩))), (17, (iv p0.Y1)), (18, (.agg #[(iv p0.X1), (iv p0.Y1)])), (19, (.agg #[(.bool p1.Flip), (iv p1.Quarters), (iv p1.At.X), (iv p1.At.Y)])), (20, (.agg #[(iv y105.X), (iv y105.Y)]))] (by kernel_rfl) (by kernel_rfl) (by kernel_rfl) (by kernel_rfl) (by kernel_rfl) (by kernel_rfl) (by kernel_rfl) (fall_cons (fr_alloc rfl rfl ze_27) (fall_cons (fr_alloc rfl rfl ze_27) fall_nil)) (fall_cons rfl (fall_cons rfl fall_nil)) (fall_cons rfl (fall_cons rfl fall_nil)) ?_ ?_
 ·refine Tq.va rfl (fun _ _ h1 h2 => run_fieldAddr fo_57_0 (h1.ev rfl)) ?_
  refine Tq.va rfl (fun _ _ h1 h2 => run_load1 ag_3 (h1.ev rfl) (rdb h2 (vs := [(iv p0.X0), (iv p0.Y0), (iv p0.X1), (iv p0.Y1)]) (k := 1) rfl 0) rfl) ?_
  refine Tq.va rfl (fun _ _ h1 h2 => run_fieldAddr fo_57_1 (h1.ev rfl)) ?_
  refine Tq.va rfl (fun _ _ h1 h2 => run_load1 ag_3 (h1.ev rfl) (rdb h2 (vs := [(iv p0.X0), (iv p0.Y0), (iv p0.X1), (iv p0.Y1)]) (k := 1) rfl 1) rfl) ?_
  refine Tq.build (vs := [(0, (iv p0.X0)), (1, (iv p0.Y0))]) (cs := [(iv p0.X0), (iv p0.Y0)]) (wn rfl) rfl (evs_cons rfl (evs_cons rfl evs_nil)) (by kernel_rfl) ?_
  refine Tq.va rfl (fun _ _ h1 h2 => run_loadN (cs := [(.bool p1.Flip), (iv p1.Quarters), (iv p1.At.X), (iv p1.At.Y)]) ag_29 sz_29 (h1.ev rfl) (CellsAt.take (rdb h2 (vs := [(.bool p1.Flip), (iv p1.Quarters), (iv p1.At.X), (iv p1.At.Y)]) (k := 2) rfl 0) 4) rfl) ?_
  refine Tq.call0 (r := (.agg #[(iv y104.X), (iv y104.Y)])) (wn rfl) rfl Tryd.call32 (evl_cons rfl (evl_cons rfl evl_nil)) (fun W hW => F_etchhouseref1_TurnPoint_ok N (TPoint.mk p0.X0 p0.Y0) p1 y104 hy104 (HF.start _)) ?_
  refine Tq.va rfl (fun _ _ h1 h2 => run_fieldAddr fo_57_2 (h1.ev rfl)) ?_
  refine Tq.va rfl (fun _ _ h1 h2 => run_load1 ag_3 (h1.ev rfl) (rdb h2 (vs := [(iv p0.X0), (iv p0.Y0), (iv p0.X1), (iv p0.Y1)]) (k := 1) rfl 2) rfl) ?_
  refine Tq.va rfl (fun _ _ h1 h2 => run_fieldAddr fo_57_3 (h1.ev rfl)) ?_
  refine Tq.va rfl (fun _ _ h1 h2 => run_load1 ag_3 (h1.ev rfl) (rdb h2 (vs := [(iv p0.X0), (iv p0.Y0), (iv p0.X1), (iv p0.Y1)]) (k := 1) rfl 3) rfl) ?_
  refine Tq.build (vs := [(0, (iv p0.X1)), (1, (iv p0.Y1))]) (cs := [(iv p0.X1), (iv p0.Y1)]) (wn rfl) rfl (evs_cons rfl (evs_cons rfl evs_nil)) (by kernel_rfl) ?_
  refine Tq.va rfl (fun _ _ h1 h2 => run_loadN (cs := [(.bool p1.Flip), (iv p1.Quarters), (iv p1.At.X), (iv p1.At.Y)]) ag_29 sz_29 (h1.ev rfl) (CellsAt.take (rdb h2 (vs := [(.bool p1.Flip), (iv p1.Quarters), (iv p1.At.X), (iv p1.At.Y)]) (k := 2) rfl 0) 4) rfl) ?_
  refine Tq.call0 (r := (.agg #[(iv y105.X), (iv y105.Y)])) (wn rfl) rfl Tryd.call32 (evl_cons rfl (evl_cons rfl evl_nil)) (fun W hW => F_etchhouseref1_TurnPoint_ok N (TPoint.mk p0.X1 p0.Y1) p1 y105 hy105 (HF.start _)) ?_
  refine Tq.mkFunc (vs := []) (wn rfl) rfl evl_nil ?_
  refine Tq.mkFunc (vs := []) (wn rfl) rfl evl_nil ?_
  exact Tq.fin (.cons rfl (.cons rfl (.cons rfl (.cons rfl (.cons rfl (.cons rfl (.cons rfl (.cons rfl (.cons rfl (.cons rfl (.cons rfl (.cons rfl (.cons rfl (.cons rfl (.cons rfl (.cons rfl (.cons rfl (.cons rfl (.cons rfl (.cons rfl (.cons rfl .nil)))))))))))))))))))))
 ·intro bs103
  refine Tr.sel (lf := [(4, (.pointer (some ⟨b102, 0, none⟩))), (5, (.pointer (some ⟨(bs103 14), 0, none⟩))), (6, (.pointer (some ⟨(bs103 15), 0, none⟩))), (13, (.agg #[(iv y104.X), (iv y104.Y)])), (20, (.agg #[(iv y105.X), (iv y105.Y)]))]) (le := [(1, bx b100 #[(iv p0.X0), (iv p0.Y0), (iv p0.X1), (iv p0.Y1)] 57), (2, bx b101 #[(.bool p1.Flip), (iv p1.Quarters), (iv p1.At.X), (iv p1.At.Y)] 29), (3, bx b102 #[(iv 0), (iv 0), (iv 0), (iv 0)] 57), (4, bx (bs103 14) #[(iv 0), (iv 0)] 27), (5, bx (bs103 15) #[(iv 0), (iv 0)] 27)]) (.cons rfl (.cons rfl (.cons rfl (.cons rfl (.cons rfl .nil))))) (.cons rfl (.cons rfl (.cons rfl (.cons rfl (.cons rfl .nil))))) ?_
  refine Tr.store 4 (cs := [(iv y104.X), (iv y104.Y)]) [(iv y104.X), (iv y104.Y)] (wn rfl) rfl rfl rfl rfl sz_27 rfl rfl rfl ?_
  refine Tr.store 5 (cs := [(iv y105.X), (iv y105.Y)]) [(iv y105.X), (iv y105.Y)] (wn rfl) rfl rfl rfl rfl sz_27 rfl rfl rfl ?_
  refine Tr.nil (Tr.normThen ?_)
  refine Tr.sr ?_
  refine Tr.va rfl (fun _ _ h1 h2 => run_fieldAddr fo_27_0 (h1.ev rfl)) ?_
  refine Tr.va rfl (fun _ _ h1 h2 => run_load1 ag_3 (h1.ev rfl) (rdb h2 (vs := [(iv y104.X), (iv y104.Y)]) (k := 4) rfl 0) rfl) ?_
  refine Tr.va rfl (fun _ _ h1 h2 => run_fieldAddr fo_27_0 (h1.ev rfl)) ?_
  refine Tr.va rfl (fun _ _ h1 h2 => run_load1 ag_3 (h1.ev rfl) (rdb h2 (vs := [(iv y105.X), (iv y105.Y)]) (k := 5) rfl 0) rfl) ?_
  refine Tr.va rfl (fun _ _ h1 h2 => run_min (h1.ev rfl) (h1.ev rfl) _) ?_
  refine Tr.va rfl (fun _ _ h1 h2 => run_fieldAddr fo_27_1 (h1.ev rfl)) ?_
  refine Tr.va rfl (fun _ _ h1 h2 => run_load1 ag_3 (h1.ev rfl) (rdb h2 (vs := [(iv y104.X), (iv y104.Y)]) (k := 4) rfl 1) rfl) ?_
  refine Tr.va rfl (fun _ _ h1 h2 => run_fieldAddr fo_27_1 (h1.ev rfl)) ?_
  refine Tr.va rfl (fun _ _ h1 h2 => run_load1 ag_3 (h1.ev rfl) (rdb h2 (vs := [(iv y105.X), (iv y105.Y)]) (k := 5) rfl 1) rfl) ?_
  refine Tr.va rfl (fun _ _ h1 h2 => run_min (h1.ev rfl) (h1.ev rfl) _) ?_
  refine Tr.va rfl (fun _ _ h1 h2 => run_fieldAddr fo_27_0 (h1.ev rfl)) ?_
  refine Tr.va rfl (fun _ _ h1 h2 => run_load1 ag_3 (h1.ev rfl) (rdb h2 (vs := [(iv y104.X), (iv y104.Y)]) (k := 4) rfl 0) rfl) ?_
  refine Tr.va rfl (fun _ _ h1 h2 => run_fieldAddr fo_27_0 (h1.ev rfl)) ?_
  refine Tr.va rfl (fun _ _ h1 h2 => run_load1 ag_3 (h1.ev rfl) (rdb h2 (vs := [(iv y105.X), (iv y105.Y)]) (k := 5) rfl 0) rfl) ?_
  refine Tr.va rfl (fun _ _ h1 h2 => run_max (h1.ev rfl) (h1.ev rfl) _) ?_
  refine Tr.va rfl (fun _ _ h1 h2 => run_fieldAddr fo_27_1 (h1.ev rfl)) ?_
  refine Tr.va rfl (fun _ _ h1 h2 => run_load1 ag_3 (h1.ev rfl) (rdb h2 (vs := [(iv y104.X), (iv y104.Y)]) (k := 4) rfl 1) rfl) ?_
  refine Tr.va rfl (fun _ _ h1 h2 => run_fieldAddr fo_27_1 (h1.ev rfl)) ?_
  refine Tr.va rfl (fun _ _ h1 h2 => run_load1 ag_3 (h1.ev rfl) (rdb h2 (vs := [(iv y105.X), (iv y105.Y)]) (k := 5) rfl 1) rfl) ?_
  refine Tr.va rfl (fun _ _ h1 h2 => run_max (h1.ev rfl) (h1.ev rfl) _) ?_
  refine Tr.build (vs := [(0, (iv (min y104.X y105.X))), (1, (iv (min y104.Y y105.Y))), (2, (iv (max y104.X y105.X))), (3, (iv (max y104.Y y105.Y)))]) (cs := [(iv (min y104.X y105.X)), (iv (min y104.Y y105.Y)), (iv (max y104.X y105.X)), (iv (max y104.Y y105.Y))]) (wn rfl) rfl (evs_cons rfl (evs_cons rfl (evs_cons rfl (evs_cons rfl evs_nil)))) (by kernel_rfl) ?_
  refine Tr.store 3 (cs := [(iv (min y104.X y105.X)), (iv (min y104.Y y105.Y)), (iv (max y104.X y105.X)), (iv (max y104.Y y105.Y))]) [(iv (min y104.X y105.X)), (iv (min y104.Y y105.Y)), (iv (max y104.X y105.X)), (iv (max y104.Y y105.Y))] (wn rfl) rfl rfl rfl rfl sz_57 rfl rfl rfl ?_
  refine Tr.nil (Tr.normThen ?_)
  refine Tr.ret ?_
  obtain rfl := Option.some.inj H
  exact Tr.out (m := [(.agg #[(iv (min y104.X y105.X)), (iv (min y104.Y y105.Y)), (iv (max y104.X y105.X)), (iv (max y104.Y y105.Y))])]) [3] (res_cell rfl rfl ag_57 sz_57 res_nil) (fun W hW => ⟨rfl, hW.low leB⟩)

theorem F_etchhouseref3_flat_b_ok (N : Nat) (rec : (List TPlotStep) → TPoint → Option (List TPlotStep)) (hrec : ∀ {w : Bs} (p0 : (List TPlotStep)) (Ap0_0 : Option Addr) (cp0_0 : Nat) (hp0_0 : Sl w.O w.W fl_TPlotStep Ap0_0 cp0_0 p0) (p1 : TPoint) (r : (List TPlotStep)) (H : rec p0 p1 = some r) (hE : HF w w.W (LEn [emp])), Calls Tryd.prog 30 [(.slice Ap0_0 (p0).length cp0_0), (.agg #[(iv p1.X), (iv p1.Y)])].toArray w.W fun e W' => ∃ (w' : Bs) (u : (Option Addr × Nat × List (DE fl_TPlotStep))), w.Le w' ∧ e = .returned (.slice u.1 (r).length u.2.1) ∧ ((DC u.2.2 r ∧ SlF u.1 (r).length u.2.1)) ∧ HF w' W' (LEn [dq u.1 (r).length u.2.1 46 27 ln_TPlotStep u.2.2])) {w : Bs} (p0 : (List TPlotStep)) (Ap0_0 : Option Addr) (cp0_0 : Nat) (hp0_0 : Sl w.O w.W fl_TPlotStep Ap0_0 cp0_0 p0) (p1 : TPoint) (r : (List TPlotStep)) (H : F_etchhouseref3_flat_b N rec p0 p1 = some r) (hE : HF w w.W (LEn [emp])) : Calls Tryd.prog 30 [(.slice Ap0_0 (p0).length cp0_0), (.agg #[(iv p1.X), (iv p1.Y)])].toArray w.W fun e W' => ∃ (w' : Bs) (u : (Option Addr × Nat × List (DE fl_TPlotStep))), w.Le w' ∧ e = .returned (.slice u.1 (r).length u.2.1) ∧ ((DC u.2.2 r ∧ SlF u.1 (r).length u.2.1)) ∧ HF w' W' (LEn [dq u.1 (r).length u.2.1 46 27 ln_TPlotStep u.2.2]) := by
 unfold F_etchhouseref3_flat_b at H
 have leB := Bs.Le.refl w
 refine Tr.enter (n := 64) Tryd.func30 rfl rfl rfl hE ?_
 refine Tr.sr ?_
 refine Tr.box 1 (cs := [(iv p1.X), (iv p1.Y)]) (wn rfl) rfl rfl rfl fun b100 => ?_
 refine Tr.asg rfl rfl ?_
 refine Tr.nilOwn 2 46 fl_TPlotStep ?_
 show Tr _ _ (uf _ 4 (.slice none (([] : List TPlotStep)).length 0)) _ _
 refine Tr.nil (Tr.normThen ?_)
 refine Tr.sr ?_
 refine Tr.asg rfl rfl ?_
 refine Tr.dqNil 3 46 27 ln_TPlotStep ?_
 show Tr _ _ (uf _ 5 (.slice none (([] : List TPlotStep)).length 0)) (up _ 3 (dq none ([] : List TPlotStep).length 0 46 27 ln_TPlotStep [])) _
 refine Tr.nil (Tr.normThen ?_)
 refine Tr.seq ?_
 refine Tr.sr ?_
 refine Tr.asg rfl rfl ?_
 refine Tr.nil (Tr.normThen ?_)
 refine Tr.block ?_
 refine Tr.loop (σ := (List TPlotStep) × Int × (Option Addr) × Nat × (List (DE fl_TPlotStep))) (fun m w s => F_etchhouseref3_flat_L9 N p0 p1 rec m s.1 s.2.1 = some r ∧ (DC s.2.2.2.2 s.1 ∧ SlF s.2.2.1 (s.1).length s.2.2.2.1)) (fun s => [(0, (.slice Ap0_0 (p0).length cp0_0)), (3, (.pointer (some ⟨b100, 0, none⟩))), (5, (.slice s.2.2.1 (s.1).length s.2.2.2.1)), (6, (iv s.2.1))]) (fun s => [(1, bx b100 #[(iv p1.X), (iv p1.Y)] 27), (3, dq s.2.2.1 (s.1).length s.2.2.2.1 46 27 ln_TPlotStep s.2.2.2.2)]) N (([] : List TPlotStep), 0, none, 0, ([] : List (DE fl_TPlotStep))) ⟨H, ⟨DC.nil, slf_nil⟩⟩ (.cons rfl (.cons rfl (.cons rfl (.cons rfl .nil)))) (.cons rfl (.cons rfl .nil)) (fun _ _ h => noSome (h.1)) ?_
 intro w leL9 mL9 s hs
 obtain ⟨m259, x260, Am259, cm259, msm259⟩ := s
 obtain ⟨H, hm259⟩ := hs
 replace H : F_etchhouseref3_flat_L9 N p0 p1 rec (mL9 + 1) m259 x260 = some r := H
 replace hp0_0 := hp0_0.le leL9
 replace leB := leB.trans leL9
 replace hm259 : DC msm259 m259 ∧ SlF Am259 (m259).length cm259 := hm259
 rw [F_etchhouseref3_flat_L9.eq_2] at H
 show Tr _ _ (LF [(0, (.slice Ap0_0 (p0).length cp0_0)), (3, (.pointer (some ⟨b100, 0, none⟩))), (5, (.slice Am259 (m259).length cm259)), (6, (iv x260))]) (LE [(1, bx b100 #[(iv p1.X), (iv p1.Y)] 27), (3, dq Am259 (m259).length cm259 46 27 ln_TPlotStep msm259)]) _
 refine Tr.seq ?_
 refine Tr.sr ?_
 refine Tr.mv rfl rfl ?_
 refine Tr.mv rfl rfl ?_
 refine Tr.va rfl (fun _ _ h1 h2 => run_len un_23 (h1.ev rfl)) ?_
 refine Tr.va rfl (fun _ _ h1 h2 => run_lss (h1.ev rfl) (h1.ev rfl)) ?_
 refine Tr.nil (Tr.normThen ?_)
 refine Tr.cond rfl H (fun H => ?_) (fun H => ?_)
 ·refine Tr.skip (Tr.normThen ?_)
  refine Tr.seq ?_
  refine Tr.block ?_
  refine Tr.sr ?_
  refine Tr.mv rfl rfl ?_
  refine Tr.mv rfl rfl ?_
  obtain ⟨x261, hx261, H⟩ := bnd H
  obtain ⟨hx2610, hx2611, hx2612⟩ := idx_some hx261
  obtain ⟨u262, hRu262, hoku262, hcu262⟩ := (hp0_0).el hx2612
  obtain ⟨⟨Au262_0, cu262_0⟩, ⟨Au262_1, cu262_1⟩⟩ := u262
  obtain ⟨hoku262_0, hoku262_1⟩ := TPlotStep_ok.1 hoku262
  replace hoku262_0 : Sl w.O w.W fl_TPoint Au262_0 cu262_0 x261.Points := hoku262_0
  replace hoku262_1 : Sl w.O w.W fl_TPlotStep Au262_1 cu262_1 x261.Steps := hoku262_1
  replace hRu262 : w.R (adB Ap0_0) := Or.inl hRu262
  refine Tr.va rfl (fun _ _ h1 h2 => run_indexAddr el_23 (h1.ev rfl) hp0_0.form (h1.ev rfl) hx2610 hx2611) ?_
  refine Tr.va rfl (fun _ _ h1 h2 => run_loadN (cs := [(iv x261.Kind), (sv x261.Name), (iv x261.At.X), (iv x261.At.Y), (.slice Au262_0 (x261.Points).length cu262_0), (iv x261.NX), (iv x261.NY), (.slice Au262_1 (x261.Steps).length cu262_1)]) ag_46 sz_46 (h1.ev rfl) (CellsAt.take (rdR hRu262 hcu262 h2) 8) rfl) ?_
  refine Tr.alloc 66 (wn rfl) rfl ze_46 fun b263 => ?_
  refine Tr.store 66 (cs := [(iv x261.Kind), (sv x261.Name), (iv x261.At.X), (iv x261.At.Y), (.slice Au262_0 (x261.Points).length cu262_0), (iv x261.NX), (iv x261.NY), (.slice Au262_1 (x261.Steps).length cu262_1)]) [(iv x261.Kind), (sv x261.Name), (iv x261.At.X), (iv x261.At.Y), (.slice Au262_0 (x261.Points).length cu262_0), (iv x261.NX), (iv x261.NY), (.slice Au262_1 (x261.Steps).length cu262_1)] (wn rfl) rfl rfl rfl rfl sz_46 rfl rfl rfl ?_
  refine Tr.nil (Tr.normThen ?_)
  refine Tr.seq ?_
  refine Tr.sr ?_
  refine Tr.va rfl (fun _ _ h1 h2 => run_fieldAddr fo_46_0 (h1.ev rfl)) ?_
  refine Tr.va rfl (fun _ _ h1 h2 => run_load1 ag_3 (h1.ev rfl) (rdb h2 (vs := [(iv x261.Kind), (sv x261.Name), (iv x261.At.X), (iv x261.At.Y), (.slice Au262_0 (x261.Points).length cu262_0), (iv x261.NX), (iv x261.NY), (.slice Au262_1 (x261.Steps).length cu262_1)]) (k := 66) rfl 0) rfl) ?_
  refine Tr.va rfl (fun _ _ h1 h2 => run_eql (h1.ev rfl) (h1.ev rfl)) ?_
  refine Tr.nil (Tr.normThen ?_)
  refine Tr.cond rfl H (fun H => ?_) (fun H => ?_)
  ·refine Tr.seq ?_
   refine Tr.sr ?_
   refine Tr.asg rfl rfl ?_
   refine Tr.nil (Tr.normThen ?_)
   refine Tr.block ?_
   refine Tr.loop (σ := (List TPlotStep) × Int × (Option Addr) × Nat × (List (DE fl_TPlotStep))) (fun m w s => F_etchhouseref3_flat_L12 N p1 rec x260 (F_etchhouseref3_flat_L9 N p0 p1 rec mL9) x261 m s.1 s.2.1 = some r ∧ (DC s.2.2.2.2 s.1 ∧ SlF s.2.2.1 (s.1).length s.2.2.2.1)) (fun s => [(0, (.slice Ap0_0 (p0).length cp0_0)), (3, (.pointer (some ⟨b100, 0, none⟩))), (5, (.slice s.2.2.1 (s.1).length s.2.2.2.1)), (6, (iv x260)), (7, (.pointer (some ⟨b263, 0, none⟩))), (8, (iv s.2.1))]) (fun s => [(1, bx b100 #[(iv p1.X), (iv p1.Y)] 27), (3, dq s.2.2.1 (s.1).length s.2.2.2.1 46 27 ln_TPlotStep s.2.2.2.2), (66, bx b263 #[(iv x261.Kind), (sv x261.Name), (iv x261.At.X), (iv x261.At.Y), (.slice Au262_0 (x261.Points).length cu262_0), (iv x261.NX), (iv x261.NY), (.slice Au262_1 (x261.Steps).length cu262_1)] 46)]) N (m259, 0, Am259, cm259, msm259) ⟨H, ⟨hm259.1, hm259.2⟩⟩ (.cons rfl (.cons rfl (.cons rfl (.cons rfl (.cons rfl (.cons rfl .nil)))))) (.cons rfl (.cons rfl (.cons rfl .nil))) (fun _ _ h => noSome (h.1)) ?_
   intro w leL12 mL12 s hs
   obtain ⟨m310, x311, Am310, cm310, msm310⟩ := s
   obtain ⟨H, hm310⟩ := hs
   replace H : F_etchhouseref3_flat_L12 N p1 rec x260 (F_etchhouseref3_flat_L9 N p0 p1 rec mL9) x261 (mL12 + 1) m310 x311 = some r := H
   replace hp0_0 := hp0_0.le leL12
   replace hoku262_0 := hoku262_0.le leL12
   replace hoku262_1 := hoku262_1.le leL12
   replace leB := leB.trans leL12
   replace leL9 := leL9.trans leL12
   replace hm310 : DC msm310 m310 ∧ SlF Am310 (m310).length cm310 := hm310
   rw [F_etchhouseref3_flat_L12.eq_2] at H
   show Tr _ _ (LF [(0, (.slice Ap0_0 (p0).length cp0_0)), (3, (.pointer (some ⟨b100, 0, none⟩))), (5, (.slice Am310 (m310).length cm310)), (6, (iv x260)), (7, (.pointer (some ⟨b263, 0, none⟩))), (8, (iv x311))]) (LE [(1, bx b100 #[(iv p1.X), (iv p1.Y)] 27), (3, dq Am310 (m310).length cm310 46 27 ln_TPlotStep msm310), (66, bx b263 #[(iv x261.Kind), (sv x261.Name), (iv x261.At.X), (iv x261.At.Y), (.slice Au262_0 (x261.Points).length cu262_0), (iv x261.NX), (iv x261.NY), (.slice Au262_1 (x261.Steps).length cu262_1)] 46)]) _
   refine Tr.seq ?_
   refine Tr.sr ?_
   refine Tr.mv rfl rfl ?_
   refine Tr.va rfl (fun _ _ h1 h2 => run_fieldAddr fo_46_5 (h1.ev rfl)) ?_
   refine Tr.va rfl (fun _ _ h1 h2 => run_load1 ag_3 (h1.ev rfl) (rdb h2 (vs := [(iv x261.Kind), (sv x261.Name), (iv x261.At.X), (iv x261.At.Y), (.slice Au262_0 (x261.Points).length cu262_0), (iv x261.NX), (iv x261.NY), (.slice Au262_1 (x261.Steps).length cu262_1)]) (k := 66) rfl 6) rfl) ?_
   refine Tr.va rfl (fun _ _ h1 h2 => run_lss (h1.ev rfl) (h1.ev rfl)) ?_
   refine Tr.nil (Tr.normThen ?_)
   refine Tr.cond rfl H (fun H => ?_) (fun H => ?_)
   ·refine Tr.skip (Tr.normThen ?_)
    refine Tr.seq ?_
    refine Tr.block ?_
    refine Tr.sr ?_
    refine Tr.asg rfl rfl ?_
    refine Tr.nil (Tr.normThen ?_)
    refine Tr.block ?_
    refine Tr.loop (σ := (List TPlotStep) × Int × (Option Addr) × Nat × (List (DE fl_TPlotStep))) (fun m w s => F_etchhouseref3_flat_L13 p1 rec x261 x311 (F_etchhouseref3_flat_L12 N p1 rec x260 (F_etchhouseref3_flat_L9 N p0 p1 rec mL9) x261 mL12) m s.1 s.2.1 = some r ∧ (DC s.2.2.2.2 s.1 ∧ SlF s.2.2.1 (s.1).length s.2.2.2.1)) (fun s => [(0, (.slice Ap0_0 (p0).length cp0_0)), (3, (.pointer (some ⟨b100, 0, none⟩))), (5, (.slice s.2.2.1 (s.1).length s.2.2.2.1)), (6, (iv x260)), (7, (.pointer (some ⟨b263, 0, none⟩))), (8, (iv x311)), (9, (iv s.2.1))]) (fun s => [(1, bx b100 #[(iv p1.X), (iv p1.Y)] 27), (3, dq s.2.2.1 (s.1).length s.2.2.2.1 46 27 ln_TPlotStep s.2.2.2.2), (66, bx b263 #[(iv x261.Kind), (sv x261.Name), (iv x261.At.X), (iv x261.At.Y), (.slice Au262_0 (x261.Points).length cu262_0), (iv x261.NX), (iv x261.NY), (.slice Au262_1 (x261.Steps).length cu262_1)] 46)]) N (m310, 0, Am310, cm310, msm310) ⟨H, ⟨hm310.1, hm310.2⟩⟩ (.cons rfl (.cons rfl (.cons rfl (.cons rfl (.cons rfl (.cons rfl (.cons rfl .nil))))))) (.cons rfl (.cons rfl (.cons rfl .nil))) (fun _ _ h => noSome (h.1)) ?_
    intro w leL13 mL13 s hs
    obtain ⟨m326, x327, Am326, cm326, msm326⟩ := s
    obtain ⟨H, hm326⟩ := hs
    replace H : F_etchhouseref3_flat_L13 p1 rec x261 x311 (F_etchhouseref3_flat_L12 N p1 rec x260 (F_etchhouseref3_flat_L9 N p0 p1 rec mL9) x261 mL12) (mL13 + 1) m326 x327 = some r := H
    replace hp0_0 := hp0_0.le leL13
    replace hoku262_0 := hoku262_0.le leL13
    replace hoku262_1 := hoku262_1.le leL13
    replace leB := leB.trans leL13
    replace leL9 := leL9.trans leL13
    replace leL12 := leL12.trans leL13
    replace hm326 : DC msm326 m326 ∧ SlF Am326 (m326).length cm326 := hm326
    rw [F_etchhouseref3_flat_L13.eq_2] at H
    show Tr _ _ (LF [(0, (.slice Ap0_0 (p0).length cp0_0)), (3, (.pointer (some ⟨b100, 0, none⟩))), (5, (.slice Am326 (m326).length cm326)), (6, (iv x260)), (7, (.pointer (some ⟨b263, 0, none⟩))), (8, (iv x311)), (9, (iv x327))]) (LE [(1, bx b100 #[(iv p1.X), (iv p1.Y)] 27), (3, dq Am326 (m326).length cm326 46 27 ln_TPlotStep msm326), (66, bx b263 #[(iv x261.Kind), (sv x261.Name), (iv x261.At.X), (iv x261.At.Y), (.slice Au262_0 (x261.Points).length cu262_0), (iv x261.NX), (iv x261.NY), (.slice Au262_1 (x261.Steps).length cu262_1)] 46)]) _
    refine Tr.seq ?_
    refine Tr.sr ?_
    refine Tr.mv rfl rfl ?_
    refine Tr.va rfl (fun _ _ h1 h2 => run_fieldAddr fo_46_4 (h1.ev rfl)) ?_
    refine Tr.va rfl (fun _ _ h1 h2 => run_load1 ag_3 (h1.ev rfl) (rdb h2 (vs := [(iv x261.Kind), (sv x261.Name), (iv x261.At.X), (iv x261.At.Y), (.slice Au262_0 (x261.Points).length cu262_0), (iv x261.NX), (iv x261.NY), (.slice Au262_1 (x261.Steps).length cu262_1)]) (k := 66) rfl 5) rfl) ?_
    refine Tr.va rfl (fun _ _ h1 h2 => run_lss (h1.ev rfl) (h1.ev rfl)) ?_
    refine Tr.nil (Tr.normThen ?_)
    refine Tr.cond rfl H (fun H => ?_) (fun H => ?_)
    ·refine Tr.skip (Tr.normThen ?_)
     refine Tr.seq ?_
     refine Tr.block ?_
     refine Tr.region ?_
     refine Tr.mv rfl rfl ?_
     refine Tr.va rfl (fun _ _ h1 h2 => run_fieldAddr fo_46_6 (h1.ev rfl)) ?_
     refine Tr.va rfl (fun _ _ h1 h2 => run_load1 ag_23 (h1.ev rfl) (rdb h2 (vs := [(iv x261.Kind), (sv x261.Name), (iv x261.At.X), (iv x261.At.Y), (.slice Au262_0 (x261.Points).length cu262_0), (iv x261.NX), (iv x261.NY), (.slice Au262_1 (x261.Steps).length cu262_1)]) (k := 66) rfl 7) rfl) ?_
     refine Tr.va rfl (fun _ _ h1 h2 => run_fieldAddr fo_27_0 (h1.ev rfl)) ?_
     refine Tr.va rfl (fun _ _ h1 h2 => run_load1 ag_3 (h1.ev rfl) (rdb h2 (vs := [(iv p1.X), (iv p1.Y)]) (k := 1) rfl 0) rfl) ?_
     refine Tr.mv rfl rfl ?_
     refine Tr.va rfl (fun _ _ h1 h2 => run_fieldAddr fo_46_2 (h1.ev rfl)) ?_
     refine Tr.va rfl (fun _ _ h1 h2 => run_fieldAddr fo_27_0 (h1.ev rfl)) ?_
     refine Tr.va rfl (fun _ _ h1 h2 => run_load1 ag_3 (h1.ev rfl) (rdb h2 (vs := [(iv x261.Kind), (sv x261.Name), (iv x261.At.X), (iv x261.At.Y), (.slice Au262_0 (x261.Points).length cu262_0), (iv x261.NX), (iv x261.NY), (.slice Au262_1 (x261.Steps).length cu262_1)]) (k := 66) rfl 2) rfl) ?_
     refine Tr.va rfl (fun _ _ h1 h2 => run_mul (h1.ev rfl) (h1.ev rfl)) ?_
     refine Tr.va rfl (fun _ _ h1 h2 => run_add (h1.ev rfl) (h1.ev rfl)) ?_
     refine Tr.va rfl (fun _ _ h1 h2 => run_fieldAddr fo_27_1 (h1.ev rfl)) ?_
     refine Tr.va rfl (fun _ _ h1 h2 => run_load1 ag_3 (h1.ev rfl) (rdb h2 (vs := [(iv p1.X), (iv p1.Y)]) (k := 1) rfl 1) rfl) ?_
     refine Tr.mv rfl rfl ?_
     refine Tr.va rfl (fun _ _ h1 h2 => run_fieldAddr fo_46_2 (h1.ev rfl)) ?_
     refine Tr.va rfl (fun _ _ h1 h2 => run_fieldAddr fo_27_1 (h1.ev rfl)) ?_
     refine Tr.va rfl (fun _ _ h1 h2 => run_load1 ag_3 (h1.ev rfl) (rdb h2 (vs := [(iv x261.Kind), (sv x261.Name), (iv x261.At.X), (iv x261.At.Y), (.slice Au262_0 (x261.Points).length cu262_0), (iv x261.NX), (iv x261.NY), (.slice Au262_1 (x261.Steps).length cu262_1)]) (k := 66) rfl 3) rfl) ?_
     refine Tr.va rfl (fun _ _ h1 h2 => run_mul (h1.ev rfl) (h1.ev rfl)) ?_
     refine Tr.va rfl (fun _ _ h1 h2 => run_add (h1.ev rfl) (h1.ev rfl)) ?_
     refine Tr.build (vs := [(0, (iv (w64 (p1.X + (w64 (x327 * x261.At.X)))))), (1, (iv (w64 (p1.Y + (w64 (x311 * x261.At.Y))))))]) (cs := [(iv (w64 (p1.X + (w64 (x327 * x261.At.X))))), (iv (w64 (p1.Y + (w64 (x311 * x261.At.Y)))))]) (wn rfl) rfl (evs_cons rfl (evs_cons rfl evs_nil)) (by kernel_rfl) ?_
     obtain ⟨y328, hy328, H⟩ := bnd H
     refine Tr.callG [91] [emp] (U := (Option Addr × Nat × List (DE fl_TPlotStep))) (fun u => (.slice u.1 (y328).length u.2.1)) (fun O W u => (DC u.2.2 y328 ∧ SlF u.1 (y328).length u.2.1)) (fun u => [dq u.1 (y328).length u.2.1 46 27 ln_TPlotStep u.2.2]) rfl (pk_cons rfl pk_nil) (fun _ => rfl) (wn rfl) rfl Tryd.call30 (evl_cons rfl (evl_cons rfl evl_nil)) (fun W hW hp hE => hrec x261.Steps Au262_1 cu262_1 (hoku262_1.extO (hW.extS hp)) (TPoint.mk (w64 (p1.X + (w64 (x327 * x261.At.X)))) (w64 (p1.Y + (w64 (x311 * x261.At.Y))))) y328 hy328 hE) ?_
     intro w u le329 hu
     obtain ⟨Ay328_0, cy328_0, Dy328_0⟩ := u
     have gy328_0 := hu
     replace hp0_0 := hp0_0.le le329
     replace hoku262_0 := hoku262_0.le le329
     replace hoku262_1 := hoku262_1.le le329
     replace leB := leB.trans le329
     replace leL9 := leL9.trans le329
     replace leL12 := leL12.trans le329
     replace leL13 := leL13.trans le329
     have hgy328_0 : (DC Dy328_0 y328 ∧ SlF Ay328_0 (y328).length cy328_0) := gy328_0 --@phi
     show Tr _ _ (uf _ 55 (.slice Ay328_0 (y328).length cy328_0)) (up _ 91 (dq Ay328_0 (y328).length cy328_0 46 27 ln_TPlotStep Dy328_0)) _
     obtain ⟨l330, hl330, H⟩ := bnd H
     refine Tr.dqJoin 3 91 92 93 rfl rfl rfl rfl rfl rfl rfl rfl (wn rfl) rfl rfl rfl hm326.1 rfl rfl hgy328_0.1 un_23 sz_46 zl_46 (by decide) by_46 rfl hl330 fun Al330 cl330 ms331 hmms331 hfl330 => ?_
     refine Tr.asg rfl rfl ?_
     refine Tr.nil (Tr.normBlock (Tr.normThen ?_))
     refine Tr.region ?_
     refine Tr.mv rfl rfl ?_
     refine Tr.va rfl (fun _ _ h1 h2 => run_add (h1.ev rfl) (h1.ev rfl)) ?_
     refine Tr.asg rfl rfl ?_
     refine Tr.nil ?_
     exact Tr.backThen leL13 (l330, (w64 (x327 + 1)), Al330, cl330, ms331) ⟨H, ⟨hmms331, hfl330⟩⟩ (.cons rfl (.cons rfl (.cons rfl (.cons rfl (.cons rfl (.cons rfl (.cons rfl .nil))))))) (.cons rfl (.cons rfl (.cons rfl .nil)))
    ·refine Tr.exit (Tr.exitThen (Tr.exitThen (Tr.exitBlock (Tr.normBlock (Tr.normThen ?_)))))
     refine Tr.region ?_
     refine Tr.mv rfl rfl ?_
     refine Tr.va rfl (fun _ _ h1 h2 => run_add (h1.ev rfl) (h1.ev rfl)) ?_
     refine Tr.asg rfl rfl ?_
     refine Tr.nil ?_
     exact Tr.backThen leL12 (m326, (w64 (x311 + 1)), Am326, cm326, msm326) ⟨H, ⟨hm326.1, hm326.2⟩⟩ (.cons rfl (.cons rfl (.cons rfl (.cons rfl (.cons rfl (.cons rfl .nil)))))) (.cons rfl (.cons rfl (.cons rfl .nil)))
   ·refine Tr.exit (Tr.exitThen (Tr.exitThen (Tr.exitBlock (Tr.normThen ?_))))
    refine Tr.exit (Tr.exitThen (Tr.exitBlock (Tr.normThen ?_)))
    refine Tr.region ?_
    refine Tr.mv rfl rfl ?_
    refine Tr.va rfl (fun _ _ h1 h2 => run_add (h1.ev rfl) (h1.ev rfl)) ?_
    refine Tr.asg rfl rfl ?_
    refine Tr.nil ?_
    exact Tr.backThen leL9 (m310, (w64 (x260 + 1)), Am310, cm310, msm310) ⟨H, ⟨hm310.1, hm310.2⟩⟩ (.cons rfl (.cons rfl (.cons rfl (.cons rfl .nil)))) (.cons rfl (.cons rfl .nil))
  ·refine Tr.skip (Tr.normThen ?_)
   refine Tr.region ?_
   refine Tr.mv rfl rfl ?_
   refine Tr.va rfl (fun _ _ h1 h2 => run_loadN (cs := [(iv x261.Kind), (sv x261.Name), (iv x261.At.X), (iv x261.At.Y), (.slice Au262_0 (x261.Points).length cu262_0), (iv x261.NX), (iv x261.NY), (.slice Au262_1 (x261.Steps).length cu262_1)]) ag_46 sz_46 (h1.ev rfl) (CellsAt.take (rdb h2 (vs := [(iv x261.Kind), (sv x261.Name), (iv x261.At.X), (iv x261.At.Y), (.slice Au262_0 (x261.Points).length cu262_0), (iv x261.NX), (iv x261.NY), (.slice Au262_1 (x261.Steps).length cu262_1)]) (k := 66) rfl 0) 8) rfl) ?_
   refine Tr.va rfl (fun _ _ h1 h2 => run_loadN (cs := [(iv p1.X), (iv p1.Y)]) ag_27 sz_27 (h1.ev rfl) (CellsAt.take (rdb h2 (vs := [(iv p1.X), (iv p1.Y)]) (k := 1) rfl 0) 2) rfl) ?_
   obtain ⟨y332, hy332, H⟩ := bnd H
   refine Tr.callG [94] [emp] (U := (Option Addr × Nat) × (Option Addr × Nat)) (fun u => (.agg #[(iv y332.Kind), (sv y332.Name), (iv y332.At.X), (iv y332.At.Y), (.slice u.1.1 (y332.Points).length u.1.2), (iv y332.NX), (iv y332.NY), (.slice u.2.1 (y332.Steps).length u.2.2)])) (fun O W u => SlF u.1.1 (y332.Points).length u.1.2 ∧ Sl O W fl_TPlotStep u.2.1 u.2.2 y332.Steps) (fun u => [ow u.1.1 u.1.2 27 fl_TPoint y332.Points]) rfl (pk_cons rfl pk_nil) (fun _ => rfl) (wn rfl) rfl Tryd.call52 (evl_cons rfl (evl_cons rfl evl_nil)) (fun W hW hp hE => F_etchhouseref3_moved_ok N x261 Au262_0 cu262_0 (hoku262_0.rl.ext (hW.extS hp)) Au262_1 cu262_1 (hoku262_1.extO (hW.extS hp)) p1 y332 hy332 hE) ?_
   intro w u le333 hu
   obtain ⟨⟨Ay332_0, cy332_0⟩, ⟨Ay332_1, cy332_1⟩⟩ := u
   obtain ⟨gy332_0, gy332_1⟩ := hu
   replace hp0_0 := hp0_0.le le333
   replace hcu262 := le333.ext.cells hRu262 hcu262
   replace hRu262 := le333.r _ hRu262
   replace hoku262_0 := hoku262_0.le le333
   replace hoku262_1 := hoku262_1.le le333
   replace leB := leB.trans le333
   replace leL9 := leL9.trans le333
   have hgy332_0 : SlF Ay332_0 (y332.Points).length cy332_0 := gy332_0 --@phi
   have hgy332_1 : Sl w.O w.W fl_TPlotStep Ay332_1 cy332_1 y332.Steps := gy332_1 --@phi
   show Tr _ _ (uf _ 60 (.agg #[(iv y332.Kind), (sv y332.Name), (iv y332.At.X), (iv y332.At.Y), (.slice Ay332_0 (y332.Points).length cy332_0), (iv y332.NX), (iv y332.NY), (.slice Ay332_1 (y332.Steps).length cy332_1)])) (up _ 94 (ow Ay332_0 cy332_0 27 fl_TPoint y332.Points)) _
   refine Tr.buildSlice 95 (e := 46) (vs := [(0, (.agg #[(iv y332.Kind), (sv y332.Name), (iv y332.At.X), (iv y332.At.Y), (.slice Ay332_0 (y332.Points).length cy332_0), (iv y332.NX), (iv y332.NY), (.slice Ay332_1 (y332.Steps).length cy332_1)]))]) (cs := [(iv y332.Kind), (sv y332.Name), (iv y332.At.X), (iv y332.At.Y), (.slice Ay332_0 (y332.Points).length cy332_0), (iv y332.NX), (iv y332.NY), (.slice Ay332_1 (y332.Steps).length cy332_1)]) (wn rfl) rfl (evs_cons rfl evs_nil) (by kernel_rfl) fun b334 => ?_
   obtain ⟨l335, hl335, H⟩ := bnd H
   refine Tr.dqPush (L := ln_TPlotStep) 3 94 96 95 (u := ((Ay332_0, cy332_0), (Ay332_1, cy332_1))) (x := y332) (cs := [(iv y332.Kind), (sv y332.Name), (iv y332.At.X), (iv y332.At.Y), (.slice Ay332_0 (y332.Points).length cy332_0), (iv y332.NX), (iv y332.NY), (.slice Ay332_1 (y332.Steps).length cy332_1)]) rfl rfl rfl rfl rfl rfl (wn rfl) rfl rfl rfl hm259.1 rfl rfl rfl hgy332_1 rfl rfl rfl hgy332_0 un_23 sz_46 zl_46 (by decide) by_46 rfl hl335 fun Al335 cl335 ms336 hmms336 hfl335 => ?_
   refine Tr.asg rfl rfl ?_
   refine Tr.nil (Tr.normBlock (Tr.normThen ?_))
   refine Tr.region ?_
   refine Tr.mv rfl rfl ?_
   refine Tr.va rfl (fun _ _ h1 h2 => run_add (h1.ev rfl) (h1.ev rfl)) ?_
   refine Tr.asg rfl rfl ?_
   refine Tr.nil ?_
   exact Tr.backThen leL9 (l335, (w64 (x260 + 1)), Al335, cl335, ms336) ⟨H, ⟨hmms336, hfl335⟩⟩ (.cons rfl (.cons rfl (.cons rfl (.cons rfl .nil)))) (.cons rfl (.cons rfl .nil))
 ·refine Tr.exit (Tr.exitThen (Tr.exitThen (Tr.exitBlock (Tr.normThen ?_))))
  refine Tr.sr ?_
  refine Tr.mv rfl rfl ?_
  refine Tr.asg rfl rfl ?_
  refine Tr.nil (Tr.normThen ?_)
  refine Tr.ret ?_
  obtain rfl := Option.some.inj H
  exact Tr.out (m := [(.slice Am259 (m259).length cm259)]) [] (res_tmp rfl res_nil) (fun W hW => ⟨w, (Am259, cm259, msm259), leB, rfl, ⟨hm259.1, hm259.2⟩, hW.pick (ks := [3]) (by decide) (pk_cons rfl pk_nil)⟩)
theorem F_etchhouseref3_flat_ok : ∀ (N : Nat) {w : Bs} (p0 : (List TPlotStep)) (Ap0_0 : Option Addr) (cp0_0 : Nat) (hp0_0 : Sl w.O w.W fl_TPlotStep Ap0_0 cp0_0 p0) (p1 : TPoint) (r : (List TPlotStep)) (H : F_etchhouseref3_flat N p0 p1 = some r) (hE : HF w w.W (LEn [emp])), Calls Tryd.prog 30 [(.slice Ap0_0 (p0).length cp0_0), (.agg #[(iv p1.X), (iv p1.Y)])].toArray w.W fun e W' => ∃ (w' : Bs) (u : (Option Addr × Nat × List (DE fl_TPlotStep))), w.Le w' ∧ e = .returned (.slice u.1 (r).length u.2.1) ∧ ((DC u.2.2 r ∧ SlF u.1 (r).length u.2.1)) ∧ HF w' W' (LEn [dq u.1 (r).length u.2.1 46 27 ln_TPlotStep u.2.2])
 | 0 => by intros; rename_i H _; cases H
 | N + 1 => F_etchhouseref3_flat_b_ok N (F_etchhouseref3_flat N) (F_etchhouseref3_flat_ok N)

end Go.Proofs.YtneghcpnehiffaaDoor
