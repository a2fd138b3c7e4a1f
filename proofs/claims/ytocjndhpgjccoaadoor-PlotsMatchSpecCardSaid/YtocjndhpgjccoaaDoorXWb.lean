/- The walks: each function computes its plain function. -/
import Derived.Test.YtocjndhpgjccoaaDoorXWa
namespace Go.Proofs.YtocjndhpgjccoaaDoor
open Go.RowKit
set_option maxRecDepth 100000
set_option maxHeartbeats 1000000
theorem F_plot_Text_ok (N : Nat) {w : Bs} (hT : Tab Tryd.prog w) (p0 : TPlot) (Ap0_0 : Option Addr) (cp0_0 : Nat) (hp0_0 : Sl w.R w.W fl_TPlotTool Ap0_0 cp0_0 p0.Tools) (Ap0_1 : Option Addr) (cp0_1 : Nat) (hp0_1 : Sl w.R w.W fl_TPlotStep Ap0_1 cp0_1 p0.Steps) (r : (ByteArray × Int)) (H : F_plot_Text N p0 = some r) (hE : HF w w.W E0) : Calls Tryd.prog 6 [(.agg #[(.int .i64 p0.Unit), (.slice Ap0_0 (p0.Tools).length cp0_0), (.slice Ap0_1 (p0.Steps).length cp0_1)])].toArray w.W fun e W' => e = .returned (.tuple #[(.string r.1), (.int .i64 r.2)]) ∧ HF w W' E0 := by
 unfold F_plot_Text at H
 have leB := Bs.Le.refl w
 refine Tr.enter (n := 61) Tryd.func6 rfl rfl rfl hE ?_
 refine Tr.sr ?_
 refine Tr.box 1 (cs := [(.int .i64 p0.Unit), (.slice Ap0_0 (p0.Tools).length cp0_0), (.slice Ap0_1 (p0.Steps).length cp0_1)]) (wn rfl) rfl rfl rfl fun b100 => ?_
 refine Tr.asg rfl rfl ?_
 refine Tr.asg rfl rfl ?_
 refine Tr.nil (Tr.normThen ?_)
 refine Tr.seq ?_
 refine Tr.sr ?_
 refine Tr.va rfl (fun _ _ h1 h2 => run_loadN (cs := [(.int .i64 p0.Unit), (.slice Ap0_0 (p0.Tools).length cp0_0), (.slice Ap0_1 (p0.Steps).length cp0_1)]) ag_25 sz_25 (h1.ev rfl) (CellsAt.take (rdb h2 (vs := [(.int .i64 p0.Unit), (.slice Ap0_0 (p0.Tools).length cp0_0), (.slice Ap0_1 (p0.Steps).length cp0_1)]) (k := 1) rfl 0) 3) rfl) ?_
 obtain ⟨y101, hy101, H⟩ := bnd H
 refine Tr.call0 (r := (.int .i64 y101)) (wn rfl) rfl Tryd.call8 (evl_cons rfl evl_nil) (fun W hW => F_plot_CheckPlot_ok N p0 Ap0_0 cp0_0 (hp0_0.ext hW.extAll) Ap0_1 cp0_1 (hp0_1.ext hW.extAll) y101 hy101 (HF.start _)) ?_
 refine Tr.asg rfl rfl ?_
 refine Tr.nil (Tr.normThen ?_)
 refine Tr.sr ?_
 refine Tr.mv rfl rfl ?_
 refine Tr.va rfl (fun _ _ h1 h2 => run_neq (h1.ev rfl) (h1.ev rfl)) ?_
 refine Tr.nil (Tr.normThen ?_)
 refine Tr.cond rfl H (fun H => ?_) (fun H => ?_)
 ·refine Tr.sr ?_
  refine Tr.mv rfl rfl ?_
  refine Tr.asg rfl rfl ?_
  refine Tr.asg rfl rfl ?_
  refine Tr.nil (Tr.normThen ?_)
  refine Tr.ret (Tr.retThen ?_)
  obtain rfl := Option.some.inj H
  exact Tr.out (m := [(.string ByteArray.empty), (.int .i64 y101)]) [] (res_tmp rfl (res_tmp rfl res_nil)) (fun W hW => ⟨rfl, hW.low leB⟩)
 ·refine Tr.skip (Tr.normThen ?_)
  refine Tr.sr ?_
  refine Tr.sbNew (e := 5) 2 (wn rfl) rfl zb_47 fun b102 => ?_
  refine Tr.nil (Tr.normThen ?_)
  refine Tr.sr ?_
  refine Tr.va rfl (fun _ _ h1 h2 => run_fieldAddr fo_25_0 (h1.ev rfl)) ?_
  refine Tr.va rfl (fun _ _ h1 h2 => run_load1 ag_3 (h1.ev rfl) (rdb h2 (vs := [(.int .i64 p0.Unit), (.slice Ap0_0 (p0.Tools).length cp0_0), (.slice Ap0_1 (p0.Steps).length cp0_1)]) (k := 1) rfl 0) rfl) ?_
  obtain ⟨y103, hy103, H⟩ := bnd H
  refine Tr.call0 (r := (.string y103)) (wn rfl) rfl Tryd.call19 (evl_cons rfl evl_nil) (fun W hW => F_strconv_Itoa_ok (hT.ext hW.extAll) p0.Unit y103 hy103 (HF.start _)) ?_
  obtain ⟨t104, ht104, H⟩ := bnd H
  refine Tr.va rfl (fun _ _ h1 h2 => run_catS (h1.ev rfl) (h1.ev rfl) ht104) ?_
  obtain ⟨t105, ht105, H⟩ := bnd H
  refine Tr.va rfl (fun _ _ h1 h2 => run_catS (h1.ev rfl) (h1.ev rfl) ht105) ?_
  obtain ⟨y106, hy106, H⟩ := bnd H
  refine Tr.callM [2] [sb 47 5 b102 none 0 ByteArray.empty] (U := (Option Addr × Nat)) (fun u => (.tuple #[(.int .i64 ((t105 : ByteArray).size : Int)), .nilIface])) (fun u => True) (fun u => [sb 47 5 b102 u.1 u.2 y106]) rfl (pk_cons rfl pk_nil) (fun _ => rfl) (wn rfl) rfl Tryd.call18 (evl_cons rfl (evl_cons rfl evl_nil)) (fun W hW hp hE => F_strings_Builder_WriteString_ok ByteArray.empty none 0 b102 t105 y106 hy106 hE) ?_
  intro u hu
  obtain ⟨Ay106_0, cy106_0⟩ := u
  have gy106_0 := hu
  have hgy106_0 : True := gy106_0 --@phi
  show Tr _ _ (uf _ 20 (.tuple #[(.int .i64 ((t105 : ByteArray).size : Int)), .nilIface])) (up _ 2 (sb 47 5 b102 Ay106_0 cy106_0 y106)) _
  refine Tr.nil (Tr.normThen ?_)
  refine Tr.seq ?_
  refine Tr.sr ?_
  refine Tr.va rfl (fun _ _ h1 h2 => run_fieldAddr fo_25_1 (h1.ev rfl)) ?_
  refine Tr.va rfl (fun _ _ h1 h2 => run_load1 ag_22 (h1.ev rfl) (rdb h2 (vs := [(.int .i64 p0.Unit), (.slice Ap0_0 (p0.Tools).length cp0_0), (.slice Ap0_1 (p0.Steps).length cp0_1)]) (k := 1) rfl 1) rfl) ?_
  refine Tr.va rfl (fun _ _ h1 h2 => run_len un_22 (h1.ev rfl)) ?_
  refine Tr.mv rfl rfl ?_
  refine Tr.nil (Tr.normThen ?_)
  refine Tr.block ?_
  refine Tr.loop (σ := (List TPlotTool) × Nat × ByteArray × (Option Addr) × Nat) (fun m w s => m = s.1.length + 1 ∧ s.1 = List.drop s.2.1 p0.Tools ∧ s.2.1 ≤ p0.Tools.length ∧ F_plot_Text_L3 N p0 s.1 s.2.1 s.2.2.1 = some r) (fun s => [(1, (.pointer (some ⟨b100, 0, none⟩))), (5, (.pointer (some ⟨b102, 0, none⟩))), (22, (.slice Ap0_0 (p0.Tools).length cp0_0)), (23, (.int .i64 (p0.Tools.length : Int))), (24, (.int .i64 (s.2.1 : Int)))]) (fun s => [(1, bx b100 #[(.int .i64 p0.Unit), (.slice Ap0_0 (p0.Tools).length cp0_0), (.slice Ap0_1 (p0.Steps).length cp0_1)] 25), (2, sb 47 5 b102 s.2.2.2.1 s.2.2.2.2 s.2.2.1)]) (p0.Tools.length + 1) (p0.Tools, 0, y106, Ay106_0, cy106_0) ⟨rfl, rfl, Nat.zero_le _, H⟩ (.cons rfl (.cons rfl (.cons rfl (.cons rfl (.cons rfl .nil))))) (.cons rfl (.cons rfl .nil)) (fun _ _ h => absurd h.1 (by simp)) ?_
  intro w leF_plot_Text_L3 m s hs
  obtain ⟨restF_plot_Text_L3, iF_plot_Text_L3, m178, Am178, cm178⟩ := s
  obtain ⟨hmF_plot_Text_L3, hdF_plot_Text_L3, hiF_plot_Text_L3, H⟩ := hs
  replace hdF_plot_Text_L3 : restF_plot_Text_L3 = List.drop iF_plot_Text_L3 p0.Tools := hdF_plot_Text_L3
  replace H : F_plot_Text_L3 N p0 restF_plot_Text_L3 iF_plot_Text_L3 m178 = some r := H
  replace hmF_plot_Text_L3 : m + 1 = restF_plot_Text_L3.length + 1 := hmF_plot_Text_L3
  replace hT := hT.ext leF_plot_Text_L3.ext
  replace hp0_0 := hp0_0.leR leF_plot_Text_L3
  replace hp0_1 := hp0_1.leR leF_plot_Text_L3
  replace leB := leB.trans leF_plot_Text_L3
  obtain rfl : m = restF_plot_Text_L3.length := by omega
  clear hmF_plot_Text_L3
  show Tr _ _ (LF [(1, (.pointer (some ⟨b100, 0, none⟩))), (5, (.pointer (some ⟨b102, 0, none⟩))), (22, (.slice Ap0_0 (p0.Tools).length cp0_0)), (23, (.int .i64 (p0.Tools.length : Int))), (24, (.int .i64 (iF_plot_Text_L3 : Int)))]) (LE [(1, bx b100 #[(.int .i64 p0.Unit), (.slice Ap0_0 (p0.Tools).length cp0_0), (.slice Ap0_1 (p0.Steps).length cp0_1)] 25), (2, sb 47 5 b102 Am178 cm178 m178)]) _
  cases restF_plot_Text_L3 with
  | nil =>
   rw [F_plot_Text_L3.eq_1] at H
   refine Tr.sr ?_
   refine Tr.va rfl (fun _ _ h1 h2 => run_lss (h1.ev rfl) (h1.ev rfl)) ?_
   refine Tr.nil (Tr.normThen ?_)
   refine Tr.seq ?_
   refine Tr.condF rfl (range_nil hdF_plot_Text_L3) ?_
   refine Tr.exit (Tr.exitThen (Tr.exitThen (Tr.exitBlock (Tr.normThen ?_))))
   refine Tr.sr ?_
   refine Tr.va rfl (fun _ _ h1 h2 => run_fieldAddr fo_25_2 (h1.ev rfl)) ?_
   refine Tr.va rfl (fun _ _ h1 h2 => run_load1 ag_23 (h1.ev rfl) (rdb h2 (vs := [(.int .i64 p0.Unit), (.slice Ap0_0 (p0.Tools).length cp0_0), (.slice Ap0_1 (p0.Steps).length cp0_1)]) (k := 1) rfl 2) rfl) ?_
   obtain ⟨y179, hy179, H⟩ := bnd H
   refine Tr.callM [2] [sb 47 5 b102 Am178 cm178 m178] (U := (Option Addr × Nat)) (fun u => (.tuple #[])) (fun u => True) (fun u => [sb 47 5 b102 u.1 u.2 y179]) rfl (pk_cons rfl pk_nil) (fun _ => rfl) (wn rfl) rfl Tryd.call21 (evl_cons rfl (evl_cons rfl evl_nil)) (fun W hW hp hE => F_plot_writeSteps_ok N (hT.ext (hW.extS hp)) m178 Am178 cm178 b102 p0.Steps Ap0_1 cp0_1 (hp0_1.ext (hW.extS hp)) y179 hy179 hE) ?_
   intro u hu
   obtain ⟨Ay179_0, cy179_0⟩ := u
   have gy179_0 := hu
   have hgy179_0 : True := gy179_0 --@phi
   show Tr _ _ (uf _ 57 (.tuple #[])) (up _ 2 (sb 47 5 b102 Ay179_0 cy179_0 y179)) _
   refine Tr.nil (Tr.normThen ?_)
   refine Tr.seq ?_
   refine Tr.sr ?_
   obtain ⟨y181, hy181, H⟩ := bnd H
   refine Tr.callM [2] [sb 47 5 b102 Ay179_0 cy179_0 y179] (U := (Option Addr × Nat)) (fun u => (.int .i64 y181.1)) (fun u => True) (fun u => [sb 47 5 b102 u.1 u.2 y181.2]) rfl (pk_cons rfl pk_nil) (fun _ => rfl) (wn rfl) rfl Tryd.call22 (evl_cons rfl evl_nil) (fun W hW hp hE => F_strings_Builder_Len_ok y179 Ay179_0 cy179_0 b102 y181 hy181 hE) ?_
   intro u hu
   obtain ⟨Ay181_0, cy181_0⟩ := u
   have gy181_0 := hu
   have hgy181_0 : True := gy181_0 --@phi
   show Tr _ _ (uf _ 58 (.int .i64 y181.1)) (up _ 2 (sb 47 5 b102 Ay181_0 cy181_0 y181.2)) _
   refine Tr.va rfl (fun _ _ h1 h2 => run_gtr (h1.ev rfl) (h1.ev rfl)) ?_
   refine Tr.nil (Tr.normThen ?_)
   refine Tr.cond rfl H (fun H => ?_) (fun H => ?_)
   ·refine Tr.sr ?_
    refine Tr.asg rfl rfl ?_
    refine Tr.asg rfl rfl ?_
    refine Tr.nil (Tr.normThen ?_)
    refine Tr.ret (Tr.retThen ?_)
    obtain rfl := Option.some.inj H
    exact Tr.out (m := [(.string ByteArray.empty), (.int .i64 2)]) [] (res_tmp rfl (res_tmp rfl res_nil)) (fun W hW => ⟨rfl, hW.low leB⟩)
   ·refine Tr.skip (Tr.normThen ?_)
    refine Tr.sr ?_
    obtain ⟨y183, hy183, H⟩ := bnd H
    refine Tr.callM [2] [sb 47 5 b102 Ay181_0 cy181_0 y181.2] (U := (Option Addr × Nat)) (fun u => (.string y183.1)) (fun u => True) (fun u => [sb 47 5 b102 u.1 u.2 y183.2]) rfl (pk_cons rfl pk_nil) (fun _ => rfl) (wn rfl) rfl Tryd.call23 (evl_cons rfl evl_nil) (fun W hW hp hE => F_strings_Builder_String_ok y181.2 Ay181_0 cy181_0 b102 y183 hy183 hE) ?_
    intro u hu
    obtain ⟨Ay183_0, cy183_0⟩ := u
    have gy183_0 := hu
    have hgy183_0 : True := gy183_0 --@phi
    show Tr _ _ (uf _ 60 (.string y183.1)) (up _ 2 (sb 47 5 b102 Ay183_0 cy183_0 y183.2)) _
    refine Tr.asg rfl rfl ?_
    refine Tr.asg rfl rfl ?_
    refine Tr.nil (Tr.normThen ?_)
    refine Tr.ret ?_
    obtain rfl := Option.some.inj H
    exact Tr.out (m := [(.string y183.1), (.int .i64 0)]) [] (res_tmp rfl (res_tmp rfl res_nil)) (fun W hW => ⟨rfl, hW.low leB⟩)
  | cons xF_plot_Text_L3 restF_plot_Text_L3 =>
   rw [F_plot_Text_L3.eq_2] at H
   refine Tr.sr ?_
   refine Tr.va rfl (fun _ _ h1 h2 => run_lss (h1.ev rfl) (h1.ev rfl)) ?_
   refine Tr.nil (Tr.normThen ?_)
   refine Tr.seq ?_
   refine Tr.condT rfl (range_on hdF_plot_Text_L3) ?_
   refine Tr.skip (Tr.normThen ?_)
   refine Tr.seq ?_
   refine Tr.block ?_
   refine Tr.sr ?_
   obtain ⟨u185, hRu185, hoku185, hcu185⟩ := (hp0_0).el (range_at hdF_plot_Text_L3)
   obtain ⟨Au185_0, cu185_0⟩ := u185
   have hoku185_0 := hoku185
   replace hoku185_0 : Sl w.R w.W fl_TRect Au185_0 cu185_0 xF_plot_Text_L3.Rects := hoku185_0
   refine Tr.va rfl (fun _ _ h1 h2 => run_indexAddr el_22 (h1.ev rfl) hp0_0.form (h1.ev rfl) (Int.natCast_nonneg _) (range_lt hdF_plot_Text_L3)) ?_
   refine Tr.va rfl (fun _ _ h1 h2 => run_loadN (cs := [(.string xF_plot_Text_L3.Name), (.slice Au185_0 (xF_plot_Text_L3.Rects).length cu185_0)]) ag_55 sz_55 (h1.ev rfl) (CellsAt.take (rdR hRu185 hcu185 h2) 2) rfl) ?_
   refine Tr.alloc 17 (wn rfl) rfl ze_55 fun b186 => ?_
   refine Tr.store 17 (cs := [(.string xF_plot_Text_L3.Name), (.slice Au185_0 (xF_plot_Text_L3.Rects).length cu185_0)]) [(.string xF_plot_Text_L3.Name), (.slice Au185_0 (xF_plot_Text_L3.Rects).length cu185_0)] (wn rfl) rfl rfl rfl rfl sz_55 rfl rfl rfl ?_
   refine Tr.nil (Tr.normThen ?_)
   refine Tr.sr ?_
   refine Tr.va rfl (fun _ _ h1 h2 => run_fieldAddr fo_55_0 (h1.ev rfl)) ?_
   refine Tr.va rfl (fun _ _ h1 h2 => run_load1 ag_9 (h1.ev rfl) (rdb h2 (vs := [(.string xF_plot_Text_L3.Name), (.slice Au185_0 (xF_plot_Text_L3.Rects).length cu185_0)]) (k := 17) rfl 0) rfl) ?_
   obtain ⟨t187, ht187, H⟩ := bnd H
   refine Tr.va rfl (fun _ _ h1 h2 => run_catS (h1.ev rfl) (h1.ev rfl) ht187) ?_
   obtain ⟨y188, hy188, H⟩ := bnd H
   refine Tr.callM [2] [sb 47 5 b102 Am178 cm178 m178] (U := (Option Addr × Nat)) (fun u => (.tuple #[(.int .i64 ((t187 : ByteArray).size : Int)), .nilIface])) (fun u => True) (fun u => [sb 47 5 b102 u.1 u.2 y188]) rfl (pk_cons rfl pk_nil) (fun _ => rfl) (wn rfl) rfl Tryd.call18 (evl_cons rfl (evl_cons rfl evl_nil)) (fun W hW hp hE => F_strings_Builder_WriteString_ok m178 Am178 cm178 b102 t187 y188 hy188 hE) ?_
   intro u hu
   obtain ⟨Ay188_0, cy188_0⟩ := u
   have gy188_0 := hu
   have hgy188_0 : True := gy188_0 --@phi
   show Tr _ _ (uf _ 31 (.tuple #[(.int .i64 ((t187 : ByteArray).size : Int)), .nilIface])) (up _ 2 (sb 47 5 b102 Ay188_0 cy188_0 y188)) _
   refine Tr.nil (Tr.normThen ?_)
   refine Tr.seq ?_
   refine Tr.sr ?_
   refine Tr.va rfl (fun _ _ h1 h2 => run_fieldAddr fo_55_1 (h1.ev rfl)) ?_
   refine Tr.va rfl (fun _ _ h1 h2 => run_load1 ag_53 (h1.ev rfl) (rdb h2 (vs := [(.string xF_plot_Text_L3.Name), (.slice Au185_0 (xF_plot_Text_L3.Rects).length cu185_0)]) (k := 17) rfl 1) rfl) ?_
   refine Tr.va rfl (fun _ _ h1 h2 => run_len un_53 (h1.ev rfl)) ?_
   refine Tr.mv rfl rfl ?_
   refine Tr.nil (Tr.normThen ?_)
   refine Tr.block ?_
   refine Tr.loop (σ := (List TRect) × Nat × ByteArray × (Option Addr) × Nat) (fun m w s => m = s.1.length + 1 ∧ s.1 = List.drop s.2.1 xF_plot_Text_L3.Rects ∧ s.2.1 ≤ xF_plot_Text_L3.Rects.length ∧ F_plot_Text_L4 (F_plot_Text_L3 N p0 restF_plot_Text_L3 (iF_plot_Text_L3 + 1)) s.1 s.2.1 s.2.2.1 = some r) (fun s => [(1, (.pointer (some ⟨b100, 0, none⟩))), (5, (.pointer (some ⟨b102, 0, none⟩))), (22, (.slice Ap0_0 (p0.Tools).length cp0_0)), (23, (.int .i64 (p0.Tools.length : Int))), (24, (.int .i64 (iF_plot_Text_L3 : Int))), (33, (.slice Au185_0 (xF_plot_Text_L3.Rects).length cu185_0)), (34, (.int .i64 (xF_plot_Text_L3.Rects.length : Int))), (35, (.int .i64 (s.2.1 : Int)))]) (fun s => [(1, bx b100 #[(.int .i64 p0.Unit), (.slice Ap0_0 (p0.Tools).length cp0_0), (.slice Ap0_1 (p0.Steps).length cp0_1)] 25), (2, sb 47 5 b102 s.2.2.2.1 s.2.2.2.2 s.2.2.1)]) (xF_plot_Text_L3.Rects.length + 1) (xF_plot_Text_L3.Rects, 0, y188, Ay188_0, cy188_0) ⟨rfl, rfl, Nat.zero_le _, H⟩ (.cons rfl (.cons rfl (.cons rfl (.cons rfl (.cons rfl (.cons rfl (.cons rfl (.cons rfl .nil)))))))) (.cons rfl (.cons rfl .nil)) (fun _ _ h => absurd h.1 (by simp)) ?_
   intro w leF_plot_Text_L4 m s hs
   obtain ⟨restF_plot_Text_L4, iF_plot_Text_L4, m208, Am208, cm208⟩ := s
   obtain ⟨hmF_plot_Text_L4, hdF_plot_Text_L4, hiF_plot_Text_L4, H⟩ := hs
   replace hdF_plot_Text_L4 : restF_plot_Text_L4 = List.drop iF_plot_Text_L4 xF_plot_Text_L3.Rects := hdF_plot_Text_L4
   replace H : F_plot_Text_L4 (F_plot_Text_L3 N p0 restF_plot_Text_L3 (iF_plot_Text_L3 + 1)) restF_plot_Text_L4 iF_plot_Text_L4 m208 = some r := H
   replace hmF_plot_Text_L4 : m + 1 = restF_plot_Text_L4.length + 1 := hmF_plot_Text_L4
   replace hT := hT.ext leF_plot_Text_L4.ext
   replace hp0_0 := hp0_0.leR leF_plot_Text_L4
   replace hp0_1 := hp0_1.leR leF_plot_Text_L4
   replace hoku185_0 := hoku185_0.leR leF_plot_Text_L4
   replace leB := leB.trans leF_plot_Text_L4
   replace leF_plot_Text_L3 := leF_plot_Text_L3.trans leF_plot_Text_L4
   obtain rfl : m = restF_plot_Text_L4.length := by omega
   clear hmF_plot_Text_L4
   show Tr _ _ (LF [(1, (.pointer (some ⟨b100, 0, none⟩))), (5, (.pointer (some ⟨b102, 0, none⟩))), (22, (.slice Ap0_0 (p0.Tools).length cp0_0)), (23, (.int .i64 (p0.Tools.length : Int))), (24, (.int .i64 (iF_plot_Text_L3 : Int))), (33, (.slice Au185_0 (xF_plot_Text_L3.Rects).length cu185_0)), (34, (.int .i64 (xF_plot_Text_L3.Rects.length : Int))), (35, (.int .i64 (iF_plot_Text_L4 : Int)))]) (LE [(1, bx b100 #[(.int .i64 p0.Unit), (.slice Ap0_0 (p0.Tools).length cp0_0), (.slice Ap0_1 (p0.Steps).length cp0_1)] 25), (2, sb 47 5 b102 Am208 cm208 m208)]) _
   cases restF_plot_Text_L4 with
   | nil =>
    rw [F_plot_Text_L4.eq_1] at H
    refine Tr.sr ?_
    refine Tr.va rfl (fun _ _ h1 h2 => run_lss (h1.ev rfl) (h1.ev rfl)) ?_
    refine Tr.nil (Tr.normThen ?_)
    refine Tr.seq ?_
    refine Tr.condF rfl (range_nil hdF_plot_Text_L4) ?_
    refine Tr.exit (Tr.exitThen (Tr.exitThen (Tr.exitBlock (Tr.normThen ?_))))
    refine Tr.region ?_
    obtain ⟨y209, hy209, H⟩ := bnd H
    refine Tr.callM [2] [sb 47 5 b102 Am208 cm208 m208] (U := (Option Addr × Nat)) (fun u => (.tuple #[(.int .i64 (((⟨#[10]⟩) : ByteArray).size : Int)), .nilIface])) (fun u => True) (fun u => [sb 47 5 b102 u.1 u.2 y209]) rfl (pk_cons rfl pk_nil) (fun _ => rfl) (wn rfl) rfl Tryd.call18 (evl_cons rfl (evl_cons rfl evl_nil)) (fun W hW hp hE => F_strings_Builder_WriteString_ok m208 Am208 cm208 b102 (⟨#[10]⟩) y209 hy209 hE) ?_
    intro u hu
    obtain ⟨Ay209_0, cy209_0⟩ := u
    have gy209_0 := hu
    have hgy209_0 : True := gy209_0 --@phi
    show Tr _ _ (uf _ 53 (.tuple #[(.int .i64 (((⟨#[10]⟩) : ByteArray).size : Int)), .nilIface])) (up _ 2 (sb 47 5 b102 Ay209_0 cy209_0 y209)) _
    refine Tr.nil (Tr.normBlock (Tr.normThen ?_))
    refine Tr.region ?_
    refine Tr.va rfl (fun _ _ h1 h2 => run_add (h1.ev rfl) (h1.ev rfl)) ?_
    refine Tr.mv rfl rfl ?_
    refine Tr.nil ?_
    exact Tr.backThen leF_plot_Text_L3 (restF_plot_Text_L3, (iF_plot_Text_L3 + 1), y209, Ay209_0, cy209_0) ⟨rfl, range_tl hdF_plot_Text_L3, range_lt hdF_plot_Text_L3, H⟩ (.cons rfl (.cons rfl (.cons rfl (.cons rfl (.cons (congrArg (fun z => some (Value.int .i64 z)) (range_up hdF_plot_Text_L3 hp0_0.form)) .nil))))) (.cons rfl (.cons rfl .nil))
   | cons xF_plot_Text_L4 restF_plot_Text_L4 =>
    rw [F_plot_Text_L4.eq_2] at H
    refine Tr.sr ?_
    refine Tr.va rfl (fun _ _ h1 h2 => run_lss (h1.ev rfl) (h1.ev rfl)) ?_
    refine Tr.nil (Tr.normThen ?_)
    refine Tr.seq ?_
    refine Tr.condT rfl (range_on hdF_plot_Text_L4) ?_
    refine Tr.skip (Tr.normThen ?_)
    refine Tr.seq ?_
    refine Tr.block ?_
    refine Tr.sr ?_
    refine Tr.va rfl (fun _ _ h1 h2 => run_indexAddr el_53 (h1.ev rfl) hoku185_0.form (h1.ev rfl) (Int.natCast_nonneg _) (range_lt hdF_plot_Text_L4)) ?_
    refine Tr.va rfl (fun _ _ h1 h2 => run_loadN (cs := [(.int .i64 xF_plot_Text_L4.X0), (.int .i64 xF_plot_Text_L4.Y0), (.int .i64 xF_plot_Text_L4.X1), (.int .i64 xF_plot_Text_L4.Y1)]) ag_57 sz_57 (h1.ev rfl) (CellsAt.take (rdF ef_TRect hoku185_0 (range_at hdF_plot_Text_L4) h2) 4) rfl) ?_
    refine Tr.alloc 22 (wn rfl) rfl ze_57 fun b211 => ?_
    refine Tr.store 22 (cs := [(.int .i64 xF_plot_Text_L4.X0), (.int .i64 xF_plot_Text_L4.Y0), (.int .i64 xF_plot_Text_L4.X1), (.int .i64 xF_plot_Text_L4.Y1)]) [(.int .i64 xF_plot_Text_L4.X0), (.int .i64 xF_plot_Text_L4.Y0), (.int .i64 xF_plot_Text_L4.X1), (.int .i64 xF_plot_Text_L4.Y1)] (wn rfl) rfl rfl rfl rfl sz_57 rfl rfl rfl ?_
    refine Tr.nil (Tr.normThen ?_)
    refine Tr.region ?_
    refine Tr.va rfl (fun _ _ h1 h2 => run_fieldAddr fo_57_0 (h1.ev rfl)) ?_
    refine Tr.va rfl (fun _ _ h1 h2 => run_load1 ag_3 (h1.ev rfl) (rdb h2 (vs := [(.int .i64 xF_plot_Text_L4.X0), (.int .i64 xF_plot_Text_L4.Y0), (.int .i64 xF_plot_Text_L4.X1), (.int .i64 xF_plot_Text_L4.Y1)]) (k := 22) rfl 0) rfl) ?_
    refine Tr.va rfl (fun _ _ h1 h2 => run_fieldAddr fo_57_1 (h1.ev rfl)) ?_
    refine Tr.va rfl (fun _ _ h1 h2 => run_load1 ag_3 (h1.ev rfl) (rdb h2 (vs := [(.int .i64 xF_plot_Text_L4.X0), (.int .i64 xF_plot_Text_L4.Y0), (.int .i64 xF_plot_Text_L4.X1), (.int .i64 xF_plot_Text_L4.Y1)]) (k := 22) rfl 1) rfl) ?_
    refine Tr.build (vs := [(0, (.int .i64 xF_plot_Text_L4.X0)), (1, (.int .i64 xF_plot_Text_L4.Y0))]) (cs := [(.int .i64 xF_plot_Text_L4.X0), (.int .i64 xF_plot_Text_L4.Y0)]) (wn rfl) rfl (evs_cons rfl (evs_cons rfl evs_nil)) (by kernel_rfl) ?_
    refine Tr.va rfl (fun _ _ h1 h2 => run_fieldAddr fo_57_2 (h1.ev rfl)) ?_
    refine Tr.va rfl (fun _ _ h1 h2 => run_load1 ag_3 (h1.ev rfl) (rdb h2 (vs := [(.int .i64 xF_plot_Text_L4.X0), (.int .i64 xF_plot_Text_L4.Y0), (.int .i64 xF_plot_Text_L4.X1), (.int .i64 xF_plot_Text_L4.Y1)]) (k := 22) rfl 2) rfl) ?_
    refine Tr.va rfl (fun _ _ h1 h2 => run_fieldAddr fo_57_3 (h1.ev rfl)) ?_
    refine Tr.va rfl (fun _ _ h1 h2 => run_load1 ag_3 (h1.ev rfl) (rdb h2 (vs := [(.int .i64 xF_plot_Text_L4.X0), (.int .i64 xF_plot_Text_L4.Y0), (.int .i64 xF_plot_Text_L4.X1), (.int .i64 xF_plot_Text_L4.Y1)]) (k := 22) rfl 3) rfl) ?_
    refine Tr.build (vs := [(0, (.int .i64 xF_plot_Text_L4.X1)), (1, (.int .i64 xF_plot_Text_L4.Y1))]) (cs := [(.int .i64 xF_plot_Text_L4.X1), (.int .i64 xF_plot_Text_L4.Y1)]) (wn rfl) rfl (evs_cons rfl (evs_cons rfl evs_nil)) (by kernel_rfl) ?_
    refine Tr.buildSlice 23 (e := 37) (vs := [(0, (.agg #[(.int .i64 xF_plot_Text_L4.X0), (.int .i64 xF_plot_Text_L4.Y0)])), (1, (.agg #[(.int .i64 xF_plot_Text_L4.X1), (.int .i64 xF_plot_Text_L4.Y1)]))]) (cs := [(.int .i64 xF_plot_Text_L4.X0), (.int .i64 xF_plot_Text_L4.Y0), (.int .i64 xF_plot_Text_L4.X1), (.int .i64 xF_plot_Text_L4.Y1)]) (wn rfl) rfl (evs_cons rfl (evs_cons rfl evs_nil)) (by kernel_rfl) fun b212 => ?_
    refine Tr.own 23 fl_TPoint [(TPoint.mk xF_plot_Text_L4.X0 xF_plot_Text_L4.Y0), (TPoint.mk xF_plot_Text_L4.X1 xF_plot_Text_L4.Y1)] (css := [[(.int .i64 xF_plot_Text_L4.X0), (.int .i64 xF_plot_Text_L4.Y0)], [(.int .i64 xF_plot_Text_L4.X1), (.int .i64 xF_plot_Text_L4.Y1)]]) rfl (.cons ⟨(), trivial, rfl⟩ (.cons ⟨(), trivial, rfl⟩ .nil)) rfl (by decide) (lit_max rfl) ?_
    obtain ⟨y213, hy213, H⟩ := bnd H
    refine Tr.call0 (r := (.string y213)) (wn rfl) rfl Tryd.call20 (evl_cons rfl evl_nil) (fun W hW => F_plot_points_ok (hT.ext hW.extAll) [(TPoint.mk xF_plot_Text_L4.X0 xF_plot_Text_L4.Y0), (TPoint.mk xF_plot_Text_L4.X1 xF_plot_Text_L4.Y1)] (some ⟨b212, 0, none⟩) 2 (hW.slCall (k := 23) rfl) y213 hy213 (HF.start _)) ?_
    obtain ⟨y214, hy214, H⟩ := bnd H
    refine Tr.callM [2] [sb 47 5 b102 Am208 cm208 m208] (U := (Option Addr × Nat)) (fun u => (.tuple #[(.int .i64 ((y213 : ByteArray).size : Int)), .nilIface])) (fun u => True) (fun u => [sb 47 5 b102 u.1 u.2 y214]) rfl (pk_cons rfl pk_nil) (fun _ => rfl) (wn rfl) rfl Tryd.call18 (evl_cons rfl (evl_cons rfl evl_nil)) (fun W hW hp hE => F_strings_Builder_WriteString_ok m208 Am208 cm208 b102 y213 y214 hy214 hE) ?_
    intro u hu
    obtain ⟨Ay214_0, cy214_0⟩ := u
    have gy214_0 := hu
    have hgy214_0 : True := gy214_0 --@phi
    show Tr _ _ (uf _ 51 (.tuple #[(.int .i64 ((y213 : ByteArray).size : Int)), .nilIface])) (up _ 2 (sb 47 5 b102 Ay214_0 cy214_0 y214)) _
    refine Tr.nil (Tr.normBlock (Tr.normThen ?_))
    refine Tr.region ?_
    refine Tr.va rfl (fun _ _ h1 h2 => run_add (h1.ev rfl) (h1.ev rfl)) ?_
    refine Tr.mv rfl rfl ?_
    refine Tr.nil ?_
    exact Tr.backThen leF_plot_Text_L4 (restF_plot_Text_L4, (iF_plot_Text_L4 + 1), y214, Ay214_0, cy214_0) ⟨rfl, range_tl hdF_plot_Text_L4, range_lt hdF_plot_Text_L4, H⟩ (.cons rfl (.cons rfl (.cons rfl (.cons rfl (.cons rfl (.cons rfl (.cons rfl (.cons (congrArg (fun z => some (Value.int .i64 z)) (range_up hdF_plot_Text_L4 hoku185_0.form)) .nil)))))))) (.cons rfl (.cons rfl .nil))

theorem F_etchhouseref3_within_ok {w : Bs} (p0 : Int) (p1 : Int) (p2 : Int) (r : Bool) (H : F_etchhouseref3_within p0 p1 p2 = some r) (hE : HF w w.W E0) : Calls Tryd.prog 30 [(.int .i64 p0), (.int .i64 p1), (.int .i64 p2)].toArray w.W fun e W' => e = .returned (.bool r) ∧ HF w W' E0 := by
 unfold F_etchhouseref3_within at H
 have leB := Bs.Le.refl w
 refine Tr.enter (n := 15) Tryd.func30 rfl rfl rfl hE ?_
 refine Tr.sr ?_
 refine Tr.asg rfl rfl ?_
 refine Tr.nil (Tr.normThen ?_)
 refine Tr.sr ?_
 refine Tr.mv rfl rfl ?_
 refine Tr.mv rfl rfl ?_
 refine Tr.va rfl (fun _ _ h1 h2 => run_geq (h1.ev rfl) (h1.ev rfl)) ?_
 refine Tr.mv rfl rfl ?_
 refine Tr.mid0 4 [(14, (.bool ((decide (p1 ≤ p0)) && (decide (p0 ≤ p2)))))] [] ?_ ?_
 ·cases hg99 : (decide (p1 ≤ p0))
  ·refine Tr.pass rfl rfl rfl rfl rfl (by decide) ?_
   refine Tr.pass rfl rfl rfl rfl rfl (by decide) ?_
   refine Tr.pass rfl rfl rfl rfl rfl (by decide) ?_
   refine Tr.va rfl (fun _ _ h1 h2 => run_pickF (h1.ev rfl) (h1.ev rfl)) ?_
   exact Tr.nil (Tr.fin0 (.cons rfl .nil) .nil)
  ·refine Tr.val (wg rfl rfl rfl) rfl (fun _ _ h1 h2 => run_move (h1.ev rfl)) ?_
   refine Tr.val (wg rfl rfl rfl) rfl (fun _ _ h1 h2 => run_move (h1.ev rfl)) ?_
   refine Tr.val (wg rfl rfl rfl) rfl (fun _ _ h1 h2 => run_leq (h1.ev rfl) (h1.ev rfl)) ?_
   refine Tr.va rfl (fun _ _ h1 h2 => run_pickT (h1.ev rfl) (h1.ev rfl)) ?_
   exact Tr.nil (Tr.fin0 (.cons rfl .nil) .nil)
 ·show Tr _ _ (LF [(14, (.bool ((decide (p1 ≤ p0)) && (decide (p0 ≤ p2)))))]) (LE []) _
  refine Tr.asg rfl rfl ?_
  refine Tr.nil (Tr.normThen ?_)
  refine Tr.ret ?_
  obtain rfl := Option.some.inj H
  exact Tr.out (m := [(.bool ((decide (p1 ≤ p0)) && (decide (p0 ≤ p2))))]) [] (res_tmp rfl res_nil) (fun W hW => ⟨rfl, hW.low leB⟩)

theorem F_etchhouseref3_IsName_ok (N : Nat) {w : Bs} (p0 : ByteArray) (r : Bool) (H : F_etchhouseref3_IsName N p0 = some r) (hE : HF w w.W E0) : Calls Tryd.prog 31 [(.string p0)].toArray w.W fun e W' => e = .returned (.bool r) ∧ HF w W' E0 := by
 unfold F_etchhouseref3_IsName at H
 have leB := Bs.Le.refl w
 refine Tr.enter (n := 55) Tryd.func31 rfl rfl rfl hE ?_
 refine Tr.sr ?_
 refine Tr.asg rfl rfl ?_
 refine Tr.nil (Tr.normThen ?_)
 refine Tr.seq ?_
 refine Tr.sr ?_
 refine Tr.asg rfl rfl ?_
 refine Tr.nil (Tr.normThen ?_)
 refine Tr.block ?_
 refine Tr.loop (σ := Int) (fun m w s => F_etchhouseref3_IsName_L1 p0 m s = some r) (fun s => [(0, (.string p0)), (3, (.int .i64 s))]) (fun s => []) N 0 H (.cons rfl (.cons rfl .nil)) .nil (fun _ _ h => noSome (h)) ?_
 intro w leF_etchhouseref3_IsName_L1 mF_etchhouseref3_IsName_L1 x105 hs
 have H := hs
 replace H : F_etchhouseref3_IsName_L1 p0 (mF_etchhouseref3_IsName_L1 + 1) x105 = some r := H
 replace leB := leB.trans leF_etchhouseref3_IsName_L1
 rw [F_etchhouseref3_IsName_L1.eq_2] at H
 show Tr _ _ (LF [(0, (.string p0)), (3, (.int .i64 x105))]) (LE []) _
 refine Tr.seq ?_
 refine Tr.sr ?_
 refine Tr.mv rfl rfl ?_
 refine Tr.mv rfl rfl ?_
 refine Tr.va rfl (fun _ _ h1 h2 => run_lenS un_9 (h1.ev rfl)) ?_
 refine Tr.va rfl (fun _ _ h1 h2 => run_lss (h1.ev rfl) (h1.ev rfl)) ?_
 refine Tr.nil (Tr.normThen ?_)
 refine Tr.cond rfl H (fun H => ?_) (fun H => ?_)
 ·refine Tr.skip (Tr.normThen ?_)
  refine Tr.seq ?_
  refine Tr.block ?_
  refine Tr.sr ?_
  refine Tr.mv rfl rfl ?_
  refine Tr.mv rfl rfl ?_
  obtain ⟨c106, hc106, H⟩ := bnd H
  refine Tr.va rfl (fun _ _ h1 h2 => run_indexS un_9 (h1.ev rfl) (h1.ev rfl) hc106) ?_
  refine Tr.asg rfl rfl ?_
  refine Tr.nil (Tr.normThen ?_)
  refine Tr.sr ?_
  refine Tr.mv rfl rfl ?_
  refine Tr.va rfl (fun _ _ h1 h2 => run_geq (h1.ev rfl) (h1.ev rfl)) ?_
  refine Tr.mv rfl rfl ?_
  refine Tr.mid0 3 [(0, (.string p0)), (3, (.int .i64 x105)), (4, (.int .u8 c106)), (20, (.bool ((decide (97 ≤ c106)) && (decide (c106 ≤ 122)))))] [] ?_ ?_
  ·cases hg106 : (decide (97 ≤ c106))
   ·refine Tr.pass rfl rfl rfl rfl rfl (by decide) ?_
    refine Tr.pass rfl rfl rfl rfl rfl (by decide) ?_
    refine Tr.va rfl (fun _ _ h1 h2 => run_pickF (h1.ev rfl) (h1.ev rfl)) ?_
    exact Tr.nil (Tr.fin0 (.cons rfl (.cons rfl (.cons rfl (.cons rfl .nil)))) .nil)
   ·refine Tr.val (wg rfl rfl rfl) rfl (fun _ _ h1 h2 => run_move (h1.ev rfl)) ?_
    refine Tr.val (wg rfl rfl rfl) rfl (fun _ _ h1 h2 => run_leq (h1.ev rfl) (h1.ev rfl)) ?_
    refine Tr.va rfl (fun _ _ h1 h2 => run_pickT (h1.ev rfl) (h1.ev rfl)) ?_
    exact Tr.nil (Tr.fin0 (.cons rfl (.cons rfl (.cons rfl (.cons rfl .nil)))) .nil)
  ·show Tr _ _ (LF [(0, (.string p0)), (3, (.int .i64 x105)), (4, (.int .u8 c106)), (20, (.bool ((decide (97 ≤ c106)) && (decide (c106 ≤ 122)))))]) (LE []) _
   refine Tr.mv rfl rfl ?_
   refine Tr.mid0 7 [(0, (.string p0)), (3, (.int .i64 x105)), (4, (.int .u8 c106)), (28, (.bool (((decide (97 ≤ c106)) && (decide (c106 ≤ 122))) || ((decide (65 ≤ c106)) && (decide (c106 ≤ 90))))))] [] ?_ ?_
   ·cases hg106 : ((decide (97 ≤ c106)) && (decide (c106 ≤ 122)))
    ·refine Tr.val (wg rfl rfl rfl) rfl (fun _ _ h1 h2 => run_move (h1.ev rfl)) ?_
     refine Tr.val (wg rfl rfl rfl) rfl (fun _ _ h1 h2 => run_geq (h1.ev rfl) (h1.ev rfl)) ?_
     refine Tr.val (wg rfl rfl rfl) rfl (fun _ _ h1 h2 => run_move (h1.ev rfl)) ?_
     refine Tr.mid0 3 [(0, (.string p0)), (3, (.int .i64 x105)), (4, (.int .u8 c106)), (21, (.bool false)), (27, (.bool ((decide (65 ≤ c106)) && (decide (c106 ≤ 90)))))] [] ?_ ?_
     ·cases hg106 : (decide (65 ≤ c106))
      ·refine Tr.pass rfl rfl rfl rfl rfl (by decide) ?_
       refine Tr.pass rfl rfl rfl rfl rfl (by decide) ?_
       refine Tr.val (wg rfl rfl rfl) rfl (fun _ _ h1 h2 => run_pickF (h1.ev rfl) (h1.ev rfl)) ?_
       exact Tr.nil (Tr.fin0 (.cons rfl (.cons rfl (.cons rfl (.cons rfl (.cons rfl .nil))))) .nil)
      ·refine Tr.val (wg rfl rfl rfl) rfl (fun _ _ h1 h2 => run_move (h1.ev rfl)) ?_
       refine Tr.val (wg rfl rfl rfl) rfl (fun _ _ h1 h2 => run_leq (h1.ev rfl) (h1.ev rfl)) ?_
       refine Tr.val (wg rfl rfl rfl) rfl (fun _ _ h1 h2 => run_pickT (h1.ev rfl) (h1.ev rfl)) ?_
       exact Tr.nil (Tr.fin0 (.cons rfl (.cons rfl (.cons rfl (.cons rfl (.cons rfl .nil))))) .nil)
     ·show Tr _ _ (LF [(0, (.string p0)), (3, (.int .i64 x105)), (4, (.int .u8 c106)), (21, (.bool false)), (27, (.bool ((decide (65 ≤ c106)) && (decide (c106 ≤ 90)))))]) (LE []) _
      refine Tr.va rfl (fun _ _ h1 h2 => run_pickF (h1.ev rfl) (h1.ev rfl)) ?_
      exact Tr.nil (Tr.fin0 (.cons rfl (.cons rfl (.cons rfl (.cons rfl .nil)))) .nil)
    ·refine Tr.pass rfl rfl rfl rfl rfl (by decide) ?_
     refine Tr.pass rfl rfl rfl rfl rfl (by decide) ?_
     refine Tr.pass rfl rfl rfl rfl rfl (by decide) ?_
     refine Tr.passU rfl rfl rfl rfl (by decide) ?_
     refine Tr.passU rfl rfl rfl rfl (by decide) ?_
     refine Tr.pass rfl rfl rfl rfl rfl (by decide) ?_
     refine Tr.va rfl (fun _ _ h1 h2 => run_pickT (h1.ev rfl) (h1.ev rfl)) ?_
     exact Tr.nil (Tr.fin0 (.cons rfl (.cons rfl (.cons rfl (.cons rfl .nil)))) .nil)
   ·show Tr _ _ (LF [(0, (.string p0)), (3, (.int .i64 x105)), (4, (.int .u8 c106)), (28, (.bool (((decide (97 ≤ c106)) && (decide (c106 ≤ 122))) || ((decide (65 ≤ c106)) && (decide (c106 ≤ 90))))))]) (LE []) _
    refine Tr.asg rfl rfl ?_
    refine Tr.nil (Tr.normThen ?_)
    refine Tr.sr ?_
    refine Tr.mv rfl rfl ?_
    refine Tr.va rfl (fun _ _ h1 h2 => run_not (h1.ev rfl)) ?_
    refine Tr.mv rfl rfl ?_
    refine Tr.mid0 20 [(0, (.string p0)), (3, (.int .i64 x105)), (51, (.bool ((!(((decide (97 ≤ c106)) && (decide (c106 ≤ 122))) || ((decide (65 ≤ c106)) && (decide (c106 ≤ 90))))) && ((x105 == 0) || (((c106 != 95) && (c106 != 45)) && (!((decide (48 ≤ c106)) && (decide (c106 ≤ 57)))))))))] [] ?_ ?_
    ·cases hg106 : (!(((decide (97 ≤ c106)) && (decide (c106 ≤ 122))) || ((decide (65 ≤ c106)) && (decide (c106 ≤ 90)))))
     ·refine Tr.pass rfl rfl rfl rfl rfl (by decide) ?_
      refine Tr.pass rfl rfl rfl rfl rfl (by decide) ?_
      refine Tr.pass rfl rfl rfl rfl rfl (by decide) ?_
      refine Tr.passU rfl rfl rfl rfl (by decide) ?_
      refine Tr.passU rfl rfl rfl rfl (by decide) ?_
      refine Tr.passU rfl rfl rfl rfl (by decide) ?_
      refine Tr.passU rfl rfl rfl rfl (by decide) ?_
      refine Tr.passU rfl rfl rfl rfl (by decide) ?_
      refine Tr.passU rfl rfl rfl rfl (by decide) ?_
      refine Tr.passU rfl rfl rfl rfl (by decide) ?_
      refine Tr.passU rfl rfl rfl rfl (by decide) ?_
      refine Tr.passU rfl rfl rfl rfl (by decide) ?_
      refine Tr.passU rfl rfl rfl rfl (by decide) ?_
      refine Tr.passU rfl rfl rfl rfl (by decide) ?_
      refine Tr.passU rfl rfl rfl rfl (by decide) ?_
      refine Tr.passU rfl rfl rfl rfl (by decide) ?_
      refine Tr.passU rfl rfl rfl rfl (by decide) ?_
      refine Tr.passU rfl rfl rfl rfl (by decide) ?_
      refine Tr.pass rfl rfl rfl rfl rfl (by decide) ?_
      refine Tr.va rfl (fun _ _ h1 h2 => run_pickF (h1.ev rfl) (h1.ev rfl)) ?_
      exact Tr.nil (Tr.fin0 (.cons rfl (.cons rfl (.cons rfl .nil))) .nil)
     ·refine Tr.val (wg rfl rfl rfl) rfl (fun _ _ h1 h2 => run_move (h1.ev rfl)) ?_
      refine Tr.val (wg rfl rfl rfl) rfl (fun _ _ h1 h2 => run_eql (h1.ev rfl) (h1.ev rfl)) ?_
      refine Tr.val (wg rfl rfl rfl) rfl (fun _ _ h1 h2 => run_move (h1.ev rfl)) ?_
      refine Tr.mid0 16 [(0, (.string p0)), (3, (.int .i64 x105)), (31, (.bool true)), (50, (.bool ((x105 == 0) || (((c106 != 95) && (c106 != 45)) && (!((decide (48 ≤ c106)) && (decide (c106 ≤ 57))))))))] [] ?_ ?_
      ·cases hg106 : (x105 == 0)
       ·refine Tr.val (wg rfl rfl rfl) rfl (fun _ _ h1 h2 => run_move (h1.ev rfl)) ?_
        refine Tr.val (wg rfl rfl rfl) rfl (fun _ _ h1 h2 => run_neq (h1.ev rfl) (h1.ev rfl)) ?_
        refine Tr.val (wg rfl rfl rfl) rfl (fun _ _ h1 h2 => run_move (h1.ev rfl)) ?_
        refine Tr.mid0 3 [(0, (.string p0)), (3, (.int .i64 x105)), (4, (.int .u8 c106)), (31, (.bool true)), (34, (.bool false)), (40, (.bool ((c106 != 95) && (c106 != 45))))] [] ?_ ?_
        ·cases hg106 : (c106 != 95)
         ·refine Tr.pass rfl rfl rfl rfl rfl (by decide) ?_
          refine Tr.pass rfl rfl rfl rfl rfl (by decide) ?_
          refine Tr.val (wg rfl rfl rfl) rfl (fun _ _ h1 h2 => run_pickF (h1.ev rfl) (h1.ev rfl)) ?_
          exact Tr.nil (Tr.fin0 (.cons rfl (.cons rfl (.cons rfl (.cons rfl (.cons rfl (.cons rfl .nil)))))) .nil)
         ·refine Tr.val (wg rfl rfl rfl) rfl (fun _ _ h1 h2 => run_move (h1.ev rfl)) ?_
          refine Tr.val (wg rfl rfl rfl) rfl (fun _ _ h1 h2 => run_neq (h1.ev rfl) (h1.ev rfl)) ?_
          refine Tr.val (wg rfl rfl rfl) rfl (fun _ _ h1 h2 => run_pickT (h1.ev rfl) (h1.ev rfl)) ?_
          exact Tr.nil (Tr.fin0 (.cons rfl (.cons rfl (.cons rfl (.cons rfl (.cons rfl (.cons rfl .nil)))))) .nil)
        ·show Tr _ _ (LF [(0, (.string p0)), (3, (.int .i64 x105)), (4, (.int .u8 c106)), (31, (.bool true)), (34, (.bool false)), (40, (.bool ((c106 != 95) && (c106 != 45))))]) (LE []) _
         refine Tr.val (wg rfl rfl rfl) rfl (fun _ _ h1 h2 => run_move (h1.ev rfl)) ?_
         refine Tr.mid0 8 [(0, (.string p0)), (3, (.int .i64 x105)), (31, (.bool true)), (34, (.bool false)), (49, (.bool (((c106 != 95) && (c106 != 45)) && (!((decide (48 ≤ c106)) && (decide (c106 ≤ 57)))))))] [] ?_ ?_
         ·cases hg106 : ((c106 != 95) && (c106 != 45))
          ·refine Tr.pass rfl rfl rfl rfl rfl (by decide) ?_
           refine Tr.pass rfl rfl rfl rfl rfl (by decide) ?_
           refine Tr.pass rfl rfl rfl rfl rfl (by decide) ?_
           refine Tr.passU rfl rfl rfl rfl (by decide) ?_
           refine Tr.passU rfl rfl rfl rfl (by decide) ?_
           refine Tr.pass rfl rfl rfl rfl rfl (by decide) ?_
           refine Tr.pass rfl rfl rfl rfl rfl (by decide) ?_
           refine Tr.val (wg rfl rfl rfl) rfl (fun _ _ h1 h2 => run_pickF (h1.ev rfl) (h1.ev rfl)) ?_
           exact Tr.nil (Tr.fin0 (.cons rfl (.cons rfl (.cons rfl (.cons rfl (.cons rfl .nil))))) .nil)
          ·refine Tr.val (wg rfl rfl rfl) rfl (fun _ _ h1 h2 => run_move (h1.ev rfl)) ?_
           refine Tr.val (wg rfl rfl rfl) rfl (fun _ _ h1 h2 => run_geq (h1.ev rfl) (h1.ev rfl)) ?_
           refine Tr.val (wg rfl rfl rfl) rfl (fun _ _ h1 h2 => run_move (h1.ev rfl)) ?_
           refine Tr.mid0 3 [(0, (.string p0)), (3, (.int .i64 x105)), (31, (.bool true)), (34, (.bool false)), (41, (.bool true)), (47, (.bool ((decide (48 ≤ c106)) && (decide (c106 ≤ 57)))))] [] ?_ ?_
           ·cases hg106 : (decide (48 ≤ c106))
            ·refine Tr.pass rfl rfl rfl rfl rfl (by decide) ?_
             refine Tr.pass rfl rfl rfl rfl rfl (by decide) ?_
             refine Tr.val (wg rfl rfl rfl) rfl (fun _ _ h1 h2 => run_pickF (h1.ev rfl) (h1.ev rfl)) ?_
             exact Tr.nil (Tr.fin0 (.cons rfl (.cons rfl (.cons rfl (.cons rfl (.cons rfl (.cons rfl .nil)))))) .nil)
            ·refine Tr.val (wg rfl rfl rfl) rfl (fun _ _ h1 h2 => run_move (h1.ev rfl)) ?_
             refine Tr.val (wg rfl rfl rfl) rfl (fun _ _ h1 h2 => run_leq (h1.ev rfl) (h1.ev rfl)) ?_
             refine Tr.val (wg rfl rfl rfl) rfl (fun _ _ h1 h2 => run_pickT (h1.ev rfl) (h1.ev rfl)) ?_
             exact Tr.nil (Tr.fin0 (.cons rfl (.cons rfl (.cons rfl (.cons rfl (.cons rfl (.cons rfl .nil)))))) .nil)
           ·show Tr _ _ (LF [(0, (.string p0)), (3, (.int .i64 x105)), (31, (.bool true)), (34, (.bool false)), (41, (.bool true)), (47, (.bool ((decide (48 ≤ c106)) && (decide (c106 ≤ 57)))))]) (LE []) _
            refine Tr.val (wg rfl rfl rfl) rfl (fun _ _ h1 h2 => run_not (h1.ev rfl)) ?_
            refine Tr.val (wg rfl rfl rfl) rfl (fun _ _ h1 h2 => run_pickT (h1.ev rfl) (h1.ev rfl)) ?_
            exact Tr.nil (Tr.fin0 (.cons rfl (.cons rfl (.cons rfl (.cons rfl (.cons rfl .nil))))) .nil)
         ·show Tr _ _ (LF [(0, (.string p0)), (3, (.int .i64 x105)), (31, (.bool true)), (34, (.bool false)), (49, (.bool (((c106 != 95) && (c106 != 45)) && (!((decide (48 ≤ c106)) && (decide (c106 ≤ 57)))))))]) (LE []) _
          refine Tr.val (wg rfl rfl rfl) rfl (fun _ _ h1 h2 => run_pickF (h1.ev rfl) (h1.ev rfl)) ?_
          exact Tr.nil (Tr.fin0 (.cons rfl (.cons rfl (.cons rfl (.cons rfl .nil)))) .nil)
       ·refine Tr.pass rfl rfl rfl rfl rfl (by decide) ?_
        refine Tr.pass rfl rfl rfl rfl rfl (by decide) ?_
        refine Tr.pass rfl rfl rfl rfl rfl (by decide) ?_
        refine Tr.passU rfl rfl rfl rfl (by decide) ?_
        refine Tr.passU rfl rfl rfl rfl (by decide) ?_
        refine Tr.pass rfl rfl rfl rfl rfl (by decide) ?_
        refine Tr.pass rfl rfl rfl rfl rfl (by decide) ?_
        refine Tr.passU rfl rfl rfl rfl (by decide) ?_
        refine Tr.passU rfl rfl rfl rfl (by decide) ?_
        refine Tr.passU rfl rfl rfl rfl (by decide) ?_
        refine Tr.passU rfl rfl rfl rfl (by decide) ?_
        refine Tr.passU rfl rfl rfl rfl (by decide) ?_
        refine Tr.passU rfl rfl rfl rfl (by decide) ?_
        refine Tr.passU rfl rfl rfl rfl (by decide) ?_
        refine Tr.pass rfl rfl rfl rfl rfl (by decide) ?_
        refine Tr.val (wg rfl rfl rfl) rfl (fun _ _ h1 h2 => run_pickT (h1.ev rfl) (h1.ev rfl)) ?_
        exact Tr.nil (Tr.fin0 (.cons rfl (.cons rfl (.cons rfl (.cons rfl .nil)))) .nil)
      ·show Tr _ _ (LF [(0, (.string p0)), (3, (.int .i64 x105)), (31, (.bool true)), (50, (.bool ((x105 == 0) || (((c106 != 95) && (c106 != 45)) && (!((decide (48 ≤ c106)) && (decide (c106 ≤ 57))))))))]) (LE []) _
       refine Tr.va rfl (fun _ _ h1 h2 => run_pickT (h1.ev rfl) (h1.ev rfl)) ?_
       exact Tr.nil (Tr.fin0 (.cons rfl (.cons rfl (.cons rfl .nil))) .nil)
    ·show Tr _ _ (LF [(0, (.string p0)), (3, (.int .i64 x105)), (51, (.bool ((!(((decide (97 ≤ c106)) && (decide (c106 ≤ 122))) || ((decide (65 ≤ c106)) && (decide (c106 ≤ 90))))) && ((x105 == 0) || (((c106 != 95) && (c106 != 45)) && (!((decide (48 ≤ c106)) && (decide (c106 ≤ 57)))))))))]) (LE []) _
     refine Tr.nil (Tr.normThen ?_)
     refine Tr.cond rfl H (fun H => ?_) (fun H => ?_)
     ·refine Tr.sr ?_
      refine Tr.asg rfl rfl ?_
      refine Tr.nil (Tr.normThen ?_)
      refine Tr.ret (Tr.retBlock (Tr.retThen (Tr.retThen (Tr.retBlock (Tr.retThen ?_)))))
      obtain rfl := Option.some.inj H
      exact Tr.out (m := [(.bool false)]) [] (res_tmp rfl res_nil) (fun W hW => ⟨rfl, hW.low leB⟩)
     ·refine Tr.skip (Tr.normBlock (Tr.normThen ?_))
      refine Tr.region ?_
      refine Tr.mv rfl rfl ?_
      refine Tr.va rfl (fun _ _ h1 h2 => run_add (h1.ev rfl) (h1.ev rfl)) ?_
      refine Tr.asg rfl rfl ?_
      refine Tr.nil ?_
      exact Tr.backThen leF_etchhouseref3_IsName_L1 (w64 (x105 + 1)) H (.cons rfl (.cons rfl .nil)) .nil
 ·refine Tr.exit (Tr.exitThen (Tr.exitThen (Tr.exitBlock (Tr.normThen ?_))))
  refine Tr.sr ?_
  refine Tr.mv rfl rfl ?_
  refine Tr.va rfl (fun _ _ h1 h2 => run_lenS un_9 (h1.ev rfl)) ?_
  obtain ⟨y107, hy107, H⟩ := bnd H
  refine Tr.call0 (r := (.bool y107)) (wn rfl) rfl Tryd.call30 (evl_cons rfl (evl_cons rfl (evl_cons rfl evl_nil))) (fun W hW => F_etchhouseref3_within_ok (p0.size : Int) 1 40 y107 hy107 (HF.start _)) ?_
  refine Tr.asg rfl rfl ?_
  refine Tr.nil (Tr.normThen ?_)
  refine Tr.ret ?_
  obtain rfl := Option.some.inj H
  exact Tr.out (m := [(.bool y107)]) [] (res_tmp rfl res_nil) (fun W hW => ⟨rfl, hW.low leB⟩)

theorem F_etchhouseref1_within_ok {w : Bs} (p0 : Int) (p1 : Int) (p2 : Int) (r : Bool) (H : F_etchhouseref1_within p0 p1 p2 = some r) (hE : HF w w.W E0) : Calls Tryd.prog 82 [(.int .i64 p0), (.int .i64 p1), (.int .i64 p2)].toArray w.W fun e W' => e = .returned (.bool r) ∧ HF w W' E0 := by
 unfold F_etchhouseref1_within at H
 have leB := Bs.Le.refl w
 refine Tr.enter (n := 15) Tryd.func82 rfl rfl rfl hE ?_
 refine Tr.sr ?_
 refine Tr.asg rfl rfl ?_
 refine Tr.nil (Tr.normThen ?_)
 refine Tr.sr ?_
 refine Tr.mv rfl rfl ?_
 refine Tr.mv rfl rfl ?_
 refine Tr.va rfl (fun _ _ h1 h2 => run_geq (h1.ev rfl) (h1.ev rfl)) ?_
 refine Tr.mv rfl rfl ?_
 refine Tr.mid0 4 [(14, (.bool ((decide (p1 ≤ p0)) && (decide (p0 ≤ p2)))))] [] ?_ ?_
 ·cases hg99 : (decide (p1 ≤ p0))
  ·refine Tr.pass rfl rfl rfl rfl rfl (by decide) ?_
   refine Tr.pass rfl rfl rfl rfl rfl (by decide) ?_
   refine Tr.pass rfl rfl rfl rfl rfl (by decide) ?_
   refine Tr.va rfl (fun _ _ h1 h2 => run_pickF (h1.ev rfl) (h1.ev rfl)) ?_
   exact Tr.nil (Tr.fin0 (.cons rfl .nil) .nil)
  ·refine Tr.val (wg rfl rfl rfl) rfl (fun _ _ h1 h2 => run_move (h1.ev rfl)) ?_
   refine Tr.val (wg rfl rfl rfl) rfl (fun _ _ h1 h2 => run_move (h1.ev rfl)) ?_
   refine Tr.val (wg rfl rfl rfl) rfl (fun _ _ h1 h2 => run_leq (h1.ev rfl) (h1.ev rfl)) ?_
   refine Tr.va rfl (fun _ _ h1 h2 => run_pickT (h1.ev rfl) (h1.ev rfl)) ?_
   exact Tr.nil (Tr.fin0 (.cons rfl .nil) .nil)
 ·show Tr _ _ (LF [(14, (.bool ((decide (p1 ≤ p0)) && (decide (p0 ≤ p2)))))]) (LE []) _
  refine Tr.asg rfl rfl ?_
  refine Tr.nil (Tr.normThen ?_)
  refine Tr.ret ?_
  obtain rfl := Option.some.inj H
  exact Tr.out (m := [(.bool ((decide (p1 ≤ p0)) && (decide (p0 ≤ p2))))]) [] (res_tmp rfl res_nil) (fun W hW => ⟨rfl, hW.low leB⟩)

theorem F_etchhouseref1_At_ok {w : Bs} (p0 : Int) (r : Bool) (H : F_etchhouseref1_At p0 = some r) (hE : HF w w.W E0) : Calls Tryd.prog 78 [(.int .i64 p0)].toArray w.W fun e W' => e = .returned (.bool r) ∧ HF w W' E0 := by
 unfold F_etchhouseref1_At at H
 have leB := Bs.Le.refl w
 refine Tr.enter (n := 5) Tryd.func78 rfl rfl rfl hE ?_
 refine Tr.sr ?_
 refine Tr.asg rfl rfl ?_
 refine Tr.nil (Tr.normThen ?_)
 refine Tr.sr ?_
 refine Tr.mv rfl rfl ?_
 obtain ⟨y100, hy100, H⟩ := bnd H
 refine Tr.call0 (r := (.bool y100)) (wn rfl) rfl Tryd.call82 (evl_cons rfl (evl_cons rfl (evl_cons rfl evl_nil))) (fun W hW => F_etchhouseref1_within_ok p0 (-1000000) 1000000 y100 hy100 (HF.start _)) ?_
 refine Tr.asg rfl rfl ?_
 refine Tr.nil (Tr.normThen ?_)
 refine Tr.ret ?_
 obtain rfl := Option.some.inj H
 exact Tr.out (m := [(.bool y100)]) [] (res_tmp rfl res_nil) (fun W hW => ⟨rfl, hW.low leB⟩)

theorem F_etchhouseref3_fits_ok {w : Bs} (p0 : Int) (p1 : Int) (r : Bool) (H : F_etchhouseref3_fits p0 p1 = some r) (hE : HF w w.W E0) : Calls Tryd.prog 66 [(.int .i64 p0), (.int .i64 p1)].toArray w.W fun e W' => e = .returned (.bool r) ∧ HF w W' E0 := by
 unfold F_etchhouseref3_fits at H
 have leB := Bs.Le.refl w
 refine Tr.enter (n := 13) Tryd.func66 rfl rfl rfl hE ?_
 refine Tr.sr ?_
 refine Tr.asg rfl rfl ?_
 refine Tr.nil (Tr.normThen ?_)
 refine Tr.sr ?_
 refine Tr.mv rfl rfl ?_
 obtain ⟨y100, hy100, H⟩ := bnd H
 refine Tr.call0 (r := (.bool y100)) (wn rfl) rfl Tryd.call78 (evl_cons rfl evl_nil) (fun W hW => F_etchhouseref1_At_ok p0 y100 hy100 (HF.start _)) ?_
 refine Tr.mv rfl rfl ?_
 obtain ⟨g102, hg102, H⟩ := bnd H
 refine Tr.mid0 5 [(12, (.bool g102))] [] ?_ ?_
 ·cases hg103 : y100
  ·rw [hg103] at hg102
   rw [if_neg (by decide)] at hg102
   have H := hg102
   obtain rfl := Option.some.inj H
   refine Tr.pass rfl rfl rfl rfl rfl (by decide) ?_
   refine Tr.pass rfl rfl rfl rfl rfl (by decide) ?_
   refine Tr.pass rfl rfl rfl rfl rfl (by decide) ?_
   refine Tr.pass rfl rfl rfl rfl rfl (by decide) ?_
   refine Tr.va rfl (fun _ _ h1 h2 => run_pickF (h1.ev rfl) (h1.ev rfl)) ?_
   exact Tr.nil (Tr.fin0 (.cons rfl .nil) .nil)
  ·rw [hg103] at hg102
   rw [if_pos rfl] at hg102
   have H := hg102
   refine Tr.val (wg rfl rfl rfl) rfl (fun _ _ h1 h2 => run_move (h1.ev rfl)) ?_
   refine Tr.val (wg rfl rfl rfl) rfl (fun _ _ h1 h2 => run_move (h1.ev rfl)) ?_
   refine Tr.val (wg rfl rfl rfl) rfl (fun _ _ h1 h2 => run_mul (h1.ev rfl) (h1.ev rfl)) ?_
   obtain ⟨y103, hy103, H⟩ := bnd H
   refine Tr.call0 (r := (.bool y103)) (wg rfl rfl rfl) rfl Tryd.call78 (evl_cons rfl evl_nil) (fun W hW => F_etchhouseref1_At_ok (w64 (p0 * p1)) y103 hy103 (HF.start _)) ?_
   refine Tr.va rfl (fun _ _ h1 h2 => run_pickT (h1.ev rfl) (h1.ev rfl)) ?_
   obtain rfl := Option.some.inj H
   exact Tr.nil (Tr.fin0 (.cons rfl .nil) .nil)
 ·show Tr _ _ (LF [(12, (.bool g102))]) (LE []) _
  refine Tr.asg rfl rfl ?_
  refine Tr.nil (Tr.normThen ?_)
  refine Tr.ret ?_
  obtain rfl := Option.some.inj H
  exact Tr.out (m := [(.bool g102)]) [] (res_tmp rfl res_nil) (fun W hW => ⟨rfl, hW.low leB⟩)

theorem F_etchhouseref3_checkToolRects_ok (N : Nat) {w : Bs} (p0 : (List TRect)) (Ap0_0 : Option Addr) (cp0_0 : Nat) (hp0_0 : Sl w.R w.W fl_TRect Ap0_0 cp0_0 p0) (p1 : Int) (r : Int) (H : F_etchhouseref3_checkToolRects N p0 p1 = some r) (hE : HF w w.W E0) : Calls Tryd.prog 32 [(.slice Ap0_0 (p0).length cp0_0), (.int .i64 p1)].toArray w.W fun e W' => e = .returned (.int .i64 r) ∧ HF w W' E0 := by
 unfold F_etchhouseref3_checkToolRects at H
 have leB := Bs.Le.refl w
 refine Tr.enter (n := 61) Tryd.func32 rfl rfl rfl hE ?_
 refine Tr.sr ?_
 refine Tr.asg rfl rfl ?_
 refine Tr.nil (Tr.normThen ?_)
 refine Tr.seq ?_
 refine Tr.sr ?_
 refine Tr.mv rfl rfl ?_
 refine Tr.va rfl (fun _ _ h1 h2 => run_len un_53 (h1.ev rfl)) ?_
 refine Tr.va rfl (fun _ _ h1 h2 => run_eql (h1.ev rfl) (h1.ev rfl)) ?_
 refine Tr.nil (Tr.normThen ?_)
 refine Tr.cond rfl H (fun H => ?_) (fun H => ?_)
 ·refine Tr.sr ?_
  refine Tr.asg rfl rfl ?_
  refine Tr.nil (Tr.normThen ?_)
  refine Tr.ret (Tr.retThen ?_)
  obtain rfl := Option.some.inj H
  exact Tr.out (m := [(.int .i64 9)]) [] (res_tmp rfl res_nil) (fun W hW => ⟨rfl, hW.low leB⟩)
 ·refine Tr.skip (Tr.normThen ?_)
  refine Tr.seq ?_
  refine Tr.sr ?_
  refine Tr.mv rfl rfl ?_
  refine Tr.va rfl (fun _ _ h1 h2 => run_len un_53 (h1.ev rfl)) ?_
  refine Tr.va rfl (fun _ _ h1 h2 => run_gtr (h1.ev rfl) (h1.ev rfl)) ?_
  refine Tr.nil (Tr.normThen ?_)
  refine Tr.cond rfl H (fun H => ?_) (fun H => ?_)
  ·refine Tr.sr ?_
   refine Tr.asg rfl rfl ?_
   refine Tr.nil (Tr.normThen ?_)
   refine Tr.ret (Tr.retThen ?_)
   obtain rfl := Option.some.inj H
   exact Tr.out (m := [(.int .i64 2)]) [] (res_tmp rfl res_nil) (fun W hW => ⟨rfl, hW.low leB⟩)
  ·refine Tr.skip (Tr.normThen ?_)
   refine Tr.seq ?_
   refine Tr.sr ?_
   refine Tr.asg rfl rfl ?_
   refine Tr.nil (Tr.normThen ?_)
   refine Tr.block ?_
   refine Tr.loop (σ := Int) (fun m w s => F_etchhouseref3_checkToolRects_L1 p0 p1 m s = some r) (fun s => [(0, (.slice Ap0_0 (p0).length cp0_0)), (1, (.int .i64 p1)), (5, (.int .i64 s))]) (fun s => []) N 0 H (.cons rfl (.cons rfl (.cons rfl .nil))) .nil (fun _ _ h => noSome (h)) ?_
   intro w leF_etchhouseref3_checkToolRects_L1 mF_etchhouseref3_checkToolRects_L1 x127 hs
   have H := hs
   replace H : F_etchhouseref3_checkToolRects_L1 p0 p1 (mF_etchhouseref3_checkToolRects_L1 + 1) x127 = some r := H
   replace hp0_0 := hp0_0.leR leF_etchhouseref3_checkToolRects_L1
   replace leB := leB.trans leF_etchhouseref3_checkToolRects_L1
   rw [F_etchhouseref3_checkToolRects_L1.eq_2] at H
   show Tr _ _ (LF [(0, (.slice Ap0_0 (p0).length cp0_0)), (1, (.int .i64 p1)), (5, (.int .i64 x127))]) (LE []) _
   refine Tr.seq ?_
   refine Tr.sr ?_
   refine Tr.mv rfl rfl ?_
   refine Tr.mv rfl rfl ?_
   refine Tr.va rfl (fun _ _ h1 h2 => run_len un_53 (h1.ev rfl)) ?_
   refine Tr.va rfl (fun _ _ h1 h2 => run_lss (h1.ev rfl) (h1.ev rfl)) ?_
   refine Tr.nil (Tr.normThen ?_)
   refine Tr.cond rfl H (fun H => ?_) (fun H => ?_)
   ·refine Tr.skip (Tr.normThen ?_)
    refine Tr.seq ?_
    refine Tr.block ?_
    refine Tr.sr ?_
    refine Tr.mv rfl rfl ?_
    refine Tr.mv rfl rfl ?_
    obtain ⟨x128, hx128, H⟩ := bnd H
    obtain ⟨hx1280, hx1281, hx1282⟩ := idx_some hx128
    refine Tr.va rfl (fun _ _ h1 h2 => run_indexAddr el_53 (h1.ev rfl) hp0_0.form (h1.ev rfl) hx1280 hx1281) ?_
    refine Tr.va rfl (fun _ _ h1 h2 => run_loadN (cs := [(.int .i64 x128.X0), (.int .i64 x128.Y0), (.int .i64 x128.X1), (.int .i64 x128.Y1)]) ag_57 sz_57 (h1.ev rfl) (CellsAt.take (rdF ef_TRect hp0_0 hx1282 h2) 4) rfl) ?_
    refine Tr.alloc 3 (wn rfl) rfl ze_57 fun b129 => ?_
    refine Tr.store 3 (cs := [(.int .i64 x128.X0), (.int .i64 x128.Y0), (.int .i64 x128.X1), (.int .i64 x128.Y1)]) [(.int .i64 x128.X0), (.int .i64 x128.Y0), (.int .i64 x128.X1), (.int .i64 x128.Y1)] (wn rfl) rfl rfl rfl rfl sz_57 rfl rfl rfl ?_
    refine Tr.nil (Tr.normThen ?_)
    refine Tr.seq ?_
    refine Tr.sr ?_
    refine Tr.va rfl (fun _ _ h1 h2 => run_fieldAddr fo_57_0 (h1.ev rfl)) ?_
    refine Tr.va rfl (fun _ _ h1 h2 => run_load1 ag_3 (h1.ev rfl) (rdb h2 (vs := [(.int .i64 x128.X0), (.int .i64 x128.Y0), (.int .i64 x128.X1), (.int .i64 x128.Y1)]) (k := 3) rfl 0) rfl) ?_
    refine Tr.mv rfl rfl ?_
    obtain ⟨y130, hy130, H⟩ := bnd H
    refine Tr.call0 (r := (.bool y130)) (wn rfl) rfl Tryd.call66 (evl_cons rfl (evl_cons rfl evl_nil)) (fun W hW => F_etchhouseref3_fits_ok x128.X0 p1 y130 hy130 (HF.start _)) ?_
    refine Tr.va rfl (fun _ _ h1 h2 => run_not (h1.ev rfl)) ?_
    refine Tr.mv rfl rfl ?_
    obtain ⟨g132, hg132, H⟩ := bnd H
    refine Tr.mid0 6 [(0, (.slice Ap0_0 (p0).length cp0_0)), (1, (.int .i64 p1)), (5, (.int .i64 x127)), (6, (.pointer (some ⟨b129, 0, none⟩))), (34, (.bool g132))] [(3, bx b129 #[(.int .i64 x128.X0), (.int .i64 x128.Y0), (.int .i64 x128.X1), (.int .i64 x128.Y1)] 57)] ?_ ?_
    ·cases hg139 : (!y130)
     ·rw [hg139] at hg132
      rw [if_neg (by decide)] at hg132
      have H := hg132
      refine Tr.val (wg rfl rfl rfl) rfl (fun _ _ h1 h2 => run_fieldAddr fo_57_1 (h1.ev rfl)) ?_
      refine Tr.val (wg rfl rfl rfl) rfl (fun _ _ h1 h2 => run_load1 ag_3 (h1.ev rfl) (rdb h2 (vs := [(.int .i64 x128.X0), (.int .i64 x128.Y0), (.int .i64 x128.X1), (.int .i64 x128.Y1)]) (k := 3) rfl 1) rfl) ?_
      refine Tr.val (wg rfl rfl rfl) rfl (fun _ _ h1 h2 => run_move (h1.ev rfl)) ?_
      obtain ⟨y133, hy133, H⟩ := bnd H
      refine Tr.call0 (r := (.bool y133)) (wg rfl rfl rfl) rfl Tryd.call66 (evl_cons rfl (evl_cons rfl evl_nil)) (fun W hW => F_etchhouseref3_fits_ok x128.Y0 p1 y133 hy133 (HF.start _)) ?_
      refine Tr.val (wg rfl rfl rfl) rfl (fun _ _ h1 h2 => run_not (h1.ev rfl)) ?_
      refine Tr.va rfl (fun _ _ h1 h2 => run_pickF (h1.ev rfl) (h1.ev rfl)) ?_
      obtain rfl := Option.some.inj H
      exact Tr.nil (Tr.fin0 (.cons rfl (.cons rfl (.cons rfl (.cons rfl (.cons rfl .nil))))) (.cons rfl .nil))
     ·rw [hg139] at hg132
      rw [if_pos rfl] at hg132
      have H := hg132
      obtain rfl := Option.some.inj H
      refine Tr.pass rfl rfl rfl rfl rfl (by decide) ?_
      refine Tr.pass rfl rfl rfl rfl rfl (by decide) ?_
      refine Tr.pass rfl rfl rfl rfl rfl (by decide) ?_
      refine Tr.pass rfl rfl rfl rfl rfl (by decide) ?_
      refine Tr.pass rfl rfl rfl rfl rfl (by decide) ?_
      refine Tr.va rfl (fun _ _ h1 h2 => run_pickT (h1.ev rfl) (h1.ev rfl)) ?_
      exact Tr.nil (Tr.fin0 (.cons rfl (.cons rfl (.cons rfl (.cons rfl (.cons rfl .nil))))) (.cons rfl .nil))
    ·show Tr _ _ (LF [(0, (.slice Ap0_0 (p0).length cp0_0)), (1, (.int .i64 p1)), (5, (.int .i64 x127)), (6, (.pointer (some ⟨b129, 0, none⟩))), (34, (.bool g132))]) (LE [(3, bx b129 #[(.int .i64 x128.X0), (.int .i64 x128.Y0), (.int .i64 x128.X1), (.int .i64 x128.Y1)] 57)]) _
     refine Tr.mv rfl rfl ?_
     obtain ⟨g135, hg135, H⟩ := bnd H
     refine Tr.mid0 6 [(0, (.slice Ap0_0 (p0).length cp0_0)), (1, (.int .i64 p1)), (5, (.int .i64 x127)), (6, (.pointer (some ⟨b129, 0, none⟩))), (41, (.bool g135))] [(3, bx b129 #[(.int .i64 x128.X0), (.int .i64 x128.Y0), (.int .i64 x128.X1), (.int .i64 x128.Y1)] 57)] ?_ ?_
     ·cases hg139 : g132
      ·rw [hg139] at hg135
       rw [if_neg (by decide)] at hg135
       have H := hg135
       refine Tr.val (wg rfl rfl rfl) rfl (fun _ _ h1 h2 => run_fieldAddr fo_57_2 (h1.ev rfl)) ?_
       refine Tr.val (wg rfl rfl rfl) rfl (fun _ _ h1 h2 => run_load1 ag_3 (h1.ev rfl) (rdb h2 (vs := [(.int .i64 x128.X0), (.int .i64 x128.Y0), (.int .i64 x128.X1), (.int .i64 x128.Y1)]) (k := 3) rfl 2) rfl) ?_
       refine Tr.val (wg rfl rfl rfl) rfl (fun _ _ h1 h2 => run_move (h1.ev rfl)) ?_
       obtain ⟨y136, hy136, H⟩ := bnd H
       refine Tr.call0 (r := (.bool y136)) (wg rfl rfl rfl) rfl Tryd.call66 (evl_cons rfl (evl_cons rfl evl_nil)) (fun W hW => F_etchhouseref3_fits_ok x128.X1 p1 y136 hy136 (HF.start _)) ?_
       refine Tr.val (wg rfl rfl rfl) rfl (fun _ _ h1 h2 => run_not (h1.ev rfl)) ?_
       refine Tr.va rfl (fun _ _ h1 h2 => run_pickF (h1.ev rfl) (h1.ev rfl)) ?_
       obtain rfl := Option.some.inj H
       exact Tr.nil (Tr.fin0 (.cons rfl (.cons rfl (.cons rfl (.cons rfl (.cons rfl .nil))))) (.cons rfl .nil))
      ·rw [hg139] at hg135
       rw [if_pos rfl] at hg135
       have H := hg135
       obtain rfl := Option.some.inj H
       refine Tr.pass rfl rfl rfl rfl rfl (by decide) ?_
       refine Tr.pass rfl rfl rfl rfl rfl (by decide) ?_
       refine Tr.pass rfl rfl rfl rfl rfl (by decide) ?_
       refine Tr.pass rfl rfl rfl rfl rfl (by decide) ?_
       refine Tr.pass rfl rfl rfl rfl rfl (by decide) ?_
       refine Tr.va rfl (fun _ _ h1 h2 => run_pickT (h1.ev rfl) (h1.ev rfl)) ?_
       exact Tr.nil (Tr.fin0 (.cons rfl (.cons rfl (.cons rfl (.cons rfl (.cons rfl .nil))))) (.cons rfl .nil))
     ·show Tr _ _ (LF [(0, (.slice Ap0_0 (p0).length cp0_0)), (1, (.int .i64 p1)), (5, (.int .i64 x127)), (6, (.pointer (some ⟨b129, 0, none⟩))), (41, (.bool g135))]) (LE [(3, bx b129 #[(.int .i64 x128.X0), (.int .i64 x128.Y0), (.int .i64 x128.X1), (.int .i64 x128.Y1)] 57)]) _
      refine Tr.mv rfl rfl ?_
      obtain ⟨g138, hg138, H⟩ := bnd H
      refine Tr.mid0 6 [(0, (.slice Ap0_0 (p0).length cp0_0)), (1, (.int .i64 p1)), (5, (.int .i64 x127)), (6, (.pointer (some ⟨b129, 0, none⟩))), (48, (.bool g138))] [(3, bx b129 #[(.int .i64 x128.X0), (.int .i64 x128.Y0), (.int .i64 x128.X1), (.int .i64 x128.Y1)] 57)] ?_ ?_
      ·cases hg139 : g135
       ·rw [hg139] at hg138
        rw [if_neg (by decide)] at hg138
        have H := hg138
        refine Tr.val (wg rfl rfl rfl) rfl (fun _ _ h1 h2 => run_fieldAddr fo_57_3 (h1.ev rfl)) ?_
        refine Tr.val (wg rfl rfl rfl) rfl (fun _ _ h1 h2 => run_load1 ag_3 (h1.ev rfl) (rdb h2 (vs := [(.int .i64 x128.X0), (.int .i64 x128.Y0), (.int .i64 x128.X1), (.int .i64 x128.Y1)]) (k := 3) rfl 3) rfl) ?_
        refine Tr.val (wg rfl rfl rfl) rfl (fun _ _ h1 h2 => run_move (h1.ev rfl)) ?_
        obtain ⟨y139, hy139, H⟩ := bnd H
        refine Tr.call0 (r := (.bool y139)) (wg rfl rfl rfl) rfl Tryd.call66 (evl_cons rfl (evl_cons rfl evl_nil)) (fun W hW => F_etchhouseref3_fits_ok x128.Y1 p1 y139 hy139 (HF.start _)) ?_
        refine Tr.val (wg rfl rfl rfl) rfl (fun _ _ h1 h2 => run_not (h1.ev rfl)) ?_
        refine Tr.va rfl (fun _ _ h1 h2 => run_pickF (h1.ev rfl) (h1.ev rfl)) ?_
        obtain rfl := Option.some.inj H
        exact Tr.nil (Tr.fin0 (.cons rfl (.cons rfl (.cons rfl (.cons rfl (.cons rfl .nil))))) (.cons rfl .nil))
       ·rw [hg139] at hg138
        rw [if_pos rfl] at hg138
        have H := hg138
        obtain rfl := Option.some.inj H
        refine Tr.pass rfl rfl rfl rfl rfl (by decide) ?_
        refine Tr.pass rfl rfl rfl rfl rfl (by decide) ?_
        refine Tr.pass rfl rfl rfl rfl rfl (by decide) ?_
        refine Tr.pass rfl rfl rfl rfl rfl (by decide) ?_
        refine Tr.pass rfl rfl rfl rfl rfl (by decide) ?_
        refine Tr.va rfl (fun _ _ h1 h2 => run_pickT (h1.ev rfl) (h1.ev rfl)) ?_
        exact Tr.nil (Tr.fin0 (.cons rfl (.cons rfl (.cons rfl (.cons rfl (.cons rfl .nil))))) (.cons rfl .nil))
      ·show Tr _ _ (LF [(0, (.slice Ap0_0 (p0).length cp0_0)), (1, (.int .i64 p1)), (5, (.int .i64 x127)), (6, (.pointer (some ⟨b129, 0, none⟩))), (48, (.bool g138))]) (LE [(3, bx b129 #[(.int .i64 x128.X0), (.int .i64 x128.Y0), (.int .i64 x128.X1), (.int .i64 x128.Y1)] 57)]) _
       refine Tr.nil (Tr.normThen ?_)
       refine Tr.cond rfl H (fun H => ?_) (fun H => ?_)
       ·refine Tr.sr ?_
        refine Tr.asg rfl rfl ?_
        refine Tr.nil (Tr.normThen ?_)
        refine Tr.ret (Tr.retThen (Tr.retBlock (Tr.retThen (Tr.retThen (Tr.retBlock (Tr.retThen ?_))))))
        obtain rfl := Option.some.inj H
        exact Tr.out (m := [(.int .i64 1)]) [] (res_tmp rfl res_nil) (fun W hW => ⟨rfl, hW.low leB⟩)
       ·refine Tr.skip (Tr.normThen ?_)
        refine Tr.sr ?_
        refine Tr.va rfl (fun _ _ h1 h2 => run_fieldAddr fo_57_2 (h1.ev rfl)) ?_
        refine Tr.va rfl (fun _ _ h1 h2 => run_load1 ag_3 (h1.ev rfl) (rdb h2 (vs := [(.int .i64 x128.X0), (.int .i64 x128.Y0), (.int .i64 x128.X1), (.int .i64 x128.Y1)]) (k := 3) rfl 2) rfl) ?_
        refine Tr.va rfl (fun _ _ h1 h2 => run_fieldAddr fo_57_0 (h1.ev rfl)) ?_
        refine Tr.va rfl (fun _ _ h1 h2 => run_load1 ag_3 (h1.ev rfl) (rdb h2 (vs := [(.int .i64 x128.X0), (.int .i64 x128.Y0), (.int .i64 x128.X1), (.int .i64 x128.Y1)]) (k := 3) rfl 0) rfl) ?_
        refine Tr.va rfl (fun _ _ h1 h2 => run_leq (h1.ev rfl) (h1.ev rfl)) ?_
        refine Tr.mv rfl rfl ?_
        refine Tr.mid0 6 [(0, (.slice Ap0_0 (p0).length cp0_0)), (1, (.int .i64 p1)), (5, (.int .i64 x127)), (60, (.bool ((decide (x128.X1 ≤ x128.X0)) || (decide (x128.Y1 ≤ x128.Y0)))))] [(3, bx b129 #[(.int .i64 x128.X0), (.int .i64 x128.Y0), (.int .i64 x128.X1), (.int .i64 x128.Y1)] 57)] ?_ ?_
        ·cases hg139 : (decide (x128.X1 ≤ x128.X0))
         ·refine Tr.val (wg rfl rfl rfl) rfl (fun _ _ h1 h2 => run_fieldAddr fo_57_3 (h1.ev rfl)) ?_
          refine Tr.val (wg rfl rfl rfl) rfl (fun _ _ h1 h2 => run_load1 ag_3 (h1.ev rfl) (rdb h2 (vs := [(.int .i64 x128.X0), (.int .i64 x128.Y0), (.int .i64 x128.X1), (.int .i64 x128.Y1)]) (k := 3) rfl 3) rfl) ?_
          refine Tr.val (wg rfl rfl rfl) rfl (fun _ _ h1 h2 => run_fieldAddr fo_57_1 (h1.ev rfl)) ?_
          refine Tr.val (wg rfl rfl rfl) rfl (fun _ _ h1 h2 => run_load1 ag_3 (h1.ev rfl) (rdb h2 (vs := [(.int .i64 x128.X0), (.int .i64 x128.Y0), (.int .i64 x128.X1), (.int .i64 x128.Y1)]) (k := 3) rfl 1) rfl) ?_
          refine Tr.val (wg rfl rfl rfl) rfl (fun _ _ h1 h2 => run_leq (h1.ev rfl) (h1.ev rfl)) ?_
          refine Tr.va rfl (fun _ _ h1 h2 => run_pickF (h1.ev rfl) (h1.ev rfl)) ?_
          exact Tr.nil (Tr.fin0 (.cons rfl (.cons rfl (.cons rfl (.cons rfl .nil)))) (.cons rfl .nil))
         ·refine Tr.pass rfl rfl rfl rfl rfl (by decide) ?_
          refine Tr.pass rfl rfl rfl rfl rfl (by decide) ?_
          refine Tr.pass rfl rfl rfl rfl rfl (by decide) ?_
          refine Tr.pass rfl rfl rfl rfl rfl (by decide) ?_
          refine Tr.pass rfl rfl rfl rfl rfl (by decide) ?_
          refine Tr.va rfl (fun _ _ h1 h2 => run_pickT (h1.ev rfl) (h1.ev rfl)) ?_
          exact Tr.nil (Tr.fin0 (.cons rfl (.cons rfl (.cons rfl (.cons rfl .nil)))) (.cons rfl .nil))
        ·show Tr _ _ (LF [(0, (.slice Ap0_0 (p0).length cp0_0)), (1, (.int .i64 p1)), (5, (.int .i64 x127)), (60, (.bool ((decide (x128.X1 ≤ x128.X0)) || (decide (x128.Y1 ≤ x128.Y0)))))]) (LE [(3, bx b129 #[(.int .i64 x128.X0), (.int .i64 x128.Y0), (.int .i64 x128.X1), (.int .i64 x128.Y1)] 57)]) _
         refine Tr.nil (Tr.normThen ?_)
         refine Tr.cond rfl H (fun H => ?_) (fun H => ?_)
         ·refine Tr.sr ?_
          refine Tr.asg rfl rfl ?_
          refine Tr.nil (Tr.normThen ?_)
          refine Tr.ret (Tr.retBlock (Tr.retThen (Tr.retThen (Tr.retBlock (Tr.retThen ?_)))))
          obtain rfl := Option.some.inj H
          exact Tr.out (m := [(.int .i64 13)]) [] (res_tmp rfl res_nil) (fun W hW => ⟨rfl, hW.low leB⟩)
         ·refine Tr.skip (Tr.normBlock (Tr.normThen ?_))
          refine Tr.region ?_
          refine Tr.mv rfl rfl ?_
          refine Tr.va rfl (fun _ _ h1 h2 => run_add (h1.ev rfl) (h1.ev rfl)) ?_
          refine Tr.asg rfl rfl ?_
          refine Tr.nil ?_
          exact Tr.backThen leF_etchhouseref3_checkToolRects_L1 (w64 (x127 + 1)) H (.cons rfl (.cons rfl (.cons rfl .nil))) .nil
   ·refine Tr.exit (Tr.exitThen (Tr.exitThen (Tr.exitBlock (Tr.normThen ?_))))
    refine Tr.sr ?_
    refine Tr.asg rfl rfl ?_
    refine Tr.nil (Tr.normThen ?_)
    refine Tr.ret ?_
    obtain rfl := Option.some.inj H
    exact Tr.out (m := [(.int .i64 0)]) [] (res_tmp rfl res_nil) (fun W hW => ⟨rfl, hW.low leB⟩)

theorem F_etchhouseref3_count_b_ok (N : Nat) (rec : (List TPlotStep) → Option Int) (hrec : ∀ {w : Bs} (p0 : (List TPlotStep)) (Ap0_0 : Option Addr) (cp0_0 : Nat) (hp0_0 : Sl w.R w.W fl_TPlotStep Ap0_0 cp0_0 p0) (r : Int) (H : rec p0 = some r) (hE : HF w w.W E0), Calls Tryd.prog 33 [(.slice Ap0_0 (p0).length cp0_0)].toArray w.W fun e W' => e = .returned (.int .i64 r) ∧ HF w W' E0) {w : Bs} (p0 : (List TPlotStep)) (Ap0_0 : Option Addr) (cp0_0 : Nat) (hp0_0 : Sl w.R w.W fl_TPlotStep Ap0_0 cp0_0 p0) (r : Int) (H : F_etchhouseref3_count_b N rec p0 = some r) (hE : HF w w.W E0) : Calls Tryd.prog 33 [(.slice Ap0_0 (p0).length cp0_0)].toArray w.W fun e W' => e = .returned (.int .i64 r) ∧ HF w W' E0 := by
 unfold F_etchhouseref3_count_b at H
 have leB := Bs.Le.refl w
 refine Tr.enter (n := 55) Tryd.func33 rfl rfl rfl hE ?_
 refine Tr.sr ?_
 refine Tr.asg rfl rfl ?_
 refine Tr.nil (Tr.normThen ?_)
 refine Tr.sr ?_
 refine Tr.asg rfl rfl ?_
 refine Tr.nil (Tr.normThen ?_)
 refine Tr.seq ?_
 refine Tr.sr ?_
 refine Tr.asg rfl rfl ?_
 refine Tr.nil (Tr.normThen ?_)
 refine Tr.block ?_
 refine Tr.loop (σ := Int × Int) (fun m w s => F_etchhouseref3_count_L5 p0 rec m s.1 s.2 = some r) (fun s => [(0, (.slice Ap0_0 (p0).length cp0_0)), (3, (.int .i64 s.1)), (4, (.int .i64 s.2))]) (fun s => []) N (0, 0) H (.cons rfl (.cons rfl (.cons rfl .nil))) .nil (fun _ _ h => noSome (h)) ?_
 intro w leF_etchhouseref3_count_L5 mF_etchhouseref3_count_L5 s hs
 obtain ⟨x164, x165⟩ := s
 have H := hs
 replace H : F_etchhouseref3_count_L5 p0 rec (mF_etchhouseref3_count_L5 + 1) x164 x165 = some r := H
 replace hp0_0 := hp0_0.leR leF_etchhouseref3_count_L5
 replace leB := leB.trans leF_etchhouseref3_count_L5
 rw [F_etchhouseref3_count_L5.eq_2] at H
 show Tr _ _ (LF [(0, (.slice Ap0_0 (p0).length cp0_0)), (3, (.int .i64 x164)), (4, (.int .i64 x165))]) (LE []) _
 refine Tr.seq ?_
 refine Tr.sr ?_
 refine Tr.mv rfl rfl ?_
 refine Tr.mv rfl rfl ?_
 refine Tr.va rfl (fun _ _ h1 h2 => run_len un_23 (h1.ev rfl)) ?_
 refine Tr.va rfl (fun _ _ h1 h2 => run_lss (h1.ev rfl) (h1.ev rfl)) ?_
 refine Tr.mv rfl rfl ?_
 refine Tr.mid0 3 [(0, (.slice Ap0_0 (p0).length cp0_0)), (3, (.int .i64 x164)), (4, (.int .i64 x165)), (14, (.bool ((decide (x165 < (p0.length : Int))) && (decide (x164 ≤ 3000)))))] [] ?_ ?_
 ·cases hg194 : (decide (x165 < (p0.length : Int)))
  ·refine Tr.pass rfl rfl rfl rfl rfl (by decide) ?_
   refine Tr.pass rfl rfl rfl rfl rfl (by decide) ?_
   refine Tr.va rfl (fun _ _ h1 h2 => run_pickF (h1.ev rfl) (h1.ev rfl)) ?_
   exact Tr.nil (Tr.fin0 (.cons rfl (.cons rfl (.cons rfl (.cons rfl .nil)))) .nil)
  ·refine Tr.val (wg rfl rfl rfl) rfl (fun _ _ h1 h2 => run_move (h1.ev rfl)) ?_
   refine Tr.val (wg rfl rfl rfl) rfl (fun _ _ h1 h2 => run_leq (h1.ev rfl) (h1.ev rfl)) ?_
   refine Tr.va rfl (fun _ _ h1 h2 => run_pickT (h1.ev rfl) (h1.ev rfl)) ?_
   exact Tr.nil (Tr.fin0 (.cons rfl (.cons rfl (.cons rfl (.cons rfl .nil)))) .nil)
 ·show Tr _ _ (LF [(0, (.slice Ap0_0 (p0).length cp0_0)), (3, (.int .i64 x164)), (4, (.int .i64 x165)), (14, (.bool ((decide (x165 < (p0.length : Int))) && (decide (x164 ≤ 3000)))))]) (LE []) _
  refine Tr.nil (Tr.normThen ?_)
  refine Tr.cond rfl H (fun H => ?_) (fun H => ?_)
  ·refine Tr.skip (Tr.normThen ?_)
   refine Tr.seq ?_
   refine Tr.block ?_
   refine Tr.sr ?_
   refine Tr.mv rfl rfl ?_
   refine Tr.va rfl (fun _ _ h1 h2 => run_add (h1.ev rfl) (h1.ev rfl)) ?_
   refine Tr.asg rfl rfl ?_
   refine Tr.nil (Tr.normThen ?_)
   refine Tr.sr ?_
   refine Tr.asg rfl rfl ?_
   refine Tr.asg rfl rfl ?_
   refine Tr.nil (Tr.normThen ?_)
   have leJ172 := Bs.Le.refl w
   refine Tr.cutJ (σ := Int) (fun w s => F_etchhouseref3_count_J7 p0 rec x164 x165 (F_etchhouseref3_count_L5 p0 rec mF_etchhouseref3_count_L5) s = some r) (fun s => [(0, (.slice Ap0_0 (p0).length cp0_0)), (3, (.int .i64 (w64 (x164 + 1)))), (4, (.int .i64 x165)), (5, (.int .i64 s)), (6, (.int .i64 1))]) (fun s => []) ?_ ?_
   ·refine Tr.sr ?_
    refine Tr.mv rfl rfl ?_
    refine Tr.mv rfl rfl ?_
    obtain ⟨x190, hx190, H⟩ := bnd H
    obtain ⟨hx1900, hx1901, hx1902⟩ := idx_some hx190
    obtain ⟨u191, hRu191, hoku191, hcu191⟩ := (hp0_0).el hx1902
    replace hoku191 := TPlotStep_ok.1 hoku191
    obtain ⟨⟨Au191_0, cu191_0⟩, ⟨Au191_1, cu191_1⟩⟩ := u191
    obtain ⟨hoku191_0, hoku191_1⟩ := hoku191
    replace hoku191_0 : Sl w.R w.W fl_TPoint Au191_0 cu191_0 x190.Points := hoku191_0
    replace hoku191_1 : Sl w.R w.W fl_TPlotStep Au191_1 cu191_1 x190.Steps := hoku191_1
    refine Tr.va rfl (fun _ _ h1 h2 => run_indexAddr el_23 (h1.ev rfl) hp0_0.form (h1.ev rfl) hx1900 hx1901) ?_
    refine Tr.va rfl (fun _ _ h1 h2 => run_fieldAddr fo_84_4 (h1.ev rfl)) ?_
    refine Tr.va rfl (fun _ _ h1 h2 => run_load1 ag_3 (h1.ev rfl) (CellsAt.drop (rdR hRu191 hcu191 h2) 5) rfl) ?_
    obtain ⟨y192, hy192, H⟩ := bnd H
    refine Tr.call0 (r := (.bool y192)) (wn rfl) rfl Tryd.call30 (evl_cons rfl (evl_cons rfl (evl_cons rfl evl_nil))) (fun W hW => F_etchhouseref3_within_ok x190.NX 1 100 y192 hy192 (HF.start _)) ?_
    refine Tr.nil (Tr.normThen ?_)
    refine Tr.cond rfl H (fun H => ?_) (fun H => ?_)
    ·refine Tr.region ?_
     refine Tr.mv rfl rfl ?_
     refine Tr.mv rfl rfl ?_
     obtain ⟨x193, hx193, H⟩ := bnd H
     obtain ⟨hx1930, hx1931, hx1932⟩ := idx_some hx193
     obtain ⟨u194, hRu194, hoku194, hcu194⟩ := (hp0_0).el hx1932
     replace hoku194 := TPlotStep_ok.1 hoku194
     obtain ⟨⟨Au194_0, cu194_0⟩, ⟨Au194_1, cu194_1⟩⟩ := u194
     obtain ⟨hoku194_0, hoku194_1⟩ := hoku194
     replace hoku194_0 : Sl w.R w.W fl_TPoint Au194_0 cu194_0 x193.Points := hoku194_0
     replace hoku194_1 : Sl w.R w.W fl_TPlotStep Au194_1 cu194_1 x193.Steps := hoku194_1
     refine Tr.va rfl (fun _ _ h1 h2 => run_indexAddr el_23 (h1.ev rfl) hp0_0.form (h1.ev rfl) hx1930 hx1931) ?_
     refine Tr.va rfl (fun _ _ h1 h2 => run_fieldAddr fo_84_4 (h1.ev rfl)) ?_
     refine Tr.va rfl (fun _ _ h1 h2 => run_load1 ag_3 (h1.ev rfl) (CellsAt.drop (rdR hRu194 hcu194 h2) 5) rfl) ?_
     refine Tr.asg rfl rfl ?_
     refine Tr.nil ?_
     exact Tr.backThen leJ172 x193.NX H (.cons rfl (.cons rfl (.cons rfl (.cons rfl (.cons rfl .nil))))) .nil
    ·refine Tr.skip ?_
     exact Tr.backThen leJ172 1 H (.cons rfl (.cons rfl (.cons rfl (.cons rfl (.cons rfl .nil))))) .nil
   ·intro w x171 hlJ173 hs
    have H := hs
    replace H : F_etchhouseref3_count_J7 p0 rec x164 x165 (F_etchhouseref3_count_L5 p0 rec mF_etchhouseref3_count_L5) x171 = some r := H
    replace hp0_0 := hp0_0.leR hlJ173
    replace leB := leB.trans hlJ173
    replace leF_etchhouseref3_count_L5 := leF_etchhouseref3_count_L5.trans hlJ173
    unfold F_etchhouseref3_count_J7 at H
    show Tr _ _ (LF [(0, (.slice Ap0_0 (p0).length cp0_0)), (3, (.int .i64 (w64 (x164 + 1)))), (4, (.int .i64 x165)), (5, (.int .i64 x171)), (6, (.int .i64 1))]) (LE []) _
    have leJ180 := Bs.Le.refl w
    refine Tr.cutJ (σ := Int) (fun w s => F_etchhouseref3_count_J6 p0 rec x164 x165 (F_etchhouseref3_count_L5 p0 rec mF_etchhouseref3_count_L5) x171 s = some r) (fun s => [(0, (.slice Ap0_0 (p0).length cp0_0)), (3, (.int .i64 (w64 (x164 + 1)))), (4, (.int .i64 x165)), (5, (.int .i64 x171)), (6, (.int .i64 s))]) (fun s => []) ?_ ?_
    ·refine Tr.sr ?_
     refine Tr.mv rfl rfl ?_
     refine Tr.mv rfl rfl ?_
     obtain ⟨x185, hx185, H⟩ := bnd H
     obtain ⟨hx1850, hx1851, hx1852⟩ := idx_some hx185
     obtain ⟨u186, hRu186, hoku186, hcu186⟩ := (hp0_0).el hx1852
     replace hoku186 := TPlotStep_ok.1 hoku186
     obtain ⟨⟨Au186_0, cu186_0⟩, ⟨Au186_1, cu186_1⟩⟩ := u186
     obtain ⟨hoku186_0, hoku186_1⟩ := hoku186
     replace hoku186_0 : Sl w.R w.W fl_TPoint Au186_0 cu186_0 x185.Points := hoku186_0
     replace hoku186_1 : Sl w.R w.W fl_TPlotStep Au186_1 cu186_1 x185.Steps := hoku186_1
     refine Tr.va rfl (fun _ _ h1 h2 => run_indexAddr el_23 (h1.ev rfl) hp0_0.form (h1.ev rfl) hx1850 hx1851) ?_
     refine Tr.va rfl (fun _ _ h1 h2 => run_fieldAddr fo_84_5 (h1.ev rfl)) ?_
     refine Tr.va rfl (fun _ _ h1 h2 => run_load1 ag_3 (h1.ev rfl) (CellsAt.drop (rdR hRu186 hcu186 h2) 6) rfl) ?_
     obtain ⟨y187, hy187, H⟩ := bnd H
     refine Tr.call0 (r := (.bool y187)) (wn rfl) rfl Tryd.call30 (evl_cons rfl (evl_cons rfl (evl_cons rfl evl_nil))) (fun W hW => F_etchhouseref3_within_ok x185.NY 1 100 y187 hy187 (HF.start _)) ?_
     refine Tr.nil (Tr.normThen ?_)
     refine Tr.cond rfl H (fun H => ?_) (fun H => ?_)
     ·refine Tr.region ?_
      refine Tr.mv rfl rfl ?_
      refine Tr.mv rfl rfl ?_
      obtain ⟨x188, hx188, H⟩ := bnd H
      obtain ⟨hx1880, hx1881, hx1882⟩ := idx_some hx188
      obtain ⟨u189, hRu189, hoku189, hcu189⟩ := (hp0_0).el hx1882
      replace hoku189 := TPlotStep_ok.1 hoku189
      obtain ⟨⟨Au189_0, cu189_0⟩, ⟨Au189_1, cu189_1⟩⟩ := u189
      obtain ⟨hoku189_0, hoku189_1⟩ := hoku189
      replace hoku189_0 : Sl w.R w.W fl_TPoint Au189_0 cu189_0 x188.Points := hoku189_0
      replace hoku189_1 : Sl w.R w.W fl_TPlotStep Au189_1 cu189_1 x188.Steps := hoku189_1
      refine Tr.va rfl (fun _ _ h1 h2 => run_indexAddr el_23 (h1.ev rfl) hp0_0.form (h1.ev rfl) hx1880 hx1881) ?_
      refine Tr.va rfl (fun _ _ h1 h2 => run_fieldAddr fo_84_5 (h1.ev rfl)) ?_
      refine Tr.va rfl (fun _ _ h1 h2 => run_load1 ag_3 (h1.ev rfl) (CellsAt.drop (rdR hRu189 hcu189 h2) 6) rfl) ?_
      refine Tr.asg rfl rfl ?_
      refine Tr.nil ?_
      exact Tr.backThen leJ180 x188.NY H (.cons rfl (.cons rfl (.cons rfl (.cons rfl (.cons rfl .nil))))) .nil
     ·refine Tr.skip ?_
      exact Tr.backThen leJ180 1 H (.cons rfl (.cons rfl (.cons rfl (.cons rfl (.cons rfl .nil))))) .nil
    ·intro w x179 hlJ181 hs
     have H := hs
     replace H : F_etchhouseref3_count_J6 p0 rec x164 x165 (F_etchhouseref3_count_L5 p0 rec mF_etchhouseref3_count_L5) x171 x179 = some r := H
     replace hp0_0 := hp0_0.leR hlJ181
     replace leB := leB.trans hlJ181
     replace leF_etchhouseref3_count_L5 := leF_etchhouseref3_count_L5.trans hlJ181
     unfold F_etchhouseref3_count_J6 at H
     show Tr _ _ (LF [(0, (.slice Ap0_0 (p0).length cp0_0)), (3, (.int .i64 (w64 (x164 + 1)))), (4, (.int .i64 x165)), (5, (.int .i64 x171)), (6, (.int .i64 x179))]) (LE []) _
     refine Tr.region ?_
     refine Tr.mv rfl rfl ?_
     refine Tr.mv rfl rfl ?_
     refine Tr.mv rfl rfl ?_
     refine Tr.va rfl (fun _ _ h1 h2 => run_mul (h1.ev rfl) (h1.ev rfl)) ?_
     refine Tr.mv rfl rfl ?_
     refine Tr.mv rfl rfl ?_
     obtain ⟨x182, hx182, H⟩ := bnd H
     obtain ⟨hx1820, hx1821, hx1822⟩ := idx_some hx182
     obtain ⟨u183, hRu183, hoku183, hcu183⟩ := (hp0_0).el hx1822
     replace hoku183 := TPlotStep_ok.1 hoku183
     obtain ⟨⟨Au183_0, cu183_0⟩, ⟨Au183_1, cu183_1⟩⟩ := u183
     obtain ⟨hoku183_0, hoku183_1⟩ := hoku183
     replace hoku183_0 : Sl w.R w.W fl_TPoint Au183_0 cu183_0 x182.Points := hoku183_0
     replace hoku183_1 : Sl w.R w.W fl_TPlotStep Au183_1 cu183_1 x182.Steps := hoku183_1
     refine Tr.va rfl (fun _ _ h1 h2 => run_indexAddr el_23 (h1.ev rfl) hp0_0.form (h1.ev rfl) hx1820 hx1821) ?_
     refine Tr.va rfl (fun _ _ h1 h2 => run_fieldAddr fo_84_6 (h1.ev rfl)) ?_
     refine Tr.va rfl (fun _ _ h1 h2 => run_load1 ag_23 (h1.ev rfl) (CellsAt.drop (rdR hRu183 hcu183 h2) 7) rfl) ?_
     obtain ⟨y184, hy184, H⟩ := bnd H
     refine Tr.call0 (r := (.int .i64 y184)) (wn rfl) rfl Tryd.call33 (evl_cons rfl evl_nil) (fun W hW => hrec x182.Steps Au183_1 cu183_1 (hoku183_1.ext hW.extAll) y184 hy184 (HF.start _)) ?_
     refine Tr.va rfl (fun _ _ h1 h2 => run_mul (h1.ev rfl) (h1.ev rfl)) ?_
     refine Tr.va rfl (fun _ _ h1 h2 => run_add (h1.ev rfl) (h1.ev rfl)) ?_
     refine Tr.asg rfl rfl ?_
     refine Tr.nil (Tr.normBlock (Tr.normThen ?_))
     refine Tr.region ?_
     refine Tr.mv rfl rfl ?_
     refine Tr.va rfl (fun _ _ h1 h2 => run_add (h1.ev rfl) (h1.ev rfl)) ?_
     refine Tr.asg rfl rfl ?_
     refine Tr.nil ?_
     exact Tr.backThen leF_etchhouseref3_count_L5 ((w64 ((w64 (x164 + 1)) + (w64 ((w64 (x171 * x179)) * y184)))), (w64 (x165 + 1))) H (.cons rfl (.cons rfl (.cons rfl .nil))) .nil
  ·refine Tr.exit (Tr.exitThen (Tr.exitThen (Tr.exitBlock (Tr.normThen ?_))))
   refine Tr.sr ?_
   refine Tr.mv rfl rfl ?_
   refine Tr.va rfl (fun _ _ h1 h2 => run_min (h1.ev rfl) (h1.ev rfl) _) ?_
   refine Tr.asg rfl rfl ?_
   refine Tr.nil (Tr.normThen ?_)
   refine Tr.ret ?_
   obtain rfl := Option.some.inj H
   exact Tr.out (m := [(.int .i64 (min x164 3001))]) [] (res_tmp rfl res_nil) (fun W hW => ⟨rfl, hW.low leB⟩)
theorem F_etchhouseref3_count_ok : ∀ (N : Nat) {w : Bs} (p0 : (List TPlotStep)) (Ap0_0 : Option Addr) (cp0_0 : Nat) (hp0_0 : Sl w.R w.W fl_TPlotStep Ap0_0 cp0_0 p0) (r : Int) (H : F_etchhouseref3_count N p0 = some r) (hE : HF w w.W E0), Calls Tryd.prog 33 [(.slice Ap0_0 (p0).length cp0_0)].toArray w.W fun e W' => e = .returned (.int .i64 r) ∧ HF w W' E0
 | 0 => by intros; rename_i H _; cases H
 | N + 1 => F_etchhouseref3_count_b_ok N (F_etchhouseref3_count N) (F_etchhouseref3_count_ok N)

theorem F_etchhouseref3_fields_ok {w : Bs} (p0 : TPlotStep) (Ap0_0 : Option Addr) (cp0_0 : Nat) (hp0_0 : Sl w.R w.W fl_TPoint Ap0_0 cp0_0 p0.Points) (Ap0_1 : Option Addr) (cp0_1 : Nat) (hp0_1 : Sl w.R w.W fl_TPlotStep Ap0_1 cp0_1 p0.Steps) (r : Bool) (H : F_etchhouseref3_fields p0 = some r) (hE : HF w w.W E0) : Calls Tryd.prog 92 [(.agg #[(.int .i64 p0.Kind), (.string p0.Name), (.int .i64 p0.At.X), (.int .i64 p0.At.Y), (.slice Ap0_0 (p0.Points).length cp0_0), (.int .i64 p0.NX), (.int .i64 p0.NY), (.slice Ap0_1 (p0.Steps).length cp0_1)])].toArray w.W fun e W' => e = .returned (.bool r) ∧ HF w W' E0 := by
 unfold F_etchhouseref3_fields at H
 have leB := Bs.Le.refl w
 refine Tr.enter (n := 62) Tryd.func92 rfl rfl rfl hE ?_
 refine Tr.sr ?_
 refine Tr.box 1 (cs := [(.int .i64 p0.Kind), (.string p0.Name), (.int .i64 p0.At.X), (.int .i64 p0.At.Y), (.slice Ap0_0 (p0.Points).length cp0_0), (.int .i64 p0.NX), (.int .i64 p0.NY), (.slice Ap0_1 (p0.Steps).length cp0_1)]) (wn rfl) rfl rfl rfl fun b100 => ?_
 refine Tr.asg rfl rfl ?_
 refine Tr.nil (Tr.normThen ?_)
 refine Tr.sr ?_
 refine Tr.asg rfl rfl ?_
 refine Tr.asg rfl rfl ?_
 refine Tr.asg rfl rfl ?_
 refine Tr.asg rfl rfl ?_
 refine Tr.nil (Tr.normThen ?_)
 have leJ108 := Bs.Le.refl w
 refine Tr.cutJ (σ := Bool × Bool × Bool × Bool) (fun w s => F_etchhouseref3_fields_J2 p0 s.1 s.2.1 s.2.2.1 s.2.2.2 = some r) (fun s => [(1, (.pointer (some ⟨b100, 0, none⟩))), (3, (.bool s.1)), (4, (.bool s.2.1)), (5, (.bool s.2.2.1)), (6, (.bool s.2.2.2))]) (fun s => [(1, bx b100 #[(.int .i64 p0.Kind), (.string p0.Name), (.int .i64 p0.At.X), (.int .i64 p0.At.Y), (.slice Ap0_0 (p0.Points).length cp0_0), (.int .i64 p0.NX), (.int .i64 p0.NY), (.slice Ap0_1 (p0.Steps).length cp0_1)] 84)]) ?_ ?_
 ·refine Tr.sr ?_
  refine Tr.va rfl (fun _ _ h1 h2 => run_fieldAddr fo_84_0 (h1.ev rfl)) ?_
  refine Tr.va rfl (fun _ _ h1 h2 => run_load1 ag_3 (h1.ev rfl) (rdb h2 (vs := [(.int .i64 p0.Kind), (.string p0.Name), (.int .i64 p0.At.X), (.int .i64 p0.At.Y), (.slice Ap0_0 (p0.Points).length cp0_0), (.int .i64 p0.NX), (.int .i64 p0.NY), (.slice Ap0_1 (p0.Steps).length cp0_1)]) (k := 1) rfl 0) rfl) ?_
  refine Tr.nil (Tr.normThen ?_)
  refine Tr.block ?_
  refine Tr.sr ?_
  refine Tr.va rfl (fun _ _ h1 h2 => run_eql (h1.ev rfl) (h1.ev rfl)) ?_
  refine Tr.asg rfl rfl ?_
  refine Tr.nil (Tr.normThen ?_)
  refine Tr.cond rfl H (fun H => ?_) (fun H => ?_)
  ·refine Tr.region ?_
   refine Tr.asg rfl rfl ?_
   refine Tr.nil (Tr.normBlock ?_)
   exact Tr.backThen leJ108 (true, false, false, false) H (.cons rfl (.cons rfl (.cons rfl (.cons rfl (.cons rfl .nil))))) (.cons rfl .nil)
  ·have leJ111 := Bs.Le.refl w
   refine Tr.cutJ (σ := Bool) (fun w s => F_etchhouseref3_fields_J3 p0 s = some r) (fun s => [(1, (.pointer (some ⟨b100, 0, none⟩))), (3, (.bool false)), (4, (.bool false)), (5, (.bool false)), (6, (.bool false)), (8, (.int .i64 p0.Kind)), (11, (.bool s))]) (fun s => [(1, bx b100 #[(.int .i64 p0.Kind), (.string p0.Name), (.int .i64 p0.At.X), (.int .i64 p0.At.Y), (.slice Ap0_0 (p0.Points).length cp0_0), (.int .i64 p0.NX), (.int .i64 p0.NY), (.slice Ap0_1 (p0.Steps).length cp0_1)] 84)]) ?_ ?_
   ·refine Tr.sr ?_
    refine Tr.va rfl (fun _ _ h1 h2 => run_eql (h1.ev rfl) (h1.ev rfl)) ?_
    refine Tr.asg rfl rfl ?_
    refine Tr.nil (Tr.normThen ?_)
    refine Tr.cond rfl H (fun H => ?_) (fun H => ?_)
    ·refine Tr.skip ?_
     exact Tr.backThen leJ111 (p0.Kind == 4) H (.cons rfl (.cons rfl (.cons rfl (.cons rfl (.cons rfl (.cons rfl (.cons rfl .nil))))))) (.cons rfl .nil)
    ·refine Tr.sr ?_
     refine Tr.va rfl (fun _ _ h1 h2 => run_eql (h1.ev rfl) (h1.ev rfl)) ?_
     refine Tr.asg rfl rfl ?_
     refine Tr.nil (Tr.normThen ?_)
     refine Tr.cond rfl H (fun H => ?_) (fun H => ?_)
     ·refine Tr.skip ?_
      exact Tr.backThen leJ111 (p0.Kind == 5) H (.cons rfl (.cons rfl (.cons rfl (.cons rfl (.cons rfl (.cons rfl (.cons rfl .nil))))))) (.cons rfl .nil)
     ·refine Tr.region ?_
      refine Tr.va rfl (fun _ _ h1 h2 => run_eql (h1.ev rfl) (h1.ev rfl)) ?_
      refine Tr.asg rfl rfl ?_
      refine Tr.nil ?_
      exact Tr.backThen leJ111 (p0.Kind == 6) H (.cons rfl (.cons rfl (.cons rfl (.cons rfl (.cons rfl (.cons rfl (.cons rfl .nil))))))) (.cons rfl .nil)
   ·intro w x110 hlJ112 hs
    have H := hs
    replace H : F_etchhouseref3_fields_J3 p0 x110 = some r := H
    replace hp0_0 := hp0_0.leR hlJ112
    replace hp0_1 := hp0_1.leR hlJ112
    replace leB := leB.trans hlJ112
    replace leJ108 := leJ108.trans hlJ112
    unfold F_etchhouseref3_fields_J3 at H
    show Tr _ _ (LF [(1, (.pointer (some ⟨b100, 0, none⟩))), (3, (.bool false)), (4, (.bool false)), (5, (.bool false)), (6, (.bool false)), (8, (.int .i64 p0.Kind)), (11, (.bool x110))]) (LE [(1, bx b100 #[(.int .i64 p0.Kind), (.string p0.Name), (.int .i64 p0.At.X), (.int .i64 p0.At.Y), (.slice Ap0_0 (p0.Points).length cp0_0), (.int .i64 p0.NX), (.int .i64 p0.NY), (.slice Ap0_1 (p0.Steps).length cp0_1)] 84)]) _
    refine Tr.cond rfl H (fun H => ?_) (fun H => ?_)
    ·refine Tr.region ?_
     refine Tr.asg rfl rfl ?_
     refine Tr.nil (Tr.normBlock ?_)
     exact Tr.backThen leJ108 (false, true, false, false) H (.cons rfl (.cons rfl (.cons rfl (.cons rfl (.cons rfl .nil))))) (.cons rfl .nil)
    ·refine Tr.sr ?_
     refine Tr.va rfl (fun _ _ h1 h2 => run_eql (h1.ev rfl) (h1.ev rfl)) ?_
     refine Tr.asg rfl rfl ?_
     refine Tr.nil (Tr.normThen ?_)
     refine Tr.cond rfl H (fun H => ?_) (fun H => ?_)
     ·refine Tr.region ?_
      refine Tr.asg rfl rfl ?_
      refine Tr.nil (Tr.normBlock ?_)
      exact Tr.backThen leJ108 (false, false, true, false) H (.cons rfl (.cons rfl (.cons rfl (.cons rfl (.cons rfl .nil))))) (.cons rfl .nil)
     ·refine Tr.sr ?_
      refine Tr.va rfl (fun _ _ h1 h2 => run_eql (h1.ev rfl) (h1.ev rfl)) ?_
      refine Tr.asg rfl rfl ?_
      refine Tr.nil (Tr.normThen ?_)
      refine Tr.cond rfl H (fun H => ?_) (fun H => ?_)
      ·refine Tr.region ?_
       refine Tr.asg rfl rfl ?_
       refine Tr.asg rfl rfl ?_
       refine Tr.nil (Tr.normBlock ?_)
       exact Tr.backThen leJ108 (false, true, false, true) H (.cons rfl (.cons rfl (.cons rfl (.cons rfl (.cons rfl .nil))))) (.cons rfl .nil)
      ·refine Tr.skip (Tr.normBlock ?_)
       exact Tr.backThen leJ108 (false, false, false, false) H (.cons rfl (.cons rfl (.cons rfl (.cons rfl (.cons rfl .nil))))) (.cons rfl .nil)
 ·intro w s hlJ109 hs
  obtain ⟨x104, x105, x106, x107⟩ := s
  have H := hs
  replace H : F_etchhouseref3_fields_J2 p0 x104 x105 x106 x107 = some r := H
  replace hp0_0 := hp0_0.leR hlJ109
  replace hp0_1 := hp0_1.leR hlJ109
  replace leB := leB.trans hlJ109
  unfold F_etchhouseref3_fields_J2 at H
  show Tr _ _ (LF [(1, (.pointer (some ⟨b100, 0, none⟩))), (3, (.bool x104)), (4, (.bool x105)), (5, (.bool x106)), (6, (.bool x107))]) (LE [(1, bx b100 #[(.int .i64 p0.Kind), (.string p0.Name), (.int .i64 p0.At.X), (.int .i64 p0.At.Y), (.slice Ap0_0 (p0.Points).length cp0_0), (.int .i64 p0.NX), (.int .i64 p0.NY), (.slice Ap0_1 (p0.Steps).length cp0_1)] 84)]) _
  refine Tr.sr ?_
  refine Tr.mv rfl rfl ?_
  refine Tr.mv rfl rfl ?_
  refine Tr.mid0 4 [(1, (.pointer (some ⟨b100, 0, none⟩))), (4, (.bool x105)), (5, (.bool x106)), (6, (.bool x107)), (24, (.bool (x104 || (sEq p0.Name ByteArray.empty))))] [(1, bx b100 #[(.int .i64 p0.Kind), (.string p0.Name), (.int .i64 p0.At.X), (.int .i64 p0.At.Y), (.slice Ap0_0 (p0.Points).length cp0_0), (.int .i64 p0.NX), (.int .i64 p0.NY), (.slice Ap0_1 (p0.Steps).length cp0_1)] 84)] ?_ ?_
  ·cases hg109 : x104
   ·refine Tr.val (wg rfl rfl rfl) rfl (fun _ _ h1 h2 => run_fieldAddr fo_84_1 (h1.ev rfl)) ?_
    refine Tr.val (wg rfl rfl rfl) rfl (fun _ _ h1 h2 => run_load1 ag_9 (h1.ev rfl) (rdb h2 (vs := [(.int .i64 p0.Kind), (.string p0.Name), (.int .i64 p0.At.X), (.int .i64 p0.At.Y), (.slice Ap0_0 (p0.Points).length cp0_0), (.int .i64 p0.NX), (.int .i64 p0.NY), (.slice Ap0_1 (p0.Steps).length cp0_1)]) (k := 1) rfl 1) rfl) ?_
    refine Tr.val (wg rfl rfl rfl) rfl (fun _ _ h1 h2 => run_eqlS (h1.ev rfl) (h1.ev rfl)) ?_
    refine Tr.va rfl (fun _ _ h1 h2 => run_pickF (h1.ev rfl) (h1.ev rfl)) ?_
    exact Tr.nil (Tr.fin0 (.cons rfl (.cons rfl (.cons rfl (.cons rfl (.cons rfl .nil))))) (.cons rfl .nil))
   ·refine Tr.pass rfl rfl rfl rfl rfl (by decide) ?_
    refine Tr.pass rfl rfl rfl rfl rfl (by decide) ?_
    refine Tr.pass rfl rfl rfl rfl rfl (by decide) ?_
    refine Tr.va rfl (fun _ _ h1 h2 => run_pickT (h1.ev rfl) (h1.ev rfl)) ?_
    exact Tr.nil (Tr.fin0 (.cons rfl (.cons rfl (.cons rfl (.cons rfl (.cons rfl .nil))))) (.cons rfl .nil))
  ·show Tr _ _ (LF [(1, (.pointer (some ⟨b100, 0, none⟩))), (4, (.bool x105)), (5, (.bool x106)), (6, (.bool x107)), (24, (.bool (x104 || (sEq p0.Name ByteArray.empty))))]) (LE [(1, bx b100 #[(.int .i64 p0.Kind), (.string p0.Name), (.int .i64 p0.At.X), (.int .i64 p0.At.Y), (.slice Ap0_0 (p0.Points).length cp0_0), (.int .i64 p0.NX), (.int .i64 p0.NY), (.slice Ap0_1 (p0.Steps).length cp0_1)] 84)]) _
   refine Tr.mv rfl rfl ?_
   refine Tr.mid0 8 [(1, (.pointer (some ⟨b100, 0, none⟩))), (5, (.bool x106)), (6, (.bool x107)), (33, (.bool ((x104 || (sEq p0.Name ByteArray.empty)) && (x105 || (eqTPoint p0.At (TPoint.mk 0 0))))))] [(1, bx b100 #[(.int .i64 p0.Kind), (.string p0.Name), (.int .i64 p0.At.X), (.int .i64 p0.At.Y), (.slice Ap0_0 (p0.Points).length cp0_0), (.int .i64 p0.NX), (.int .i64 p0.NY), (.slice Ap0_1 (p0.Steps).length cp0_1)] 84)] ?_ ?_
   ·cases hg109 : (x104 || (sEq p0.Name ByteArray.empty))
    ·refine Tr.pass rfl rfl rfl rfl rfl (by decide) ?_
     refine Tr.pass rfl rfl rfl rfl rfl (by decide) ?_
     refine Tr.passU rfl rfl rfl rfl (by decide) ?_
     refine Tr.passU rfl rfl rfl rfl (by decide) ?_
     refine Tr.passU rfl rfl rfl rfl (by decide) ?_
     refine Tr.passU rfl rfl rfl rfl (by decide) ?_
     refine Tr.pass rfl rfl rfl rfl rfl (by decide) ?_
     refine Tr.va rfl (fun _ _ h1 h2 => run_pickF (h1.ev rfl) (h1.ev rfl)) ?_
     exact Tr.nil (Tr.fin0 (.cons rfl (.cons rfl (.cons rfl (.cons rfl .nil)))) (.cons rfl .nil))
    ·refine Tr.val (wg rfl rfl rfl) rfl (fun _ _ h1 h2 => run_move (h1.ev rfl)) ?_
     refine Tr.val (wg rfl rfl rfl) rfl (fun _ _ h1 h2 => run_move (h1.ev rfl)) ?_
     refine Tr.mid0 5 [(1, (.pointer (some ⟨b100, 0, none⟩))), (5, (.bool x106)), (6, (.bool x107)), (25, (.bool true)), (32, (.bool (x105 || (eqTPoint p0.At (TPoint.mk 0 0)))))] [(1, bx b100 #[(.int .i64 p0.Kind), (.string p0.Name), (.int .i64 p0.At.X), (.int .i64 p0.At.Y), (.slice Ap0_0 (p0.Points).length cp0_0), (.int .i64 p0.NX), (.int .i64 p0.NY), (.slice Ap0_1 (p0.Steps).length cp0_1)] 84)] ?_ ?_
     ·cases hg109 : x105
      ·refine Tr.val (wg rfl rfl rfl) rfl (fun _ _ h1 h2 => run_fieldAddr fo_84_2 (h1.ev rfl)) ?_
       refine Tr.val (wg rfl rfl rfl) rfl (fun _ _ h1 h2 => run_loadN (cs := [(.int .i64 p0.At.X), (.int .i64 p0.At.Y)]) ag_37 sz_37 (h1.ev rfl) (CellsAt.take (rdb h2 (vs := [(.int .i64 p0.Kind), (.string p0.Name), (.int .i64 p0.At.X), (.int .i64 p0.At.Y), (.slice Ap0_0 (p0.Points).length cp0_0), (.int .i64 p0.NX), (.int .i64 p0.NY), (.slice Ap0_1 (p0.Steps).length cp0_1)]) (k := 1) rfl 2) 2) rfl) ?_
       refine Tr.build (vs := []) (cs := [(.int .i64 0), (.int .i64 0)]) (wg rfl rfl rfl) rfl evs_nil (by kernel_rfl) ?_
       refine Tr.val (wg rfl rfl rfl) rfl (fun _ _ h1 h2 => run_eql_37 p0.At (TPoint.mk 0 0) (h1.ev rfl) (h1.ev rfl)) ?_
       refine Tr.val (wg rfl rfl rfl) rfl (fun _ _ h1 h2 => run_pickF (h1.ev rfl) (h1.ev rfl)) ?_
       exact Tr.nil (Tr.fin0 (.cons rfl (.cons rfl (.cons rfl (.cons rfl (.cons rfl .nil))))) (.cons rfl .nil))
      ·refine Tr.pass rfl rfl rfl rfl rfl (by decide) ?_
       refine Tr.pass rfl rfl rfl rfl rfl (by decide) ?_
       refine Tr.pass rfl rfl rfl rfl rfl (by decide) ?_
       refine Tr.pass rfl rfl rfl rfl rfl (by decide) ?_
       refine Tr.val (wg rfl rfl rfl) rfl (fun _ _ h1 h2 => run_pickT (h1.ev rfl) (h1.ev rfl)) ?_
       exact Tr.nil (Tr.fin0 (.cons rfl (.cons rfl (.cons rfl (.cons rfl (.cons rfl .nil))))) (.cons rfl .nil))
     ·show Tr _ _ (LF [(1, (.pointer (some ⟨b100, 0, none⟩))), (5, (.bool x106)), (6, (.bool x107)), (25, (.bool true)), (32, (.bool (x105 || (eqTPoint p0.At (TPoint.mk 0 0)))))]) (LE [(1, bx b100 #[(.int .i64 p0.Kind), (.string p0.Name), (.int .i64 p0.At.X), (.int .i64 p0.At.Y), (.slice Ap0_0 (p0.Points).length cp0_0), (.int .i64 p0.NX), (.int .i64 p0.NY), (.slice Ap0_1 (p0.Steps).length cp0_1)] 84)]) _
      refine Tr.va rfl (fun _ _ h1 h2 => run_pickT (h1.ev rfl) (h1.ev rfl)) ?_
      exact Tr.nil (Tr.fin0 (.cons rfl (.cons rfl (.cons rfl (.cons rfl .nil)))) (.cons rfl .nil))
   ·show Tr _ _ (LF [(1, (.pointer (some ⟨b100, 0, none⟩))), (5, (.bool x106)), (6, (.bool x107)), (33, (.bool ((x104 || (sEq p0.Name ByteArray.empty)) && (x105 || (eqTPoint p0.At (TPoint.mk 0 0))))))]) (LE [(1, bx b100 #[(.int .i64 p0.Kind), (.string p0.Name), (.int .i64 p0.At.X), (.int .i64 p0.At.Y), (.slice Ap0_0 (p0.Points).length cp0_0), (.int .i64 p0.NX), (.int .i64 p0.NY), (.slice Ap0_1 (p0.Steps).length cp0_1)] 84)]) _
    refine Tr.mv rfl rfl ?_
    refine Tr.mid0 8 [(1, (.pointer (some ⟨b100, 0, none⟩))), (6, (.bool x107)), (42, (.bool (((x104 || (sEq p0.Name ByteArray.empty)) && (x105 || (eqTPoint p0.At (TPoint.mk 0 0)))) && (x106 || ((p0.Points.length : Int) == 0)))))] [(1, bx b100 #[(.int .i64 p0.Kind), (.string p0.Name), (.int .i64 p0.At.X), (.int .i64 p0.At.Y), (.slice Ap0_0 (p0.Points).length cp0_0), (.int .i64 p0.NX), (.int .i64 p0.NY), (.slice Ap0_1 (p0.Steps).length cp0_1)] 84)] ?_ ?_
    ·cases hg109 : ((x104 || (sEq p0.Name ByteArray.empty)) && (x105 || (eqTPoint p0.At (TPoint.mk 0 0))))
     ·refine Tr.pass rfl rfl rfl rfl rfl (by decide) ?_
      refine Tr.pass rfl rfl rfl rfl rfl (by decide) ?_
      refine Tr.passU rfl rfl rfl rfl (by decide) ?_
      refine Tr.passU rfl rfl rfl rfl (by decide) ?_
      refine Tr.passU rfl rfl rfl rfl (by decide) ?_
      refine Tr.passU rfl rfl rfl rfl (by decide) ?_
      refine Tr.pass rfl rfl rfl rfl rfl (by decide) ?_
      refine Tr.va rfl (fun _ _ h1 h2 => run_pickF (h1.ev rfl) (h1.ev rfl)) ?_
      exact Tr.nil (Tr.fin0 (.cons rfl (.cons rfl (.cons rfl .nil))) (.cons rfl .nil))
     ·refine Tr.val (wg rfl rfl rfl) rfl (fun _ _ h1 h2 => run_move (h1.ev rfl)) ?_
      refine Tr.val (wg rfl rfl rfl) rfl (fun _ _ h1 h2 => run_move (h1.ev rfl)) ?_
      refine Tr.mid0 5 [(1, (.pointer (some ⟨b100, 0, none⟩))), (6, (.bool x107)), (34, (.bool true)), (41, (.bool (x106 || ((p0.Points.length : Int) == 0))))] [(1, bx b100 #[(.int .i64 p0.Kind), (.string p0.Name), (.int .i64 p0.At.X), (.int .i64 p0.At.Y), (.slice Ap0_0 (p0.Points).length cp0_0), (.int .i64 p0.NX), (.int .i64 p0.NY), (.slice Ap0_1 (p0.Steps).length cp0_1)] 84)] ?_ ?_
      ·cases hg109 : x106
       ·refine Tr.val (wg rfl rfl rfl) rfl (fun _ _ h1 h2 => run_fieldAddr fo_84_3 (h1.ev rfl)) ?_
        refine Tr.val (wg rfl rfl rfl) rfl (fun _ _ h1 h2 => run_load1 ag_82 (h1.ev rfl) (rdb h2 (vs := [(.int .i64 p0.Kind), (.string p0.Name), (.int .i64 p0.At.X), (.int .i64 p0.At.Y), (.slice Ap0_0 (p0.Points).length cp0_0), (.int .i64 p0.NX), (.int .i64 p0.NY), (.slice Ap0_1 (p0.Steps).length cp0_1)]) (k := 1) rfl 4) rfl) ?_
        refine Tr.val (wg rfl rfl rfl) rfl (fun _ _ h1 h2 => run_len un_82 (h1.ev rfl)) ?_
        refine Tr.val (wg rfl rfl rfl) rfl (fun _ _ h1 h2 => run_eql (h1.ev rfl) (h1.ev rfl)) ?_
        refine Tr.val (wg rfl rfl rfl) rfl (fun _ _ h1 h2 => run_pickF (h1.ev rfl) (h1.ev rfl)) ?_
        exact Tr.nil (Tr.fin0 (.cons rfl (.cons rfl (.cons rfl (.cons rfl .nil)))) (.cons rfl .nil))
       ·refine Tr.pass rfl rfl rfl rfl rfl (by decide) ?_
        refine Tr.pass rfl rfl rfl rfl rfl (by decide) ?_
        refine Tr.pass rfl rfl rfl rfl rfl (by decide) ?_
        refine Tr.pass rfl rfl rfl rfl rfl (by decide) ?_
        refine Tr.val (wg rfl rfl rfl) rfl (fun _ _ h1 h2 => run_pickT (h1.ev rfl) (h1.ev rfl)) ?_
        exact Tr.nil (Tr.fin0 (.cons rfl (.cons rfl (.cons rfl (.cons rfl .nil)))) (.cons rfl .nil))
      ·show Tr _ _ (LF [(1, (.pointer (some ⟨b100, 0, none⟩))), (6, (.bool x107)), (34, (.bool true)), (41, (.bool (x106 || ((p0.Points.length : Int) == 0))))]) (LE [(1, bx b100 #[(.int .i64 p0.Kind), (.string p0.Name), (.int .i64 p0.At.X), (.int .i64 p0.At.Y), (.slice Ap0_0 (p0.Points).length cp0_0), (.int .i64 p0.NX), (.int .i64 p0.NY), (.slice Ap0_1 (p0.Steps).length cp0_1)] 84)]) _
       refine Tr.va rfl (fun _ _ h1 h2 => run_pickT (h1.ev rfl) (h1.ev rfl)) ?_
       exact Tr.nil (Tr.fin0 (.cons rfl (.cons rfl (.cons rfl .nil))) (.cons rfl .nil))
    ·show Tr _ _ (LF [(1, (.pointer (some ⟨b100, 0, none⟩))), (6, (.bool x107)), (42, (.bool (((x104 || (sEq p0.Name ByteArray.empty)) && (x105 || (eqTPoint p0.At (TPoint.mk 0 0)))) && (x106 || ((p0.Points.length : Int) == 0)))))]) (LE [(1, bx b100 #[(.int .i64 p0.Kind), (.string p0.Name), (.int .i64 p0.At.X), (.int .i64 p0.At.Y), (.slice Ap0_0 (p0.Points).length cp0_0), (.int .i64 p0.NX), (.int .i64 p0.NY), (.slice Ap0_1 (p0.Steps).length cp0_1)] 84)]) _
     refine Tr.mv rfl rfl ?_
     refine Tr.mid0 18 [(61, (.bool ((((x104 || (sEq p0.Name ByteArray.empty)) && (x105 || (eqTPoint p0.At (TPoint.mk 0 0)))) && (x106 || ((p0.Points.length : Int) == 0))) && (x107 || (((p0.NX == 0) && (p0.NY == 0)) && ((p0.Steps.length : Int) == 0))))))] [(1, bx b100 #[(.int .i64 p0.Kind), (.string p0.Name), (.int .i64 p0.At.X), (.int .i64 p0.At.Y), (.slice Ap0_0 (p0.Points).length cp0_0), (.int .i64 p0.NX), (.int .i64 p0.NY), (.slice Ap0_1 (p0.Steps).length cp0_1)] 84)] ?_ ?_
     ·cases hg109 : (((x104 || (sEq p0.Name ByteArray.empty)) && (x105 || (eqTPoint p0.At (TPoint.mk 0 0)))) && (x106 || ((p0.Points.length : Int) == 0)))
      ·refine Tr.pass rfl rfl rfl rfl rfl (by decide) ?_
       refine Tr.pass rfl rfl rfl rfl rfl (by decide) ?_
       refine Tr.passU rfl rfl rfl rfl (by decide) ?_
       refine Tr.passU rfl rfl rfl rfl (by decide) ?_
       refine Tr.passU rfl rfl rfl rfl (by decide) ?_
       refine Tr.passU rfl rfl rfl rfl (by decide) ?_
       refine Tr.passU rfl rfl rfl rfl (by decide) ?_
       refine Tr.passU rfl rfl rfl rfl (by decide) ?_
       refine Tr.passU rfl rfl rfl rfl (by decide) ?_
       refine Tr.passU rfl rfl rfl rfl (by decide) ?_
       refine Tr.passU rfl rfl rfl rfl (by decide) ?_
       refine Tr.passU rfl rfl rfl rfl (by decide) ?_
       refine Tr.passU rfl rfl rfl rfl (by decide) ?_
       refine Tr.passU rfl rfl rfl rfl (by decide) ?_
       refine Tr.passU rfl rfl rfl rfl (by decide) ?_
       refine Tr.passU rfl rfl rfl rfl (by decide) ?_
       refine Tr.pass rfl rfl rfl rfl rfl (by decide) ?_
       refine Tr.va rfl (fun _ _ h1 h2 => run_pickF (h1.ev rfl) (h1.ev rfl)) ?_
       exact Tr.nil (Tr.fin0 (.cons rfl .nil) (.cons rfl .nil))
      ·refine Tr.val (wg rfl rfl rfl) rfl (fun _ _ h1 h2 => run_move (h1.ev rfl)) ?_
       refine Tr.val (wg rfl rfl rfl) rfl (fun _ _ h1 h2 => run_move (h1.ev rfl)) ?_
       refine Tr.mid0 15 [(43, (.bool true)), (60, (.bool (x107 || (((p0.NX == 0) && (p0.NY == 0)) && ((p0.Steps.length : Int) == 0)))))] [(1, bx b100 #[(.int .i64 p0.Kind), (.string p0.Name), (.int .i64 p0.At.X), (.int .i64 p0.At.Y), (.slice Ap0_0 (p0.Points).length cp0_0), (.int .i64 p0.NX), (.int .i64 p0.NY), (.slice Ap0_1 (p0.Steps).length cp0_1)] 84)] ?_ ?_
       ·cases hg109 : x107
        ·refine Tr.val (wg rfl rfl rfl) rfl (fun _ _ h1 h2 => run_fieldAddr fo_84_4 (h1.ev rfl)) ?_
         refine Tr.val (wg rfl rfl rfl) rfl (fun _ _ h1 h2 => run_load1 ag_3 (h1.ev rfl) (rdb h2 (vs := [(.int .i64 p0.Kind), (.string p0.Name), (.int .i64 p0.At.X), (.int .i64 p0.At.Y), (.slice Ap0_0 (p0.Points).length cp0_0), (.int .i64 p0.NX), (.int .i64 p0.NY), (.slice Ap0_1 (p0.Steps).length cp0_1)]) (k := 1) rfl 5) rfl) ?_
         refine Tr.val (wg rfl rfl rfl) rfl (fun _ _ h1 h2 => run_eql (h1.ev rfl) (h1.ev rfl)) ?_
         refine Tr.val (wg rfl rfl rfl) rfl (fun _ _ h1 h2 => run_move (h1.ev rfl)) ?_
         refine Tr.mid0 4 [(1, (.pointer (some ⟨b100, 0, none⟩))), (43, (.bool true)), (45, (.bool false)), (53, (.bool ((p0.NX == 0) && (p0.NY == 0))))] [(1, bx b100 #[(.int .i64 p0.Kind), (.string p0.Name), (.int .i64 p0.At.X), (.int .i64 p0.At.Y), (.slice Ap0_0 (p0.Points).length cp0_0), (.int .i64 p0.NX), (.int .i64 p0.NY), (.slice Ap0_1 (p0.Steps).length cp0_1)] 84)] ?_ ?_
         ·cases hg109 : (p0.NX == 0)
          ·refine Tr.pass rfl rfl rfl rfl rfl (by decide) ?_
           refine Tr.pass rfl rfl rfl rfl rfl (by decide) ?_
           refine Tr.pass rfl rfl rfl rfl rfl (by decide) ?_
           refine Tr.val (wg rfl rfl rfl) rfl (fun _ _ h1 h2 => run_pickF (h1.ev rfl) (h1.ev rfl)) ?_
           exact Tr.nil (Tr.fin0 (.cons rfl (.cons rfl (.cons rfl (.cons rfl .nil)))) (.cons rfl .nil))
          ·refine Tr.val (wg rfl rfl rfl) rfl (fun _ _ h1 h2 => run_fieldAddr fo_84_5 (h1.ev rfl)) ?_
           refine Tr.val (wg rfl rfl rfl) rfl (fun _ _ h1 h2 => run_load1 ag_3 (h1.ev rfl) (rdb h2 (vs := [(.int .i64 p0.Kind), (.string p0.Name), (.int .i64 p0.At.X), (.int .i64 p0.At.Y), (.slice Ap0_0 (p0.Points).length cp0_0), (.int .i64 p0.NX), (.int .i64 p0.NY), (.slice Ap0_1 (p0.Steps).length cp0_1)]) (k := 1) rfl 6) rfl) ?_
           refine Tr.val (wg rfl rfl rfl) rfl (fun _ _ h1 h2 => run_eql (h1.ev rfl) (h1.ev rfl)) ?_
           refine Tr.val (wg rfl rfl rfl) rfl (fun _ _ h1 h2 => run_pickT (h1.ev rfl) (h1.ev rfl)) ?_
           exact Tr.nil (Tr.fin0 (.cons rfl (.cons rfl (.cons rfl (.cons rfl .nil)))) (.cons rfl .nil))
         ·show Tr _ _ (LF [(1, (.pointer (some ⟨b100, 0, none⟩))), (43, (.bool true)), (45, (.bool false)), (53, (.bool ((p0.NX == 0) && (p0.NY == 0))))]) (LE [(1, bx b100 #[(.int .i64 p0.Kind), (.string p0.Name), (.int .i64 p0.At.X), (.int .i64 p0.At.Y), (.slice Ap0_0 (p0.Points).length cp0_0), (.int .i64 p0.NX), (.int .i64 p0.NY), (.slice Ap0_1 (p0.Steps).length cp0_1)] 84)]) _
          refine Tr.val (wg rfl rfl rfl) rfl (fun _ _ h1 h2 => run_move (h1.ev rfl)) ?_
          refine Tr.mid0 5 [(43, (.bool true)), (45, (.bool false)), (59, (.bool (((p0.NX == 0) && (p0.NY == 0)) && ((p0.Steps.length : Int) == 0))))] [(1, bx b100 #[(.int .i64 p0.Kind), (.string p0.Name), (.int .i64 p0.At.X), (.int .i64 p0.At.Y), (.slice Ap0_0 (p0.Points).length cp0_0), (.int .i64 p0.NX), (.int .i64 p0.NY), (.slice Ap0_1 (p0.Steps).length cp0_1)] 84)] ?_ ?_
          ·cases hg109 : ((p0.NX == 0) && (p0.NY == 0))
           ·refine Tr.pass rfl rfl rfl rfl rfl (by decide) ?_
            refine Tr.pass rfl rfl rfl rfl rfl (by decide) ?_
            refine Tr.pass rfl rfl rfl rfl rfl (by decide) ?_
            refine Tr.pass rfl rfl rfl rfl rfl (by decide) ?_
            refine Tr.val (wg rfl rfl rfl) rfl (fun _ _ h1 h2 => run_pickF (h1.ev rfl) (h1.ev rfl)) ?_
            exact Tr.nil (Tr.fin0 (.cons rfl (.cons rfl (.cons rfl .nil))) (.cons rfl .nil))
           ·refine Tr.val (wg rfl rfl rfl) rfl (fun _ _ h1 h2 => run_fieldAddr fo_84_6 (h1.ev rfl)) ?_
            refine Tr.val (wg rfl rfl rfl) rfl (fun _ _ h1 h2 => run_load1 ag_23 (h1.ev rfl) (rdb h2 (vs := [(.int .i64 p0.Kind), (.string p0.Name), (.int .i64 p0.At.X), (.int .i64 p0.At.Y), (.slice Ap0_0 (p0.Points).length cp0_0), (.int .i64 p0.NX), (.int .i64 p0.NY), (.slice Ap0_1 (p0.Steps).length cp0_1)]) (k := 1) rfl 7) rfl) ?_
            refine Tr.val (wg rfl rfl rfl) rfl (fun _ _ h1 h2 => run_len un_23 (h1.ev rfl)) ?_
            refine Tr.val (wg rfl rfl rfl) rfl (fun _ _ h1 h2 => run_eql (h1.ev rfl) (h1.ev rfl)) ?_
            refine Tr.val (wg rfl rfl rfl) rfl (fun _ _ h1 h2 => run_pickT (h1.ev rfl) (h1.ev rfl)) ?_
            exact Tr.nil (Tr.fin0 (.cons rfl (.cons rfl (.cons rfl .nil))) (.cons rfl .nil))
          ·show Tr _ _ (LF [(43, (.bool true)), (45, (.bool false)), (59, (.bool (((p0.NX == 0) && (p0.NY == 0)) && ((p0.Steps.length : Int) == 0))))]) (LE [(1, bx b100 #[(.int .i64 p0.Kind), (.string p0.Name), (.int .i64 p0.At.X), (.int .i64 p0.At.Y), (.slice Ap0_0 (p0.Points).length cp0_0), (.int .i64 p0.NX), (.int .i64 p0.NY), (.slice Ap0_1 (p0.Steps).length cp0_1)] 84)]) _
           refine Tr.val (wg rfl rfl rfl) rfl (fun _ _ h1 h2 => run_pickF (h1.ev rfl) (h1.ev rfl)) ?_
           exact Tr.nil (Tr.fin0 (.cons rfl (.cons rfl .nil)) (.cons rfl .nil))
        ·refine Tr.pass rfl rfl rfl rfl rfl (by decide) ?_
         refine Tr.pass rfl rfl rfl rfl rfl (by decide) ?_
         refine Tr.pass rfl rfl rfl rfl rfl (by decide) ?_
         refine Tr.pass rfl rfl rfl rfl rfl (by decide) ?_
         refine Tr.passU rfl rfl rfl rfl (by decide) ?_
         refine Tr.passU rfl rfl rfl rfl (by decide) ?_
         refine Tr.passU rfl rfl rfl rfl (by decide) ?_
         refine Tr.pass rfl rfl rfl rfl rfl (by decide) ?_
         refine Tr.pass rfl rfl rfl rfl rfl (by decide) ?_
         refine Tr.passU rfl rfl rfl rfl (by decide) ?_
         refine Tr.passU rfl rfl rfl rfl (by decide) ?_
         refine Tr.passU rfl rfl rfl rfl (by decide) ?_
         refine Tr.passU rfl rfl rfl rfl (by decide) ?_
         refine Tr.pass rfl rfl rfl rfl rfl (by decide) ?_
         refine Tr.val (wg rfl rfl rfl) rfl (fun _ _ h1 h2 => run_pickT (h1.ev rfl) (h1.ev rfl)) ?_
         exact Tr.nil (Tr.fin0 (.cons rfl (.cons rfl .nil)) (.cons rfl .nil))
       ·show Tr _ _ (LF [(43, (.bool true)), (60, (.bool (x107 || (((p0.NX == 0) && (p0.NY == 0)) && ((p0.Steps.length : Int) == 0)))))]) (LE [(1, bx b100 #[(.int .i64 p0.Kind), (.string p0.Name), (.int .i64 p0.At.X), (.int .i64 p0.At.Y), (.slice Ap0_0 (p0.Points).length cp0_0), (.int .i64 p0.NX), (.int .i64 p0.NY), (.slice Ap0_1 (p0.Steps).length cp0_1)] 84)]) _
        refine Tr.va rfl (fun _ _ h1 h2 => run_pickT (h1.ev rfl) (h1.ev rfl)) ?_
        exact Tr.nil (Tr.fin0 (.cons rfl .nil) (.cons rfl .nil))
     ·show Tr _ _ (LF [(61, (.bool ((((x104 || (sEq p0.Name ByteArray.empty)) && (x105 || (eqTPoint p0.At (TPoint.mk 0 0)))) && (x106 || ((p0.Points.length : Int) == 0))) && (x107 || (((p0.NX == 0) && (p0.NY == 0)) && ((p0.Steps.length : Int) == 0))))))]) (LE [(1, bx b100 #[(.int .i64 p0.Kind), (.string p0.Name), (.int .i64 p0.At.X), (.int .i64 p0.At.Y), (.slice Ap0_0 (p0.Points).length cp0_0), (.int .i64 p0.NX), (.int .i64 p0.NY), (.slice Ap0_1 (p0.Steps).length cp0_1)] 84)]) _
      refine Tr.asg rfl rfl ?_
      refine Tr.nil (Tr.normThen ?_)
      refine Tr.ret ?_
      obtain rfl := Option.some.inj H
      exact Tr.out (m := [(.bool ((((x104 || (sEq p0.Name ByteArray.empty)) && (x105 || (eqTPoint p0.At (TPoint.mk 0 0)))) && (x106 || ((p0.Points.length : Int) == 0))) && (x107 || (((p0.NX == 0) && (p0.NY == 0)) && ((p0.Steps.length : Int) == 0)))))]) [] (res_tmp rfl res_nil) (fun W hW => ⟨rfl, hW.low leB⟩)

theorem F_etchhouseref3_tool_ok (N : Nat) {w : Bs} (p0 : TPlot) (Ap0_0 : Option Addr) (cp0_0 : Nat) (hp0_0 : Sl w.R w.W fl_TPlotTool Ap0_0 cp0_0 p0.Tools) (Ap0_1 : Option Addr) (cp0_1 : Nat) (hp0_1 : Sl w.R w.W fl_TPlotStep Ap0_1 cp0_1 p0.Steps) (p1 : ByteArray) (r : Int) (H : F_etchhouseref3_tool N p0 p1 = some r) (hE : HF w w.W E0) : Calls Tryd.prog 93 [(.agg #[(.int .i64 p0.Unit), (.slice Ap0_0 (p0.Tools).length cp0_0), (.slice Ap0_1 (p0.Steps).length cp0_1)]), (.string p1)].toArray w.W fun e W' => e = .returned (.int .i64 r) ∧ HF w W' E0 := by
 unfold F_etchhouseref3_tool at H
 have leB := Bs.Le.refl w
 refine Tr.enter (n := 22) Tryd.func93 rfl rfl rfl hE ?_
 refine Tr.sr ?_
 refine Tr.box 1 (cs := [(.int .i64 p0.Unit), (.slice Ap0_0 (p0.Tools).length cp0_0), (.slice Ap0_1 (p0.Steps).length cp0_1)]) (wn rfl) rfl rfl rfl fun b100 => ?_
 refine Tr.asg rfl rfl ?_
 refine Tr.nil (Tr.normThen ?_)
 refine Tr.seq ?_
 refine Tr.sr ?_
 refine Tr.asg rfl rfl ?_
 refine Tr.nil (Tr.normThen ?_)
 refine Tr.block ?_
 refine Tr.loop (σ := Int) (fun m w s => F_etchhouseref3_tool_L1 p0 p1 m s = some r) (fun s => [(1, (.string p1)), (2, (.pointer (some ⟨b100, 0, none⟩))), (5, (.int .i64 s))]) (fun s => [(1, bx b100 #[(.int .i64 p0.Unit), (.slice Ap0_0 (p0.Tools).length cp0_0), (.slice Ap0_1 (p0.Steps).length cp0_1)] 25)]) N 0 H (.cons rfl (.cons rfl (.cons rfl .nil))) (.cons rfl .nil) (fun _ _ h => noSome (h)) ?_
 intro w leF_etchhouseref3_tool_L1 mF_etchhouseref3_tool_L1 x108 hs
 have H := hs
 replace H : F_etchhouseref3_tool_L1 p0 p1 (mF_etchhouseref3_tool_L1 + 1) x108 = some r := H
 replace hp0_0 := hp0_0.leR leF_etchhouseref3_tool_L1
 replace hp0_1 := hp0_1.leR leF_etchhouseref3_tool_L1
 replace leB := leB.trans leF_etchhouseref3_tool_L1
 rw [F_etchhouseref3_tool_L1.eq_2] at H
 show Tr _ _ (LF [(1, (.string p1)), (2, (.pointer (some ⟨b100, 0, none⟩))), (5, (.int .i64 x108))]) (LE [(1, bx b100 #[(.int .i64 p0.Unit), (.slice Ap0_0 (p0.Tools).length cp0_0), (.slice Ap0_1 (p0.Steps).length cp0_1)] 25)]) _
 refine Tr.seq ?_
 refine Tr.sr ?_
 refine Tr.mv rfl rfl ?_
 refine Tr.va rfl (fun _ _ h1 h2 => run_fieldAddr fo_25_1 (h1.ev rfl)) ?_
 refine Tr.va rfl (fun _ _ h1 h2 => run_load1 ag_22 (h1.ev rfl) (rdb h2 (vs := [(.int .i64 p0.Unit), (.slice Ap0_0 (p0.Tools).length cp0_0), (.slice Ap0_1 (p0.Steps).length cp0_1)]) (k := 1) rfl 1) rfl) ?_
 refine Tr.va rfl (fun _ _ h1 h2 => run_len un_22 (h1.ev rfl)) ?_
 refine Tr.va rfl (fun _ _ h1 h2 => run_lss (h1.ev rfl) (h1.ev rfl)) ?_
 refine Tr.nil (Tr.normThen ?_)
 refine Tr.cond rfl H (fun H => ?_) (fun H => ?_)
 ·refine Tr.skip (Tr.normThen ?_)
  refine Tr.seq ?_
  refine Tr.block ?_
  refine Tr.sr ?_
  refine Tr.va rfl (fun _ _ h1 h2 => run_fieldAddr fo_25_1 (h1.ev rfl)) ?_
  refine Tr.va rfl (fun _ _ h1 h2 => run_load1 ag_22 (h1.ev rfl) (rdb h2 (vs := [(.int .i64 p0.Unit), (.slice Ap0_0 (p0.Tools).length cp0_0), (.slice Ap0_1 (p0.Steps).length cp0_1)]) (k := 1) rfl 1) rfl) ?_
  refine Tr.mv rfl rfl ?_
  obtain ⟨x109, hx109, H⟩ := bnd H
  obtain ⟨hx1090, hx1091, hx1092⟩ := idx_some hx109
  obtain ⟨u110, hRu110, hoku110, hcu110⟩ := (hp0_0).el hx1092
  obtain ⟨Au110_0, cu110_0⟩ := u110
  have hoku110_0 := hoku110
  replace hoku110_0 : Sl w.R w.W fl_TRect Au110_0 cu110_0 x109.Rects := hoku110_0
  refine Tr.va rfl (fun _ _ h1 h2 => run_indexAddr el_22 (h1.ev rfl) hp0_0.form (h1.ev rfl) hx1090 hx1091) ?_
  refine Tr.va rfl (fun _ _ h1 h2 => run_fieldAddr fo_55_0 (h1.ev rfl)) ?_
  refine Tr.va rfl (fun _ _ h1 h2 => run_load1 ag_9 (h1.ev rfl) (CellsAt.drop (rdR hRu110 hcu110 h2) 0) rfl) ?_
  refine Tr.mv rfl rfl ?_
  refine Tr.va rfl (fun _ _ h1 h2 => run_eqlS (h1.ev rfl) (h1.ev rfl)) ?_
  refine Tr.nil (Tr.normThen ?_)
  refine Tr.cond rfl H (fun H => ?_) (fun H => ?_)
  ·refine Tr.sr ?_
   refine Tr.mv rfl rfl ?_
   refine Tr.asg rfl rfl ?_
   refine Tr.nil (Tr.normThen ?_)
   refine Tr.ret (Tr.retBlock (Tr.retThen (Tr.retThen (Tr.retBlock (Tr.retThen ?_)))))
   obtain rfl := Option.some.inj H
   exact Tr.out (m := [(.int .i64 x108)]) [] (res_tmp rfl res_nil) (fun W hW => ⟨rfl, hW.low leB⟩)
  ·refine Tr.skip (Tr.normBlock (Tr.normThen ?_))
   refine Tr.region ?_
   refine Tr.mv rfl rfl ?_
   refine Tr.va rfl (fun _ _ h1 h2 => run_add (h1.ev rfl) (h1.ev rfl)) ?_
   refine Tr.asg rfl rfl ?_
   refine Tr.nil ?_
   exact Tr.backThen leF_etchhouseref3_tool_L1 (w64 (x108 + 1)) H (.cons rfl (.cons rfl (.cons rfl .nil))) (.cons rfl .nil)
 ·refine Tr.exit (Tr.exitThen (Tr.exitThen (Tr.exitBlock (Tr.normThen ?_))))
  refine Tr.sr ?_
  refine Tr.asg rfl rfl ?_
  refine Tr.nil (Tr.normThen ?_)
  refine Tr.ret ?_
  obtain rfl := Option.some.inj H
  exact Tr.out (m := [(.int .i64 (-1))]) [] (res_tmp rfl res_nil) (fun W hW => ⟨rfl, hW.low leB⟩)

theorem F_etchhouseref3_pointFits_ok {w : Bs} (p0 : TPoint) (p1 : Int) (r : Bool) (H : F_etchhouseref3_pointFits p0 p1 = some r) (hE : HF w w.W E0) : Calls Tryd.prog 94 [(.agg #[(.int .i64 p0.X), (.int .i64 p0.Y)]), (.int .i64 p1)].toArray w.W fun e W' => e = .returned (.bool r) ∧ HF w W' E0 := by
 unfold F_etchhouseref3_pointFits at H
 have leB := Bs.Le.refl w
 refine Tr.enter (n := 15) Tryd.func94 rfl rfl rfl hE ?_
 refine Tr.sr ?_
 refine Tr.box 1 (cs := [(.int .i64 p0.X), (.int .i64 p0.Y)]) (wn rfl) rfl rfl rfl fun b100 => ?_
 refine Tr.asg rfl rfl ?_
 refine Tr.nil (Tr.normThen ?_)
 refine Tr.sr ?_
 refine Tr.va rfl (fun _ _ h1 h2 => run_fieldAddr fo_37_0 (h1.ev rfl)) ?_
 refine Tr.va rfl (fun _ _ h1 h2 => run_load1 ag_3 (h1.ev rfl) (rdb h2 (vs := [(.int .i64 p0.X), (.int .i64 p0.Y)]) (k := 1) rfl 0) rfl) ?_
 refine Tr.mv rfl rfl ?_
 obtain ⟨y101, hy101, H⟩ := bnd H
 refine Tr.call0 (r := (.bool y101)) (wn rfl) rfl Tryd.call66 (evl_cons rfl (evl_cons rfl evl_nil)) (fun W hW => F_etchhouseref3_fits_ok p0.X p1 y101 hy101 (HF.start _)) ?_
 refine Tr.mv rfl rfl ?_
 obtain ⟨g103, hg103, H⟩ := bnd H
 refine Tr.mid0 5 [(14, (.bool g103))] [(1, bx b100 #[(.int .i64 p0.X), (.int .i64 p0.Y)] 37)] ?_ ?_
 ·cases hg104 : y101
  ·rw [hg104] at hg103
   rw [if_neg (by decide)] at hg103
   have H := hg103
   obtain rfl := Option.some.inj H
   refine Tr.pass rfl rfl rfl rfl rfl (by decide) ?_
   refine Tr.pass rfl rfl rfl rfl rfl (by decide) ?_
   refine Tr.pass rfl rfl rfl rfl rfl (by decide) ?_
   refine Tr.pass rfl rfl rfl rfl rfl (by decide) ?_
   refine Tr.va rfl (fun _ _ h1 h2 => run_pickF (h1.ev rfl) (h1.ev rfl)) ?_
   exact Tr.nil (Tr.fin0 (.cons rfl .nil) (.cons rfl .nil))
  ·rw [hg104] at hg103
   rw [if_pos rfl] at hg103
   have H := hg103
   refine Tr.val (wg rfl rfl rfl) rfl (fun _ _ h1 h2 => run_fieldAddr fo_37_1 (h1.ev rfl)) ?_
   refine Tr.val (wg rfl rfl rfl) rfl (fun _ _ h1 h2 => run_load1 ag_3 (h1.ev rfl) (rdb h2 (vs := [(.int .i64 p0.X), (.int .i64 p0.Y)]) (k := 1) rfl 1) rfl) ?_
   refine Tr.val (wg rfl rfl rfl) rfl (fun _ _ h1 h2 => run_move (h1.ev rfl)) ?_
   obtain ⟨y104, hy104, H⟩ := bnd H
   refine Tr.call0 (r := (.bool y104)) (wg rfl rfl rfl) rfl Tryd.call66 (evl_cons rfl (evl_cons rfl evl_nil)) (fun W hW => F_etchhouseref3_fits_ok p0.Y p1 y104 hy104 (HF.start _)) ?_
   refine Tr.va rfl (fun _ _ h1 h2 => run_pickT (h1.ev rfl) (h1.ev rfl)) ?_
   obtain rfl := Option.some.inj H
   exact Tr.nil (Tr.fin0 (.cons rfl .nil) (.cons rfl .nil))
 ·show Tr _ _ (LF [(14, (.bool g103))]) (LE [(1, bx b100 #[(.int .i64 p0.X), (.int .i64 p0.Y)] 37)]) _
  refine Tr.asg rfl rfl ?_
  refine Tr.nil (Tr.normThen ?_)
  refine Tr.ret ?_
  obtain rfl := Option.some.inj H
  exact Tr.out (m := [(.bool g103)]) [] (res_tmp rfl res_nil) (fun W hW => ⟨rfl, hW.low leB⟩)

theorem F_etchhouseref3_checkArea_ok (N : Nat) {w : Bs} (p0 : (List TPoint)) (Ap0_0 : Option Addr) (cp0_0 : Nat) (hp0_0 : Sl w.R w.W fl_TPoint Ap0_0 cp0_0 p0) (p1 : Int) (r : Int) (H : F_etchhouseref3_checkArea N p0 p1 = some r) (hE : HF w w.W E0) : Calls Tryd.prog 95 [(.slice Ap0_0 (p0).length cp0_0), (.int .i64 p1)].toArray w.W fun e W' => e = .returned (.int .i64 r) ∧ HF w W' E0 := by
 unfold F_etchhouseref3_checkArea at H
 have leB := Bs.Le.refl w
 refine Tr.enter (n := 57) Tryd.func95 rfl rfl rfl hE ?_
 refine Tr.sr ?_
 refine Tr.asg rfl rfl ?_
 refine Tr.nil (Tr.normThen ?_)
 refine Tr.seq ?_
 refine Tr.sr ?_
 refine Tr.asg rfl rfl ?_
 refine Tr.nil (Tr.normThen ?_)
 refine Tr.block ?_
 refine Tr.loop (σ := Int) (fun m w s => F_etchhouseref3_checkArea_L1 N p0 p1 m s = some r) (fun s => [(0, (.slice Ap0_0 (p0).length cp0_0)), (1, (.int .i64 p1)), (5, (.int .i64 s))]) (fun s => []) N 0 H (.cons rfl (.cons rfl (.cons rfl .nil))) .nil (fun _ _ h => noSome (h)) ?_
 intro w leF_etchhouseref3_checkArea_L1 mF_etchhouseref3_checkArea_L1 x107 hs
 have H := hs
 replace H : F_etchhouseref3_checkArea_L1 N p0 p1 (mF_etchhouseref3_checkArea_L1 + 1) x107 = some r := H
 replace hp0_0 := hp0_0.leR leF_etchhouseref3_checkArea_L1
 replace leB := leB.trans leF_etchhouseref3_checkArea_L1
 rw [F_etchhouseref3_checkArea_L1.eq_2] at H
 show Tr _ _ (LF [(0, (.slice Ap0_0 (p0).length cp0_0)), (1, (.int .i64 p1)), (5, (.int .i64 x107))]) (LE []) _
 refine Tr.seq ?_
 refine Tr.sr ?_
 refine Tr.mv rfl rfl ?_
 refine Tr.mv rfl rfl ?_
 refine Tr.va rfl (fun _ _ h1 h2 => run_len un_82 (h1.ev rfl)) ?_
 refine Tr.va rfl (fun _ _ h1 h2 => run_lss (h1.ev rfl) (h1.ev rfl)) ?_
 refine Tr.nil (Tr.normThen ?_)
 refine Tr.cond rfl H (fun H => ?_) (fun H => ?_)
 ·refine Tr.skip (Tr.normThen ?_)
  refine Tr.seq ?_
  refine Tr.block ?_
  refine Tr.sr ?_
  refine Tr.mv rfl rfl ?_
  refine Tr.mv rfl rfl ?_
  obtain ⟨x108, hx108, H⟩ := bnd H
  obtain ⟨hx1080, hx1081, hx1082⟩ := idx_some hx108
  refine Tr.va rfl (fun _ _ h1 h2 => run_indexAddr el_82 (h1.ev rfl) hp0_0.form (h1.ev rfl) hx1080 hx1081) ?_
  refine Tr.va rfl (fun _ _ h1 h2 => run_loadN (cs := [(.int .i64 x108.X), (.int .i64 x108.Y)]) ag_37 sz_37 (h1.ev rfl) (CellsAt.take (rdF ef_TPoint hp0_0 hx1082 h2) 2) rfl) ?_
  refine Tr.mv rfl rfl ?_
  obtain ⟨y109, hy109, H⟩ := bnd H
  refine Tr.call0 (r := (.bool y109)) (wn rfl) rfl Tryd.call94 (evl_cons rfl (evl_cons rfl evl_nil)) (fun W hW => F_etchhouseref3_pointFits_ok x108 p1 y109 hy109 (HF.start _)) ?_
  refine Tr.va rfl (fun _ _ h1 h2 => run_not (h1.ev rfl)) ?_
  refine Tr.nil (Tr.normThen ?_)
  refine Tr.cond rfl H (fun H => ?_) (fun H => ?_)
  ·refine Tr.sr ?_
   refine Tr.asg rfl rfl ?_
   refine Tr.nil (Tr.normThen ?_)
   refine Tr.ret (Tr.retBlock (Tr.retThen (Tr.retThen (Tr.retBlock (Tr.retThen ?_)))))
   obtain rfl := Option.some.inj H
   exact Tr.out (m := [(.int .i64 1)]) [] (res_tmp rfl res_nil) (fun W hW => ⟨rfl, hW.low leB⟩)
  ·refine Tr.skip (Tr.normBlock (Tr.normThen ?_))
   refine Tr.region ?_
   refine Tr.mv rfl rfl ?_
   refine Tr.va rfl (fun _ _ h1 h2 => run_add (h1.ev rfl) (h1.ev rfl)) ?_
   refine Tr.asg rfl rfl ?_
   refine Tr.nil ?_
   exact Tr.backThen leF_etchhouseref3_checkArea_L1 (w64 (x107 + 1)) H (.cons rfl (.cons rfl (.cons rfl .nil))) .nil
 ·refine Tr.exit (Tr.exitThen (Tr.exitThen (Tr.exitBlock (Tr.normThen ?_))))
  refine Tr.seq ?_
  refine Tr.sr ?_
  refine Tr.mv rfl rfl ?_
  refine Tr.va rfl (fun _ _ h1 h2 => run_len un_82 (h1.ev rfl)) ?_
  refine Tr.va rfl (fun _ _ h1 h2 => run_gtr (h1.ev rfl) (h1.ev rfl)) ?_
  refine Tr.nil (Tr.normThen ?_)
  refine Tr.cond rfl H (fun H => ?_) (fun H => ?_)
  ·refine Tr.sr ?_
   refine Tr.asg rfl rfl ?_
   refine Tr.nil (Tr.normThen ?_)
   refine Tr.ret (Tr.retThen ?_)
   obtain rfl := Option.some.inj H
   exact Tr.out (m := [(.int .i64 2)]) [] (res_tmp rfl res_nil) (fun W hW => ⟨rfl, hW.low leB⟩)
  ·refine Tr.skip (Tr.normThen ?_)
   refine Tr.seq ?_
   refine Tr.sr ?_
   refine Tr.mv rfl rfl ?_
   refine Tr.va rfl (fun _ _ h1 h2 => run_len un_82 (h1.ev rfl)) ?_
   refine Tr.va rfl (fun _ _ h1 h2 => run_lss (h1.ev rfl) (h1.ev rfl)) ?_
   refine Tr.nil (Tr.normThen ?_)
   refine Tr.cond rfl H (fun H => ?_) (fun H => ?_)
   ·refine Tr.sr ?_
    refine Tr.asg rfl rfl ?_
    refine Tr.nil (Tr.normThen ?_)
    refine Tr.ret (Tr.retThen ?_)
    obtain rfl := Option.some.inj H
    exact Tr.out (m := [(.int .i64 3)]) [] (res_tmp rfl res_nil) (fun W hW => ⟨rfl, hW.low leB⟩)
   ·refine Tr.skip (Tr.normThen ?_)
    refine Tr.seq ?_
    refine Tr.sr ?_
    refine Tr.asg rfl rfl ?_
    refine Tr.nil (Tr.normThen ?_)
    refine Tr.block ?_
    refine Tr.loop (σ := Int) (fun m w s => F_etchhouseref3_checkArea_L2 p0 m s = some r) (fun s => [(0, (.slice Ap0_0 (p0).length cp0_0)), (6, (.int .i64 s))]) (fun s => []) N 0 H (.cons rfl (.cons rfl .nil)) .nil (fun _ _ h => noSome (h)) ?_
    intro w leF_etchhouseref3_checkArea_L2 mF_etchhouseref3_checkArea_L2 x127 hs
    have H := hs
    replace H : F_etchhouseref3_checkArea_L2 p0 (mF_etchhouseref3_checkArea_L2 + 1) x127 = some r := H
    replace hp0_0 := hp0_0.leR leF_etchhouseref3_checkArea_L2
    replace leB := leB.trans leF_etchhouseref3_checkArea_L2
    replace leF_etchhouseref3_checkArea_L1 := leF_etchhouseref3_checkArea_L1.trans leF_etchhouseref3_checkArea_L2
    rw [F_etchhouseref3_checkArea_L2.eq_2] at H
    show Tr _ _ (LF [(0, (.slice Ap0_0 (p0).length cp0_0)), (6, (.int .i64 x127))]) (LE []) _
    refine Tr.seq ?_
    refine Tr.sr ?_
    refine Tr.mv rfl rfl ?_
    refine Tr.mv rfl rfl ?_
    refine Tr.va rfl (fun _ _ h1 h2 => run_len un_82 (h1.ev rfl)) ?_
    refine Tr.va rfl (fun _ _ h1 h2 => run_lss (h1.ev rfl) (h1.ev rfl)) ?_
    refine Tr.nil (Tr.normThen ?_)
    refine Tr.cond rfl H (fun H => ?_) (fun H => ?_)
    ·refine Tr.skip (Tr.normThen ?_)
     refine Tr.seq ?_
     refine Tr.block ?_
     refine Tr.seq ?_
     refine Tr.drawC 15 [] [14] (by kernel_rfl) (by kernel_rfl) fun sz128 hlosz128 hEsz128 => ?_
     refine Dr.quiet 0 [(34, (.slice Ap0_0 (p0).length cp0_0))] (by kernel_rfl) rfl rfl (by kernel_rfl) ?_ rfl rfl ?_
     ·refine Tq.mv rfl rfl ?_
      exact Tq.fin (.cons rfl .nil)
     refine Dr.quiet 1 [(35, (.int .i64 x127))] (by kernel_rfl) rfl rfl (by kernel_rfl) ?_ rfl rfl ?_
     ·refine Tq.mv rfl rfl ?_
      exact Tq.fin (.cons rfl .nil)
     obtain ⟨x129, hx129, H⟩ := bnd H
     obtain ⟨hx1290, hx1291, hx1292⟩ := idx_some hx129
     refine Dr.quiet 2 [(36, (.pointer (some ⟨adB Ap0_0, adO Ap0_0 + (x127).toNat * 2, none⟩)))] (by kernel_rfl) rfl rfl (by kernel_rfl) ?_ rfl rfl ?_
     ·refine Tq.va rfl (fun _ _ h1 h2 => run_indexAddr el_82 (h1.ev rfl) hp0_0.form (h1.ev rfl) hx1290 hx1291) ?_
      exact Tq.fin (.cons rfl .nil)
     refine Dr.quiet 3 [(37, (.agg #[(.int .i64 x129.X), (.int .i64 x129.Y)]))] (by kernel_rfl) rfl rfl (by kernel_rfl) ?_ rfl rfl ?_
     ·refine Tq.va rfl (fun _ _ h1 h2 => run_loadN (cs := [(.int .i64 x129.X), (.int .i64 x129.Y)]) ag_37 sz_37 (h1.ev rfl) (CellsAt.take (rdF ef_TPoint hp0_0 hx1292 h2) 2) rfl) ?_
      exact Tq.fin (.cons rfl .nil)
     refine Dr.quietP 4 (by kernel_rfl) rfl (wn rfl) rfl (by kernel_rfl) (fun _ _ h1 => run_move (h1.ev rfl)) rfl ?_
     refine Dr.quietP 5 (by kernel_rfl) rfl (wn rfl) rfl (by kernel_rfl) (fun _ _ h1 => run_move (h1.ev rfl)) rfl ?_
     refine Dr.quietP 6 (by kernel_rfl) rfl (wn rfl) rfl (by kernel_rfl) (fun _ _ h1 => run_add (h1.ev rfl) (h1.ev rfl)) rfl ?_
     refine Dr.quietP 7 (by kernel_rfl) rfl (wn rfl) rfl (by kernel_rfl) (fun _ _ h1 => run_move (h1.ev rfl)) rfl ?_
     refine Dr.quietP 8 (by kernel_rfl) rfl (wn rfl) rfl (by kernel_rfl) (fun _ _ h1 => run_len un_82 (h1.ev rfl)) rfl ?_
     obtain ⟨q130, hq130, H⟩ := bnd H
     refine Dr.quietP 9 (by kernel_rfl) rfl (wn rfl) rfl (by kernel_rfl) (fun _ _ h1 => run_md (h1.ev rfl) (h1.ev rfl) hq130) rfl ?_
     obtain ⟨x131, hx131, H⟩ := bnd H
     obtain ⟨hx1310, hx1311, hx1312⟩ := idx_some hx131
     refine Dr.quietP 10 (by kernel_rfl) rfl (wn rfl) rfl (by kernel_rfl) (fun _ _ h1 => run_indexAddr el_82 (h1.ev rfl) hp0_0.form (h1.ev rfl) hx1310 hx1311) rfl ?_
     refine Dr.quietZ 11 [(45, (.agg #[(.int .i64 x131.X), (.int .i64 x131.Y)]))] [] true (by kernel_rfl) rfl rfl (by kernel_rfl) (fun W W' h2 hsW hk => HF.keepZ (le := []) (ks := []) (s0 := sz128) true h2 hk (fun _ => hlosz128) .nil (fun b hb => hb.elim (fun ⟨_, hp, _⟩ => nomatch hp) (fun hb => .inr ⟨rfl, hb.2, (fun _ h => nomatch h)⟩)) (fun _ h => nomatch h) rfl) ?_ rfl rfl ?_
     ·refine Tq.va rfl (fun _ _ h1 h2 => run_loadN (cs := [(.int .i64 x131.X), (.int .i64 x131.Y)]) ag_37 sz_37 (h1.ev rfl) (CellsAt.take (rdF ef_TPoint hp0_0 hx1312 h2) 2) rfl) ?_
      exact Tq.fin (.cons rfl .nil)
     refine Dr.cut (U := Nat × Nat) [12, 13] 1 (fun u => sz128 ≤ u.1 ∧ sz128 ≤ u.2) (fun u => [(0, (.slice Ap0_0 (p0).length cp0_0)), (6, (.int .i64 x127)), (7, (.pointer (some ⟨u.1, 0, none⟩))), (8, (.pointer (some ⟨u.2, 0, none⟩))), (28, (.int .i64 x127)), (29, (.slice Ap0_0 (p0).length cp0_0)), (30, (.int .i64 (p0.length : Int))), (31, (.bool (decide (x127 < (p0.length : Int))))), (34, (.slice Ap0_0 (p0).length cp0_0)), (35, (.int .i64 x127)), (36, (.pointer (some ⟨adB Ap0_0, adO Ap0_0 + (x127).toNat * 2, none⟩))), (37, (.agg #[(.int .i64 x129.X), (.int .i64 x129.Y)])), (38, (.slice Ap0_0 (p0).length cp0_0)), (39, (.int .i64 x127)), (40, (.int .i64 (w64 (x127 + 1)))), (41, (.slice Ap0_0 (p0).length cp0_0)), (42, (.int .i64 (p0.length : Int))), (43, (.int .i64 q130)), (44, (.pointer (some ⟨adB Ap0_0, adO Ap0_0 + (q130).toNat * 2, none⟩))), (45, (.agg #[(.int .i64 x131.X), (.int .i64 x131.Y)]))]) (fun u => [(5, bx u.1 #[(.int .i64 0), (.int .i64 0)] 37), (6, bx u.2 #[(.int .i64 0), (.int .i64 0)] 37)]) ?_ ?_
     ·intro hC
      refine Dr.pair 12 13 (by kernel_rfl) ?_ ?_
      ·refine St.alloc 12 5 rfl (wn rfl) rfl ze_37 fun b132 hb132 => ?_
       refine Dr.one 13 (by kernel_rfl) ?_
       refine St.alloc 13 6 rfl (wn rfl) rfl ze_37 fun b133 hb133 => ?_
       exact (hC ⟨b132, b133⟩ ⟨hb132, hb133⟩).use (by kernel_rfl) (.cons rfl (.cons rfl (.cons rfl (.cons rfl (.cons rfl (.cons rfl (.cons rfl (.cons rfl (.cons rfl (.cons rfl (.cons rfl (.cons rfl (.cons rfl (.cons rfl (.cons rfl (.cons rfl (.cons rfl (.cons rfl (.cons rfl (.cons rfl .nil)))))))))))))))))))) (.cons rfl (.cons rfl .nil))
      ·refine St.alloc 13 6 rfl (wn rfl) rfl ze_37 fun b133 hb133 => ?_
       refine Dr.one 12 (by kernel_rfl) ?_
       refine St.alloc 12 5 rfl (wn rfl) rfl ze_37 fun b132 hb132 => ?_
       exact (hC ⟨b132, b133⟩ ⟨hb132, hb133⟩).use (by kernel_rfl) (.cons rfl (.cons rfl (.cons rfl (.cons rfl (.cons rfl (.cons rfl (.cons rfl (.cons rfl (.cons rfl (.cons rfl (.cons rfl (.cons rfl (.cons rfl (.cons rfl (.cons rfl (.cons rfl (.cons rfl (.cons rfl (.cons rfl (.cons rfl .nil)))))))))))))))))))) (.cons rfl (.cons rfl .nil))
     intro u hu
     obtain ⟨b132, b133⟩ := u
     obtain ⟨hb132, hb133⟩ := hu
     replace hb132 : sz128 ≤ b132 := hb132
     replace hb133 : sz128 ≤ b133 := hb133
     show Dr _ _ _ _ _ _ _ _ _ (LF [(0, (.slice Ap0_0 (p0).length cp0_0)), (6, (.int .i64 x127)), (7, (.pointer (some ⟨b132, 0, none⟩))), (8, (.pointer (some ⟨b133, 0, none⟩))), (28, (.int .i64 x127)), (29, (.slice Ap0_0 (p0).length cp0_0)), (30, (.int .i64 (p0.length : Int))), (31, (.bool (decide (x127 < (p0.length : Int))))), (34, (.slice Ap0_0 (p0).length cp0_0)), (35, (.int .i64 x127)), (36, (.pointer (some ⟨adB Ap0_0, adO Ap0_0 + (x127).toNat * 2, none⟩))), (37, (.agg #[(.int .i64 x129.X), (.int .i64 x129.Y)])), (38, (.slice Ap0_0 (p0).length cp0_0)), (39, (.int .i64 x127)), (40, (.int .i64 (w64 (x127 + 1)))), (41, (.slice Ap0_0 (p0).length cp0_0)), (42, (.int .i64 (p0.length : Int))), (43, (.int .i64 q130)), (44, (.pointer (some ⟨adB Ap0_0, adO Ap0_0 + (q130).toNat * 2, none⟩))), (45, (.agg #[(.int .i64 x131.X), (.int .i64 x131.Y)]))]) (LE [(5, bx b132 #[(.int .i64 0), (.int .i64 0)] 37), (6, bx b133 #[(.int .i64 0), (.int .i64 0)] 37)])
     refine Dr.one 14 (by kernel_rfl) ?_
     refine St.store 14 5 (cs := [(.int .i64 x129.X), (.int .i64 x129.Y)]) [(.int .i64 x129.X), (.int .i64 x129.Y)] rfl (wn rfl) (.inr ⟨by simp, hb132⟩) rfl rfl rfl rfl sz_37 rfl rfl rfl ?_
     refine Dr.tail (by kernel_rfl) ?_
     refine Tr.store 6 (cs := [(.int .i64 x131.X), (.int .i64 x131.Y)]) [(.int .i64 x131.X), (.int .i64 x131.Y)] (wn rfl) rfl rfl rfl rfl sz_37 rfl rfl rfl ?_
     refine Tr.nil (Tr.normThen ?_)
     refine Tr.sr ?_
     refine Tr.va rfl (fun _ _ h1 h2 => run_fieldAddr fo_37_0 (h1.ev rfl)) ?_
     refine Tr.va rfl (fun _ _ h1 h2 => run_load1 ag_3 (h1.ev rfl) (rdb h2 (vs := [(.int .i64 x129.X), (.int .i64 x129.Y)]) (k := 5) rfl 0) rfl) ?_
     refine Tr.va rfl (fun _ _ h1 h2 => run_fieldAddr fo_37_0 (h1.ev rfl)) ?_
     refine Tr.va rfl (fun _ _ h1 h2 => run_load1 ag_3 (h1.ev rfl) (rdb h2 (vs := [(.int .i64 x131.X), (.int .i64 x131.Y)]) (k := 6) rfl 0) rfl) ?_
     refine Tr.va rfl (fun _ _ h1 h2 => run_eql (h1.ev rfl) (h1.ev rfl)) ?_
     refine Tr.va rfl (fun _ _ h1 h2 => run_fieldAddr fo_37_1 (h1.ev rfl)) ?_
     refine Tr.va rfl (fun _ _ h1 h2 => run_load1 ag_3 (h1.ev rfl) (rdb h2 (vs := [(.int .i64 x129.X), (.int .i64 x129.Y)]) (k := 5) rfl 1) rfl) ?_
     refine Tr.va rfl (fun _ _ h1 h2 => run_fieldAddr fo_37_1 (h1.ev rfl)) ?_
     refine Tr.va rfl (fun _ _ h1 h2 => run_load1 ag_3 (h1.ev rfl) (rdb h2 (vs := [(.int .i64 x131.X), (.int .i64 x131.Y)]) (k := 6) rfl 1) rfl) ?_
     refine Tr.va rfl (fun _ _ h1 h2 => run_eql (h1.ev rfl) (h1.ev rfl)) ?_
     refine Tr.va rfl (fun _ _ h1 h2 => run_eqlB un_4 (h1.ev rfl) (h1.ev rfl)) ?_
     refine Tr.nil (Tr.normThen ?_)
     refine Tr.cond rfl H (fun H => ?_) (fun H => ?_)
     ·refine Tr.sr ?_
      refine Tr.asg rfl rfl ?_
      refine Tr.nil (Tr.normThen ?_)
      refine Tr.ret (Tr.retBlock (Tr.retThen (Tr.retThen (Tr.retBlock (Tr.retThen ?_)))))
      obtain rfl := Option.some.inj H
      exact Tr.out (m := [(.int .i64 3)]) [] (res_tmp rfl res_nil) (fun W hW => ⟨rfl, hW.low leB⟩)
     ·refine Tr.skip (Tr.normBlock (Tr.normThen ?_))
      refine Tr.region ?_
      refine Tr.mv rfl rfl ?_
      refine Tr.va rfl (fun _ _ h1 h2 => run_add (h1.ev rfl) (h1.ev rfl)) ?_
      refine Tr.asg rfl rfl ?_
      refine Tr.nil ?_
      exact Tr.backThen leF_etchhouseref3_checkArea_L2 (w64 (x127 + 1)) H (.cons rfl (.cons rfl .nil)) .nil
    ·refine Tr.exit (Tr.exitThen (Tr.exitThen (Tr.exitBlock (Tr.normThen ?_))))
     refine Tr.sr ?_
     refine Tr.asg rfl rfl ?_
     refine Tr.nil (Tr.normThen ?_)
     refine Tr.ret ?_
     obtain rfl := Option.some.inj H
     exact Tr.out (m := [(.int .i64 0)]) [] (res_tmp rfl res_nil) (fun W hW => ⟨rfl, hW.low leB⟩)

theorem F_etchhouseref3_checkStep_ok (N : Nat) {w : Bs} (p0 : TPlot) (Ap0_0 : Option Addr) (cp0_0 : Nat) (hp0_0 : Sl w.R w.W fl_TPlotTool Ap0_0 cp0_0 p0.Tools) (Ap0_1 : Option Addr) (cp0_1 : Nat) (hp0_1 : Sl w.R w.W fl_TPlotStep Ap0_1 cp0_1 p0.Steps) (p1 : TPlotStep) (Ap1_0 : Option Addr) (cp1_0 : Nat) (hp1_0 : Sl w.R w.W fl_TPoint Ap1_0 cp1_0 p1.Points) (Ap1_1 : Option Addr) (cp1_1 : Nat) (hp1_1 : Sl w.R w.W fl_TPlotStep Ap1_1 cp1_1 p1.Steps) (p2 : Int) (r : Int) (H : F_etchhouseref3_checkStep N p0 p1 p2 = some r) (hE : HF w w.W E0) : Calls Tryd.prog 67 [(.agg #[(.int .i64 p0.Unit), (.slice Ap0_0 (p0.Tools).length cp0_0), (.slice Ap0_1 (p0.Steps).length cp0_1)]), (.agg #[(.int .i64 p1.Kind), (.string p1.Name), (.int .i64 p1.At.X), (.int .i64 p1.At.Y), (.slice Ap1_0 (p1.Points).length cp1_0), (.int .i64 p1.NX), (.int .i64 p1.NY), (.slice Ap1_1 (p1.Steps).length cp1_1)]), (.int .i64 p2)].toArray w.W fun e W' => e = .returned (.int .i64 r) ∧ HF w W' E0 := by
 unfold F_etchhouseref3_checkStep at H
 have leB := Bs.Le.refl w
 refine Tr.enter (n := 57) Tryd.func67 rfl rfl rfl hE ?_
 refine Tr.sr ?_
 refine Tr.box 1 (cs := [(.int .i64 p0.Unit), (.slice Ap0_0 (p0.Tools).length cp0_0), (.slice Ap0_1 (p0.Steps).length cp0_1)]) (wn rfl) rfl rfl rfl fun b100 => ?_
 refine Tr.box 2 (cs := [(.int .i64 p1.Kind), (.string p1.Name), (.int .i64 p1.At.X), (.int .i64 p1.At.Y), (.slice Ap1_0 (p1.Points).length cp1_0), (.int .i64 p1.NX), (.int .i64 p1.NY), (.slice Ap1_1 (p1.Steps).length cp1_1)]) (wn rfl) rfl rfl rfl fun b101 => ?_
 refine Tr.asg rfl rfl ?_
 refine Tr.nil (Tr.normThen ?_)
 refine Tr.seq ?_
 refine Tr.sr ?_
 refine Tr.va rfl (fun _ _ h1 h2 => run_fieldAddr fo_84_0 (h1.ev rfl)) ?_
 refine Tr.va rfl (fun _ _ h1 h2 => run_load1 ag_3 (h1.ev rfl) (rdb h2 (vs := [(.int .i64 p1.Kind), (.string p1.Name), (.int .i64 p1.At.X), (.int .i64 p1.At.Y), (.slice Ap1_0 (p1.Points).length cp1_0), (.int .i64 p1.NX), (.int .i64 p1.NY), (.slice Ap1_1 (p1.Steps).length cp1_1)]) (k := 2) rfl 0) rfl) ?_
 obtain ⟨y102, hy102, H⟩ := bnd H
 refine Tr.call0 (r := (.bool y102)) (wn rfl) rfl Tryd.call30 (evl_cons rfl (evl_cons rfl (evl_cons rfl evl_nil))) (fun W hW => F_etchhouseref3_within_ok p1.Kind 1 8 y102 hy102 (HF.start _)) ?_
 refine Tr.va rfl (fun _ _ h1 h2 => run_not (h1.ev rfl)) ?_
 refine Tr.nil (Tr.normThen ?_)
 refine Tr.cond rfl H (fun H => ?_) (fun H => ?_)
 ·refine Tr.sr ?_
  refine Tr.asg rfl rfl ?_
  refine Tr.nil (Tr.normThen ?_)
  refine Tr.ret (Tr.retThen ?_)
  obtain rfl := Option.some.inj H
  exact Tr.out (m := [(.int .i64 4)]) [] (res_tmp rfl res_nil) (fun W hW => ⟨rfl, hW.low leB⟩)
 ·refine Tr.skip (Tr.normThen ?_)
  refine Tr.seq ?_
  refine Tr.sr ?_
  refine Tr.va rfl (fun _ _ h1 h2 => run_loadN (cs := [(.int .i64 p1.Kind), (.string p1.Name), (.int .i64 p1.At.X), (.int .i64 p1.At.Y), (.slice Ap1_0 (p1.Points).length cp1_0), (.int .i64 p1.NX), (.int .i64 p1.NY), (.slice Ap1_1 (p1.Steps).length cp1_1)]) ag_84 sz_84 (h1.ev rfl) (CellsAt.take (rdb h2 (vs := [(.int .i64 p1.Kind), (.string p1.Name), (.int .i64 p1.At.X), (.int .i64 p1.At.Y), (.slice Ap1_0 (p1.Points).length cp1_0), (.int .i64 p1.NX), (.int .i64 p1.NY), (.slice Ap1_1 (p1.Steps).length cp1_1)]) (k := 2) rfl 0) 8) rfl) ?_
  obtain ⟨y103, hy103, H⟩ := bnd H
  refine Tr.call0 (r := (.bool y103)) (wn rfl) rfl Tryd.call92 (evl_cons rfl evl_nil) (fun W hW => F_etchhouseref3_fields_ok p1 Ap1_0 cp1_0 (hp1_0.ext hW.extAll) Ap1_1 cp1_1 (hp1_1.ext hW.extAll) y103 hy103 (HF.start _)) ?_
  refine Tr.va rfl (fun _ _ h1 h2 => run_not (h1.ev rfl)) ?_
  refine Tr.nil (Tr.normThen ?_)
  refine Tr.cond rfl H (fun H => ?_) (fun H => ?_)
  ·refine Tr.sr ?_
   refine Tr.asg rfl rfl ?_
   refine Tr.nil (Tr.normThen ?_)
   refine Tr.ret (Tr.retThen ?_)
   obtain rfl := Option.some.inj H
   exact Tr.out (m := [(.int .i64 3)]) [] (res_tmp rfl res_nil) (fun W hW => ⟨rfl, hW.low leB⟩)
  ·refine Tr.skip (Tr.normThen ?_)
   refine Tr.seq ?_
   refine Tr.sr ?_
   refine Tr.va rfl (fun _ _ h1 h2 => run_fieldAddr fo_84_0 (h1.ev rfl)) ?_
   refine Tr.va rfl (fun _ _ h1 h2 => run_load1 ag_3 (h1.ev rfl) (rdb h2 (vs := [(.int .i64 p1.Kind), (.string p1.Name), (.int .i64 p1.At.X), (.int .i64 p1.At.Y), (.slice Ap1_0 (p1.Points).length cp1_0), (.int .i64 p1.NX), (.int .i64 p1.NY), (.slice Ap1_1 (p1.Steps).length cp1_1)]) (k := 2) rfl 0) rfl) ?_
   refine Tr.va rfl (fun _ _ h1 h2 => run_eql (h1.ev rfl) (h1.ev rfl)) ?_
   refine Tr.mv rfl rfl ?_
   obtain ⟨g105, hg105, H⟩ := bnd H
   refine Tr.mid0 6 [(2, (.int .i64 p2)), (3, (.pointer (some ⟨b100, 0, none⟩))), (4, (.pointer (some ⟨b101, 0, none⟩))), (23, (.bool g105))] [(1, bx b100 #[(.int .i64 p0.Unit), (.slice Ap0_0 (p0.Tools).length cp0_0), (.slice Ap0_1 (p0.Steps).length cp0_1)] 25), (2, bx b101 #[(.int .i64 p1.Kind), (.string p1.Name), (.int .i64 p1.At.X), (.int .i64 p1.At.Y), (.slice Ap1_0 (p1.Points).length cp1_0), (.int .i64 p1.NX), (.int .i64 p1.NY), (.slice Ap1_1 (p1.Steps).length cp1_1)] 84)] ?_ ?_
   ·cases hg118 : (p1.Kind == 3)
    ·rw [hg118] at hg105
     rw [if_neg (by decide)] at hg105
     have H := hg105
     obtain rfl := Option.some.inj H
     refine Tr.pass rfl rfl rfl rfl rfl (by decide) ?_
     refine Tr.pass rfl rfl rfl rfl rfl (by decide) ?_
     refine Tr.pass rfl rfl rfl rfl rfl (by decide) ?_
     refine Tr.pass rfl rfl rfl rfl rfl (by decide) ?_
     refine Tr.pass rfl rfl rfl rfl rfl (by decide) ?_
     refine Tr.va rfl (fun _ _ h1 h2 => run_pickF (h1.ev rfl) (h1.ev rfl)) ?_
     exact Tr.nil (Tr.fin0 (.cons rfl (.cons rfl (.cons rfl (.cons rfl .nil)))) (.cons rfl (.cons rfl .nil)))
    ·rw [hg118] at hg105
     rw [if_pos rfl] at hg105
     have H := hg105
     refine Tr.val (wg rfl rfl rfl) rfl (fun _ _ h1 h2 => run_loadN (cs := [(.int .i64 p0.Unit), (.slice Ap0_0 (p0.Tools).length cp0_0), (.slice Ap0_1 (p0.Steps).length cp0_1)]) ag_25 sz_25 (h1.ev rfl) (CellsAt.take (rdb h2 (vs := [(.int .i64 p0.Unit), (.slice Ap0_0 (p0.Tools).length cp0_0), (.slice Ap0_1 (p0.Steps).length cp0_1)]) (k := 1) rfl 0) 3) rfl) ?_
     refine Tr.val (wg rfl rfl rfl) rfl (fun _ _ h1 h2 => run_fieldAddr fo_84_1 (h1.ev rfl)) ?_
     refine Tr.val (wg rfl rfl rfl) rfl (fun _ _ h1 h2 => run_load1 ag_9 (h1.ev rfl) (rdb h2 (vs := [(.int .i64 p1.Kind), (.string p1.Name), (.int .i64 p1.At.X), (.int .i64 p1.At.Y), (.slice Ap1_0 (p1.Points).length cp1_0), (.int .i64 p1.NX), (.int .i64 p1.NY), (.slice Ap1_1 (p1.Steps).length cp1_1)]) (k := 2) rfl 1) rfl) ?_
     obtain ⟨y106, hy106, H⟩ := bnd H
     refine Tr.call0 (r := (.int .i64 y106)) (wg rfl rfl rfl) rfl Tryd.call93 (evl_cons rfl (evl_cons rfl evl_nil)) (fun W hW => F_etchhouseref3_tool_ok N p0 Ap0_0 cp0_0 (hp0_0.ext hW.extAll) Ap0_1 cp0_1 (hp0_1.ext hW.extAll) p1.Name y106 hy106 (HF.start _)) ?_
     refine Tr.val (wg rfl rfl rfl) rfl (fun _ _ h1 h2 => run_lss (h1.ev rfl) (h1.ev rfl)) ?_
     refine Tr.va rfl (fun _ _ h1 h2 => run_pickT (h1.ev rfl) (h1.ev rfl)) ?_
     obtain rfl := Option.some.inj H
     exact Tr.nil (Tr.fin0 (.cons rfl (.cons rfl (.cons rfl (.cons rfl .nil)))) (.cons rfl (.cons rfl .nil)))
   ·show Tr _ _ (LF [(2, (.int .i64 p2)), (3, (.pointer (some ⟨b100, 0, none⟩))), (4, (.pointer (some ⟨b101, 0, none⟩))), (23, (.bool g105))]) (LE [(1, bx b100 #[(.int .i64 p0.Unit), (.slice Ap0_0 (p0.Tools).length cp0_0), (.slice Ap0_1 (p0.Steps).length cp0_1)] 25), (2, bx b101 #[(.int .i64 p1.Kind), (.string p1.Name), (.int .i64 p1.At.X), (.int .i64 p1.At.Y), (.slice Ap1_0 (p1.Points).length cp1_0), (.int .i64 p1.NX), (.int .i64 p1.NY), (.slice Ap1_1 (p1.Steps).length cp1_1)] 84)]) _
    refine Tr.nil (Tr.normThen ?_)
    refine Tr.cond rfl H (fun H => ?_) (fun H => ?_)
    ·refine Tr.sr ?_
     refine Tr.asg rfl rfl ?_
     refine Tr.nil (Tr.normThen ?_)
     refine Tr.ret (Tr.retThen ?_)
     obtain rfl := Option.some.inj H
     exact Tr.out (m := [(.int .i64 5)]) [] (res_tmp rfl res_nil) (fun W hW => ⟨rfl, hW.low leB⟩)
    ·refine Tr.skip (Tr.normThen ?_)
     refine Tr.seq ?_
     refine Tr.sr ?_
     refine Tr.va rfl (fun _ _ h1 h2 => run_fieldAddr fo_84_2 (h1.ev rfl)) ?_
     refine Tr.va rfl (fun _ _ h1 h2 => run_loadN (cs := [(.int .i64 p1.At.X), (.int .i64 p1.At.Y)]) ag_37 sz_37 (h1.ev rfl) (CellsAt.take (rdb h2 (vs := [(.int .i64 p1.Kind), (.string p1.Name), (.int .i64 p1.At.X), (.int .i64 p1.At.Y), (.slice Ap1_0 (p1.Points).length cp1_0), (.int .i64 p1.NX), (.int .i64 p1.NY), (.slice Ap1_1 (p1.Steps).length cp1_1)]) (k := 2) rfl 2) 2) rfl) ?_
     refine Tr.va rfl (fun _ _ h1 h2 => run_fieldAddr fo_25_0 (h1.ev rfl)) ?_
     refine Tr.va rfl (fun _ _ h1 h2 => run_load1 ag_3 (h1.ev rfl) (rdb h2 (vs := [(.int .i64 p0.Unit), (.slice Ap0_0 (p0.Tools).length cp0_0), (.slice Ap0_1 (p0.Steps).length cp0_1)]) (k := 1) rfl 0) rfl) ?_
     obtain ⟨y107, hy107, H⟩ := bnd H
     refine Tr.call0 (r := (.bool y107)) (wn rfl) rfl Tryd.call94 (evl_cons rfl (evl_cons rfl evl_nil)) (fun W hW => F_etchhouseref3_pointFits_ok p1.At p0.Unit y107 hy107 (HF.start _)) ?_
     refine Tr.va rfl (fun _ _ h1 h2 => run_not (h1.ev rfl)) ?_
     refine Tr.nil (Tr.normThen ?_)
     refine Tr.cond rfl H (fun H => ?_) (fun H => ?_)
     ·refine Tr.sr ?_
      refine Tr.asg rfl rfl ?_
      refine Tr.nil (Tr.normThen ?_)
      refine Tr.ret (Tr.retThen ?_)
      obtain rfl := Option.some.inj H
      exact Tr.out (m := [(.int .i64 1)]) [] (res_tmp rfl res_nil) (fun W hW => ⟨rfl, hW.low leB⟩)
     ·refine Tr.skip (Tr.normThen ?_)
      refine Tr.seq ?_
      refine Tr.sr ?_
      refine Tr.va rfl (fun _ _ h1 h2 => run_fieldAddr fo_84_0 (h1.ev rfl)) ?_
      refine Tr.va rfl (fun _ _ h1 h2 => run_load1 ag_3 (h1.ev rfl) (rdb h2 (vs := [(.int .i64 p1.Kind), (.string p1.Name), (.int .i64 p1.At.X), (.int .i64 p1.At.Y), (.slice Ap1_0 (p1.Points).length cp1_0), (.int .i64 p1.NX), (.int .i64 p1.NY), (.slice Ap1_1 (p1.Steps).length cp1_1)]) (k := 2) rfl 0) rfl) ?_
      refine Tr.va rfl (fun _ _ h1 h2 => run_eql (h1.ev rfl) (h1.ev rfl)) ?_
      refine Tr.nil (Tr.normThen ?_)
      refine Tr.cond rfl H (fun H => ?_) (fun H => ?_)
      ·refine Tr.sr ?_
       refine Tr.va rfl (fun _ _ h1 h2 => run_fieldAddr fo_84_3 (h1.ev rfl)) ?_
       refine Tr.va rfl (fun _ _ h1 h2 => run_load1 ag_82 (h1.ev rfl) (rdb h2 (vs := [(.int .i64 p1.Kind), (.string p1.Name), (.int .i64 p1.At.X), (.int .i64 p1.At.Y), (.slice Ap1_0 (p1.Points).length cp1_0), (.int .i64 p1.NX), (.int .i64 p1.NY), (.slice Ap1_1 (p1.Steps).length cp1_1)]) (k := 2) rfl 4) rfl) ?_
       refine Tr.va rfl (fun _ _ h1 h2 => run_fieldAddr fo_25_0 (h1.ev rfl)) ?_
       refine Tr.va rfl (fun _ _ h1 h2 => run_load1 ag_3 (h1.ev rfl) (rdb h2 (vs := [(.int .i64 p0.Unit), (.slice Ap0_0 (p0.Tools).length cp0_0), (.slice Ap0_1 (p0.Steps).length cp0_1)]) (k := 1) rfl 0) rfl) ?_
       obtain ⟨y108, hy108, H⟩ := bnd H
       refine Tr.call0 (r := (.int .i64 y108)) (wn rfl) rfl Tryd.call95 (evl_cons rfl (evl_cons rfl evl_nil)) (fun W hW => F_etchhouseref3_checkArea_ok N p1.Points Ap1_0 cp1_0 (hp1_0.ext hW.extAll) p0.Unit y108 hy108 (HF.start _)) ?_
       refine Tr.asg rfl rfl ?_
       refine Tr.nil (Tr.normThen ?_)
       refine Tr.ret (Tr.retThen ?_)
       obtain rfl := Option.some.inj H
       exact Tr.out (m := [(.int .i64 y108)]) [] (res_tmp rfl res_nil) (fun W hW => ⟨rfl, hW.low leB⟩)
      ·refine Tr.skip (Tr.normThen ?_)
       have leJ113 := Bs.Le.refl w
       refine Tr.cutJ (σ := Unit) (fun w _ => F_etchhouseref3_checkStep_J1 = some r) (fun _ => []) (fun _ => []) ?_ ?_
       ·refine Tr.sr ?_
        refine Tr.va rfl (fun _ _ h1 h2 => run_fieldAddr fo_84_0 (h1.ev rfl)) ?_
        refine Tr.va rfl (fun _ _ h1 h2 => run_load1 ag_3 (h1.ev rfl) (rdb h2 (vs := [(.int .i64 p1.Kind), (.string p1.Name), (.int .i64 p1.At.X), (.int .i64 p1.At.Y), (.slice Ap1_0 (p1.Points).length cp1_0), (.int .i64 p1.NX), (.int .i64 p1.NY), (.slice Ap1_1 (p1.Steps).length cp1_1)]) (k := 2) rfl 0) rfl) ?_
        refine Tr.va rfl (fun _ _ h1 h2 => run_eql (h1.ev rfl) (h1.ev rfl)) ?_
        refine Tr.nil (Tr.normThen ?_)
        refine Tr.cond rfl H (fun H => ?_) (fun H => ?_)
        ·refine Tr.seq ?_
         refine Tr.sr ?_
         refine Tr.va rfl (fun _ _ h1 h2 => run_fieldAddr fo_84_4 (h1.ev rfl)) ?_
         refine Tr.va rfl (fun _ _ h1 h2 => run_load1 ag_3 (h1.ev rfl) (rdb h2 (vs := [(.int .i64 p1.Kind), (.string p1.Name), (.int .i64 p1.At.X), (.int .i64 p1.At.Y), (.slice Ap1_0 (p1.Points).length cp1_0), (.int .i64 p1.NX), (.int .i64 p1.NY), (.slice Ap1_1 (p1.Steps).length cp1_1)]) (k := 2) rfl 5) rfl) ?_
         obtain ⟨y115, hy115, H⟩ := bnd H
         refine Tr.call0 (r := (.bool y115)) (wn rfl) rfl Tryd.call30 (evl_cons rfl (evl_cons rfl (evl_cons rfl evl_nil))) (fun W hW => F_etchhouseref3_within_ok p1.NX 1 100 y115 hy115 (HF.start _)) ?_
         refine Tr.va rfl (fun _ _ h1 h2 => run_not (h1.ev rfl)) ?_
         refine Tr.mv rfl rfl ?_
         obtain ⟨g117, hg117, H⟩ := bnd H
         refine Tr.mid0 5 [(2, (.int .i64 p2)), (4, (.pointer (some ⟨b101, 0, none⟩))), (50, (.bool g117))] [(1, bx b100 #[(.int .i64 p0.Unit), (.slice Ap0_0 (p0.Tools).length cp0_0), (.slice Ap0_1 (p0.Steps).length cp0_1)] 25), (2, bx b101 #[(.int .i64 p1.Kind), (.string p1.Name), (.int .i64 p1.At.X), (.int .i64 p1.At.Y), (.slice Ap1_0 (p1.Points).length cp1_0), (.int .i64 p1.NX), (.int .i64 p1.NY), (.slice Ap1_1 (p1.Steps).length cp1_1)] 84)] ?_ ?_
         ·cases hg118 : (!y115)
          ·rw [hg118] at hg117
           rw [if_neg (by decide)] at hg117
           have H := hg117
           refine Tr.val (wg rfl rfl rfl) rfl (fun _ _ h1 h2 => run_fieldAddr fo_84_5 (h1.ev rfl)) ?_
           refine Tr.val (wg rfl rfl rfl) rfl (fun _ _ h1 h2 => run_load1 ag_3 (h1.ev rfl) (rdb h2 (vs := [(.int .i64 p1.Kind), (.string p1.Name), (.int .i64 p1.At.X), (.int .i64 p1.At.Y), (.slice Ap1_0 (p1.Points).length cp1_0), (.int .i64 p1.NX), (.int .i64 p1.NY), (.slice Ap1_1 (p1.Steps).length cp1_1)]) (k := 2) rfl 6) rfl) ?_
           obtain ⟨y118, hy118, H⟩ := bnd H
           refine Tr.call0 (r := (.bool y118)) (wg rfl rfl rfl) rfl Tryd.call30 (evl_cons rfl (evl_cons rfl (evl_cons rfl evl_nil))) (fun W hW => F_etchhouseref3_within_ok p1.NY 1 100 y118 hy118 (HF.start _)) ?_
           refine Tr.val (wg rfl rfl rfl) rfl (fun _ _ h1 h2 => run_not (h1.ev rfl)) ?_
           refine Tr.va rfl (fun _ _ h1 h2 => run_pickF (h1.ev rfl) (h1.ev rfl)) ?_
           obtain rfl := Option.some.inj H
           exact Tr.nil (Tr.fin0 (.cons rfl (.cons rfl (.cons rfl .nil))) (.cons rfl (.cons rfl .nil)))
          ·rw [hg118] at hg117
           rw [if_pos rfl] at hg117
           have H := hg117
           obtain rfl := Option.some.inj H
           refine Tr.pass rfl rfl rfl rfl rfl (by decide) ?_
           refine Tr.pass rfl rfl rfl rfl rfl (by decide) ?_
           refine Tr.pass rfl rfl rfl rfl rfl (by decide) ?_
           refine Tr.pass rfl rfl rfl rfl rfl (by decide) ?_
           refine Tr.va rfl (fun _ _ h1 h2 => run_pickT (h1.ev rfl) (h1.ev rfl)) ?_
           exact Tr.nil (Tr.fin0 (.cons rfl (.cons rfl (.cons rfl .nil))) (.cons rfl (.cons rfl .nil)))
         ·show Tr _ _ (LF [(2, (.int .i64 p2)), (4, (.pointer (some ⟨b101, 0, none⟩))), (50, (.bool g117))]) (LE [(1, bx b100 #[(.int .i64 p0.Unit), (.slice Ap0_0 (p0.Tools).length cp0_0), (.slice Ap0_1 (p0.Steps).length cp0_1)] 25), (2, bx b101 #[(.int .i64 p1.Kind), (.string p1.Name), (.int .i64 p1.At.X), (.int .i64 p1.At.Y), (.slice Ap1_0 (p1.Points).length cp1_0), (.int .i64 p1.NX), (.int .i64 p1.NY), (.slice Ap1_1 (p1.Steps).length cp1_1)] 84)]) _
          refine Tr.nil (Tr.normThen ?_)
          refine Tr.cond rfl H (fun H => ?_) (fun H => ?_)
          ·refine Tr.sr ?_
           refine Tr.asg rfl rfl ?_
           refine Tr.nil (Tr.normThen ?_)
           refine Tr.ret (Tr.retThen (Tr.retThen ?_))
           obtain rfl := Option.some.inj H
           exact Tr.out (m := [(.int .i64 1)]) [] (res_tmp rfl res_nil) (fun W hW => ⟨rfl, hW.low leB⟩)
          ·refine Tr.skip (Tr.normThen ?_)
           refine Tr.seq ?_
           refine Tr.sr ?_
           refine Tr.va rfl (fun _ _ h1 h2 => run_fieldAddr fo_84_6 (h1.ev rfl)) ?_
           refine Tr.va rfl (fun _ _ h1 h2 => run_load1 ag_23 (h1.ev rfl) (rdb h2 (vs := [(.int .i64 p1.Kind), (.string p1.Name), (.int .i64 p1.At.X), (.int .i64 p1.At.Y), (.slice Ap1_0 (p1.Points).length cp1_0), (.int .i64 p1.NX), (.int .i64 p1.NY), (.slice Ap1_1 (p1.Steps).length cp1_1)]) (k := 2) rfl 7) rfl) ?_
           refine Tr.va rfl (fun _ _ h1 h2 => run_len un_23 (h1.ev rfl)) ?_
           refine Tr.va rfl (fun _ _ h1 h2 => run_eql (h1.ev rfl) (h1.ev rfl)) ?_
           refine Tr.nil (Tr.normThen ?_)
           refine Tr.cond rfl H (fun H => ?_) (fun H => ?_)
           ·refine Tr.sr ?_
            refine Tr.asg rfl rfl ?_
            refine Tr.nil (Tr.normThen ?_)
            refine Tr.ret (Tr.retThen (Tr.retThen ?_))
            obtain rfl := Option.some.inj H
            exact Tr.out (m := [(.int .i64 9)]) [] (res_tmp rfl res_nil) (fun W hW => ⟨rfl, hW.low leB⟩)
           ·refine Tr.skip (Tr.normThen ?_)
            refine Tr.sr ?_
            refine Tr.mv rfl rfl ?_
            refine Tr.va rfl (fun _ _ h1 h2 => run_geq (h1.ev rfl) (h1.ev rfl)) ?_
            refine Tr.nil (Tr.normThen ?_)
            refine Tr.cond rfl H (fun H => ?_) (fun H => ?_)
            ·refine Tr.sr ?_
             refine Tr.asg rfl rfl ?_
             refine Tr.nil (Tr.normThen ?_)
             refine Tr.ret (Tr.retThen ?_)
             obtain rfl := Option.some.inj H
             exact Tr.out (m := [(.int .i64 2)]) [] (res_tmp rfl res_nil) (fun W hW => ⟨rfl, hW.low leB⟩)
            ·refine Tr.skip ?_
             exact Tr.backThen leJ113 () H .nil .nil
        ·refine Tr.skip ?_
         exact Tr.backThen leJ113 () H .nil .nil
       ·intro w _ hlJ114 hs
        have H := hs
        replace H : F_etchhouseref3_checkStep_J1 = some r := H
        replace leB := leB.trans hlJ114
        unfold F_etchhouseref3_checkStep_J1 at H
        show Tr _ _ (LF []) (LE []) _
        refine Tr.sr ?_
        refine Tr.asg rfl rfl ?_
        refine Tr.nil (Tr.normThen ?_)
        refine Tr.ret ?_
        obtain rfl := Option.some.inj H
        exact Tr.out (m := [(.int .i64 0)]) [] (res_tmp rfl res_nil) (fun W hW => ⟨rfl, hW.low leB⟩)

theorem F_etchhouseref3_checkSteps_b_ok (N : Nat) (rec : TPlot → (List TPlotStep) → Int → Option Int) (hrec : ∀ {w : Bs} (p0 : TPlot) (Ap0_0 : Option Addr) (cp0_0 : Nat) (hp0_0 : Sl w.R w.W fl_TPlotTool Ap0_0 cp0_0 p0.Tools) (Ap0_1 : Option Addr) (cp0_1 : Nat) (hp0_1 : Sl w.R w.W fl_TPlotStep Ap0_1 cp0_1 p0.Steps) (p1 : (List TPlotStep)) (Ap1_0 : Option Addr) (cp1_0 : Nat) (hp1_0 : Sl w.R w.W fl_TPlotStep Ap1_0 cp1_0 p1) (p2 : Int) (r : Int) (H : rec p0 p1 p2 = some r) (hE : HF w w.W E0), Calls Tryd.prog 34 [(.agg #[(.int .i64 p0.Unit), (.slice Ap0_0 (p0.Tools).length cp0_0), (.slice Ap0_1 (p0.Steps).length cp0_1)]), (.slice Ap1_0 (p1).length cp1_0), (.int .i64 p2)].toArray w.W fun e W' => e = .returned (.int .i64 r) ∧ HF w W' E0) {w : Bs} (p0 : TPlot) (Ap0_0 : Option Addr) (cp0_0 : Nat) (hp0_0 : Sl w.R w.W fl_TPlotTool Ap0_0 cp0_0 p0.Tools) (Ap0_1 : Option Addr) (cp0_1 : Nat) (hp0_1 : Sl w.R w.W fl_TPlotStep Ap0_1 cp0_1 p0.Steps) (p1 : (List TPlotStep)) (Ap1_0 : Option Addr) (cp1_0 : Nat) (hp1_0 : Sl w.R w.W fl_TPlotStep Ap1_0 cp1_0 p1) (p2 : Int) (r : Int) (H : F_etchhouseref3_checkSteps_b N rec p0 p1 p2 = some r) (hE : HF w w.W E0) : Calls Tryd.prog 34 [(.agg #[(.int .i64 p0.Unit), (.slice Ap0_0 (p0.Tools).length cp0_0), (.slice Ap0_1 (p0.Steps).length cp0_1)]), (.slice Ap1_0 (p1).length cp1_0), (.int .i64 p2)].toArray w.W fun e W' => e = .returned (.int .i64 r) ∧ HF w W' E0 := by
 unfold F_etchhouseref3_checkSteps_b at H
 have leB := Bs.Le.refl w
 refine Tr.enter (n := 38) Tryd.func34 rfl rfl rfl hE ?_
 refine Tr.sr ?_
 refine Tr.box 1 (cs := [(.int .i64 p0.Unit), (.slice Ap0_0 (p0.Tools).length cp0_0), (.slice Ap0_1 (p0.Steps).length cp0_1)]) (wn rfl) rfl rfl rfl fun b100 => ?_
 refine Tr.asg rfl rfl ?_
 refine Tr.nil (Tr.normThen ?_)
 refine Tr.seq ?_
 refine Tr.sr ?_
 refine Tr.asg rfl rfl ?_
 refine Tr.nil (Tr.normThen ?_)
 refine Tr.block ?_
 refine Tr.loop (σ := Int) (fun m w s => F_etchhouseref3_checkSteps_L1 N p0 p1 p2 rec m s = some r) (fun s => [(1, (.slice Ap1_0 (p1).length cp1_0)), (2, (.int .i64 p2)), (3, (.pointer (some ⟨b100, 0, none⟩))), (7, (.int .i64 s))]) (fun s => [(1, bx b100 #[(.int .i64 p0.Unit), (.slice Ap0_0 (p0.Tools).length cp0_0), (.slice Ap0_1 (p0.Steps).length cp0_1)] 25)]) N 0 H (.cons rfl (.cons rfl (.cons rfl (.cons rfl .nil)))) (.cons rfl .nil) (fun _ _ h => noSome (h)) ?_
 intro w leF_etchhouseref3_checkSteps_L1 mF_etchhouseref3_checkSteps_L1 x116 hs
 have H := hs
 replace H : F_etchhouseref3_checkSteps_L1 N p0 p1 p2 rec (mF_etchhouseref3_checkSteps_L1 + 1) x116 = some r := H
 replace hp1_0 := hp1_0.leR leF_etchhouseref3_checkSteps_L1
 replace hp0_0 := hp0_0.leR leF_etchhouseref3_checkSteps_L1
 replace hp0_1 := hp0_1.leR leF_etchhouseref3_checkSteps_L1
 replace leB := leB.trans leF_etchhouseref3_checkSteps_L1
 rw [F_etchhouseref3_checkSteps_L1.eq_2] at H
 show Tr _ _ (LF [(1, (.slice Ap1_0 (p1).length cp1_0)), (2, (.int .i64 p2)), (3, (.pointer (some ⟨b100, 0, none⟩))), (7, (.int .i64 x116))]) (LE [(1, bx b100 #[(.int .i64 p0.Unit), (.slice Ap0_0 (p0.Tools).length cp0_0), (.slice Ap0_1 (p0.Steps).length cp0_1)] 25)]) _
 refine Tr.seq ?_
 refine Tr.sr ?_
 refine Tr.mv rfl rfl ?_
 refine Tr.mv rfl rfl ?_
 refine Tr.va rfl (fun _ _ h1 h2 => run_len un_23 (h1.ev rfl)) ?_
 refine Tr.va rfl (fun _ _ h1 h2 => run_lss (h1.ev rfl) (h1.ev rfl)) ?_
 refine Tr.nil (Tr.normThen ?_)
 refine Tr.cond rfl H (fun H => ?_) (fun H => ?_)
 ·refine Tr.skip (Tr.normThen ?_)
  refine Tr.seq ?_
  refine Tr.block ?_
  refine Tr.seq ?_
  refine Tr.seq ?_
  refine Tr.draw (by kernel_rfl) (by kernel_rfl) ?_
  refine Tq.va rfl (fun _ _ h1 h2 => run_loadN (cs := [(.int .i64 p0.Unit), (.slice Ap0_0 (p0.Tools).length cp0_0), (.slice Ap0_1 (p0.Steps).length cp0_1)]) ag_25 sz_25 (h1.ev rfl) (CellsAt.take (rdb h2 (vs := [(.int .i64 p0.Unit), (.slice Ap0_0 (p0.Tools).length cp0_0), (.slice Ap0_1 (p0.Steps).length cp0_1)]) (k := 1) rfl 0) 3) rfl) ?_
  refine Tq.mv rfl rfl ?_
  refine Tq.mv rfl rfl ?_
  obtain ⟨x117, hx117, H⟩ := bnd H
  obtain ⟨hx1170, hx1171, hx1172⟩ := idx_some hx117
  obtain ⟨u118, hRu118, hoku118, hcu118⟩ := (hp1_0).el hx1172
  replace hoku118 := TPlotStep_ok.1 hoku118
  obtain ⟨⟨Au118_0, cu118_0⟩, ⟨Au118_1, cu118_1⟩⟩ := u118
  obtain ⟨hoku118_0, hoku118_1⟩ := hoku118
  replace hoku118_0 : Sl w.R w.W fl_TPoint Au118_0 cu118_0 x117.Points := hoku118_0
  replace hoku118_1 : Sl w.R w.W fl_TPlotStep Au118_1 cu118_1 x117.Steps := hoku118_1
  refine Tq.va rfl (fun _ _ h1 h2 => run_indexAddr el_23 (h1.ev rfl) hp1_0.form (h1.ev rfl) hx1170 hx1171) ?_
  refine Tq.va rfl (fun _ _ h1 h2 => run_loadN (cs := [(.int .i64 x117.Kind), (.string x117.Name), (.int .i64 x117.At.X), (.int .i64 x117.At.Y), (.slice Au118_0 (x117.Points).length cu118_0), (.int .i64 x117.NX), (.int .i64 x117.NY), (.slice Au118_1 (x117.Steps).length cu118_1)]) ag_84 sz_84 (h1.ev rfl) (CellsAt.take (rdR hRu118 hcu118 h2) 8) rfl) ?_
  refine Tq.mv rfl rfl ?_
  obtain ⟨y119, hy119, H⟩ := bnd H
  refine Tq.call0 (r := (.int .i64 y119)) (wn rfl) rfl Tryd.call67 (evl_cons rfl (evl_cons rfl (evl_cons rfl evl_nil))) (fun W hW => F_etchhouseref3_checkStep_ok N p0 Ap0_0 cp0_0 (hp0_0.ext hW.extAll) Ap0_1 cp0_1 (hp0_1.ext hW.extAll) x117 Au118_0 cu118_0 (hoku118_0.ext hW.extAll) Au118_1 cu118_1 (hoku118_1.ext hW.extAll) p2 y119 hy119 (HF.start _)) ?_
  refine Tq.asg rfl rfl ?_
  refine Tq.nil (Tr.normThen ?_)
  refine Tr.sr ?_
  refine Tr.mv rfl rfl ?_
  refine Tr.va rfl (fun _ _ h1 h2 => run_neq (h1.ev rfl) (h1.ev rfl)) ?_
  refine Tr.nil (Tr.normThen ?_)
  refine Tr.cond rfl H (fun H => ?_) (fun H => ?_)
  ·refine Tr.sr ?_
   refine Tr.mv rfl rfl ?_
   refine Tr.asg rfl rfl ?_
   refine Tr.nil (Tr.normThen ?_)
   refine Tr.ret (Tr.retThen (Tr.retBlock (Tr.retThen (Tr.retThen (Tr.retBlock (Tr.retThen ?_))))))
   obtain rfl := Option.some.inj H
   exact Tr.out (m := [(.int .i64 y119)]) [] (res_tmp rfl res_nil) (fun W hW => ⟨rfl, hW.low leB⟩)
  ·refine Tr.skip (Tr.normThen ?_)
   refine Tr.seq ?_
   refine Tr.draw (by kernel_rfl) (by kernel_rfl) ?_
   refine Tq.va rfl (fun _ _ h1 h2 => run_loadN (cs := [(.int .i64 p0.Unit), (.slice Ap0_0 (p0.Tools).length cp0_0), (.slice Ap0_1 (p0.Steps).length cp0_1)]) ag_25 sz_25 (h1.ev rfl) (CellsAt.take (rdb h2 (vs := [(.int .i64 p0.Unit), (.slice Ap0_0 (p0.Tools).length cp0_0), (.slice Ap0_1 (p0.Steps).length cp0_1)]) (k := 1) rfl 0) 3) rfl) ?_
   refine Tq.mv rfl rfl ?_
   refine Tq.mv rfl rfl ?_
   obtain ⟨x120, hx120, H⟩ := bnd H
   obtain ⟨hx1200, hx1201, hx1202⟩ := idx_some hx120
   obtain ⟨u121, hRu121, hoku121, hcu121⟩ := (hp1_0).el hx1202
   replace hoku121 := TPlotStep_ok.1 hoku121
   obtain ⟨⟨Au121_0, cu121_0⟩, ⟨Au121_1, cu121_1⟩⟩ := u121
   obtain ⟨hoku121_0, hoku121_1⟩ := hoku121
   replace hoku121_0 : Sl w.R w.W fl_TPoint Au121_0 cu121_0 x120.Points := hoku121_0
   replace hoku121_1 : Sl w.R w.W fl_TPlotStep Au121_1 cu121_1 x120.Steps := hoku121_1
   refine Tq.va rfl (fun _ _ h1 h2 => run_indexAddr el_23 (h1.ev rfl) hp1_0.form (h1.ev rfl) hx1200 hx1201) ?_
   refine Tq.va rfl (fun _ _ h1 h2 => run_fieldAddr fo_84_6 (h1.ev rfl)) ?_
   refine Tq.va rfl (fun _ _ h1 h2 => run_load1 ag_23 (h1.ev rfl) (CellsAt.drop (rdR hRu121 hcu121 h2) 7) rfl) ?_
   refine Tq.mv rfl rfl ?_
   refine Tq.va rfl (fun _ _ h1 h2 => run_add (h1.ev rfl) (h1.ev rfl)) ?_
   obtain ⟨y122, hy122, H⟩ := bnd H
   refine Tq.call0 (r := (.int .i64 y122)) (wn rfl) rfl Tryd.call34 (evl_cons rfl (evl_cons rfl (evl_cons rfl evl_nil))) (fun W hW => hrec p0 Ap0_0 cp0_0 (hp0_0.ext hW.extAll) Ap0_1 cp0_1 (hp0_1.ext hW.extAll) x120.Steps Au121_1 cu121_1 (hoku121_1.ext hW.extAll) (w64 (p2 + 1)) y122 hy122 (HF.start _)) ?_
   refine Tq.asg rfl rfl ?_
   refine Tq.nil (Tr.normThen ?_)
   refine Tr.sr ?_
   refine Tr.mv rfl rfl ?_
   refine Tr.va rfl (fun _ _ h1 h2 => run_neq (h1.ev rfl) (h1.ev rfl)) ?_
   refine Tr.nil (Tr.normThen ?_)
   refine Tr.cond rfl H (fun H => ?_) (fun H => ?_)
   ·refine Tr.sr ?_
    refine Tr.mv rfl rfl ?_
    refine Tr.asg rfl rfl ?_
    refine Tr.nil (Tr.normThen ?_)
    refine Tr.ret (Tr.retBlock (Tr.retThen (Tr.retThen (Tr.retBlock (Tr.retThen ?_)))))
    obtain rfl := Option.some.inj H
    exact Tr.out (m := [(.int .i64 y122)]) [] (res_tmp rfl res_nil) (fun W hW => ⟨rfl, hW.low leB⟩)
   ·refine Tr.skip (Tr.normBlock (Tr.normThen ?_))
    refine Tr.region ?_
    refine Tr.mv rfl rfl ?_
    refine Tr.va rfl (fun _ _ h1 h2 => run_add (h1.ev rfl) (h1.ev rfl)) ?_
    refine Tr.asg rfl rfl ?_
    refine Tr.nil ?_
    exact Tr.backThen leF_etchhouseref3_checkSteps_L1 (w64 (x116 + 1)) H (.cons rfl (.cons rfl (.cons rfl (.cons rfl .nil)))) (.cons rfl .nil)
 ·refine Tr.exit (Tr.exitThen (Tr.exitThen (Tr.exitBlock (Tr.normThen ?_))))
  refine Tr.sr ?_
  refine Tr.asg rfl rfl ?_
  refine Tr.nil (Tr.normThen ?_)
  refine Tr.ret ?_
  obtain rfl := Option.some.inj H
  exact Tr.out (m := [(.int .i64 0)]) [] (res_tmp rfl res_nil) (fun W hW => ⟨rfl, hW.low leB⟩)
theorem F_etchhouseref3_checkSteps_ok : ∀ (N : Nat) {w : Bs} (p0 : TPlot) (Ap0_0 : Option Addr) (cp0_0 : Nat) (hp0_0 : Sl w.R w.W fl_TPlotTool Ap0_0 cp0_0 p0.Tools) (Ap0_1 : Option Addr) (cp0_1 : Nat) (hp0_1 : Sl w.R w.W fl_TPlotStep Ap0_1 cp0_1 p0.Steps) (p1 : (List TPlotStep)) (Ap1_0 : Option Addr) (cp1_0 : Nat) (hp1_0 : Sl w.R w.W fl_TPlotStep Ap1_0 cp1_0 p1) (p2 : Int) (r : Int) (H : F_etchhouseref3_checkSteps N p0 p1 p2 = some r) (hE : HF w w.W E0), Calls Tryd.prog 34 [(.agg #[(.int .i64 p0.Unit), (.slice Ap0_0 (p0.Tools).length cp0_0), (.slice Ap0_1 (p0.Steps).length cp0_1)]), (.slice Ap1_0 (p1).length cp1_0), (.int .i64 p2)].toArray w.W fun e W' => e = .returned (.int .i64 r) ∧ HF w W' E0
 | 0 => by intros; rename_i H _; cases H
 | N + 1 => F_etchhouseref3_checkSteps_b_ok N (F_etchhouseref3_checkSteps N) (F_etchhouseref3_checkSteps_ok N)

theorem F_etchhouseref3_CheckPlot_ok (N : Nat) {w : Bs} (p0 : TPlot) (Ap0_0 : Option Addr) (cp0_0 : Nat) (hp0_0 : Sl w.R w.W fl_TPlotTool Ap0_0 cp0_0 p0.Tools) (Ap0_1 : Option Addr) (cp0_1 : Nat) (hp0_1 : Sl w.R w.W fl_TPlotStep Ap0_1 cp0_1 p0.Steps) (r : Int) (H : F_etchhouseref3_CheckPlot N p0 = some r) (hE : HF w w.W E0) : Calls Tryd.prog 9 [(.agg #[(.int .i64 p0.Unit), (.slice Ap0_0 (p0.Tools).length cp0_0), (.slice Ap0_1 (p0.Steps).length cp0_1)])].toArray w.W fun e W' => e = .returned (.int .i64 r) ∧ HF w W' E0 := by
 unfold F_etchhouseref3_CheckPlot at H
 have leB := Bs.Le.refl w
 refine Tr.enter (n := 60) Tryd.func9 rfl rfl rfl hE ?_
 refine Tr.sr ?_
 refine Tr.box 1 (cs := [(.int .i64 p0.Unit), (.slice Ap0_0 (p0.Tools).length cp0_0), (.slice Ap0_1 (p0.Steps).length cp0_1)]) (wn rfl) rfl rfl rfl fun b100 => ?_
 refine Tr.asg rfl rfl ?_
 refine Tr.nil (Tr.normThen ?_)
 refine Tr.seq ?_
 refine Tr.sr ?_
 refine Tr.va rfl (fun _ _ h1 h2 => run_fieldAddr fo_25_0 (h1.ev rfl)) ?_
 refine Tr.va rfl (fun _ _ h1 h2 => run_load1 ag_3 (h1.ev rfl) (rdb h2 (vs := [(.int .i64 p0.Unit), (.slice Ap0_0 (p0.Tools).length cp0_0), (.slice Ap0_1 (p0.Steps).length cp0_1)]) (k := 1) rfl 0) rfl) ?_
 obtain ⟨y101, hy101, H⟩ := bnd H
 refine Tr.call0 (r := (.bool y101)) (wn rfl) rfl Tryd.call30 (evl_cons rfl (evl_cons rfl (evl_cons rfl evl_nil))) (fun W hW => F_etchhouseref3_within_ok p0.Unit 1 1000 y101 hy101 (HF.start _)) ?_
 refine Tr.va rfl (fun _ _ h1 h2 => run_not (h1.ev rfl)) ?_
 refine Tr.nil (Tr.normThen ?_)
 refine Tr.cond rfl H (fun H => ?_) (fun H => ?_)
 ·refine Tr.sr ?_
  refine Tr.asg rfl rfl ?_
  refine Tr.nil (Tr.normThen ?_)
  refine Tr.ret (Tr.retThen ?_)
  obtain rfl := Option.some.inj H
  exact Tr.out (m := [(.int .i64 1)]) [] (res_tmp rfl res_nil) (fun W hW => ⟨rfl, hW.low leB⟩)
 ·refine Tr.skip (Tr.normThen ?_)
  refine Tr.seq ?_
  refine Tr.sr ?_
  refine Tr.va rfl (fun _ _ h1 h2 => run_fieldAddr fo_25_1 (h1.ev rfl)) ?_
  refine Tr.va rfl (fun _ _ h1 h2 => run_load1 ag_22 (h1.ev rfl) (rdb h2 (vs := [(.int .i64 p0.Unit), (.slice Ap0_0 (p0.Tools).length cp0_0), (.slice Ap0_1 (p0.Steps).length cp0_1)]) (k := 1) rfl 1) rfl) ?_
  refine Tr.va rfl (fun _ _ h1 h2 => run_len un_22 (h1.ev rfl)) ?_
  refine Tr.va rfl (fun _ _ h1 h2 => run_gtr (h1.ev rfl) (h1.ev rfl)) ?_
  refine Tr.nil (Tr.normThen ?_)
  refine Tr.cond rfl H (fun H => ?_) (fun H => ?_)
  ·refine Tr.sr ?_
   refine Tr.asg rfl rfl ?_
   refine Tr.nil (Tr.normThen ?_)
   refine Tr.ret (Tr.retThen ?_)
   obtain rfl := Option.some.inj H
   exact Tr.out (m := [(.int .i64 2)]) [] (res_tmp rfl res_nil) (fun W hW => ⟨rfl, hW.low leB⟩)
  ·refine Tr.skip (Tr.normThen ?_)
   refine Tr.seq ?_
   refine Tr.sr ?_
   refine Tr.asg rfl rfl ?_
   refine Tr.nil (Tr.normThen ?_)
   refine Tr.block ?_
   refine Tr.loop (σ := Int) (fun m w s => F_etchhouseref3_CheckPlot_L1 N p0 m s = some r) (fun s => [(1, (.pointer (some ⟨b100, 0, none⟩))), (3, (.int .i64 s))]) (fun s => [(1, bx b100 #[(.int .i64 p0.Unit), (.slice Ap0_0 (p0.Tools).length cp0_0), (.slice Ap0_1 (p0.Steps).length cp0_1)] 25)]) N 0 H (.cons rfl (.cons rfl .nil)) (.cons rfl .nil) (fun _ _ h => noSome (h)) ?_
   intro w leF_etchhouseref3_CheckPlot_L1 mF_etchhouseref3_CheckPlot_L1 x125 hs
   have H := hs
   replace H : F_etchhouseref3_CheckPlot_L1 N p0 (mF_etchhouseref3_CheckPlot_L1 + 1) x125 = some r := H
   replace hp0_0 := hp0_0.leR leF_etchhouseref3_CheckPlot_L1
   replace hp0_1 := hp0_1.leR leF_etchhouseref3_CheckPlot_L1
   replace leB := leB.trans leF_etchhouseref3_CheckPlot_L1
   rw [F_etchhouseref3_CheckPlot_L1.eq_2] at H
   show Tr _ _ (LF [(1, (.pointer (some ⟨b100, 0, none⟩))), (3, (.int .i64 x125))]) (LE [(1, bx b100 #[(.int .i64 p0.Unit), (.slice Ap0_0 (p0.Tools).length cp0_0), (.slice Ap0_1 (p0.Steps).length cp0_1)] 25)]) _
   refine Tr.seq ?_
   refine Tr.sr ?_
   refine Tr.mv rfl rfl ?_
   refine Tr.va rfl (fun _ _ h1 h2 => run_fieldAddr fo_25_1 (h1.ev rfl)) ?_
   refine Tr.va rfl (fun _ _ h1 h2 => run_load1 ag_22 (h1.ev rfl) (rdb h2 (vs := [(.int .i64 p0.Unit), (.slice Ap0_0 (p0.Tools).length cp0_0), (.slice Ap0_1 (p0.Steps).length cp0_1)]) (k := 1) rfl 1) rfl) ?_
   refine Tr.va rfl (fun _ _ h1 h2 => run_len un_22 (h1.ev rfl)) ?_
   refine Tr.va rfl (fun _ _ h1 h2 => run_lss (h1.ev rfl) (h1.ev rfl)) ?_
   refine Tr.nil (Tr.normThen ?_)
   refine Tr.cond rfl H (fun H => ?_) (fun H => ?_)
   ·refine Tr.skip (Tr.normThen ?_)
    refine Tr.seq ?_
    refine Tr.block ?_
    refine Tr.sr ?_
    refine Tr.va rfl (fun _ _ h1 h2 => run_fieldAddr fo_25_1 (h1.ev rfl)) ?_
    refine Tr.va rfl (fun _ _ h1 h2 => run_load1 ag_22 (h1.ev rfl) (rdb h2 (vs := [(.int .i64 p0.Unit), (.slice Ap0_0 (p0.Tools).length cp0_0), (.slice Ap0_1 (p0.Steps).length cp0_1)]) (k := 1) rfl 1) rfl) ?_
    refine Tr.mv rfl rfl ?_
    obtain ⟨x126, hx126, H⟩ := bnd H
    obtain ⟨hx1260, hx1261, hx1262⟩ := idx_some hx126
    obtain ⟨u127, hRu127, hoku127, hcu127⟩ := (hp0_0).el hx1262
    obtain ⟨Au127_0, cu127_0⟩ := u127
    have hoku127_0 := hoku127
    replace hoku127_0 : Sl w.R w.W fl_TRect Au127_0 cu127_0 x126.Rects := hoku127_0
    refine Tr.va rfl (fun _ _ h1 h2 => run_indexAddr el_22 (h1.ev rfl) hp0_0.form (h1.ev rfl) hx1260 hx1261) ?_
    refine Tr.va rfl (fun _ _ h1 h2 => run_loadN (cs := [(.string x126.Name), (.slice Au127_0 (x126.Rects).length cu127_0)]) ag_55 sz_55 (h1.ev rfl) (CellsAt.take (rdR hRu127 hcu127 h2) 2) rfl) ?_
    refine Tr.alloc 4 (wn rfl) rfl ze_55 fun b128 => ?_
    refine Tr.store 4 (cs := [(.string x126.Name), (.slice Au127_0 (x126.Rects).length cu127_0)]) [(.string x126.Name), (.slice Au127_0 (x126.Rects).length cu127_0)] (wn rfl) rfl rfl rfl rfl sz_55 rfl rfl rfl ?_
    refine Tr.nil (Tr.normThen ?_)
    refine Tr.seq ?_
    refine Tr.sr ?_
    refine Tr.va rfl (fun _ _ h1 h2 => run_fieldAddr fo_55_0 (h1.ev rfl)) ?_
    refine Tr.va rfl (fun _ _ h1 h2 => run_load1 ag_9 (h1.ev rfl) (rdb h2 (vs := [(.string x126.Name), (.slice Au127_0 (x126.Rects).length cu127_0)]) (k := 4) rfl 0) rfl) ?_
    obtain ⟨y129, hy129, H⟩ := bnd H
    refine Tr.call0 (r := (.bool y129)) (wn rfl) rfl Tryd.call31 (evl_cons rfl evl_nil) (fun W hW => F_etchhouseref3_IsName_ok N x126.Name y129 hy129 (HF.start _)) ?_
    refine Tr.va rfl (fun _ _ h1 h2 => run_not (h1.ev rfl)) ?_
    refine Tr.nil (Tr.normThen ?_)
    refine Tr.cond rfl H (fun H => ?_) (fun H => ?_)
    ·refine Tr.sr ?_
     refine Tr.asg rfl rfl ?_
     refine Tr.nil (Tr.normThen ?_)
     refine Tr.ret (Tr.retThen (Tr.retBlock (Tr.retThen (Tr.retThen (Tr.retBlock (Tr.retThen ?_))))))
     obtain rfl := Option.some.inj H
     exact Tr.out (m := [(.int .i64 5)]) [] (res_tmp rfl res_nil) (fun W hW => ⟨rfl, hW.low leB⟩)
    ·refine Tr.skip (Tr.normThen ?_)
     refine Tr.seq ?_
     refine Tr.sr ?_
     refine Tr.va rfl (fun _ _ h1 h2 => run_fieldAddr fo_55_1 (h1.ev rfl)) ?_
     refine Tr.va rfl (fun _ _ h1 h2 => run_load1 ag_53 (h1.ev rfl) (rdb h2 (vs := [(.string x126.Name), (.slice Au127_0 (x126.Rects).length cu127_0)]) (k := 4) rfl 1) rfl) ?_
     refine Tr.va rfl (fun _ _ h1 h2 => run_fieldAddr fo_25_0 (h1.ev rfl)) ?_
     refine Tr.va rfl (fun _ _ h1 h2 => run_load1 ag_3 (h1.ev rfl) (rdb h2 (vs := [(.int .i64 p0.Unit), (.slice Ap0_0 (p0.Tools).length cp0_0), (.slice Ap0_1 (p0.Steps).length cp0_1)]) (k := 1) rfl 0) rfl) ?_
     obtain ⟨y130, hy130, H⟩ := bnd H
     refine Tr.call0 (r := (.int .i64 y130)) (wn rfl) rfl Tryd.call32 (evl_cons rfl (evl_cons rfl evl_nil)) (fun W hW => F_etchhouseref3_checkToolRects_ok N x126.Rects Au127_0 cu127_0 (hoku127_0.ext hW.extAll) p0.Unit y130 hy130 (HF.start _)) ?_
     refine Tr.asg rfl rfl ?_
     refine Tr.nil (Tr.normThen ?_)
     refine Tr.sr ?_
     refine Tr.mv rfl rfl ?_
     refine Tr.va rfl (fun _ _ h1 h2 => run_neq (h1.ev rfl) (h1.ev rfl)) ?_
     refine Tr.nil (Tr.normThen ?_)
     refine Tr.cond rfl H (fun H => ?_) (fun H => ?_)
     ·refine Tr.sr ?_
      refine Tr.mv rfl rfl ?_
      refine Tr.asg rfl rfl ?_
      refine Tr.nil (Tr.normThen ?_)
      refine Tr.ret (Tr.retThen (Tr.retBlock (Tr.retThen (Tr.retThen (Tr.retBlock (Tr.retThen ?_))))))
      obtain rfl := Option.some.inj H
      exact Tr.out (m := [(.int .i64 y130)]) [] (res_tmp rfl res_nil) (fun W hW => ⟨rfl, hW.low leB⟩)
     ·refine Tr.skip (Tr.normThen ?_)
      refine Tr.seq ?_
      refine Tr.draw (by kernel_rfl) (by kernel_rfl) ?_
      refine Tq.mv rfl rfl ?_
      refine Tq.va rfl (fun _ _ h1 h2 => run_gtr (h1.ev rfl) (h1.ev rfl)) ?_
      refine Tq.mv rfl rfl ?_
      obtain ⟨g133, hg133, H⟩ := bnd H
      refine Tq.mid 11 [(1, (.pointer (some ⟨b100, 0, none⟩))), (3, (.int .i64 x125)), (51, (.bool g133))] ?_ ?_
      ·cases hg135 : (decide (0 < x125))
       ·rw [hg135] at hg133
        rw [if_neg (by decide)] at hg133
        have H := hg133
        obtain rfl := Option.some.inj H
        refine Tq.pass rfl rfl rfl rfl rfl (by decide) ?_
        refine Tq.pass rfl rfl rfl rfl rfl (by decide) ?_
        refine Tq.pass rfl rfl rfl rfl rfl (by decide) ?_
        refine Tq.pass rfl rfl rfl rfl rfl (by decide) ?_
        refine Tq.pass rfl rfl rfl rfl rfl (by decide) ?_
        refine Tq.pass rfl rfl rfl rfl rfl (by decide) ?_
        refine Tq.pass rfl rfl rfl rfl rfl (by decide) ?_
        refine Tq.pass rfl rfl rfl rfl rfl (by decide) ?_
        refine Tq.pass rfl rfl rfl rfl rfl (by decide) ?_
        refine Tq.pass rfl rfl rfl rfl rfl (by decide) ?_
        refine Tq.va rfl (fun _ _ h1 h2 => run_pickF (h1.ev rfl) (h1.ev rfl)) ?_
        exact Tq.fin (.cons rfl (.cons rfl (.cons rfl .nil)))
       ·rw [hg135] at hg133
        rw [if_pos rfl] at hg133
        have H := hg133
        refine Tq.val (wg rfl rfl rfl) rfl (fun _ _ h1 h2 => run_fieldAddr fo_55_0 (h1.ev rfl)) ?_
        refine Tq.val (wg rfl rfl rfl) rfl (fun _ _ h1 h2 => run_load1 ag_9 (h1.ev rfl) (rdb h2 (vs := [(.string x126.Name), (.slice Au127_0 (x126.Rects).length cu127_0)]) (k := 4) rfl 0) rfl) ?_
        refine Tq.val (wg rfl rfl rfl) rfl (fun _ _ h1 h2 => run_fieldAddr fo_25_1 (h1.ev rfl)) ?_
        refine Tq.val (wg rfl rfl rfl) rfl (fun _ _ h1 h2 => run_load1 ag_22 (h1.ev rfl) (rdb h2 (vs := [(.int .i64 p0.Unit), (.slice Ap0_0 (p0.Tools).length cp0_0), (.slice Ap0_1 (p0.Steps).length cp0_1)]) (k := 1) rfl 1) rfl) ?_
        refine Tq.val (wg rfl rfl rfl) rfl (fun _ _ h1 h2 => run_move (h1.ev rfl)) ?_
        refine Tq.val (wg rfl rfl rfl) rfl (fun _ _ h1 h2 => run_sub (h1.ev rfl) (h1.ev rfl)) ?_
        obtain ⟨x134, hx134, H⟩ := bnd H
        obtain ⟨hx1340, hx1341, hx1342⟩ := idx_some hx134
        obtain ⟨u135, hRu135, hoku135, hcu135⟩ := (hp0_0).el hx1342
        obtain ⟨Au135_0, cu135_0⟩ := u135
        have hoku135_0 := hoku135
        replace hoku135_0 : Sl w.R w.W fl_TRect Au135_0 cu135_0 x134.Rects := hoku135_0
        refine Tq.val (wg rfl rfl rfl) rfl (fun _ _ h1 h2 => run_indexAddr el_22 (h1.ev rfl) hp0_0.form (h1.ev rfl) hx1340 hx1341) ?_
        refine Tq.val (wg rfl rfl rfl) rfl (fun _ _ h1 h2 => run_fieldAddr fo_55_0 (h1.ev rfl)) ?_
        refine Tq.val (wg rfl rfl rfl) rfl (fun _ _ h1 h2 => run_load1 ag_9 (h1.ev rfl) (CellsAt.drop (rdR hRu135 hcu135 h2) 0) rfl) ?_
        refine Tq.val (wg rfl rfl rfl) rfl (fun _ _ h1 h2 => run_leqS (h1.ev rfl) (h1.ev rfl)) ?_
        refine Tq.va rfl (fun _ _ h1 h2 => run_pickT (h1.ev rfl) (h1.ev rfl)) ?_
        obtain rfl := Option.some.inj H
        exact Tq.fin (.cons rfl (.cons rfl (.cons rfl .nil)))
      ·refine Tq.nil (Tr.normThen ?_)
       refine Tr.cond rfl H (fun H => ?_) (fun H => ?_)
       ·refine Tr.sr ?_
        refine Tr.asg rfl rfl ?_
        refine Tr.nil (Tr.normThen ?_)
        refine Tr.ret (Tr.retBlock (Tr.retThen (Tr.retThen (Tr.retBlock (Tr.retThen ?_)))))
        obtain rfl := Option.some.inj H
        exact Tr.out (m := [(.int .i64 8)]) [] (res_tmp rfl res_nil) (fun W hW => ⟨rfl, hW.low leB⟩)
       ·refine Tr.skip (Tr.normBlock (Tr.normThen ?_))
        refine Tr.region ?_
        refine Tr.mv rfl rfl ?_
        refine Tr.va rfl (fun _ _ h1 h2 => run_add (h1.ev rfl) (h1.ev rfl)) ?_
        refine Tr.asg rfl rfl ?_
        refine Tr.nil ?_
        exact Tr.backThen leF_etchhouseref3_CheckPlot_L1 (w64 (x125 + 1)) H (.cons rfl (.cons rfl .nil)) (.cons rfl .nil)
   ·refine Tr.exit (Tr.exitThen (Tr.exitThen (Tr.exitBlock (Tr.normThen ?_))))
    refine Tr.seq ?_
    refine Tr.sr ?_
    refine Tr.va rfl (fun _ _ h1 h2 => run_fieldAddr fo_25_2 (h1.ev rfl)) ?_
    refine Tr.va rfl (fun _ _ h1 h2 => run_load1 ag_23 (h1.ev rfl) (rdb h2 (vs := [(.int .i64 p0.Unit), (.slice Ap0_0 (p0.Tools).length cp0_0), (.slice Ap0_1 (p0.Steps).length cp0_1)]) (k := 1) rfl 2) rfl) ?_
    obtain ⟨y136, hy136, H⟩ := bnd H
    refine Tr.call0 (r := (.int .i64 y136)) (wn rfl) rfl Tryd.call33 (evl_cons rfl evl_nil) (fun W hW => F_etchhouseref3_count_ok N p0.Steps Ap0_1 cp0_1 (hp0_1.ext hW.extAll) y136 hy136 (HF.start _)) ?_
    refine Tr.va rfl (fun _ _ h1 h2 => run_gtr (h1.ev rfl) (h1.ev rfl)) ?_
    refine Tr.nil (Tr.normThen ?_)
    refine Tr.cond rfl H (fun H => ?_) (fun H => ?_)
    ·refine Tr.sr ?_
     refine Tr.asg rfl rfl ?_
     refine Tr.nil (Tr.normThen ?_)
     refine Tr.ret (Tr.retThen ?_)
     obtain rfl := Option.some.inj H
     exact Tr.out (m := [(.int .i64 2)]) [] (res_tmp rfl res_nil) (fun W hW => ⟨rfl, hW.low leB⟩)
    ·refine Tr.skip (Tr.normThen ?_)
     refine Tr.sr ?_
     refine Tr.va rfl (fun _ _ h1 h2 => run_loadN (cs := [(.int .i64 p0.Unit), (.slice Ap0_0 (p0.Tools).length cp0_0), (.slice Ap0_1 (p0.Steps).length cp0_1)]) ag_25 sz_25 (h1.ev rfl) (CellsAt.take (rdb h2 (vs := [(.int .i64 p0.Unit), (.slice Ap0_0 (p0.Tools).length cp0_0), (.slice Ap0_1 (p0.Steps).length cp0_1)]) (k := 1) rfl 0) 3) rfl) ?_
     refine Tr.va rfl (fun _ _ h1 h2 => run_fieldAddr fo_25_2 (h1.ev rfl)) ?_
     refine Tr.va rfl (fun _ _ h1 h2 => run_load1 ag_23 (h1.ev rfl) (rdb h2 (vs := [(.int .i64 p0.Unit), (.slice Ap0_0 (p0.Tools).length cp0_0), (.slice Ap0_1 (p0.Steps).length cp0_1)]) (k := 1) rfl 2) rfl) ?_
     obtain ⟨y137, hy137, H⟩ := bnd H
     refine Tr.call0 (r := (.int .i64 y137)) (wn rfl) rfl Tryd.call34 (evl_cons rfl (evl_cons rfl (evl_cons rfl evl_nil))) (fun W hW => F_etchhouseref3_checkSteps_ok N p0 Ap0_0 cp0_0 (hp0_0.ext hW.extAll) Ap0_1 cp0_1 (hp0_1.ext hW.extAll) p0.Steps Ap0_1 cp0_1 (hp0_1.ext hW.extAll) 0 y137 hy137 (HF.start _)) ?_
     refine Tr.asg rfl rfl ?_
     refine Tr.nil (Tr.normThen ?_)
     refine Tr.ret ?_
     obtain rfl := Option.some.inj H
     exact Tr.out (m := [(.int .i64 y137)]) [] (res_tmp rfl res_nil) (fun W hW => ⟨rfl, hW.low leB⟩)

theorem F_etchhouseref3_numbers_ok (N : Nat) {w : Bs} (hT : Tab Tryd.prog w) (p0 : (List Int)) (Ap0_0 : Option Addr) (cp0_0 : Nat) (hp0_0 : Sl w.R w.W fl_i64 Ap0_0 cp0_0 p0) (r : ByteArray) (H : F_etchhouseref3_numbers N p0 = some r) (hE : HF w w.W E0) : Calls Tryd.prog 24 [(.slice Ap0_0 (p0).length cp0_0)].toArray w.W fun e W' => e = .returned (.string r) ∧ HF w W' E0 := by
 unfold F_etchhouseref3_numbers at H
 have leB := Bs.Le.refl w
 refine Tr.enter (n := 20) Tryd.func24 rfl rfl rfl hE ?_
 refine Tr.sr ?_
 refine Tr.asg rfl rfl ?_
 refine Tr.nil (Tr.normThen ?_)
 refine Tr.sr ?_
 refine Tr.asg rfl rfl ?_
 refine Tr.nil (Tr.normThen ?_)
 refine Tr.seq ?_
 refine Tr.sr ?_
 refine Tr.asg rfl rfl ?_
 refine Tr.nil (Tr.normThen ?_)
 refine Tr.block ?_
 refine Tr.loop (σ := ByteArray × Int) (fun m w s => F_etchhouseref3_numbers_L1 p0 m s.1 s.2 = some r) (fun s => [(0, (.slice Ap0_0 (p0).length cp0_0)), (3, (.string s.1)), (4, (.int .i64 s.2))]) (fun s => []) N (ByteArray.empty, 0) H (.cons rfl (.cons rfl (.cons rfl .nil))) .nil (fun _ _ h => noSome (h)) ?_
 intro w leF_etchhouseref3_numbers_L1 mF_etchhouseref3_numbers_L1 s hs
 obtain ⟨x114, x115⟩ := s
 have H := hs
 replace H : F_etchhouseref3_numbers_L1 p0 (mF_etchhouseref3_numbers_L1 + 1) x114 x115 = some r := H
 replace hT := hT.ext leF_etchhouseref3_numbers_L1.ext
 replace hp0_0 := hp0_0.leR leF_etchhouseref3_numbers_L1
 replace leB := leB.trans leF_etchhouseref3_numbers_L1
 rw [F_etchhouseref3_numbers_L1.eq_2] at H
 show Tr _ _ (LF [(0, (.slice Ap0_0 (p0).length cp0_0)), (3, (.string x114)), (4, (.int .i64 x115))]) (LE []) _
 refine Tr.seq ?_
 refine Tr.sr ?_
 refine Tr.mv rfl rfl ?_
 refine Tr.mv rfl rfl ?_
 refine Tr.va rfl (fun _ _ h1 h2 => run_len un_63 (h1.ev rfl)) ?_
 refine Tr.va rfl (fun _ _ h1 h2 => run_lss (h1.ev rfl) (h1.ev rfl)) ?_
 refine Tr.nil (Tr.normThen ?_)
 refine Tr.cond rfl H (fun H => ?_) (fun H => ?_)
 ·refine Tr.skip (Tr.normThen ?_)
  refine Tr.seq ?_
  refine Tr.block ?_
  refine Tr.region ?_
  refine Tr.mv rfl rfl ?_
  refine Tr.mv rfl rfl ?_
  refine Tr.mv rfl rfl ?_
  obtain ⟨x116, hx116, H⟩ := bnd H
  obtain ⟨hx1160, hx1161, hx1162⟩ := idx_some hx116
  refine Tr.va rfl (fun _ _ h1 h2 => run_indexAddr el_63 (h1.ev rfl) hp0_0.form (h1.ev rfl) hx1160 hx1161) ?_
  refine Tr.va rfl (fun _ _ h1 h2 => run_load1 ag_3 (h1.ev rfl) (rdF ef_i64 hp0_0 hx1162 h2) rfl) ?_
  obtain ⟨y117, hy117, H⟩ := bnd H
  refine Tr.call0 (r := (.string y117)) (wn rfl) rfl Tryd.call19 (evl_cons rfl evl_nil) (fun W hW => F_strconv_Itoa_ok (hT.ext hW.extAll) x116 y117 hy117 (HF.start _)) ?_
  obtain ⟨t118, ht118, H⟩ := bnd H
  refine Tr.va rfl (fun _ _ h1 h2 => run_catS (h1.ev rfl) (h1.ev rfl) ht118) ?_
  obtain ⟨t119, ht119, H⟩ := bnd H
  refine Tr.va rfl (fun _ _ h1 h2 => run_catS (h1.ev rfl) (h1.ev rfl) ht119) ?_
  refine Tr.asg rfl rfl ?_
  refine Tr.nil (Tr.normBlock (Tr.normThen ?_))
  refine Tr.region ?_
  refine Tr.mv rfl rfl ?_
  refine Tr.va rfl (fun _ _ h1 h2 => run_add (h1.ev rfl) (h1.ev rfl)) ?_
  refine Tr.asg rfl rfl ?_
  refine Tr.nil ?_
  exact Tr.backThen leF_etchhouseref3_numbers_L1 (t119, (w64 (x115 + 1))) H (.cons rfl (.cons rfl (.cons rfl .nil))) .nil
 ·refine Tr.exit (Tr.exitThen (Tr.exitThen (Tr.exitBlock (Tr.normThen ?_))))
  refine Tr.sr ?_
  refine Tr.mv rfl rfl ?_
  refine Tr.asg rfl rfl ?_
  refine Tr.nil (Tr.normThen ?_)
  refine Tr.ret ?_
  obtain rfl := Option.some.inj H
  exact Tr.out (m := [(.string x114)]) [] (res_tmp rfl res_nil) (fun W hW => ⟨rfl, hW.low leB⟩)

theorem F_etchhouseref3_stepText_b_ok (N : Nat) (rec : (List TPlotStep) → Option ByteArray) (hrec : ∀ {w : Bs} (hT : Tab Tryd.prog w) (p0 : (List TPlotStep)) (Ap0_0 : Option Addr) (cp0_0 : Nat) (hp0_0 : Sl w.R w.W fl_TPlotStep Ap0_0 cp0_0 p0) (r : ByteArray) (H : rec p0 = some r) (hE : HF w w.W E0), Calls Tryd.prog 25 [(.slice Ap0_0 (p0).length cp0_0)].toArray w.W fun e W' => e = .returned (.string r) ∧ HF w W' E0) {w : Bs} (hT : Tab Tryd.prog w) (p0 : (List TPlotStep)) (Ap0_0 : Option Addr) (cp0_0 : Nat) (hp0_0 : Sl w.R w.W fl_TPlotStep Ap0_0 cp0_0 p0) (r : ByteArray) (H : F_etchhouseref3_stepText_b N rec p0 = some r) (hE : HF w w.W E0) : Calls Tryd.prog 25 [(.slice Ap0_0 (p0).length cp0_0)].toArray w.W fun e W' => e = .returned (.string r) ∧ HF w W' E0 := by
 unfold F_etchhouseref3_stepText_b at H
 have leB := Bs.Le.refl w
 refine Tr.enter (n := 114) Tryd.func25 rfl rfl rfl hE ?_
 refine Tr.sr ?_
 refine Tr.asg rfl rfl ?_
 refine Tr.nil (Tr.normThen ?_)
 refine Tr.sr ?_
 refine Tr.asg rfl rfl ?_
 refine Tr.nil (Tr.normThen ?_)
 refine Tr.seq ?_
 refine Tr.sr ?_
 refine Tr.asg rfl rfl ?_
 refine Tr.nil (Tr.normThen ?_)
 refine Tr.block ?_
 refine Tr.loop (σ := ByteArray × Int) (fun m w s => F_etchhouseref3_stepText_L3 N p0 rec m s.1 s.2 = some r) (fun s => [(0, (.slice Ap0_0 (p0).length cp0_0)), (3, (.string s.1)), (4, (.int .i64 s.2))]) (fun s => []) N (ByteArray.empty, 0) H (.cons rfl (.cons rfl (.cons rfl .nil))) .nil (fun _ _ h => noSome (h)) ?_
 intro w leF_etchhouseref3_stepText_L3 mF_etchhouseref3_stepText_L3 s hs
 obtain ⟨x220, x221⟩ := s
 have H := hs
 replace H : F_etchhouseref3_stepText_L3 N p0 rec (mF_etchhouseref3_stepText_L3 + 1) x220 x221 = some r := H
 replace hT := hT.ext leF_etchhouseref3_stepText_L3.ext
 replace hp0_0 := hp0_0.leR leF_etchhouseref3_stepText_L3
 replace leB := leB.trans leF_etchhouseref3_stepText_L3
 rw [F_etchhouseref3_stepText_L3.eq_2] at H
 show Tr _ _ (LF [(0, (.slice Ap0_0 (p0).length cp0_0)), (3, (.string x220)), (4, (.int .i64 x221))]) (LE []) _
 refine Tr.seq ?_
 refine Tr.sr ?_
 refine Tr.mv rfl rfl ?_
 refine Tr.mv rfl rfl ?_
 refine Tr.va rfl (fun _ _ h1 h2 => run_len un_23 (h1.ev rfl)) ?_
 refine Tr.va rfl (fun _ _ h1 h2 => run_lss (h1.ev rfl) (h1.ev rfl)) ?_
 refine Tr.nil (Tr.normThen ?_)
 refine Tr.cond rfl H (fun H => ?_) (fun H => ?_)
 ·refine Tr.skip (Tr.normThen ?_)
  refine Tr.seq ?_
  refine Tr.block ?_
  refine Tr.sr ?_
  refine Tr.mv rfl rfl ?_
  refine Tr.mv rfl rfl ?_
  obtain ⟨x222, hx222, H⟩ := bnd H
  obtain ⟨hx2220, hx2221, hx2222⟩ := idx_some hx222
  obtain ⟨u223, hRu223, hoku223, hcu223⟩ := (hp0_0).el hx2222
  replace hoku223 := TPlotStep_ok.1 hoku223
  obtain ⟨⟨Au223_0, cu223_0⟩, ⟨Au223_1, cu223_1⟩⟩ := u223
  obtain ⟨hoku223_0, hoku223_1⟩ := hoku223
  replace hoku223_0 : Sl w.R w.W fl_TPoint Au223_0 cu223_0 x222.Points := hoku223_0
  replace hoku223_1 : Sl w.R w.W fl_TPlotStep Au223_1 cu223_1 x222.Steps := hoku223_1
  refine Tr.va rfl (fun _ _ h1 h2 => run_indexAddr el_23 (h1.ev rfl) hp0_0.form (h1.ev rfl) hx2220 hx2221) ?_
  refine Tr.va rfl (fun _ _ h1 h2 => run_loadN (cs := [(.int .i64 x222.Kind), (.string x222.Name), (.int .i64 x222.At.X), (.int .i64 x222.At.Y), (.slice Au223_0 (x222.Points).length cu223_0), (.int .i64 x222.NX), (.int .i64 x222.NY), (.slice Au223_1 (x222.Steps).length cu223_1)]) ag_84 sz_84 (h1.ev rfl) (CellsAt.take (rdR hRu223 hcu223 h2) 8) rfl) ?_
  refine Tr.alloc 13 (wn rfl) rfl ze_84 fun b224 => ?_
  refine Tr.store 13 (cs := [(.int .i64 x222.Kind), (.string x222.Name), (.int .i64 x222.At.X), (.int .i64 x222.At.Y), (.slice Au223_0 (x222.Points).length cu223_0), (.int .i64 x222.NX), (.int .i64 x222.NY), (.slice Au223_1 (x222.Steps).length cu223_1)]) [(.int .i64 x222.Kind), (.string x222.Name), (.int .i64 x222.At.X), (.int .i64 x222.At.Y), (.slice Au223_0 (x222.Points).length cu223_0), (.int .i64 x222.NX), (.int .i64 x222.NY), (.slice Au223_1 (x222.Steps).length cu223_1)] (wn rfl) rfl rfl rfl rfl sz_84 rfl rfl rfl ?_
  refine Tr.nil (Tr.normThen ?_)
  refine Tr.sr ?_
  refine Tr.va rfl (fun _ _ h1 h2 => run_fieldAddr fo_84_2 (h1.ev rfl)) ?_
  refine Tr.va rfl (fun _ _ h1 h2 => run_fieldAddr fo_37_0 (h1.ev rfl)) ?_
  refine Tr.va rfl (fun _ _ h1 h2 => run_load1 ag_3 (h1.ev rfl) (rdb h2 (vs := [(.int .i64 x222.Kind), (.string x222.Name), (.int .i64 x222.At.X), (.int .i64 x222.At.Y), (.slice Au223_0 (x222.Points).length cu223_0), (.int .i64 x222.NX), (.int .i64 x222.NY), (.slice Au223_1 (x222.Steps).length cu223_1)]) (k := 13) rfl 2) rfl) ?_
  refine Tr.va rfl (fun _ _ h1 h2 => run_fieldAddr fo_84_2 (h1.ev rfl)) ?_
  refine Tr.va rfl (fun _ _ h1 h2 => run_fieldAddr fo_37_1 (h1.ev rfl)) ?_
  refine Tr.va rfl (fun _ _ h1 h2 => run_load1 ag_3 (h1.ev rfl) (rdb h2 (vs := [(.int .i64 x222.Kind), (.string x222.Name), (.int .i64 x222.At.X), (.int .i64 x222.At.Y), (.slice Au223_0 (x222.Points).length cu223_0), (.int .i64 x222.NX), (.int .i64 x222.NY), (.slice Au223_1 (x222.Steps).length cu223_1)]) (k := 13) rfl 3) rfl) ?_
  refine Tr.buildSlice 14 (e := 3) (vs := [(0, (.int .i64 x222.At.X)), (1, (.int .i64 x222.At.Y))]) (cs := [(.int .i64 x222.At.X), (.int .i64 x222.At.Y)]) (wn rfl) rfl (evs_cons rfl (evs_cons rfl evs_nil)) (by kernel_rfl) fun b225 => ?_
  refine Tr.own 14 fl_i64 [x222.At.X, x222.At.Y] (css := [[(.int .i64 x222.At.X)], [(.int .i64 x222.At.Y)]]) rfl (.cons ⟨(), trivial, rfl⟩ (.cons ⟨(), trivial, rfl⟩ .nil)) rfl (by decide) (lit_max rfl) ?_
  obtain ⟨y226, hy226, H⟩ := bnd H
  refine Tr.call0 (r := (.string y226)) (wn rfl) rfl Tryd.call24 (evl_cons rfl evl_nil) (fun W hW => F_etchhouseref3_numbers_ok N (hT.ext hW.extAll) [x222.At.X, x222.At.Y] (some ⟨b225, 0, none⟩) 2 (hW.slCall (k := 14) rfl) y226 hy226 (HF.start _)) ?_
  refine Tr.asg rfl rfl ?_
  refine Tr.nil (Tr.normThen ?_)
  refine Tr.sr ?_
  refine Tr.va rfl (fun _ _ h1 h2 => run_fieldAddr fo_84_0 (h1.ev rfl)) ?_
  refine Tr.va rfl (fun _ _ h1 h2 => run_load1 ag_3 (h1.ev rfl) (rdb h2 (vs := [(.int .i64 x222.Kind), (.string x222.Name), (.int .i64 x222.At.X), (.int .i64 x222.At.Y), (.slice Au223_0 (x222.Points).length cu223_0), (.int .i64 x222.NX), (.int .i64 x222.NY), (.slice Au223_1 (x222.Steps).length cu223_1)]) (k := 13) rfl 0) rfl) ?_
  refine Tr.nil (Tr.normThen ?_)
  refine Tr.block ?_
  refine Tr.sr ?_
  refine Tr.va rfl (fun _ _ h1 h2 => run_eql (h1.ev rfl) (h1.ev rfl)) ?_
  refine Tr.asg rfl rfl ?_
  refine Tr.nil (Tr.normThen ?_)
  refine Tr.cond rfl H (fun H => ?_) (fun H => ?_)
  ·refine Tr.region ?_
   refine Tr.mv rfl rfl ?_
   obtain ⟨t227, ht227, H⟩ := bnd H
   refine Tr.va rfl (fun _ _ h1 h2 => run_catS (h1.ev rfl) (h1.ev rfl) ht227) ?_
   refine Tr.asg rfl rfl ?_
   refine Tr.nil (Tr.normBlock (Tr.normBlock (Tr.normThen ?_)))
   refine Tr.region ?_
   refine Tr.mv rfl rfl ?_
   refine Tr.va rfl (fun _ _ h1 h2 => run_add (h1.ev rfl) (h1.ev rfl)) ?_
   refine Tr.asg rfl rfl ?_
   refine Tr.nil ?_
   exact Tr.backThen leF_etchhouseref3_stepText_L3 (t227, (w64 (x221 + 1))) H (.cons rfl (.cons rfl (.cons rfl .nil))) .nil
  ·refine Tr.sr ?_
   refine Tr.va rfl (fun _ _ h1 h2 => run_eql (h1.ev rfl) (h1.ev rfl)) ?_
   refine Tr.asg rfl rfl ?_
   refine Tr.nil (Tr.normThen ?_)
   refine Tr.cond rfl H (fun H => ?_) (fun H => ?_)
   ·refine Tr.region ?_
    refine Tr.mv rfl rfl ?_
    obtain ⟨t228, ht228, H⟩ := bnd H
    refine Tr.va rfl (fun _ _ h1 h2 => run_catS (h1.ev rfl) (h1.ev rfl) ht228) ?_
    refine Tr.asg rfl rfl ?_
    refine Tr.nil (Tr.normBlock (Tr.normBlock (Tr.normThen ?_)))
    refine Tr.region ?_
    refine Tr.mv rfl rfl ?_
    refine Tr.va rfl (fun _ _ h1 h2 => run_add (h1.ev rfl) (h1.ev rfl)) ?_
    refine Tr.asg rfl rfl ?_
    refine Tr.nil ?_
    exact Tr.backThen leF_etchhouseref3_stepText_L3 (t228, (w64 (x221 + 1))) H (.cons rfl (.cons rfl (.cons rfl .nil))) .nil
   ·refine Tr.sr ?_
    refine Tr.va rfl (fun _ _ h1 h2 => run_eql (h1.ev rfl) (h1.ev rfl)) ?_
    refine Tr.asg rfl rfl ?_
    refine Tr.nil (Tr.normThen ?_)
    refine Tr.cond rfl H (fun H => ?_) (fun H => ?_)
    ·refine Tr.region ?_
     refine Tr.mv rfl rfl ?_
     refine Tr.va rfl (fun _ _ h1 h2 => run_fieldAddr fo_84_1 (h1.ev rfl)) ?_
     refine Tr.va rfl (fun _ _ h1 h2 => run_load1 ag_9 (h1.ev rfl) (rdb h2 (vs := [(.int .i64 x222.Kind), (.string x222.Name), (.int .i64 x222.At.X), (.int .i64 x222.At.Y), (.slice Au223_0 (x222.Points).length cu223_0), (.int .i64 x222.NX), (.int .i64 x222.NY), (.slice Au223_1 (x222.Steps).length cu223_1)]) (k := 13) rfl 1) rfl) ?_
     obtain ⟨t229, ht229, H⟩ := bnd H
     refine Tr.va rfl (fun _ _ h1 h2 => run_catS (h1.ev rfl) (h1.ev rfl) ht229) ?_
     obtain ⟨t230, ht230, H⟩ := bnd H
     refine Tr.va rfl (fun _ _ h1 h2 => run_catS (h1.ev rfl) (h1.ev rfl) ht230) ?_
     obtain ⟨t231, ht231, H⟩ := bnd H
     refine Tr.va rfl (fun _ _ h1 h2 => run_catS (h1.ev rfl) (h1.ev rfl) ht231) ?_
     refine Tr.asg rfl rfl ?_
     refine Tr.nil (Tr.normBlock (Tr.normBlock (Tr.normThen ?_)))
     refine Tr.region ?_
     refine Tr.mv rfl rfl ?_
     refine Tr.va rfl (fun _ _ h1 h2 => run_add (h1.ev rfl) (h1.ev rfl)) ?_
     refine Tr.asg rfl rfl ?_
     refine Tr.nil ?_
     exact Tr.backThen leF_etchhouseref3_stepText_L3 (t231, (w64 (x221 + 1))) H (.cons rfl (.cons rfl (.cons rfl .nil))) .nil
    ·refine Tr.sr ?_
     refine Tr.va rfl (fun _ _ h1 h2 => run_eql (h1.ev rfl) (h1.ev rfl)) ?_
     refine Tr.asg rfl rfl ?_
     refine Tr.nil (Tr.normThen ?_)
     refine Tr.cond rfl H (fun H => ?_) (fun H => ?_)
     ·refine Tr.region ?_
      refine Tr.mv rfl rfl ?_
      refine Tr.mv rfl rfl ?_
      obtain ⟨t232, ht232, H⟩ := bnd H
      refine Tr.va rfl (fun _ _ h1 h2 => run_catS (h1.ev rfl) (h1.ev rfl) ht232) ?_
      obtain ⟨t233, ht233, H⟩ := bnd H
      refine Tr.va rfl (fun _ _ h1 h2 => run_catS (h1.ev rfl) (h1.ev rfl) ht233) ?_
      obtain ⟨t234, ht234, H⟩ := bnd H
      refine Tr.va rfl (fun _ _ h1 h2 => run_catS (h1.ev rfl) (h1.ev rfl) ht234) ?_
      refine Tr.asg rfl rfl ?_
      refine Tr.nil (Tr.normBlock (Tr.normBlock (Tr.normThen ?_)))
      refine Tr.region ?_
      refine Tr.mv rfl rfl ?_
      refine Tr.va rfl (fun _ _ h1 h2 => run_add (h1.ev rfl) (h1.ev rfl)) ?_
      refine Tr.asg rfl rfl ?_
      refine Tr.nil ?_
      exact Tr.backThen leF_etchhouseref3_stepText_L3 (t234, (w64 (x221 + 1))) H (.cons rfl (.cons rfl (.cons rfl .nil))) .nil
     ·refine Tr.sr ?_
      refine Tr.va rfl (fun _ _ h1 h2 => run_eql (h1.ev rfl) (h1.ev rfl)) ?_
      refine Tr.asg rfl rfl ?_
      refine Tr.nil (Tr.normThen ?_)
      refine Tr.cond rfl H (fun H => ?_) (fun H => ?_)
      ·refine Tr.region ?_
       refine Tr.mv rfl rfl ?_
       refine Tr.mv rfl rfl ?_
       obtain ⟨t235, ht235, H⟩ := bnd H
       refine Tr.va rfl (fun _ _ h1 h2 => run_catS (h1.ev rfl) (h1.ev rfl) ht235) ?_
       obtain ⟨t236, ht236, H⟩ := bnd H
       refine Tr.va rfl (fun _ _ h1 h2 => run_catS (h1.ev rfl) (h1.ev rfl) ht236) ?_
       obtain ⟨t237, ht237, H⟩ := bnd H
       refine Tr.va rfl (fun _ _ h1 h2 => run_catS (h1.ev rfl) (h1.ev rfl) ht237) ?_
       refine Tr.asg rfl rfl ?_
       refine Tr.nil (Tr.normBlock (Tr.normBlock (Tr.normThen ?_)))
       refine Tr.region ?_
       refine Tr.mv rfl rfl ?_
       refine Tr.va rfl (fun _ _ h1 h2 => run_add (h1.ev rfl) (h1.ev rfl)) ?_
       refine Tr.asg rfl rfl ?_
       refine Tr.nil ?_
       exact Tr.backThen leF_etchhouseref3_stepText_L3 (t237, (w64 (x221 + 1))) H (.cons rfl (.cons rfl (.cons rfl .nil))) .nil
      ·refine Tr.sr ?_
       refine Tr.va rfl (fun _ _ h1 h2 => run_eql (h1.ev rfl) (h1.ev rfl)) ?_
       refine Tr.asg rfl rfl ?_
       refine Tr.nil (Tr.normThen ?_)
       refine Tr.cond rfl H (fun H => ?_) (fun H => ?_)
       ·refine Tr.region ?_
        refine Tr.mv rfl rfl ?_
        refine Tr.mv rfl rfl ?_
        obtain ⟨t238, ht238, H⟩ := bnd H
        refine Tr.va rfl (fun _ _ h1 h2 => run_catS (h1.ev rfl) (h1.ev rfl) ht238) ?_
        obtain ⟨t239, ht239, H⟩ := bnd H
        refine Tr.va rfl (fun _ _ h1 h2 => run_catS (h1.ev rfl) (h1.ev rfl) ht239) ?_
        obtain ⟨t240, ht240, H⟩ := bnd H
        refine Tr.va rfl (fun _ _ h1 h2 => run_catS (h1.ev rfl) (h1.ev rfl) ht240) ?_
        refine Tr.asg rfl rfl ?_
        refine Tr.nil (Tr.normBlock (Tr.normBlock (Tr.normThen ?_)))
        refine Tr.region ?_
        refine Tr.mv rfl rfl ?_
        refine Tr.va rfl (fun _ _ h1 h2 => run_add (h1.ev rfl) (h1.ev rfl)) ?_
        refine Tr.asg rfl rfl ?_
        refine Tr.nil ?_
        exact Tr.backThen leF_etchhouseref3_stepText_L3 (t240, (w64 (x221 + 1))) H (.cons rfl (.cons rfl (.cons rfl .nil))) .nil
       ·refine Tr.sr ?_
        refine Tr.va rfl (fun _ _ h1 h2 => run_eql (h1.ev rfl) (h1.ev rfl)) ?_
        refine Tr.asg rfl rfl ?_
        refine Tr.nil (Tr.normThen ?_)
        refine Tr.cond rfl H (fun H => ?_) (fun H => ?_)
        ·refine Tr.sr ?_
         refine Tr.mv rfl rfl ?_
         obtain ⟨t241, ht241, H⟩ := bnd H
         refine Tr.va rfl (fun _ _ h1 h2 => run_catS (h1.ev rfl) (h1.ev rfl) ht241) ?_
         refine Tr.asg rfl rfl ?_
         refine Tr.nil (Tr.normThen ?_)
         refine Tr.seq ?_
         refine Tr.sr ?_
         refine Tr.asg rfl rfl ?_
         refine Tr.nil (Tr.normThen ?_)
         refine Tr.block ?_
         refine Tr.loop (σ := ByteArray × Int) (fun m w s => F_etchhouseref3_stepText_L4 N x221 (F_etchhouseref3_stepText_L3 N p0 rec mF_etchhouseref3_stepText_L3) x222 m s.1 s.2 = some r) (fun s => [(0, (.slice Ap0_0 (p0).length cp0_0)), (3, (.string s.1)), (4, (.int .i64 x221)), (5, (.pointer (some ⟨b224, 0, none⟩))), (7, (.int .i64 s.2))]) (fun s => [(13, bx b224 #[(.int .i64 x222.Kind), (.string x222.Name), (.int .i64 x222.At.X), (.int .i64 x222.At.Y), (.slice Au223_0 (x222.Points).length cu223_0), (.int .i64 x222.NX), (.int .i64 x222.NY), (.slice Au223_1 (x222.Steps).length cu223_1)] 84)]) N (t241, 0) H (.cons rfl (.cons rfl (.cons rfl (.cons rfl (.cons rfl .nil))))) (.cons rfl .nil) (fun _ _ h => noSome (h)) ?_
         intro w leF_etchhouseref3_stepText_L4 mF_etchhouseref3_stepText_L4 s hs
         obtain ⟨x260, x261⟩ := s
         have H := hs
         replace H : F_etchhouseref3_stepText_L4 N x221 (F_etchhouseref3_stepText_L3 N p0 rec mF_etchhouseref3_stepText_L3) x222 (mF_etchhouseref3_stepText_L4 + 1) x260 x261 = some r := H
         replace hT := hT.ext leF_etchhouseref3_stepText_L4.ext
         replace hp0_0 := hp0_0.leR leF_etchhouseref3_stepText_L4
         replace hoku223_0 := hoku223_0.leR leF_etchhouseref3_stepText_L4
         replace hoku223_1 := hoku223_1.leR leF_etchhouseref3_stepText_L4
         replace leB := leB.trans leF_etchhouseref3_stepText_L4
         replace leF_etchhouseref3_stepText_L3 := leF_etchhouseref3_stepText_L3.trans leF_etchhouseref3_stepText_L4
         rw [F_etchhouseref3_stepText_L4.eq_2] at H
         show Tr _ _ (LF [(0, (.slice Ap0_0 (p0).length cp0_0)), (3, (.string x260)), (4, (.int .i64 x221)), (5, (.pointer (some ⟨b224, 0, none⟩))), (7, (.int .i64 x261))]) (LE [(13, bx b224 #[(.int .i64 x222.Kind), (.string x222.Name), (.int .i64 x222.At.X), (.int .i64 x222.At.Y), (.slice Au223_0 (x222.Points).length cu223_0), (.int .i64 x222.NX), (.int .i64 x222.NY), (.slice Au223_1 (x222.Steps).length cu223_1)] 84)]) _
         refine Tr.seq ?_
         refine Tr.sr ?_
         refine Tr.mv rfl rfl ?_
         refine Tr.va rfl (fun _ _ h1 h2 => run_fieldAddr fo_84_3 (h1.ev rfl)) ?_
         refine Tr.va rfl (fun _ _ h1 h2 => run_load1 ag_82 (h1.ev rfl) (rdb h2 (vs := [(.int .i64 x222.Kind), (.string x222.Name), (.int .i64 x222.At.X), (.int .i64 x222.At.Y), (.slice Au223_0 (x222.Points).length cu223_0), (.int .i64 x222.NX), (.int .i64 x222.NY), (.slice Au223_1 (x222.Steps).length cu223_1)]) (k := 13) rfl 4) rfl) ?_
         refine Tr.va rfl (fun _ _ h1 h2 => run_len un_82 (h1.ev rfl)) ?_
         refine Tr.va rfl (fun _ _ h1 h2 => run_lss (h1.ev rfl) (h1.ev rfl)) ?_
         refine Tr.nil (Tr.normThen ?_)
         refine Tr.cond rfl H (fun H => ?_) (fun H => ?_)
         ·refine Tr.skip (Tr.normThen ?_)
          refine Tr.seq ?_
          refine Tr.block ?_
          refine Tr.drawC 15 [] [] (by kernel_rfl) (by kernel_rfl) fun sz262 hlosz262 hEsz262 => ?_
          refine Dr.quiet 0 [(76, (.string x260))] (by kernel_rfl) rfl rfl (by kernel_rfl) ?_ rfl rfl ?_
          ·refine Tq.mv rfl rfl ?_
           exact Tq.fin (.cons rfl .nil)
          refine Dr.quiet 1 [(77, (.pointer (some ⟨b224, 4, none⟩)))] (by kernel_rfl) rfl rfl (by kernel_rfl) ?_ rfl rfl ?_
          ·refine Tq.va rfl (fun _ _ h1 h2 => run_fieldAddr fo_84_3 (h1.ev rfl)) ?_
           exact Tq.fin (.cons rfl .nil)
          refine Dr.quiet 2 [(78, (.slice Au223_0 (x222.Points).length cu223_0))] (by kernel_rfl) rfl rfl (by kernel_rfl) ?_ rfl rfl ?_
          ·refine Tq.va rfl (fun _ _ h1 h2 => run_load1 ag_82 (h1.ev rfl) (rdb h2 (vs := [(.int .i64 x222.Kind), (.string x222.Name), (.int .i64 x222.At.X), (.int .i64 x222.At.Y), (.slice Au223_0 (x222.Points).length cu223_0), (.int .i64 x222.NX), (.int .i64 x222.NY), (.slice Au223_1 (x222.Steps).length cu223_1)]) (k := 13) rfl 4) rfl) ?_
           exact Tq.fin (.cons rfl .nil)
          refine Dr.quiet 3 [(79, (.int .i64 x261))] (by kernel_rfl) rfl rfl (by kernel_rfl) ?_ rfl rfl ?_
          ·refine Tq.mv rfl rfl ?_
           exact Tq.fin (.cons rfl .nil)
          obtain ⟨x263, hx263, H⟩ := bnd H
          obtain ⟨hx2630, hx2631, hx2632⟩ := idx_some hx263
          refine Dr.quiet 4 [(80, (.pointer (some ⟨adB Au223_0, adO Au223_0 + (x261).toNat * 2, none⟩)))] (by kernel_rfl) rfl rfl (by kernel_rfl) ?_ rfl rfl ?_
          ·refine Tq.va rfl (fun _ _ h1 h2 => run_indexAddr el_82 (h1.ev rfl) hoku223_0.form (h1.ev rfl) hx2630 hx2631) ?_
           exact Tq.fin (.cons rfl .nil)
          refine Dr.quiet 5 [(81, (.pointer (some ⟨adB Au223_0, adO Au223_0 + (x261).toNat * 2 + 0, none⟩)))] (by kernel_rfl) rfl rfl (by kernel_rfl) ?_ rfl rfl ?_
          ·refine Tq.va rfl (fun _ _ h1 h2 => run_fieldAddr fo_37_0 (h1.ev rfl)) ?_
           exact Tq.fin (.cons rfl .nil)
          refine Dr.quiet 6 [(82, (.int .i64 x263.X))] (by kernel_rfl) rfl rfl (by kernel_rfl) ?_ rfl rfl ?_
          ·refine Tq.va rfl (fun _ _ h1 h2 => run_load1 ag_3 (h1.ev rfl) (CellsAt.drop (rdF ef_TPoint hoku223_0 hx2632 h2) 0) rfl) ?_
           exact Tq.fin (.cons rfl .nil)
          refine Dr.quiet 7 [(83, (.pointer (some ⟨b224, 4, none⟩)))] (by kernel_rfl) rfl rfl (by kernel_rfl) ?_ rfl rfl ?_
          ·refine Tq.va rfl (fun _ _ h1 h2 => run_fieldAddr fo_84_3 (h1.ev rfl)) ?_
           exact Tq.fin (.cons rfl .nil)
          refine Dr.quiet 8 [(84, (.slice Au223_0 (x222.Points).length cu223_0))] (by kernel_rfl) rfl rfl (by kernel_rfl) ?_ rfl rfl ?_
          ·refine Tq.va rfl (fun _ _ h1 h2 => run_load1 ag_82 (h1.ev rfl) (rdb h2 (vs := [(.int .i64 x222.Kind), (.string x222.Name), (.int .i64 x222.At.X), (.int .i64 x222.At.Y), (.slice Au223_0 (x222.Points).length cu223_0), (.int .i64 x222.NX), (.int .i64 x222.NY), (.slice Au223_1 (x222.Steps).length cu223_1)]) (k := 13) rfl 4) rfl) ?_
           exact Tq.fin (.cons rfl .nil)
          refine Dr.quiet 9 [(85, (.int .i64 x261))] (by kernel_rfl) rfl rfl (by kernel_rfl) ?_ rfl rfl ?_
          ·refine Tq.mv rfl rfl ?_
           exact Tq.fin (.cons rfl .nil)
          obtain ⟨x264, hx264, H⟩ := bnd H
          obtain ⟨hx2640, hx2641, hx2642⟩ := idx_some hx264
          refine Dr.quiet 10 [(86, (.pointer (some ⟨adB Au223_0, adO Au223_0 + (x261).toNat * 2, none⟩)))] (by kernel_rfl) rfl rfl (by kernel_rfl) ?_ rfl rfl ?_
          ·refine Tq.va rfl (fun _ _ h1 h2 => run_indexAddr el_82 (h1.ev rfl) hoku223_0.form (h1.ev rfl) hx2640 hx2641) ?_
           exact Tq.fin (.cons rfl .nil)
          refine Dr.quiet 11 [(87, (.pointer (some ⟨adB Au223_0, adO Au223_0 + (x261).toNat * 2 + 1, none⟩)))] (by kernel_rfl) rfl rfl (by kernel_rfl) ?_ rfl rfl ?_
          ·refine Tq.va rfl (fun _ _ h1 h2 => run_fieldAddr fo_37_1 (h1.ev rfl)) ?_
           exact Tq.fin (.cons rfl .nil)
          refine Dr.quiet 12 [(88, (.int .i64 x264.Y))] (by kernel_rfl) rfl rfl (by kernel_rfl) ?_ rfl rfl ?_
          ·refine Tq.va rfl (fun _ _ h1 h2 => run_load1 ag_3 (h1.ev rfl) (CellsAt.drop (rdF ef_TPoint hoku223_0 hx2642 h2) 1) rfl) ?_
           exact Tq.fin (.cons rfl .nil)
          refine Dr.one 13 (by kernel_rfl) ?_
          refine St.buildSlice 13 17 (e := 3) (vs := [(0, (.int .i64 x263.X)), (1, (.int .i64 x264.Y))]) (cs := [(.int .i64 x263.X), (.int .i64 x264.Y)]) rfl (wn rfl) rfl (evs_cons rfl (evs_cons rfl evs_nil)) (by kernel_rfl) fun b265 hb265 => ?_
          refine Dr.own 17 fl_i64 [x263.X, x264.Y] (css := [[(.int .i64 x263.X)], [(.int .i64 x264.Y)]]) rfl (.cons ⟨(), trivial, rfl⟩ (.cons ⟨(), trivial, rfl⟩ .nil)) rfl (by decide) (lit_max rfl) ?_
          obtain ⟨y266, hy266, H⟩ := bnd H
          refine Dr.quiet 14 [(90, (.string y266))] (by kernel_rfl) rfl rfl (by kernel_rfl) ?_ rfl rfl ?_
          ·refine Tq.call0 (r := (.string y266)) (wn rfl) rfl Tryd.call24 (evl_cons rfl evl_nil) (fun W hW => F_etchhouseref3_numbers_ok N (hT.ext hW.extAll) [x263.X, x264.Y] (some ⟨b265, 0, none⟩) 2 (hW.slCall (k := 17) rfl) y266 hy266 (HF.start _)) ?_
           exact Tq.fin (.cons rfl .nil)
          refine Dr.tail (by kernel_rfl) ?_
          obtain ⟨t267, ht267, H⟩ := bnd H
          refine Tr.va rfl (fun _ _ h1 h2 => run_catS (h1.ev rfl) (h1.ev rfl) ht267) ?_
          refine Tr.asg rfl rfl ?_
          refine Tr.nil (Tr.normBlock (Tr.normThen ?_))
          refine Tr.region ?_
          refine Tr.mv rfl rfl ?_
          refine Tr.va rfl (fun _ _ h1 h2 => run_add (h1.ev rfl) (h1.ev rfl)) ?_
          refine Tr.asg rfl rfl ?_
          refine Tr.nil ?_
          exact Tr.backThen leF_etchhouseref3_stepText_L4 (t267, (w64 (x261 + 1))) H (.cons rfl (.cons rfl (.cons rfl (.cons rfl (.cons rfl .nil))))) (.cons rfl .nil)
         ·refine Tr.exit (Tr.exitThen (Tr.exitThen (Tr.exitBlock (Tr.normThen ?_))))
          refine Tr.region ?_
          refine Tr.mv rfl rfl ?_
          obtain ⟨t268, ht268, H⟩ := bnd H
          refine Tr.va rfl (fun _ _ h1 h2 => run_catS (h1.ev rfl) (h1.ev rfl) ht268) ?_
          refine Tr.asg rfl rfl ?_
          refine Tr.nil (Tr.normBlock (Tr.normBlock (Tr.normThen ?_)))
          refine Tr.region ?_
          refine Tr.mv rfl rfl ?_
          refine Tr.va rfl (fun _ _ h1 h2 => run_add (h1.ev rfl) (h1.ev rfl)) ?_
          refine Tr.asg rfl rfl ?_
          refine Tr.nil ?_
          exact Tr.backThen leF_etchhouseref3_stepText_L3 (t268, (w64 (x221 + 1))) H (.cons rfl (.cons rfl (.cons rfl .nil))) .nil
        ·refine Tr.sr ?_
         refine Tr.va rfl (fun _ _ h1 h2 => run_eql (h1.ev rfl) (h1.ev rfl)) ?_
         refine Tr.asg rfl rfl ?_
         refine Tr.nil (Tr.normThen ?_)
         refine Tr.cond rfl H (fun H => ?_) (fun H => ?_)
         ·refine Tr.drawC 16 [] [] (by kernel_rfl) (by kernel_rfl) fun sz269 hlosz269 hEsz269 => ?_
          refine Dr.quiet 0 [(96, (.string x220))] (by kernel_rfl) rfl rfl (by kernel_rfl) ?_ rfl rfl ?_
          ·refine Tq.mv rfl rfl ?_
           exact Tq.fin (.cons rfl .nil)
          refine Dr.quiet 1 [(97, (.pointer (some ⟨b224, 5, none⟩)))] (by kernel_rfl) rfl rfl (by kernel_rfl) ?_ rfl rfl ?_
          ·refine Tq.va rfl (fun _ _ h1 h2 => run_fieldAddr fo_84_4 (h1.ev rfl)) ?_
           exact Tq.fin (.cons rfl .nil)
          refine Dr.quiet 2 [(98, (.int .i64 x222.NX))] (by kernel_rfl) rfl rfl (by kernel_rfl) ?_ rfl rfl ?_
          ·refine Tq.va rfl (fun _ _ h1 h2 => run_load1 ag_3 (h1.ev rfl) (rdb h2 (vs := [(.int .i64 x222.Kind), (.string x222.Name), (.int .i64 x222.At.X), (.int .i64 x222.At.Y), (.slice Au223_0 (x222.Points).length cu223_0), (.int .i64 x222.NX), (.int .i64 x222.NY), (.slice Au223_1 (x222.Steps).length cu223_1)]) (k := 13) rfl 5) rfl) ?_
           exact Tq.fin (.cons rfl .nil)
          refine Dr.quiet 3 [(99, (.pointer (some ⟨b224, 6, none⟩)))] (by kernel_rfl) rfl rfl (by kernel_rfl) ?_ rfl rfl ?_
          ·refine Tq.va rfl (fun _ _ h1 h2 => run_fieldAddr fo_84_5 (h1.ev rfl)) ?_
           exact Tq.fin (.cons rfl .nil)
          refine Dr.quiet 4 [(100, (.int .i64 x222.NY))] (by kernel_rfl) rfl rfl (by kernel_rfl) ?_ rfl rfl ?_
          ·refine Tq.va rfl (fun _ _ h1 h2 => run_load1 ag_3 (h1.ev rfl) (rdb h2 (vs := [(.int .i64 x222.Kind), (.string x222.Name), (.int .i64 x222.At.X), (.int .i64 x222.At.Y), (.slice Au223_0 (x222.Points).length cu223_0), (.int .i64 x222.NX), (.int .i64 x222.NY), (.slice Au223_1 (x222.Steps).length cu223_1)]) (k := 13) rfl 6) rfl) ?_
           exact Tq.fin (.cons rfl .nil)
          refine Dr.quiet 8 [(104, (.string y226))] (by kernel_rfl) rfl rfl (by kernel_rfl) ?_ rfl rfl ?_
          ·refine Tq.mv rfl rfl ?_
           exact Tq.fin (.cons rfl .nil)
          refine Dr.quiet 11 [(107, (.pointer (some ⟨b224, 7, none⟩)))] (by kernel_rfl) rfl rfl (by kernel_rfl) ?_ rfl rfl ?_
          ·refine Tq.va rfl (fun _ _ h1 h2 => run_fieldAddr fo_84_6 (h1.ev rfl)) ?_
           exact Tq.fin (.cons rfl .nil)
          refine Dr.quiet 12 [(108, (.slice Au223_1 (x222.Steps).length cu223_1))] (by kernel_rfl) rfl rfl (by kernel_rfl) ?_ rfl rfl ?_
          ·refine Tq.va rfl (fun _ _ h1 h2 => run_load1 ag_23 (h1.ev rfl) (rdb h2 (vs := [(.int .i64 x222.Kind), (.string x222.Name), (.int .i64 x222.At.X), (.int .i64 x222.At.Y), (.slice Au223_0 (x222.Points).length cu223_0), (.int .i64 x222.NX), (.int .i64 x222.NY), (.slice Au223_1 (x222.Steps).length cu223_1)]) (k := 13) rfl 7) rfl) ?_
           exact Tq.fin (.cons rfl .nil)
          refine Dr.one 5 (by kernel_rfl) ?_
          refine St.buildSlice 5 18 (e := 3) (vs := [(0, (.int .i64 x222.NX)), (1, (.int .i64 x222.NY))]) (cs := [(.int .i64 x222.NX), (.int .i64 x222.NY)]) rfl (wn rfl) rfl (evs_cons rfl (evs_cons rfl evs_nil)) (by kernel_rfl) fun b270 hb270 => ?_
          refine Dr.own 18 fl_i64 [x222.NX, x222.NY] (css := [[(.int .i64 x222.NX)], [(.int .i64 x222.NY)]]) rfl (.cons ⟨(), trivial, rfl⟩ (.cons ⟨(), trivial, rfl⟩ .nil)) rfl (by decide) (lit_max rfl) ?_
          obtain ⟨y271, hy271, H⟩ := bnd H
          refine Dr.quiet 6 [(102, (.string y271))] (by kernel_rfl) rfl rfl (by kernel_rfl) ?_ rfl rfl ?_
          ·refine Tq.call0 (r := (.string y271)) (wn rfl) rfl Tryd.call24 (evl_cons rfl evl_nil) (fun W hW => F_etchhouseref3_numbers_ok N (hT.ext hW.extAll) [x222.NX, x222.NY] (some ⟨b270, 0, none⟩) 2 (hW.slCall (k := 18) rfl) y271 hy271 (HF.start _)) ?_
           exact Tq.fin (.cons rfl .nil)
          obtain ⟨t272, ht272, H⟩ := bnd H
          refine Dr.quiet 7 [(103, (.string t272))] (by kernel_rfl) rfl rfl (by kernel_rfl) ?_ rfl rfl ?_
          ·refine Tq.va rfl (fun _ _ h1 h2 => run_catS (h1.ev rfl) (h1.ev rfl) ht272) ?_
           exact Tq.fin (.cons rfl .nil)
          obtain ⟨t273, ht273, H⟩ := bnd H
          refine Dr.quiet 9 [(105, (.string t273))] (by kernel_rfl) rfl rfl (by kernel_rfl) ?_ rfl rfl ?_
          ·refine Tq.va rfl (fun _ _ h1 h2 => run_catS (h1.ev rfl) (h1.ev rfl) ht273) ?_
           exact Tq.fin (.cons rfl .nil)
          obtain ⟨t274, ht274, H⟩ := bnd H
          refine Dr.quiet 10 [(106, (.string t274))] (by kernel_rfl) rfl rfl (by kernel_rfl) ?_ rfl rfl ?_
          ·refine Tq.va rfl (fun _ _ h1 h2 => run_catS (h1.ev rfl) (h1.ev rfl) ht274) ?_
           exact Tq.fin (.cons rfl .nil)
          obtain ⟨y275, hy275, H⟩ := bnd H
          refine Dr.quiet 13 [(109, (.string y275))] (by kernel_rfl) rfl rfl (by kernel_rfl) ?_ rfl rfl ?_
          ·refine Tq.call0 (r := (.string y275)) (wn rfl) rfl Tryd.call25 (evl_cons rfl evl_nil) (fun W hW => hrec (hT.ext hW.extAll) x222.Steps Au223_1 cu223_1 (hoku223_1.ext hW.extAll) y275 hy275 (HF.start _)) ?_
           exact Tq.fin (.cons rfl .nil)
          obtain ⟨t276, ht276, H⟩ := bnd H
          refine Dr.quiet 14 [(110, (.string t276))] (by kernel_rfl) rfl rfl (by kernel_rfl) ?_ rfl rfl ?_
          ·refine Tq.va rfl (fun _ _ h1 h2 => run_catS (h1.ev rfl) (h1.ev rfl) ht276) ?_
           exact Tq.fin (.cons rfl .nil)
          obtain ⟨t277, ht277, H⟩ := bnd H
          refine Dr.quiet 15 [(111, (.string t277))] (by kernel_rfl) rfl rfl (by kernel_rfl) ?_ rfl rfl ?_
          ·refine Tq.va rfl (fun _ _ h1 h2 => run_catS (h1.ev rfl) (h1.ev rfl) ht277) ?_
           exact Tq.fin (.cons rfl .nil)
          refine Dr.tail (by kernel_rfl) ?_
          obtain ⟨t278, ht278, H⟩ := bnd H
          refine Tr.va rfl (fun _ _ h1 h2 => run_catS (h1.ev rfl) (h1.ev rfl) ht278) ?_
          refine Tr.asg rfl rfl ?_
          refine Tr.nil (Tr.normBlock (Tr.normBlock (Tr.normThen ?_)))
          refine Tr.region ?_
          refine Tr.mv rfl rfl ?_
          refine Tr.va rfl (fun _ _ h1 h2 => run_add (h1.ev rfl) (h1.ev rfl)) ?_
          refine Tr.asg rfl rfl ?_
          refine Tr.nil ?_
          exact Tr.backThen leF_etchhouseref3_stepText_L3 (t278, (w64 (x221 + 1))) H (.cons rfl (.cons rfl (.cons rfl .nil))) .nil
         ·refine Tr.skip (Tr.normBlock (Tr.normBlock (Tr.normThen ?_)))
          refine Tr.region ?_
          refine Tr.mv rfl rfl ?_
          refine Tr.va rfl (fun _ _ h1 h2 => run_add (h1.ev rfl) (h1.ev rfl)) ?_
          refine Tr.asg rfl rfl ?_
          refine Tr.nil ?_
          exact Tr.backThen leF_etchhouseref3_stepText_L3 (x220, (w64 (x221 + 1))) H (.cons rfl (.cons rfl (.cons rfl .nil))) .nil
 ·refine Tr.exit (Tr.exitThen (Tr.exitThen (Tr.exitBlock (Tr.normThen ?_))))
  refine Tr.sr ?_
  refine Tr.mv rfl rfl ?_
  refine Tr.asg rfl rfl ?_
  refine Tr.nil (Tr.normThen ?_)
  refine Tr.ret ?_
  obtain rfl := Option.some.inj H
  exact Tr.out (m := [(.string x220)]) [] (res_tmp rfl res_nil) (fun W hW => ⟨rfl, hW.low leB⟩)
theorem F_etchhouseref3_stepText_ok : ∀ (N : Nat) {w : Bs} (hT : Tab Tryd.prog w) (p0 : (List TPlotStep)) (Ap0_0 : Option Addr) (cp0_0 : Nat) (hp0_0 : Sl w.R w.W fl_TPlotStep Ap0_0 cp0_0 p0) (r : ByteArray) (H : F_etchhouseref3_stepText N p0 = some r) (hE : HF w w.W E0), Calls Tryd.prog 25 [(.slice Ap0_0 (p0).length cp0_0)].toArray w.W fun e W' => e = .returned (.string r) ∧ HF w W' E0
 | 0 => by intros; rename_i H _; cases H
 | N + 1 => F_etchhouseref3_stepText_b_ok N (F_etchhouseref3_stepText N) (F_etchhouseref3_stepText_ok N)

theorem F_etchhouseref3_Text_ok (N : Nat) {w : Bs} (hT : Tab Tryd.prog w) (p0 : TPlot) (Ap0_0 : Option Addr) (cp0_0 : Nat) (hp0_0 : Sl w.R w.W fl_TPlotTool Ap0_0 cp0_0 p0.Tools) (Ap0_1 : Option Addr) (cp0_1 : Nat) (hp0_1 : Sl w.R w.W fl_TPlotStep Ap0_1 cp0_1 p0.Steps) (r : (ByteArray × Int)) (H : F_etchhouseref3_Text N p0 = some r) (hE : HF w w.W E0) : Calls Tryd.prog 7 [(.agg #[(.int .i64 p0.Unit), (.slice Ap0_0 (p0.Tools).length cp0_0), (.slice Ap0_1 (p0.Steps).length cp0_1)])].toArray w.W fun e W' => e = .returned (.tuple #[(.string r.1), (.int .i64 r.2)]) ∧ HF w W' E0 := by
 unfold F_etchhouseref3_Text at H
 have leB := Bs.Le.refl w
 refine Tr.enter (n := 78) Tryd.func7 rfl rfl rfl hE ?_
 refine Tr.sr ?_
 refine Tr.box 1 (cs := [(.int .i64 p0.Unit), (.slice Ap0_0 (p0.Tools).length cp0_0), (.slice Ap0_1 (p0.Steps).length cp0_1)]) (wn rfl) rfl rfl rfl fun b100 => ?_
 refine Tr.asg rfl rfl ?_
 refine Tr.asg rfl rfl ?_
 refine Tr.nil (Tr.normThen ?_)
 refine Tr.seq ?_
 refine Tr.sr ?_
 refine Tr.va rfl (fun _ _ h1 h2 => run_loadN (cs := [(.int .i64 p0.Unit), (.slice Ap0_0 (p0.Tools).length cp0_0), (.slice Ap0_1 (p0.Steps).length cp0_1)]) ag_25 sz_25 (h1.ev rfl) (CellsAt.take (rdb h2 (vs := [(.int .i64 p0.Unit), (.slice Ap0_0 (p0.Tools).length cp0_0), (.slice Ap0_1 (p0.Steps).length cp0_1)]) (k := 1) rfl 0) 3) rfl) ?_
 obtain ⟨y101, hy101, H⟩ := bnd H
 refine Tr.call0 (r := (.int .i64 y101)) (wn rfl) rfl Tryd.call9 (evl_cons rfl evl_nil) (fun W hW => F_etchhouseref3_CheckPlot_ok N p0 Ap0_0 cp0_0 (hp0_0.ext hW.extAll) Ap0_1 cp0_1 (hp0_1.ext hW.extAll) y101 hy101 (HF.start _)) ?_
 refine Tr.asg rfl rfl ?_
 refine Tr.nil (Tr.normThen ?_)
 refine Tr.sr ?_
 refine Tr.mv rfl rfl ?_
 refine Tr.va rfl (fun _ _ h1 h2 => run_neq (h1.ev rfl) (h1.ev rfl)) ?_
 refine Tr.nil (Tr.normThen ?_)
 refine Tr.cond rfl H (fun H => ?_) (fun H => ?_)
 ·refine Tr.sr ?_
  refine Tr.mv rfl rfl ?_
  refine Tr.asg rfl rfl ?_
  refine Tr.asg rfl rfl ?_
  refine Tr.nil (Tr.normThen ?_)
  refine Tr.ret (Tr.retThen ?_)
  obtain rfl := Option.some.inj H
  exact Tr.out (m := [(.string ByteArray.empty), (.int .i64 y101)]) [] (res_tmp rfl (res_tmp rfl res_nil)) (fun W hW => ⟨rfl, hW.low leB⟩)
 ·refine Tr.skip (Tr.normThen ?_)
  refine Tr.sr ?_
  refine Tr.va rfl (fun _ _ h1 h2 => run_fieldAddr fo_25_0 (h1.ev rfl)) ?_
  refine Tr.va rfl (fun _ _ h1 h2 => run_load1 ag_3 (h1.ev rfl) (rdb h2 (vs := [(.int .i64 p0.Unit), (.slice Ap0_0 (p0.Tools).length cp0_0), (.slice Ap0_1 (p0.Steps).length cp0_1)]) (k := 1) rfl 0) rfl) ?_
  obtain ⟨y102, hy102, H⟩ := bnd H
  refine Tr.call0 (r := (.string y102)) (wn rfl) rfl Tryd.call19 (evl_cons rfl evl_nil) (fun W hW => F_strconv_Itoa_ok (hT.ext hW.extAll) p0.Unit y102 hy102 (HF.start _)) ?_
  obtain ⟨t103, ht103, H⟩ := bnd H
  refine Tr.va rfl (fun _ _ h1 h2 => run_catS (h1.ev rfl) (h1.ev rfl) ht103) ?_
  obtain ⟨t104, ht104, H⟩ := bnd H
  refine Tr.va rfl (fun _ _ h1 h2 => run_catS (h1.ev rfl) (h1.ev rfl) ht104) ?_
  refine Tr.asg rfl rfl ?_
  refine Tr.nil (Tr.normThen ?_)
  refine Tr.seq ?_
  refine Tr.sr ?_
  refine Tr.asg rfl rfl ?_
  refine Tr.nil (Tr.normThen ?_)
  refine Tr.block ?_
  refine Tr.loop (σ := ByteArray × Int) (fun m w s => F_etchhouseref3_Text_L3 N p0 m s.1 s.2 = some r) (fun s => [(1, (.pointer (some ⟨b100, 0, none⟩))), (5, (.string s.1)), (6, (.int .i64 s.2))]) (fun s => [(1, bx b100 #[(.int .i64 p0.Unit), (.slice Ap0_0 (p0.Tools).length cp0_0), (.slice Ap0_1 (p0.Steps).length cp0_1)] 25)]) N (t104, 0) H (.cons rfl (.cons rfl (.cons rfl .nil))) (.cons rfl .nil) (fun _ _ h => noSome (h)) ?_
  intro w leF_etchhouseref3_Text_L3 mF_etchhouseref3_Text_L3 s hs
  obtain ⟨x191, x192⟩ := s
  have H := hs
  replace H : F_etchhouseref3_Text_L3 N p0 (mF_etchhouseref3_Text_L3 + 1) x191 x192 = some r := H
  replace hT := hT.ext leF_etchhouseref3_Text_L3.ext
  replace hp0_0 := hp0_0.leR leF_etchhouseref3_Text_L3
  replace hp0_1 := hp0_1.leR leF_etchhouseref3_Text_L3
  replace leB := leB.trans leF_etchhouseref3_Text_L3
  rw [F_etchhouseref3_Text_L3.eq_2] at H
  show Tr _ _ (LF [(1, (.pointer (some ⟨b100, 0, none⟩))), (5, (.string x191)), (6, (.int .i64 x192))]) (LE [(1, bx b100 #[(.int .i64 p0.Unit), (.slice Ap0_0 (p0.Tools).length cp0_0), (.slice Ap0_1 (p0.Steps).length cp0_1)] 25)]) _
  refine Tr.seq ?_
  refine Tr.sr ?_
  refine Tr.mv rfl rfl ?_
  refine Tr.va rfl (fun _ _ h1 h2 => run_fieldAddr fo_25_1 (h1.ev rfl)) ?_
  refine Tr.va rfl (fun _ _ h1 h2 => run_load1 ag_22 (h1.ev rfl) (rdb h2 (vs := [(.int .i64 p0.Unit), (.slice Ap0_0 (p0.Tools).length cp0_0), (.slice Ap0_1 (p0.Steps).length cp0_1)]) (k := 1) rfl 1) rfl) ?_
  refine Tr.va rfl (fun _ _ h1 h2 => run_len un_22 (h1.ev rfl)) ?_
  refine Tr.va rfl (fun _ _ h1 h2 => run_lss (h1.ev rfl) (h1.ev rfl)) ?_
  refine Tr.nil (Tr.normThen ?_)
  refine Tr.cond rfl H (fun H => ?_) (fun H => ?_)
  ·refine Tr.skip (Tr.normThen ?_)
   refine Tr.seq ?_
   refine Tr.block ?_
   refine Tr.sr ?_
   refine Tr.mv rfl rfl ?_
   refine Tr.va rfl (fun _ _ h1 h2 => run_fieldAddr fo_25_1 (h1.ev rfl)) ?_
   refine Tr.va rfl (fun _ _ h1 h2 => run_load1 ag_22 (h1.ev rfl) (rdb h2 (vs := [(.int .i64 p0.Unit), (.slice Ap0_0 (p0.Tools).length cp0_0), (.slice Ap0_1 (p0.Steps).length cp0_1)]) (k := 1) rfl 1) rfl) ?_
   refine Tr.mv rfl rfl ?_
   obtain ⟨x193, hx193, H⟩ := bnd H
   obtain ⟨hx1930, hx1931, hx1932⟩ := idx_some hx193
   obtain ⟨u194, hRu194, hoku194, hcu194⟩ := (hp0_0).el hx1932
   obtain ⟨Au194_0, cu194_0⟩ := u194
   have hoku194_0 := hoku194
   replace hoku194_0 : Sl w.R w.W fl_TRect Au194_0 cu194_0 x193.Rects := hoku194_0
   refine Tr.va rfl (fun _ _ h1 h2 => run_indexAddr el_22 (h1.ev rfl) hp0_0.form (h1.ev rfl) hx1930 hx1931) ?_
   refine Tr.va rfl (fun _ _ h1 h2 => run_fieldAddr fo_55_0 (h1.ev rfl)) ?_
   refine Tr.va rfl (fun _ _ h1 h2 => run_load1 ag_9 (h1.ev rfl) (CellsAt.drop (rdR hRu194 hcu194 h2) 0) rfl) ?_
   obtain ⟨t195, ht195, H⟩ := bnd H
   refine Tr.va rfl (fun _ _ h1 h2 => run_catS (h1.ev rfl) (h1.ev rfl) ht195) ?_
   obtain ⟨t196, ht196, H⟩ := bnd H
   refine Tr.va rfl (fun _ _ h1 h2 => run_catS (h1.ev rfl) (h1.ev rfl) ht196) ?_
   refine Tr.asg rfl rfl ?_
   refine Tr.nil (Tr.normThen ?_)
   refine Tr.seq ?_
   refine Tr.sr ?_
   refine Tr.asg rfl rfl ?_
   refine Tr.nil (Tr.normThen ?_)
   refine Tr.block ?_
   refine Tr.loop (σ := ByteArray × Int) (fun m w s => F_etchhouseref3_Text_L4 N p0 x192 (F_etchhouseref3_Text_L3 N p0 mF_etchhouseref3_Text_L3) m s.1 s.2 = some r) (fun s => [(1, (.pointer (some ⟨b100, 0, none⟩))), (5, (.string s.1)), (6, (.int .i64 x192)), (7, (.int .i64 s.2))]) (fun s => [(1, bx b100 #[(.int .i64 p0.Unit), (.slice Ap0_0 (p0.Tools).length cp0_0), (.slice Ap0_1 (p0.Steps).length cp0_1)] 25)]) N (t196, 0) H (.cons rfl (.cons rfl (.cons rfl (.cons rfl .nil)))) (.cons rfl .nil) (fun _ _ h => noSome (h)) ?_
   intro w leF_etchhouseref3_Text_L4 mF_etchhouseref3_Text_L4 s hs
   obtain ⟨x221, x222⟩ := s
   have H := hs
   replace H : F_etchhouseref3_Text_L4 N p0 x192 (F_etchhouseref3_Text_L3 N p0 mF_etchhouseref3_Text_L3) (mF_etchhouseref3_Text_L4 + 1) x221 x222 = some r := H
   replace hT := hT.ext leF_etchhouseref3_Text_L4.ext
   replace hp0_0 := hp0_0.leR leF_etchhouseref3_Text_L4
   replace hp0_1 := hp0_1.leR leF_etchhouseref3_Text_L4
   replace leB := leB.trans leF_etchhouseref3_Text_L4
   replace leF_etchhouseref3_Text_L3 := leF_etchhouseref3_Text_L3.trans leF_etchhouseref3_Text_L4
   rw [F_etchhouseref3_Text_L4.eq_2] at H
   show Tr _ _ (LF [(1, (.pointer (some ⟨b100, 0, none⟩))), (5, (.string x221)), (6, (.int .i64 x192)), (7, (.int .i64 x222))]) (LE [(1, bx b100 #[(.int .i64 p0.Unit), (.slice Ap0_0 (p0.Tools).length cp0_0), (.slice Ap0_1 (p0.Steps).length cp0_1)] 25)]) _
   refine Tr.seq ?_
   refine Tr.sr ?_
   refine Tr.mv rfl rfl ?_
   refine Tr.va rfl (fun _ _ h1 h2 => run_fieldAddr fo_25_1 (h1.ev rfl)) ?_
   refine Tr.va rfl (fun _ _ h1 h2 => run_load1 ag_22 (h1.ev rfl) (rdb h2 (vs := [(.int .i64 p0.Unit), (.slice Ap0_0 (p0.Tools).length cp0_0), (.slice Ap0_1 (p0.Steps).length cp0_1)]) (k := 1) rfl 1) rfl) ?_
   refine Tr.mv rfl rfl ?_
   obtain ⟨x223, hx223, H⟩ := bnd H
   obtain ⟨hx2230, hx2231, hx2232⟩ := idx_some hx223
   obtain ⟨u224, hRu224, hoku224, hcu224⟩ := (hp0_0).el hx2232
   obtain ⟨Au224_0, cu224_0⟩ := u224
   have hoku224_0 := hoku224
   replace hoku224_0 : Sl w.R w.W fl_TRect Au224_0 cu224_0 x223.Rects := hoku224_0
   refine Tr.va rfl (fun _ _ h1 h2 => run_indexAddr el_22 (h1.ev rfl) hp0_0.form (h1.ev rfl) hx2230 hx2231) ?_
   refine Tr.va rfl (fun _ _ h1 h2 => run_fieldAddr fo_55_1 (h1.ev rfl)) ?_
   refine Tr.va rfl (fun _ _ h1 h2 => run_load1 ag_53 (h1.ev rfl) (CellsAt.drop (rdR hRu224 hcu224 h2) 1) rfl) ?_
   refine Tr.va rfl (fun _ _ h1 h2 => run_len un_53 (h1.ev rfl)) ?_
   refine Tr.va rfl (fun _ _ h1 h2 => run_lss (h1.ev rfl) (h1.ev rfl)) ?_
   refine Tr.nil (Tr.normThen ?_)
   refine Tr.cond rfl H (fun H => ?_) (fun H => ?_)
   ·refine Tr.skip (Tr.normThen ?_)
    refine Tr.seq ?_
    refine Tr.block ?_
    refine Tr.sr ?_
    refine Tr.va rfl (fun _ _ h1 h2 => run_fieldAddr fo_25_1 (h1.ev rfl)) ?_
    refine Tr.va rfl (fun _ _ h1 h2 => run_load1 ag_22 (h1.ev rfl) (rdb h2 (vs := [(.int .i64 p0.Unit), (.slice Ap0_0 (p0.Tools).length cp0_0), (.slice Ap0_1 (p0.Steps).length cp0_1)]) (k := 1) rfl 1) rfl) ?_
    refine Tr.mv rfl rfl ?_
    obtain ⟨x225, hx225, H⟩ := bnd H
    obtain ⟨hx2250, hx2251, hx2252⟩ := idx_some hx225
    obtain ⟨u226, hRu226, hoku226, hcu226⟩ := (hp0_0).el hx2252
    obtain ⟨Au226_0, cu226_0⟩ := u226
    have hoku226_0 := hoku226
    replace hoku226_0 : Sl w.R w.W fl_TRect Au226_0 cu226_0 x225.Rects := hoku226_0
    refine Tr.va rfl (fun _ _ h1 h2 => run_indexAddr el_22 (h1.ev rfl) hp0_0.form (h1.ev rfl) hx2250 hx2251) ?_
    refine Tr.va rfl (fun _ _ h1 h2 => run_fieldAddr fo_55_1 (h1.ev rfl)) ?_
    refine Tr.va rfl (fun _ _ h1 h2 => run_load1 ag_53 (h1.ev rfl) (CellsAt.drop (rdR hRu226 hcu226 h2) 1) rfl) ?_
    refine Tr.mv rfl rfl ?_
    obtain ⟨x227, hx227, H⟩ := bnd H
    obtain ⟨hx2270, hx2271, hx2272⟩ := idx_some hx227
    refine Tr.va rfl (fun _ _ h1 h2 => run_indexAddr el_53 (h1.ev rfl) hoku226_0.form (h1.ev rfl) hx2270 hx2271) ?_
    refine Tr.va rfl (fun _ _ h1 h2 => run_loadN (cs := [(.int .i64 x227.X0), (.int .i64 x227.Y0), (.int .i64 x227.X1), (.int .i64 x227.Y1)]) ag_57 sz_57 (h1.ev rfl) (CellsAt.take (rdF ef_TRect hoku226_0 hx2272 h2) 4) rfl) ?_
    refine Tr.alloc 18 (wn rfl) rfl ze_57 fun b228 => ?_
    refine Tr.store 18 (cs := [(.int .i64 x227.X0), (.int .i64 x227.Y0), (.int .i64 x227.X1), (.int .i64 x227.Y1)]) [(.int .i64 x227.X0), (.int .i64 x227.Y0), (.int .i64 x227.X1), (.int .i64 x227.Y1)] (wn rfl) rfl rfl rfl rfl sz_57 rfl rfl rfl ?_
    refine Tr.nil (Tr.normThen ?_)
    refine Tr.region ?_
    refine Tr.mv rfl rfl ?_
    refine Tr.va rfl (fun _ _ h1 h2 => run_fieldAddr fo_57_0 (h1.ev rfl)) ?_
    refine Tr.va rfl (fun _ _ h1 h2 => run_load1 ag_3 (h1.ev rfl) (rdb h2 (vs := [(.int .i64 x227.X0), (.int .i64 x227.Y0), (.int .i64 x227.X1), (.int .i64 x227.Y1)]) (k := 18) rfl 0) rfl) ?_
    refine Tr.va rfl (fun _ _ h1 h2 => run_fieldAddr fo_57_1 (h1.ev rfl)) ?_
    refine Tr.va rfl (fun _ _ h1 h2 => run_load1 ag_3 (h1.ev rfl) (rdb h2 (vs := [(.int .i64 x227.X0), (.int .i64 x227.Y0), (.int .i64 x227.X1), (.int .i64 x227.Y1)]) (k := 18) rfl 1) rfl) ?_
    refine Tr.va rfl (fun _ _ h1 h2 => run_fieldAddr fo_57_2 (h1.ev rfl)) ?_
    refine Tr.va rfl (fun _ _ h1 h2 => run_load1 ag_3 (h1.ev rfl) (rdb h2 (vs := [(.int .i64 x227.X0), (.int .i64 x227.Y0), (.int .i64 x227.X1), (.int .i64 x227.Y1)]) (k := 18) rfl 2) rfl) ?_
    refine Tr.va rfl (fun _ _ h1 h2 => run_fieldAddr fo_57_3 (h1.ev rfl)) ?_
    refine Tr.va rfl (fun _ _ h1 h2 => run_load1 ag_3 (h1.ev rfl) (rdb h2 (vs := [(.int .i64 x227.X0), (.int .i64 x227.Y0), (.int .i64 x227.X1), (.int .i64 x227.Y1)]) (k := 18) rfl 3) rfl) ?_
    refine Tr.buildSlice 19 (e := 3) (vs := [(0, (.int .i64 x227.X0)), (1, (.int .i64 x227.Y0)), (2, (.int .i64 x227.X1)), (3, (.int .i64 x227.Y1))]) (cs := [(.int .i64 x227.X0), (.int .i64 x227.Y0), (.int .i64 x227.X1), (.int .i64 x227.Y1)]) (wn rfl) rfl (evs_cons rfl (evs_cons rfl (evs_cons rfl (evs_cons rfl evs_nil)))) (by kernel_rfl) fun b229 => ?_
    refine Tr.own 19 fl_i64 [x227.X0, x227.Y0, x227.X1, x227.Y1] (css := [[(.int .i64 x227.X0)], [(.int .i64 x227.Y0)], [(.int .i64 x227.X1)], [(.int .i64 x227.Y1)]]) rfl (.cons ⟨(), trivial, rfl⟩ (.cons ⟨(), trivial, rfl⟩ (.cons ⟨(), trivial, rfl⟩ (.cons ⟨(), trivial, rfl⟩ .nil)))) rfl (by decide) (lit_max rfl) ?_
    obtain ⟨y230, hy230, H⟩ := bnd H
    refine Tr.call0 (r := (.string y230)) (wn rfl) rfl Tryd.call24 (evl_cons rfl evl_nil) (fun W hW => F_etchhouseref3_numbers_ok N (hT.ext hW.extAll) [x227.X0, x227.Y0, x227.X1, x227.Y1] (some ⟨b229, 0, none⟩) 4 (hW.slCall (k := 19) rfl) y230 hy230 (HF.start _)) ?_
    obtain ⟨t231, ht231, H⟩ := bnd H
    refine Tr.va rfl (fun _ _ h1 h2 => run_catS (h1.ev rfl) (h1.ev rfl) ht231) ?_
    refine Tr.asg rfl rfl ?_
    refine Tr.nil (Tr.normBlock (Tr.normThen ?_))
    refine Tr.region ?_
    refine Tr.mv rfl rfl ?_
    refine Tr.va rfl (fun _ _ h1 h2 => run_add (h1.ev rfl) (h1.ev rfl)) ?_
    refine Tr.asg rfl rfl ?_
    refine Tr.nil ?_
    exact Tr.backThen leF_etchhouseref3_Text_L4 (t231, (w64 (x222 + 1))) H (.cons rfl (.cons rfl (.cons rfl (.cons rfl .nil)))) (.cons rfl .nil)
   ·refine Tr.exit (Tr.exitThen (Tr.exitThen (Tr.exitBlock (Tr.normThen ?_))))
    refine Tr.region ?_
    refine Tr.mv rfl rfl ?_
    obtain ⟨t232, ht232, H⟩ := bnd H
    refine Tr.va rfl (fun _ _ h1 h2 => run_catS (h1.ev rfl) (h1.ev rfl) ht232) ?_
    refine Tr.asg rfl rfl ?_
    refine Tr.nil (Tr.normBlock (Tr.normThen ?_))
    refine Tr.region ?_
    refine Tr.mv rfl rfl ?_
    refine Tr.va rfl (fun _ _ h1 h2 => run_add (h1.ev rfl) (h1.ev rfl)) ?_
    refine Tr.asg rfl rfl ?_
    refine Tr.nil ?_
    exact Tr.backThen leF_etchhouseref3_Text_L3 (t232, (w64 (x192 + 1))) H (.cons rfl (.cons rfl (.cons rfl .nil))) (.cons rfl .nil)
  ·refine Tr.exit (Tr.exitThen (Tr.exitThen (Tr.exitBlock (Tr.normThen ?_))))
   refine Tr.sr ?_
   refine Tr.mv rfl rfl ?_
   refine Tr.va rfl (fun _ _ h1 h2 => run_fieldAddr fo_25_2 (h1.ev rfl)) ?_
   refine Tr.va rfl (fun _ _ h1 h2 => run_load1 ag_23 (h1.ev rfl) (rdb h2 (vs := [(.int .i64 p0.Unit), (.slice Ap0_0 (p0.Tools).length cp0_0), (.slice Ap0_1 (p0.Steps).length cp0_1)]) (k := 1) rfl 2) rfl) ?_
   obtain ⟨y233, hy233, H⟩ := bnd H
   refine Tr.call0 (r := (.string y233)) (wn rfl) rfl Tryd.call25 (evl_cons rfl evl_nil) (fun W hW => F_etchhouseref3_stepText_ok N (hT.ext hW.extAll) p0.Steps Ap0_1 cp0_1 (hp0_1.ext hW.extAll) y233 hy233 (HF.start _)) ?_
   obtain ⟨t234, ht234, H⟩ := bnd H
   refine Tr.va rfl (fun _ _ h1 h2 => run_catS (h1.ev rfl) (h1.ev rfl) ht234) ?_
   refine Tr.asg rfl rfl ?_
   refine Tr.nil (Tr.normThen ?_)
   refine Tr.seq ?_
   refine Tr.sr ?_
   refine Tr.mv rfl rfl ?_
   refine Tr.va rfl (fun _ _ h1 h2 => run_lenS un_9 (h1.ev rfl)) ?_
   refine Tr.va rfl (fun _ _ h1 h2 => run_gtr (h1.ev rfl) (h1.ev rfl)) ?_
   refine Tr.nil (Tr.normThen ?_)
   refine Tr.cond rfl H (fun H => ?_) (fun H => ?_)
   ·refine Tr.sr ?_
    refine Tr.asg rfl rfl ?_
    refine Tr.asg rfl rfl ?_
    refine Tr.nil (Tr.normThen ?_)
    refine Tr.ret (Tr.retThen ?_)
    obtain rfl := Option.some.inj H
    exact Tr.out (m := [(.string ByteArray.empty), (.int .i64 2)]) [] (res_tmp rfl (res_tmp rfl res_nil)) (fun W hW => ⟨rfl, hW.low leB⟩)
   ·refine Tr.skip (Tr.normThen ?_)
    refine Tr.sr ?_
    refine Tr.mv rfl rfl ?_
    refine Tr.asg rfl rfl ?_
    refine Tr.asg rfl rfl ?_
    refine Tr.nil (Tr.normThen ?_)
    refine Tr.ret ?_
    obtain rfl := Option.some.inj H
    exact Tr.out (m := [(.string t234), (.int .i64 0)]) [] (res_tmp rfl (res_tmp rfl res_nil)) (fun W hW => ⟨rfl, hW.low leB⟩)

theorem F_etchhouselaw3_awake_ok (N : Nat) {w : Bs} (hT : Tab Tryd.prog w) (r : Bool) (H : F_etchhouselaw3_awake N = some r) (hE : HF w w.W E0) : Calls Tryd.prog 10 [].toArray w.W fun e W' => e = .returned (.bool r) ∧ HF w W' E0 := by
 unfold F_etchhouselaw3_awake at H
 have leB := Bs.Le.refl w
 refine Tr.enter (n := 14) Tryd.func10 rfl rfl rfl hE ?_
 refine Tr.sr ?_
 refine Tr.asg rfl rfl ?_
 refine Tr.nil (Tr.normThen ?_)
 refine Tr.sr ?_
 refine Tr.build (vs := [(0, (.int .i64 7))]) (cs := [(.int .i64 7), (.slice none 0 0), (.slice none 0 0)]) (wn rfl) rfl (evs_cons rfl evs_nil) (by kernel_rfl) ?_
 obtain ⟨y100, hy100, H⟩ := bnd H
 refine Tr.call0 (r := (.tuple #[(.string y100.1), (.int .i64 y100.2)])) (wn rfl) rfl Tryd.call6 (evl_cons rfl evl_nil) (fun W hW => F_plot_Text_ok N (hT.ext hW.extAll) (TPlot.mk 7 [] []) none 0 (Sl.nil _ _ _) none 0 (Sl.nil _ _ _) y100 hy100 (HF.start _)) ?_
 refine Tr.mv rfl rfl ?_
 refine Tr.va rfl (fun _ _ h1 h2 => run_extract (h1.ev rfl) rfl) ?_
 refine Tr.va rfl (fun _ _ h1 h2 => run_extract (h1.ev rfl) rfl) ?_
 refine Tr.asg rfl rfl ?_
 refine Tr.asg rfl rfl ?_
 refine Tr.nil (Tr.normThen ?_)
 refine Tr.sr ?_
 refine Tr.mv rfl rfl ?_
 refine Tr.va rfl (fun _ _ h1 h2 => run_eql (h1.ev rfl) (h1.ev rfl)) ?_
 refine Tr.mv rfl rfl ?_
 refine Tr.mid0 3 [(13, (.bool ((y100.2 == 0) && (sEq y100.1 (⟨#[117, 110, 105, 116, 32, 55, 10]⟩)))))] [] ?_ ?_
 ·cases hg100 : (y100.2 == 0)
  ·refine Tr.pass rfl rfl rfl rfl rfl (by decide) ?_
   refine Tr.pass rfl rfl rfl rfl rfl (by decide) ?_
   refine Tr.va rfl (fun _ _ h1 h2 => run_pickF (h1.ev rfl) (h1.ev rfl)) ?_
   exact Tr.nil (Tr.fin0 (.cons rfl .nil) .nil)
  ·refine Tr.val (wg rfl rfl rfl) rfl (fun _ _ h1 h2 => run_move (h1.ev rfl)) ?_
   refine Tr.val (wg rfl rfl rfl) rfl (fun _ _ h1 h2 => run_eqlS (h1.ev rfl) (h1.ev rfl)) ?_
   refine Tr.va rfl (fun _ _ h1 h2 => run_pickT (h1.ev rfl) (h1.ev rfl)) ?_
   exact Tr.nil (Tr.fin0 (.cons rfl .nil) .nil)
 ·show Tr _ _ (LF [(13, (.bool ((y100.2 == 0) && (sEq y100.1 (⟨#[117, 110, 105, 116, 32, 55, 10]⟩)))))]) (LE []) _
  refine Tr.asg rfl rfl ?_
  refine Tr.nil (Tr.normThen ?_)
  refine Tr.ret ?_
  obtain rfl := Option.some.inj H
  exact Tr.out (m := [(.bool ((y100.2 == 0) && (sEq y100.1 (⟨#[117, 110, 105, 116, 32, 55, 10]⟩))))]) [] (res_tmp rfl res_nil) (fun W hW => ⟨rfl, hW.low leB⟩)

end Go.Proofs.YtocjndhpgjccoaaDoor
