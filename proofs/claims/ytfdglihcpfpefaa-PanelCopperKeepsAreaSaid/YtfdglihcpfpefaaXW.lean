/- The walks: each function computes its plain function. -/
import Derived.Test.YtfdglihcpfpefaaXWb
namespace Go.Proofs.Ytfdglihcpfpefaa
open Go.RowKit
set_option maxRecDepth 100000
set_option maxHeartbeats 1000000
theorem F_shape_Set__Less_1_ok {w : Bs} (p0 : Bool) (p1 : Bool) (r : Bool) (H : F_shape_Set__Less_1 p0 p1 = some r) (hE : HF w w.W E0) : Calls Try.prog 52 [(.bool p0), (.bool p1)].toArray w.W fun e W' => e = .returned (.bool r) ∧ HF w W' E0 := by
  unfold F_shape_Set__Less_1 at H
  have leB := Bs.Le.refl w
  refine Tr.enter (n := 10) Try.func52 rfl rfl rfl hE ?_
  refine Tr.seq ?_
  refine Tr.region ?_
  refine Tr.val (wn rfl) rfl (fun _ _ h1 h2 => run_assign (h1.ev rfl)) ?_
  refine Tr.nil (Tr.normThen ?_)
  refine Tr.seq ?_
  refine Tr.region ?_
  refine Tr.val (wn rfl) rfl (fun _ _ h1 h2 => run_move (h1.ev rfl)) ?_
  refine Tr.val (wn rfl) rfl (fun _ _ h1 h2 => run_move (h1.ev rfl)) ?_
  refine Tr.mid0 3 [(9, (.bool (p0 && (!p1))))] [] ?_ ?_
  · cases hg99 : p0
    · refine Tr.pass rfl rfl rfl rfl rfl (by decide) ?_
      refine Tr.pass rfl rfl rfl rfl rfl (by decide) ?_
      refine Tr.val (wn rfl) rfl (fun _ _ h1 h2 => run_pickF (h1.ev rfl) (h1.ev rfl)) ?_
      exact Tr.nil (Tr.fin0 (.cons rfl .nil) .nil)
    · refine Tr.val (wg rfl rfl rfl) rfl (fun _ _ h1 h2 => run_move (h1.ev rfl)) ?_
      refine Tr.val (wg rfl rfl rfl) rfl (fun _ _ h1 h2 => run_not (h1.ev rfl)) ?_
      refine Tr.val (wn rfl) rfl (fun _ _ h1 h2 => run_pickT (h1.ev rfl) (h1.ev rfl)) ?_
      exact Tr.nil (Tr.fin0 (.cons rfl .nil) .nil)
  · show Tr _ _ (LF [(9, (.bool (p0 && (!p1))))]) (LE []) _
    refine Tr.val (wn rfl) rfl (fun _ _ h1 h2 => run_assign (h1.ev rfl)) ?_
    refine Tr.nil (Tr.normThen ?_)
    refine Tr.ret ?_
    obtain rfl := Option.some.inj H
    exact Tr.out (m := [(.bool (p0 && (!p1)))]) [] (res_tmp rfl res_nil) (fun W hW => ⟨rfl, hW.low leB⟩)

theorem F_shape_Set__Less_ok (N : Nat) {w : Bs} (p0 : (List TBand)) (Ap0_0 : Option Addr) (cp0_0 : Nat) (hp0_0 : Sl w.O w.W fl_TBand Ap0_0 cp0_0 p0) (p1 : (List TBand)) (Ap1_0 : Option Addr) (cp1_0 : Nat) (hp1_0 : Sl w.O w.W fl_TBand Ap1_0 cp1_0 p1) (r : (List TBand)) (H : F_shape_Set__Less N p0 p1 = some r) (hE : HF w w.W (LEn [emp])) : Calls Try.prog 32 [(.slice Ap0_0 (p0).length cp0_0), (.slice Ap1_0 (p1).length cp1_0)].toArray w.W fun e W' => ∃ (w' : Bs) (u : (Option Addr × Nat)), w.Le w' ∧ e = .returned (.slice u.1 (r).length u.2) ∧ (SlF u.1 (r).length u.2) ∧ HF w' W' (LEn [ow u.1 u.2 76 fl_TBand r]) := by
  unfold F_shape_Set__Less at H
  have leB := Bs.Le.refl w
  refine Tr.enter (n := 8) Try.func32 rfl rfl rfl hE ?_
  refine Tr.seq ?_
  refine Tr.region ?_
  refine Tr.val (wn rfl) rfl (fun _ _ h1 h2 => run_assign (h1.ev rfl)) ?_
  refine Tr.nilOwn 1 76 fl_TBand ?_
  show Tr _ _ (uf _ 4 (.slice none (([] : List TBand)).length 0)) _ _
  refine Tr.nil (Tr.normThen ?_)
  refine Tr.seq ?_
  refine Tr.region ?_
  refine Tr.val (wn rfl) rfl (fun _ _ h1 h2 => run_move (h1.ev rfl)) ?_
  refine Tr.val (wn rfl) rfl (fun _ _ h1 h2 => run_move (h1.ev rfl)) ?_
  obtain ⟨y100, hy100, H⟩ := bnd H
  refine Tr.callG [2] [emp] (U := (Option Addr × Nat)) (fun u => (.slice u.1 (y100).length u.2)) (fun O W u => SlF u.1 (y100).length u.2) (fun u => [ow u.1 u.2 76 fl_TBand y100]) rfl (pk_cons rfl pk_nil) (fun _ => rfl) (wn rfl) rfl Try.call51 (evl_cons rfl (evl_cons rfl (evl_cons rfl evl_nil))) (fun W hW hp hE => F_shape_Merge_ok N p0 Ap0_0 cp0_0 (hp0_0.extO (hW.extS hp)) p1 Ap1_0 cp1_0 (hp1_0.extO (hW.extS hp)) (fun z0 z1 => F_shape_Set__Less_1 z0 z1) 52 [] Try.call52 (fun w' he z0 z1 y hy => F_shape_Set__Less_1_ok z0 z1 y hy (HF.start _)) y100 hy100 hE) ?_
  intro w u le101 hu
  obtain ⟨Ay100_0, cy100_0⟩ := u
  have gy100_0 := hu
  replace hp0_0 := hp0_0.le le101
  replace hp1_0 := hp1_0.le le101
  replace leB := leB.trans le101
  have hgy100_0 : SlF Ay100_0 (y100).length cy100_0 := gy100_0 --@phi
  show Tr _ _ (uf _ 7 (.slice Ay100_0 (y100).length cy100_0)) (up _ 2 (ow Ay100_0 cy100_0 76 fl_TBand y100)) _
  refine Tr.val (wn rfl) rfl (fun _ _ h1 h2 => run_assign (h1.ev rfl)) ?_
  refine Tr.nil (Tr.normThen ?_)
  refine Tr.ret ?_
  obtain rfl := Option.some.inj H
  exact Tr.out (m := [(.slice Ay100_0 (y100).length cy100_0)]) [] (res_tmp rfl res_nil) (fun W hW => ⟨w, (Ay100_0, cy100_0), leB, rfl, hgy100_0, hW.pick (ks := [2]) (by decide) (pk_cons rfl pk_nil)⟩)

theorem F_shape_Set__In_ok (N : Nat) {w : Bs} (p0 : (List TBand)) (Ap0_0 : Option Addr) (cp0_0 : Nat) (hp0_0 : Sl w.O w.W fl_TBand Ap0_0 cp0_0 p0) (p1 : (List TBand)) (Ap1_0 : Option Addr) (cp1_0 : Nat) (hp1_0 : Sl w.O w.W fl_TBand Ap1_0 cp1_0 p1) (r : Bool) (H : F_shape_Set__In N p0 p1 = some r) (hE : HF w w.W E0) : Calls Try.prog 11 [(.slice Ap0_0 (p0).length cp0_0), (.slice Ap1_0 (p1).length cp1_0)].toArray w.W fun e W' => e = .returned (.bool r) ∧ HF w W' E0 := by
  unfold F_shape_Set__In at H
  have leB := Bs.Le.refl w
  refine Tr.enter (n := 10) Try.func11 rfl rfl rfl hE ?_
  refine Tr.seq ?_
  refine Tr.region ?_
  refine Tr.val (wn rfl) rfl (fun _ _ h1 h2 => run_assign (h1.ev rfl)) ?_
  refine Tr.nil (Tr.normThen ?_)
  refine Tr.seq ?_
  refine Tr.region ?_
  refine Tr.val (wn rfl) rfl (fun _ _ h1 h2 => run_move (h1.ev rfl)) ?_
  refine Tr.val (wn rfl) rfl (fun _ _ h1 h2 => run_move (h1.ev rfl)) ?_
  obtain ⟨y100, hy100, H⟩ := bnd H
  refine Tr.callG [1] [emp] (U := (Option Addr × Nat)) (fun u => (.slice u.1 (y100).length u.2)) (fun O W u => SlF u.1 (y100).length u.2) (fun u => [ow u.1 u.2 76 fl_TBand y100]) rfl (pk_cons rfl pk_nil) (fun _ => rfl) (wn rfl) rfl Try.call32 (evl_cons rfl (evl_cons rfl evl_nil)) (fun W hW hp hE => F_shape_Set__Less_ok N p0 Ap0_0 cp0_0 (hp0_0.extO (hW.extS hp)) p1 Ap1_0 cp1_0 (hp1_0.extO (hW.extS hp)) y100 hy100 hE) ?_
  intro w u le101 hu
  obtain ⟨Ay100_0, cy100_0⟩ := u
  have gy100_0 := hu
  replace hp0_0 := hp0_0.le le101
  replace hp1_0 := hp1_0.le le101
  replace leB := leB.trans le101
  have hgy100_0 : SlF Ay100_0 (y100).length cy100_0 := gy100_0 --@phi
  show Tr _ _ (uf _ 7 (.slice Ay100_0 (y100).length cy100_0)) (up _ 1 (ow Ay100_0 cy100_0 76 fl_TBand y100)) _
  refine Tr.val (wn rfl) rfl (fun _ _ h1 h2 => run_len un_43 (h1.ev rfl)) ?_
  refine Tr.val (wn rfl) rfl (fun _ _ h1 h2 => run_eql (h1.ev rfl) (h1.ev rfl)) ?_
  refine Tr.val (wn rfl) rfl (fun _ _ h1 h2 => run_assign (h1.ev rfl)) ?_
  refine Tr.nil (Tr.normThen ?_)
  refine Tr.ret ?_
  obtain rfl := Option.some.inj H
  exact Tr.out (m := [(.bool ((y100.length : Int) == 0))]) [] (res_tmp rfl res_nil) (fun W hW => ⟨rfl, hW.low leB⟩)

theorem F_panel_turnOf_ok {w : Bs} (p0 : TPanel) (Ap0_0 : Option Addr) (cp0_0 : Nat) (hp0_0 : Sl w.R w.W fl_TBoardKind Ap0_0 cp0_0 p0.Kinds) (Ap0_1 : Option Addr) (cp0_1 : Nat) (hp0_1 : Sl w.R w.W fl_TSlot Ap0_1 cp0_1 p0.Slots) (Ap0_2 : Option Addr) (cp0_2 : Nat) (hp0_2 : Sl w.R w.W fl_TPoint Ap0_2 cp0_2 p0.Marks) (p1 : TSlot) (r : TTurn) (H : F_panel_turnOf p0 p1 = some r) (hE : HF w w.W E0) : Calls Try.prog 12 [(.agg #[(.int .i64 p0.W), (.int .i64 p0.H), (.int .i64 p0.Rail), (.int .i64 p0.Gap), (.slice Ap0_0 (p0.Kinds).length cp0_0), (.slice Ap0_1 (p0.Slots).length cp0_1), (.slice Ap0_2 (p0.Marks).length cp0_2)]), (.agg #[(.string p1.Board), (.int .i64 p1.Quarters), (.int .i64 p1.At.X), (.int .i64 p1.At.Y)])].toArray w.W fun e W' => e = .returned (.agg #[(.bool r.Flip), (.int .i64 r.Quarters), (.int .i64 r.At.X), (.int .i64 r.At.Y)]) ∧ HF w W' E0 := by
  unfold F_panel_turnOf at H
  have leB := Bs.Le.refl w
  refine Tr.enter (n := 53) Try.func12 rfl rfl rfl hE ?_
  refine Tr.seq ?_
  refine Tr.region ?_
  refine Tr.box 1 (cs := [(.int .i64 p0.W), (.int .i64 p0.H), (.int .i64 p0.Rail), (.int .i64 p0.Gap), (.slice Ap0_0 (p0.Kinds).length cp0_0), (.slice Ap0_1 (p0.Slots).length cp0_1), (.slice Ap0_2 (p0.Marks).length cp0_2)]) (wn rfl) rfl rfl rfl fun b100 => ?_
  refine Tr.box 2 (cs := [(.string p1.Board), (.int .i64 p1.Quarters), (.int .i64 p1.At.X), (.int .i64 p1.At.Y)]) (wn rfl) rfl rfl rfl fun b101 => ?_
  refine Tr.alloc 3 (wn rfl) rfl ze_51 fun b102 => ?_
  refine Tr.nil (Tr.normThen ?_)
  refine Tr.seq ?_
  obtain ⟨y104, hy104, H⟩ := bnd H
  obtain ⟨x105, hx105, H⟩ := bnd H
  obtain ⟨hx1050, hx1051, hx1052⟩ := idx_some hx105
  refine Tr.drawF 9 [(8, .makeFunc (.func 0) #[] #[])] [(8, ⟨5, 4, (.func (.func 0) #[] #[]), fun b => .pointer (some ⟨b, 0, none⟩), fun b => bx b #[(.string ⟨#[]⟩), (.int .i64 0), (.int .i64 0)] 47⟩)] [(0, (.agg #[(.int .i64 p0.W), (.int .i64 p0.H), (.int .i64 p0.Rail), (.int .i64 p0.Gap), (.slice Ap0_0 (p0.Kinds).length cp0_0), (.slice Ap0_1 (p0.Slots).length cp0_1), (.slice Ap0_2 (p0.Marks).length cp0_2)])), (1, (.agg #[(.string p1.Board), (.int .i64 p1.Quarters), (.int .i64 p1.At.X), (.int .i64 p1.At.Y)])), (2, (.pointer (some ⟨b100, 0, none⟩))), (3, (.pointer (some ⟨b101, 0, none⟩))), (4, (.pointer (some ⟨b102, 0, none⟩))), (5, (.func (.func 0) #[] #[])), (7, (.pointer (some ⟨b100, 4, none⟩))), (8, (.slice Ap0_0 (p0.Kinds).length cp0_0)), (9, (.agg #[(.int .i64 p0.W), (.int .i64 p0.H), (.int .i64 p0.Rail), (.int .i64 p0.Gap), (.slice Ap0_0 (p0.Kinds).length cp0_0), (.slice Ap0_1 (p0.Slots).length cp0_1), (.slice Ap0_2 (p0.Marks).length cp0_2)])), (10, (.pointer (some ⟨b101, 0, none⟩))), (11, (.string p1.Board)), (12, (.int .i64 y104)), (13, (.pointer (some ⟨adB Ap0_0, adO Ap0_0 + (y104).toNat * 3, none⟩))), (14, (.agg #[(.string x105.Name), (.int .i64 x105.W), (.int .i64 x105.H)]))] (by kernel_rfl) (by kernel_rfl) (by kernel_rfl) (by kernel_rfl) (by kernel_rfl) (by kernel_rfl) (by kernel_rfl) (fall_cons (fr_alloc rfl rfl ze_47) fall_nil) (fall_cons rfl fall_nil) (fall_cons rfl fall_nil) ?_ ?_
  · refine Tq.val (wn rfl) rfl (fun _ _ h1 h2 => run_fieldAddr fo_26_4 (h1.ev rfl)) ?_
    refine Tq.val (wn rfl) rfl (fun _ _ h1 h2 => run_load1 ag_22 (h1.ev rfl) (rdb h2 (vs := [(.int .i64 p0.W), (.int .i64 p0.H), (.int .i64 p0.Rail), (.int .i64 p0.Gap), (.slice Ap0_0 (p0.Kinds).length cp0_0), (.slice Ap0_1 (p0.Slots).length cp0_1), (.slice Ap0_2 (p0.Marks).length cp0_2)]) (k := 1) rfl 4) rfl) ?_
    refine Tq.val (wn rfl) rfl (fun _ _ h1 h2 => run_loadN (cs := [(.int .i64 p0.W), (.int .i64 p0.H), (.int .i64 p0.Rail), (.int .i64 p0.Gap), (.slice Ap0_0 (p0.Kinds).length cp0_0), (.slice Ap0_1 (p0.Slots).length cp0_1), (.slice Ap0_2 (p0.Marks).length cp0_2)]) ag_26 sz_26 (h1.ev rfl) (CellsAt.take (rdb h2 (vs := [(.int .i64 p0.W), (.int .i64 p0.H), (.int .i64 p0.Rail), (.int .i64 p0.Gap), (.slice Ap0_0 (p0.Kinds).length cp0_0), (.slice Ap0_1 (p0.Slots).length cp0_1), (.slice Ap0_2 (p0.Marks).length cp0_2)]) (k := 1) rfl 0) 7) rfl) ?_
    refine Tq.val (wn rfl) rfl (fun _ _ h1 h2 => run_fieldAddr fo_35_0 (h1.ev rfl)) ?_
    refine Tq.val (wn rfl) rfl (fun _ _ h1 h2 => run_load1 ag_9 (h1.ev rfl) (rdb h2 (vs := [(.string p1.Board), (.int .i64 p1.Quarters), (.int .i64 p1.At.X), (.int .i64 p1.At.Y)]) (k := 2) rfl 0) rfl) ?_
    refine Tq.call0 (r := (.int .i64 y104)) (wn rfl) rfl Try.call8 (evl_cons rfl (evl_cons rfl evl_nil)) (fun W hW => F_panel_kindAt_ok p0 Ap0_0 cp0_0 (hp0_0.ext hW.extAll) Ap0_1 cp0_1 (hp0_1.ext hW.extAll) Ap0_2 cp0_2 (hp0_2.ext hW.extAll) p1.Board y104 hy104 (HF.start _)) ?_
    refine Tq.val (wn rfl) rfl (fun _ _ h1 h2 => run_indexAddr el_22 (h1.ev rfl) hp0_0.form (h1.ev rfl) hx1050 hx1051) ?_
    refine Tq.val (wn rfl) rfl (fun _ _ h1 h2 => run_loadN (cs := [(.string x105.Name), (.int .i64 x105.W), (.int .i64 x105.H)]) ag_47 sz_47 (h1.ev rfl) (CellsAt.take (rdF ef_TBoardKind hp0_0 hx1052 h2) 3) rfl) ?_
    refine Tq.mkFunc (vs := []) (wn rfl) rfl evl_nil ?_
    exact Tq.fin (.cons rfl (.cons rfl (.cons rfl (.cons rfl (.cons rfl (.cons rfl (.cons rfl (.cons rfl (.cons rfl (.cons rfl (.cons rfl (.cons rfl (.cons rfl (.cons rfl .nil))))))))))))))
  · intro bs103
    refine Tr.sel (lf := [(3, (.pointer (some ⟨b101, 0, none⟩))), (4, (.pointer (some ⟨b102, 0, none⟩))), (5, (.pointer (some ⟨(bs103 8), 0, none⟩))), (14, (.agg #[(.string x105.Name), (.int .i64 x105.W), (.int .i64 x105.H)]))]) (le := [(1, bx b100 #[(.int .i64 p0.W), (.int .i64 p0.H), (.int .i64 p0.Rail), (.int .i64 p0.Gap), (.slice Ap0_0 (p0.Kinds).length cp0_0), (.slice Ap0_1 (p0.Slots).length cp0_1), (.slice Ap0_2 (p0.Marks).length cp0_2)] 26), (2, bx b101 #[(.string p1.Board), (.int .i64 p1.Quarters), (.int .i64 p1.At.X), (.int .i64 p1.At.Y)] 35), (3, bx b102 #[(.bool false), (.int .i64 0), (.int .i64 0), (.int .i64 0)] 51), (4, bx (bs103 8) #[(.string ⟨#[]⟩), (.int .i64 0), (.int .i64 0)] 47)]) (.cons rfl (.cons rfl (.cons rfl (.cons rfl .nil)))) (.cons rfl (.cons rfl (.cons rfl (.cons rfl .nil)))) ?_
    refine Tr.store 4 (cs := [(.string x105.Name), (.int .i64 x105.W), (.int .i64 x105.H)]) [(.string x105.Name), (.int .i64 x105.W), (.int .i64 x105.H)] (wn rfl) rfl rfl rfl rfl sz_47 rfl rfl rfl ?_
    refine Tr.nil (Tr.normThen ?_)
    refine Tr.seq ?_
    refine Tr.region ?_
    refine Tr.val (wn rfl) rfl (fun _ _ h1 h2 => run_fieldAddr fo_35_2 (h1.ev rfl)) ?_
    refine Tr.val (wn rfl) rfl (fun _ _ h1 h2 => run_loadN (cs := [(.int .i64 p1.At.X), (.int .i64 p1.At.Y)]) ag_33 sz_33 (h1.ev rfl) (CellsAt.take (rdb h2 (vs := [(.string p1.Board), (.int .i64 p1.Quarters), (.int .i64 p1.At.X), (.int .i64 p1.At.Y)]) (k := 2) rfl 2) 2) rfl) ?_
    refine Tr.alloc 5 (wn rfl) rfl ze_33 fun b106 => ?_
    refine Tr.store 5 (cs := [(.int .i64 p1.At.X), (.int .i64 p1.At.Y)]) [(.int .i64 p1.At.X), (.int .i64 p1.At.Y)] (wn rfl) rfl rfl rfl rfl sz_33 rfl rfl rfl ?_
    refine Tr.nil (Tr.normThen ?_)
    have leJ110 := Bs.Le.refl w
    refine Tr.cutJ (σ := Int × Int) (fun w s => F_panel_turnOf_J1 p1 s.1 s.2 = some r) (fun s => [(3, (.pointer (some ⟨b101, 0, none⟩))), (4, (.pointer (some ⟨b102, 0, none⟩))), (6, (.pointer (some ⟨b106, 0, none⟩)))]) (fun s => [(2, bx b101 #[(.string p1.Board), (.int .i64 p1.Quarters), (.int .i64 p1.At.X), (.int .i64 p1.At.Y)] 35), (3, bx b102 #[(.bool false), (.int .i64 0), (.int .i64 0), (.int .i64 0)] 51), (5, bx b106 #[(.int .i64 s.1), (.int .i64 s.2)] 33)]) ?_ ?_
    · refine Tr.seq ?_
      refine Tr.region ?_
      refine Tr.val (wn rfl) rfl (fun _ _ h1 h2 => run_fieldAddr fo_35_1 (h1.ev rfl)) ?_
      refine Tr.val (wn rfl) rfl (fun _ _ h1 h2 => run_load1 ag_3 (h1.ev rfl) (rdb h2 (vs := [(.string p1.Board), (.int .i64 p1.Quarters), (.int .i64 p1.At.X), (.int .i64 p1.At.Y)]) (k := 2) rfl 1) rfl) ?_
      refine Tr.nil (Tr.normThen ?_)
      refine Tr.block ?_
      refine Tr.seq ?_
      refine Tr.region ?_
      refine Tr.val (wn rfl) rfl (fun _ _ h1 h2 => run_eql (h1.ev rfl) (h1.ev rfl)) ?_
      refine Tr.val (wn rfl) rfl (fun _ _ h1 h2 => run_assign (h1.ev rfl)) ?_
      refine Tr.nil (Tr.normThen ?_)
      refine Tr.cond rfl H (fun H => ?_) (fun H => ?_)
      · refine Tr.region ?_
        refine Tr.val (wn rfl) rfl (fun _ _ h1 h2 => run_fieldAddr fo_33_0 (h1.ev rfl)) ?_
        refine Tr.val (wn rfl) rfl (fun _ _ h1 h2 => run_load1 ag_3 (h1.ev rfl) (rdb h2 (vs := [(.int .i64 p1.At.X), (.int .i64 p1.At.Y)]) (k := 5) rfl 0) rfl) ?_
        refine Tr.val (wn rfl) rfl (fun _ _ h1 h2 => run_fieldAddr fo_47_2 (h1.ev rfl)) ?_
        refine Tr.val (wn rfl) rfl (fun _ _ h1 h2 => run_load1 ag_3 (h1.ev rfl) (rdb h2 (vs := [(.string x105.Name), (.int .i64 x105.W), (.int .i64 x105.H)]) (k := 4) rfl 2) rfl) ?_
        refine Tr.val (wn rfl) rfl (fun _ _ h1 h2 => run_add (h1.ev rfl) (h1.ev rfl)) ?_
        refine Tr.val (wn rfl) rfl (fun _ _ h1 h2 => run_fieldAddr fo_33_0 (h1.ev rfl)) ?_
        refine Tr.store 5 (cs := [(.int .i64 (w64 (p1.At.X + x105.H)))]) [(.int .i64 (w64 (p1.At.X + x105.H))), (.int .i64 p1.At.Y)] (wn rfl) rfl rfl rfl rfl sz_3 rfl rfl rfl ?_
        refine Tr.nil (Tr.normBlock ?_)
        exact Tr.backThen leJ110 ((w64 (p1.At.X + x105.H)), p1.At.Y) H (.cons rfl (.cons rfl (.cons rfl .nil))) (.cons rfl (.cons rfl (.cons rfl .nil)))
      · refine Tr.seq ?_
        refine Tr.region ?_
        refine Tr.val (wn rfl) rfl (fun _ _ h1 h2 => run_eql (h1.ev rfl) (h1.ev rfl)) ?_
        refine Tr.val (wn rfl) rfl (fun _ _ h1 h2 => run_assign (h1.ev rfl)) ?_
        refine Tr.nil (Tr.normThen ?_)
        refine Tr.cond rfl H (fun H => ?_) (fun H => ?_)
        · refine Tr.drawC 12 [(11, fun x => x = b106)] [] (by kernel_rfl) (by kernel_rfl) fun sz112 hlosz112 hEsz112 => ?_
          refine Dr.quiet 0 [(29, (.pointer (some ⟨b106, 0, none⟩)))] (by kernel_rfl) rfl rfl (by kernel_rfl) ?_ rfl rfl ?_
          · refine Tq.val (wn rfl) rfl (fun _ _ h1 h2 => run_fieldAddr fo_33_0 (h1.ev rfl)) ?_
            exact Tq.fin (.cons rfl .nil)
          refine Dr.quiet 1 [(30, (.int .i64 p1.At.X))] (by kernel_rfl) rfl rfl (by kernel_rfl) ?_ rfl rfl ?_
          · refine Tq.val (wn rfl) rfl (fun _ _ h1 h2 => run_load1 ag_3 (h1.ev rfl) (rdb h2 (vs := [(.int .i64 p1.At.X), (.int .i64 p1.At.Y)]) (k := 5) rfl 0) rfl) ?_
            exact Tq.fin (.cons rfl .nil)
          refine Dr.quiet 2 [(31, (.pointer (some ⟨(bs103 8), 1, none⟩)))] (by kernel_rfl) rfl rfl (by kernel_rfl) ?_ rfl rfl ?_
          · refine Tq.val (wn rfl) rfl (fun _ _ h1 h2 => run_fieldAddr fo_47_1 (h1.ev rfl)) ?_
            exact Tq.fin (.cons rfl .nil)
          refine Dr.quiet 3 [(32, (.int .i64 x105.W))] (by kernel_rfl) rfl rfl (by kernel_rfl) ?_ rfl rfl ?_
          · refine Tq.val (wn rfl) rfl (fun _ _ h1 h2 => run_load1 ag_3 (h1.ev rfl) (rdb h2 (vs := [(.string x105.Name), (.int .i64 x105.W), (.int .i64 x105.H)]) (k := 4) rfl 1) rfl) ?_
            exact Tq.fin (.cons rfl .nil)
          refine Dr.quiet 4 [(33, (.int .i64 (w64 (p1.At.X + x105.W))))] (by kernel_rfl) rfl rfl (by kernel_rfl) ?_ rfl rfl ?_
          · refine Tq.val (wn rfl) rfl (fun _ _ h1 h2 => run_add (h1.ev rfl) (h1.ev rfl)) ?_
            exact Tq.fin (.cons rfl .nil)
          refine Dr.quiet 5 [(34, (.pointer (some ⟨b106, 1, none⟩)))] (by kernel_rfl) rfl rfl (by kernel_rfl) ?_ rfl rfl ?_
          · refine Tq.val (wn rfl) rfl (fun _ _ h1 h2 => run_fieldAddr fo_33_1 (h1.ev rfl)) ?_
            exact Tq.fin (.cons rfl .nil)
          refine Dr.quiet 6 [(35, (.int .i64 p1.At.Y))] (by kernel_rfl) rfl rfl (by kernel_rfl) ?_ rfl rfl ?_
          · refine Tq.val (wn rfl) rfl (fun _ _ h1 h2 => run_load1 ag_3 (h1.ev rfl) (rdb h2 (vs := [(.int .i64 p1.At.X), (.int .i64 p1.At.Y)]) (k := 5) rfl 1) rfl) ?_
            exact Tq.fin (.cons rfl .nil)
          refine Dr.quietP 7 (by kernel_rfl) rfl (wn rfl) rfl (by kernel_rfl) (fun _ _ h1 => run_fieldAddr fo_47_2 (h1.ev rfl)) rfl ?_
          refine Dr.quietZ 8 [(37, (.int .i64 x105.H))] [11] false (by kernel_rfl) rfl rfl (by kernel_rfl) (fun W W' h2 hsW hk => HF.keepZ (le := [(4, bx (bs103 8) #[(.string x105.Name), (.int .i64 x105.W), (.int .i64 x105.H)] 47)]) (ks := [(5, fun x => x = b106)]) (s0 := sz112) false h2 hk (fun h => absurd h (by decide)) (.cons rfl .nil) (fun b hb => hb.elim (fun ⟨p, hp, hf, hb⟩ => by simp only [List.mem_cons, List.not_mem_nil, or_false] at hp; rcases hp with rfl; exact .inl ⟨_, List.mem_cons_self, hb⟩) (fun hb => absurd hb.1 (by decide))) (List.forall_mem_cons.2 ⟨fun b hb => hb, (fun _ h => nomatch h)⟩) rfl) ?_ rfl rfl ?_
          · refine Tq.val (wn rfl) rfl (fun _ _ h1 h2 => run_load1 ag_3 (h1.ev rfl) (rdb h2 (vs := [(.string x105.Name), (.int .i64 x105.W), (.int .i64 x105.H)]) (k := 4) rfl 2) rfl) ?_
            exact Tq.fin (.cons rfl .nil)
          refine Dr.quietP 9 (by kernel_rfl) rfl (wn rfl) rfl (by kernel_rfl) (fun _ _ h1 => run_add (h1.ev rfl) (h1.ev rfl)) rfl ?_
          refine Dr.quiet 10 [(39, (.pointer (some ⟨b106, 0, none⟩)))] (by kernel_rfl) rfl rfl (by kernel_rfl) ?_ rfl rfl ?_
          · refine Tq.val (wn rfl) rfl (fun _ _ h1 h2 => run_fieldAddr fo_33_0 (h1.ev rfl)) ?_
            exact Tq.fin (.cons rfl .nil)
          refine Dr.one 11 (by kernel_rfl) ?_
          refine St.store 11 5 (cs := [(.int .i64 (w64 (p1.At.X + x105.W)))]) [(.int .i64 (w64 (p1.At.X + x105.W))), (.int .i64 p1.At.Y)] rfl (wn rfl) (.inl ⟨_, List.mem_cons_self, rfl, rfl⟩) rfl rfl rfl rfl sz_3 rfl rfl rfl ?_
          refine Dr.tail (by kernel_rfl) ?_
          refine Tr.val (wn rfl) rfl (fun _ _ h1 h2 => run_fieldAddr fo_33_1 (h1.ev rfl)) ?_
          refine Tr.store 5 (cs := [(.int .i64 (w64 (p1.At.Y + x105.H)))]) [(.int .i64 (w64 (p1.At.X + x105.W))), (.int .i64 (w64 (p1.At.Y + x105.H)))] (wn rfl) rfl rfl rfl rfl sz_3 rfl rfl rfl ?_
          refine Tr.nil (Tr.normBlock ?_)
          exact Tr.backThen leJ110 ((w64 (p1.At.X + x105.W)), (w64 (p1.At.Y + x105.H))) H (.cons rfl (.cons rfl (.cons rfl .nil))) (.cons rfl (.cons rfl (.cons rfl .nil)))
        · refine Tr.seq ?_
          refine Tr.region ?_
          refine Tr.val (wn rfl) rfl (fun _ _ h1 h2 => run_eql (h1.ev rfl) (h1.ev rfl)) ?_
          refine Tr.val (wn rfl) rfl (fun _ _ h1 h2 => run_assign (h1.ev rfl)) ?_
          refine Tr.nil (Tr.normThen ?_)
          refine Tr.cond rfl H (fun H => ?_) (fun H => ?_)
          · refine Tr.region ?_
            refine Tr.val (wn rfl) rfl (fun _ _ h1 h2 => run_fieldAddr fo_33_1 (h1.ev rfl)) ?_
            refine Tr.val (wn rfl) rfl (fun _ _ h1 h2 => run_load1 ag_3 (h1.ev rfl) (rdb h2 (vs := [(.int .i64 p1.At.X), (.int .i64 p1.At.Y)]) (k := 5) rfl 1) rfl) ?_
            refine Tr.val (wn rfl) rfl (fun _ _ h1 h2 => run_fieldAddr fo_47_1 (h1.ev rfl)) ?_
            refine Tr.val (wn rfl) rfl (fun _ _ h1 h2 => run_load1 ag_3 (h1.ev rfl) (rdb h2 (vs := [(.string x105.Name), (.int .i64 x105.W), (.int .i64 x105.H)]) (k := 4) rfl 1) rfl) ?_
            refine Tr.val (wn rfl) rfl (fun _ _ h1 h2 => run_add (h1.ev rfl) (h1.ev rfl)) ?_
            refine Tr.val (wn rfl) rfl (fun _ _ h1 h2 => run_fieldAddr fo_33_1 (h1.ev rfl)) ?_
            refine Tr.store 5 (cs := [(.int .i64 (w64 (p1.At.Y + x105.W)))]) [(.int .i64 p1.At.X), (.int .i64 (w64 (p1.At.Y + x105.W)))] (wn rfl) rfl rfl rfl rfl sz_3 rfl rfl rfl ?_
            refine Tr.nil (Tr.normBlock ?_)
            exact Tr.backThen leJ110 (p1.At.X, (w64 (p1.At.Y + x105.W))) H (.cons rfl (.cons rfl (.cons rfl .nil))) (.cons rfl (.cons rfl (.cons rfl .nil)))
          · refine Tr.skip (Tr.normBlock ?_)
            exact Tr.backThen leJ110 (p1.At.X, p1.At.Y) H (.cons rfl (.cons rfl (.cons rfl .nil))) (.cons rfl (.cons rfl (.cons rfl .nil)))
    · intro w s hlJ111 hs
      obtain ⟨x108, x109⟩ := s
      have H := hs
      replace H : F_panel_turnOf_J1 p1 x108 x109 = some r := H
      replace leB := leB.trans hlJ111
      unfold F_panel_turnOf_J1 at H
      show Tr _ _ (LF [(3, (.pointer (some ⟨b101, 0, none⟩))), (4, (.pointer (some ⟨b102, 0, none⟩))), (6, (.pointer (some ⟨b106, 0, none⟩)))]) (LE [(2, bx b101 #[(.string p1.Board), (.int .i64 p1.Quarters), (.int .i64 p1.At.X), (.int .i64 p1.At.Y)] 35), (3, bx b102 #[(.bool false), (.int .i64 0), (.int .i64 0), (.int .i64 0)] 51), (5, bx b106 #[(.int .i64 x108), (.int .i64 x109)] 33)]) _
      refine Tr.seq ?_
      refine Tr.region ?_
      refine Tr.val (wn rfl) rfl (fun _ _ h1 h2 => run_fieldAddr fo_35_1 (h1.ev rfl)) ?_
      refine Tr.val (wn rfl) rfl (fun _ _ h1 h2 => run_load1 ag_3 (h1.ev rfl) (rdb h2 (vs := [(.string p1.Board), (.int .i64 p1.Quarters), (.int .i64 p1.At.X), (.int .i64 p1.At.Y)]) (k := 2) rfl 1) rfl) ?_
      refine Tr.val (wn rfl) rfl (fun _ _ h1 h2 => run_loadN (cs := [(.int .i64 x108), (.int .i64 x109)]) ag_33 sz_33 (h1.ev rfl) (CellsAt.take (rdb h2 (vs := [(.int .i64 x108), (.int .i64 x109)]) (k := 5) rfl 0) 2) rfl) ?_
      refine Tr.build (vs := [(1, (.int .i64 p1.Quarters)), (2, (.agg #[(.int .i64 x108), (.int .i64 x109)]))]) (cs := [(.bool false), (.int .i64 p1.Quarters), (.int .i64 x108), (.int .i64 x109)]) (wn rfl) rfl (evs_cons rfl (evs_cons rfl evs_nil)) (by kernel_rfl) ?_
      refine Tr.store 3 (cs := [(.bool false), (.int .i64 p1.Quarters), (.int .i64 x108), (.int .i64 x109)]) [(.bool false), (.int .i64 p1.Quarters), (.int .i64 x108), (.int .i64 x109)] (wn rfl) rfl rfl rfl rfl sz_51 rfl rfl rfl ?_
      refine Tr.nil (Tr.normThen ?_)
      refine Tr.ret ?_
      obtain rfl := Option.some.inj H
      exact Tr.out (m := [(.agg #[(.bool false), (.int .i64 p1.Quarters), (.int .i64 x108), (.int .i64 x109)])]) [3] (res_cell rfl rfl ag_51 sz_51 res_nil) (fun W hW => ⟨rfl, hW.low leB⟩)

theorem F_shape_TurnPoint_ok (N : Nat) {w : Bs} (p0 : TPoint) (p1 : TTurn) (r : TPoint) (H : F_shape_TurnPoint N p0 p1 = some r) (hE : HF w w.W E0) : Calls Try.prog 33 [(.agg #[(.int .i64 p0.X), (.int .i64 p0.Y)]), (.agg #[(.bool p1.Flip), (.int .i64 p1.Quarters), (.int .i64 p1.At.X), (.int .i64 p1.At.Y)])].toArray w.W fun e W' => e = .returned (.agg #[(.int .i64 r.X), (.int .i64 r.Y)]) ∧ HF w W' E0 := by
  unfold F_shape_TurnPoint at H
  have leB := Bs.Le.refl w
  refine Tr.enter (n := 36) Try.func33 rfl rfl rfl hE ?_
  refine Tr.seq ?_
  refine Tr.region ?_
  refine Tr.box 1 (cs := [(.int .i64 p0.X), (.int .i64 p0.Y)]) (wn rfl) rfl rfl rfl fun b100 => ?_
  refine Tr.box 2 (cs := [(.bool p1.Flip), (.int .i64 p1.Quarters), (.int .i64 p1.At.X), (.int .i64 p1.At.Y)]) (wn rfl) rfl rfl rfl fun b101 => ?_
  refine Tr.alloc 3 (wn rfl) rfl ze_33 fun b102 => ?_
  refine Tr.nil (Tr.normThen ?_)
  have leJ104 := Bs.Le.refl w
  refine Tr.cutJ (σ := Int) (fun w s => F_shape_TurnPoint_J2 N p0 p1 s = some r) (fun s => [(2, (.pointer (some ⟨b100, 0, none⟩))), (3, (.pointer (some ⟨b101, 0, none⟩))), (4, (.pointer (some ⟨b102, 0, none⟩)))]) (fun s => [(1, bx b100 #[(.int .i64 s), (.int .i64 p0.Y)] 33), (2, bx b101 #[(.bool p1.Flip), (.int .i64 p1.Quarters), (.int .i64 p1.At.X), (.int .i64 p1.At.Y)] 51), (3, bx b102 #[(.int .i64 0), (.int .i64 0)] 33)]) ?_ ?_
  · refine Tr.seq ?_
    refine Tr.region ?_
    refine Tr.val (wn rfl) rfl (fun _ _ h1 h2 => run_fieldAddr fo_51_0 (h1.ev rfl)) ?_
    refine Tr.val (wn rfl) rfl (fun _ _ h1 h2 => run_load1 ag_4 (h1.ev rfl) (rdb h2 (vs := [(.bool p1.Flip), (.int .i64 p1.Quarters), (.int .i64 p1.At.X), (.int .i64 p1.At.Y)]) (k := 2) rfl 0) rfl) ?_
    refine Tr.nil (Tr.normThen ?_)
    refine Tr.cond rfl H (fun H => ?_) (fun H => ?_)
    · refine Tr.region ?_
      refine Tr.val (wn rfl) rfl (fun _ _ h1 h2 => run_fieldAddr fo_33_0 (h1.ev rfl)) ?_
      refine Tr.val (wn rfl) rfl (fun _ _ h1 h2 => run_load1 ag_3 (h1.ev rfl) (rdb h2 (vs := [(.int .i64 p0.X), (.int .i64 p0.Y)]) (k := 1) rfl 0) rfl) ?_
      refine Tr.val (wn rfl) rfl (fun _ _ h1 h2 => run_neg (h1.ev rfl)) ?_
      refine Tr.val (wn rfl) rfl (fun _ _ h1 h2 => run_fieldAddr fo_33_0 (h1.ev rfl)) ?_
      refine Tr.store 1 (cs := [(.int .i64 (w64 (0 - p0.X)))]) [(.int .i64 (w64 (0 - p0.X))), (.int .i64 p0.Y)] (wn rfl) rfl rfl rfl rfl sz_3 rfl rfl rfl ?_
      refine Tr.nil ?_
      exact Tr.backThen leJ104 (w64 (0 - p0.X)) H (.cons rfl (.cons rfl (.cons rfl .nil))) (.cons rfl (.cons rfl (.cons rfl .nil)))
    · refine Tr.skip ?_
      exact Tr.backThen leJ104 p0.X H (.cons rfl (.cons rfl (.cons rfl .nil))) (.cons rfl (.cons rfl (.cons rfl .nil)))
  · intro w x103 hlJ105 hs
    have H := hs
    replace H : F_shape_TurnPoint_J2 N p0 p1 x103 = some r := H
    replace leB := leB.trans hlJ105
    unfold F_shape_TurnPoint_J2 at H
    show Tr _ _ (LF [(2, (.pointer (some ⟨b100, 0, none⟩))), (3, (.pointer (some ⟨b101, 0, none⟩))), (4, (.pointer (some ⟨b102, 0, none⟩)))]) (LE [(1, bx b100 #[(.int .i64 x103), (.int .i64 p0.Y)] 33), (2, bx b101 #[(.bool p1.Flip), (.int .i64 p1.Quarters), (.int .i64 p1.At.X), (.int .i64 p1.At.Y)] 51), (3, bx b102 #[(.int .i64 0), (.int .i64 0)] 33)]) _
    refine Tr.seq ?_
    refine Tr.seq ?_
    refine Tr.region ?_
    refine Tr.val (wn rfl) rfl (fun _ _ h1 h2 => run_fieldAddr fo_51_1 (h1.ev rfl)) ?_
    refine Tr.val (wn rfl) rfl (fun _ _ h1 h2 => run_load1 ag_3 (h1.ev rfl) (rdb h2 (vs := [(.bool p1.Flip), (.int .i64 p1.Quarters), (.int .i64 p1.At.X), (.int .i64 p1.At.Y)]) (k := 2) rfl 1) rfl) ?_
    refine Tr.val (wn rfl) rfl (fun _ _ h1 h2 => run_move (h1.ev rfl)) ?_
    refine Tr.nil (Tr.normThen ?_)
    refine Tr.block ?_
    refine Tr.loop (σ := Int × Int × Int) (fun m w s => F_shape_TurnPoint_L1 p1 m s.1 s.2.1 s.2.2 = some r) (fun s => [(2, (.pointer (some ⟨b100, 0, none⟩))), (3, (.pointer (some ⟨b101, 0, none⟩))), (4, (.pointer (some ⟨b102, 0, none⟩))), (12, (.int .i64 p1.Quarters)), (13, (.int .i64 s.2.2))]) (fun s => [(1, bx b100 #[(.int .i64 s.1), (.int .i64 s.2.1)] 33), (2, bx b101 #[(.bool p1.Flip), (.int .i64 p1.Quarters), (.int .i64 p1.At.X), (.int .i64 p1.At.Y)] 51), (3, bx b102 #[(.int .i64 0), (.int .i64 0)] 33)]) N (x103, p0.Y, 0) H (.cons rfl (.cons rfl (.cons rfl (.cons rfl (.cons rfl .nil))))) (.cons rfl (.cons rfl (.cons rfl .nil))) (fun _ _ h => noSome (h)) ?_
    intro w leF_shape_TurnPoint_L1 mF_shape_TurnPoint_L1 s hs
    obtain ⟨x115, x116, x117⟩ := s
    have H := hs
    replace H : F_shape_TurnPoint_L1 p1 (mF_shape_TurnPoint_L1 + 1) x115 x116 x117 = some r := H
    replace leB := leB.trans leF_shape_TurnPoint_L1
    rw [F_shape_TurnPoint_L1.eq_2] at H
    show Tr _ _ (LF [(2, (.pointer (some ⟨b100, 0, none⟩))), (3, (.pointer (some ⟨b101, 0, none⟩))), (4, (.pointer (some ⟨b102, 0, none⟩))), (12, (.int .i64 p1.Quarters)), (13, (.int .i64 x117))]) (LE [(1, bx b100 #[(.int .i64 x115), (.int .i64 x116)] 33), (2, bx b101 #[(.bool p1.Flip), (.int .i64 p1.Quarters), (.int .i64 p1.At.X), (.int .i64 p1.At.Y)] 51), (3, bx b102 #[(.int .i64 0), (.int .i64 0)] 33)]) _
    refine Tr.seq ?_
    refine Tr.region ?_
    refine Tr.val (wn rfl) rfl (fun _ _ h1 h2 => run_lss (h1.ev rfl) (h1.ev rfl)) ?_
    refine Tr.nil (Tr.normThen ?_)
    refine Tr.seq ?_
    refine Tr.cond rfl H (fun H => ?_) (fun H => ?_)
    · refine Tr.skip (Tr.normThen ?_)
      refine Tr.seq ?_
      refine Tr.block ?_
      refine Tr.region ?_
      refine Tr.val (wn rfl) rfl (fun _ _ h1 h2 => run_fieldAddr fo_33_1 (h1.ev rfl)) ?_
      refine Tr.val (wn rfl) rfl (fun _ _ h1 h2 => run_load1 ag_3 (h1.ev rfl) (rdb h2 (vs := [(.int .i64 x115), (.int .i64 x116)]) (k := 1) rfl 1) rfl) ?_
      refine Tr.val (wn rfl) rfl (fun _ _ h1 h2 => run_neg (h1.ev rfl)) ?_
      refine Tr.val (wn rfl) rfl (fun _ _ h1 h2 => run_fieldAddr fo_33_0 (h1.ev rfl)) ?_
      refine Tr.val (wn rfl) rfl (fun _ _ h1 h2 => run_load1 ag_3 (h1.ev rfl) (rdb h2 (vs := [(.int .i64 x115), (.int .i64 x116)]) (k := 1) rfl 0) rfl) ?_
      refine Tr.val (wn rfl) rfl (fun _ _ h1 h2 => run_fieldAddr fo_33_0 (h1.ev rfl)) ?_
      refine Tr.store 1 (cs := [(.int .i64 (w64 (0 - x116)))]) [(.int .i64 (w64 (0 - x116))), (.int .i64 x116)] (wn rfl) rfl rfl rfl rfl sz_3 rfl rfl rfl ?_
      refine Tr.val (wn rfl) rfl (fun _ _ h1 h2 => run_fieldAddr fo_33_1 (h1.ev rfl)) ?_
      refine Tr.store 1 (cs := [(.int .i64 x115)]) [(.int .i64 (w64 (0 - x116))), (.int .i64 x115)] (wn rfl) rfl rfl rfl rfl sz_3 rfl rfl rfl ?_
      refine Tr.nil (Tr.normBlock (Tr.normThen ?_))
      refine Tr.region ?_
      refine Tr.val (wn rfl) rfl (fun _ _ h1 h2 => run_add (h1.ev rfl) (h1.ev rfl)) ?_
      refine Tr.val (wn rfl) rfl (fun _ _ h1 h2 => run_move (h1.ev rfl)) ?_
      refine Tr.nil ?_
      exact Tr.backThen leF_shape_TurnPoint_L1 ((w64 (0 - x116)), x115, (w64 (x117 + 1))) H (.cons rfl (.cons rfl (.cons rfl (.cons rfl (.cons rfl .nil))))) (.cons rfl (.cons rfl (.cons rfl .nil)))
    · refine Tr.exit (Tr.exitThen (Tr.exitThen (Tr.exitBlock (Tr.normThen ?_))))
      refine Tr.seq ?_
      refine Tr.region ?_
      refine Tr.val (wn rfl) rfl (fun _ _ h1 h2 => run_fieldAddr fo_33_0 (h1.ev rfl)) ?_
      refine Tr.val (wn rfl) rfl (fun _ _ h1 h2 => run_load1 ag_3 (h1.ev rfl) (rdb h2 (vs := [(.int .i64 x115), (.int .i64 x116)]) (k := 1) rfl 0) rfl) ?_
      refine Tr.val (wn rfl) rfl (fun _ _ h1 h2 => run_fieldAddr fo_51_2 (h1.ev rfl)) ?_
      refine Tr.val (wn rfl) rfl (fun _ _ h1 h2 => run_fieldAddr fo_33_0 (h1.ev rfl)) ?_
      refine Tr.val (wn rfl) rfl (fun _ _ h1 h2 => run_load1 ag_3 (h1.ev rfl) (rdb h2 (vs := [(.bool p1.Flip), (.int .i64 p1.Quarters), (.int .i64 p1.At.X), (.int .i64 p1.At.Y)]) (k := 2) rfl 2) rfl) ?_
      refine Tr.val (wn rfl) rfl (fun _ _ h1 h2 => run_add (h1.ev rfl) (h1.ev rfl)) ?_
      refine Tr.val (wn rfl) rfl (fun _ _ h1 h2 => run_fieldAddr fo_33_1 (h1.ev rfl)) ?_
      refine Tr.val (wn rfl) rfl (fun _ _ h1 h2 => run_load1 ag_3 (h1.ev rfl) (rdb h2 (vs := [(.int .i64 x115), (.int .i64 x116)]) (k := 1) rfl 1) rfl) ?_
      refine Tr.val (wn rfl) rfl (fun _ _ h1 h2 => run_fieldAddr fo_51_2 (h1.ev rfl)) ?_
      refine Tr.val (wn rfl) rfl (fun _ _ h1 h2 => run_fieldAddr fo_33_1 (h1.ev rfl)) ?_
      refine Tr.val (wn rfl) rfl (fun _ _ h1 h2 => run_load1 ag_3 (h1.ev rfl) (rdb h2 (vs := [(.bool p1.Flip), (.int .i64 p1.Quarters), (.int .i64 p1.At.X), (.int .i64 p1.At.Y)]) (k := 2) rfl 3) rfl) ?_
      refine Tr.val (wn rfl) rfl (fun _ _ h1 h2 => run_add (h1.ev rfl) (h1.ev rfl)) ?_
      refine Tr.build (vs := [(0, (.int .i64 (w64 (x115 + p1.At.X)))), (1, (.int .i64 (w64 (x116 + p1.At.Y))))]) (cs := [(.int .i64 (w64 (x115 + p1.At.X))), (.int .i64 (w64 (x116 + p1.At.Y)))]) (wn rfl) rfl (evs_cons rfl (evs_cons rfl evs_nil)) (by kernel_rfl) ?_
      refine Tr.store 3 (cs := [(.int .i64 (w64 (x115 + p1.At.X))), (.int .i64 (w64 (x116 + p1.At.Y)))]) [(.int .i64 (w64 (x115 + p1.At.X))), (.int .i64 (w64 (x116 + p1.At.Y)))] (wn rfl) rfl rfl rfl rfl sz_33 rfl rfl rfl ?_
      refine Tr.nil (Tr.normThen ?_)
      refine Tr.ret ?_
      obtain rfl := Option.some.inj H
      exact Tr.out (m := [(.agg #[(.int .i64 (w64 (x115 + p1.At.X))), (.int .i64 (w64 (x116 + p1.At.Y)))])]) [3] (res_cell rfl rfl ag_33 sz_33 res_nil) (fun W hW => ⟨rfl, hW.low leB⟩)

theorem F_shape_TurnRect_ok (N : Nat) {w : Bs} (p0 : TRect) (p1 : TTurn) (r : TRect) (H : F_shape_TurnRect N p0 p1 = some r) (hE : HF w w.W E0) : Calls Try.prog 13 [(.agg #[(.int .i64 p0.X0), (.int .i64 p0.Y0), (.int .i64 p0.X1), (.int .i64 p0.Y1)]), (.agg #[(.bool p1.Flip), (.int .i64 p1.Quarters), (.int .i64 p1.At.X), (.int .i64 p1.At.Y)])].toArray w.W fun e W' => e = .returned (.agg #[(.int .i64 r.X0), (.int .i64 r.Y0), (.int .i64 r.X1), (.int .i64 r.Y1)]) ∧ HF w W' E0 := by
  unfold F_shape_TurnRect at H
  have leB := Bs.Le.refl w
  refine Tr.enter (n := 42) Try.func13 rfl rfl rfl hE ?_
  refine Tr.seq ?_
  refine Tr.region ?_
  refine Tr.box 1 (cs := [(.int .i64 p0.X0), (.int .i64 p0.Y0), (.int .i64 p0.X1), (.int .i64 p0.Y1)]) (wn rfl) rfl rfl rfl fun b100 => ?_
  refine Tr.box 2 (cs := [(.bool p1.Flip), (.int .i64 p1.Quarters), (.int .i64 p1.At.X), (.int .i64 p1.At.Y)]) (wn rfl) rfl rfl rfl fun b101 => ?_
  refine Tr.alloc 3 (wn rfl) rfl ze_49 fun b102 => ?_
  refine Tr.nil (Tr.normThen ?_)
  refine Tr.seq ?_
  obtain ⟨y104, hy104, H⟩ := bnd H
  obtain ⟨y105, hy105, H⟩ := bnd H
  refine Tr.drawF 16 [(14, .makeFunc (.func 0) #[] #[]), (15, .makeFunc (.func 0) #[] #[])] [(14, ⟨5, 4, (.func (.func 0) #[] #[]), fun b => .pointer (some ⟨b, 0, none⟩), fun b => bx b #[(.int .i64 0), (.int .i64 0)] 33⟩), (15, ⟨6, 5, (.func (.func 0) #[] #[]), fun b => .pointer (some ⟨b, 0, none⟩), fun b => bx b #[(.int .i64 0), (.int .i64 0)] 33⟩)] [(0, (.agg #[(.int .i64 p0.X0), (.int .i64 p0.Y0), (.int .i64 p0.X1), (.int .i64 p0.Y1)])), (1, (.agg #[(.bool p1.Flip), (.int .i64 p1.Quarters), (.int .i64 p1.At.X), (.int .i64 p1.At.Y)])), (2, (.pointer (some ⟨b100, 0, none⟩))), (3, (.pointer (some ⟨b101, 0, none⟩))), (4, (.pointer (some ⟨b102, 0, none⟩))), (5, (.func (.func 0) #[] #[])), (6, (.func (.func 0) #[] #[])), (7, (.pointer (some ⟨b100, 0, none⟩))), (8, (.int .i64 p0.X0)), (9, (.pointer (some ⟨b100, 1, none⟩))), (10, (.int .i64 p0.Y0)), (11, (.agg #[(.int .i64 p0.X0), (.int .i64 p0.Y0)])), (12, (.agg #[(.bool p1.Flip), (.int .i64 p1.Quarters), (.int .i64 p1.At.X), (.int .i64 p1.At.Y)])), (13, (.agg #[(.int .i64 y104.X), (.int .i64 y104.Y)])), (14, (.pointer (some ⟨b100, 2, none⟩))), (15, (.int .i64 p0.X1)), (16, (.pointer (some ⟨b100, 3, none⟩))), (17, (.int .i64 p0.Y1)), (18, (.agg #[(.int .i64 p0.X1), (.int .i64 p0.Y1)])), (19, (.agg #[(.bool p1.Flip), (.int .i64 p1.Quarters), (.int .i64 p1.At.X), (.int .i64 p1.At.Y)])), (20, (.agg #[(.int .i64 y105.X), (.int .i64 y105.Y)]))] (by kernel_rfl) (by kernel_rfl) (by kernel_rfl) (by kernel_rfl) (by kernel_rfl) (by kernel_rfl) (by kernel_rfl) (fall_cons (fr_alloc rfl rfl ze_33) (fall_cons (fr_alloc rfl rfl ze_33) fall_nil)) (fall_cons rfl (fall_cons rfl fall_nil)) (fall_cons rfl (fall_cons rfl fall_nil)) ?_ ?_
  · refine Tq.val (wn rfl) rfl (fun _ _ h1 h2 => run_fieldAddr fo_49_0 (h1.ev rfl)) ?_
    refine Tq.val (wn rfl) rfl (fun _ _ h1 h2 => run_load1 ag_3 (h1.ev rfl) (rdb h2 (vs := [(.int .i64 p0.X0), (.int .i64 p0.Y0), (.int .i64 p0.X1), (.int .i64 p0.Y1)]) (k := 1) rfl 0) rfl) ?_
    refine Tq.val (wn rfl) rfl (fun _ _ h1 h2 => run_fieldAddr fo_49_1 (h1.ev rfl)) ?_
    refine Tq.val (wn rfl) rfl (fun _ _ h1 h2 => run_load1 ag_3 (h1.ev rfl) (rdb h2 (vs := [(.int .i64 p0.X0), (.int .i64 p0.Y0), (.int .i64 p0.X1), (.int .i64 p0.Y1)]) (k := 1) rfl 1) rfl) ?_
    refine Tq.build (vs := [(0, (.int .i64 p0.X0)), (1, (.int .i64 p0.Y0))]) (cs := [(.int .i64 p0.X0), (.int .i64 p0.Y0)]) (wn rfl) rfl (evs_cons rfl (evs_cons rfl evs_nil)) (by kernel_rfl) ?_
    refine Tq.val (wn rfl) rfl (fun _ _ h1 h2 => run_loadN (cs := [(.bool p1.Flip), (.int .i64 p1.Quarters), (.int .i64 p1.At.X), (.int .i64 p1.At.Y)]) ag_51 sz_51 (h1.ev rfl) (CellsAt.take (rdb h2 (vs := [(.bool p1.Flip), (.int .i64 p1.Quarters), (.int .i64 p1.At.X), (.int .i64 p1.At.Y)]) (k := 2) rfl 0) 4) rfl) ?_
    refine Tq.call0 (r := (.agg #[(.int .i64 y104.X), (.int .i64 y104.Y)])) (wn rfl) rfl Try.call33 (evl_cons rfl (evl_cons rfl evl_nil)) (fun W hW => F_shape_TurnPoint_ok N (TPoint.mk p0.X0 p0.Y0) p1 y104 hy104 (HF.start _)) ?_
    refine Tq.val (wn rfl) rfl (fun _ _ h1 h2 => run_fieldAddr fo_49_2 (h1.ev rfl)) ?_
    refine Tq.val (wn rfl) rfl (fun _ _ h1 h2 => run_load1 ag_3 (h1.ev rfl) (rdb h2 (vs := [(.int .i64 p0.X0), (.int .i64 p0.Y0), (.int .i64 p0.X1), (.int .i64 p0.Y1)]) (k := 1) rfl 2) rfl) ?_
    refine Tq.val (wn rfl) rfl (fun _ _ h1 h2 => run_fieldAddr fo_49_3 (h1.ev rfl)) ?_
    refine Tq.val (wn rfl) rfl (fun _ _ h1 h2 => run_load1 ag_3 (h1.ev rfl) (rdb h2 (vs := [(.int .i64 p0.X0), (.int .i64 p0.Y0), (.int .i64 p0.X1), (.int .i64 p0.Y1)]) (k := 1) rfl 3) rfl) ?_
    refine Tq.build (vs := [(0, (.int .i64 p0.X1)), (1, (.int .i64 p0.Y1))]) (cs := [(.int .i64 p0.X1), (.int .i64 p0.Y1)]) (wn rfl) rfl (evs_cons rfl (evs_cons rfl evs_nil)) (by kernel_rfl) ?_
    refine Tq.val (wn rfl) rfl (fun _ _ h1 h2 => run_loadN (cs := [(.bool p1.Flip), (.int .i64 p1.Quarters), (.int .i64 p1.At.X), (.int .i64 p1.At.Y)]) ag_51 sz_51 (h1.ev rfl) (CellsAt.take (rdb h2 (vs := [(.bool p1.Flip), (.int .i64 p1.Quarters), (.int .i64 p1.At.X), (.int .i64 p1.At.Y)]) (k := 2) rfl 0) 4) rfl) ?_
    refine Tq.call0 (r := (.agg #[(.int .i64 y105.X), (.int .i64 y105.Y)])) (wn rfl) rfl Try.call33 (evl_cons rfl (evl_cons rfl evl_nil)) (fun W hW => F_shape_TurnPoint_ok N (TPoint.mk p0.X1 p0.Y1) p1 y105 hy105 (HF.start _)) ?_
    refine Tq.mkFunc (vs := []) (wn rfl) rfl evl_nil ?_
    refine Tq.mkFunc (vs := []) (wn rfl) rfl evl_nil ?_
    exact Tq.fin (.cons rfl (.cons rfl (.cons rfl (.cons rfl (.cons rfl (.cons rfl (.cons rfl (.cons rfl (.cons rfl (.cons rfl (.cons rfl (.cons rfl (.cons rfl (.cons rfl (.cons rfl (.cons rfl (.cons rfl (.cons rfl (.cons rfl (.cons rfl (.cons rfl .nil)))))))))))))))))))))
  · intro bs103
    refine Tr.sel (lf := [(4, (.pointer (some ⟨b102, 0, none⟩))), (5, (.pointer (some ⟨(bs103 14), 0, none⟩))), (6, (.pointer (some ⟨(bs103 15), 0, none⟩))), (13, (.agg #[(.int .i64 y104.X), (.int .i64 y104.Y)])), (20, (.agg #[(.int .i64 y105.X), (.int .i64 y105.Y)]))]) (le := [(1, bx b100 #[(.int .i64 p0.X0), (.int .i64 p0.Y0), (.int .i64 p0.X1), (.int .i64 p0.Y1)] 49), (2, bx b101 #[(.bool p1.Flip), (.int .i64 p1.Quarters), (.int .i64 p1.At.X), (.int .i64 p1.At.Y)] 51), (3, bx b102 #[(.int .i64 0), (.int .i64 0), (.int .i64 0), (.int .i64 0)] 49), (4, bx (bs103 14) #[(.int .i64 0), (.int .i64 0)] 33), (5, bx (bs103 15) #[(.int .i64 0), (.int .i64 0)] 33)]) (.cons rfl (.cons rfl (.cons rfl (.cons rfl (.cons rfl .nil))))) (.cons rfl (.cons rfl (.cons rfl (.cons rfl (.cons rfl .nil))))) ?_
    refine Tr.store 4 (cs := [(.int .i64 y104.X), (.int .i64 y104.Y)]) [(.int .i64 y104.X), (.int .i64 y104.Y)] (wn rfl) rfl rfl rfl rfl sz_33 rfl rfl rfl ?_
    refine Tr.store 5 (cs := [(.int .i64 y105.X), (.int .i64 y105.Y)]) [(.int .i64 y105.X), (.int .i64 y105.Y)] (wn rfl) rfl rfl rfl rfl sz_33 rfl rfl rfl ?_
    refine Tr.nil (Tr.normThen ?_)
    refine Tr.seq ?_
    refine Tr.region ?_
    refine Tr.val (wn rfl) rfl (fun _ _ h1 h2 => run_fieldAddr fo_33_0 (h1.ev rfl)) ?_
    refine Tr.val (wn rfl) rfl (fun _ _ h1 h2 => run_load1 ag_3 (h1.ev rfl) (rdb h2 (vs := [(.int .i64 y104.X), (.int .i64 y104.Y)]) (k := 4) rfl 0) rfl) ?_
    refine Tr.val (wn rfl) rfl (fun _ _ h1 h2 => run_fieldAddr fo_33_0 (h1.ev rfl)) ?_
    refine Tr.val (wn rfl) rfl (fun _ _ h1 h2 => run_load1 ag_3 (h1.ev rfl) (rdb h2 (vs := [(.int .i64 y105.X), (.int .i64 y105.Y)]) (k := 5) rfl 0) rfl) ?_
    refine Tr.val (wn rfl) rfl (fun _ _ h1 h2 => run_min (h1.ev rfl) (h1.ev rfl) _) ?_
    refine Tr.val (wn rfl) rfl (fun _ _ h1 h2 => run_fieldAddr fo_33_1 (h1.ev rfl)) ?_
    refine Tr.val (wn rfl) rfl (fun _ _ h1 h2 => run_load1 ag_3 (h1.ev rfl) (rdb h2 (vs := [(.int .i64 y104.X), (.int .i64 y104.Y)]) (k := 4) rfl 1) rfl) ?_
    refine Tr.val (wn rfl) rfl (fun _ _ h1 h2 => run_fieldAddr fo_33_1 (h1.ev rfl)) ?_
    refine Tr.val (wn rfl) rfl (fun _ _ h1 h2 => run_load1 ag_3 (h1.ev rfl) (rdb h2 (vs := [(.int .i64 y105.X), (.int .i64 y105.Y)]) (k := 5) rfl 1) rfl) ?_
    refine Tr.val (wn rfl) rfl (fun _ _ h1 h2 => run_min (h1.ev rfl) (h1.ev rfl) _) ?_
    refine Tr.val (wn rfl) rfl (fun _ _ h1 h2 => run_fieldAddr fo_33_0 (h1.ev rfl)) ?_
    refine Tr.val (wn rfl) rfl (fun _ _ h1 h2 => run_load1 ag_3 (h1.ev rfl) (rdb h2 (vs := [(.int .i64 y104.X), (.int .i64 y104.Y)]) (k := 4) rfl 0) rfl) ?_
    refine Tr.val (wn rfl) rfl (fun _ _ h1 h2 => run_fieldAddr fo_33_0 (h1.ev rfl)) ?_
    refine Tr.val (wn rfl) rfl (fun _ _ h1 h2 => run_load1 ag_3 (h1.ev rfl) (rdb h2 (vs := [(.int .i64 y105.X), (.int .i64 y105.Y)]) (k := 5) rfl 0) rfl) ?_
    refine Tr.val (wn rfl) rfl (fun _ _ h1 h2 => run_max (h1.ev rfl) (h1.ev rfl) _) ?_
    refine Tr.val (wn rfl) rfl (fun _ _ h1 h2 => run_fieldAddr fo_33_1 (h1.ev rfl)) ?_
    refine Tr.val (wn rfl) rfl (fun _ _ h1 h2 => run_load1 ag_3 (h1.ev rfl) (rdb h2 (vs := [(.int .i64 y104.X), (.int .i64 y104.Y)]) (k := 4) rfl 1) rfl) ?_
    refine Tr.val (wn rfl) rfl (fun _ _ h1 h2 => run_fieldAddr fo_33_1 (h1.ev rfl)) ?_
    refine Tr.val (wn rfl) rfl (fun _ _ h1 h2 => run_load1 ag_3 (h1.ev rfl) (rdb h2 (vs := [(.int .i64 y105.X), (.int .i64 y105.Y)]) (k := 5) rfl 1) rfl) ?_
    refine Tr.val (wn rfl) rfl (fun _ _ h1 h2 => run_max (h1.ev rfl) (h1.ev rfl) _) ?_
    refine Tr.build (vs := [(0, (.int .i64 (min y104.X y105.X))), (1, (.int .i64 (min y104.Y y105.Y))), (2, (.int .i64 (max y104.X y105.X))), (3, (.int .i64 (max y104.Y y105.Y)))]) (cs := [(.int .i64 (min y104.X y105.X)), (.int .i64 (min y104.Y y105.Y)), (.int .i64 (max y104.X y105.X)), (.int .i64 (max y104.Y y105.Y))]) (wn rfl) rfl (evs_cons rfl (evs_cons rfl (evs_cons rfl (evs_cons rfl evs_nil)))) (by kernel_rfl) ?_
    refine Tr.store 3 (cs := [(.int .i64 (min y104.X y105.X)), (.int .i64 (min y104.Y y105.Y)), (.int .i64 (max y104.X y105.X)), (.int .i64 (max y104.Y y105.Y))]) [(.int .i64 (min y104.X y105.X)), (.int .i64 (min y104.Y y105.Y)), (.int .i64 (max y104.X y105.X)), (.int .i64 (max y104.Y y105.Y))] (wn rfl) rfl rfl rfl rfl sz_49 rfl rfl rfl ?_
    refine Tr.nil (Tr.normThen ?_)
    refine Tr.ret ?_
    obtain rfl := Option.some.inj H
    exact Tr.out (m := [(.agg #[(.int .i64 (min y104.X y105.X)), (.int .i64 (min y104.Y y105.Y)), (.int .i64 (max y104.X y105.X)), (.int .i64 (max y104.Y y105.Y))])]) [3] (res_cell rfl rfl ag_49 sz_49 res_nil) (fun W hW => ⟨rfl, hW.low leB⟩)

theorem F_shape_Set__Many_ok {w : Bs} (p0 : (List TBand)) (Ap0_0 : Option Addr) (cp0_0 : Nat) (hp0_0 : Sl w.R w.W fl_TBand Ap0_0 cp0_0 p0) (r : Int) (H : F_shape_Set__Many p0 = some r) (hE : HF w w.W E0) : Calls Try.prog 34 [(.slice Ap0_0 (p0).length cp0_0)].toArray w.W fun e W' => e = .returned (.int .i64 r) ∧ HF w W' E0 := by
  unfold F_shape_Set__Many at H
  have leB := Bs.Le.refl w
  refine Tr.enter (n := 20) Try.func34 rfl rfl rfl hE ?_
  refine Tr.seq ?_
  refine Tr.region ?_
  refine Tr.val (wn rfl) rfl (fun _ _ h1 h2 => run_assign (h1.ev rfl)) ?_
  refine Tr.nil (Tr.normThen ?_)
  refine Tr.seq ?_
  refine Tr.region ?_
  refine Tr.val (wn rfl) rfl (fun _ _ h1 h2 => run_assign (h1.ev rfl)) ?_
  refine Tr.nil (Tr.normThen ?_)
  refine Tr.seq ?_
  refine Tr.seq ?_
  refine Tr.region ?_
  refine Tr.val (wn rfl) rfl (fun _ _ h1 h2 => run_move (h1.ev rfl)) ?_
  refine Tr.val (wn rfl) rfl (fun _ _ h1 h2 => run_len un_43 (h1.ev rfl)) ?_
  refine Tr.val (wn rfl) rfl (fun _ _ h1 h2 => run_move (h1.ev rfl)) ?_
  refine Tr.nil (Tr.normThen ?_)
  refine Tr.block ?_
  refine Tr.loop (σ := (List TBand) × Nat × Int) (fun m w s => m = s.1.length + 1 ∧ s.1 = List.drop s.2.1 p0 ∧ s.2.1 ≤ p0.length ∧ F_shape_Set__Many_L1 s.1 s.2.1 s.2.2 = some r) (fun s => [(3, (.int .i64 s.2.2)), (6, (.slice Ap0_0 (p0).length cp0_0)), (7, (.int .i64 (p0.length : Int))), (8, (.int .i64 (s.2.1 : Int)))]) (fun s => []) (p0.length + 1) (p0, 0, 0) ⟨rfl, rfl, Nat.zero_le _, H⟩ (.cons rfl (.cons rfl (.cons rfl (.cons rfl .nil)))) .nil (fun _ _ h => absurd h.1 (by simp)) ?_
  intro w leF_shape_Set__Many_L1 m s hs
  obtain ⟨restF_shape_Set__Many_L1, iF_shape_Set__Many_L1, x112⟩ := s
  obtain ⟨hmF_shape_Set__Many_L1, hdF_shape_Set__Many_L1, hiF_shape_Set__Many_L1, H⟩ := hs
  replace hdF_shape_Set__Many_L1 : restF_shape_Set__Many_L1 = List.drop iF_shape_Set__Many_L1 p0 := hdF_shape_Set__Many_L1
  replace H : F_shape_Set__Many_L1 restF_shape_Set__Many_L1 iF_shape_Set__Many_L1 x112 = some r := H
  replace hmF_shape_Set__Many_L1 : m + 1 = restF_shape_Set__Many_L1.length + 1 := hmF_shape_Set__Many_L1
  replace hp0_0 := hp0_0.leR leF_shape_Set__Many_L1
  replace leB := leB.trans leF_shape_Set__Many_L1
  obtain rfl : m = restF_shape_Set__Many_L1.length := by omega
  clear hmF_shape_Set__Many_L1
  show Tr _ _ (LF [(3, (.int .i64 x112)), (6, (.slice Ap0_0 (p0).length cp0_0)), (7, (.int .i64 (p0.length : Int))), (8, (.int .i64 (iF_shape_Set__Many_L1 : Int)))]) (LE []) _
  cases restF_shape_Set__Many_L1 with
  | nil =>
    rw [F_shape_Set__Many_L1.eq_1] at H
    refine Tr.seq ?_
    refine Tr.region ?_
    refine Tr.val (wn rfl) rfl (fun _ _ h1 h2 => run_lss (h1.ev rfl) (h1.ev rfl)) ?_
    refine Tr.nil (Tr.normThen ?_)
    refine Tr.seq ?_
    refine Tr.condF rfl (range_nil hdF_shape_Set__Many_L1) ?_
    refine Tr.exit (Tr.exitThen (Tr.exitThen (Tr.exitBlock (Tr.normThen ?_))))
    refine Tr.seq ?_
    refine Tr.region ?_
    refine Tr.val (wn rfl) rfl (fun _ _ h1 h2 => run_move (h1.ev rfl)) ?_
    refine Tr.val (wn rfl) rfl (fun _ _ h1 h2 => run_assign (h1.ev rfl)) ?_
    refine Tr.nil (Tr.normThen ?_)
    refine Tr.ret ?_
    obtain rfl := Option.some.inj H
    exact Tr.out (m := [(.int .i64 x112)]) [] (res_tmp rfl res_nil) (fun W hW => ⟨rfl, hW.low leB⟩)
  | cons xF_shape_Set__Many_L1 restF_shape_Set__Many_L1 =>
    rw [F_shape_Set__Many_L1.eq_2] at H
    refine Tr.seq ?_
    refine Tr.region ?_
    refine Tr.val (wn rfl) rfl (fun _ _ h1 h2 => run_lss (h1.ev rfl) (h1.ev rfl)) ?_
    refine Tr.nil (Tr.normThen ?_)
    refine Tr.seq ?_
    refine Tr.condT rfl (range_on hdF_shape_Set__Many_L1) ?_
    refine Tr.skip (Tr.normThen ?_)
    refine Tr.seq ?_
    refine Tr.block ?_
    refine Tr.seq ?_
    refine Tr.region ?_
    obtain ⟨u113, hRu113, hoku113, hcu113⟩ := (hp0_0).el (range_at hdF_shape_Set__Many_L1)
    obtain ⟨Au113_0, cu113_0⟩ := u113
    have hoku113_0 := hoku113
    replace hoku113_0 : Sl w.R w.W fl_i64 Au113_0 cu113_0 xF_shape_Set__Many_L1.Xs := hoku113_0
    refine Tr.val (wn rfl) rfl (fun _ _ h1 h2 => run_indexAddr el_43 (h1.ev rfl) hp0_0.form (h1.ev rfl) (Int.natCast_nonneg _) (range_lt hdF_shape_Set__Many_L1)) ?_
    refine Tr.val (wn rfl) rfl (fun _ _ h1 h2 => run_loadN (cs := [(.int .i64 xF_shape_Set__Many_L1.Y0), (.int .i64 xF_shape_Set__Many_L1.Y1), (.slice Au113_0 (xF_shape_Set__Many_L1.Xs).length cu113_0)]) ag_76 sz_76 (h1.ev rfl) (CellsAt.take (rdR hRu113 hcu113 h2) 3) rfl) ?_
    refine Tr.alloc 3 (wn rfl) rfl ze_76 fun b114 => ?_
    refine Tr.store 3 (cs := [(.int .i64 xF_shape_Set__Many_L1.Y0), (.int .i64 xF_shape_Set__Many_L1.Y1), (.slice Au113_0 (xF_shape_Set__Many_L1.Xs).length cu113_0)]) [(.int .i64 xF_shape_Set__Many_L1.Y0), (.int .i64 xF_shape_Set__Many_L1.Y1), (.slice Au113_0 (xF_shape_Set__Many_L1.Xs).length cu113_0)] (wn rfl) rfl rfl rfl rfl sz_76 rfl rfl rfl ?_
    refine Tr.nil (Tr.normThen ?_)
    refine Tr.region ?_
    refine Tr.val (wn rfl) rfl (fun _ _ h1 h2 => run_move (h1.ev rfl)) ?_
    refine Tr.val (wn rfl) rfl (fun _ _ h1 h2 => run_fieldAddr fo_76_2 (h1.ev rfl)) ?_
    refine Tr.val (wn rfl) rfl (fun _ _ h1 h2 => run_load1 ag_68 (h1.ev rfl) (rdb h2 (vs := [(.int .i64 xF_shape_Set__Many_L1.Y0), (.int .i64 xF_shape_Set__Many_L1.Y1), (.slice Au113_0 (xF_shape_Set__Many_L1.Xs).length cu113_0)]) (k := 3) rfl 2) rfl) ?_
    refine Tr.val (wn rfl) rfl (fun _ _ h1 h2 => run_len un_68 (h1.ev rfl)) ?_
    refine Tr.val (wn rfl) rfl (fun _ _ h1 h2 => run_quo (h1.ev rfl) (h1.ev rfl) (by decide)) ?_
    refine Tr.val (wn rfl) rfl (fun _ _ h1 h2 => run_add (h1.ev rfl) (h1.ev rfl)) ?_
    refine Tr.val (wn rfl) rfl (fun _ _ h1 h2 => run_assign (h1.ev rfl)) ?_
    refine Tr.nil (Tr.normBlock (Tr.normThen ?_))
    refine Tr.region ?_
    refine Tr.val (wn rfl) rfl (fun _ _ h1 h2 => run_add (h1.ev rfl) (h1.ev rfl)) ?_
    refine Tr.val (wn rfl) rfl (fun _ _ h1 h2 => run_move (h1.ev rfl)) ?_
    refine Tr.nil ?_
    exact Tr.backThen leF_shape_Set__Many_L1 (restF_shape_Set__Many_L1, (iF_shape_Set__Many_L1 + 1), (w64 (x112 + (w64 (Int.tdiv (xF_shape_Set__Many_L1.Xs.length : Int) 2))))) ⟨rfl, range_tl hdF_shape_Set__Many_L1, range_lt hdF_shape_Set__Many_L1, H⟩ (.cons rfl (.cons rfl (.cons rfl (.cons (congrArg (fun z => some (Value.int .i64 z)) (range_up hdF_shape_Set__Many_L1 hp0_0.form)) .nil)))) .nil

theorem F_shape_Set__Told_ok (N : Nat) {w : Bs} (p0 : (List TBand)) (Ap0_0 : Option Addr) (cp0_0 : Nat) (hp0_0 : Sl w.R w.W fl_TBand Ap0_0 cp0_0 p0) (r : ((List TRect) × Int)) (H : F_shape_Set__Told N p0 = some r) (hE : HF w w.W (LEn [emp])) : Calls Try.prog 14 [(.slice Ap0_0 (p0).length cp0_0)].toArray w.W fun e W' => ∃ u : (Option Addr × Nat), e = .returned (.tuple #[(.slice u.1 (r.1).length u.2), (.int .i64 r.2)]) ∧ (SlF u.1 (r.1).length u.2) ∧ HF w W' (LEn [ow u.1 u.2 49 fl_TRect r.1]) := by
  unfold F_shape_Set__Told at H
  have leB := Bs.Le.refl w
  refine Tr.enter (n := 9) Try.func14 rfl rfl rfl hE ?_
  refine Tr.seq ?_
  refine Tr.region ?_
  refine Tr.val (wn rfl) rfl (fun _ _ h1 h2 => run_assign (h1.ev rfl)) ?_
  refine Tr.nilOwn 1 49 fl_TRect ?_
  show Tr _ _ (uf _ 2 (.slice none (([] : List TRect)).length 0)) _ _
  refine Tr.val (wn rfl) rfl (fun _ _ h1 h2 => run_assign (h1.ev rfl)) ?_
  refine Tr.nil (Tr.normThen ?_)
  refine Tr.seq ?_
  refine Tr.seq ?_
  refine Tr.region ?_
  refine Tr.val (wn rfl) rfl (fun _ _ h1 h2 => run_move (h1.ev rfl)) ?_
  obtain ⟨y100, hy100, H⟩ := bnd H
  refine Tr.call0 (r := (.int .i64 y100)) (wn rfl) rfl Try.call34 (evl_cons rfl evl_nil) (fun W hW => F_shape_Set__Many_ok p0 Ap0_0 cp0_0 (hp0_0.ext hW.extAll) y100 hy100 (HF.start _)) ?_
  refine Tr.val (wn rfl) rfl (fun _ _ h1 h2 => run_gtr (h1.ev rfl) (h1.ev rfl)) ?_
  refine Tr.nil (Tr.normThen ?_)
  refine Tr.cond rfl H (fun H => ?_) (fun H => ?_)
  · refine Tr.seq ?_
    refine Tr.region ?_
    refine Tr.val (wn rfl) rfl (fun _ _ h1 h2 => run_assign (h1.ev rfl)) ?_
    refine Tr.nilOwn 2 49 fl_TRect ?_
    show Tr _ _ (uf _ 2 (.slice none (([] : List TRect)).length 0)) _ _
    refine Tr.val (wn rfl) rfl (fun _ _ h1 h2 => run_assign (h1.ev rfl)) ?_
    refine Tr.nil (Tr.normThen ?_)
    refine Tr.ret (Tr.retThen ?_)
    obtain rfl := Option.some.inj H
    exact Tr.out (m := [(.slice none (([] : List TRect)).length 0), (.int .i64 2)]) [] (res_tmp rfl (res_tmp rfl res_nil)) (fun W hW => ⟨(none, 0), rfl, slf_nil, HF.lowE leB (hW.pick (ks := [2]) (by decide) (pk_cons rfl pk_nil)) ⟨ow_any _ _ _ _ tr_TRect, trivial⟩⟩)
  · refine Tr.skip (Tr.normThen ?_)
    refine Tr.seq ?_
    refine Tr.region ?_
    refine Tr.val (wn rfl) rfl (fun _ _ h1 h2 => run_move (h1.ev rfl)) ?_
    obtain ⟨y101, hy101, H⟩ := bnd H
    refine Tr.callM [3] [emp] (U := (Option Addr × Nat)) (fun u => (.slice u.1 (y101).length u.2)) (fun u => SlF u.1 (y101).length u.2) (fun u => [ow u.1 u.2 49 fl_TRect y101]) rfl (pk_cons rfl pk_nil) (fun _ => rfl) (wn rfl) rfl Try.call22 (evl_cons rfl evl_nil) (fun W hW hp hE => F_shape_Set__Rects_ok N p0 Ap0_0 cp0_0 (hp0_0.ext (hW.extS hp)) y101 hy101 hE) ?_
    intro u hu
    obtain ⟨Ay101_0, cy101_0⟩ := u
    have gy101_0 := hu
    have hgy101_0 : SlF Ay101_0 (y101).length cy101_0 := gy101_0 --@phi
    show Tr _ _ (uf _ 8 (.slice Ay101_0 (y101).length cy101_0)) (up _ 3 (ow Ay101_0 cy101_0 49 fl_TRect y101)) _
    refine Tr.val (wn rfl) rfl (fun _ _ h1 h2 => run_assign (h1.ev rfl)) ?_
    refine Tr.val (wn rfl) rfl (fun _ _ h1 h2 => run_assign (h1.ev rfl)) ?_
    refine Tr.nil (Tr.normThen ?_)
    refine Tr.ret ?_
    obtain rfl := Option.some.inj H
    exact Tr.out (m := [(.slice Ay101_0 (y101).length cy101_0), (.int .i64 0)]) [] (res_tmp rfl (res_tmp rfl res_nil)) (fun W hW => ⟨(Ay101_0, cy101_0), rfl, hgy101_0, HF.lowE leB (hW.pick (ks := [3]) (by decide) (pk_cons rfl pk_nil)) ⟨ow_any _ _ _ _ tr_TRect, trivial⟩⟩)

theorem F_panel_Copper_ok (N : Nat) {w : Bs} (p0 : TPanel) (Ap0_0 : Option Addr) (cp0_0 : Nat) (hp0_0 : Sl w.R w.W fl_TBoardKind Ap0_0 cp0_0 p0.Kinds) (Ap0_1 : Option Addr) (cp0_1 : Nat) (hp0_1 : Sl w.R w.W fl_TSlot Ap0_1 cp0_1 p0.Slots) (Ap0_2 : Option Addr) (cp0_2 : Nat) (hp0_2 : Sl w.R w.W fl_TPoint Ap0_2 cp0_2 p0.Marks) (p1 : ByteArray) (p2 : (List TRect)) (Ap2_0 : Option Addr) (cp2_0 : Nat) (hp2_0 : Sl w.R w.W fl_TRect Ap2_0 cp2_0 p2) (r : ((List TRect) × Int)) (H : F_panel_Copper N p0 p1 p2 = some r) (hE : HF w w.W (LEn [emp])) : Calls Try.prog 4 [(.agg #[(.int .i64 p0.W), (.int .i64 p0.H), (.int .i64 p0.Rail), (.int .i64 p0.Gap), (.slice Ap0_0 (p0.Kinds).length cp0_0), (.slice Ap0_1 (p0.Slots).length cp0_1), (.slice Ap0_2 (p0.Marks).length cp0_2)]), (.string p1), (.slice Ap2_0 (p2).length cp2_0)].toArray w.W fun e W' => ∃ u : (Option Addr × Nat), e = .returned (.tuple #[(.slice u.1 (r.1).length u.2), (.int .i64 r.2)]) ∧ (SlF u.1 (r.1).length u.2) ∧ HF w W' (LEn [ow u.1 u.2 49 fl_TRect r.1]) := by
  unfold F_panel_Copper at H
  have leB := Bs.Le.refl w
  refine Tr.enter (n := 86) Try.func4 rfl rfl rfl hE ?_
  refine Tr.seq ?_
  refine Tr.region ?_
  refine Tr.box 1 (cs := [(.int .i64 p0.W), (.int .i64 p0.H), (.int .i64 p0.Rail), (.int .i64 p0.Gap), (.slice Ap0_0 (p0.Kinds).length cp0_0), (.slice Ap0_1 (p0.Slots).length cp0_1), (.slice Ap0_2 (p0.Marks).length cp0_2)]) (wn rfl) rfl rfl rfl fun b100 => ?_
  refine Tr.val (wn rfl) rfl (fun _ _ h1 h2 => run_assign (h1.ev rfl)) ?_
  refine Tr.nilOwn 2 49 fl_TRect ?_
  show Tr _ _ (uf _ 6 (.slice none (([] : List TRect)).length 0)) _ _
  refine Tr.val (wn rfl) rfl (fun _ _ h1 h2 => run_assign (h1.ev rfl)) ?_
  refine Tr.nil (Tr.normThen ?_)
  refine Tr.seq ?_
  refine Tr.seq ?_
  refine Tr.region ?_
  refine Tr.val (wn rfl) rfl (fun _ _ h1 h2 => run_loadN (cs := [(.int .i64 p0.W), (.int .i64 p0.H), (.int .i64 p0.Rail), (.int .i64 p0.Gap), (.slice Ap0_0 (p0.Kinds).length cp0_0), (.slice Ap0_1 (p0.Slots).length cp0_1), (.slice Ap0_2 (p0.Marks).length cp0_2)]) ag_26 sz_26 (h1.ev rfl) (CellsAt.take (rdb h2 (vs := [(.int .i64 p0.W), (.int .i64 p0.H), (.int .i64 p0.Rail), (.int .i64 p0.Gap), (.slice Ap0_0 (p0.Kinds).length cp0_0), (.slice Ap0_1 (p0.Slots).length cp0_1), (.slice Ap0_2 (p0.Marks).length cp0_2)]) (k := 1) rfl 0) 7) rfl) ?_
  obtain ⟨y101, hy101, H⟩ := bnd H
  refine Tr.call0 (r := (.int .i64 y101)) (wn rfl) rfl Try.call7 (evl_cons rfl evl_nil) (fun W hW => F_panel_CheckPanel_ok N p0 Ap0_0 cp0_0 (hp0_0.ext hW.extAll) Ap0_1 cp0_1 (hp0_1.ext hW.extAll) Ap0_2 cp0_2 (hp0_2.ext hW.extAll) y101 hy101 (HF.start _)) ?_
  refine Tr.val (wn rfl) rfl (fun _ _ h1 h2 => run_assign (h1.ev rfl)) ?_
  refine Tr.nil (Tr.normThen ?_)
  refine Tr.seq ?_
  refine Tr.region ?_
  refine Tr.val (wn rfl) rfl (fun _ _ h1 h2 => run_move (h1.ev rfl)) ?_
  refine Tr.val (wn rfl) rfl (fun _ _ h1 h2 => run_neq (h1.ev rfl) (h1.ev rfl)) ?_
  refine Tr.nil (Tr.normThen ?_)
  refine Tr.cond rfl H (fun H => ?_) (fun H => ?_)
  · refine Tr.seq ?_
    refine Tr.region ?_
    refine Tr.val (wn rfl) rfl (fun _ _ h1 h2 => run_move (h1.ev rfl)) ?_
    refine Tr.val (wn rfl) rfl (fun _ _ h1 h2 => run_assign (h1.ev rfl)) ?_
    refine Tr.nilOwn 3 49 fl_TRect ?_
    show Tr _ _ (uf _ 6 (.slice none (([] : List TRect)).length 0)) _ _
    refine Tr.val (wn rfl) rfl (fun _ _ h1 h2 => run_assign (h1.ev rfl)) ?_
    refine Tr.nil (Tr.normThen ?_)
    refine Tr.ret (Tr.retThen ?_)
    obtain rfl := Option.some.inj H
    exact Tr.out (m := [(.slice none (([] : List TRect)).length 0), (.int .i64 y101)]) [] (res_tmp rfl (res_tmp rfl res_nil)) (fun W hW => ⟨(none, 0), rfl, slf_nil, HF.lowE leB (hW.pick (ks := [3]) (by decide) (pk_cons rfl pk_nil)) ⟨ow_any _ _ _ _ tr_TRect, trivial⟩⟩)
  · refine Tr.skip (Tr.normThen ?_)
    refine Tr.seq ?_
    refine Tr.region ?_
    refine Tr.val (wn rfl) rfl (fun _ _ h1 h2 => run_loadN (cs := [(.int .i64 p0.W), (.int .i64 p0.H), (.int .i64 p0.Rail), (.int .i64 p0.Gap), (.slice Ap0_0 (p0.Kinds).length cp0_0), (.slice Ap0_1 (p0.Slots).length cp0_1), (.slice Ap0_2 (p0.Marks).length cp0_2)]) ag_26 sz_26 (h1.ev rfl) (CellsAt.take (rdb h2 (vs := [(.int .i64 p0.W), (.int .i64 p0.H), (.int .i64 p0.Rail), (.int .i64 p0.Gap), (.slice Ap0_0 (p0.Kinds).length cp0_0), (.slice Ap0_1 (p0.Slots).length cp0_1), (.slice Ap0_2 (p0.Marks).length cp0_2)]) (k := 1) rfl 0) 7) rfl) ?_
    refine Tr.val (wn rfl) rfl (fun _ _ h1 h2 => run_move (h1.ev rfl)) ?_
    obtain ⟨y102, hy102, H⟩ := bnd H
    refine Tr.call0 (r := (.int .i64 y102)) (wn rfl) rfl Try.call8 (evl_cons rfl (evl_cons rfl evl_nil)) (fun W hW => F_panel_kindAt_ok p0 Ap0_0 cp0_0 (hp0_0.ext hW.extAll) Ap0_1 cp0_1 (hp0_1.ext hW.extAll) Ap0_2 cp0_2 (hp0_2.ext hW.extAll) p1 y102 hy102 (HF.start _)) ?_
    refine Tr.val (wn rfl) rfl (fun _ _ h1 h2 => run_assign (h1.ev rfl)) ?_
    refine Tr.nil (Tr.normThen ?_)
    refine Tr.seq ?_
    refine Tr.seq ?_
    refine Tr.region ?_
    refine Tr.val (wn rfl) rfl (fun _ _ h1 h2 => run_move (h1.ev rfl)) ?_
    refine Tr.val (wn rfl) rfl (fun _ _ h1 h2 => run_lss (h1.ev rfl) (h1.ev rfl)) ?_
    refine Tr.nil (Tr.normThen ?_)
    refine Tr.cond rfl H (fun H => ?_) (fun H => ?_)
    · refine Tr.seq ?_
      refine Tr.region ?_
      refine Tr.val (wn rfl) rfl (fun _ _ h1 h2 => run_assign (h1.ev rfl)) ?_
      refine Tr.nilOwn 4 49 fl_TRect ?_
      show Tr _ _ (uf _ 6 (.slice none (([] : List TRect)).length 0)) _ _
      refine Tr.val (wn rfl) rfl (fun _ _ h1 h2 => run_assign (h1.ev rfl)) ?_
      refine Tr.nil (Tr.normThen ?_)
      refine Tr.ret (Tr.retThen ?_)
      obtain rfl := Option.some.inj H
      exact Tr.out (m := [(.slice none (([] : List TRect)).length 0), (.int .i64 9)]) [] (res_tmp rfl (res_tmp rfl res_nil)) (fun W hW => ⟨(none, 0), rfl, slf_nil, HF.lowE leB (hW.pick (ks := [4]) (by decide) (pk_cons rfl pk_nil)) ⟨ow_any _ _ _ _ tr_TRect, trivial⟩⟩)
    · refine Tr.skip (Tr.normThen ?_)
      refine Tr.seq ?_
      refine Tr.seq ?_
      refine Tr.region ?_
      refine Tr.val (wn rfl) rfl (fun _ _ h1 h2 => run_move (h1.ev rfl)) ?_
      obtain ⟨y103, hy103, H⟩ := bnd H
      refine Tr.call0 (r := (.int .i64 y103)) (wn rfl) rfl Try.call9 (evl_cons rfl evl_nil) (fun W hW => F_shape_CheckRegion_ok N p2 Ap2_0 cp2_0 (hp2_0.ext hW.extAll) y103 hy103 (HF.start _)) ?_
      refine Tr.val (wn rfl) rfl (fun _ _ h1 h2 => run_assign (h1.ev rfl)) ?_
      refine Tr.nil (Tr.normThen ?_)
      refine Tr.seq ?_
      refine Tr.region ?_
      refine Tr.val (wn rfl) rfl (fun _ _ h1 h2 => run_move (h1.ev rfl)) ?_
      refine Tr.val (wn rfl) rfl (fun _ _ h1 h2 => run_neq (h1.ev rfl) (h1.ev rfl)) ?_
      refine Tr.nil (Tr.normThen ?_)
      refine Tr.cond rfl H (fun H => ?_) (fun H => ?_)
      · refine Tr.seq ?_
        refine Tr.region ?_
        refine Tr.val (wn rfl) rfl (fun _ _ h1 h2 => run_move (h1.ev rfl)) ?_
        refine Tr.val (wn rfl) rfl (fun _ _ h1 h2 => run_assign (h1.ev rfl)) ?_
        refine Tr.nilOwn 5 49 fl_TRect ?_
        show Tr _ _ (uf _ 6 (.slice none (([] : List TRect)).length 0)) _ _
        refine Tr.val (wn rfl) rfl (fun _ _ h1 h2 => run_assign (h1.ev rfl)) ?_
        refine Tr.nil (Tr.normThen ?_)
        refine Tr.ret (Tr.retThen ?_)
        obtain rfl := Option.some.inj H
        exact Tr.out (m := [(.slice none (([] : List TRect)).length 0), (.int .i64 y103)]) [] (res_tmp rfl (res_tmp rfl res_nil)) (fun W hW => ⟨(none, 0), rfl, slf_nil, HF.lowE leB (hW.pick (ks := [5]) (by decide) (pk_cons rfl pk_nil)) ⟨ow_any _ _ _ _ tr_TRect, trivial⟩⟩)
      · refine Tr.skip (Tr.normThen ?_)
        refine Tr.seq ?_
        refine Tr.region ?_
        refine Tr.val (wn rfl) rfl (fun _ _ h1 h2 => run_move (h1.ev rfl)) ?_
        obtain ⟨y104, hy104, H⟩ := bnd H
        refine Tr.callG [6] [emp] (U := (Option Addr × Nat)) (fun u => (.slice u.1 (y104).length u.2)) (fun O W u => SlF u.1 (y104).length u.2) (fun u => [ow u.1 u.2 76 fl_TBand y104]) rfl (pk_cons rfl pk_nil) (fun _ => rfl) (wn rfl) rfl Try.call10 (evl_cons rfl evl_nil) (fun W hW hp hE => F_shape_SetOf_ok N p2 Ap2_0 cp2_0 (hp2_0.ext (hW.extS hp)) y104 hy104 hE) ?_
        intro w u le105 hu
        obtain ⟨Ay104_0, cy104_0⟩ := u
        have gy104_0 := hu
        replace hp0_0 := hp0_0.leR le105
        replace hp0_1 := hp0_1.leR le105
        replace hp0_2 := hp0_2.leR le105
        replace hp2_0 := hp2_0.leR le105
        replace leB := leB.trans le105
        have hgy104_0 : SlF Ay104_0 (y104).length cy104_0 := gy104_0 --@phi
        show Tr _ _ (uf _ 34 (.slice Ay104_0 (y104).length cy104_0)) (up _ 6 (ow Ay104_0 cy104_0 76 fl_TBand y104)) _
        refine Tr.val (wn rfl) rfl (fun _ _ h1 h2 => run_assign (h1.ev rfl)) ?_
        refine Tr.nil (Tr.normThen ?_)
        refine Tr.seq ?_
        refine Tr.seq ?_
        refine Tr.freeze 6 rfl fun w le107 hz106 => ?_
        replace hp0_0 := hp0_0.leR le107
        replace hp0_1 := hp0_1.leR le107
        replace hp0_2 := hp0_2.leR le107
        replace hp2_0 := hp2_0.leR le107
        replace leB := leB.trans le107
        refine Tr.drawC 16 [] [] (by kernel_rfl) (by kernel_rfl) fun sz108 hlosz108 hEsz108 => ?_
        refine Dr.quiet 0 [(35, (.slice Ay104_0 (y104).length cy104_0))] (by kernel_rfl) rfl rfl (by kernel_rfl) ?_ rfl rfl ?_
        · refine Tq.val (wn rfl) rfl (fun _ _ h1 h2 => run_move (h1.ev rfl)) ?_
          exact Tq.fin (.cons rfl .nil)
        refine Dr.quiet 1 [(36, (.pointer (some ⟨b100, 4, none⟩)))] (by kernel_rfl) rfl rfl (by kernel_rfl) ?_ rfl rfl ?_
        · refine Tq.val (wn rfl) rfl (fun _ _ h1 h2 => run_fieldAddr fo_26_4 (h1.ev rfl)) ?_
          exact Tq.fin (.cons rfl .nil)
        refine Dr.quiet 2 [(37, (.slice Ap0_0 (p0.Kinds).length cp0_0))] (by kernel_rfl) rfl rfl (by kernel_rfl) ?_ rfl rfl ?_
        · refine Tq.val (wn rfl) rfl (fun _ _ h1 h2 => run_load1 ag_22 (h1.ev rfl) (rdb h2 (vs := [(.int .i64 p0.W), (.int .i64 p0.H), (.int .i64 p0.Rail), (.int .i64 p0.Gap), (.slice Ap0_0 (p0.Kinds).length cp0_0), (.slice Ap0_1 (p0.Slots).length cp0_1), (.slice Ap0_2 (p0.Marks).length cp0_2)]) (k := 1) rfl 4) rfl) ?_
          exact Tq.fin (.cons rfl .nil)
        refine Dr.quiet 3 [(38, (.int .i64 y102))] (by kernel_rfl) rfl rfl (by kernel_rfl) ?_ rfl rfl ?_
        · refine Tq.val (wn rfl) rfl (fun _ _ h1 h2 => run_move (h1.ev rfl)) ?_
          exact Tq.fin (.cons rfl .nil)
        obtain ⟨x109, hx109, H⟩ := bnd H
        obtain ⟨hx1090, hx1091, hx1092⟩ := idx_some hx109
        refine Dr.quiet 4 [(39, (.pointer (some ⟨adB Ap0_0, adO Ap0_0 + (y102).toNat * 3, none⟩)))] (by kernel_rfl) rfl rfl (by kernel_rfl) ?_ rfl rfl ?_
        · refine Tq.val (wn rfl) rfl (fun _ _ h1 h2 => run_indexAddr el_22 (h1.ev rfl) hp0_0.form (h1.ev rfl) hx1090 hx1091) ?_
          exact Tq.fin (.cons rfl .nil)
        refine Dr.quiet 5 [(40, (.pointer (some ⟨adB Ap0_0, adO Ap0_0 + (y102).toNat * 3 + 1, none⟩)))] (by kernel_rfl) rfl rfl (by kernel_rfl) ?_ rfl rfl ?_
        · refine Tq.val (wn rfl) rfl (fun _ _ h1 h2 => run_fieldAddr fo_47_1 (h1.ev rfl)) ?_
          exact Tq.fin (.cons rfl .nil)
        refine Dr.quiet 6 [(41, (.int .i64 x109.W))] (by kernel_rfl) rfl rfl (by kernel_rfl) ?_ rfl rfl ?_
        · refine Tq.val (wn rfl) rfl (fun _ _ h1 h2 => run_load1 ag_3 (h1.ev rfl) (CellsAt.drop (rdF ef_TBoardKind hp0_0 hx1092 h2) 1) rfl) ?_
          exact Tq.fin (.cons rfl .nil)
        refine Dr.quiet 7 [(42, (.pointer (some ⟨b100, 4, none⟩)))] (by kernel_rfl) rfl rfl (by kernel_rfl) ?_ rfl rfl ?_
        · refine Tq.val (wn rfl) rfl (fun _ _ h1 h2 => run_fieldAddr fo_26_4 (h1.ev rfl)) ?_
          exact Tq.fin (.cons rfl .nil)
        refine Dr.quiet 8 [(43, (.slice Ap0_0 (p0.Kinds).length cp0_0))] (by kernel_rfl) rfl rfl (by kernel_rfl) ?_ rfl rfl ?_
        · refine Tq.val (wn rfl) rfl (fun _ _ h1 h2 => run_load1 ag_22 (h1.ev rfl) (rdb h2 (vs := [(.int .i64 p0.W), (.int .i64 p0.H), (.int .i64 p0.Rail), (.int .i64 p0.Gap), (.slice Ap0_0 (p0.Kinds).length cp0_0), (.slice Ap0_1 (p0.Slots).length cp0_1), (.slice Ap0_2 (p0.Marks).length cp0_2)]) (k := 1) rfl 4) rfl) ?_
          exact Tq.fin (.cons rfl .nil)
        refine Dr.quiet 9 [(44, (.int .i64 y102))] (by kernel_rfl) rfl rfl (by kernel_rfl) ?_ rfl rfl ?_
        · refine Tq.val (wn rfl) rfl (fun _ _ h1 h2 => run_move (h1.ev rfl)) ?_
          exact Tq.fin (.cons rfl .nil)
        obtain ⟨x110, hx110, H⟩ := bnd H
        obtain ⟨hx1100, hx1101, hx1102⟩ := idx_some hx110
        refine Dr.quiet 10 [(45, (.pointer (some ⟨adB Ap0_0, adO Ap0_0 + (y102).toNat * 3, none⟩)))] (by kernel_rfl) rfl rfl (by kernel_rfl) ?_ rfl rfl ?_
        · refine Tq.val (wn rfl) rfl (fun _ _ h1 h2 => run_indexAddr el_22 (h1.ev rfl) hp0_0.form (h1.ev rfl) hx1100 hx1101) ?_
          exact Tq.fin (.cons rfl .nil)
        refine Dr.quiet 11 [(46, (.pointer (some ⟨adB Ap0_0, adO Ap0_0 + (y102).toNat * 3 + 2, none⟩)))] (by kernel_rfl) rfl rfl (by kernel_rfl) ?_ rfl rfl ?_
        · refine Tq.val (wn rfl) rfl (fun _ _ h1 h2 => run_fieldAddr fo_47_2 (h1.ev rfl)) ?_
          exact Tq.fin (.cons rfl .nil)
        refine Dr.quiet 12 [(47, (.int .i64 x110.H))] (by kernel_rfl) rfl rfl (by kernel_rfl) ?_ rfl rfl ?_
        · refine Tq.val (wn rfl) rfl (fun _ _ h1 h2 => run_load1 ag_3 (h1.ev rfl) (CellsAt.drop (rdF ef_TBoardKind hp0_0 hx1102 h2) 2) rfl) ?_
          exact Tq.fin (.cons rfl .nil)
        refine Dr.quiet 13 [(48, (.agg #[(.int .i64 0), (.int .i64 0), (.int .i64 x109.W), (.int .i64 x110.H)]))] (by kernel_rfl) rfl rfl (by kernel_rfl) ?_ rfl rfl ?_
        · refine Tq.build (vs := [(2, (.int .i64 x109.W)), (3, (.int .i64 x110.H))]) (cs := [(.int .i64 0), (.int .i64 0), (.int .i64 x109.W), (.int .i64 x110.H)]) (wn rfl) rfl (evs_cons rfl (evs_cons rfl evs_nil)) (by kernel_rfl) ?_
          exact Tq.fin (.cons rfl .nil)
        refine Dr.one 14 (by kernel_rfl) ?_
        refine St.buildSlice 14 7 (e := 49) (vs := [(0, (.agg #[(.int .i64 0), (.int .i64 0), (.int .i64 x109.W), (.int .i64 x110.H)]))]) (cs := [(.int .i64 0), (.int .i64 0), (.int .i64 x109.W), (.int .i64 x110.H)]) rfl (wn rfl) rfl (evs_cons rfl evs_nil) (by kernel_rfl) fun b111 hb111 => ?_
        obtain ⟨y112, hy112, H⟩ := bnd H
        refine Dr.one 15 (by kernel_rfl) ?_
        refine St.own 7 fl_TRect [(TRect.mk 0 0 x109.W x110.H)] (css := [[(.int .i64 0), (.int .i64 0), (.int .i64 x109.W), (.int .i64 x110.H)]]) rfl (.cons ⟨(), trivial, rfl⟩ .nil) rfl (by decide) (lit_max rfl) ?_
        refine St.callG 15 [8] [emp] (U := (Option Addr × Nat)) (fun u => (.slice u.1 (y112).length u.2)) (fun O W u => SlF u.1 (y112).length u.2) (fun u => [ow u.1 u.2 76 fl_TBand y112]) rfl (pk_cons rfl pk_nil) (fun _ => rfl) (insS_no rfl) rfl (wn rfl) rfl Try.call10 (evl_cons rfl evl_nil) (fun W hW hp hE => F_shape_SetOf_ok N [(TRect.mk 0 0 x109.W x110.H)] (some ⟨b111, 0, none⟩) 1 (hW.slS (k := 7) rfl hp rfl) y112 hy112 hE) ?_
        intro w u le113 hu hsy112
        obtain ⟨Ay112_0, cy112_0⟩ := u
        have gy112_0 := hu
        replace hp0_0 := hp0_0.leR le113
        replace hp0_1 := hp0_1.leR le113
        replace hp0_2 := hp0_2.leR le113
        replace hp2_0 := hp2_0.leR le113
        replace hz106 := hz106.le le113
        replace leB := leB.trans le113
        have hgy112_0 : SlF Ay112_0 (y112).length cy112_0 := gy112_0
        show Dr _ _ _ _ _ _ _ _ _ (uf _ 50 (.slice Ay112_0 (y112).length cy112_0)) (up _ 8 (ow Ay112_0 cy112_0 76 fl_TBand y112))
        refine Dr.tail (by kernel_rfl) ?_
        refine Tr.freeze 8 rfl fun w le115 hz114 => ?_
        replace hp0_0 := hp0_0.leR le115
        replace hp0_1 := hp0_1.leR le115
        replace hp0_2 := hp0_2.leR le115
        replace hp2_0 := hp2_0.leR le115
        replace hz106 := hz106.le le115
        replace leB := leB.trans le115
        obtain ⟨y116, hy116, H⟩ := bnd H
        refine Tr.call0 (r := (.bool y116)) (wn rfl) rfl Try.call11 (evl_cons rfl (evl_cons rfl evl_nil)) (fun W hW => F_shape_Set__In_ok N y104 Ay104_0 cy104_0 (hz106.extO hW.extAll) y112 Ay112_0 cy112_0 (hz114.extO hW.extAll) y116 hy116 (HF.start _)) ?_
        refine Tr.val (wn rfl) rfl (fun _ _ h1 h2 => run_not (h1.ev rfl)) ?_
        refine Tr.nil (Tr.normThen ?_)
        refine Tr.cond rfl H (fun H => ?_) (fun H => ?_)
        · refine Tr.seq ?_
          refine Tr.region ?_
          refine Tr.val (wn rfl) rfl (fun _ _ h1 h2 => run_assign (h1.ev rfl)) ?_
          refine Tr.nilOwn 9 49 fl_TRect ?_
          show Tr _ _ (uf _ 6 (.slice none (([] : List TRect)).length 0)) _ _
          refine Tr.val (wn rfl) rfl (fun _ _ h1 h2 => run_assign (h1.ev rfl)) ?_
          refine Tr.nil (Tr.normThen ?_)
          refine Tr.ret (Tr.retThen ?_)
          obtain rfl := Option.some.inj H
          exact Tr.out (m := [(.slice none (([] : List TRect)).length 0), (.int .i64 1)]) [] (res_tmp rfl (res_tmp rfl res_nil)) (fun W hW => ⟨(none, 0), rfl, slf_nil, HF.lowE leB (hW.pick (ks := [9]) (by decide) (pk_cons rfl pk_nil)) ⟨ow_any _ _ _ _ tr_TRect, trivial⟩⟩)
        · refine Tr.skip (Tr.normThen ?_)
          refine Tr.seq ?_
          refine Tr.region ?_
          refine Tr.val (wn rfl) rfl (fun _ _ h1 h2 => run_assign (h1.ev rfl)) ?_
          refine Tr.nilOwn 10 49 fl_TRect ?_
          show Tr _ _ (uf _ 12 (.slice none (([] : List TRect)).length 0)) _ _
          refine Tr.nil (Tr.normThen ?_)
          refine Tr.seq ?_
          refine Tr.seq ?_
          refine Tr.region ?_
          refine Tr.val (wn rfl) rfl (fun _ _ h1 h2 => run_fieldAddr fo_26_5 (h1.ev rfl)) ?_
          refine Tr.val (wn rfl) rfl (fun _ _ h1 h2 => run_load1 ag_23 (h1.ev rfl) (rdb h2 (vs := [(.int .i64 p0.W), (.int .i64 p0.H), (.int .i64 p0.Rail), (.int .i64 p0.Gap), (.slice Ap0_0 (p0.Kinds).length cp0_0), (.slice Ap0_1 (p0.Slots).length cp0_1), (.slice Ap0_2 (p0.Marks).length cp0_2)]) (k := 1) rfl 5) rfl) ?_
          refine Tr.val (wn rfl) rfl (fun _ _ h1 h2 => run_len un_23 (h1.ev rfl)) ?_
          refine Tr.val (wn rfl) rfl (fun _ _ h1 h2 => run_move (h1.ev rfl)) ?_
          refine Tr.nil (Tr.normThen ?_)
          refine Tr.block ?_
          refine Tr.loop (σ := (List TSlot) × Nat × (List TRect) × (Option Addr) × Nat) (fun m w s => m = s.1.length + 1 ∧ s.1 = List.drop s.2.1 p0.Slots ∧ s.2.1 ≤ p0.Slots.length ∧ F_panel_Copper_L3 N p0 p1 p2 s.1 s.2.1 s.2.2.1 = some r ∧ SlF s.2.2.2.1 (s.2.2.1).length s.2.2.2.2) (fun s => [(1, (.string p1)), (2, (.slice Ap2_0 (p2).length cp2_0)), (3, (.pointer (some ⟨b100, 0, none⟩))), (12, (.slice s.2.2.2.1 (s.2.2.1).length s.2.2.2.2)), (54, (.slice Ap0_1 (p0.Slots).length cp0_1)), (55, (.int .i64 (p0.Slots.length : Int))), (56, (.int .i64 (s.2.1 : Int)))]) (fun s => [(1, bx b100 #[(.int .i64 p0.W), (.int .i64 p0.H), (.int .i64 p0.Rail), (.int .i64 p0.Gap), (.slice Ap0_0 (p0.Kinds).length cp0_0), (.slice Ap0_1 (p0.Slots).length cp0_1), (.slice Ap0_2 (p0.Marks).length cp0_2)] 26), (10, ow s.2.2.2.1 s.2.2.2.2 49 fl_TRect s.2.2.1)]) (p0.Slots.length + 1) (p0.Slots, 0, ([] : List TRect), none, 0) ⟨rfl, rfl, Nat.zero_le _, H, slf_nil⟩ (.cons rfl (.cons rfl (.cons rfl (.cons rfl (.cons rfl (.cons rfl (.cons rfl .nil))))))) (.cons rfl (.cons rfl .nil)) (fun _ _ h => absurd h.1 (by simp)) ?_
          intro w leF_panel_Copper_L3 m s hs
          obtain ⟨restF_panel_Copper_L3, iF_panel_Copper_L3, l173, Al173, cl173⟩ := s
          obtain ⟨hmF_panel_Copper_L3, hdF_panel_Copper_L3, hiF_panel_Copper_L3, H, hl173⟩ := hs
          replace hdF_panel_Copper_L3 : restF_panel_Copper_L3 = List.drop iF_panel_Copper_L3 p0.Slots := hdF_panel_Copper_L3
          replace H : F_panel_Copper_L3 N p0 p1 p2 restF_panel_Copper_L3 iF_panel_Copper_L3 l173 = some r := H
          replace hmF_panel_Copper_L3 : m + 1 = restF_panel_Copper_L3.length + 1 := hmF_panel_Copper_L3
          replace hp2_0 := hp2_0.leR leF_panel_Copper_L3
          replace hp0_0 := hp0_0.leR leF_panel_Copper_L3
          replace hp0_1 := hp0_1.leR leF_panel_Copper_L3
          replace hp0_2 := hp0_2.leR leF_panel_Copper_L3
          replace leB := leB.trans leF_panel_Copper_L3
          replace hl173 : SlF Al173 (l173).length cl173 := hl173
          obtain rfl : m = restF_panel_Copper_L3.length := by omega
          clear hmF_panel_Copper_L3
          show Tr _ _ (LF [(1, (.string p1)), (2, (.slice Ap2_0 (p2).length cp2_0)), (3, (.pointer (some ⟨b100, 0, none⟩))), (12, (.slice Al173 (l173).length cl173)), (54, (.slice Ap0_1 (p0.Slots).length cp0_1)), (55, (.int .i64 (p0.Slots.length : Int))), (56, (.int .i64 (iF_panel_Copper_L3 : Int)))]) (LE [(1, bx b100 #[(.int .i64 p0.W), (.int .i64 p0.H), (.int .i64 p0.Rail), (.int .i64 p0.Gap), (.slice Ap0_0 (p0.Kinds).length cp0_0), (.slice Ap0_1 (p0.Slots).length cp0_1), (.slice Ap0_2 (p0.Marks).length cp0_2)] 26), (10, ow Al173 cl173 49 fl_TRect l173)]) _
          cases restF_panel_Copper_L3 with
          | nil =>
            rw [F_panel_Copper_L3.eq_1] at H
            refine Tr.seq ?_
            refine Tr.region ?_
            refine Tr.val (wn rfl) rfl (fun _ _ h1 h2 => run_lss (h1.ev rfl) (h1.ev rfl)) ?_
            refine Tr.nil (Tr.normThen ?_)
            refine Tr.seq ?_
            refine Tr.condF rfl (range_nil hdF_panel_Copper_L3) ?_
            refine Tr.exit (Tr.exitThen (Tr.exitThen (Tr.exitBlock (Tr.normThen ?_))))
            refine Tr.seq ?_
            refine Tr.region ?_
            refine Tr.val (wn rfl) rfl (fun _ _ h1 h2 => run_move (h1.ev rfl)) ?_
            obtain ⟨y174, hy174, H⟩ := bnd H
            refine Tr.callG [27] [emp] (U := (Option Addr × Nat)) (fun u => (.slice u.1 (y174).length u.2)) (fun O W u => SlF u.1 (y174).length u.2) (fun u => [ow u.1 u.2 76 fl_TBand y174]) rfl (pk_cons rfl pk_nil) (fun _ => rfl) (wn rfl) rfl Try.call10 (evl_cons rfl evl_nil) (fun W hW hp hE => F_shape_SetOf_ok N l173 Al173 cl173 (hW.slS (k := 10) rfl hp rfl) y174 hy174 hE) ?_
            intro w u le175 hu
            obtain ⟨Ay174_0, cy174_0⟩ := u
            have gy174_0 := hu
            replace hp2_0 := hp2_0.leR le175
            replace hp0_0 := hp0_0.leR le175
            replace hp0_1 := hp0_1.leR le175
            replace hp0_2 := hp0_2.leR le175
            replace leB := leB.trans le175
            replace leF_panel_Copper_L3 := leF_panel_Copper_L3.trans le175
            have hgy174_0 : SlF Ay174_0 (y174).length cy174_0 := gy174_0 --@phi
            show Tr _ _ (uf _ 82 (.slice Ay174_0 (y174).length cy174_0)) (up _ 27 (ow Ay174_0 cy174_0 76 fl_TBand y174)) _
            obtain ⟨y176, hy176, H⟩ := bnd H
            refine Tr.callM [28] [emp] (U := (Option Addr × Nat)) (fun u => (.tuple #[(.slice u.1 (y176.1).length u.2), (.int .i64 y176.2)])) (fun u => SlF u.1 (y176.1).length u.2) (fun u => [ow u.1 u.2 49 fl_TRect y176.1]) rfl (pk_cons rfl pk_nil) (fun _ => rfl) (wn rfl) rfl Try.call14 (evl_cons rfl evl_nil) (fun W hW hp hE => F_shape_Set__Told_ok N y174 Ay174_0 cy174_0 (hW.slS (k := 27) rfl hp rfl) y176 hy176 hE) ?_
            intro u hu
            obtain ⟨Ay176_0, cy176_0⟩ := u
            have gy176_0 := hu
            have hgy176_0 : SlF Ay176_0 (y176.1).length cy176_0 := gy176_0 --@phi
            show Tr _ _ (uf _ 83 (.tuple #[(.slice Ay176_0 (y176.1).length cy176_0), (.int .i64 y176.2)])) (up _ 28 (ow Ay176_0 cy176_0 49 fl_TRect y176.1)) _
            refine Tr.val (wn rfl) rfl (fun _ _ h1 h2 => run_extract (h1.ev rfl) rfl) ?_
            refine Tr.val (wn rfl) rfl (fun _ _ h1 h2 => run_extract (h1.ev rfl) rfl) ?_
            refine Tr.val (wn rfl) rfl (fun _ _ h1 h2 => run_assign (h1.ev rfl)) ?_
            refine Tr.val (wn rfl) rfl (fun _ _ h1 h2 => run_assign (h1.ev rfl)) ?_
            refine Tr.nil (Tr.normThen ?_)
            refine Tr.ret ?_
            obtain rfl := Option.some.inj H
            exact Tr.out (m := [(.slice Ay176_0 (y176.1).length cy176_0), (.int .i64 y176.2)]) [] (res_tmp rfl (res_tmp rfl res_nil)) (fun W hW => ⟨(Ay176_0, cy176_0), rfl, hgy176_0, HF.lowE leB (hW.pick (ks := [28]) (by decide) (pk_cons rfl pk_nil)) ⟨ow_any _ _ _ _ tr_TRect, trivial⟩⟩)
          | cons xF_panel_Copper_L3 restF_panel_Copper_L3 =>
            rw [F_panel_Copper_L3.eq_2] at H
            refine Tr.seq ?_
            refine Tr.region ?_
            refine Tr.val (wn rfl) rfl (fun _ _ h1 h2 => run_lss (h1.ev rfl) (h1.ev rfl)) ?_
            refine Tr.nil (Tr.normThen ?_)
            refine Tr.seq ?_
            refine Tr.condT rfl (range_on hdF_panel_Copper_L3) ?_
            refine Tr.skip (Tr.normThen ?_)
            refine Tr.seq ?_
            refine Tr.block ?_
            refine Tr.seq ?_
            refine Tr.region ?_
            refine Tr.val (wn rfl) rfl (fun _ _ h1 h2 => run_indexAddr el_23 (h1.ev rfl) hp0_1.form (h1.ev rfl) (Int.natCast_nonneg _) (range_lt hdF_panel_Copper_L3)) ?_
            refine Tr.val (wn rfl) rfl (fun _ _ h1 h2 => run_loadN (cs := [(.string xF_panel_Copper_L3.Board), (.int .i64 xF_panel_Copper_L3.Quarters), (.int .i64 xF_panel_Copper_L3.At.X), (.int .i64 xF_panel_Copper_L3.At.Y)]) ag_35 sz_35 (h1.ev rfl) (CellsAt.take (rdF ef_TSlot hp0_1 (range_at hdF_panel_Copper_L3) h2) 4) rfl) ?_
            refine Tr.alloc 29 (wn rfl) rfl ze_35 fun b178 => ?_
            refine Tr.store 29 (cs := [(.string xF_panel_Copper_L3.Board), (.int .i64 xF_panel_Copper_L3.Quarters), (.int .i64 xF_panel_Copper_L3.At.X), (.int .i64 xF_panel_Copper_L3.At.Y)]) [(.string xF_panel_Copper_L3.Board), (.int .i64 xF_panel_Copper_L3.Quarters), (.int .i64 xF_panel_Copper_L3.At.X), (.int .i64 xF_panel_Copper_L3.At.Y)] (wn rfl) rfl rfl rfl rfl sz_35 rfl rfl rfl ?_
            refine Tr.nil (Tr.normThen ?_)
            refine Tr.seq ?_
            refine Tr.region ?_
            refine Tr.val (wn rfl) rfl (fun _ _ h1 h2 => run_fieldAddr fo_35_0 (h1.ev rfl)) ?_
            refine Tr.val (wn rfl) rfl (fun _ _ h1 h2 => run_load1 ag_9 (h1.ev rfl) (rdb h2 (vs := [(.string xF_panel_Copper_L3.Board), (.int .i64 xF_panel_Copper_L3.Quarters), (.int .i64 xF_panel_Copper_L3.At.X), (.int .i64 xF_panel_Copper_L3.At.Y)]) (k := 29) rfl 0) rfl) ?_
            refine Tr.val (wn rfl) rfl (fun _ _ h1 h2 => run_move (h1.ev rfl)) ?_
            refine Tr.val (wn rfl) rfl (fun _ _ h1 h2 => run_eqlS (h1.ev rfl) (h1.ev rfl)) ?_
            refine Tr.nil (Tr.normThen ?_)
            refine Tr.cond rfl H (fun H => ?_) (fun H => ?_)
            · refine Tr.seq ?_
              refine Tr.region ?_
              refine Tr.val (wn rfl) rfl (fun _ _ h1 h2 => run_loadN (cs := [(.int .i64 p0.W), (.int .i64 p0.H), (.int .i64 p0.Rail), (.int .i64 p0.Gap), (.slice Ap0_0 (p0.Kinds).length cp0_0), (.slice Ap0_1 (p0.Slots).length cp0_1), (.slice Ap0_2 (p0.Marks).length cp0_2)]) ag_26 sz_26 (h1.ev rfl) (CellsAt.take (rdb h2 (vs := [(.int .i64 p0.W), (.int .i64 p0.H), (.int .i64 p0.Rail), (.int .i64 p0.Gap), (.slice Ap0_0 (p0.Kinds).length cp0_0), (.slice Ap0_1 (p0.Slots).length cp0_1), (.slice Ap0_2 (p0.Marks).length cp0_2)]) (k := 1) rfl 0) 7) rfl) ?_
              refine Tr.val (wn rfl) rfl (fun _ _ h1 h2 => run_loadN (cs := [(.string xF_panel_Copper_L3.Board), (.int .i64 xF_panel_Copper_L3.Quarters), (.int .i64 xF_panel_Copper_L3.At.X), (.int .i64 xF_panel_Copper_L3.At.Y)]) ag_35 sz_35 (h1.ev rfl) (CellsAt.take (rdb h2 (vs := [(.string xF_panel_Copper_L3.Board), (.int .i64 xF_panel_Copper_L3.Quarters), (.int .i64 xF_panel_Copper_L3.At.X), (.int .i64 xF_panel_Copper_L3.At.Y)]) (k := 29) rfl 0) 4) rfl) ?_
              obtain ⟨y179, hy179, H⟩ := bnd H
              refine Tr.call0 (r := (.agg #[(.bool y179.Flip), (.int .i64 y179.Quarters), (.int .i64 y179.At.X), (.int .i64 y179.At.Y)])) (wn rfl) rfl Try.call12 (evl_cons rfl (evl_cons rfl evl_nil)) (fun W hW => F_panel_turnOf_ok p0 Ap0_0 cp0_0 (hp0_0.ext hW.extAll) Ap0_1 cp0_1 (hp0_1.ext hW.extAll) Ap0_2 cp0_2 (hp0_2.ext hW.extAll) xF_panel_Copper_L3 y179 hy179 (HF.start _)) ?_
              refine Tr.alloc 30 (wn rfl) rfl ze_51 fun b180 => ?_
              refine Tr.store 30 (cs := [(.bool y179.Flip), (.int .i64 y179.Quarters), (.int .i64 y179.At.X), (.int .i64 y179.At.Y)]) [(.bool y179.Flip), (.int .i64 y179.Quarters), (.int .i64 y179.At.X), (.int .i64 y179.At.Y)] (wn rfl) rfl rfl rfl rfl sz_51 rfl rfl rfl ?_
              refine Tr.nil (Tr.normThen ?_)
              refine Tr.seq ?_
              refine Tr.region ?_
              refine Tr.val (wn rfl) rfl (fun _ _ h1 h2 => run_move (h1.ev rfl)) ?_
              refine Tr.val (wn rfl) rfl (fun _ _ h1 h2 => run_len un_27 (h1.ev rfl)) ?_
              refine Tr.val (wn rfl) rfl (fun _ _ h1 h2 => run_move (h1.ev rfl)) ?_
              refine Tr.nil (Tr.normThen ?_)
              refine Tr.block ?_
              refine Tr.loop (σ := (List TRect) × Nat × (List TRect) × (Option Addr) × Nat) (fun m w s => m = s.1.length + 1 ∧ s.1 = List.drop s.2.1 p2 ∧ s.2.1 ≤ p2.length ∧ F_panel_Copper_L4 N (F_panel_Copper_L3 N p0 p1 p2 restF_panel_Copper_L3 (iF_panel_Copper_L3 + 1)) y179 s.1 s.2.1 s.2.2.1 = some r ∧ SlF s.2.2.2.1 (s.2.2.1).length s.2.2.2.2) (fun s => [(1, (.string p1)), (2, (.slice Ap2_0 (p2).length cp2_0)), (3, (.pointer (some ⟨b100, 0, none⟩))), (12, (.slice s.2.2.2.1 (s.2.2.1).length s.2.2.2.2)), (15, (.pointer (some ⟨b180, 0, none⟩))), (54, (.slice Ap0_1 (p0.Slots).length cp0_1)), (55, (.int .i64 (p0.Slots.length : Int))), (56, (.int .i64 (iF_panel_Copper_L3 : Int))), (67, (.slice Ap2_0 (p2).length cp2_0)), (68, (.int .i64 (p2.length : Int))), (69, (.int .i64 (s.2.1 : Int)))]) (fun s => [(1, bx b100 #[(.int .i64 p0.W), (.int .i64 p0.H), (.int .i64 p0.Rail), (.int .i64 p0.Gap), (.slice Ap0_0 (p0.Kinds).length cp0_0), (.slice Ap0_1 (p0.Slots).length cp0_1), (.slice Ap0_2 (p0.Marks).length cp0_2)] 26), (10, ow s.2.2.2.1 s.2.2.2.2 49 fl_TRect s.2.2.1), (30, bx b180 #[(.bool y179.Flip), (.int .i64 y179.Quarters), (.int .i64 y179.At.X), (.int .i64 y179.At.Y)] 51)]) (p2.length + 1) (p2, 0, l173, Al173, cl173) ⟨rfl, rfl, Nat.zero_le _, H, hl173⟩ (.cons rfl (.cons rfl (.cons rfl (.cons rfl (.cons rfl (.cons rfl (.cons rfl (.cons rfl (.cons rfl (.cons rfl (.cons rfl .nil))))))))))) (.cons rfl (.cons rfl (.cons rfl .nil))) (fun _ _ h => absurd h.1 (by simp)) ?_
              intro w leF_panel_Copper_L4 m s hs
              obtain ⟨restF_panel_Copper_L4, iF_panel_Copper_L4, l197, Al197, cl197⟩ := s
              obtain ⟨hmF_panel_Copper_L4, hdF_panel_Copper_L4, hiF_panel_Copper_L4, H, hl197⟩ := hs
              replace hdF_panel_Copper_L4 : restF_panel_Copper_L4 = List.drop iF_panel_Copper_L4 p2 := hdF_panel_Copper_L4
              replace H : F_panel_Copper_L4 N (F_panel_Copper_L3 N p0 p1 p2 restF_panel_Copper_L3 (iF_panel_Copper_L3 + 1)) y179 restF_panel_Copper_L4 iF_panel_Copper_L4 l197 = some r := H
              replace hmF_panel_Copper_L4 : m + 1 = restF_panel_Copper_L4.length + 1 := hmF_panel_Copper_L4
              replace hp2_0 := hp2_0.leR leF_panel_Copper_L4
              replace hp0_0 := hp0_0.leR leF_panel_Copper_L4
              replace hp0_1 := hp0_1.leR leF_panel_Copper_L4
              replace hp0_2 := hp0_2.leR leF_panel_Copper_L4
              replace leB := leB.trans leF_panel_Copper_L4
              replace leF_panel_Copper_L3 := leF_panel_Copper_L3.trans leF_panel_Copper_L4
              replace hl197 : SlF Al197 (l197).length cl197 := hl197
              obtain rfl : m = restF_panel_Copper_L4.length := by omega
              clear hmF_panel_Copper_L4
              show Tr _ _ (LF [(1, (.string p1)), (2, (.slice Ap2_0 (p2).length cp2_0)), (3, (.pointer (some ⟨b100, 0, none⟩))), (12, (.slice Al197 (l197).length cl197)), (15, (.pointer (some ⟨b180, 0, none⟩))), (54, (.slice Ap0_1 (p0.Slots).length cp0_1)), (55, (.int .i64 (p0.Slots.length : Int))), (56, (.int .i64 (iF_panel_Copper_L3 : Int))), (67, (.slice Ap2_0 (p2).length cp2_0)), (68, (.int .i64 (p2.length : Int))), (69, (.int .i64 (iF_panel_Copper_L4 : Int)))]) (LE [(1, bx b100 #[(.int .i64 p0.W), (.int .i64 p0.H), (.int .i64 p0.Rail), (.int .i64 p0.Gap), (.slice Ap0_0 (p0.Kinds).length cp0_0), (.slice Ap0_1 (p0.Slots).length cp0_1), (.slice Ap0_2 (p0.Marks).length cp0_2)] 26), (10, ow Al197 cl197 49 fl_TRect l197), (30, bx b180 #[(.bool y179.Flip), (.int .i64 y179.Quarters), (.int .i64 y179.At.X), (.int .i64 y179.At.Y)] 51)]) _
              cases restF_panel_Copper_L4 with
              | nil =>
                rw [F_panel_Copper_L4.eq_1] at H
                refine Tr.seq ?_
                refine Tr.region ?_
                refine Tr.val (wn rfl) rfl (fun _ _ h1 h2 => run_lss (h1.ev rfl) (h1.ev rfl)) ?_
                refine Tr.nil (Tr.normThen ?_)
                refine Tr.seq ?_
                refine Tr.condF rfl (range_nil hdF_panel_Copper_L4) ?_
                refine Tr.exit (Tr.exitThen (Tr.exitThen (Tr.exitBlock (Tr.normBlock (Tr.normThen ?_)))))
                refine Tr.region ?_
                refine Tr.val (wn rfl) rfl (fun _ _ h1 h2 => run_add (h1.ev rfl) (h1.ev rfl)) ?_
                refine Tr.val (wn rfl) rfl (fun _ _ h1 h2 => run_move (h1.ev rfl)) ?_
                refine Tr.nil ?_
                exact Tr.backThen leF_panel_Copper_L3 (restF_panel_Copper_L3, (iF_panel_Copper_L3 + 1), l197, Al197, cl197) ⟨rfl, range_tl hdF_panel_Copper_L3, range_lt hdF_panel_Copper_L3, H, hl197⟩ (.cons rfl (.cons rfl (.cons rfl (.cons rfl (.cons rfl (.cons rfl (.cons (congrArg (fun z => some (Value.int .i64 z)) (range_up hdF_panel_Copper_L3 hp0_1.form)) .nil))))))) (.cons rfl (.cons rfl .nil))
              | cons xF_panel_Copper_L4 restF_panel_Copper_L4 =>
                rw [F_panel_Copper_L4.eq_2] at H
                refine Tr.seq ?_
                refine Tr.region ?_
                refine Tr.val (wn rfl) rfl (fun _ _ h1 h2 => run_lss (h1.ev rfl) (h1.ev rfl)) ?_
                refine Tr.nil (Tr.normThen ?_)
                refine Tr.seq ?_
                refine Tr.condT rfl (range_on hdF_panel_Copper_L4) ?_
                refine Tr.skip (Tr.normThen ?_)
                refine Tr.seq ?_
                refine Tr.block ?_
                refine Tr.seq ?_
                refine Tr.region ?_
                refine Tr.val (wn rfl) rfl (fun _ _ h1 h2 => run_indexAddr el_27 (h1.ev rfl) hp2_0.form (h1.ev rfl) (Int.natCast_nonneg _) (range_lt hdF_panel_Copper_L4)) ?_
                refine Tr.val (wn rfl) rfl (fun _ _ h1 h2 => run_loadN (cs := [(.int .i64 xF_panel_Copper_L4.X0), (.int .i64 xF_panel_Copper_L4.Y0), (.int .i64 xF_panel_Copper_L4.X1), (.int .i64 xF_panel_Copper_L4.Y1)]) ag_49 sz_49 (h1.ev rfl) (CellsAt.take (rdF ef_TRect hp2_0 (range_at hdF_panel_Copper_L4) h2) 4) rfl) ?_
                refine Tr.alloc 35 (wn rfl) rfl ze_49 fun b198 => ?_
                refine Tr.store 35 (cs := [(.int .i64 xF_panel_Copper_L4.X0), (.int .i64 xF_panel_Copper_L4.Y0), (.int .i64 xF_panel_Copper_L4.X1), (.int .i64 xF_panel_Copper_L4.Y1)]) [(.int .i64 xF_panel_Copper_L4.X0), (.int .i64 xF_panel_Copper_L4.Y0), (.int .i64 xF_panel_Copper_L4.X1), (.int .i64 xF_panel_Copper_L4.Y1)] (wn rfl) rfl rfl rfl rfl sz_49 rfl rfl rfl ?_
                refine Tr.nil (Tr.normThen ?_)
                refine Tr.region ?_
                refine Tr.val (wn rfl) rfl (fun _ _ h1 h2 => run_move (h1.ev rfl)) ?_
                refine Tr.val (wn rfl) rfl (fun _ _ h1 h2 => run_loadN (cs := [(.int .i64 xF_panel_Copper_L4.X0), (.int .i64 xF_panel_Copper_L4.Y0), (.int .i64 xF_panel_Copper_L4.X1), (.int .i64 xF_panel_Copper_L4.Y1)]) ag_49 sz_49 (h1.ev rfl) (CellsAt.take (rdb h2 (vs := [(.int .i64 xF_panel_Copper_L4.X0), (.int .i64 xF_panel_Copper_L4.Y0), (.int .i64 xF_panel_Copper_L4.X1), (.int .i64 xF_panel_Copper_L4.Y1)]) (k := 35) rfl 0) 4) rfl) ?_
                refine Tr.val (wn rfl) rfl (fun _ _ h1 h2 => run_loadN (cs := [(.bool y179.Flip), (.int .i64 y179.Quarters), (.int .i64 y179.At.X), (.int .i64 y179.At.Y)]) ag_51 sz_51 (h1.ev rfl) (CellsAt.take (rdb h2 (vs := [(.bool y179.Flip), (.int .i64 y179.Quarters), (.int .i64 y179.At.X), (.int .i64 y179.At.Y)]) (k := 30) rfl 0) 4) rfl) ?_
                obtain ⟨y199, hy199, H⟩ := bnd H
                refine Tr.call0 (r := (.agg #[(.int .i64 y199.X0), (.int .i64 y199.Y0), (.int .i64 y199.X1), (.int .i64 y199.Y1)])) (wn rfl) rfl Try.call13 (evl_cons rfl (evl_cons rfl evl_nil)) (fun W hW => F_shape_TurnRect_ok N xF_panel_Copper_L4 y179 y199 hy199 (HF.start _)) ?_
                refine Tr.buildSlice 36 (e := 49) (vs := [(0, (.agg #[(.int .i64 y199.X0), (.int .i64 y199.Y0), (.int .i64 y199.X1), (.int .i64 y199.Y1)]))]) (cs := [(.int .i64 y199.X0), (.int .i64 y199.Y0), (.int .i64 y199.X1), (.int .i64 y199.Y1)]) (wn rfl) rfl (evs_cons rfl evs_nil) (by kernel_rfl) fun b200 => ?_
                obtain ⟨l201, hl201, H⟩ := bnd H
                refine Tr.append 10 (t := fl_TRect) (l := l197) (l2 := [y199]) (wn rfl) rfl rfl rfl rfl (fun W hW => ⟨[[(.int .i64 y199.X0), (.int .i64 y199.Y0), (.int .i64 y199.X1), (.int .i64 y199.Y1)]], (.cons ⟨(), trivial, rfl⟩ .nil), rdb hW (vs := [(.int .i64 y199.X0), (.int .i64 y199.Y0), (.int .i64 y199.X1), (.int .i64 y199.Y1)]) (k := 36) rfl 0⟩) un_27 sz_49 zl_49 (by decide) by_49 rfl hl201 fun Al201 cl201 hAl201 => ?_
                refine Tr.val (wn rfl) rfl (fun _ _ h1 h2 => run_assign (h1.ev rfl)) ?_
                refine Tr.nil (Tr.normBlock (Tr.normThen ?_))
                refine Tr.region ?_
                refine Tr.val (wn rfl) rfl (fun _ _ h1 h2 => run_add (h1.ev rfl) (h1.ev rfl)) ?_
                refine Tr.val (wn rfl) rfl (fun _ _ h1 h2 => run_move (h1.ev rfl)) ?_
                refine Tr.nil ?_
                exact Tr.backThen leF_panel_Copper_L4 (restF_panel_Copper_L4, (iF_panel_Copper_L4 + 1), l201, Al201, cl201) ⟨rfl, range_tl hdF_panel_Copper_L4, range_lt hdF_panel_Copper_L4, H, hAl201⟩ (.cons rfl (.cons rfl (.cons rfl (.cons rfl (.cons rfl (.cons rfl (.cons rfl (.cons rfl (.cons rfl (.cons rfl (.cons (congrArg (fun z => some (Value.int .i64 z)) (range_up hdF_panel_Copper_L4 hp2_0.form)) .nil))))))))))) (.cons rfl (.cons rfl (.cons rfl .nil)))
            · refine Tr.skip (Tr.normBlock (Tr.normThen ?_))
              refine Tr.region ?_
              refine Tr.val (wn rfl) rfl (fun _ _ h1 h2 => run_add (h1.ev rfl) (h1.ev rfl)) ?_
              refine Tr.val (wn rfl) rfl (fun _ _ h1 h2 => run_move (h1.ev rfl)) ?_
              refine Tr.nil ?_
              exact Tr.backThen leF_panel_Copper_L3 (restF_panel_Copper_L3, (iF_panel_Copper_L3 + 1), l173, Al173, cl173) ⟨rfl, range_tl hdF_panel_Copper_L3, range_lt hdF_panel_Copper_L3, H, hl173⟩ (.cons rfl (.cons rfl (.cons rfl (.cons rfl (.cons rfl (.cons rfl (.cons (congrArg (fun z => some (Value.int .i64 z)) (range_up hdF_panel_Copper_L3 hp0_1.form)) .nil))))))) (.cons rfl (.cons rfl .nil))

theorem F_shape_AreaOf_ok {w : Bs} (p0 : (List TRect)) (Ap0_0 : Option Addr) (cp0_0 : Nat) (hp0_0 : Sl w.R w.W fl_TRect Ap0_0 cp0_0 p0) (r : Int) (H : F_shape_AreaOf p0 = some r) (hE : HF w w.W E0) : Calls Try.prog 16 [(.slice Ap0_0 (p0).length cp0_0)].toArray w.W fun e W' => e = .returned (.int .i64 r) ∧ HF w W' E0 := by
  unfold F_shape_AreaOf at H
  have leB := Bs.Le.refl w
  refine Tr.enter (n := 27) Try.func16 rfl rfl rfl hE ?_
  refine Tr.seq ?_
  refine Tr.region ?_
  refine Tr.val (wn rfl) rfl (fun _ _ h1 h2 => run_assign (h1.ev rfl)) ?_
  refine Tr.nil (Tr.normThen ?_)
  refine Tr.seq ?_
  refine Tr.region ?_
  refine Tr.val (wn rfl) rfl (fun _ _ h1 h2 => run_assign (h1.ev rfl)) ?_
  refine Tr.nil (Tr.normThen ?_)
  refine Tr.seq ?_
  refine Tr.seq ?_
  refine Tr.region ?_
  refine Tr.val (wn rfl) rfl (fun _ _ h1 h2 => run_move (h1.ev rfl)) ?_
  refine Tr.val (wn rfl) rfl (fun _ _ h1 h2 => run_len un_27 (h1.ev rfl)) ?_
  refine Tr.val (wn rfl) rfl (fun _ _ h1 h2 => run_move (h1.ev rfl)) ?_
  refine Tr.nil (Tr.normThen ?_)
  refine Tr.block ?_
  refine Tr.loop (σ := (List TRect) × Nat × Int) (fun m w s => m = s.1.length + 1 ∧ s.1 = List.drop s.2.1 p0 ∧ s.2.1 ≤ p0.length ∧ F_shape_AreaOf_L1 s.1 s.2.1 s.2.2 = some r) (fun s => [(3, (.int .i64 s.2.2)), (6, (.slice Ap0_0 (p0).length cp0_0)), (7, (.int .i64 (p0.length : Int))), (8, (.int .i64 (s.2.1 : Int)))]) (fun s => []) (p0.length + 1) (p0, 0, 0) ⟨rfl, rfl, Nat.zero_le _, H⟩ (.cons rfl (.cons rfl (.cons rfl (.cons rfl .nil)))) .nil (fun _ _ h => absurd h.1 (by simp)) ?_
  intro w leF_shape_AreaOf_L1 m s hs
  obtain ⟨restF_shape_AreaOf_L1, iF_shape_AreaOf_L1, x110⟩ := s
  obtain ⟨hmF_shape_AreaOf_L1, hdF_shape_AreaOf_L1, hiF_shape_AreaOf_L1, H⟩ := hs
  replace hdF_shape_AreaOf_L1 : restF_shape_AreaOf_L1 = List.drop iF_shape_AreaOf_L1 p0 := hdF_shape_AreaOf_L1
  replace H : F_shape_AreaOf_L1 restF_shape_AreaOf_L1 iF_shape_AreaOf_L1 x110 = some r := H
  replace hmF_shape_AreaOf_L1 : m + 1 = restF_shape_AreaOf_L1.length + 1 := hmF_shape_AreaOf_L1
  replace hp0_0 := hp0_0.leR leF_shape_AreaOf_L1
  replace leB := leB.trans leF_shape_AreaOf_L1
  obtain rfl : m = restF_shape_AreaOf_L1.length := by omega
  clear hmF_shape_AreaOf_L1
  show Tr _ _ (LF [(3, (.int .i64 x110)), (6, (.slice Ap0_0 (p0).length cp0_0)), (7, (.int .i64 (p0.length : Int))), (8, (.int .i64 (iF_shape_AreaOf_L1 : Int)))]) (LE []) _
  cases restF_shape_AreaOf_L1 with
  | nil =>
    rw [F_shape_AreaOf_L1.eq_1] at H
    refine Tr.seq ?_
    refine Tr.region ?_
    refine Tr.val (wn rfl) rfl (fun _ _ h1 h2 => run_lss (h1.ev rfl) (h1.ev rfl)) ?_
    refine Tr.nil (Tr.normThen ?_)
    refine Tr.seq ?_
    refine Tr.condF rfl (range_nil hdF_shape_AreaOf_L1) ?_
    refine Tr.exit (Tr.exitThen (Tr.exitThen (Tr.exitBlock (Tr.normThen ?_))))
    refine Tr.seq ?_
    refine Tr.region ?_
    refine Tr.val (wn rfl) rfl (fun _ _ h1 h2 => run_move (h1.ev rfl)) ?_
    refine Tr.val (wn rfl) rfl (fun _ _ h1 h2 => run_assign (h1.ev rfl)) ?_
    refine Tr.nil (Tr.normThen ?_)
    refine Tr.ret ?_
    obtain rfl := Option.some.inj H
    exact Tr.out (m := [(.int .i64 x110)]) [] (res_tmp rfl res_nil) (fun W hW => ⟨rfl, hW.low leB⟩)
  | cons xF_shape_AreaOf_L1 restF_shape_AreaOf_L1 =>
    rw [F_shape_AreaOf_L1.eq_2] at H
    refine Tr.seq ?_
    refine Tr.region ?_
    refine Tr.val (wn rfl) rfl (fun _ _ h1 h2 => run_lss (h1.ev rfl) (h1.ev rfl)) ?_
    refine Tr.nil (Tr.normThen ?_)
    refine Tr.seq ?_
    refine Tr.condT rfl (range_on hdF_shape_AreaOf_L1) ?_
    refine Tr.skip (Tr.normThen ?_)
    refine Tr.seq ?_
    refine Tr.block ?_
    refine Tr.seq ?_
    refine Tr.region ?_
    refine Tr.val (wn rfl) rfl (fun _ _ h1 h2 => run_indexAddr el_27 (h1.ev rfl) hp0_0.form (h1.ev rfl) (Int.natCast_nonneg _) (range_lt hdF_shape_AreaOf_L1)) ?_
    refine Tr.val (wn rfl) rfl (fun _ _ h1 h2 => run_loadN (cs := [(.int .i64 xF_shape_AreaOf_L1.X0), (.int .i64 xF_shape_AreaOf_L1.Y0), (.int .i64 xF_shape_AreaOf_L1.X1), (.int .i64 xF_shape_AreaOf_L1.Y1)]) ag_49 sz_49 (h1.ev rfl) (CellsAt.take (rdF ef_TRect hp0_0 (range_at hdF_shape_AreaOf_L1) h2) 4) rfl) ?_
    refine Tr.alloc 3 (wn rfl) rfl ze_49 fun b111 => ?_
    refine Tr.store 3 (cs := [(.int .i64 xF_shape_AreaOf_L1.X0), (.int .i64 xF_shape_AreaOf_L1.Y0), (.int .i64 xF_shape_AreaOf_L1.X1), (.int .i64 xF_shape_AreaOf_L1.Y1)]) [(.int .i64 xF_shape_AreaOf_L1.X0), (.int .i64 xF_shape_AreaOf_L1.Y0), (.int .i64 xF_shape_AreaOf_L1.X1), (.int .i64 xF_shape_AreaOf_L1.Y1)] (wn rfl) rfl rfl rfl rfl sz_49 rfl rfl rfl ?_
    refine Tr.nil (Tr.normThen ?_)
    refine Tr.region ?_
    refine Tr.val (wn rfl) rfl (fun _ _ h1 h2 => run_move (h1.ev rfl)) ?_
    refine Tr.val (wn rfl) rfl (fun _ _ h1 h2 => run_fieldAddr fo_49_2 (h1.ev rfl)) ?_
    refine Tr.val (wn rfl) rfl (fun _ _ h1 h2 => run_load1 ag_3 (h1.ev rfl) (rdb h2 (vs := [(.int .i64 xF_shape_AreaOf_L1.X0), (.int .i64 xF_shape_AreaOf_L1.Y0), (.int .i64 xF_shape_AreaOf_L1.X1), (.int .i64 xF_shape_AreaOf_L1.Y1)]) (k := 3) rfl 2) rfl) ?_
    refine Tr.val (wn rfl) rfl (fun _ _ h1 h2 => run_fieldAddr fo_49_0 (h1.ev rfl)) ?_
    refine Tr.val (wn rfl) rfl (fun _ _ h1 h2 => run_load1 ag_3 (h1.ev rfl) (rdb h2 (vs := [(.int .i64 xF_shape_AreaOf_L1.X0), (.int .i64 xF_shape_AreaOf_L1.Y0), (.int .i64 xF_shape_AreaOf_L1.X1), (.int .i64 xF_shape_AreaOf_L1.Y1)]) (k := 3) rfl 0) rfl) ?_
    refine Tr.val (wn rfl) rfl (fun _ _ h1 h2 => run_sub (h1.ev rfl) (h1.ev rfl)) ?_
    refine Tr.val (wn rfl) rfl (fun _ _ h1 h2 => run_fieldAddr fo_49_3 (h1.ev rfl)) ?_
    refine Tr.val (wn rfl) rfl (fun _ _ h1 h2 => run_load1 ag_3 (h1.ev rfl) (rdb h2 (vs := [(.int .i64 xF_shape_AreaOf_L1.X0), (.int .i64 xF_shape_AreaOf_L1.Y0), (.int .i64 xF_shape_AreaOf_L1.X1), (.int .i64 xF_shape_AreaOf_L1.Y1)]) (k := 3) rfl 3) rfl) ?_
    refine Tr.val (wn rfl) rfl (fun _ _ h1 h2 => run_fieldAddr fo_49_1 (h1.ev rfl)) ?_
    refine Tr.val (wn rfl) rfl (fun _ _ h1 h2 => run_load1 ag_3 (h1.ev rfl) (rdb h2 (vs := [(.int .i64 xF_shape_AreaOf_L1.X0), (.int .i64 xF_shape_AreaOf_L1.Y0), (.int .i64 xF_shape_AreaOf_L1.X1), (.int .i64 xF_shape_AreaOf_L1.Y1)]) (k := 3) rfl 1) rfl) ?_
    refine Tr.val (wn rfl) rfl (fun _ _ h1 h2 => run_sub (h1.ev rfl) (h1.ev rfl)) ?_
    refine Tr.val (wn rfl) rfl (fun _ _ h1 h2 => run_mul (h1.ev rfl) (h1.ev rfl)) ?_
    refine Tr.val (wn rfl) rfl (fun _ _ h1 h2 => run_add (h1.ev rfl) (h1.ev rfl)) ?_
    refine Tr.val (wn rfl) rfl (fun _ _ h1 h2 => run_assign (h1.ev rfl)) ?_
    refine Tr.nil (Tr.normBlock (Tr.normThen ?_))
    refine Tr.region ?_
    refine Tr.val (wn rfl) rfl (fun _ _ h1 h2 => run_add (h1.ev rfl) (h1.ev rfl)) ?_
    refine Tr.val (wn rfl) rfl (fun _ _ h1 h2 => run_move (h1.ev rfl)) ?_
    refine Tr.nil ?_
    exact Tr.backThen leF_shape_AreaOf_L1 (restF_shape_AreaOf_L1, (iF_shape_AreaOf_L1 + 1), (w64 (x110 + (w64 ((w64 (xF_shape_AreaOf_L1.X1 - xF_shape_AreaOf_L1.X0)) * (w64 (xF_shape_AreaOf_L1.Y1 - xF_shape_AreaOf_L1.Y0))))))) ⟨rfl, range_tl hdF_shape_AreaOf_L1, range_lt hdF_shape_AreaOf_L1, H⟩ (.cons rfl (.cons rfl (.cons rfl (.cons (congrArg (fun z => some (Value.int .i64 z)) (range_up hdF_shape_AreaOf_L1 hp0_0.form)) .nil)))) .nil

theorem F_panel_Lowest_ok (N : Nat) {w : Bs} (p0 : Int) (p1 : Int) (r : TShare) (H : F_panel_Lowest N p0 p1 = some r) (hE : HF w w.W E0) : Calls Try.prog 35 [(.int .i64 p0), (.int .i64 p1)].toArray w.W fun e W' => e = .returned (.agg #[(.int .i64 r.Num), (.int .i64 r.Den)]) ∧ HF w W' E0 := by
  unfold F_panel_Lowest at H
  have leB := Bs.Le.refl w
  refine Tr.enter (n := 22) Try.func35 rfl rfl rfl hE ?_
  refine Tr.seq ?_
  refine Tr.region ?_
  refine Tr.alloc 1 (wn rfl) rfl ze_56 fun b100 => ?_
  refine Tr.nil (Tr.normThen ?_)
  refine Tr.seq ?_
  refine Tr.region ?_
  refine Tr.val (wn rfl) rfl (fun _ _ h1 h2 => run_move (h1.ev rfl)) ?_
  refine Tr.val (wn rfl) rfl (fun _ _ h1 h2 => run_move (h1.ev rfl)) ?_
  refine Tr.val (wn rfl) rfl (fun _ _ h1 h2 => run_assign (h1.ev rfl)) ?_
  refine Tr.val (wn rfl) rfl (fun _ _ h1 h2 => run_assign (h1.ev rfl)) ?_
  refine Tr.nil (Tr.normThen ?_)
  refine Tr.seq ?_
  refine Tr.block ?_
  refine Tr.loop (σ := Int × Int) (fun m w s => F_panel_Lowest_L1 p0 p1 m s.1 s.2 = some r) (fun s => [(0, (.int .i64 p0)), (1, (.int .i64 p1)), (4, (.pointer (some ⟨b100, 0, none⟩))), (5, (.int .i64 s.1)), (6, (.int .i64 s.2))]) (fun s => [(1, bx b100 #[(.int .i64 0), (.int .i64 0)] 56)]) N (p0, p1) H (.cons rfl (.cons rfl (.cons rfl (.cons rfl (.cons rfl .nil))))) (.cons rfl .nil) (fun _ _ h => noSome (h)) ?_
  intro w leF_panel_Lowest_L1 mF_panel_Lowest_L1 s hs
  obtain ⟨x109, x110⟩ := s
  have H := hs
  replace H : F_panel_Lowest_L1 p0 p1 (mF_panel_Lowest_L1 + 1) x109 x110 = some r := H
  replace leB := leB.trans leF_panel_Lowest_L1
  rw [F_panel_Lowest_L1.eq_2] at H
  show Tr _ _ (LF [(0, (.int .i64 p0)), (1, (.int .i64 p1)), (4, (.pointer (some ⟨b100, 0, none⟩))), (5, (.int .i64 x109)), (6, (.int .i64 x110))]) (LE [(1, bx b100 #[(.int .i64 0), (.int .i64 0)] 56)]) _
  refine Tr.seq ?_
  refine Tr.seq ?_
  refine Tr.region ?_
  refine Tr.val (wn rfl) rfl (fun _ _ h1 h2 => run_move (h1.ev rfl)) ?_
  refine Tr.val (wn rfl) rfl (fun _ _ h1 h2 => run_neq (h1.ev rfl) (h1.ev rfl)) ?_
  refine Tr.nil (Tr.normThen ?_)
  refine Tr.cond rfl H (fun H => ?_) (fun H => ?_)
  · refine Tr.skip (Tr.normThen ?_)
    refine Tr.block ?_
    refine Tr.draw (by kernel_rfl) (by kernel_rfl) ?_
    refine Tq.val (wn rfl) rfl (fun _ _ h1 h2 => run_move (h1.ev rfl)) ?_
    refine Tq.val (wn rfl) rfl (fun _ _ h1 h2 => run_move (h1.ev rfl)) ?_
    refine Tq.val (wn rfl) rfl (fun _ _ h1 h2 => run_move (h1.ev rfl)) ?_
    obtain ⟨q111, hq111, H⟩ := bnd H
    refine Tq.val (wn rfl) rfl (fun _ _ h1 h2 => run_md (h1.ev rfl) (h1.ev rfl) hq111) ?_
    refine Tq.val (wn rfl) rfl (fun _ _ h1 h2 => run_assign (h1.ev rfl)) ?_
    refine Tq.val (wn rfl) rfl (fun _ _ h1 h2 => run_assign (h1.ev rfl)) ?_
    refine Tq.nil (Tr.normBlock ?_)
    exact Tr.backThen leF_panel_Lowest_L1 (x110, q111) H (.cons rfl (.cons rfl (.cons rfl (.cons rfl (.cons rfl .nil))))) (.cons rfl .nil)
  · refine Tr.exit (Tr.exitThen (Tr.exitThen (Tr.exitBlock (Tr.normThen ?_))))
    refine Tr.seq ?_
    refine Tr.drawTail 6 (by kernel_rfl) (by kernel_rfl) ?_
    refine Tq.val (wn rfl) rfl (fun _ _ h1 h2 => run_move (h1.ev rfl)) ?_
    refine Tq.val (wn rfl) rfl (fun _ _ h1 h2 => run_move (h1.ev rfl)) ?_
    obtain ⟨q112, hq112, H⟩ := bnd H
    refine Tq.val (wn rfl) rfl (fun _ _ h1 h2 => run_dv (h1.ev rfl) (h1.ev rfl) hq112) ?_
    refine Tq.val (wn rfl) rfl (fun _ _ h1 h2 => run_move (h1.ev rfl)) ?_
    refine Tq.val (wn rfl) rfl (fun _ _ h1 h2 => run_move (h1.ev rfl)) ?_
    obtain ⟨q113, hq113, H⟩ := bnd H
    refine Tq.val (wn rfl) rfl (fun _ _ h1 h2 => run_dv (h1.ev rfl) (h1.ev rfl) hq113) ?_
    refine Tq.nil ?_
    refine Tr.build (vs := [(0, (.int .i64 q112)), (1, (.int .i64 q113))]) (cs := [(.int .i64 q112), (.int .i64 q113)]) (wn rfl) rfl (evs_cons rfl (evs_cons rfl evs_nil)) (by kernel_rfl) ?_
    refine Tr.store 1 (cs := [(.int .i64 q112), (.int .i64 q113)]) [(.int .i64 q112), (.int .i64 q113)] (wn rfl) rfl rfl rfl rfl sz_56 rfl rfl rfl ?_
    refine Tr.nil (Tr.normThen ?_)
    refine Tr.ret ?_
    obtain rfl := Option.some.inj H
    exact Tr.out (m := [(.agg #[(.int .i64 q112), (.int .i64 q113)])]) [1] (res_cell rfl rfl ag_56 sz_56 res_nil) (fun W hW => ⟨rfl, hW.low leB⟩)

theorem F_panel_Use_ok (N : Nat) {w : Bs} (p0 : TPanel) (Ap0_0 : Option Addr) (cp0_0 : Nat) (hp0_0 : Sl w.R w.W fl_TBoardKind Ap0_0 cp0_0 p0.Kinds) (Ap0_1 : Option Addr) (cp0_1 : Nat) (hp0_1 : Sl w.R w.W fl_TSlot Ap0_1 cp0_1 p0.Slots) (Ap0_2 : Option Addr) (cp0_2 : Nat) (hp0_2 : Sl w.R w.W fl_TPoint Ap0_2 cp0_2 p0.Marks) (r : (TShare × Int)) (H : F_panel_Use N p0 = some r) (hE : HF w w.W E0) : Calls Try.prog 15 [(.agg #[(.int .i64 p0.W), (.int .i64 p0.H), (.int .i64 p0.Rail), (.int .i64 p0.Gap), (.slice Ap0_0 (p0.Kinds).length cp0_0), (.slice Ap0_1 (p0.Slots).length cp0_1), (.slice Ap0_2 (p0.Marks).length cp0_2)])].toArray w.W fun e W' => e = .returned (.tuple #[(.agg #[(.int .i64 r.1.Num), (.int .i64 r.1.Den)]), (.int .i64 r.2)]) ∧ HF w W' E0 := by
  unfold F_panel_Use at H
  have leB := Bs.Le.refl w
  refine Tr.enter (n := 23) Try.func15 rfl rfl rfl hE ?_
  refine Tr.seq ?_
  refine Tr.region ?_
  refine Tr.box 1 (cs := [(.int .i64 p0.W), (.int .i64 p0.H), (.int .i64 p0.Rail), (.int .i64 p0.Gap), (.slice Ap0_0 (p0.Kinds).length cp0_0), (.slice Ap0_1 (p0.Slots).length cp0_1), (.slice Ap0_2 (p0.Marks).length cp0_2)]) (wn rfl) rfl rfl rfl fun b100 => ?_
  refine Tr.alloc 2 (wn rfl) rfl ze_56 fun b101 => ?_
  refine Tr.val (wn rfl) rfl (fun _ _ h1 h2 => run_assign (h1.ev rfl)) ?_
  refine Tr.nil (Tr.normThen ?_)
  refine Tr.seq ?_
  refine Tr.region ?_
  refine Tr.val (wn rfl) rfl (fun _ _ h1 h2 => run_loadN (cs := [(.int .i64 p0.W), (.int .i64 p0.H), (.int .i64 p0.Rail), (.int .i64 p0.Gap), (.slice Ap0_0 (p0.Kinds).length cp0_0), (.slice Ap0_1 (p0.Slots).length cp0_1), (.slice Ap0_2 (p0.Marks).length cp0_2)]) ag_26 sz_26 (h1.ev rfl) (CellsAt.take (rdb h2 (vs := [(.int .i64 p0.W), (.int .i64 p0.H), (.int .i64 p0.Rail), (.int .i64 p0.Gap), (.slice Ap0_0 (p0.Kinds).length cp0_0), (.slice Ap0_1 (p0.Slots).length cp0_1), (.slice Ap0_2 (p0.Marks).length cp0_2)]) (k := 1) rfl 0) 7) rfl) ?_
  obtain ⟨y102, hy102, H⟩ := bnd H
  refine Tr.callM [3] [emp] (U := (Option Addr × Nat)) (fun u => (.tuple #[(.slice u.1 (y102.1).length u.2), (.int .i64 y102.2)])) (fun u => SlF u.1 (y102.1).length u.2) (fun u => [ow u.1 u.2 49 fl_TRect y102.1]) rfl (pk_cons rfl pk_nil) (fun _ => rfl) (wn rfl) rfl Try.call17 (evl_cons rfl evl_nil) (fun W hW hp hE => F_panel_open_ok N p0 Ap0_0 cp0_0 (hp0_0.ext (hW.extS hp)) Ap0_1 cp0_1 (hp0_1.ext (hW.extS hp)) Ap0_2 cp0_2 (hp0_2.ext (hW.extS hp)) y102 hy102 hE) ?_
  intro u hu
  obtain ⟨Ay102_0, cy102_0⟩ := u
  have gy102_0 := hu
  have hgy102_0 : SlF Ay102_0 (y102.1).length cy102_0 := gy102_0 --@phi
  show Tr _ _ (uf _ 8 (.tuple #[(.slice Ay102_0 (y102.1).length cy102_0), (.int .i64 y102.2)])) (up _ 3 (ow Ay102_0 cy102_0 49 fl_TRect y102.1)) _
  refine Tr.val (wn rfl) rfl (fun _ _ h1 h2 => run_move (h1.ev rfl)) ?_
  refine Tr.val (wn rfl) rfl (fun _ _ h1 h2 => run_extract (h1.ev rfl) rfl) ?_
  refine Tr.val (wn rfl) rfl (fun _ _ h1 h2 => run_extract (h1.ev rfl) rfl) ?_
  refine Tr.val (wn rfl) rfl (fun _ _ h1 h2 => run_assign (h1.ev rfl)) ?_
  refine Tr.val (wn rfl) rfl (fun _ _ h1 h2 => run_assign (h1.ev rfl)) ?_
  refine Tr.nil (Tr.normThen ?_)
  refine Tr.seq ?_
  refine Tr.seq ?_
  refine Tr.region ?_
  refine Tr.val (wn rfl) rfl (fun _ _ h1 h2 => run_move (h1.ev rfl)) ?_
  refine Tr.val (wn rfl) rfl (fun _ _ h1 h2 => run_neq (h1.ev rfl) (h1.ev rfl)) ?_
  refine Tr.nil (Tr.normThen ?_)
  refine Tr.cond rfl H (fun H => ?_) (fun H => ?_)
  · refine Tr.seq ?_
    refine Tr.region ?_
    refine Tr.build (vs := []) (cs := [(.int .i64 0), (.int .i64 0)]) (wn rfl) rfl evs_nil (by kernel_rfl) ?_
    refine Tr.val (wn rfl) rfl (fun _ _ h1 h2 => run_move (h1.ev rfl)) ?_
    refine Tr.store 2 (cs := [(.int .i64 0), (.int .i64 0)]) [(.int .i64 0), (.int .i64 0)] (wn rfl) rfl rfl rfl rfl sz_56 rfl rfl rfl ?_
    refine Tr.val (wn rfl) rfl (fun _ _ h1 h2 => run_assign (h1.ev rfl)) ?_
    refine Tr.nil (Tr.normThen ?_)
    refine Tr.ret (Tr.retThen ?_)
    obtain rfl := Option.some.inj H
    exact Tr.out (m := [(.agg #[(.int .i64 0), (.int .i64 0)]), (.int .i64 y102.2)]) [2] (res_cell rfl rfl ag_56 sz_56 (res_tmp rfl res_nil)) (fun W hW => ⟨rfl, hW.low leB⟩)
  · refine Tr.skip (Tr.normThen ?_)
    refine Tr.seq ?_
    refine Tr.drawTail 7 (by kernel_rfl) (by kernel_rfl) ?_
    refine Tq.val (wn rfl) rfl (fun _ _ h1 h2 => run_move (h1.ev rfl)) ?_
    obtain ⟨y104, hy104, H⟩ := bnd H
    refine Tq.call0 (r := (.int .i64 y104)) (wn rfl) rfl Try.call16 (evl_cons rfl evl_nil) (fun W hW => F_shape_AreaOf_ok y102.1 Ay102_0 cy102_0 (hW.slCall (k := 3) rfl) y104 hy104 (HF.start _)) ?_
    refine Tq.val (wn rfl) rfl (fun _ _ h1 h2 => run_fieldAddr fo_26_0 (h1.ev rfl)) ?_
    refine Tq.val (wn rfl) rfl (fun _ _ h1 h2 => run_load1 ag_3 (h1.ev rfl) (rdb h2 (vs := [(.int .i64 p0.W), (.int .i64 p0.H), (.int .i64 p0.Rail), (.int .i64 p0.Gap), (.slice Ap0_0 (p0.Kinds).length cp0_0), (.slice Ap0_1 (p0.Slots).length cp0_1), (.slice Ap0_2 (p0.Marks).length cp0_2)]) (k := 1) rfl 0) rfl) ?_
    refine Tq.val (wn rfl) rfl (fun _ _ h1 h2 => run_fieldAddr fo_26_1 (h1.ev rfl)) ?_
    refine Tq.val (wn rfl) rfl (fun _ _ h1 h2 => run_load1 ag_3 (h1.ev rfl) (rdb h2 (vs := [(.int .i64 p0.W), (.int .i64 p0.H), (.int .i64 p0.Rail), (.int .i64 p0.Gap), (.slice Ap0_0 (p0.Kinds).length cp0_0), (.slice Ap0_1 (p0.Slots).length cp0_1), (.slice Ap0_2 (p0.Marks).length cp0_2)]) (k := 1) rfl 1) rfl) ?_
    refine Tq.val (wn rfl) rfl (fun _ _ h1 h2 => run_mul (h1.ev rfl) (h1.ev rfl)) ?_
    refine Tq.nil ?_
    obtain ⟨y105, hy105, H⟩ := bnd H
    refine Tr.call0 (r := (.agg #[(.int .i64 y105.Num), (.int .i64 y105.Den)])) (wn rfl) rfl Try.call35 (evl_cons rfl (evl_cons rfl evl_nil)) (fun W hW => F_panel_Lowest_ok N y104 (w64 (p0.W * p0.H)) y105 hy105 (HF.start _)) ?_
    refine Tr.store 2 (cs := [(.int .i64 y105.Num), (.int .i64 y105.Den)]) [(.int .i64 y105.Num), (.int .i64 y105.Den)] (wn rfl) rfl rfl rfl rfl sz_56 rfl rfl rfl ?_
    refine Tr.val (wn rfl) rfl (fun _ _ h1 h2 => run_assign (h1.ev rfl)) ?_
    refine Tr.nil (Tr.normThen ?_)
    refine Tr.ret ?_
    obtain rfl := Option.some.inj H
    exact Tr.out (m := [(.agg #[(.int .i64 y105.Num), (.int .i64 y105.Den)]), (.int .i64 0)]) [2] (res_cell rfl rfl ag_56 sz_56 (res_tmp rfl res_nil)) (fun W hW => ⟨rfl, hW.low leB⟩)

theorem F_etchhouselaw9_awake_ok (N : Nat) {w : Bs}  (r : Bool) (H : F_etchhouselaw9_awake N = some r) (hE : HF w w.W E0) : Calls Try.prog 5 [].toArray w.W fun e W' => e = .returned (.bool r) ∧ HF w W' E0 := by
  unfold F_etchhouselaw9_awake at H
  have leB := Bs.Le.refl w
  refine Tr.enter (n := 15) Try.func5 rfl rfl rfl hE ?_
  refine Tr.seq ?_
  refine Tr.region ?_
  refine Tr.val (wn rfl) rfl (fun _ _ h1 h2 => run_assign (h1.ev rfl)) ?_
  refine Tr.nil (Tr.normThen ?_)
  refine Tr.seq ?_
  refine Tr.region ?_
  refine Tr.build (vs := [(0, (.int .i64 1)), (1, (.int .i64 1))]) (cs := [(.int .i64 1), (.int .i64 1), (.int .i64 0), (.int .i64 0), (.slice none 0 0), (.slice none 0 0), (.slice none 0 0)]) (wn rfl) rfl (evs_cons rfl (evs_cons rfl evs_nil)) (by kernel_rfl) ?_
  obtain ⟨y100, hy100, H⟩ := bnd H
  refine Tr.call0 (r := (.tuple #[(.agg #[(.int .i64 y100.1.Num), (.int .i64 y100.1.Den)]), (.int .i64 y100.2)])) (wn rfl) rfl Try.call15 (evl_cons rfl evl_nil) (fun W hW => F_panel_Use_ok N (TPanel.mk 1 1 0 0 [] [] []) none 0 (Sl.nil _ _ _) none 0 (Sl.nil _ _ _) none 0 (Sl.nil _ _ _) y100 hy100 (HF.start _)) ?_
  refine Tr.val (wn rfl) rfl (fun _ _ h1 h2 => run_move (h1.ev rfl)) ?_
  refine Tr.val (wn rfl) rfl (fun _ _ h1 h2 => run_extract (h1.ev rfl) rfl) ?_
  refine Tr.val (wn rfl) rfl (fun _ _ h1 h2 => run_extract (h1.ev rfl) rfl) ?_
  refine Tr.alloc 1 (wn rfl) rfl ze_56 fun b101 => ?_
  refine Tr.store 1 (cs := [(.int .i64 y100.1.Num), (.int .i64 y100.1.Den)]) [(.int .i64 y100.1.Num), (.int .i64 y100.1.Den)] (wn rfl) rfl rfl rfl rfl sz_56 rfl rfl rfl ?_
  refine Tr.val (wn rfl) rfl (fun _ _ h1 h2 => run_assign (h1.ev rfl)) ?_
  refine Tr.nil (Tr.normThen ?_)
  refine Tr.seq ?_
  refine Tr.region ?_
  refine Tr.val (wn rfl) rfl (fun _ _ h1 h2 => run_move (h1.ev rfl)) ?_
  refine Tr.val (wn rfl) rfl (fun _ _ h1 h2 => run_eql (h1.ev rfl) (h1.ev rfl)) ?_
  refine Tr.val (wn rfl) rfl (fun _ _ h1 h2 => run_move (h1.ev rfl)) ?_
  refine Tr.mid0 4 [(14, (.bool ((y100.2 == 0) && (eqTShare y100.1 (TShare.mk 0 1)))))] [(1, bx b101 #[(.int .i64 y100.1.Num), (.int .i64 y100.1.Den)] 56)] ?_ ?_
  · cases hg101 : (y100.2 == 0)
    · refine Tr.pass rfl rfl rfl rfl rfl (by decide) ?_
      refine Tr.pass rfl rfl rfl rfl rfl (by decide) ?_
      refine Tr.pass rfl rfl rfl rfl rfl (by decide) ?_
      refine Tr.val (wn rfl) rfl (fun _ _ h1 h2 => run_pickF (h1.ev rfl) (h1.ev rfl)) ?_
      exact Tr.nil (Tr.fin0 (.cons rfl .nil) (.cons rfl .nil))
    · refine Tr.val (wg rfl rfl rfl) rfl (fun _ _ h1 h2 => run_loadN (cs := [(.int .i64 y100.1.Num), (.int .i64 y100.1.Den)]) ag_56 sz_56 (h1.ev rfl) (CellsAt.take (rdb h2 (vs := [(.int .i64 y100.1.Num), (.int .i64 y100.1.Den)]) (k := 1) rfl 0) 2) rfl) ?_
      refine Tr.build (vs := [(1, (.int .i64 1))]) (cs := [(.int .i64 0), (.int .i64 1)]) (wg rfl rfl rfl) rfl (evs_cons rfl evs_nil) (by kernel_rfl) ?_
      refine Tr.val (wg rfl rfl rfl) rfl (fun _ _ h1 h2 => run_eql_56 y100.1 (TShare.mk 0 1) (h1.ev rfl) (h1.ev rfl)) ?_
      refine Tr.val (wn rfl) rfl (fun _ _ h1 h2 => run_pickT (h1.ev rfl) (h1.ev rfl)) ?_
      exact Tr.nil (Tr.fin0 (.cons rfl .nil) (.cons rfl .nil))
  · show Tr _ _ (LF [(14, (.bool ((y100.2 == 0) && (eqTShare y100.1 (TShare.mk 0 1)))))]) (LE [(1, bx b101 #[(.int .i64 y100.1.Num), (.int .i64 y100.1.Den)] 56)]) _
    refine Tr.val (wn rfl) rfl (fun _ _ h1 h2 => run_assign (h1.ev rfl)) ?_
    refine Tr.nil (Tr.normThen ?_)
    refine Tr.ret ?_
    obtain rfl := Option.some.inj H
    exact Tr.out (m := [(.bool ((y100.2 == 0) && (eqTShare y100.1 (TShare.mk 0 1))))]) [] (res_tmp rfl res_nil) (fun W hW => ⟨rfl, hW.low leB⟩)

theorem F_shape_Area_ok (N : Nat) {w : Bs} (p0 : (List TRect)) (Ap0_0 : Option Addr) (cp0_0 : Nat) (hp0_0 : Sl w.R w.W fl_TRect Ap0_0 cp0_0 p0) (r : (Int × Int)) (H : F_shape_Area N p0 = some r) (hE : HF w w.W E0) : Calls Try.prog 6 [(.slice Ap0_0 (p0).length cp0_0)].toArray w.W fun e W' => e = .returned (.tuple #[(.int .i64 r.1), (.int .i64 r.2)]) ∧ HF w W' E0 := by
  unfold F_shape_Area at H
  have leB := Bs.Le.refl w
  refine Tr.enter (n := 12) Try.func6 rfl rfl rfl hE ?_
  refine Tr.seq ?_
  refine Tr.region ?_
  refine Tr.val (wn rfl) rfl (fun _ _ h1 h2 => run_assign (h1.ev rfl)) ?_
  refine Tr.val (wn rfl) rfl (fun _ _ h1 h2 => run_assign (h1.ev rfl)) ?_
  refine Tr.nil (Tr.normThen ?_)
  refine Tr.seq ?_
  refine Tr.seq ?_
  refine Tr.region ?_
  refine Tr.val (wn rfl) rfl (fun _ _ h1 h2 => run_move (h1.ev rfl)) ?_
  obtain ⟨y100, hy100, H⟩ := bnd H
  refine Tr.call0 (r := (.int .i64 y100)) (wn rfl) rfl Try.call9 (evl_cons rfl evl_nil) (fun W hW => F_shape_CheckRegion_ok N p0 Ap0_0 cp0_0 (hp0_0.ext hW.extAll) y100 hy100 (HF.start _)) ?_
  refine Tr.val (wn rfl) rfl (fun _ _ h1 h2 => run_assign (h1.ev rfl)) ?_
  refine Tr.nil (Tr.normThen ?_)
  refine Tr.seq ?_
  refine Tr.region ?_
  refine Tr.val (wn rfl) rfl (fun _ _ h1 h2 => run_move (h1.ev rfl)) ?_
  refine Tr.val (wn rfl) rfl (fun _ _ h1 h2 => run_neq (h1.ev rfl) (h1.ev rfl)) ?_
  refine Tr.nil (Tr.normThen ?_)
  refine Tr.cond rfl H (fun H => ?_) (fun H => ?_)
  · refine Tr.seq ?_
    refine Tr.region ?_
    refine Tr.val (wn rfl) rfl (fun _ _ h1 h2 => run_move (h1.ev rfl)) ?_
    refine Tr.val (wn rfl) rfl (fun _ _ h1 h2 => run_assign (h1.ev rfl)) ?_
    refine Tr.val (wn rfl) rfl (fun _ _ h1 h2 => run_assign (h1.ev rfl)) ?_
    refine Tr.nil (Tr.normThen ?_)
    refine Tr.ret (Tr.retThen ?_)
    obtain rfl := Option.some.inj H
    exact Tr.out (m := [(.int .i64 0), (.int .i64 y100)]) [] (res_tmp rfl (res_tmp rfl res_nil)) (fun W hW => ⟨rfl, hW.low leB⟩)
  · refine Tr.skip (Tr.normThen ?_)
    refine Tr.seq ?_
    refine Tr.region ?_
    refine Tr.val (wn rfl) rfl (fun _ _ h1 h2 => run_move (h1.ev rfl)) ?_
    obtain ⟨y101, hy101, H⟩ := bnd H
    refine Tr.call0 (r := (.int .i64 y101)) (wn rfl) rfl Try.call16 (evl_cons rfl evl_nil) (fun W hW => F_shape_AreaOf_ok p0 Ap0_0 cp0_0 (hp0_0.ext hW.extAll) y101 hy101 (HF.start _)) ?_
    refine Tr.val (wn rfl) rfl (fun _ _ h1 h2 => run_assign (h1.ev rfl)) ?_
    refine Tr.val (wn rfl) rfl (fun _ _ h1 h2 => run_assign (h1.ev rfl)) ?_
    refine Tr.nil (Tr.normThen ?_)
    refine Tr.ret ?_
    obtain rfl := Option.some.inj H
    exact Tr.out (m := [(.int .i64 y101), (.int .i64 0)]) [] (res_tmp rfl (res_tmp rfl res_nil)) (fun W hW => ⟨rfl, hW.low leB⟩)

theorem F_etchhouselaw9_PanelCopperKeepsArea_ok (N : Nat) {w : Bs} (p0 : TPanel) (Ap0_0 : Option Addr) (cp0_0 : Nat) (hp0_0 : Sl w.R w.W fl_TBoardKind Ap0_0 cp0_0 p0.Kinds) (Ap0_1 : Option Addr) (cp0_1 : Nat) (hp0_1 : Sl w.R w.W fl_TSlot Ap0_1 cp0_1 p0.Slots) (Ap0_2 : Option Addr) (cp0_2 : Nat) (hp0_2 : Sl w.R w.W fl_TPoint Ap0_2 cp0_2 p0.Marks) (p1 : ByteArray) (p2 : (List TRect)) (Ap2_0 : Option Addr) (cp2_0 : Nat) (hp2_0 : Sl w.R w.W fl_TRect Ap2_0 cp2_0 p2) (r : Bool) (H : F_etchhouselaw9_PanelCopperKeepsArea N p0 p1 p2 = some r) (hE : HF w w.W E0) : Calls Try.prog 3 [(.agg #[(.int .i64 p0.W), (.int .i64 p0.H), (.int .i64 p0.Rail), (.int .i64 p0.Gap), (.slice Ap0_0 (p0.Kinds).length cp0_0), (.slice Ap0_1 (p0.Slots).length cp0_1), (.slice Ap0_2 (p0.Marks).length cp0_2)]), (.string p1), (.slice Ap2_0 (p2).length cp2_0)].toArray w.W fun e W' => e = .returned (.bool r) ∧ HF w W' E0 := by
  unfold F_etchhouselaw9_PanelCopperKeepsArea at H
  have leB := Bs.Le.refl w
  refine Tr.enter (n := 72) Try.func3 rfl rfl rfl hE ?_
  refine Tr.seq ?_
  refine Tr.region ?_
  refine Tr.box 1 (cs := [(.int .i64 p0.W), (.int .i64 p0.H), (.int .i64 p0.Rail), (.int .i64 p0.Gap), (.slice Ap0_0 (p0.Kinds).length cp0_0), (.slice Ap0_1 (p0.Slots).length cp0_1), (.slice Ap0_2 (p0.Marks).length cp0_2)]) (wn rfl) rfl rfl rfl fun b100 => ?_
  refine Tr.val (wn rfl) rfl (fun _ _ h1 h2 => run_assign (h1.ev rfl)) ?_
  refine Tr.nil (Tr.normThen ?_)
  refine Tr.seq ?_
  refine Tr.region ?_
  refine Tr.val (wn rfl) rfl (fun _ _ h1 h2 => run_loadN (cs := [(.int .i64 p0.W), (.int .i64 p0.H), (.int .i64 p0.Rail), (.int .i64 p0.Gap), (.slice Ap0_0 (p0.Kinds).length cp0_0), (.slice Ap0_1 (p0.Slots).length cp0_1), (.slice Ap0_2 (p0.Marks).length cp0_2)]) ag_26 sz_26 (h1.ev rfl) (CellsAt.take (rdb h2 (vs := [(.int .i64 p0.W), (.int .i64 p0.H), (.int .i64 p0.Rail), (.int .i64 p0.Gap), (.slice Ap0_0 (p0.Kinds).length cp0_0), (.slice Ap0_1 (p0.Slots).length cp0_1), (.slice Ap0_2 (p0.Marks).length cp0_2)]) (k := 1) rfl 0) 7) rfl) ?_
  refine Tr.val (wn rfl) rfl (fun _ _ h1 h2 => run_move (h1.ev rfl)) ?_
  refine Tr.val (wn rfl) rfl (fun _ _ h1 h2 => run_move (h1.ev rfl)) ?_
  obtain ⟨y101, hy101, H⟩ := bnd H
  refine Tr.callM [2] [emp] (U := (Option Addr × Nat)) (fun u => (.tuple #[(.slice u.1 (y101.1).length u.2), (.int .i64 y101.2)])) (fun u => SlF u.1 (y101.1).length u.2) (fun u => [ow u.1 u.2 49 fl_TRect y101.1]) rfl (pk_cons rfl pk_nil) (fun _ => rfl) (wn rfl) rfl Try.call4 (evl_cons rfl (evl_cons rfl (evl_cons rfl evl_nil))) (fun W hW hp hE => F_panel_Copper_ok N p0 Ap0_0 cp0_0 (hp0_0.ext (hW.extS hp)) Ap0_1 cp0_1 (hp0_1.ext (hW.extS hp)) Ap0_2 cp0_2 (hp0_2.ext (hW.extS hp)) p1 p2 Ap2_0 cp2_0 (hp2_0.ext (hW.extS hp)) y101 hy101 hE) ?_
  intro u hu
  obtain ⟨Ay101_0, cy101_0⟩ := u
  have gy101_0 := hu
  have hgy101_0 : SlF Ay101_0 (y101.1).length cy101_0 := gy101_0 --@phi
  show Tr _ _ (uf _ 18 (.tuple #[(.slice Ay101_0 (y101.1).length cy101_0), (.int .i64 y101.2)])) (up _ 2 (ow Ay101_0 cy101_0 49 fl_TRect y101.1)) _
  refine Tr.val (wn rfl) rfl (fun _ _ h1 h2 => run_move (h1.ev rfl)) ?_
  refine Tr.val (wn rfl) rfl (fun _ _ h1 h2 => run_extract (h1.ev rfl) rfl) ?_
  refine Tr.val (wn rfl) rfl (fun _ _ h1 h2 => run_extract (h1.ev rfl) rfl) ?_
  refine Tr.val (wn rfl) rfl (fun _ _ h1 h2 => run_assign (h1.ev rfl)) ?_
  refine Tr.val (wn rfl) rfl (fun _ _ h1 h2 => run_assign (h1.ev rfl)) ?_
  refine Tr.nil (Tr.normThen ?_)
  refine Tr.seq ?_
  refine Tr.seq ?_
  refine Tr.region ?_
  refine Tr.val (wn rfl) rfl (fun _ _ h1 h2 => run_move (h1.ev rfl)) ?_
  refine Tr.val (wn rfl) rfl (fun _ _ h1 h2 => run_neq (h1.ev rfl) (h1.ev rfl)) ?_
  refine Tr.nil (Tr.normThen ?_)
  refine Tr.cond rfl H (fun H => ?_) (fun H => ?_)
  · refine Tr.seq ?_
    refine Tr.region ?_
    refine Tr.val (wn rfl) rfl (fun _ _ h1 h2 => run_move (h1.ev rfl)) ?_
    refine Tr.val (wn rfl) rfl (fun _ _ h1 h2 => run_len un_27 (h1.ev rfl)) ?_
    refine Tr.val (wn rfl) rfl (fun _ _ h1 h2 => run_eql (h1.ev rfl) (h1.ev rfl)) ?_
    refine Tr.val (wn rfl) rfl (fun _ _ h1 h2 => run_move (h1.ev rfl)) ?_
    obtain ⟨g104, hg104, H⟩ := bnd H
    refine Tr.mid0 2 [(28, (.bool g104))] [(1, bx b100 #[(.int .i64 p0.W), (.int .i64 p0.H), (.int .i64 p0.Rail), (.int .i64 p0.Gap), (.slice Ap0_0 (p0.Kinds).length cp0_0), (.slice Ap0_1 (p0.Slots).length cp0_1), (.slice Ap0_2 (p0.Marks).length cp0_2)] 26), (2, ow Ay101_0 cy101_0 49 fl_TRect y101.1)] ?_ ?_
    · cases hg105 : ((y101.1.length : Int) == 0)
      · rw [hg105] at hg104
        rw [if_neg (by decide)] at hg104
        have H := hg104
        obtain rfl := Option.some.inj H
        refine Tr.pass rfl rfl rfl rfl rfl (by decide) ?_
        refine Tr.val (wn rfl) rfl (fun _ _ h1 h2 => run_pickF (h1.ev rfl) (h1.ev rfl)) ?_
        exact Tr.nil (Tr.fin0 (.cons rfl .nil) (.cons rfl (.cons rfl .nil)))
      · rw [hg105] at hg104
        rw [if_pos rfl] at hg104
        have H := hg104
        obtain ⟨y105, hy105, H⟩ := bnd H
        refine Tr.call0 (r := (.bool y105)) (wg rfl rfl rfl) rfl Try.call5 evl_nil (fun W hW => F_etchhouselaw9_awake_ok N y105 hy105 (HF.start _)) ?_
        refine Tr.val (wn rfl) rfl (fun _ _ h1 h2 => run_pickT (h1.ev rfl) (h1.ev rfl)) ?_
        obtain rfl := Option.some.inj H
        exact Tr.nil (Tr.fin0 (.cons rfl .nil) (.cons rfl (.cons rfl .nil)))
    · show Tr _ _ (LF [(28, (.bool g104))]) (LE [(1, bx b100 #[(.int .i64 p0.W), (.int .i64 p0.H), (.int .i64 p0.Rail), (.int .i64 p0.Gap), (.slice Ap0_0 (p0.Kinds).length cp0_0), (.slice Ap0_1 (p0.Slots).length cp0_1), (.slice Ap0_2 (p0.Marks).length cp0_2)] 26), (2, ow Ay101_0 cy101_0 49 fl_TRect y101.1)]) _
      refine Tr.val (wn rfl) rfl (fun _ _ h1 h2 => run_assign (h1.ev rfl)) ?_
      refine Tr.nil (Tr.normThen ?_)
      refine Tr.ret (Tr.retThen ?_)
      obtain rfl := Option.some.inj H
      exact Tr.out (m := [(.bool g104)]) [] (res_tmp rfl res_nil) (fun W hW => ⟨rfl, hW.low leB⟩)
  · refine Tr.skip (Tr.normThen ?_)
    refine Tr.seq ?_
    refine Tr.region ?_
    refine Tr.val (wn rfl) rfl (fun _ _ h1 h2 => run_assign (h1.ev rfl)) ?_
    refine Tr.nil (Tr.normThen ?_)
    refine Tr.seq ?_
    refine Tr.seq ?_
    refine Tr.region ?_
    refine Tr.val (wn rfl) rfl (fun _ _ h1 h2 => run_assign (h1.ev rfl)) ?_
    refine Tr.nil (Tr.normThen ?_)
    refine Tr.block ?_
    refine Tr.loop (σ := Int × Int) (fun m w s => F_etchhouselaw9_PanelCopperKeepsArea_L1 N p0 p1 p2 y101 m s.1 s.2 = some r) (fun s => [(1, (.string p1)), (2, (.slice Ap2_0 (p2).length cp2_0)), (3, (.pointer (some ⟨b100, 0, none⟩))), (7, (.slice Ay101_0 (y101.1).length cy101_0)), (9, (.int .i64 s.1)), (10, (.int .i64 s.2))]) (fun s => [(1, bx b100 #[(.int .i64 p0.W), (.int .i64 p0.H), (.int .i64 p0.Rail), (.int .i64 p0.Gap), (.slice Ap0_0 (p0.Kinds).length cp0_0), (.slice Ap0_1 (p0.Slots).length cp0_1), (.slice Ap0_2 (p0.Marks).length cp0_2)] 26), (2, ow Ay101_0 cy101_0 49 fl_TRect y101.1)]) N (0, 0) H (.cons rfl (.cons rfl (.cons rfl (.cons rfl (.cons rfl (.cons rfl .nil)))))) (.cons rfl (.cons rfl .nil)) (fun _ _ h => noSome (h)) ?_
    intro w leF_etchhouselaw9_PanelCopperKeepsArea_L1 mF_etchhouselaw9_PanelCopperKeepsArea_L1 s hs
    obtain ⟨x114, x115⟩ := s
    have H := hs
    replace H : F_etchhouselaw9_PanelCopperKeepsArea_L1 N p0 p1 p2 y101 (mF_etchhouselaw9_PanelCopperKeepsArea_L1 + 1) x114 x115 = some r := H
    replace hp2_0 := hp2_0.leR leF_etchhouselaw9_PanelCopperKeepsArea_L1
    replace hp0_0 := hp0_0.leR leF_etchhouselaw9_PanelCopperKeepsArea_L1
    replace hp0_1 := hp0_1.leR leF_etchhouselaw9_PanelCopperKeepsArea_L1
    replace hp0_2 := hp0_2.leR leF_etchhouselaw9_PanelCopperKeepsArea_L1
    replace leB := leB.trans leF_etchhouselaw9_PanelCopperKeepsArea_L1
    rw [F_etchhouselaw9_PanelCopperKeepsArea_L1.eq_2] at H
    show Tr _ _ (LF [(1, (.string p1)), (2, (.slice Ap2_0 (p2).length cp2_0)), (3, (.pointer (some ⟨b100, 0, none⟩))), (7, (.slice Ay101_0 (y101.1).length cy101_0)), (9, (.int .i64 x114)), (10, (.int .i64 x115))]) (LE [(1, bx b100 #[(.int .i64 p0.W), (.int .i64 p0.H), (.int .i64 p0.Rail), (.int .i64 p0.Gap), (.slice Ap0_0 (p0.Kinds).length cp0_0), (.slice Ap0_1 (p0.Slots).length cp0_1), (.slice Ap0_2 (p0.Marks).length cp0_2)] 26), (2, ow Ay101_0 cy101_0 49 fl_TRect y101.1)]) _
    refine Tr.seq ?_
    refine Tr.seq ?_
    refine Tr.region ?_
    refine Tr.val (wn rfl) rfl (fun _ _ h1 h2 => run_move (h1.ev rfl)) ?_
    refine Tr.val (wn rfl) rfl (fun _ _ h1 h2 => run_fieldAddr fo_26_5 (h1.ev rfl)) ?_
    refine Tr.val (wn rfl) rfl (fun _ _ h1 h2 => run_load1 ag_23 (h1.ev rfl) (rdb h2 (vs := [(.int .i64 p0.W), (.int .i64 p0.H), (.int .i64 p0.Rail), (.int .i64 p0.Gap), (.slice Ap0_0 (p0.Kinds).length cp0_0), (.slice Ap0_1 (p0.Slots).length cp0_1), (.slice Ap0_2 (p0.Marks).length cp0_2)]) (k := 1) rfl 5) rfl) ?_
    refine Tr.val (wn rfl) rfl (fun _ _ h1 h2 => run_len un_23 (h1.ev rfl)) ?_
    refine Tr.val (wn rfl) rfl (fun _ _ h1 h2 => run_lss (h1.ev rfl) (h1.ev rfl)) ?_
    refine Tr.nil (Tr.normThen ?_)
    refine Tr.cond rfl H (fun H => ?_) (fun H => ?_)
    · refine Tr.skip (Tr.normThen ?_)
      refine Tr.seq ?_
      refine Tr.block ?_
      refine Tr.seq ?_
      refine Tr.region ?_
      refine Tr.val (wn rfl) rfl (fun _ _ h1 h2 => run_fieldAddr fo_26_5 (h1.ev rfl)) ?_
      refine Tr.val (wn rfl) rfl (fun _ _ h1 h2 => run_load1 ag_23 (h1.ev rfl) (rdb h2 (vs := [(.int .i64 p0.W), (.int .i64 p0.H), (.int .i64 p0.Rail), (.int .i64 p0.Gap), (.slice Ap0_0 (p0.Kinds).length cp0_0), (.slice Ap0_1 (p0.Slots).length cp0_1), (.slice Ap0_2 (p0.Marks).length cp0_2)]) (k := 1) rfl 5) rfl) ?_
      refine Tr.val (wn rfl) rfl (fun _ _ h1 h2 => run_move (h1.ev rfl)) ?_
      obtain ⟨x116, hx116, H⟩ := bnd H
      obtain ⟨hx1160, hx1161, hx1162⟩ := idx_some hx116
      refine Tr.val (wn rfl) rfl (fun _ _ h1 h2 => run_indexAddr el_23 (h1.ev rfl) hp0_1.form (h1.ev rfl) hx1160 hx1161) ?_
      refine Tr.val (wn rfl) rfl (fun _ _ h1 h2 => run_fieldAddr fo_35_0 (h1.ev rfl)) ?_
      refine Tr.val (wn rfl) rfl (fun _ _ h1 h2 => run_load1 ag_9 (h1.ev rfl) (CellsAt.drop (rdF ef_TSlot hp0_1 hx1162 h2) 0) rfl) ?_
      refine Tr.val (wn rfl) rfl (fun _ _ h1 h2 => run_move (h1.ev rfl)) ?_
      refine Tr.val (wn rfl) rfl (fun _ _ h1 h2 => run_eqlS (h1.ev rfl) (h1.ev rfl)) ?_
      refine Tr.nil (Tr.normThen ?_)
      refine Tr.cond rfl H (fun H => ?_) (fun H => ?_)
      · refine Tr.region ?_
        refine Tr.val (wn rfl) rfl (fun _ _ h1 h2 => run_move (h1.ev rfl)) ?_
        refine Tr.val (wn rfl) rfl (fun _ _ h1 h2 => run_add (h1.ev rfl) (h1.ev rfl)) ?_
        refine Tr.val (wn rfl) rfl (fun _ _ h1 h2 => run_assign (h1.ev rfl)) ?_
        refine Tr.nil (Tr.normBlock (Tr.normThen ?_))
        refine Tr.region ?_
        refine Tr.val (wn rfl) rfl (fun _ _ h1 h2 => run_move (h1.ev rfl)) ?_
        refine Tr.val (wn rfl) rfl (fun _ _ h1 h2 => run_add (h1.ev rfl) (h1.ev rfl)) ?_
        refine Tr.val (wn rfl) rfl (fun _ _ h1 h2 => run_assign (h1.ev rfl)) ?_
        refine Tr.nil ?_
        exact Tr.backThen leF_etchhouselaw9_PanelCopperKeepsArea_L1 ((w64 (x114 + 1)), (w64 (x115 + 1))) H (.cons rfl (.cons rfl (.cons rfl (.cons rfl (.cons rfl (.cons rfl .nil)))))) (.cons rfl (.cons rfl .nil))
      · refine Tr.skip (Tr.normBlock (Tr.normThen ?_))
        refine Tr.region ?_
        refine Tr.val (wn rfl) rfl (fun _ _ h1 h2 => run_move (h1.ev rfl)) ?_
        refine Tr.val (wn rfl) rfl (fun _ _ h1 h2 => run_add (h1.ev rfl) (h1.ev rfl)) ?_
        refine Tr.val (wn rfl) rfl (fun _ _ h1 h2 => run_assign (h1.ev rfl)) ?_
        refine Tr.nil ?_
        exact Tr.backThen leF_etchhouselaw9_PanelCopperKeepsArea_L1 (x114, (w64 (x115 + 1))) H (.cons rfl (.cons rfl (.cons rfl (.cons rfl (.cons rfl (.cons rfl .nil)))))) (.cons rfl (.cons rfl .nil))
    · refine Tr.exit (Tr.exitThen (Tr.exitThen (Tr.exitBlock (Tr.normThen ?_))))
      refine Tr.seq ?_
      refine Tr.region ?_
      refine Tr.val (wn rfl) rfl (fun _ _ h1 h2 => run_move (h1.ev rfl)) ?_
      obtain ⟨y117, hy117, H⟩ := bnd H
      refine Tr.call0 (r := (.tuple #[(.int .i64 y117.1), (.int .i64 y117.2)])) (wn rfl) rfl Try.call6 (evl_cons rfl evl_nil) (fun W hW => F_shape_Area_ok N p2 Ap2_0 cp2_0 (hp2_0.ext hW.extAll) y117 hy117 (HF.start _)) ?_
      refine Tr.val (wn rfl) rfl (fun _ _ h1 h2 => run_move (h1.ev rfl)) ?_
      refine Tr.val (wn rfl) rfl (fun _ _ h1 h2 => run_extract (h1.ev rfl) rfl) ?_
      refine Tr.val (wn rfl) rfl (fun _ _ h1 h2 => run_extract (h1.ev rfl) rfl) ?_
      refine Tr.val (wn rfl) rfl (fun _ _ h1 h2 => run_assign (h1.ev rfl)) ?_
      refine Tr.val (wn rfl) rfl (fun _ _ h1 h2 => run_assign (h1.ev rfl)) ?_
      refine Tr.nil (Tr.normThen ?_)
      refine Tr.seq ?_
      refine Tr.region ?_
      refine Tr.val (wn rfl) rfl (fun _ _ h1 h2 => run_move (h1.ev rfl)) ?_
      obtain ⟨y118, hy118, H⟩ := bnd H
      refine Tr.call0 (r := (.tuple #[(.int .i64 y118.1), (.int .i64 y118.2)])) (wn rfl) rfl Try.call6 (evl_cons rfl evl_nil) (fun W hW => F_shape_Area_ok N y101.1 Ay101_0 cy101_0 (hW.slCall (k := 2) rfl) y118 hy118 (HF.start _)) ?_
      refine Tr.val (wn rfl) rfl (fun _ _ h1 h2 => run_move (h1.ev rfl)) ?_
      refine Tr.val (wn rfl) rfl (fun _ _ h1 h2 => run_extract (h1.ev rfl) rfl) ?_
      refine Tr.val (wn rfl) rfl (fun _ _ h1 h2 => run_extract (h1.ev rfl) rfl) ?_
      refine Tr.val (wn rfl) rfl (fun _ _ h1 h2 => run_assign (h1.ev rfl)) ?_
      refine Tr.val (wn rfl) rfl (fun _ _ h1 h2 => run_assign (h1.ev rfl)) ?_
      refine Tr.nil (Tr.normThen ?_)
      refine Tr.seq ?_
      refine Tr.region ?_
      refine Tr.val (wn rfl) rfl (fun _ _ h1 h2 => run_move (h1.ev rfl)) ?_
      refine Tr.val (wn rfl) rfl (fun _ _ h1 h2 => run_eql (h1.ev rfl) (h1.ev rfl)) ?_
      refine Tr.val (wn rfl) rfl (fun _ _ h1 h2 => run_move (h1.ev rfl)) ?_
      refine Tr.mid0 3 [(9, (.int .i64 x114)), (11, (.int .i64 y117.1)), (12, (.int .i64 y118.1)), (61, (.bool ((y117.2 == 0) && (y118.2 == 0))))] [(1, bx b100 #[(.int .i64 p0.W), (.int .i64 p0.H), (.int .i64 p0.Rail), (.int .i64 p0.Gap), (.slice Ap0_0 (p0.Kinds).length cp0_0), (.slice Ap0_1 (p0.Slots).length cp0_1), (.slice Ap0_2 (p0.Marks).length cp0_2)] 26), (2, ow Ay101_0 cy101_0 49 fl_TRect y101.1)] ?_ ?_
      · cases hg121 : (y117.2 == 0)
        · refine Tr.pass rfl rfl rfl rfl rfl (by decide) ?_
          refine Tr.pass rfl rfl rfl rfl rfl (by decide) ?_
          refine Tr.val (wn rfl) rfl (fun _ _ h1 h2 => run_pickF (h1.ev rfl) (h1.ev rfl)) ?_
          exact Tr.nil (Tr.fin0 (.cons rfl (.cons rfl (.cons rfl (.cons rfl .nil)))) (.cons rfl (.cons rfl .nil)))
        · refine Tr.val (wg rfl rfl rfl) rfl (fun _ _ h1 h2 => run_move (h1.ev rfl)) ?_
          refine Tr.val (wg rfl rfl rfl) rfl (fun _ _ h1 h2 => run_eql (h1.ev rfl) (h1.ev rfl)) ?_
          refine Tr.val (wn rfl) rfl (fun _ _ h1 h2 => run_pickT (h1.ev rfl) (h1.ev rfl)) ?_
          exact Tr.nil (Tr.fin0 (.cons rfl (.cons rfl (.cons rfl (.cons rfl .nil)))) (.cons rfl (.cons rfl .nil)))
      · show Tr _ _ (LF [(9, (.int .i64 x114)), (11, (.int .i64 y117.1)), (12, (.int .i64 y118.1)), (61, (.bool ((y117.2 == 0) && (y118.2 == 0))))]) (LE [(1, bx b100 #[(.int .i64 p0.W), (.int .i64 p0.H), (.int .i64 p0.Rail), (.int .i64 p0.Gap), (.slice Ap0_0 (p0.Kinds).length cp0_0), (.slice Ap0_1 (p0.Slots).length cp0_1), (.slice Ap0_2 (p0.Marks).length cp0_2)] 26), (2, ow Ay101_0 cy101_0 49 fl_TRect y101.1)]) _
        refine Tr.val (wn rfl) rfl (fun _ _ h1 h2 => run_move (h1.ev rfl)) ?_
        refine Tr.mid0 6 [(68, (.bool (((y117.2 == 0) && (y118.2 == 0)) && ((w64 (x114 * y117.1)) == y118.1))))] [(1, bx b100 #[(.int .i64 p0.W), (.int .i64 p0.H), (.int .i64 p0.Rail), (.int .i64 p0.Gap), (.slice Ap0_0 (p0.Kinds).length cp0_0), (.slice Ap0_1 (p0.Slots).length cp0_1), (.slice Ap0_2 (p0.Marks).length cp0_2)] 26), (2, ow Ay101_0 cy101_0 49 fl_TRect y101.1)] ?_ ?_
        · cases hg121 : ((y117.2 == 0) && (y118.2 == 0))
          · refine Tr.pass rfl rfl rfl rfl rfl (by decide) ?_
            refine Tr.pass rfl rfl rfl rfl rfl (by decide) ?_
            refine Tr.pass rfl rfl rfl rfl rfl (by decide) ?_
            refine Tr.pass rfl rfl rfl rfl rfl (by decide) ?_
            refine Tr.pass rfl rfl rfl rfl rfl (by decide) ?_
            refine Tr.val (wn rfl) rfl (fun _ _ h1 h2 => run_pickF (h1.ev rfl) (h1.ev rfl)) ?_
            exact Tr.nil (Tr.fin0 (.cons rfl .nil) (.cons rfl (.cons rfl .nil)))
          · refine Tr.val (wg rfl rfl rfl) rfl (fun _ _ h1 h2 => run_move (h1.ev rfl)) ?_
            refine Tr.val (wg rfl rfl rfl) rfl (fun _ _ h1 h2 => run_move (h1.ev rfl)) ?_
            refine Tr.val (wg rfl rfl rfl) rfl (fun _ _ h1 h2 => run_mul (h1.ev rfl) (h1.ev rfl)) ?_
            refine Tr.val (wg rfl rfl rfl) rfl (fun _ _ h1 h2 => run_move (h1.ev rfl)) ?_
            refine Tr.val (wg rfl rfl rfl) rfl (fun _ _ h1 h2 => run_eql (h1.ev rfl) (h1.ev rfl)) ?_
            refine Tr.val (wn rfl) rfl (fun _ _ h1 h2 => run_pickT (h1.ev rfl) (h1.ev rfl)) ?_
            exact Tr.nil (Tr.fin0 (.cons rfl .nil) (.cons rfl (.cons rfl .nil)))
        · show Tr _ _ (LF [(68, (.bool (((y117.2 == 0) && (y118.2 == 0)) && ((w64 (x114 * y117.1)) == y118.1))))]) (LE [(1, bx b100 #[(.int .i64 p0.W), (.int .i64 p0.H), (.int .i64 p0.Rail), (.int .i64 p0.Gap), (.slice Ap0_0 (p0.Kinds).length cp0_0), (.slice Ap0_1 (p0.Slots).length cp0_1), (.slice Ap0_2 (p0.Marks).length cp0_2)] 26), (2, ow Ay101_0 cy101_0 49 fl_TRect y101.1)]) _
          refine Tr.val (wn rfl) rfl (fun _ _ h1 h2 => run_move (h1.ev rfl)) ?_
          obtain ⟨g120, hg120, H⟩ := bnd H
          refine Tr.mid0 2 [(71, (.bool g120))] [(1, bx b100 #[(.int .i64 p0.W), (.int .i64 p0.H), (.int .i64 p0.Rail), (.int .i64 p0.Gap), (.slice Ap0_0 (p0.Kinds).length cp0_0), (.slice Ap0_1 (p0.Slots).length cp0_1), (.slice Ap0_2 (p0.Marks).length cp0_2)] 26), (2, ow Ay101_0 cy101_0 49 fl_TRect y101.1)] ?_ ?_
          · cases hg121 : (((y117.2 == 0) && (y118.2 == 0)) && ((w64 (x114 * y117.1)) == y118.1))
            · rw [hg121] at hg120
              rw [if_neg (by decide)] at hg120
              have H := hg120
              obtain rfl := Option.some.inj H
              refine Tr.pass rfl rfl rfl rfl rfl (by decide) ?_
              refine Tr.val (wn rfl) rfl (fun _ _ h1 h2 => run_pickF (h1.ev rfl) (h1.ev rfl)) ?_
              exact Tr.nil (Tr.fin0 (.cons rfl .nil) (.cons rfl (.cons rfl .nil)))
            · rw [hg121] at hg120
              rw [if_pos rfl] at hg120
              have H := hg120
              obtain ⟨y121, hy121, H⟩ := bnd H
              refine Tr.call0 (r := (.bool y121)) (wg rfl rfl rfl) rfl Try.call5 evl_nil (fun W hW => F_etchhouselaw9_awake_ok N y121 hy121 (HF.start _)) ?_
              refine Tr.val (wn rfl) rfl (fun _ _ h1 h2 => run_pickT (h1.ev rfl) (h1.ev rfl)) ?_
              obtain rfl := Option.some.inj H
              exact Tr.nil (Tr.fin0 (.cons rfl .nil) (.cons rfl (.cons rfl .nil)))
          · show Tr _ _ (LF [(71, (.bool g120))]) (LE [(1, bx b100 #[(.int .i64 p0.W), (.int .i64 p0.H), (.int .i64 p0.Rail), (.int .i64 p0.Gap), (.slice Ap0_0 (p0.Kinds).length cp0_0), (.slice Ap0_1 (p0.Slots).length cp0_1), (.slice Ap0_2 (p0.Marks).length cp0_2)] 26), (2, ow Ay101_0 cy101_0 49 fl_TRect y101.1)]) _
            refine Tr.val (wn rfl) rfl (fun _ _ h1 h2 => run_assign (h1.ev rfl)) ?_
            refine Tr.nil (Tr.normThen ?_)
            refine Tr.ret ?_
            obtain rfl := Option.some.inj H
            exact Tr.out (m := [(.bool g120)]) [] (res_tmp rfl res_nil) (fun W hW => ⟨rfl, hW.low leB⟩)

end Go.Proofs.Ytfdglihcpfpefaa
