/- The walks: each function computes its plain function. -/
import Derived.Test.YtpkicpnbpldkpaaXWc
namespace Go.Proofs.Ytpkicpnbpldkpaa
open Go.RowKit
set_option maxRecDepth 100000
set_option maxHeartbeats 1000000
theorem F_etchhouselaw9_PanelGridsMatchSpec_ok (N : Nat) {w : Bs} (p0 : TPanel) (Ap0_0 : Option Addr) (cp0_0 : Nat) (hp0_0 : Sl w.O w.W fl_TBoardKind Ap0_0 cp0_0 p0.Kinds) (Ap0_1 : Option Addr) (cp0_1 : Nat) (hp0_1 : Sl w.R w.W fl_TSlot Ap0_1 cp0_1 p0.Slots) (Ap0_2 : Option Addr) (cp0_2 : Nat) (hp0_2 : Sl w.O w.W fl_TPoint Ap0_2 cp0_2 p0.Marks) (p1 : ByteArray) (p2 : Int) (r : Bool) (H : F_etchhouselaw9_PanelGridsMatchSpec N p0 p1 p2 = some r) (hE : HF w w.W E0) : Calls Try.prog 8 [(.agg #[(.int .i64 p0.W), (.int .i64 p0.H), (.int .i64 p0.Rail), (.int .i64 p0.Gap), (.slice Ap0_0 (p0.Kinds).length cp0_0), (.slice Ap0_1 (p0.Slots).length cp0_1), (.slice Ap0_2 (p0.Marks).length cp0_2)]), (.string p1), (.int .i64 p2)].toArray w.W fun e W' => e = .returned (.bool r) ∧ HF w W' E0 := by
  unfold F_etchhouselaw9_PanelGridsMatchSpec at H
  have leB := Bs.Le.refl w
  refine Tr.enter (n := 62) Try.func8 rfl rfl rfl hE ?_
  refine Tr.seq ?_
  refine Tr.region ?_
  refine Tr.box 1 (cs := [(.int .i64 p0.W), (.int .i64 p0.H), (.int .i64 p0.Rail), (.int .i64 p0.Gap), (.slice Ap0_0 (p0.Kinds).length cp0_0), (.slice Ap0_1 (p0.Slots).length cp0_1), (.slice Ap0_2 (p0.Marks).length cp0_2)]) (wn rfl) rfl rfl rfl fun b100 => ?_
  refine Tr.val (wn rfl) rfl (fun _ _ h1 h2 => run_assign (h1.ev rfl)) ?_
  refine Tr.nil (Tr.normThen ?_)
  refine Tr.seq ?_
  refine Tr.region ?_
  refine Tr.val (wn rfl) rfl (fun _ _ h1 h2 => run_loadN (cs := [(.int .i64 p0.W), (.int .i64 p0.H), (.int .i64 p0.Rail), (.int .i64 p0.Gap), (.slice Ap0_0 (p0.Kinds).length cp0_0), (.slice Ap0_1 (p0.Slots).length cp0_1), (.slice Ap0_2 (p0.Marks).length cp0_2)]) ag_26 sz_26 (h1.ev rfl) (CellsAt.take (rdb h2 (vs := [(.int .i64 p0.W), (.int .i64 p0.H), (.int .i64 p0.Rail), (.int .i64 p0.Gap), (.slice Ap0_0 (p0.Kinds).length cp0_0), (.slice Ap0_1 (p0.Slots).length cp0_1), (.slice Ap0_2 (p0.Marks).length cp0_2)]) (k := 1) rfl 0) 7) rfl) ?_
  refine Tr.val (wn rfl) rfl (fun _ _ h1 h2 => run_move (h1.ev rfl)) ?_
  refine Tr.val (wn rfl) rfl (fun _ _ h1 h2 => run_move (h1.ev rfl)) ?_
  obtain ⟨y101, hy101, H⟩ := bnd H
  refine Tr.callG [] [] (U := (Option Addr × Nat) × (Option Addr × Nat) × (Option Addr × Nat)) (fun u => (.tuple #[(.agg #[(.int .i64 y101.1.W), (.int .i64 y101.1.H), (.int .i64 y101.1.Rail), (.int .i64 y101.1.Gap), (.slice u.1.1 (y101.1.Kinds).length u.1.2), (.slice u.2.1.1 (y101.1.Slots).length u.2.1.2), (.slice u.2.2.1 (y101.1.Marks).length u.2.2.2)]), (.int .i64 y101.2)])) (fun O W u => Sl O W fl_TBoardKind u.1.1 u.1.2 y101.1.Kinds ∧ Sl O W fl_TSlot u.2.1.1 u.2.1.2 y101.1.Slots ∧ Sl O W fl_TPoint u.2.2.1 u.2.2.2 y101.1.Marks) (fun u => []) rfl pk_nil (fun _ => rfl) (wn rfl) rfl Try.call26 (evl_cons rfl (evl_cons rfl (evl_cons rfl evl_nil))) (fun W hW hp hE => F_panel_Grid_ok N p0 Ap0_0 cp0_0 (hp0_0.rl.ext (hW.extS hp)) Ap0_1 cp0_1 (hp0_1.ext (hW.extS hp)) Ap0_2 cp0_2 (hp0_2.rl.ext (hW.extS hp)) p1 p2 y101 hy101 hE) ?_
  intro w u le102 hu
  obtain ⟨⟨Ay101_0, cy101_0⟩, ⟨Ay101_1, cy101_1⟩, ⟨Ay101_2, cy101_2⟩⟩ := u
  obtain ⟨gy101_0, gy101_1, gy101_2⟩ := hu
  replace hp0_0 := hp0_0.le le102
  replace hp0_1 := hp0_1.leR le102
  replace hp0_2 := hp0_2.le le102
  replace leB := leB.trans le102
  have hgy101_0 : Sl w.O w.W fl_TBoardKind Ay101_0 cy101_0 y101.1.Kinds := gy101_0 --@phi
  have hgy101_1 : Sl w.O w.W fl_TSlot Ay101_1 cy101_1 y101.1.Slots := gy101_1 --@phi
  have hgy101_2 : Sl w.O w.W fl_TPoint Ay101_2 cy101_2 y101.1.Marks := gy101_2 --@phi
  show Tr _ _ (uf _ 19 (.tuple #[(.agg #[(.int .i64 y101.1.W), (.int .i64 y101.1.H), (.int .i64 y101.1.Rail), (.int .i64 y101.1.Gap), (.slice Ay101_0 (y101.1.Kinds).length cy101_0), (.slice Ay101_1 (y101.1.Slots).length cy101_1), (.slice Ay101_2 (y101.1.Marks).length cy101_2)]), (.int .i64 y101.2)])) (_) _
  refine Tr.val (wn rfl) rfl (fun _ _ h1 h2 => run_move (h1.ev rfl)) ?_
  refine Tr.val (wn rfl) rfl (fun _ _ h1 h2 => run_extract (h1.ev rfl) rfl) ?_
  refine Tr.val (wn rfl) rfl (fun _ _ h1 h2 => run_extract (h1.ev rfl) rfl) ?_
  refine Tr.alloc 2 (wn rfl) rfl ze_26 fun b103 => ?_
  refine Tr.store 2 (cs := [(.int .i64 y101.1.W), (.int .i64 y101.1.H), (.int .i64 y101.1.Rail), (.int .i64 y101.1.Gap), (.slice Ay101_0 (y101.1.Kinds).length cy101_0), (.slice Ay101_1 (y101.1.Slots).length cy101_1), (.slice Ay101_2 (y101.1.Marks).length cy101_2)]) [(.int .i64 y101.1.W), (.int .i64 y101.1.H), (.int .i64 y101.1.Rail), (.int .i64 y101.1.Gap), (.slice Ay101_0 (y101.1.Kinds).length cy101_0), (.slice Ay101_1 (y101.1.Slots).length cy101_1), (.slice Ay101_2 (y101.1.Marks).length cy101_2)] (wn rfl) rfl rfl rfl rfl sz_26 rfl rfl rfl ?_
  refine Tr.val (wn rfl) rfl (fun _ _ h1 h2 => run_assign (h1.ev rfl)) ?_
  refine Tr.nil (Tr.normThen ?_)
  refine Tr.seq ?_
  refine Tr.region ?_
  refine Tr.val (wn rfl) rfl (fun _ _ h1 h2 => run_loadN (cs := [(.int .i64 p0.W), (.int .i64 p0.H), (.int .i64 p0.Rail), (.int .i64 p0.Gap), (.slice Ap0_0 (p0.Kinds).length cp0_0), (.slice Ap0_1 (p0.Slots).length cp0_1), (.slice Ap0_2 (p0.Marks).length cp0_2)]) ag_26 sz_26 (h1.ev rfl) (CellsAt.take (rdb h2 (vs := [(.int .i64 p0.W), (.int .i64 p0.H), (.int .i64 p0.Rail), (.int .i64 p0.Gap), (.slice Ap0_0 (p0.Kinds).length cp0_0), (.slice Ap0_1 (p0.Slots).length cp0_1), (.slice Ap0_2 (p0.Marks).length cp0_2)]) (k := 1) rfl 0) 7) rfl) ?_
  refine Tr.val (wn rfl) rfl (fun _ _ h1 h2 => run_move (h1.ev rfl)) ?_
  refine Tr.val (wn rfl) rfl (fun _ _ h1 h2 => run_move (h1.ev rfl)) ?_
  obtain ⟨y104, hy104, H⟩ := bnd H
  refine Tr.callG [] [] (U := (Option Addr × Nat) × (Option Addr × Nat) × (Option Addr × Nat)) (fun u => (.tuple #[(.agg #[(.int .i64 y104.1.W), (.int .i64 y104.1.H), (.int .i64 y104.1.Rail), (.int .i64 y104.1.Gap), (.slice u.1.1 (y104.1.Kinds).length u.1.2), (.slice u.2.1.1 (y104.1.Slots).length u.2.1.2), (.slice u.2.2.1 (y104.1.Marks).length u.2.2.2)]), (.int .i64 y104.2)])) (fun O W u => Sl O W fl_TBoardKind u.1.1 u.1.2 y104.1.Kinds ∧ Sl O W fl_TSlot u.2.1.1 u.2.1.2 y104.1.Slots ∧ Sl O W fl_TPoint u.2.2.1 u.2.2.2 y104.1.Marks) (fun u => []) rfl pk_nil (fun _ => rfl) (wn rfl) rfl Try.call27 (evl_cons rfl (evl_cons rfl (evl_cons rfl evl_nil))) (fun W hW hp hE => F_etchhouseref9_Grid_ok N p0 Ap0_0 cp0_0 (hp0_0.extO (hW.extS hp)) Ap0_1 cp0_1 (hp0_1.ext (hW.extS hp)) Ap0_2 cp0_2 (hp0_2.extO (hW.extS hp)) p1 p2 y104 hy104 hE) ?_
  intro w u le105 hu
  obtain ⟨⟨Ay104_0, cy104_0⟩, ⟨Ay104_1, cy104_1⟩, ⟨Ay104_2, cy104_2⟩⟩ := u
  obtain ⟨gy104_0, gy104_1, gy104_2⟩ := hu
  replace hp0_0 := hp0_0.le le105
  replace hp0_1 := hp0_1.leR le105
  replace hp0_2 := hp0_2.le le105
  replace hgy101_0 := hgy101_0.le le105
  replace hgy101_1 := hgy101_1.le le105
  replace hgy101_2 := hgy101_2.le le105
  replace leB := leB.trans le105
  have hgy104_0 : Sl w.O w.W fl_TBoardKind Ay104_0 cy104_0 y104.1.Kinds := gy104_0 --@phi
  have hgy104_1 : Sl w.O w.W fl_TSlot Ay104_1 cy104_1 y104.1.Slots := gy104_1 --@phi
  have hgy104_2 : Sl w.O w.W fl_TPoint Ay104_2 cy104_2 y104.1.Marks := gy104_2 --@phi
  show Tr _ _ (uf _ 26 (.tuple #[(.agg #[(.int .i64 y104.1.W), (.int .i64 y104.1.H), (.int .i64 y104.1.Rail), (.int .i64 y104.1.Gap), (.slice Ay104_0 (y104.1.Kinds).length cy104_0), (.slice Ay104_1 (y104.1.Slots).length cy104_1), (.slice Ay104_2 (y104.1.Marks).length cy104_2)]), (.int .i64 y104.2)])) (_) _
  refine Tr.val (wn rfl) rfl (fun _ _ h1 h2 => run_move (h1.ev rfl)) ?_
  refine Tr.val (wn rfl) rfl (fun _ _ h1 h2 => run_extract (h1.ev rfl) rfl) ?_
  refine Tr.val (wn rfl) rfl (fun _ _ h1 h2 => run_extract (h1.ev rfl) rfl) ?_
  refine Tr.alloc 3 (wn rfl) rfl ze_26 fun b106 => ?_
  refine Tr.store 3 (cs := [(.int .i64 y104.1.W), (.int .i64 y104.1.H), (.int .i64 y104.1.Rail), (.int .i64 y104.1.Gap), (.slice Ay104_0 (y104.1.Kinds).length cy104_0), (.slice Ay104_1 (y104.1.Slots).length cy104_1), (.slice Ay104_2 (y104.1.Marks).length cy104_2)]) [(.int .i64 y104.1.W), (.int .i64 y104.1.H), (.int .i64 y104.1.Rail), (.int .i64 y104.1.Gap), (.slice Ay104_0 (y104.1.Kinds).length cy104_0), (.slice Ay104_1 (y104.1.Slots).length cy104_1), (.slice Ay104_2 (y104.1.Marks).length cy104_2)] (wn rfl) rfl rfl rfl rfl sz_26 rfl rfl rfl ?_
  refine Tr.val (wn rfl) rfl (fun _ _ h1 h2 => run_assign (h1.ev rfl)) ?_
  refine Tr.nil (Tr.normThen ?_)
  refine Tr.seq ?_
  refine Tr.region ?_
  refine Tr.val (wn rfl) rfl (fun _ _ h1 h2 => run_loadN (cs := [(.int .i64 p0.W), (.int .i64 p0.H), (.int .i64 p0.Rail), (.int .i64 p0.Gap), (.slice Ap0_0 (p0.Kinds).length cp0_0), (.slice Ap0_1 (p0.Slots).length cp0_1), (.slice Ap0_2 (p0.Marks).length cp0_2)]) ag_26 sz_26 (h1.ev rfl) (CellsAt.take (rdb h2 (vs := [(.int .i64 p0.W), (.int .i64 p0.H), (.int .i64 p0.Rail), (.int .i64 p0.Gap), (.slice Ap0_0 (p0.Kinds).length cp0_0), (.slice Ap0_1 (p0.Slots).length cp0_1), (.slice Ap0_2 (p0.Marks).length cp0_2)]) (k := 1) rfl 0) 7) rfl) ?_
  refine Tr.val (wn rfl) rfl (fun _ _ h1 h2 => run_move (h1.ev rfl)) ?_
  obtain ⟨y107, hy107, H⟩ := bnd H
  refine Tr.callG [] [] (U := (Option Addr × Nat) × (Option Addr × Nat) × (Option Addr × Nat)) (fun u => (.tuple #[(.agg #[(.int .i64 y107.1.W), (.int .i64 y107.1.H), (.int .i64 y107.1.Rail), (.int .i64 y107.1.Gap), (.slice u.1.1 (y107.1.Kinds).length u.1.2), (.slice u.2.1.1 (y107.1.Slots).length u.2.1.2), (.slice u.2.2.1 (y107.1.Marks).length u.2.2.2)]), (.int .i64 y107.2)])) (fun O W u => Sl O W fl_TBoardKind u.1.1 u.1.2 y107.1.Kinds ∧ Sl O W fl_TSlot u.2.1.1 u.2.1.2 y107.1.Slots ∧ Sl O W fl_TPoint u.2.2.1 u.2.2.2 y107.1.Marks) (fun u => []) rfl pk_nil (fun _ => rfl) (wn rfl) rfl Try.call28 (evl_cons rfl (evl_cons rfl evl_nil)) (fun W hW hp hE => F_panel_Rows_ok N p0 Ap0_0 cp0_0 (hp0_0.rl.ext (hW.extS hp)) Ap0_1 cp0_1 (hp0_1.ext (hW.extS hp)) Ap0_2 cp0_2 (hp0_2.rl.ext (hW.extS hp)) p1 y107 hy107 hE) ?_
  intro w u le108 hu
  obtain ⟨⟨Ay107_0, cy107_0⟩, ⟨Ay107_1, cy107_1⟩, ⟨Ay107_2, cy107_2⟩⟩ := u
  obtain ⟨gy107_0, gy107_1, gy107_2⟩ := hu
  replace hp0_0 := hp0_0.le le108
  replace hp0_1 := hp0_1.leR le108
  replace hp0_2 := hp0_2.le le108
  replace hgy101_0 := hgy101_0.le le108
  replace hgy101_1 := hgy101_1.le le108
  replace hgy101_2 := hgy101_2.le le108
  replace hgy104_0 := hgy104_0.le le108
  replace hgy104_1 := hgy104_1.le le108
  replace hgy104_2 := hgy104_2.le le108
  replace leB := leB.trans le108
  have hgy107_0 : Sl w.O w.W fl_TBoardKind Ay107_0 cy107_0 y107.1.Kinds := gy107_0 --@phi
  have hgy107_1 : Sl w.O w.W fl_TSlot Ay107_1 cy107_1 y107.1.Slots := gy107_1 --@phi
  have hgy107_2 : Sl w.O w.W fl_TPoint Ay107_2 cy107_2 y107.1.Marks := gy107_2 --@phi
  show Tr _ _ (uf _ 32 (.tuple #[(.agg #[(.int .i64 y107.1.W), (.int .i64 y107.1.H), (.int .i64 y107.1.Rail), (.int .i64 y107.1.Gap), (.slice Ay107_0 (y107.1.Kinds).length cy107_0), (.slice Ay107_1 (y107.1.Slots).length cy107_1), (.slice Ay107_2 (y107.1.Marks).length cy107_2)]), (.int .i64 y107.2)])) (_) _
  refine Tr.val (wn rfl) rfl (fun _ _ h1 h2 => run_move (h1.ev rfl)) ?_
  refine Tr.val (wn rfl) rfl (fun _ _ h1 h2 => run_extract (h1.ev rfl) rfl) ?_
  refine Tr.val (wn rfl) rfl (fun _ _ h1 h2 => run_extract (h1.ev rfl) rfl) ?_
  refine Tr.alloc 4 (wn rfl) rfl ze_26 fun b109 => ?_
  refine Tr.store 4 (cs := [(.int .i64 y107.1.W), (.int .i64 y107.1.H), (.int .i64 y107.1.Rail), (.int .i64 y107.1.Gap), (.slice Ay107_0 (y107.1.Kinds).length cy107_0), (.slice Ay107_1 (y107.1.Slots).length cy107_1), (.slice Ay107_2 (y107.1.Marks).length cy107_2)]) [(.int .i64 y107.1.W), (.int .i64 y107.1.H), (.int .i64 y107.1.Rail), (.int .i64 y107.1.Gap), (.slice Ay107_0 (y107.1.Kinds).length cy107_0), (.slice Ay107_1 (y107.1.Slots).length cy107_1), (.slice Ay107_2 (y107.1.Marks).length cy107_2)] (wn rfl) rfl rfl rfl rfl sz_26 rfl rfl rfl ?_
  refine Tr.val (wn rfl) rfl (fun _ _ h1 h2 => run_assign (h1.ev rfl)) ?_
  refine Tr.nil (Tr.normThen ?_)
  refine Tr.seq ?_
  refine Tr.region ?_
  refine Tr.val (wn rfl) rfl (fun _ _ h1 h2 => run_loadN (cs := [(.int .i64 p0.W), (.int .i64 p0.H), (.int .i64 p0.Rail), (.int .i64 p0.Gap), (.slice Ap0_0 (p0.Kinds).length cp0_0), (.slice Ap0_1 (p0.Slots).length cp0_1), (.slice Ap0_2 (p0.Marks).length cp0_2)]) ag_26 sz_26 (h1.ev rfl) (CellsAt.take (rdb h2 (vs := [(.int .i64 p0.W), (.int .i64 p0.H), (.int .i64 p0.Rail), (.int .i64 p0.Gap), (.slice Ap0_0 (p0.Kinds).length cp0_0), (.slice Ap0_1 (p0.Slots).length cp0_1), (.slice Ap0_2 (p0.Marks).length cp0_2)]) (k := 1) rfl 0) 7) rfl) ?_
  refine Tr.val (wn rfl) rfl (fun _ _ h1 h2 => run_move (h1.ev rfl)) ?_
  obtain ⟨y110, hy110, H⟩ := bnd H
  refine Tr.callG [] [] (U := (Option Addr × Nat) × (Option Addr × Nat) × (Option Addr × Nat)) (fun u => (.tuple #[(.agg #[(.int .i64 y110.1.W), (.int .i64 y110.1.H), (.int .i64 y110.1.Rail), (.int .i64 y110.1.Gap), (.slice u.1.1 (y110.1.Kinds).length u.1.2), (.slice u.2.1.1 (y110.1.Slots).length u.2.1.2), (.slice u.2.2.1 (y110.1.Marks).length u.2.2.2)]), (.int .i64 y110.2)])) (fun O W u => Sl O W fl_TBoardKind u.1.1 u.1.2 y110.1.Kinds ∧ Sl O W fl_TSlot u.2.1.1 u.2.1.2 y110.1.Slots ∧ Sl O W fl_TPoint u.2.2.1 u.2.2.2 y110.1.Marks) (fun u => []) rfl pk_nil (fun _ => rfl) (wn rfl) rfl Try.call29 (evl_cons rfl (evl_cons rfl evl_nil)) (fun W hW hp hE => F_etchhouseref9_Rows_ok N p0 Ap0_0 cp0_0 (hp0_0.extO (hW.extS hp)) Ap0_1 cp0_1 (hp0_1.ext (hW.extS hp)) Ap0_2 cp0_2 (hp0_2.extO (hW.extS hp)) p1 y110 hy110 hE) ?_
  intro w u le111 hu
  obtain ⟨⟨Ay110_0, cy110_0⟩, ⟨Ay110_1, cy110_1⟩, ⟨Ay110_2, cy110_2⟩⟩ := u
  obtain ⟨gy110_0, gy110_1, gy110_2⟩ := hu
  replace hp0_0 := hp0_0.le le111
  replace hp0_1 := hp0_1.leR le111
  replace hp0_2 := hp0_2.le le111
  replace hgy101_0 := hgy101_0.le le111
  replace hgy101_1 := hgy101_1.le le111
  replace hgy101_2 := hgy101_2.le le111
  replace hgy104_0 := hgy104_0.le le111
  replace hgy104_1 := hgy104_1.le le111
  replace hgy104_2 := hgy104_2.le le111
  replace hgy107_0 := hgy107_0.le le111
  replace hgy107_1 := hgy107_1.le le111
  replace hgy107_2 := hgy107_2.le le111
  replace leB := leB.trans le111
  have hgy110_0 : Sl w.O w.W fl_TBoardKind Ay110_0 cy110_0 y110.1.Kinds := gy110_0 --@phi
  have hgy110_1 : Sl w.O w.W fl_TSlot Ay110_1 cy110_1 y110.1.Slots := gy110_1 --@phi
  have hgy110_2 : Sl w.O w.W fl_TPoint Ay110_2 cy110_2 y110.1.Marks := gy110_2 --@phi
  show Tr _ _ (uf _ 38 (.tuple #[(.agg #[(.int .i64 y110.1.W), (.int .i64 y110.1.H), (.int .i64 y110.1.Rail), (.int .i64 y110.1.Gap), (.slice Ay110_0 (y110.1.Kinds).length cy110_0), (.slice Ay110_1 (y110.1.Slots).length cy110_1), (.slice Ay110_2 (y110.1.Marks).length cy110_2)]), (.int .i64 y110.2)])) (_) _
  refine Tr.val (wn rfl) rfl (fun _ _ h1 h2 => run_move (h1.ev rfl)) ?_
  refine Tr.val (wn rfl) rfl (fun _ _ h1 h2 => run_extract (h1.ev rfl) rfl) ?_
  refine Tr.val (wn rfl) rfl (fun _ _ h1 h2 => run_extract (h1.ev rfl) rfl) ?_
  refine Tr.alloc 5 (wn rfl) rfl ze_26 fun b112 => ?_
  refine Tr.store 5 (cs := [(.int .i64 y110.1.W), (.int .i64 y110.1.H), (.int .i64 y110.1.Rail), (.int .i64 y110.1.Gap), (.slice Ay110_0 (y110.1.Kinds).length cy110_0), (.slice Ay110_1 (y110.1.Slots).length cy110_1), (.slice Ay110_2 (y110.1.Marks).length cy110_2)]) [(.int .i64 y110.1.W), (.int .i64 y110.1.H), (.int .i64 y110.1.Rail), (.int .i64 y110.1.Gap), (.slice Ay110_0 (y110.1.Kinds).length cy110_0), (.slice Ay110_1 (y110.1.Slots).length cy110_1), (.slice Ay110_2 (y110.1.Marks).length cy110_2)] (wn rfl) rfl rfl rfl rfl sz_26 rfl rfl rfl ?_
  refine Tr.val (wn rfl) rfl (fun _ _ h1 h2 => run_assign (h1.ev rfl)) ?_
  refine Tr.nil (Tr.normThen ?_)
  refine Tr.seq ?_
  refine Tr.region ?_
  refine Tr.val (wn rfl) rfl (fun _ _ h1 h2 => run_loadN (cs := [(.int .i64 y101.1.W), (.int .i64 y101.1.H), (.int .i64 y101.1.Rail), (.int .i64 y101.1.Gap), (.slice Ay101_0 (y101.1.Kinds).length cy101_0), (.slice Ay101_1 (y101.1.Slots).length cy101_1), (.slice Ay101_2 (y101.1.Marks).length cy101_2)]) ag_26 sz_26 (h1.ev rfl) (CellsAt.take (rdb h2 (vs := [(.int .i64 y101.1.W), (.int .i64 y101.1.H), (.int .i64 y101.1.Rail), (.int .i64 y101.1.Gap), (.slice Ay101_0 (y101.1.Kinds).length cy101_0), (.slice Ay101_1 (y101.1.Slots).length cy101_1), (.slice Ay101_2 (y101.1.Marks).length cy101_2)]) (k := 2) rfl 0) 7) rfl) ?_
  refine Tr.val (wn rfl) rfl (fun _ _ h1 h2 => run_loadN (cs := [(.int .i64 y104.1.W), (.int .i64 y104.1.H), (.int .i64 y104.1.Rail), (.int .i64 y104.1.Gap), (.slice Ay104_0 (y104.1.Kinds).length cy104_0), (.slice Ay104_1 (y104.1.Slots).length cy104_1), (.slice Ay104_2 (y104.1.Marks).length cy104_2)]) ag_26 sz_26 (h1.ev rfl) (CellsAt.take (rdb h2 (vs := [(.int .i64 y104.1.W), (.int .i64 y104.1.H), (.int .i64 y104.1.Rail), (.int .i64 y104.1.Gap), (.slice Ay104_0 (y104.1.Kinds).length cy104_0), (.slice Ay104_1 (y104.1.Slots).length cy104_1), (.slice Ay104_2 (y104.1.Marks).length cy104_2)]) (k := 3) rfl 0) 7) rfl) ?_
  obtain ⟨y113, hy113, H⟩ := bnd H
  refine Tr.call0 (r := (.bool y113)) (wn rfl) rfl Try.call30 (evl_cons rfl (evl_cons rfl evl_nil)) (fun W hW => F_etchhouseref9_Same_ok N y101.1 Ay101_0 cy101_0 (hgy101_0.rl.ext hW.extAll) Ay101_1 cy101_1 (hgy101_1.rl.ext hW.extAll) Ay101_2 cy101_2 (hgy101_2.rl.ext hW.extAll) y104.1 Ay104_0 cy104_0 (hgy104_0.rl.ext hW.extAll) Ay104_1 cy104_1 (hgy104_1.rl.ext hW.extAll) Ay104_2 cy104_2 (hgy104_2.rl.ext hW.extAll) y113 hy113 (HF.start _)) ?_
  refine Tr.val (wn rfl) rfl (fun _ _ h1 h2 => run_move (h1.ev rfl)) ?_
  refine Tr.mid0 4 [(11, (.pointer (some ⟨b109, 0, none⟩))), (12, (.int .i64 y107.2)), (13, (.pointer (some ⟨b112, 0, none⟩))), (14, (.int .i64 y110.2)), (48, (.bool (y113 && (y101.2 == y104.2))))] [(1, bx b100 #[(.int .i64 p0.W), (.int .i64 p0.H), (.int .i64 p0.Rail), (.int .i64 p0.Gap), (.slice Ap0_0 (p0.Kinds).length cp0_0), (.slice Ap0_1 (p0.Slots).length cp0_1), (.slice Ap0_2 (p0.Marks).length cp0_2)] 26), (2, bx b103 #[(.int .i64 y101.1.W), (.int .i64 y101.1.H), (.int .i64 y101.1.Rail), (.int .i64 y101.1.Gap), (.slice Ay101_0 (y101.1.Kinds).length cy101_0), (.slice Ay101_1 (y101.1.Slots).length cy101_1), (.slice Ay101_2 (y101.1.Marks).length cy101_2)] 26), (3, bx b106 #[(.int .i64 y104.1.W), (.int .i64 y104.1.H), (.int .i64 y104.1.Rail), (.int .i64 y104.1.Gap), (.slice Ay104_0 (y104.1.Kinds).length cy104_0), (.slice Ay104_1 (y104.1.Slots).length cy104_1), (.slice Ay104_2 (y104.1.Marks).length cy104_2)] 26), (4, bx b109 #[(.int .i64 y107.1.W), (.int .i64 y107.1.H), (.int .i64 y107.1.Rail), (.int .i64 y107.1.Gap), (.slice Ay107_0 (y107.1.Kinds).length cy107_0), (.slice Ay107_1 (y107.1.Slots).length cy107_1), (.slice Ay107_2 (y107.1.Marks).length cy107_2)] 26), (5, bx b112 #[(.int .i64 y110.1.W), (.int .i64 y110.1.H), (.int .i64 y110.1.Rail), (.int .i64 y110.1.Gap), (.slice Ay110_0 (y110.1.Kinds).length cy110_0), (.slice Ay110_1 (y110.1.Slots).length cy110_1), (.slice Ay110_2 (y110.1.Marks).length cy110_2)] 26)] ?_ ?_
  · cases hg119 : y113
    · refine Tr.pass rfl rfl rfl rfl rfl (by decide) ?_
      refine Tr.pass rfl rfl rfl rfl rfl (by decide) ?_
      refine Tr.pass rfl rfl rfl rfl rfl (by decide) ?_
      refine Tr.val (wn rfl) rfl (fun _ _ h1 h2 => run_pickF (h1.ev rfl) (h1.ev rfl)) ?_
      exact Tr.nil (Tr.fin0 (.cons rfl (.cons rfl (.cons rfl (.cons rfl (.cons rfl .nil))))) (.cons rfl (.cons rfl (.cons rfl (.cons rfl (.cons rfl .nil))))))
    · refine Tr.val (wg rfl rfl rfl) rfl (fun _ _ h1 h2 => run_move (h1.ev rfl)) ?_
      refine Tr.val (wg rfl rfl rfl) rfl (fun _ _ h1 h2 => run_move (h1.ev rfl)) ?_
      refine Tr.val (wg rfl rfl rfl) rfl (fun _ _ h1 h2 => run_eql (h1.ev rfl) (h1.ev rfl)) ?_
      refine Tr.val (wn rfl) rfl (fun _ _ h1 h2 => run_pickT (h1.ev rfl) (h1.ev rfl)) ?_
      exact Tr.nil (Tr.fin0 (.cons rfl (.cons rfl (.cons rfl (.cons rfl (.cons rfl .nil))))) (.cons rfl (.cons rfl (.cons rfl (.cons rfl (.cons rfl .nil))))))
  · show Tr _ _ (LF [(11, (.pointer (some ⟨b109, 0, none⟩))), (12, (.int .i64 y107.2)), (13, (.pointer (some ⟨b112, 0, none⟩))), (14, (.int .i64 y110.2)), (48, (.bool (y113 && (y101.2 == y104.2))))]) (LE [(1, bx b100 #[(.int .i64 p0.W), (.int .i64 p0.H), (.int .i64 p0.Rail), (.int .i64 p0.Gap), (.slice Ap0_0 (p0.Kinds).length cp0_0), (.slice Ap0_1 (p0.Slots).length cp0_1), (.slice Ap0_2 (p0.Marks).length cp0_2)] 26), (2, bx b103 #[(.int .i64 y101.1.W), (.int .i64 y101.1.H), (.int .i64 y101.1.Rail), (.int .i64 y101.1.Gap), (.slice Ay101_0 (y101.1.Kinds).length cy101_0), (.slice Ay101_1 (y101.1.Slots).length cy101_1), (.slice Ay101_2 (y101.1.Marks).length cy101_2)] 26), (3, bx b106 #[(.int .i64 y104.1.W), (.int .i64 y104.1.H), (.int .i64 y104.1.Rail), (.int .i64 y104.1.Gap), (.slice Ay104_0 (y104.1.Kinds).length cy104_0), (.slice Ay104_1 (y104.1.Slots).length cy104_1), (.slice Ay104_2 (y104.1.Marks).length cy104_2)] 26), (4, bx b109 #[(.int .i64 y107.1.W), (.int .i64 y107.1.H), (.int .i64 y107.1.Rail), (.int .i64 y107.1.Gap), (.slice Ay107_0 (y107.1.Kinds).length cy107_0), (.slice Ay107_1 (y107.1.Slots).length cy107_1), (.slice Ay107_2 (y107.1.Marks).length cy107_2)] 26), (5, bx b112 #[(.int .i64 y110.1.W), (.int .i64 y110.1.H), (.int .i64 y110.1.Rail), (.int .i64 y110.1.Gap), (.slice Ay110_0 (y110.1.Kinds).length cy110_0), (.slice Ay110_1 (y110.1.Slots).length cy110_1), (.slice Ay110_2 (y110.1.Marks).length cy110_2)] 26)]) _
    refine Tr.val (wn rfl) rfl (fun _ _ h1 h2 => run_move (h1.ev rfl)) ?_
    obtain ⟨g115, hg115, H⟩ := bnd H
    refine Tr.mid0 4 [(12, (.int .i64 y107.2)), (14, (.int .i64 y110.2)), (53, (.bool g115))] [(1, bx b100 #[(.int .i64 p0.W), (.int .i64 p0.H), (.int .i64 p0.Rail), (.int .i64 p0.Gap), (.slice Ap0_0 (p0.Kinds).length cp0_0), (.slice Ap0_1 (p0.Slots).length cp0_1), (.slice Ap0_2 (p0.Marks).length cp0_2)] 26), (2, bx b103 #[(.int .i64 y101.1.W), (.int .i64 y101.1.H), (.int .i64 y101.1.Rail), (.int .i64 y101.1.Gap), (.slice Ay101_0 (y101.1.Kinds).length cy101_0), (.slice Ay101_1 (y101.1.Slots).length cy101_1), (.slice Ay101_2 (y101.1.Marks).length cy101_2)] 26), (3, bx b106 #[(.int .i64 y104.1.W), (.int .i64 y104.1.H), (.int .i64 y104.1.Rail), (.int .i64 y104.1.Gap), (.slice Ay104_0 (y104.1.Kinds).length cy104_0), (.slice Ay104_1 (y104.1.Slots).length cy104_1), (.slice Ay104_2 (y104.1.Marks).length cy104_2)] 26), (4, bx b109 #[(.int .i64 y107.1.W), (.int .i64 y107.1.H), (.int .i64 y107.1.Rail), (.int .i64 y107.1.Gap), (.slice Ay107_0 (y107.1.Kinds).length cy107_0), (.slice Ay107_1 (y107.1.Slots).length cy107_1), (.slice Ay107_2 (y107.1.Marks).length cy107_2)] 26), (5, bx b112 #[(.int .i64 y110.1.W), (.int .i64 y110.1.H), (.int .i64 y110.1.Rail), (.int .i64 y110.1.Gap), (.slice Ay110_0 (y110.1.Kinds).length cy110_0), (.slice Ay110_1 (y110.1.Slots).length cy110_1), (.slice Ay110_2 (y110.1.Marks).length cy110_2)] 26)] ?_ ?_
    · cases hg119 : (y113 && (y101.2 == y104.2))
      · rw [hg119] at hg115
        rw [if_neg (by decide)] at hg115
        have H := hg115
        obtain rfl := Option.some.inj H
        refine Tr.pass rfl rfl rfl rfl rfl (by decide) ?_
        refine Tr.pass rfl rfl rfl rfl rfl (by decide) ?_
        refine Tr.pass rfl rfl rfl rfl rfl (by decide) ?_
        refine Tr.val (wn rfl) rfl (fun _ _ h1 h2 => run_pickF (h1.ev rfl) (h1.ev rfl)) ?_
        exact Tr.nil (Tr.fin0 (.cons rfl (.cons rfl (.cons rfl .nil))) (.cons rfl (.cons rfl (.cons rfl (.cons rfl (.cons rfl .nil))))))
      · rw [hg119] at hg115
        rw [if_pos rfl] at hg115
        have H := hg115
        refine Tr.val (wg rfl rfl rfl) rfl (fun _ _ h1 h2 => run_loadN (cs := [(.int .i64 y107.1.W), (.int .i64 y107.1.H), (.int .i64 y107.1.Rail), (.int .i64 y107.1.Gap), (.slice Ay107_0 (y107.1.Kinds).length cy107_0), (.slice Ay107_1 (y107.1.Slots).length cy107_1), (.slice Ay107_2 (y107.1.Marks).length cy107_2)]) ag_26 sz_26 (h1.ev rfl) (CellsAt.take (rdb h2 (vs := [(.int .i64 y107.1.W), (.int .i64 y107.1.H), (.int .i64 y107.1.Rail), (.int .i64 y107.1.Gap), (.slice Ay107_0 (y107.1.Kinds).length cy107_0), (.slice Ay107_1 (y107.1.Slots).length cy107_1), (.slice Ay107_2 (y107.1.Marks).length cy107_2)]) (k := 4) rfl 0) 7) rfl) ?_
        refine Tr.val (wg rfl rfl rfl) rfl (fun _ _ h1 h2 => run_loadN (cs := [(.int .i64 y110.1.W), (.int .i64 y110.1.H), (.int .i64 y110.1.Rail), (.int .i64 y110.1.Gap), (.slice Ay110_0 (y110.1.Kinds).length cy110_0), (.slice Ay110_1 (y110.1.Slots).length cy110_1), (.slice Ay110_2 (y110.1.Marks).length cy110_2)]) ag_26 sz_26 (h1.ev rfl) (CellsAt.take (rdb h2 (vs := [(.int .i64 y110.1.W), (.int .i64 y110.1.H), (.int .i64 y110.1.Rail), (.int .i64 y110.1.Gap), (.slice Ay110_0 (y110.1.Kinds).length cy110_0), (.slice Ay110_1 (y110.1.Slots).length cy110_1), (.slice Ay110_2 (y110.1.Marks).length cy110_2)]) (k := 5) rfl 0) 7) rfl) ?_
        obtain ⟨y116, hy116, H⟩ := bnd H
        refine Tr.call0 (r := (.bool y116)) (wg rfl rfl rfl) rfl Try.call30 (evl_cons rfl (evl_cons rfl evl_nil)) (fun W hW => F_etchhouseref9_Same_ok N y107.1 Ay107_0 cy107_0 (hgy107_0.rl.ext hW.extAll) Ay107_1 cy107_1 (hgy107_1.rl.ext hW.extAll) Ay107_2 cy107_2 (hgy107_2.rl.ext hW.extAll) y110.1 Ay110_0 cy110_0 (hgy110_0.rl.ext hW.extAll) Ay110_1 cy110_1 (hgy110_1.rl.ext hW.extAll) Ay110_2 cy110_2 (hgy110_2.rl.ext hW.extAll) y116 hy116 (HF.start _)) ?_
        refine Tr.val (wn rfl) rfl (fun _ _ h1 h2 => run_pickT (h1.ev rfl) (h1.ev rfl)) ?_
        obtain rfl := Option.some.inj H
        exact Tr.nil (Tr.fin0 (.cons rfl (.cons rfl (.cons rfl .nil))) (.cons rfl (.cons rfl (.cons rfl (.cons rfl (.cons rfl .nil))))))
    · show Tr _ _ (LF [(12, (.int .i64 y107.2)), (14, (.int .i64 y110.2)), (53, (.bool g115))]) (LE [(1, bx b100 #[(.int .i64 p0.W), (.int .i64 p0.H), (.int .i64 p0.Rail), (.int .i64 p0.Gap), (.slice Ap0_0 (p0.Kinds).length cp0_0), (.slice Ap0_1 (p0.Slots).length cp0_1), (.slice Ap0_2 (p0.Marks).length cp0_2)] 26), (2, bx b103 #[(.int .i64 y101.1.W), (.int .i64 y101.1.H), (.int .i64 y101.1.Rail), (.int .i64 y101.1.Gap), (.slice Ay101_0 (y101.1.Kinds).length cy101_0), (.slice Ay101_1 (y101.1.Slots).length cy101_1), (.slice Ay101_2 (y101.1.Marks).length cy101_2)] 26), (3, bx b106 #[(.int .i64 y104.1.W), (.int .i64 y104.1.H), (.int .i64 y104.1.Rail), (.int .i64 y104.1.Gap), (.slice Ay104_0 (y104.1.Kinds).length cy104_0), (.slice Ay104_1 (y104.1.Slots).length cy104_1), (.slice Ay104_2 (y104.1.Marks).length cy104_2)] 26), (4, bx b109 #[(.int .i64 y107.1.W), (.int .i64 y107.1.H), (.int .i64 y107.1.Rail), (.int .i64 y107.1.Gap), (.slice Ay107_0 (y107.1.Kinds).length cy107_0), (.slice Ay107_1 (y107.1.Slots).length cy107_1), (.slice Ay107_2 (y107.1.Marks).length cy107_2)] 26), (5, bx b112 #[(.int .i64 y110.1.W), (.int .i64 y110.1.H), (.int .i64 y110.1.Rail), (.int .i64 y110.1.Gap), (.slice Ay110_0 (y110.1.Kinds).length cy110_0), (.slice Ay110_1 (y110.1.Slots).length cy110_1), (.slice Ay110_2 (y110.1.Marks).length cy110_2)] 26)]) _
      refine Tr.val (wn rfl) rfl (fun _ _ h1 h2 => run_move (h1.ev rfl)) ?_
      refine Tr.mid0 4 [(58, (.bool (g115 && (y107.2 == y110.2))))] [(1, bx b100 #[(.int .i64 p0.W), (.int .i64 p0.H), (.int .i64 p0.Rail), (.int .i64 p0.Gap), (.slice Ap0_0 (p0.Kinds).length cp0_0), (.slice Ap0_1 (p0.Slots).length cp0_1), (.slice Ap0_2 (p0.Marks).length cp0_2)] 26), (2, bx b103 #[(.int .i64 y101.1.W), (.int .i64 y101.1.H), (.int .i64 y101.1.Rail), (.int .i64 y101.1.Gap), (.slice Ay101_0 (y101.1.Kinds).length cy101_0), (.slice Ay101_1 (y101.1.Slots).length cy101_1), (.slice Ay101_2 (y101.1.Marks).length cy101_2)] 26), (3, bx b106 #[(.int .i64 y104.1.W), (.int .i64 y104.1.H), (.int .i64 y104.1.Rail), (.int .i64 y104.1.Gap), (.slice Ay104_0 (y104.1.Kinds).length cy104_0), (.slice Ay104_1 (y104.1.Slots).length cy104_1), (.slice Ay104_2 (y104.1.Marks).length cy104_2)] 26), (4, bx b109 #[(.int .i64 y107.1.W), (.int .i64 y107.1.H), (.int .i64 y107.1.Rail), (.int .i64 y107.1.Gap), (.slice Ay107_0 (y107.1.Kinds).length cy107_0), (.slice Ay107_1 (y107.1.Slots).length cy107_1), (.slice Ay107_2 (y107.1.Marks).length cy107_2)] 26), (5, bx b112 #[(.int .i64 y110.1.W), (.int .i64 y110.1.H), (.int .i64 y110.1.Rail), (.int .i64 y110.1.Gap), (.slice Ay110_0 (y110.1.Kinds).length cy110_0), (.slice Ay110_1 (y110.1.Slots).length cy110_1), (.slice Ay110_2 (y110.1.Marks).length cy110_2)] 26)] ?_ ?_
      · cases hg119 : g115
        · refine Tr.pass rfl rfl rfl rfl rfl (by decide) ?_
          refine Tr.pass rfl rfl rfl rfl rfl (by decide) ?_
          refine Tr.pass rfl rfl rfl rfl rfl (by decide) ?_
          refine Tr.val (wn rfl) rfl (fun _ _ h1 h2 => run_pickF (h1.ev rfl) (h1.ev rfl)) ?_
          exact Tr.nil (Tr.fin0 (.cons rfl .nil) (.cons rfl (.cons rfl (.cons rfl (.cons rfl (.cons rfl .nil))))))
        · refine Tr.val (wg rfl rfl rfl) rfl (fun _ _ h1 h2 => run_move (h1.ev rfl)) ?_
          refine Tr.val (wg rfl rfl rfl) rfl (fun _ _ h1 h2 => run_move (h1.ev rfl)) ?_
          refine Tr.val (wg rfl rfl rfl) rfl (fun _ _ h1 h2 => run_eql (h1.ev rfl) (h1.ev rfl)) ?_
          refine Tr.val (wn rfl) rfl (fun _ _ h1 h2 => run_pickT (h1.ev rfl) (h1.ev rfl)) ?_
          exact Tr.nil (Tr.fin0 (.cons rfl .nil) (.cons rfl (.cons rfl (.cons rfl (.cons rfl (.cons rfl .nil))))))
      · show Tr _ _ (LF [(58, (.bool (g115 && (y107.2 == y110.2))))]) (LE [(1, bx b100 #[(.int .i64 p0.W), (.int .i64 p0.H), (.int .i64 p0.Rail), (.int .i64 p0.Gap), (.slice Ap0_0 (p0.Kinds).length cp0_0), (.slice Ap0_1 (p0.Slots).length cp0_1), (.slice Ap0_2 (p0.Marks).length cp0_2)] 26), (2, bx b103 #[(.int .i64 y101.1.W), (.int .i64 y101.1.H), (.int .i64 y101.1.Rail), (.int .i64 y101.1.Gap), (.slice Ay101_0 (y101.1.Kinds).length cy101_0), (.slice Ay101_1 (y101.1.Slots).length cy101_1), (.slice Ay101_2 (y101.1.Marks).length cy101_2)] 26), (3, bx b106 #[(.int .i64 y104.1.W), (.int .i64 y104.1.H), (.int .i64 y104.1.Rail), (.int .i64 y104.1.Gap), (.slice Ay104_0 (y104.1.Kinds).length cy104_0), (.slice Ay104_1 (y104.1.Slots).length cy104_1), (.slice Ay104_2 (y104.1.Marks).length cy104_2)] 26), (4, bx b109 #[(.int .i64 y107.1.W), (.int .i64 y107.1.H), (.int .i64 y107.1.Rail), (.int .i64 y107.1.Gap), (.slice Ay107_0 (y107.1.Kinds).length cy107_0), (.slice Ay107_1 (y107.1.Slots).length cy107_1), (.slice Ay107_2 (y107.1.Marks).length cy107_2)] 26), (5, bx b112 #[(.int .i64 y110.1.W), (.int .i64 y110.1.H), (.int .i64 y110.1.Rail), (.int .i64 y110.1.Gap), (.slice Ay110_0 (y110.1.Kinds).length cy110_0), (.slice Ay110_1 (y110.1.Slots).length cy110_1), (.slice Ay110_2 (y110.1.Marks).length cy110_2)] 26)]) _
        refine Tr.val (wn rfl) rfl (fun _ _ h1 h2 => run_move (h1.ev rfl)) ?_
        obtain ⟨g118, hg118, H⟩ := bnd H
        refine Tr.mid0 2 [(61, (.bool g118))] [(1, bx b100 #[(.int .i64 p0.W), (.int .i64 p0.H), (.int .i64 p0.Rail), (.int .i64 p0.Gap), (.slice Ap0_0 (p0.Kinds).length cp0_0), (.slice Ap0_1 (p0.Slots).length cp0_1), (.slice Ap0_2 (p0.Marks).length cp0_2)] 26), (2, bx b103 #[(.int .i64 y101.1.W), (.int .i64 y101.1.H), (.int .i64 y101.1.Rail), (.int .i64 y101.1.Gap), (.slice Ay101_0 (y101.1.Kinds).length cy101_0), (.slice Ay101_1 (y101.1.Slots).length cy101_1), (.slice Ay101_2 (y101.1.Marks).length cy101_2)] 26), (3, bx b106 #[(.int .i64 y104.1.W), (.int .i64 y104.1.H), (.int .i64 y104.1.Rail), (.int .i64 y104.1.Gap), (.slice Ay104_0 (y104.1.Kinds).length cy104_0), (.slice Ay104_1 (y104.1.Slots).length cy104_1), (.slice Ay104_2 (y104.1.Marks).length cy104_2)] 26), (4, bx b109 #[(.int .i64 y107.1.W), (.int .i64 y107.1.H), (.int .i64 y107.1.Rail), (.int .i64 y107.1.Gap), (.slice Ay107_0 (y107.1.Kinds).length cy107_0), (.slice Ay107_1 (y107.1.Slots).length cy107_1), (.slice Ay107_2 (y107.1.Marks).length cy107_2)] 26), (5, bx b112 #[(.int .i64 y110.1.W), (.int .i64 y110.1.H), (.int .i64 y110.1.Rail), (.int .i64 y110.1.Gap), (.slice Ay110_0 (y110.1.Kinds).length cy110_0), (.slice Ay110_1 (y110.1.Slots).length cy110_1), (.slice Ay110_2 (y110.1.Marks).length cy110_2)] 26)] ?_ ?_
        · cases hg119 : (g115 && (y107.2 == y110.2))
          · rw [hg119] at hg118
            rw [if_neg (by decide)] at hg118
            have H := hg118
            obtain rfl := Option.some.inj H
            refine Tr.pass rfl rfl rfl rfl rfl (by decide) ?_
            refine Tr.val (wn rfl) rfl (fun _ _ h1 h2 => run_pickF (h1.ev rfl) (h1.ev rfl)) ?_
            exact Tr.nil (Tr.fin0 (.cons rfl .nil) (.cons rfl (.cons rfl (.cons rfl (.cons rfl (.cons rfl .nil))))))
          · rw [hg119] at hg118
            rw [if_pos rfl] at hg118
            have H := hg118
            obtain ⟨y119, hy119, H⟩ := bnd H
            refine Tr.call0 (r := (.bool y119)) (wg rfl rfl rfl) rfl Try.call15 evl_nil (fun W hW => F_etchhouselaw9_awake_ok N y119 hy119 (HF.start _)) ?_
            refine Tr.val (wn rfl) rfl (fun _ _ h1 h2 => run_pickT (h1.ev rfl) (h1.ev rfl)) ?_
            obtain rfl := Option.some.inj H
            exact Tr.nil (Tr.fin0 (.cons rfl .nil) (.cons rfl (.cons rfl (.cons rfl (.cons rfl (.cons rfl .nil))))))
        · show Tr _ _ (LF [(61, (.bool g118))]) (LE [(1, bx b100 #[(.int .i64 p0.W), (.int .i64 p0.H), (.int .i64 p0.Rail), (.int .i64 p0.Gap), (.slice Ap0_0 (p0.Kinds).length cp0_0), (.slice Ap0_1 (p0.Slots).length cp0_1), (.slice Ap0_2 (p0.Marks).length cp0_2)] 26), (2, bx b103 #[(.int .i64 y101.1.W), (.int .i64 y101.1.H), (.int .i64 y101.1.Rail), (.int .i64 y101.1.Gap), (.slice Ay101_0 (y101.1.Kinds).length cy101_0), (.slice Ay101_1 (y101.1.Slots).length cy101_1), (.slice Ay101_2 (y101.1.Marks).length cy101_2)] 26), (3, bx b106 #[(.int .i64 y104.1.W), (.int .i64 y104.1.H), (.int .i64 y104.1.Rail), (.int .i64 y104.1.Gap), (.slice Ay104_0 (y104.1.Kinds).length cy104_0), (.slice Ay104_1 (y104.1.Slots).length cy104_1), (.slice Ay104_2 (y104.1.Marks).length cy104_2)] 26), (4, bx b109 #[(.int .i64 y107.1.W), (.int .i64 y107.1.H), (.int .i64 y107.1.Rail), (.int .i64 y107.1.Gap), (.slice Ay107_0 (y107.1.Kinds).length cy107_0), (.slice Ay107_1 (y107.1.Slots).length cy107_1), (.slice Ay107_2 (y107.1.Marks).length cy107_2)] 26), (5, bx b112 #[(.int .i64 y110.1.W), (.int .i64 y110.1.H), (.int .i64 y110.1.Rail), (.int .i64 y110.1.Gap), (.slice Ay110_0 (y110.1.Kinds).length cy110_0), (.slice Ay110_1 (y110.1.Slots).length cy110_1), (.slice Ay110_2 (y110.1.Marks).length cy110_2)] 26)]) _
          refine Tr.val (wn rfl) rfl (fun _ _ h1 h2 => run_assign (h1.ev rfl)) ?_
          refine Tr.nil (Tr.normThen ?_)
          refine Tr.ret ?_
          obtain rfl := Option.some.inj H
          exact Tr.out (m := [(.bool g118)]) [] (res_tmp rfl res_nil) (fun W hW => ⟨rfl, hW.low leB⟩)

theorem F_panel_turnOf_ok {w : Bs} (p0 : TPanel) (Ap0_0 : Option Addr) (cp0_0 : Nat) (hp0_0 : Sl w.R w.W fl_TBoardKind Ap0_0 cp0_0 p0.Kinds) (Ap0_1 : Option Addr) (cp0_1 : Nat) (hp0_1 : Sl w.R w.W fl_TSlot Ap0_1 cp0_1 p0.Slots) (Ap0_2 : Option Addr) (cp0_2 : Nat) (hp0_2 : Sl w.R w.W fl_TPoint Ap0_2 cp0_2 p0.Marks) (p1 : TSlot) (r : TTurn) (H : F_panel_turnOf p0 p1 = some r) (hE : HF w w.W E0) : Calls Try.prog 52 [(.agg #[(.int .i64 p0.W), (.int .i64 p0.H), (.int .i64 p0.Rail), (.int .i64 p0.Gap), (.slice Ap0_0 (p0.Kinds).length cp0_0), (.slice Ap0_1 (p0.Slots).length cp0_1), (.slice Ap0_2 (p0.Marks).length cp0_2)]), (.agg #[(.string p1.Board), (.int .i64 p1.Quarters), (.int .i64 p1.At.X), (.int .i64 p1.At.Y)])].toArray w.W fun e W' => e = .returned (.agg #[(.bool r.Flip), (.int .i64 r.Quarters), (.int .i64 r.At.X), (.int .i64 r.At.Y)]) ∧ HF w W' E0 := by
  unfold F_panel_turnOf at H
  have leB := Bs.Le.refl w
  refine Tr.enter (n := 53) Try.func52 rfl rfl rfl hE ?_
  refine Tr.seq ?_
  refine Tr.region ?_
  refine Tr.box 1 (cs := [(.int .i64 p0.W), (.int .i64 p0.H), (.int .i64 p0.Rail), (.int .i64 p0.Gap), (.slice Ap0_0 (p0.Kinds).length cp0_0), (.slice Ap0_1 (p0.Slots).length cp0_1), (.slice Ap0_2 (p0.Marks).length cp0_2)]) (wn rfl) rfl rfl rfl fun b100 => ?_
  refine Tr.box 2 (cs := [(.string p1.Board), (.int .i64 p1.Quarters), (.int .i64 p1.At.X), (.int .i64 p1.At.Y)]) (wn rfl) rfl rfl rfl fun b101 => ?_
  refine Tr.alloc 3 (wn rfl) rfl ze_46 fun b102 => ?_
  refine Tr.nil (Tr.normThen ?_)
  refine Tr.seq ?_
  obtain ⟨y104, hy104, H⟩ := bnd H
  obtain ⟨x105, hx105, H⟩ := bnd H
  obtain ⟨hx1050, hx1051, hx1052⟩ := idx_some hx105
  refine Tr.drawF 9 [(8, .makeFunc (.func 0) #[] #[])] [(8, ⟨5, 4, (.func (.func 0) #[] #[]), fun b => .pointer (some ⟨b, 0, none⟩), fun b => bx b #[(.string ⟨#[]⟩), (.int .i64 0), (.int .i64 0)] 82⟩)] [(0, (.agg #[(.int .i64 p0.W), (.int .i64 p0.H), (.int .i64 p0.Rail), (.int .i64 p0.Gap), (.slice Ap0_0 (p0.Kinds).length cp0_0), (.slice Ap0_1 (p0.Slots).length cp0_1), (.slice Ap0_2 (p0.Marks).length cp0_2)])), (1, (.agg #[(.string p1.Board), (.int .i64 p1.Quarters), (.int .i64 p1.At.X), (.int .i64 p1.At.Y)])), (2, (.pointer (some ⟨b100, 0, none⟩))), (3, (.pointer (some ⟨b101, 0, none⟩))), (4, (.pointer (some ⟨b102, 0, none⟩))), (5, (.func (.func 0) #[] #[])), (7, (.pointer (some ⟨b100, 4, none⟩))), (8, (.slice Ap0_0 (p0.Kinds).length cp0_0)), (9, (.agg #[(.int .i64 p0.W), (.int .i64 p0.H), (.int .i64 p0.Rail), (.int .i64 p0.Gap), (.slice Ap0_0 (p0.Kinds).length cp0_0), (.slice Ap0_1 (p0.Slots).length cp0_1), (.slice Ap0_2 (p0.Marks).length cp0_2)])), (10, (.pointer (some ⟨b101, 0, none⟩))), (11, (.string p1.Board)), (12, (.int .i64 y104)), (13, (.pointer (some ⟨adB Ap0_0, adO Ap0_0 + (y104).toNat * 3, none⟩))), (14, (.agg #[(.string x105.Name), (.int .i64 x105.W), (.int .i64 x105.H)]))] (by kernel_rfl) (by kernel_rfl) (by kernel_rfl) (by kernel_rfl) (by kernel_rfl) (by kernel_rfl) (by kernel_rfl) (fall_cons (fr_alloc rfl rfl ze_82) fall_nil) (fall_cons rfl fall_nil) (fall_cons rfl fall_nil) ?_ ?_
  · refine Tq.val (wn rfl) rfl (fun _ _ h1 h2 => run_fieldAddr fo_26_4 (h1.ev rfl)) ?_
    refine Tq.val (wn rfl) rfl (fun _ _ h1 h2 => run_load1 ag_22 (h1.ev rfl) (rdb h2 (vs := [(.int .i64 p0.W), (.int .i64 p0.H), (.int .i64 p0.Rail), (.int .i64 p0.Gap), (.slice Ap0_0 (p0.Kinds).length cp0_0), (.slice Ap0_1 (p0.Slots).length cp0_1), (.slice Ap0_2 (p0.Marks).length cp0_2)]) (k := 1) rfl 4) rfl) ?_
    refine Tq.val (wn rfl) rfl (fun _ _ h1 h2 => run_loadN (cs := [(.int .i64 p0.W), (.int .i64 p0.H), (.int .i64 p0.Rail), (.int .i64 p0.Gap), (.slice Ap0_0 (p0.Kinds).length cp0_0), (.slice Ap0_1 (p0.Slots).length cp0_1), (.slice Ap0_2 (p0.Marks).length cp0_2)]) ag_26 sz_26 (h1.ev rfl) (CellsAt.take (rdb h2 (vs := [(.int .i64 p0.W), (.int .i64 p0.H), (.int .i64 p0.Rail), (.int .i64 p0.Gap), (.slice Ap0_0 (p0.Kinds).length cp0_0), (.slice Ap0_1 (p0.Slots).length cp0_1), (.slice Ap0_2 (p0.Marks).length cp0_2)]) (k := 1) rfl 0) 7) rfl) ?_
    refine Tq.val (wn rfl) rfl (fun _ _ h1 h2 => run_fieldAddr fo_34_0 (h1.ev rfl)) ?_
    refine Tq.val (wn rfl) rfl (fun _ _ h1 h2 => run_load1 ag_9 (h1.ev rfl) (rdb h2 (vs := [(.string p1.Board), (.int .i64 p1.Quarters), (.int .i64 p1.At.X), (.int .i64 p1.At.Y)]) (k := 2) rfl 0) rfl) ?_
    refine Tq.call0 (r := (.int .i64 y104)) (wn rfl) rfl Try.call45 (evl_cons rfl (evl_cons rfl evl_nil)) (fun W hW => F_panel_kindAt_ok p0 Ap0_0 cp0_0 (hp0_0.ext hW.extAll) Ap0_1 cp0_1 (hp0_1.ext hW.extAll) Ap0_2 cp0_2 (hp0_2.ext hW.extAll) p1.Board y104 hy104 (HF.start _)) ?_
    refine Tq.val (wn rfl) rfl (fun _ _ h1 h2 => run_indexAddr el_22 (h1.ev rfl) hp0_0.form (h1.ev rfl) hx1050 hx1051) ?_
    refine Tq.val (wn rfl) rfl (fun _ _ h1 h2 => run_loadN (cs := [(.string x105.Name), (.int .i64 x105.W), (.int .i64 x105.H)]) ag_82 sz_82 (h1.ev rfl) (CellsAt.take (rdF ef_TBoardKind hp0_0 hx1052 h2) 3) rfl) ?_
    refine Tq.mkFunc (vs := []) (wn rfl) rfl evl_nil ?_
    exact Tq.fin (.cons rfl (.cons rfl (.cons rfl (.cons rfl (.cons rfl (.cons rfl (.cons rfl (.cons rfl (.cons rfl (.cons rfl (.cons rfl (.cons rfl (.cons rfl (.cons rfl .nil))))))))))))))
  · intro bs103
    refine Tr.sel (lf := [(3, (.pointer (some ⟨b101, 0, none⟩))), (4, (.pointer (some ⟨b102, 0, none⟩))), (5, (.pointer (some ⟨(bs103 8), 0, none⟩))), (14, (.agg #[(.string x105.Name), (.int .i64 x105.W), (.int .i64 x105.H)]))]) (le := [(1, bx b100 #[(.int .i64 p0.W), (.int .i64 p0.H), (.int .i64 p0.Rail), (.int .i64 p0.Gap), (.slice Ap0_0 (p0.Kinds).length cp0_0), (.slice Ap0_1 (p0.Slots).length cp0_1), (.slice Ap0_2 (p0.Marks).length cp0_2)] 26), (2, bx b101 #[(.string p1.Board), (.int .i64 p1.Quarters), (.int .i64 p1.At.X), (.int .i64 p1.At.Y)] 34), (3, bx b102 #[(.bool false), (.int .i64 0), (.int .i64 0), (.int .i64 0)] 46), (4, bx (bs103 8) #[(.string ⟨#[]⟩), (.int .i64 0), (.int .i64 0)] 82)]) (.cons rfl (.cons rfl (.cons rfl (.cons rfl .nil)))) (.cons rfl (.cons rfl (.cons rfl (.cons rfl .nil)))) ?_
    refine Tr.store 4 (cs := [(.string x105.Name), (.int .i64 x105.W), (.int .i64 x105.H)]) [(.string x105.Name), (.int .i64 x105.W), (.int .i64 x105.H)] (wn rfl) rfl rfl rfl rfl sz_82 rfl rfl rfl ?_
    refine Tr.nil (Tr.normThen ?_)
    refine Tr.seq ?_
    refine Tr.region ?_
    refine Tr.val (wn rfl) rfl (fun _ _ h1 h2 => run_fieldAddr fo_34_2 (h1.ev rfl)) ?_
    refine Tr.val (wn rfl) rfl (fun _ _ h1 h2 => run_loadN (cs := [(.int .i64 p1.At.X), (.int .i64 p1.At.Y)]) ag_32 sz_32 (h1.ev rfl) (CellsAt.take (rdb h2 (vs := [(.string p1.Board), (.int .i64 p1.Quarters), (.int .i64 p1.At.X), (.int .i64 p1.At.Y)]) (k := 2) rfl 2) 2) rfl) ?_
    refine Tr.alloc 5 (wn rfl) rfl ze_32 fun b106 => ?_
    refine Tr.store 5 (cs := [(.int .i64 p1.At.X), (.int .i64 p1.At.Y)]) [(.int .i64 p1.At.X), (.int .i64 p1.At.Y)] (wn rfl) rfl rfl rfl rfl sz_32 rfl rfl rfl ?_
    refine Tr.nil (Tr.normThen ?_)
    have leJ110 := Bs.Le.refl w
    refine Tr.cutJ (σ := Int × Int) (fun w s => F_panel_turnOf_J1 p1 s.1 s.2 = some r) (fun s => [(3, (.pointer (some ⟨b101, 0, none⟩))), (4, (.pointer (some ⟨b102, 0, none⟩))), (6, (.pointer (some ⟨b106, 0, none⟩)))]) (fun s => [(2, bx b101 #[(.string p1.Board), (.int .i64 p1.Quarters), (.int .i64 p1.At.X), (.int .i64 p1.At.Y)] 34), (3, bx b102 #[(.bool false), (.int .i64 0), (.int .i64 0), (.int .i64 0)] 46), (5, bx b106 #[(.int .i64 s.1), (.int .i64 s.2)] 32)]) ?_ ?_
    · refine Tr.seq ?_
      refine Tr.region ?_
      refine Tr.val (wn rfl) rfl (fun _ _ h1 h2 => run_fieldAddr fo_34_1 (h1.ev rfl)) ?_
      refine Tr.val (wn rfl) rfl (fun _ _ h1 h2 => run_load1 ag_3 (h1.ev rfl) (rdb h2 (vs := [(.string p1.Board), (.int .i64 p1.Quarters), (.int .i64 p1.At.X), (.int .i64 p1.At.Y)]) (k := 2) rfl 1) rfl) ?_
      refine Tr.nil (Tr.normThen ?_)
      refine Tr.block ?_
      refine Tr.seq ?_
      refine Tr.region ?_
      refine Tr.val (wn rfl) rfl (fun _ _ h1 h2 => run_eql (h1.ev rfl) (h1.ev rfl)) ?_
      refine Tr.val (wn rfl) rfl (fun _ _ h1 h2 => run_assign (h1.ev rfl)) ?_
      refine Tr.nil (Tr.normThen ?_)
      refine Tr.cond rfl H (fun H => ?_) (fun H => ?_)
      · refine Tr.region ?_
        refine Tr.val (wn rfl) rfl (fun _ _ h1 h2 => run_fieldAddr fo_32_0 (h1.ev rfl)) ?_
        refine Tr.val (wn rfl) rfl (fun _ _ h1 h2 => run_load1 ag_3 (h1.ev rfl) (rdb h2 (vs := [(.int .i64 p1.At.X), (.int .i64 p1.At.Y)]) (k := 5) rfl 0) rfl) ?_
        refine Tr.val (wn rfl) rfl (fun _ _ h1 h2 => run_fieldAddr fo_82_2 (h1.ev rfl)) ?_
        refine Tr.val (wn rfl) rfl (fun _ _ h1 h2 => run_load1 ag_3 (h1.ev rfl) (rdb h2 (vs := [(.string x105.Name), (.int .i64 x105.W), (.int .i64 x105.H)]) (k := 4) rfl 2) rfl) ?_
        refine Tr.val (wn rfl) rfl (fun _ _ h1 h2 => run_add (h1.ev rfl) (h1.ev rfl)) ?_
        refine Tr.val (wn rfl) rfl (fun _ _ h1 h2 => run_fieldAddr fo_32_0 (h1.ev rfl)) ?_
        refine Tr.store 5 (cs := [(.int .i64 (w64 (p1.At.X + x105.H)))]) [(.int .i64 (w64 (p1.At.X + x105.H))), (.int .i64 p1.At.Y)] (wn rfl) rfl rfl rfl rfl sz_3 rfl rfl rfl ?_
        refine Tr.nil (Tr.normBlock ?_)
        exact Tr.backThen leJ110 ((w64 (p1.At.X + x105.H)), p1.At.Y) H (.cons rfl (.cons rfl (.cons rfl .nil))) (.cons rfl (.cons rfl (.cons rfl .nil)))
      · refine Tr.seq ?_
        refine Tr.region ?_
        refine Tr.val (wn rfl) rfl (fun _ _ h1 h2 => run_eql (h1.ev rfl) (h1.ev rfl)) ?_
        refine Tr.val (wn rfl) rfl (fun _ _ h1 h2 => run_assign (h1.ev rfl)) ?_
        refine Tr.nil (Tr.normThen ?_)
        refine Tr.cond rfl H (fun H => ?_) (fun H => ?_)
        · refine Tr.drawC 12 [(11, b106)] [] (by kernel_rfl) (by kernel_rfl) fun sz112 hlosz112 hEsz112 => ?_
          refine Dr.quiet 0 [(3, (.pointer (some ⟨b101, 0, none⟩))), (4, (.pointer (some ⟨b102, 0, none⟩))), (5, (.pointer (some ⟨(bs103 8), 0, none⟩))), (6, (.pointer (some ⟨b106, 0, none⟩))), (14, (.agg #[(.string x105.Name), (.int .i64 x105.W), (.int .i64 x105.H)])), (15, (.pointer (some ⟨b101, 2, none⟩))), (16, (.agg #[(.int .i64 p1.At.X), (.int .i64 p1.At.Y)])), (17, (.pointer (some ⟨b101, 1, none⟩))), (18, (.int .i64 p1.Quarters)), (19, (.bool (p1.Quarters == 1))), (20, (.bool (p1.Quarters == 1))), (27, (.bool (p1.Quarters == 2))), (28, (.bool (p1.Quarters == 2))), (29, (.pointer (some ⟨b106, 0, none⟩)))] (by kernel_rfl) rfl rfl (by kernel_rfl) ?_ rfl rfl ?_
          · refine Tq.val (wn rfl) rfl (fun _ _ h1 h2 => run_fieldAddr fo_32_0 (h1.ev rfl)) ?_
            exact Tq.fin (.cons rfl (.cons rfl (.cons rfl (.cons rfl (.cons rfl (.cons rfl (.cons rfl (.cons rfl (.cons rfl (.cons rfl (.cons rfl (.cons rfl (.cons rfl (.cons rfl .nil))))))))))))))
          refine Dr.quiet 1 [(3, (.pointer (some ⟨b101, 0, none⟩))), (4, (.pointer (some ⟨b102, 0, none⟩))), (5, (.pointer (some ⟨(bs103 8), 0, none⟩))), (6, (.pointer (some ⟨b106, 0, none⟩))), (14, (.agg #[(.string x105.Name), (.int .i64 x105.W), (.int .i64 x105.H)])), (15, (.pointer (some ⟨b101, 2, none⟩))), (16, (.agg #[(.int .i64 p1.At.X), (.int .i64 p1.At.Y)])), (17, (.pointer (some ⟨b101, 1, none⟩))), (18, (.int .i64 p1.Quarters)), (19, (.bool (p1.Quarters == 1))), (20, (.bool (p1.Quarters == 1))), (27, (.bool (p1.Quarters == 2))), (28, (.bool (p1.Quarters == 2))), (29, (.pointer (some ⟨b106, 0, none⟩))), (30, (.int .i64 p1.At.X))] (by kernel_rfl) rfl rfl (by kernel_rfl) ?_ rfl rfl ?_
          · refine Tq.val (wn rfl) rfl (fun _ _ h1 h2 => run_load1 ag_3 (h1.ev rfl) (rdb h2 (vs := [(.int .i64 p1.At.X), (.int .i64 p1.At.Y)]) (k := 5) rfl 0) rfl) ?_
            exact Tq.fin (.cons rfl (.cons rfl (.cons rfl (.cons rfl (.cons rfl (.cons rfl (.cons rfl (.cons rfl (.cons rfl (.cons rfl (.cons rfl (.cons rfl (.cons rfl (.cons rfl (.cons rfl .nil)))))))))))))))
          refine Dr.quiet 2 [(3, (.pointer (some ⟨b101, 0, none⟩))), (4, (.pointer (some ⟨b102, 0, none⟩))), (5, (.pointer (some ⟨(bs103 8), 0, none⟩))), (6, (.pointer (some ⟨b106, 0, none⟩))), (14, (.agg #[(.string x105.Name), (.int .i64 x105.W), (.int .i64 x105.H)])), (15, (.pointer (some ⟨b101, 2, none⟩))), (16, (.agg #[(.int .i64 p1.At.X), (.int .i64 p1.At.Y)])), (17, (.pointer (some ⟨b101, 1, none⟩))), (18, (.int .i64 p1.Quarters)), (19, (.bool (p1.Quarters == 1))), (20, (.bool (p1.Quarters == 1))), (27, (.bool (p1.Quarters == 2))), (28, (.bool (p1.Quarters == 2))), (29, (.pointer (some ⟨b106, 0, none⟩))), (30, (.int .i64 p1.At.X)), (31, (.pointer (some ⟨(bs103 8), 1, none⟩)))] (by kernel_rfl) rfl rfl (by kernel_rfl) ?_ rfl rfl ?_
          · refine Tq.val (wn rfl) rfl (fun _ _ h1 h2 => run_fieldAddr fo_82_1 (h1.ev rfl)) ?_
            exact Tq.fin (.cons rfl (.cons rfl (.cons rfl (.cons rfl (.cons rfl (.cons rfl (.cons rfl (.cons rfl (.cons rfl (.cons rfl (.cons rfl (.cons rfl (.cons rfl (.cons rfl (.cons rfl (.cons rfl .nil))))))))))))))))
          refine Dr.quiet 3 [(3, (.pointer (some ⟨b101, 0, none⟩))), (4, (.pointer (some ⟨b102, 0, none⟩))), (5, (.pointer (some ⟨(bs103 8), 0, none⟩))), (6, (.pointer (some ⟨b106, 0, none⟩))), (14, (.agg #[(.string x105.Name), (.int .i64 x105.W), (.int .i64 x105.H)])), (15, (.pointer (some ⟨b101, 2, none⟩))), (16, (.agg #[(.int .i64 p1.At.X), (.int .i64 p1.At.Y)])), (17, (.pointer (some ⟨b101, 1, none⟩))), (18, (.int .i64 p1.Quarters)), (19, (.bool (p1.Quarters == 1))), (20, (.bool (p1.Quarters == 1))), (27, (.bool (p1.Quarters == 2))), (28, (.bool (p1.Quarters == 2))), (29, (.pointer (some ⟨b106, 0, none⟩))), (30, (.int .i64 p1.At.X)), (31, (.pointer (some ⟨(bs103 8), 1, none⟩))), (32, (.int .i64 x105.W))] (by kernel_rfl) rfl rfl (by kernel_rfl) ?_ rfl rfl ?_
          · refine Tq.val (wn rfl) rfl (fun _ _ h1 h2 => run_load1 ag_3 (h1.ev rfl) (rdb h2 (vs := [(.string x105.Name), (.int .i64 x105.W), (.int .i64 x105.H)]) (k := 4) rfl 1) rfl) ?_
            exact Tq.fin (.cons rfl (.cons rfl (.cons rfl (.cons rfl (.cons rfl (.cons rfl (.cons rfl (.cons rfl (.cons rfl (.cons rfl (.cons rfl (.cons rfl (.cons rfl (.cons rfl (.cons rfl (.cons rfl (.cons rfl .nil)))))))))))))))))
          refine Dr.quiet 4 [(3, (.pointer (some ⟨b101, 0, none⟩))), (4, (.pointer (some ⟨b102, 0, none⟩))), (5, (.pointer (some ⟨(bs103 8), 0, none⟩))), (6, (.pointer (some ⟨b106, 0, none⟩))), (14, (.agg #[(.string x105.Name), (.int .i64 x105.W), (.int .i64 x105.H)])), (15, (.pointer (some ⟨b101, 2, none⟩))), (16, (.agg #[(.int .i64 p1.At.X), (.int .i64 p1.At.Y)])), (17, (.pointer (some ⟨b101, 1, none⟩))), (18, (.int .i64 p1.Quarters)), (19, (.bool (p1.Quarters == 1))), (20, (.bool (p1.Quarters == 1))), (27, (.bool (p1.Quarters == 2))), (28, (.bool (p1.Quarters == 2))), (29, (.pointer (some ⟨b106, 0, none⟩))), (30, (.int .i64 p1.At.X)), (31, (.pointer (some ⟨(bs103 8), 1, none⟩))), (32, (.int .i64 x105.W)), (33, (.int .i64 (w64 (p1.At.X + x105.W))))] (by kernel_rfl) rfl rfl (by kernel_rfl) ?_ rfl rfl ?_
          · refine Tq.val (wn rfl) rfl (fun _ _ h1 h2 => run_add (h1.ev rfl) (h1.ev rfl)) ?_
            exact Tq.fin (.cons rfl (.cons rfl (.cons rfl (.cons rfl (.cons rfl (.cons rfl (.cons rfl (.cons rfl (.cons rfl (.cons rfl (.cons rfl (.cons rfl (.cons rfl (.cons rfl (.cons rfl (.cons rfl (.cons rfl (.cons rfl .nil))))))))))))))))))
          refine Dr.quiet 5 [(3, (.pointer (some ⟨b101, 0, none⟩))), (4, (.pointer (some ⟨b102, 0, none⟩))), (5, (.pointer (some ⟨(bs103 8), 0, none⟩))), (6, (.pointer (some ⟨b106, 0, none⟩))), (14, (.agg #[(.string x105.Name), (.int .i64 x105.W), (.int .i64 x105.H)])), (15, (.pointer (some ⟨b101, 2, none⟩))), (16, (.agg #[(.int .i64 p1.At.X), (.int .i64 p1.At.Y)])), (17, (.pointer (some ⟨b101, 1, none⟩))), (18, (.int .i64 p1.Quarters)), (19, (.bool (p1.Quarters == 1))), (20, (.bool (p1.Quarters == 1))), (27, (.bool (p1.Quarters == 2))), (28, (.bool (p1.Quarters == 2))), (29, (.pointer (some ⟨b106, 0, none⟩))), (30, (.int .i64 p1.At.X)), (31, (.pointer (some ⟨(bs103 8), 1, none⟩))), (32, (.int .i64 x105.W)), (33, (.int .i64 (w64 (p1.At.X + x105.W)))), (34, (.pointer (some ⟨b106, 1, none⟩)))] (by kernel_rfl) rfl rfl (by kernel_rfl) ?_ rfl rfl ?_
          · refine Tq.val (wn rfl) rfl (fun _ _ h1 h2 => run_fieldAddr fo_32_1 (h1.ev rfl)) ?_
            exact Tq.fin (.cons rfl (.cons rfl (.cons rfl (.cons rfl (.cons rfl (.cons rfl (.cons rfl (.cons rfl (.cons rfl (.cons rfl (.cons rfl (.cons rfl (.cons rfl (.cons rfl (.cons rfl (.cons rfl (.cons rfl (.cons rfl (.cons rfl .nil)))))))))))))))))))
          refine Dr.quiet 6 [(3, (.pointer (some ⟨b101, 0, none⟩))), (4, (.pointer (some ⟨b102, 0, none⟩))), (5, (.pointer (some ⟨(bs103 8), 0, none⟩))), (6, (.pointer (some ⟨b106, 0, none⟩))), (14, (.agg #[(.string x105.Name), (.int .i64 x105.W), (.int .i64 x105.H)])), (15, (.pointer (some ⟨b101, 2, none⟩))), (16, (.agg #[(.int .i64 p1.At.X), (.int .i64 p1.At.Y)])), (17, (.pointer (some ⟨b101, 1, none⟩))), (18, (.int .i64 p1.Quarters)), (19, (.bool (p1.Quarters == 1))), (20, (.bool (p1.Quarters == 1))), (27, (.bool (p1.Quarters == 2))), (28, (.bool (p1.Quarters == 2))), (29, (.pointer (some ⟨b106, 0, none⟩))), (30, (.int .i64 p1.At.X)), (31, (.pointer (some ⟨(bs103 8), 1, none⟩))), (32, (.int .i64 x105.W)), (33, (.int .i64 (w64 (p1.At.X + x105.W)))), (34, (.pointer (some ⟨b106, 1, none⟩))), (35, (.int .i64 p1.At.Y))] (by kernel_rfl) rfl rfl (by kernel_rfl) ?_ rfl rfl ?_
          · refine Tq.val (wn rfl) rfl (fun _ _ h1 h2 => run_load1 ag_3 (h1.ev rfl) (rdb h2 (vs := [(.int .i64 p1.At.X), (.int .i64 p1.At.Y)]) (k := 5) rfl 1) rfl) ?_
            exact Tq.fin (.cons rfl (.cons rfl (.cons rfl (.cons rfl (.cons rfl (.cons rfl (.cons rfl (.cons rfl (.cons rfl (.cons rfl (.cons rfl (.cons rfl (.cons rfl (.cons rfl (.cons rfl (.cons rfl (.cons rfl (.cons rfl (.cons rfl (.cons rfl .nil))))))))))))))))))))
          refine Dr.quietZ 7 [(3, (.pointer (some ⟨b101, 0, none⟩))), (4, (.pointer (some ⟨b102, 0, none⟩))), (5, (.pointer (some ⟨(bs103 8), 0, none⟩))), (6, (.pointer (some ⟨b106, 0, none⟩))), (14, (.agg #[(.string x105.Name), (.int .i64 x105.W), (.int .i64 x105.H)])), (15, (.pointer (some ⟨b101, 2, none⟩))), (16, (.agg #[(.int .i64 p1.At.X), (.int .i64 p1.At.Y)])), (17, (.pointer (some ⟨b101, 1, none⟩))), (18, (.int .i64 p1.Quarters)), (19, (.bool (p1.Quarters == 1))), (20, (.bool (p1.Quarters == 1))), (27, (.bool (p1.Quarters == 2))), (28, (.bool (p1.Quarters == 2))), (29, (.pointer (some ⟨b106, 0, none⟩))), (30, (.int .i64 p1.At.X)), (31, (.pointer (some ⟨(bs103 8), 1, none⟩))), (32, (.int .i64 x105.W)), (33, (.int .i64 (w64 (p1.At.X + x105.W)))), (34, (.pointer (some ⟨b106, 1, none⟩))), (35, (.int .i64 p1.At.Y)), (36, (.pointer (some ⟨(bs103 8), 2, none⟩)))] [11] false (by kernel_rfl) rfl rfl (by kernel_rfl) (fun W W' h2 hsW hk => HF.keepZ (le := []) (ks := [(5, b106)]) (s0 := sz112) h2 hk hlosz112 .nil (fun b hb => hb.elim (fun hb => .inl (by simp at hb ⊢; simpa [eq_comm] using hb)) (fun hb => absurd hb.1 (by decide))) (fun p hp => by simp at hp; first | (subst hp; exact ⟨_, _, rfl⟩) | (rcases hp with rfl | rfl <;> exact ⟨_, _, rfl⟩)) rfl) ?_ rfl rfl ?_
          · refine Tq.val (wn rfl) rfl (fun _ _ h1 h2 => run_fieldAddr fo_82_2 (h1.ev rfl)) ?_
            exact Tq.fin (.cons rfl (.cons rfl (.cons rfl (.cons rfl (.cons rfl (.cons rfl (.cons rfl (.cons rfl (.cons rfl (.cons rfl (.cons rfl (.cons rfl (.cons rfl (.cons rfl (.cons rfl (.cons rfl (.cons rfl (.cons rfl (.cons rfl (.cons rfl (.cons rfl .nil)))))))))))))))))))))
          refine Dr.quietZ 8 [(3, (.pointer (some ⟨b101, 0, none⟩))), (4, (.pointer (some ⟨b102, 0, none⟩))), (5, (.pointer (some ⟨(bs103 8), 0, none⟩))), (6, (.pointer (some ⟨b106, 0, none⟩))), (14, (.agg #[(.string x105.Name), (.int .i64 x105.W), (.int .i64 x105.H)])), (15, (.pointer (some ⟨b101, 2, none⟩))), (16, (.agg #[(.int .i64 p1.At.X), (.int .i64 p1.At.Y)])), (17, (.pointer (some ⟨b101, 1, none⟩))), (18, (.int .i64 p1.Quarters)), (19, (.bool (p1.Quarters == 1))), (20, (.bool (p1.Quarters == 1))), (27, (.bool (p1.Quarters == 2))), (28, (.bool (p1.Quarters == 2))), (29, (.pointer (some ⟨b106, 0, none⟩))), (30, (.int .i64 p1.At.X)), (31, (.pointer (some ⟨(bs103 8), 1, none⟩))), (32, (.int .i64 x105.W)), (33, (.int .i64 (w64 (p1.At.X + x105.W)))), (34, (.pointer (some ⟨b106, 1, none⟩))), (35, (.int .i64 p1.At.Y)), (36, (.pointer (some ⟨(bs103 8), 2, none⟩))), (37, (.int .i64 x105.H))] [11] false (by kernel_rfl) rfl rfl (by kernel_rfl) (fun W W' h2 hsW hk => HF.keepZ (le := [(4, bx (bs103 8) #[(.string x105.Name), (.int .i64 x105.W), (.int .i64 x105.H)] 82)]) (ks := [(5, b106)]) (s0 := sz112) h2 hk hlosz112 (.cons rfl .nil) (fun b hb => hb.elim (fun hb => .inl (by simp at hb ⊢; simpa [eq_comm] using hb)) (fun hb => absurd hb.1 (by decide))) (fun p hp => by simp at hp; first | (subst hp; exact ⟨_, _, rfl⟩) | (rcases hp with rfl | rfl <;> exact ⟨_, _, rfl⟩)) rfl) ?_ rfl rfl ?_
          · refine Tq.val (wn rfl) rfl (fun _ _ h1 h2 => run_load1 ag_3 (h1.ev rfl) (rdb h2 (vs := [(.string x105.Name), (.int .i64 x105.W), (.int .i64 x105.H)]) (k := 4) rfl 2) rfl) ?_
            exact Tq.fin (.cons rfl (.cons rfl (.cons rfl (.cons rfl (.cons rfl (.cons rfl (.cons rfl (.cons rfl (.cons rfl (.cons rfl (.cons rfl (.cons rfl (.cons rfl (.cons rfl (.cons rfl (.cons rfl (.cons rfl (.cons rfl (.cons rfl (.cons rfl (.cons rfl (.cons rfl .nil))))))))))))))))))))))
          refine Dr.quietZ 9 [(3, (.pointer (some ⟨b101, 0, none⟩))), (4, (.pointer (some ⟨b102, 0, none⟩))), (5, (.pointer (some ⟨(bs103 8), 0, none⟩))), (6, (.pointer (some ⟨b106, 0, none⟩))), (14, (.agg #[(.string x105.Name), (.int .i64 x105.W), (.int .i64 x105.H)])), (15, (.pointer (some ⟨b101, 2, none⟩))), (16, (.agg #[(.int .i64 p1.At.X), (.int .i64 p1.At.Y)])), (17, (.pointer (some ⟨b101, 1, none⟩))), (18, (.int .i64 p1.Quarters)), (19, (.bool (p1.Quarters == 1))), (20, (.bool (p1.Quarters == 1))), (27, (.bool (p1.Quarters == 2))), (28, (.bool (p1.Quarters == 2))), (29, (.pointer (some ⟨b106, 0, none⟩))), (30, (.int .i64 p1.At.X)), (31, (.pointer (some ⟨(bs103 8), 1, none⟩))), (32, (.int .i64 x105.W)), (33, (.int .i64 (w64 (p1.At.X + x105.W)))), (34, (.pointer (some ⟨b106, 1, none⟩))), (35, (.int .i64 p1.At.Y)), (36, (.pointer (some ⟨(bs103 8), 2, none⟩))), (37, (.int .i64 x105.H)), (38, (.int .i64 (w64 (p1.At.Y + x105.H))))] [11] false (by kernel_rfl) rfl rfl (by kernel_rfl) (fun W W' h2 hsW hk => HF.keepZ (le := []) (ks := [(5, b106)]) (s0 := sz112) h2 hk hlosz112 .nil (fun b hb => hb.elim (fun hb => .inl (by simp at hb ⊢; simpa [eq_comm] using hb)) (fun hb => absurd hb.1 (by decide))) (fun p hp => by simp at hp; first | (subst hp; exact ⟨_, _, rfl⟩) | (rcases hp with rfl | rfl <;> exact ⟨_, _, rfl⟩)) rfl) ?_ rfl rfl ?_
          · refine Tq.val (wn rfl) rfl (fun _ _ h1 h2 => run_add (h1.ev rfl) (h1.ev rfl)) ?_
            exact Tq.fin (.cons rfl (.cons rfl (.cons rfl (.cons rfl (.cons rfl (.cons rfl (.cons rfl (.cons rfl (.cons rfl (.cons rfl (.cons rfl (.cons rfl (.cons rfl (.cons rfl (.cons rfl (.cons rfl (.cons rfl (.cons rfl (.cons rfl (.cons rfl (.cons rfl (.cons rfl (.cons rfl .nil)))))))))))))))))))))))
          refine Dr.quiet 10 [(3, (.pointer (some ⟨b101, 0, none⟩))), (4, (.pointer (some ⟨b102, 0, none⟩))), (5, (.pointer (some ⟨(bs103 8), 0, none⟩))), (6, (.pointer (some ⟨b106, 0, none⟩))), (14, (.agg #[(.string x105.Name), (.int .i64 x105.W), (.int .i64 x105.H)])), (15, (.pointer (some ⟨b101, 2, none⟩))), (16, (.agg #[(.int .i64 p1.At.X), (.int .i64 p1.At.Y)])), (17, (.pointer (some ⟨b101, 1, none⟩))), (18, (.int .i64 p1.Quarters)), (19, (.bool (p1.Quarters == 1))), (20, (.bool (p1.Quarters == 1))), (27, (.bool (p1.Quarters == 2))), (28, (.bool (p1.Quarters == 2))), (29, (.pointer (some ⟨b106, 0, none⟩))), (30, (.int .i64 p1.At.X)), (31, (.pointer (some ⟨(bs103 8), 1, none⟩))), (32, (.int .i64 x105.W)), (33, (.int .i64 (w64 (p1.At.X + x105.W)))), (34, (.pointer (some ⟨b106, 1, none⟩))), (35, (.int .i64 p1.At.Y)), (36, (.pointer (some ⟨(bs103 8), 2, none⟩))), (37, (.int .i64 x105.H)), (38, (.int .i64 (w64 (p1.At.Y + x105.H)))), (39, (.pointer (some ⟨b106, 0, none⟩)))] (by kernel_rfl) rfl rfl (by kernel_rfl) ?_ rfl rfl ?_
          · refine Tq.val (wn rfl) rfl (fun _ _ h1 h2 => run_fieldAddr fo_32_0 (h1.ev rfl)) ?_
            exact Tq.fin (.cons rfl (.cons rfl (.cons rfl (.cons rfl (.cons rfl (.cons rfl (.cons rfl (.cons rfl (.cons rfl (.cons rfl (.cons rfl (.cons rfl (.cons rfl (.cons rfl (.cons rfl (.cons rfl (.cons rfl (.cons rfl (.cons rfl (.cons rfl (.cons rfl (.cons rfl (.cons rfl (.cons rfl .nil))))))))))))))))))))))))
          refine Dr.one 11 (by kernel_rfl) ?_
          refine St.store 11 5 (cs := [(.int .i64 (w64 (p1.At.X + x105.W)))]) [(.int .i64 (w64 (p1.At.X + x105.W))), (.int .i64 p1.At.Y)] rfl (wn rfl) (.inl (by simp)) rfl rfl rfl rfl sz_3 rfl rfl rfl ?_
          refine Dr.tail (by kernel_rfl) ?_
          refine Tr.val (wn rfl) rfl (fun _ _ h1 h2 => run_fieldAddr fo_32_1 (h1.ev rfl)) ?_
          refine Tr.store 5 (cs := [(.int .i64 (w64 (p1.At.Y + x105.H)))]) [(.int .i64 (w64 (p1.At.X + x105.W))), (.int .i64 (w64 (p1.At.Y + x105.H)))] (wn rfl) rfl rfl rfl rfl sz_3 rfl rfl rfl ?_
          refine Tr.nil (Tr.normBlock ?_)
          exact Tr.backThen leJ110 ((w64 (p1.At.X + x105.W)), (w64 (p1.At.Y + x105.H))) H (.cons rfl (.cons rfl (.cons rfl .nil))) (.cons rfl (.cons rfl (.cons rfl .nil)))
        · refine Tr.seq ?_
          refine Tr.region ?_
          refine Tr.val (wn rfl) rfl (fun _ _ h1 h2 => run_eql (h1.ev rfl) (h1.ev rfl)) ?_
          refine Tr.val (wn rfl) rfl (fun _ _ h1 h2 => run_assign (h1.ev rfl)) ?_
          refine Tr.nil (Tr.normThen ?_)
          refine Tr.cond rfl H (fun H => ?_) (fun H => ?_)
          · refine Tr.region ?_
            refine Tr.val (wn rfl) rfl (fun _ _ h1 h2 => run_fieldAddr fo_32_1 (h1.ev rfl)) ?_
            refine Tr.val (wn rfl) rfl (fun _ _ h1 h2 => run_load1 ag_3 (h1.ev rfl) (rdb h2 (vs := [(.int .i64 p1.At.X), (.int .i64 p1.At.Y)]) (k := 5) rfl 1) rfl) ?_
            refine Tr.val (wn rfl) rfl (fun _ _ h1 h2 => run_fieldAddr fo_82_1 (h1.ev rfl)) ?_
            refine Tr.val (wn rfl) rfl (fun _ _ h1 h2 => run_load1 ag_3 (h1.ev rfl) (rdb h2 (vs := [(.string x105.Name), (.int .i64 x105.W), (.int .i64 x105.H)]) (k := 4) rfl 1) rfl) ?_
            refine Tr.val (wn rfl) rfl (fun _ _ h1 h2 => run_add (h1.ev rfl) (h1.ev rfl)) ?_
            refine Tr.val (wn rfl) rfl (fun _ _ h1 h2 => run_fieldAddr fo_32_1 (h1.ev rfl)) ?_
            refine Tr.store 5 (cs := [(.int .i64 (w64 (p1.At.Y + x105.W)))]) [(.int .i64 p1.At.X), (.int .i64 (w64 (p1.At.Y + x105.W)))] (wn rfl) rfl rfl rfl rfl sz_3 rfl rfl rfl ?_
            refine Tr.nil (Tr.normBlock ?_)
            exact Tr.backThen leJ110 (p1.At.X, (w64 (p1.At.Y + x105.W))) H (.cons rfl (.cons rfl (.cons rfl .nil))) (.cons rfl (.cons rfl (.cons rfl .nil)))
          · refine Tr.skip (Tr.normBlock ?_)
            exact Tr.backThen leJ110 (p1.At.X, p1.At.Y) H (.cons rfl (.cons rfl (.cons rfl .nil))) (.cons rfl (.cons rfl (.cons rfl .nil)))
    · intro w s hlJ111 hs
      obtain ⟨x108, x109⟩ := s
      have H := hs
      replace H : F_panel_turnOf_J1 p1 x108 x109 = some r := H
      replace leB := leB.trans hlJ111
      unfold F_panel_turnOf_J1 at H
      show Tr _ _ (LF [(3, (.pointer (some ⟨b101, 0, none⟩))), (4, (.pointer (some ⟨b102, 0, none⟩))), (6, (.pointer (some ⟨b106, 0, none⟩)))]) (LE [(2, bx b101 #[(.string p1.Board), (.int .i64 p1.Quarters), (.int .i64 p1.At.X), (.int .i64 p1.At.Y)] 34), (3, bx b102 #[(.bool false), (.int .i64 0), (.int .i64 0), (.int .i64 0)] 46), (5, bx b106 #[(.int .i64 x108), (.int .i64 x109)] 32)]) _
      refine Tr.seq ?_
      refine Tr.region ?_
      refine Tr.val (wn rfl) rfl (fun _ _ h1 h2 => run_fieldAddr fo_34_1 (h1.ev rfl)) ?_
      refine Tr.val (wn rfl) rfl (fun _ _ h1 h2 => run_load1 ag_3 (h1.ev rfl) (rdb h2 (vs := [(.string p1.Board), (.int .i64 p1.Quarters), (.int .i64 p1.At.X), (.int .i64 p1.At.Y)]) (k := 2) rfl 1) rfl) ?_
      refine Tr.val (wn rfl) rfl (fun _ _ h1 h2 => run_loadN (cs := [(.int .i64 x108), (.int .i64 x109)]) ag_32 sz_32 (h1.ev rfl) (CellsAt.take (rdb h2 (vs := [(.int .i64 x108), (.int .i64 x109)]) (k := 5) rfl 0) 2) rfl) ?_
      refine Tr.build (vs := [(1, (.int .i64 p1.Quarters)), (2, (.agg #[(.int .i64 x108), (.int .i64 x109)]))]) (cs := [(.bool false), (.int .i64 p1.Quarters), (.int .i64 x108), (.int .i64 x109)]) (wn rfl) rfl (evs_cons rfl (evs_cons rfl evs_nil)) (by kernel_rfl) ?_
      refine Tr.store 3 (cs := [(.bool false), (.int .i64 p1.Quarters), (.int .i64 x108), (.int .i64 x109)]) [(.bool false), (.int .i64 p1.Quarters), (.int .i64 x108), (.int .i64 x109)] (wn rfl) rfl rfl rfl rfl sz_46 rfl rfl rfl ?_
      refine Tr.nil (Tr.normThen ?_)
      refine Tr.ret ?_
      obtain rfl := Option.some.inj H
      exact Tr.out (m := [(.agg #[(.bool false), (.int .i64 p1.Quarters), (.int .i64 x108), (.int .i64 x109)])]) [3] (res_cell rfl rfl ag_46 sz_46 res_nil) (fun W hW => ⟨rfl, hW.low leB⟩)

theorem F_panel_SlotTurn_ok (N : Nat) {w : Bs} (p0 : TPanel) (Ap0_0 : Option Addr) (cp0_0 : Nat) (hp0_0 : Sl w.R w.W fl_TBoardKind Ap0_0 cp0_0 p0.Kinds) (Ap0_1 : Option Addr) (cp0_1 : Nat) (hp0_1 : Sl w.R w.W fl_TSlot Ap0_1 cp0_1 p0.Slots) (Ap0_2 : Option Addr) (cp0_2 : Nat) (hp0_2 : Sl w.R w.W fl_TPoint Ap0_2 cp0_2 p0.Marks) (p1 : Int) (r : (TTurn × Int)) (H : F_panel_SlotTurn N p0 p1 = some r) (hE : HF w w.W E0) : Calls Try.prog 20 [(.agg #[(.int .i64 p0.W), (.int .i64 p0.H), (.int .i64 p0.Rail), (.int .i64 p0.Gap), (.slice Ap0_0 (p0.Kinds).length cp0_0), (.slice Ap0_1 (p0.Slots).length cp0_1), (.slice Ap0_2 (p0.Marks).length cp0_2)]), (.int .i64 p1)].toArray w.W fun e W' => e = .returned (.tuple #[(.agg #[(.bool r.1.Flip), (.int .i64 r.1.Quarters), (.int .i64 r.1.At.X), (.int .i64 r.1.At.Y)]), (.int .i64 r.2)]) ∧ HF w W' E0 := by
  unfold F_panel_SlotTurn at H
  have leB := Bs.Le.refl w
  refine Tr.enter (n := 28) Try.func20 rfl rfl rfl hE ?_
  refine Tr.seq ?_
  refine Tr.region ?_
  refine Tr.box 1 (cs := [(.int .i64 p0.W), (.int .i64 p0.H), (.int .i64 p0.Rail), (.int .i64 p0.Gap), (.slice Ap0_0 (p0.Kinds).length cp0_0), (.slice Ap0_1 (p0.Slots).length cp0_1), (.slice Ap0_2 (p0.Marks).length cp0_2)]) (wn rfl) rfl rfl rfl fun b100 => ?_
  refine Tr.alloc 2 (wn rfl) rfl ze_46 fun b101 => ?_
  refine Tr.val (wn rfl) rfl (fun _ _ h1 h2 => run_assign (h1.ev rfl)) ?_
  refine Tr.nil (Tr.normThen ?_)
  refine Tr.seq ?_
  refine Tr.seq ?_
  refine Tr.region ?_
  refine Tr.val (wn rfl) rfl (fun _ _ h1 h2 => run_loadN (cs := [(.int .i64 p0.W), (.int .i64 p0.H), (.int .i64 p0.Rail), (.int .i64 p0.Gap), (.slice Ap0_0 (p0.Kinds).length cp0_0), (.slice Ap0_1 (p0.Slots).length cp0_1), (.slice Ap0_2 (p0.Marks).length cp0_2)]) ag_26 sz_26 (h1.ev rfl) (CellsAt.take (rdb h2 (vs := [(.int .i64 p0.W), (.int .i64 p0.H), (.int .i64 p0.Rail), (.int .i64 p0.Gap), (.slice Ap0_0 (p0.Kinds).length cp0_0), (.slice Ap0_1 (p0.Slots).length cp0_1), (.slice Ap0_2 (p0.Marks).length cp0_2)]) (k := 1) rfl 0) 7) rfl) ?_
  obtain ⟨y102, hy102, H⟩ := bnd H
  refine Tr.call0 (r := (.int .i64 y102)) (wn rfl) rfl Try.call31 (evl_cons rfl evl_nil) (fun W hW => F_panel_CheckPanel_ok N p0 Ap0_0 cp0_0 (hp0_0.ext hW.extAll) Ap0_1 cp0_1 (hp0_1.ext hW.extAll) Ap0_2 cp0_2 (hp0_2.ext hW.extAll) y102 hy102 (HF.start _)) ?_
  refine Tr.val (wn rfl) rfl (fun _ _ h1 h2 => run_assign (h1.ev rfl)) ?_
  refine Tr.nil (Tr.normThen ?_)
  refine Tr.seq ?_
  refine Tr.region ?_
  refine Tr.val (wn rfl) rfl (fun _ _ h1 h2 => run_move (h1.ev rfl)) ?_
  refine Tr.val (wn rfl) rfl (fun _ _ h1 h2 => run_neq (h1.ev rfl) (h1.ev rfl)) ?_
  refine Tr.nil (Tr.normThen ?_)
  refine Tr.cond rfl H (fun H => ?_) (fun H => ?_)
  · refine Tr.seq ?_
    refine Tr.region ?_
    refine Tr.build (vs := []) (cs := [(.bool false), (.int .i64 0), (.int .i64 0), (.int .i64 0)]) (wn rfl) rfl evs_nil (by kernel_rfl) ?_
    refine Tr.val (wn rfl) rfl (fun _ _ h1 h2 => run_move (h1.ev rfl)) ?_
    refine Tr.store 2 (cs := [(.bool false), (.int .i64 0), (.int .i64 0), (.int .i64 0)]) [(.bool false), (.int .i64 0), (.int .i64 0), (.int .i64 0)] (wn rfl) rfl rfl rfl rfl sz_46 rfl rfl rfl ?_
    refine Tr.val (wn rfl) rfl (fun _ _ h1 h2 => run_assign (h1.ev rfl)) ?_
    refine Tr.nil (Tr.normThen ?_)
    refine Tr.ret (Tr.retThen ?_)
    obtain rfl := Option.some.inj H
    exact Tr.out (m := [(.agg #[(.bool false), (.int .i64 0), (.int .i64 0), (.int .i64 0)]), (.int .i64 y102)]) [2] (res_cell rfl rfl ag_46 sz_46 (res_tmp rfl res_nil)) (fun W hW => ⟨rfl, hW.low leB⟩)
  · refine Tr.skip (Tr.normThen ?_)
    refine Tr.seq ?_
    refine Tr.seq ?_
    refine Tr.region ?_
    refine Tr.val (wn rfl) rfl (fun _ _ h1 h2 => run_move (h1.ev rfl)) ?_
    refine Tr.val (wn rfl) rfl (fun _ _ h1 h2 => run_fieldAddr fo_26_5 (h1.ev rfl)) ?_
    refine Tr.val (wn rfl) rfl (fun _ _ h1 h2 => run_load1 ag_23 (h1.ev rfl) (rdb h2 (vs := [(.int .i64 p0.W), (.int .i64 p0.H), (.int .i64 p0.Rail), (.int .i64 p0.Gap), (.slice Ap0_0 (p0.Kinds).length cp0_0), (.slice Ap0_1 (p0.Slots).length cp0_1), (.slice Ap0_2 (p0.Marks).length cp0_2)]) (k := 1) rfl 5) rfl) ?_
    refine Tr.val (wn rfl) rfl (fun _ _ h1 h2 => run_len un_23 (h1.ev rfl)) ?_
    refine Tr.val (wn rfl) rfl (fun _ _ h1 h2 => run_sub (h1.ev rfl) (h1.ev rfl)) ?_
    obtain ⟨y103, hy103, H⟩ := bnd H
    refine Tr.call0 (r := (.bool y103)) (wn rfl) rfl Try.call46 (evl_cons rfl (evl_cons rfl (evl_cons rfl evl_nil))) (fun W hW => F_panel_within_ok p1 0 (w64 ((p0.Slots.length : Int) - 1)) y103 hy103 (HF.start _)) ?_
    refine Tr.val (wn rfl) rfl (fun _ _ h1 h2 => run_not (h1.ev rfl)) ?_
    refine Tr.nil (Tr.normThen ?_)
    refine Tr.cond rfl H (fun H => ?_) (fun H => ?_)
    · refine Tr.seq ?_
      refine Tr.region ?_
      refine Tr.build (vs := []) (cs := [(.bool false), (.int .i64 0), (.int .i64 0), (.int .i64 0)]) (wn rfl) rfl evs_nil (by kernel_rfl) ?_
      refine Tr.store 2 (cs := [(.bool false), (.int .i64 0), (.int .i64 0), (.int .i64 0)]) [(.bool false), (.int .i64 0), (.int .i64 0), (.int .i64 0)] (wn rfl) rfl rfl rfl rfl sz_46 rfl rfl rfl ?_
      refine Tr.val (wn rfl) rfl (fun _ _ h1 h2 => run_assign (h1.ev rfl)) ?_
      refine Tr.nil (Tr.normThen ?_)
      refine Tr.ret (Tr.retThen ?_)
      obtain rfl := Option.some.inj H
      exact Tr.out (m := [(.agg #[(.bool false), (.int .i64 0), (.int .i64 0), (.int .i64 0)]), (.int .i64 9)]) [2] (res_cell rfl rfl ag_46 sz_46 (res_tmp rfl res_nil)) (fun W hW => ⟨rfl, hW.low leB⟩)
    · refine Tr.skip (Tr.normThen ?_)
      refine Tr.seq ?_
      refine Tr.drawTail 6 (by kernel_rfl) (by kernel_rfl) ?_
      refine Tq.val (wn rfl) rfl (fun _ _ h1 h2 => run_loadN (cs := [(.int .i64 p0.W), (.int .i64 p0.H), (.int .i64 p0.Rail), (.int .i64 p0.Gap), (.slice Ap0_0 (p0.Kinds).length cp0_0), (.slice Ap0_1 (p0.Slots).length cp0_1), (.slice Ap0_2 (p0.Marks).length cp0_2)]) ag_26 sz_26 (h1.ev rfl) (CellsAt.take (rdb h2 (vs := [(.int .i64 p0.W), (.int .i64 p0.H), (.int .i64 p0.Rail), (.int .i64 p0.Gap), (.slice Ap0_0 (p0.Kinds).length cp0_0), (.slice Ap0_1 (p0.Slots).length cp0_1), (.slice Ap0_2 (p0.Marks).length cp0_2)]) (k := 1) rfl 0) 7) rfl) ?_
      refine Tq.val (wn rfl) rfl (fun _ _ h1 h2 => run_fieldAddr fo_26_5 (h1.ev rfl)) ?_
      refine Tq.val (wn rfl) rfl (fun _ _ h1 h2 => run_load1 ag_23 (h1.ev rfl) (rdb h2 (vs := [(.int .i64 p0.W), (.int .i64 p0.H), (.int .i64 p0.Rail), (.int .i64 p0.Gap), (.slice Ap0_0 (p0.Kinds).length cp0_0), (.slice Ap0_1 (p0.Slots).length cp0_1), (.slice Ap0_2 (p0.Marks).length cp0_2)]) (k := 1) rfl 5) rfl) ?_
      refine Tq.val (wn rfl) rfl (fun _ _ h1 h2 => run_move (h1.ev rfl)) ?_
      obtain ⟨x104, hx104, H⟩ := bnd H
      obtain ⟨hx1040, hx1041, hx1042⟩ := idx_some hx104
      refine Tq.val (wn rfl) rfl (fun _ _ h1 h2 => run_indexAddr el_23 (h1.ev rfl) hp0_1.form (h1.ev rfl) hx1040 hx1041) ?_
      refine Tq.val (wn rfl) rfl (fun _ _ h1 h2 => run_loadN (cs := [(.string x104.Board), (.int .i64 x104.Quarters), (.int .i64 x104.At.X), (.int .i64 x104.At.Y)]) ag_34 sz_34 (h1.ev rfl) (CellsAt.take (rdF ef_TSlot hp0_1 hx1042 h2) 4) rfl) ?_
      refine Tq.nil ?_
      obtain ⟨y105, hy105, H⟩ := bnd H
      refine Tr.call0 (r := (.agg #[(.bool y105.Flip), (.int .i64 y105.Quarters), (.int .i64 y105.At.X), (.int .i64 y105.At.Y)])) (wn rfl) rfl Try.call52 (evl_cons rfl (evl_cons rfl evl_nil)) (fun W hW => F_panel_turnOf_ok p0 Ap0_0 cp0_0 (hp0_0.ext hW.extAll) Ap0_1 cp0_1 (hp0_1.ext hW.extAll) Ap0_2 cp0_2 (hp0_2.ext hW.extAll) x104 y105 hy105 (HF.start _)) ?_
      refine Tr.store 2 (cs := [(.bool y105.Flip), (.int .i64 y105.Quarters), (.int .i64 y105.At.X), (.int .i64 y105.At.Y)]) [(.bool y105.Flip), (.int .i64 y105.Quarters), (.int .i64 y105.At.X), (.int .i64 y105.At.Y)] (wn rfl) rfl rfl rfl rfl sz_46 rfl rfl rfl ?_
      refine Tr.val (wn rfl) rfl (fun _ _ h1 h2 => run_assign (h1.ev rfl)) ?_
      refine Tr.nil (Tr.normThen ?_)
      refine Tr.ret ?_
      obtain rfl := Option.some.inj H
      exact Tr.out (m := [(.agg #[(.bool y105.Flip), (.int .i64 y105.Quarters), (.int .i64 y105.At.X), (.int .i64 y105.At.Y)]), (.int .i64 0)]) [2] (res_cell rfl rfl ag_46 sz_46 (res_tmp rfl res_nil)) (fun W hW => ⟨rfl, hW.low leB⟩)

theorem F_etchhouseref9_turnOf_ok (N : Nat) {w : Bs} (p0 : TPanel) (Ap0_0 : Option Addr) (cp0_0 : Nat) (hp0_0 : Sl w.R w.W fl_TBoardKind Ap0_0 cp0_0 p0.Kinds) (Ap0_1 : Option Addr) (cp0_1 : Nat) (hp0_1 : Sl w.R w.W fl_TSlot Ap0_1 cp0_1 p0.Slots) (Ap0_2 : Option Addr) (cp0_2 : Nat) (hp0_2 : Sl w.R w.W fl_TPoint Ap0_2 cp0_2 p0.Marks) (p1 : TSlot) (r : TTurn) (H : F_etchhouseref9_turnOf N p0 p1 = some r) (hE : HF w w.W E0) : Calls Try.prog 53 [(.agg #[(.int .i64 p0.W), (.int .i64 p0.H), (.int .i64 p0.Rail), (.int .i64 p0.Gap), (.slice Ap0_0 (p0.Kinds).length cp0_0), (.slice Ap0_1 (p0.Slots).length cp0_1), (.slice Ap0_2 (p0.Marks).length cp0_2)]), (.agg #[(.string p1.Board), (.int .i64 p1.Quarters), (.int .i64 p1.At.X), (.int .i64 p1.At.Y)])].toArray w.W fun e W' => e = .returned (.agg #[(.bool r.Flip), (.int .i64 r.Quarters), (.int .i64 r.At.X), (.int .i64 r.At.Y)]) ∧ HF w W' E0 := by
  unfold F_etchhouseref9_turnOf at H
  have leB := Bs.Le.refl w
  refine Tr.enter (n := 61) Try.func53 rfl rfl rfl hE ?_
  refine Tr.seq ?_
  refine Tr.region ?_
  refine Tr.box 1 (cs := [(.int .i64 p0.W), (.int .i64 p0.H), (.int .i64 p0.Rail), (.int .i64 p0.Gap), (.slice Ap0_0 (p0.Kinds).length cp0_0), (.slice Ap0_1 (p0.Slots).length cp0_1), (.slice Ap0_2 (p0.Marks).length cp0_2)]) (wn rfl) rfl rfl rfl fun b100 => ?_
  refine Tr.box 2 (cs := [(.string p1.Board), (.int .i64 p1.Quarters), (.int .i64 p1.At.X), (.int .i64 p1.At.Y)]) (wn rfl) rfl rfl rfl fun b101 => ?_
  refine Tr.alloc 3 (wn rfl) rfl ze_46 fun b102 => ?_
  refine Tr.nil (Tr.normThen ?_)
  refine Tr.seq ?_
  obtain ⟨y104, hy104, H⟩ := bnd H
  obtain ⟨x105, hx105, H⟩ := bnd H
  obtain ⟨hx1050, hx1051, hx1052⟩ := idx_some hx105
  refine Tr.drawF 9 [(8, .makeFunc (.func 0) #[] #[])] [(8, ⟨5, 4, (.func (.func 0) #[] #[]), fun b => .pointer (some ⟨b, 0, none⟩), fun b => bx b #[(.string ⟨#[]⟩), (.int .i64 0), (.int .i64 0)] 82⟩)] [(0, (.agg #[(.int .i64 p0.W), (.int .i64 p0.H), (.int .i64 p0.Rail), (.int .i64 p0.Gap), (.slice Ap0_0 (p0.Kinds).length cp0_0), (.slice Ap0_1 (p0.Slots).length cp0_1), (.slice Ap0_2 (p0.Marks).length cp0_2)])), (1, (.agg #[(.string p1.Board), (.int .i64 p1.Quarters), (.int .i64 p1.At.X), (.int .i64 p1.At.Y)])), (2, (.pointer (some ⟨b100, 0, none⟩))), (3, (.pointer (some ⟨b101, 0, none⟩))), (4, (.pointer (some ⟨b102, 0, none⟩))), (5, (.func (.func 0) #[] #[])), (7, (.pointer (some ⟨b100, 4, none⟩))), (8, (.slice Ap0_0 (p0.Kinds).length cp0_0)), (9, (.agg #[(.int .i64 p0.W), (.int .i64 p0.H), (.int .i64 p0.Rail), (.int .i64 p0.Gap), (.slice Ap0_0 (p0.Kinds).length cp0_0), (.slice Ap0_1 (p0.Slots).length cp0_1), (.slice Ap0_2 (p0.Marks).length cp0_2)])), (10, (.pointer (some ⟨b101, 0, none⟩))), (11, (.string p1.Board)), (12, (.int .i64 y104)), (13, (.pointer (some ⟨adB Ap0_0, adO Ap0_0 + (y104).toNat * 3, none⟩))), (14, (.agg #[(.string x105.Name), (.int .i64 x105.W), (.int .i64 x105.H)]))] (by kernel_rfl) (by kernel_rfl) (by kernel_rfl) (by kernel_rfl) (by kernel_rfl) (by kernel_rfl) (by kernel_rfl) (fall_cons (fr_alloc rfl rfl ze_82) fall_nil) (fall_cons rfl fall_nil) (fall_cons rfl fall_nil) ?_ ?_
  · refine Tq.val (wn rfl) rfl (fun _ _ h1 h2 => run_fieldAddr fo_26_4 (h1.ev rfl)) ?_
    refine Tq.val (wn rfl) rfl (fun _ _ h1 h2 => run_load1 ag_22 (h1.ev rfl) (rdb h2 (vs := [(.int .i64 p0.W), (.int .i64 p0.H), (.int .i64 p0.Rail), (.int .i64 p0.Gap), (.slice Ap0_0 (p0.Kinds).length cp0_0), (.slice Ap0_1 (p0.Slots).length cp0_1), (.slice Ap0_2 (p0.Marks).length cp0_2)]) (k := 1) rfl 4) rfl) ?_
    refine Tq.val (wn rfl) rfl (fun _ _ h1 h2 => run_loadN (cs := [(.int .i64 p0.W), (.int .i64 p0.H), (.int .i64 p0.Rail), (.int .i64 p0.Gap), (.slice Ap0_0 (p0.Kinds).length cp0_0), (.slice Ap0_1 (p0.Slots).length cp0_1), (.slice Ap0_2 (p0.Marks).length cp0_2)]) ag_26 sz_26 (h1.ev rfl) (CellsAt.take (rdb h2 (vs := [(.int .i64 p0.W), (.int .i64 p0.H), (.int .i64 p0.Rail), (.int .i64 p0.Gap), (.slice Ap0_0 (p0.Kinds).length cp0_0), (.slice Ap0_1 (p0.Slots).length cp0_1), (.slice Ap0_2 (p0.Marks).length cp0_2)]) (k := 1) rfl 0) 7) rfl) ?_
    refine Tq.val (wn rfl) rfl (fun _ _ h1 h2 => run_fieldAddr fo_34_0 (h1.ev rfl)) ?_
    refine Tq.val (wn rfl) rfl (fun _ _ h1 h2 => run_load1 ag_9 (h1.ev rfl) (rdb h2 (vs := [(.string p1.Board), (.int .i64 p1.Quarters), (.int .i64 p1.At.X), (.int .i64 p1.At.Y)]) (k := 2) rfl 0) rfl) ?_
    refine Tq.call0 (r := (.int .i64 y104)) (wn rfl) rfl Try.call55 (evl_cons rfl (evl_cons rfl evl_nil)) (fun W hW => F_etchhouseref9_kind_ok N p0 Ap0_0 cp0_0 (hp0_0.ext hW.extAll) Ap0_1 cp0_1 (hp0_1.ext hW.extAll) Ap0_2 cp0_2 (hp0_2.ext hW.extAll) p1.Board y104 hy104 (HF.start _)) ?_
    refine Tq.val (wn rfl) rfl (fun _ _ h1 h2 => run_indexAddr el_22 (h1.ev rfl) hp0_0.form (h1.ev rfl) hx1050 hx1051) ?_
    refine Tq.val (wn rfl) rfl (fun _ _ h1 h2 => run_loadN (cs := [(.string x105.Name), (.int .i64 x105.W), (.int .i64 x105.H)]) ag_82 sz_82 (h1.ev rfl) (CellsAt.take (rdF ef_TBoardKind hp0_0 hx1052 h2) 3) rfl) ?_
    refine Tq.mkFunc (vs := []) (wn rfl) rfl evl_nil ?_
    exact Tq.fin (.cons rfl (.cons rfl (.cons rfl (.cons rfl (.cons rfl (.cons rfl (.cons rfl (.cons rfl (.cons rfl (.cons rfl (.cons rfl (.cons rfl (.cons rfl (.cons rfl .nil))))))))))))))
  · intro bs103
    refine Tr.sel (lf := [(3, (.pointer (some ⟨b101, 0, none⟩))), (4, (.pointer (some ⟨b102, 0, none⟩))), (5, (.pointer (some ⟨(bs103 8), 0, none⟩))), (14, (.agg #[(.string x105.Name), (.int .i64 x105.W), (.int .i64 x105.H)]))]) (le := [(1, bx b100 #[(.int .i64 p0.W), (.int .i64 p0.H), (.int .i64 p0.Rail), (.int .i64 p0.Gap), (.slice Ap0_0 (p0.Kinds).length cp0_0), (.slice Ap0_1 (p0.Slots).length cp0_1), (.slice Ap0_2 (p0.Marks).length cp0_2)] 26), (2, bx b101 #[(.string p1.Board), (.int .i64 p1.Quarters), (.int .i64 p1.At.X), (.int .i64 p1.At.Y)] 34), (3, bx b102 #[(.bool false), (.int .i64 0), (.int .i64 0), (.int .i64 0)] 46), (4, bx (bs103 8) #[(.string ⟨#[]⟩), (.int .i64 0), (.int .i64 0)] 82)]) (.cons rfl (.cons rfl (.cons rfl (.cons rfl .nil)))) (.cons rfl (.cons rfl (.cons rfl (.cons rfl .nil)))) ?_
    refine Tr.store 4 (cs := [(.string x105.Name), (.int .i64 x105.W), (.int .i64 x105.H)]) [(.string x105.Name), (.int .i64 x105.W), (.int .i64 x105.H)] (wn rfl) rfl rfl rfl rfl sz_82 rfl rfl rfl ?_
    refine Tr.nil (Tr.normThen ?_)
    refine Tr.seq ?_
    refine Tr.region ?_
    refine Tr.val (wn rfl) rfl (fun _ _ h1 h2 => run_fieldAddr fo_34_1 (h1.ev rfl)) ?_
    refine Tr.val (wn rfl) rfl (fun _ _ h1 h2 => run_load1 ag_3 (h1.ev rfl) (rdb h2 (vs := [(.string p1.Board), (.int .i64 p1.Quarters), (.int .i64 p1.At.X), (.int .i64 p1.At.Y)]) (k := 2) rfl 1) rfl) ?_
    refine Tr.val (wn rfl) rfl (fun _ _ h1 h2 => run_fieldAddr fo_34_2 (h1.ev rfl)) ?_
    refine Tr.val (wn rfl) rfl (fun _ _ h1 h2 => run_loadN (cs := [(.int .i64 p1.At.X), (.int .i64 p1.At.Y)]) ag_32 sz_32 (h1.ev rfl) (CellsAt.take (rdb h2 (vs := [(.string p1.Board), (.int .i64 p1.Quarters), (.int .i64 p1.At.X), (.int .i64 p1.At.Y)]) (k := 2) rfl 2) 2) rfl) ?_
    refine Tr.build (vs := [(1, (.int .i64 p1.Quarters)), (2, (.agg #[(.int .i64 p1.At.X), (.int .i64 p1.At.Y)]))]) (cs := [(.bool false), (.int .i64 p1.Quarters), (.int .i64 p1.At.X), (.int .i64 p1.At.Y)]) (wn rfl) rfl (evs_cons rfl (evs_cons rfl evs_nil)) (by kernel_rfl) ?_
    refine Tr.alloc 5 (wn rfl) rfl ze_46 fun b106 => ?_
    refine Tr.store 5 (cs := [(.bool false), (.int .i64 p1.Quarters), (.int .i64 p1.At.X), (.int .i64 p1.At.Y)]) [(.bool false), (.int .i64 p1.Quarters), (.int .i64 p1.At.X), (.int .i64 p1.At.Y)] (wn rfl) rfl rfl rfl rfl sz_46 rfl rfl rfl ?_
    refine Tr.nil (Tr.normThen ?_)
    have leJ109 := Bs.Le.refl w
    refine Tr.cutJ (σ := Int × Int) (fun w s => F_etchhouseref9_turnOf_J1 p1 s.1 s.2 = some r) (fun s => [(4, (.pointer (some ⟨b102, 0, none⟩))), (6, (.pointer (some ⟨b106, 0, none⟩)))]) (fun s => [(3, bx b102 #[(.bool false), (.int .i64 0), (.int .i64 0), (.int .i64 0)] 46), (5, bx b106 #[(.bool false), (.int .i64 p1.Quarters), (.int .i64 s.1), (.int .i64 s.2)] 46)]) ?_ ?_
    · refine Tr.seq ?_
      refine Tr.region ?_
      refine Tr.val (wn rfl) rfl (fun _ _ h1 h2 => run_fieldAddr fo_34_1 (h1.ev rfl)) ?_
      refine Tr.val (wn rfl) rfl (fun _ _ h1 h2 => run_load1 ag_3 (h1.ev rfl) (rdb h2 (vs := [(.string p1.Board), (.int .i64 p1.Quarters), (.int .i64 p1.At.X), (.int .i64 p1.At.Y)]) (k := 2) rfl 1) rfl) ?_
      refine Tr.nil (Tr.normThen ?_)
      refine Tr.block ?_
      refine Tr.seq ?_
      refine Tr.region ?_
      refine Tr.val (wn rfl) rfl (fun _ _ h1 h2 => run_eql (h1.ev rfl) (h1.ev rfl)) ?_
      refine Tr.val (wn rfl) rfl (fun _ _ h1 h2 => run_assign (h1.ev rfl)) ?_
      refine Tr.nil (Tr.normThen ?_)
      refine Tr.cond rfl H (fun H => ?_) (fun H => ?_)
      · refine Tr.region ?_
        refine Tr.val (wn rfl) rfl (fun _ _ h1 h2 => run_fieldAddr fo_46_2 (h1.ev rfl)) ?_
        refine Tr.val (wn rfl) rfl (fun _ _ h1 h2 => run_fieldAddr fo_32_0 (h1.ev rfl)) ?_
        refine Tr.val (wn rfl) rfl (fun _ _ h1 h2 => run_load1 ag_3 (h1.ev rfl) (rdb h2 (vs := [(.bool false), (.int .i64 p1.Quarters), (.int .i64 p1.At.X), (.int .i64 p1.At.Y)]) (k := 5) rfl 2) rfl) ?_
        refine Tr.val (wn rfl) rfl (fun _ _ h1 h2 => run_fieldAddr fo_82_2 (h1.ev rfl)) ?_
        refine Tr.val (wn rfl) rfl (fun _ _ h1 h2 => run_load1 ag_3 (h1.ev rfl) (rdb h2 (vs := [(.string x105.Name), (.int .i64 x105.W), (.int .i64 x105.H)]) (k := 4) rfl 2) rfl) ?_
        refine Tr.val (wn rfl) rfl (fun _ _ h1 h2 => run_add (h1.ev rfl) (h1.ev rfl)) ?_
        refine Tr.val (wn rfl) rfl (fun _ _ h1 h2 => run_fieldAddr fo_46_2 (h1.ev rfl)) ?_
        refine Tr.val (wn rfl) rfl (fun _ _ h1 h2 => run_fieldAddr fo_32_0 (h1.ev rfl)) ?_
        refine Tr.store 5 (cs := [(.int .i64 (w64 (p1.At.X + x105.H)))]) [(.bool false), (.int .i64 p1.Quarters), (.int .i64 (w64 (p1.At.X + x105.H))), (.int .i64 p1.At.Y)] (wn rfl) rfl rfl rfl rfl sz_3 rfl rfl rfl ?_
        refine Tr.nil (Tr.normBlock ?_)
        exact Tr.backThen leJ109 ((w64 (p1.At.X + x105.H)), p1.At.Y) H (.cons rfl (.cons rfl .nil)) (.cons rfl (.cons rfl .nil))
      · refine Tr.seq ?_
        refine Tr.region ?_
        refine Tr.val (wn rfl) rfl (fun _ _ h1 h2 => run_eql (h1.ev rfl) (h1.ev rfl)) ?_
        refine Tr.val (wn rfl) rfl (fun _ _ h1 h2 => run_assign (h1.ev rfl)) ?_
        refine Tr.nil (Tr.normThen ?_)
        refine Tr.cond rfl H (fun H => ?_) (fun H => ?_)
        · refine Tr.seq ?_
          refine Tr.region ?_
          refine Tr.val (wn rfl) rfl (fun _ _ h1 h2 => run_fieldAddr fo_46_2 (h1.ev rfl)) ?_
          refine Tr.val (wn rfl) rfl (fun _ _ h1 h2 => run_fieldAddr fo_32_0 (h1.ev rfl)) ?_
          refine Tr.val (wn rfl) rfl (fun _ _ h1 h2 => run_load1 ag_3 (h1.ev rfl) (rdb h2 (vs := [(.bool false), (.int .i64 p1.Quarters), (.int .i64 p1.At.X), (.int .i64 p1.At.Y)]) (k := 5) rfl 2) rfl) ?_
          refine Tr.val (wn rfl) rfl (fun _ _ h1 h2 => run_fieldAddr fo_82_1 (h1.ev rfl)) ?_
          refine Tr.val (wn rfl) rfl (fun _ _ h1 h2 => run_load1 ag_3 (h1.ev rfl) (rdb h2 (vs := [(.string x105.Name), (.int .i64 x105.W), (.int .i64 x105.H)]) (k := 4) rfl 1) rfl) ?_
          refine Tr.val (wn rfl) rfl (fun _ _ h1 h2 => run_add (h1.ev rfl) (h1.ev rfl)) ?_
          refine Tr.val (wn rfl) rfl (fun _ _ h1 h2 => run_fieldAddr fo_46_2 (h1.ev rfl)) ?_
          refine Tr.val (wn rfl) rfl (fun _ _ h1 h2 => run_fieldAddr fo_32_0 (h1.ev rfl)) ?_
          refine Tr.store 5 (cs := [(.int .i64 (w64 (p1.At.X + x105.W)))]) [(.bool false), (.int .i64 p1.Quarters), (.int .i64 (w64 (p1.At.X + x105.W))), (.int .i64 p1.At.Y)] (wn rfl) rfl rfl rfl rfl sz_3 rfl rfl rfl ?_
          refine Tr.nil (Tr.normThen ?_)
          refine Tr.region ?_
          refine Tr.val (wn rfl) rfl (fun _ _ h1 h2 => run_fieldAddr fo_46_2 (h1.ev rfl)) ?_
          refine Tr.val (wn rfl) rfl (fun _ _ h1 h2 => run_fieldAddr fo_32_1 (h1.ev rfl)) ?_
          refine Tr.val (wn rfl) rfl (fun _ _ h1 h2 => run_load1 ag_3 (h1.ev rfl) (rdb h2 (vs := [(.bool false), (.int .i64 p1.Quarters), (.int .i64 (w64 (p1.At.X + x105.W))), (.int .i64 p1.At.Y)]) (k := 5) rfl 3) rfl) ?_
          refine Tr.val (wn rfl) rfl (fun _ _ h1 h2 => run_fieldAddr fo_82_2 (h1.ev rfl)) ?_
          refine Tr.val (wn rfl) rfl (fun _ _ h1 h2 => run_load1 ag_3 (h1.ev rfl) (rdb h2 (vs := [(.string x105.Name), (.int .i64 x105.W), (.int .i64 x105.H)]) (k := 4) rfl 2) rfl) ?_
          refine Tr.val (wn rfl) rfl (fun _ _ h1 h2 => run_add (h1.ev rfl) (h1.ev rfl)) ?_
          refine Tr.val (wn rfl) rfl (fun _ _ h1 h2 => run_fieldAddr fo_46_2 (h1.ev rfl)) ?_
          refine Tr.val (wn rfl) rfl (fun _ _ h1 h2 => run_fieldAddr fo_32_1 (h1.ev rfl)) ?_
          refine Tr.store 5 (cs := [(.int .i64 (w64 (p1.At.Y + x105.H)))]) [(.bool false), (.int .i64 p1.Quarters), (.int .i64 (w64 (p1.At.X + x105.W))), (.int .i64 (w64 (p1.At.Y + x105.H)))] (wn rfl) rfl rfl rfl rfl sz_3 rfl rfl rfl ?_
          refine Tr.nil (Tr.normBlock ?_)
          exact Tr.backThen leJ109 ((w64 (p1.At.X + x105.W)), (w64 (p1.At.Y + x105.H))) H (.cons rfl (.cons rfl .nil)) (.cons rfl (.cons rfl .nil))
        · refine Tr.seq ?_
          refine Tr.region ?_
          refine Tr.val (wn rfl) rfl (fun _ _ h1 h2 => run_eql (h1.ev rfl) (h1.ev rfl)) ?_
          refine Tr.val (wn rfl) rfl (fun _ _ h1 h2 => run_assign (h1.ev rfl)) ?_
          refine Tr.nil (Tr.normThen ?_)
          refine Tr.cond rfl H (fun H => ?_) (fun H => ?_)
          · refine Tr.region ?_
            refine Tr.val (wn rfl) rfl (fun _ _ h1 h2 => run_fieldAddr fo_46_2 (h1.ev rfl)) ?_
            refine Tr.val (wn rfl) rfl (fun _ _ h1 h2 => run_fieldAddr fo_32_1 (h1.ev rfl)) ?_
            refine Tr.val (wn rfl) rfl (fun _ _ h1 h2 => run_load1 ag_3 (h1.ev rfl) (rdb h2 (vs := [(.bool false), (.int .i64 p1.Quarters), (.int .i64 p1.At.X), (.int .i64 p1.At.Y)]) (k := 5) rfl 3) rfl) ?_
            refine Tr.val (wn rfl) rfl (fun _ _ h1 h2 => run_fieldAddr fo_82_1 (h1.ev rfl)) ?_
            refine Tr.val (wn rfl) rfl (fun _ _ h1 h2 => run_load1 ag_3 (h1.ev rfl) (rdb h2 (vs := [(.string x105.Name), (.int .i64 x105.W), (.int .i64 x105.H)]) (k := 4) rfl 1) rfl) ?_
            refine Tr.val (wn rfl) rfl (fun _ _ h1 h2 => run_add (h1.ev rfl) (h1.ev rfl)) ?_
            refine Tr.val (wn rfl) rfl (fun _ _ h1 h2 => run_fieldAddr fo_46_2 (h1.ev rfl)) ?_
            refine Tr.val (wn rfl) rfl (fun _ _ h1 h2 => run_fieldAddr fo_32_1 (h1.ev rfl)) ?_
            refine Tr.store 5 (cs := [(.int .i64 (w64 (p1.At.Y + x105.W)))]) [(.bool false), (.int .i64 p1.Quarters), (.int .i64 p1.At.X), (.int .i64 (w64 (p1.At.Y + x105.W)))] (wn rfl) rfl rfl rfl rfl sz_3 rfl rfl rfl ?_
            refine Tr.nil (Tr.normBlock ?_)
            exact Tr.backThen leJ109 (p1.At.X, (w64 (p1.At.Y + x105.W))) H (.cons rfl (.cons rfl .nil)) (.cons rfl (.cons rfl .nil))
          · refine Tr.skip (Tr.normBlock ?_)
            exact Tr.backThen leJ109 (p1.At.X, p1.At.Y) H (.cons rfl (.cons rfl .nil)) (.cons rfl (.cons rfl .nil))
    · intro w s hlJ110 hs
      obtain ⟨x107, x108⟩ := s
      have H := hs
      replace H : F_etchhouseref9_turnOf_J1 p1 x107 x108 = some r := H
      replace leB := leB.trans hlJ110
      unfold F_etchhouseref9_turnOf_J1 at H
      show Tr _ _ (LF [(4, (.pointer (some ⟨b102, 0, none⟩))), (6, (.pointer (some ⟨b106, 0, none⟩)))]) (LE [(3, bx b102 #[(.bool false), (.int .i64 0), (.int .i64 0), (.int .i64 0)] 46), (5, bx b106 #[(.bool false), (.int .i64 p1.Quarters), (.int .i64 x107), (.int .i64 x108)] 46)]) _
      refine Tr.seq ?_
      refine Tr.region ?_
      refine Tr.val (wn rfl) rfl (fun _ _ h1 h2 => run_loadN (cs := [(.bool false), (.int .i64 p1.Quarters), (.int .i64 x107), (.int .i64 x108)]) ag_46 sz_46 (h1.ev rfl) (CellsAt.take (rdb h2 (vs := [(.bool false), (.int .i64 p1.Quarters), (.int .i64 x107), (.int .i64 x108)]) (k := 5) rfl 0) 4) rfl) ?_
      refine Tr.store 3 (cs := [(.bool false), (.int .i64 p1.Quarters), (.int .i64 x107), (.int .i64 x108)]) [(.bool false), (.int .i64 p1.Quarters), (.int .i64 x107), (.int .i64 x108)] (wn rfl) rfl rfl rfl rfl sz_46 rfl rfl rfl ?_
      refine Tr.nil (Tr.normThen ?_)
      refine Tr.ret ?_
      obtain rfl := Option.some.inj H
      exact Tr.out (m := [(.agg #[(.bool false), (.int .i64 p1.Quarters), (.int .i64 x107), (.int .i64 x108)])]) [3] (res_cell rfl rfl ag_46 sz_46 res_nil) (fun W hW => ⟨rfl, hW.low leB⟩)

theorem F_etchhouseref9_SlotTurn_ok (N : Nat) {w : Bs} (p0 : TPanel) (Ap0_0 : Option Addr) (cp0_0 : Nat) (hp0_0 : Sl w.R w.W fl_TBoardKind Ap0_0 cp0_0 p0.Kinds) (Ap0_1 : Option Addr) (cp0_1 : Nat) (hp0_1 : Sl w.R w.W fl_TSlot Ap0_1 cp0_1 p0.Slots) (Ap0_2 : Option Addr) (cp0_2 : Nat) (hp0_2 : Sl w.R w.W fl_TPoint Ap0_2 cp0_2 p0.Marks) (p1 : Int) (r : (TTurn × Int)) (H : F_etchhouseref9_SlotTurn N p0 p1 = some r) (hE : HF w w.W E0) : Calls Try.prog 21 [(.agg #[(.int .i64 p0.W), (.int .i64 p0.H), (.int .i64 p0.Rail), (.int .i64 p0.Gap), (.slice Ap0_0 (p0.Kinds).length cp0_0), (.slice Ap0_1 (p0.Slots).length cp0_1), (.slice Ap0_2 (p0.Marks).length cp0_2)]), (.int .i64 p1)].toArray w.W fun e W' => e = .returned (.tuple #[(.agg #[(.bool r.1.Flip), (.int .i64 r.1.Quarters), (.int .i64 r.1.At.X), (.int .i64 r.1.At.Y)]), (.int .i64 r.2)]) ∧ HF w W' E0 := by
  unfold F_etchhouseref9_SlotTurn at H
  have leB := Bs.Le.refl w
  refine Tr.enter (n := 28) Try.func21 rfl rfl rfl hE ?_
  refine Tr.seq ?_
  refine Tr.region ?_
  refine Tr.box 1 (cs := [(.int .i64 p0.W), (.int .i64 p0.H), (.int .i64 p0.Rail), (.int .i64 p0.Gap), (.slice Ap0_0 (p0.Kinds).length cp0_0), (.slice Ap0_1 (p0.Slots).length cp0_1), (.slice Ap0_2 (p0.Marks).length cp0_2)]) (wn rfl) rfl rfl rfl fun b100 => ?_
  refine Tr.alloc 2 (wn rfl) rfl ze_46 fun b101 => ?_
  refine Tr.val (wn rfl) rfl (fun _ _ h1 h2 => run_assign (h1.ev rfl)) ?_
  refine Tr.nil (Tr.normThen ?_)
  refine Tr.seq ?_
  refine Tr.seq ?_
  refine Tr.region ?_
  refine Tr.val (wn rfl) rfl (fun _ _ h1 h2 => run_loadN (cs := [(.int .i64 p0.W), (.int .i64 p0.H), (.int .i64 p0.Rail), (.int .i64 p0.Gap), (.slice Ap0_0 (p0.Kinds).length cp0_0), (.slice Ap0_1 (p0.Slots).length cp0_1), (.slice Ap0_2 (p0.Marks).length cp0_2)]) ag_26 sz_26 (h1.ev rfl) (CellsAt.take (rdb h2 (vs := [(.int .i64 p0.W), (.int .i64 p0.H), (.int .i64 p0.Rail), (.int .i64 p0.Gap), (.slice Ap0_0 (p0.Kinds).length cp0_0), (.slice Ap0_1 (p0.Slots).length cp0_1), (.slice Ap0_2 (p0.Marks).length cp0_2)]) (k := 1) rfl 0) 7) rfl) ?_
  obtain ⟨y102, hy102, H⟩ := bnd H
  refine Tr.call0 (r := (.int .i64 y102)) (wn rfl) rfl Try.call39 (evl_cons rfl evl_nil) (fun W hW => F_etchhouseref9_CheckPanel_ok N p0 Ap0_0 cp0_0 (hp0_0.ext hW.extAll) Ap0_1 cp0_1 (hp0_1.ext hW.extAll) Ap0_2 cp0_2 (hp0_2.ext hW.extAll) y102 hy102 (HF.start _)) ?_
  refine Tr.val (wn rfl) rfl (fun _ _ h1 h2 => run_assign (h1.ev rfl)) ?_
  refine Tr.nil (Tr.normThen ?_)
  refine Tr.seq ?_
  refine Tr.region ?_
  refine Tr.val (wn rfl) rfl (fun _ _ h1 h2 => run_move (h1.ev rfl)) ?_
  refine Tr.val (wn rfl) rfl (fun _ _ h1 h2 => run_neq (h1.ev rfl) (h1.ev rfl)) ?_
  refine Tr.nil (Tr.normThen ?_)
  refine Tr.cond rfl H (fun H => ?_) (fun H => ?_)
  · refine Tr.seq ?_
    refine Tr.region ?_
    refine Tr.build (vs := []) (cs := [(.bool false), (.int .i64 0), (.int .i64 0), (.int .i64 0)]) (wn rfl) rfl evs_nil (by kernel_rfl) ?_
    refine Tr.val (wn rfl) rfl (fun _ _ h1 h2 => run_move (h1.ev rfl)) ?_
    refine Tr.store 2 (cs := [(.bool false), (.int .i64 0), (.int .i64 0), (.int .i64 0)]) [(.bool false), (.int .i64 0), (.int .i64 0), (.int .i64 0)] (wn rfl) rfl rfl rfl rfl sz_46 rfl rfl rfl ?_
    refine Tr.val (wn rfl) rfl (fun _ _ h1 h2 => run_assign (h1.ev rfl)) ?_
    refine Tr.nil (Tr.normThen ?_)
    refine Tr.ret (Tr.retThen ?_)
    obtain rfl := Option.some.inj H
    exact Tr.out (m := [(.agg #[(.bool false), (.int .i64 0), (.int .i64 0), (.int .i64 0)]), (.int .i64 y102)]) [2] (res_cell rfl rfl ag_46 sz_46 (res_tmp rfl res_nil)) (fun W hW => ⟨rfl, hW.low leB⟩)
  · refine Tr.skip (Tr.normThen ?_)
    refine Tr.seq ?_
    refine Tr.seq ?_
    refine Tr.region ?_
    refine Tr.val (wn rfl) rfl (fun _ _ h1 h2 => run_move (h1.ev rfl)) ?_
    refine Tr.val (wn rfl) rfl (fun _ _ h1 h2 => run_fieldAddr fo_26_5 (h1.ev rfl)) ?_
    refine Tr.val (wn rfl) rfl (fun _ _ h1 h2 => run_load1 ag_23 (h1.ev rfl) (rdb h2 (vs := [(.int .i64 p0.W), (.int .i64 p0.H), (.int .i64 p0.Rail), (.int .i64 p0.Gap), (.slice Ap0_0 (p0.Kinds).length cp0_0), (.slice Ap0_1 (p0.Slots).length cp0_1), (.slice Ap0_2 (p0.Marks).length cp0_2)]) (k := 1) rfl 5) rfl) ?_
    refine Tr.val (wn rfl) rfl (fun _ _ h1 h2 => run_len un_23 (h1.ev rfl)) ?_
    refine Tr.val (wn rfl) rfl (fun _ _ h1 h2 => run_sub (h1.ev rfl) (h1.ev rfl)) ?_
    obtain ⟨y103, hy103, H⟩ := bnd H
    refine Tr.call0 (r := (.bool y103)) (wn rfl) rfl Try.call49 (evl_cons rfl (evl_cons rfl (evl_cons rfl evl_nil))) (fun W hW => F_etchhouseref9_within_ok p1 0 (w64 ((p0.Slots.length : Int) - 1)) y103 hy103 (HF.start _)) ?_
    refine Tr.val (wn rfl) rfl (fun _ _ h1 h2 => run_not (h1.ev rfl)) ?_
    refine Tr.nil (Tr.normThen ?_)
    refine Tr.cond rfl H (fun H => ?_) (fun H => ?_)
    · refine Tr.seq ?_
      refine Tr.region ?_
      refine Tr.build (vs := []) (cs := [(.bool false), (.int .i64 0), (.int .i64 0), (.int .i64 0)]) (wn rfl) rfl evs_nil (by kernel_rfl) ?_
      refine Tr.store 2 (cs := [(.bool false), (.int .i64 0), (.int .i64 0), (.int .i64 0)]) [(.bool false), (.int .i64 0), (.int .i64 0), (.int .i64 0)] (wn rfl) rfl rfl rfl rfl sz_46 rfl rfl rfl ?_
      refine Tr.val (wn rfl) rfl (fun _ _ h1 h2 => run_assign (h1.ev rfl)) ?_
      refine Tr.nil (Tr.normThen ?_)
      refine Tr.ret (Tr.retThen ?_)
      obtain rfl := Option.some.inj H
      exact Tr.out (m := [(.agg #[(.bool false), (.int .i64 0), (.int .i64 0), (.int .i64 0)]), (.int .i64 9)]) [2] (res_cell rfl rfl ag_46 sz_46 (res_tmp rfl res_nil)) (fun W hW => ⟨rfl, hW.low leB⟩)
    · refine Tr.skip (Tr.normThen ?_)
      refine Tr.seq ?_
      refine Tr.drawTail 6 (by kernel_rfl) (by kernel_rfl) ?_
      refine Tq.val (wn rfl) rfl (fun _ _ h1 h2 => run_loadN (cs := [(.int .i64 p0.W), (.int .i64 p0.H), (.int .i64 p0.Rail), (.int .i64 p0.Gap), (.slice Ap0_0 (p0.Kinds).length cp0_0), (.slice Ap0_1 (p0.Slots).length cp0_1), (.slice Ap0_2 (p0.Marks).length cp0_2)]) ag_26 sz_26 (h1.ev rfl) (CellsAt.take (rdb h2 (vs := [(.int .i64 p0.W), (.int .i64 p0.H), (.int .i64 p0.Rail), (.int .i64 p0.Gap), (.slice Ap0_0 (p0.Kinds).length cp0_0), (.slice Ap0_1 (p0.Slots).length cp0_1), (.slice Ap0_2 (p0.Marks).length cp0_2)]) (k := 1) rfl 0) 7) rfl) ?_
      refine Tq.val (wn rfl) rfl (fun _ _ h1 h2 => run_fieldAddr fo_26_5 (h1.ev rfl)) ?_
      refine Tq.val (wn rfl) rfl (fun _ _ h1 h2 => run_load1 ag_23 (h1.ev rfl) (rdb h2 (vs := [(.int .i64 p0.W), (.int .i64 p0.H), (.int .i64 p0.Rail), (.int .i64 p0.Gap), (.slice Ap0_0 (p0.Kinds).length cp0_0), (.slice Ap0_1 (p0.Slots).length cp0_1), (.slice Ap0_2 (p0.Marks).length cp0_2)]) (k := 1) rfl 5) rfl) ?_
      refine Tq.val (wn rfl) rfl (fun _ _ h1 h2 => run_move (h1.ev rfl)) ?_
      obtain ⟨x104, hx104, H⟩ := bnd H
      obtain ⟨hx1040, hx1041, hx1042⟩ := idx_some hx104
      refine Tq.val (wn rfl) rfl (fun _ _ h1 h2 => run_indexAddr el_23 (h1.ev rfl) hp0_1.form (h1.ev rfl) hx1040 hx1041) ?_
      refine Tq.val (wn rfl) rfl (fun _ _ h1 h2 => run_loadN (cs := [(.string x104.Board), (.int .i64 x104.Quarters), (.int .i64 x104.At.X), (.int .i64 x104.At.Y)]) ag_34 sz_34 (h1.ev rfl) (CellsAt.take (rdF ef_TSlot hp0_1 hx1042 h2) 4) rfl) ?_
      refine Tq.nil ?_
      obtain ⟨y105, hy105, H⟩ := bnd H
      refine Tr.call0 (r := (.agg #[(.bool y105.Flip), (.int .i64 y105.Quarters), (.int .i64 y105.At.X), (.int .i64 y105.At.Y)])) (wn rfl) rfl Try.call53 (evl_cons rfl (evl_cons rfl evl_nil)) (fun W hW => F_etchhouseref9_turnOf_ok N p0 Ap0_0 cp0_0 (hp0_0.ext hW.extAll) Ap0_1 cp0_1 (hp0_1.ext hW.extAll) Ap0_2 cp0_2 (hp0_2.ext hW.extAll) x104 y105 hy105 (HF.start _)) ?_
      refine Tr.store 2 (cs := [(.bool y105.Flip), (.int .i64 y105.Quarters), (.int .i64 y105.At.X), (.int .i64 y105.At.Y)]) [(.bool y105.Flip), (.int .i64 y105.Quarters), (.int .i64 y105.At.X), (.int .i64 y105.At.Y)] (wn rfl) rfl rfl rfl rfl sz_46 rfl rfl rfl ?_
      refine Tr.val (wn rfl) rfl (fun _ _ h1 h2 => run_assign (h1.ev rfl)) ?_
      refine Tr.nil (Tr.normThen ?_)
      refine Tr.ret ?_
      obtain rfl := Option.some.inj H
      exact Tr.out (m := [(.agg #[(.bool y105.Flip), (.int .i64 y105.Quarters), (.int .i64 y105.At.X), (.int .i64 y105.At.Y)]), (.int .i64 0)]) [2] (res_cell rfl rfl ag_46 sz_46 (res_tmp rfl res_nil)) (fun W hW => ⟨rfl, hW.low leB⟩)

theorem F_shape_TurnPoint_ok (N : Nat) {w : Bs} (p0 : TPoint) (p1 : TTurn) (r : TPoint) (H : F_shape_TurnPoint N p0 p1 = some r) (hE : HF w w.W E0) : Calls Try.prog 54 [(.agg #[(.int .i64 p0.X), (.int .i64 p0.Y)]), (.agg #[(.bool p1.Flip), (.int .i64 p1.Quarters), (.int .i64 p1.At.X), (.int .i64 p1.At.Y)])].toArray w.W fun e W' => e = .returned (.agg #[(.int .i64 r.X), (.int .i64 r.Y)]) ∧ HF w W' E0 := by
  unfold F_shape_TurnPoint at H
  have leB := Bs.Le.refl w
  refine Tr.enter (n := 36) Try.func54 rfl rfl rfl hE ?_
  refine Tr.seq ?_
  refine Tr.region ?_
  refine Tr.box 1 (cs := [(.int .i64 p0.X), (.int .i64 p0.Y)]) (wn rfl) rfl rfl rfl fun b100 => ?_
  refine Tr.box 2 (cs := [(.bool p1.Flip), (.int .i64 p1.Quarters), (.int .i64 p1.At.X), (.int .i64 p1.At.Y)]) (wn rfl) rfl rfl rfl fun b101 => ?_
  refine Tr.alloc 3 (wn rfl) rfl ze_32 fun b102 => ?_
  refine Tr.nil (Tr.normThen ?_)
  have leJ104 := Bs.Le.refl w
  refine Tr.cutJ (σ := Int) (fun w s => F_shape_TurnPoint_J2 N p0 p1 s = some r) (fun s => [(2, (.pointer (some ⟨b100, 0, none⟩))), (3, (.pointer (some ⟨b101, 0, none⟩))), (4, (.pointer (some ⟨b102, 0, none⟩)))]) (fun s => [(1, bx b100 #[(.int .i64 s), (.int .i64 p0.Y)] 32), (2, bx b101 #[(.bool p1.Flip), (.int .i64 p1.Quarters), (.int .i64 p1.At.X), (.int .i64 p1.At.Y)] 46), (3, bx b102 #[(.int .i64 0), (.int .i64 0)] 32)]) ?_ ?_
  · refine Tr.seq ?_
    refine Tr.region ?_
    refine Tr.val (wn rfl) rfl (fun _ _ h1 h2 => run_fieldAddr fo_46_0 (h1.ev rfl)) ?_
    refine Tr.val (wn rfl) rfl (fun _ _ h1 h2 => run_load1 ag_4 (h1.ev rfl) (rdb h2 (vs := [(.bool p1.Flip), (.int .i64 p1.Quarters), (.int .i64 p1.At.X), (.int .i64 p1.At.Y)]) (k := 2) rfl 0) rfl) ?_
    refine Tr.nil (Tr.normThen ?_)
    refine Tr.cond rfl H (fun H => ?_) (fun H => ?_)
    · refine Tr.region ?_
      refine Tr.val (wn rfl) rfl (fun _ _ h1 h2 => run_fieldAddr fo_32_0 (h1.ev rfl)) ?_
      refine Tr.val (wn rfl) rfl (fun _ _ h1 h2 => run_load1 ag_3 (h1.ev rfl) (rdb h2 (vs := [(.int .i64 p0.X), (.int .i64 p0.Y)]) (k := 1) rfl 0) rfl) ?_
      refine Tr.val (wn rfl) rfl (fun _ _ h1 h2 => run_neg (h1.ev rfl)) ?_
      refine Tr.val (wn rfl) rfl (fun _ _ h1 h2 => run_fieldAddr fo_32_0 (h1.ev rfl)) ?_
      refine Tr.store 1 (cs := [(.int .i64 (w64 (0 - p0.X)))]) [(.int .i64 (w64 (0 - p0.X))), (.int .i64 p0.Y)] (wn rfl) rfl rfl rfl rfl sz_3 rfl rfl rfl ?_
      refine Tr.nil ?_
      exact Tr.backThen leJ104 (w64 (0 - p0.X)) H (.cons rfl (.cons rfl (.cons rfl .nil))) (.cons rfl (.cons rfl (.cons rfl .nil)))
    · refine Tr.skip ?_
      exact Tr.backThen leJ104 p0.X H (.cons rfl (.cons rfl (.cons rfl .nil))) (.cons rfl (.cons rfl (.cons rfl .nil)))
  · intro w x103 hlJ105 hs
    have H := hs
    replace H : F_shape_TurnPoint_J2 N p0 p1 x103 = some r := H
    replace leB := leB.trans hlJ105
    unfold F_shape_TurnPoint_J2 at H
    show Tr _ _ (LF [(2, (.pointer (some ⟨b100, 0, none⟩))), (3, (.pointer (some ⟨b101, 0, none⟩))), (4, (.pointer (some ⟨b102, 0, none⟩)))]) (LE [(1, bx b100 #[(.int .i64 x103), (.int .i64 p0.Y)] 32), (2, bx b101 #[(.bool p1.Flip), (.int .i64 p1.Quarters), (.int .i64 p1.At.X), (.int .i64 p1.At.Y)] 46), (3, bx b102 #[(.int .i64 0), (.int .i64 0)] 32)]) _
    refine Tr.seq ?_
    refine Tr.seq ?_
    refine Tr.region ?_
    refine Tr.val (wn rfl) rfl (fun _ _ h1 h2 => run_fieldAddr fo_46_1 (h1.ev rfl)) ?_
    refine Tr.val (wn rfl) rfl (fun _ _ h1 h2 => run_load1 ag_3 (h1.ev rfl) (rdb h2 (vs := [(.bool p1.Flip), (.int .i64 p1.Quarters), (.int .i64 p1.At.X), (.int .i64 p1.At.Y)]) (k := 2) rfl 1) rfl) ?_
    refine Tr.val (wn rfl) rfl (fun _ _ h1 h2 => run_move (h1.ev rfl)) ?_
    refine Tr.nil (Tr.normThen ?_)
    refine Tr.block ?_
    refine Tr.loop (σ := Int × Int × Int) (fun m w s => F_shape_TurnPoint_L1 p1 m s.1 s.2.1 s.2.2 = some r) (fun s => [(2, (.pointer (some ⟨b100, 0, none⟩))), (3, (.pointer (some ⟨b101, 0, none⟩))), (4, (.pointer (some ⟨b102, 0, none⟩))), (12, (.int .i64 p1.Quarters)), (13, (.int .i64 s.2.2))]) (fun s => [(1, bx b100 #[(.int .i64 s.1), (.int .i64 s.2.1)] 32), (2, bx b101 #[(.bool p1.Flip), (.int .i64 p1.Quarters), (.int .i64 p1.At.X), (.int .i64 p1.At.Y)] 46), (3, bx b102 #[(.int .i64 0), (.int .i64 0)] 32)]) N (x103, p0.Y, 0) H (.cons rfl (.cons rfl (.cons rfl (.cons rfl (.cons rfl .nil))))) (.cons rfl (.cons rfl (.cons rfl .nil))) (fun _ _ h => noSome (h)) ?_
    intro w leF_shape_TurnPoint_L1 mF_shape_TurnPoint_L1 s hs
    obtain ⟨x115, x116, x117⟩ := s
    have H := hs
    replace H : F_shape_TurnPoint_L1 p1 (mF_shape_TurnPoint_L1 + 1) x115 x116 x117 = some r := H
    replace leB := leB.trans leF_shape_TurnPoint_L1
    rw [F_shape_TurnPoint_L1.eq_2] at H
    show Tr _ _ (LF [(2, (.pointer (some ⟨b100, 0, none⟩))), (3, (.pointer (some ⟨b101, 0, none⟩))), (4, (.pointer (some ⟨b102, 0, none⟩))), (12, (.int .i64 p1.Quarters)), (13, (.int .i64 x117))]) (LE [(1, bx b100 #[(.int .i64 x115), (.int .i64 x116)] 32), (2, bx b101 #[(.bool p1.Flip), (.int .i64 p1.Quarters), (.int .i64 p1.At.X), (.int .i64 p1.At.Y)] 46), (3, bx b102 #[(.int .i64 0), (.int .i64 0)] 32)]) _
    refine Tr.seq ?_
    refine Tr.region ?_
    refine Tr.val (wn rfl) rfl (fun _ _ h1 h2 => run_lss (h1.ev rfl) (h1.ev rfl)) ?_
    refine Tr.nil (Tr.normThen ?_)
    refine Tr.seq ?_
    refine Tr.cond rfl H (fun H => ?_) (fun H => ?_)
    · refine Tr.skip (Tr.normThen ?_)
      refine Tr.seq ?_
      refine Tr.block ?_
      refine Tr.region ?_
      refine Tr.val (wn rfl) rfl (fun _ _ h1 h2 => run_fieldAddr fo_32_1 (h1.ev rfl)) ?_
      refine Tr.val (wn rfl) rfl (fun _ _ h1 h2 => run_load1 ag_3 (h1.ev rfl) (rdb h2 (vs := [(.int .i64 x115), (.int .i64 x116)]) (k := 1) rfl 1) rfl) ?_
      refine Tr.val (wn rfl) rfl (fun _ _ h1 h2 => run_neg (h1.ev rfl)) ?_
      refine Tr.val (wn rfl) rfl (fun _ _ h1 h2 => run_fieldAddr fo_32_0 (h1.ev rfl)) ?_
      refine Tr.val (wn rfl) rfl (fun _ _ h1 h2 => run_load1 ag_3 (h1.ev rfl) (rdb h2 (vs := [(.int .i64 x115), (.int .i64 x116)]) (k := 1) rfl 0) rfl) ?_
      refine Tr.val (wn rfl) rfl (fun _ _ h1 h2 => run_fieldAddr fo_32_0 (h1.ev rfl)) ?_
      refine Tr.store 1 (cs := [(.int .i64 (w64 (0 - x116)))]) [(.int .i64 (w64 (0 - x116))), (.int .i64 x116)] (wn rfl) rfl rfl rfl rfl sz_3 rfl rfl rfl ?_
      refine Tr.val (wn rfl) rfl (fun _ _ h1 h2 => run_fieldAddr fo_32_1 (h1.ev rfl)) ?_
      refine Tr.store 1 (cs := [(.int .i64 x115)]) [(.int .i64 (w64 (0 - x116))), (.int .i64 x115)] (wn rfl) rfl rfl rfl rfl sz_3 rfl rfl rfl ?_
      refine Tr.nil (Tr.normBlock (Tr.normThen ?_))
      refine Tr.region ?_
      refine Tr.val (wn rfl) rfl (fun _ _ h1 h2 => run_add (h1.ev rfl) (h1.ev rfl)) ?_
      refine Tr.val (wn rfl) rfl (fun _ _ h1 h2 => run_move (h1.ev rfl)) ?_
      refine Tr.nil ?_
      exact Tr.backThen leF_shape_TurnPoint_L1 ((w64 (0 - x116)), x115, (w64 (x117 + 1))) H (.cons rfl (.cons rfl (.cons rfl (.cons rfl (.cons rfl .nil))))) (.cons rfl (.cons rfl (.cons rfl .nil)))
    · refine Tr.exit (Tr.exitThen (Tr.exitThen (Tr.exitBlock (Tr.normThen ?_))))
      refine Tr.seq ?_
      refine Tr.region ?_
      refine Tr.val (wn rfl) rfl (fun _ _ h1 h2 => run_fieldAddr fo_32_0 (h1.ev rfl)) ?_
      refine Tr.val (wn rfl) rfl (fun _ _ h1 h2 => run_load1 ag_3 (h1.ev rfl) (rdb h2 (vs := [(.int .i64 x115), (.int .i64 x116)]) (k := 1) rfl 0) rfl) ?_
      refine Tr.val (wn rfl) rfl (fun _ _ h1 h2 => run_fieldAddr fo_46_2 (h1.ev rfl)) ?_
      refine Tr.val (wn rfl) rfl (fun _ _ h1 h2 => run_fieldAddr fo_32_0 (h1.ev rfl)) ?_
      refine Tr.val (wn rfl) rfl (fun _ _ h1 h2 => run_load1 ag_3 (h1.ev rfl) (rdb h2 (vs := [(.bool p1.Flip), (.int .i64 p1.Quarters), (.int .i64 p1.At.X), (.int .i64 p1.At.Y)]) (k := 2) rfl 2) rfl) ?_
      refine Tr.val (wn rfl) rfl (fun _ _ h1 h2 => run_add (h1.ev rfl) (h1.ev rfl)) ?_
      refine Tr.val (wn rfl) rfl (fun _ _ h1 h2 => run_fieldAddr fo_32_1 (h1.ev rfl)) ?_
      refine Tr.val (wn rfl) rfl (fun _ _ h1 h2 => run_load1 ag_3 (h1.ev rfl) (rdb h2 (vs := [(.int .i64 x115), (.int .i64 x116)]) (k := 1) rfl 1) rfl) ?_
      refine Tr.val (wn rfl) rfl (fun _ _ h1 h2 => run_fieldAddr fo_46_2 (h1.ev rfl)) ?_
      refine Tr.val (wn rfl) rfl (fun _ _ h1 h2 => run_fieldAddr fo_32_1 (h1.ev rfl)) ?_
      refine Tr.val (wn rfl) rfl (fun _ _ h1 h2 => run_load1 ag_3 (h1.ev rfl) (rdb h2 (vs := [(.bool p1.Flip), (.int .i64 p1.Quarters), (.int .i64 p1.At.X), (.int .i64 p1.At.Y)]) (k := 2) rfl 3) rfl) ?_
      refine Tr.val (wn rfl) rfl (fun _ _ h1 h2 => run_add (h1.ev rfl) (h1.ev rfl)) ?_
      refine Tr.build (vs := [(0, (.int .i64 (w64 (x115 + p1.At.X)))), (1, (.int .i64 (w64 (x116 + p1.At.Y))))]) (cs := [(.int .i64 (w64 (x115 + p1.At.X))), (.int .i64 (w64 (x116 + p1.At.Y)))]) (wn rfl) rfl (evs_cons rfl (evs_cons rfl evs_nil)) (by kernel_rfl) ?_
      refine Tr.store 3 (cs := [(.int .i64 (w64 (x115 + p1.At.X))), (.int .i64 (w64 (x116 + p1.At.Y)))]) [(.int .i64 (w64 (x115 + p1.At.X))), (.int .i64 (w64 (x116 + p1.At.Y)))] (wn rfl) rfl rfl rfl rfl sz_32 rfl rfl rfl ?_
      refine Tr.nil (Tr.normThen ?_)
      refine Tr.ret ?_
      obtain rfl := Option.some.inj H
      exact Tr.out (m := [(.agg #[(.int .i64 (w64 (x115 + p1.At.X))), (.int .i64 (w64 (x116 + p1.At.Y)))])]) [3] (res_cell rfl rfl ag_32 sz_32 res_nil) (fun W hW => ⟨rfl, hW.low leB⟩)

theorem F_panel_ToPanel_ok (N : Nat) {w : Bs} (p0 : TPanel) (Ap0_0 : Option Addr) (cp0_0 : Nat) (hp0_0 : Sl w.R w.W fl_TBoardKind Ap0_0 cp0_0 p0.Kinds) (Ap0_1 : Option Addr) (cp0_1 : Nat) (hp0_1 : Sl w.R w.W fl_TSlot Ap0_1 cp0_1 p0.Slots) (Ap0_2 : Option Addr) (cp0_2 : Nat) (hp0_2 : Sl w.R w.W fl_TPoint Ap0_2 cp0_2 p0.Marks) (p1 : Int) (p2 : TPoint) (r : (TPoint × Int)) (H : F_panel_ToPanel N p0 p1 p2 = some r) (hE : HF w w.W E0) : Calls Try.prog 22 [(.agg #[(.int .i64 p0.W), (.int .i64 p0.H), (.int .i64 p0.Rail), (.int .i64 p0.Gap), (.slice Ap0_0 (p0.Kinds).length cp0_0), (.slice Ap0_1 (p0.Slots).length cp0_1), (.slice Ap0_2 (p0.Marks).length cp0_2)]), (.int .i64 p1), (.agg #[(.int .i64 p2.X), (.int .i64 p2.Y)])].toArray w.W fun e W' => e = .returned (.tuple #[(.agg #[(.int .i64 r.1.X), (.int .i64 r.1.Y)]), (.int .i64 r.2)]) ∧ HF w W' E0 := by
  unfold F_panel_ToPanel at H
  have leB := Bs.Le.refl w
  refine Tr.enter (n := 51) Try.func22 rfl rfl rfl hE ?_
  refine Tr.seq ?_
  refine Tr.region ?_
  refine Tr.box 1 (cs := [(.int .i64 p0.W), (.int .i64 p0.H), (.int .i64 p0.Rail), (.int .i64 p0.Gap), (.slice Ap0_0 (p0.Kinds).length cp0_0), (.slice Ap0_1 (p0.Slots).length cp0_1), (.slice Ap0_2 (p0.Marks).length cp0_2)]) (wn rfl) rfl rfl rfl fun b100 => ?_
  refine Tr.box 2 (cs := [(.int .i64 p2.X), (.int .i64 p2.Y)]) (wn rfl) rfl rfl rfl fun b101 => ?_
  refine Tr.alloc 3 (wn rfl) rfl ze_32 fun b102 => ?_
  refine Tr.val (wn rfl) rfl (fun _ _ h1 h2 => run_assign (h1.ev rfl)) ?_
  refine Tr.nil (Tr.normThen ?_)
  refine Tr.seq ?_
  refine Tr.region ?_
  refine Tr.val (wn rfl) rfl (fun _ _ h1 h2 => run_loadN (cs := [(.int .i64 p0.W), (.int .i64 p0.H), (.int .i64 p0.Rail), (.int .i64 p0.Gap), (.slice Ap0_0 (p0.Kinds).length cp0_0), (.slice Ap0_1 (p0.Slots).length cp0_1), (.slice Ap0_2 (p0.Marks).length cp0_2)]) ag_26 sz_26 (h1.ev rfl) (CellsAt.take (rdb h2 (vs := [(.int .i64 p0.W), (.int .i64 p0.H), (.int .i64 p0.Rail), (.int .i64 p0.Gap), (.slice Ap0_0 (p0.Kinds).length cp0_0), (.slice Ap0_1 (p0.Slots).length cp0_1), (.slice Ap0_2 (p0.Marks).length cp0_2)]) (k := 1) rfl 0) 7) rfl) ?_
  refine Tr.val (wn rfl) rfl (fun _ _ h1 h2 => run_move (h1.ev rfl)) ?_
  obtain ⟨y103, hy103, H⟩ := bnd H
  refine Tr.call0 (r := (.tuple #[(.agg #[(.bool y103.1.Flip), (.int .i64 y103.1.Quarters), (.int .i64 y103.1.At.X), (.int .i64 y103.1.At.Y)]), (.int .i64 y103.2)])) (wn rfl) rfl Try.call20 (evl_cons rfl (evl_cons rfl evl_nil)) (fun W hW => F_panel_SlotTurn_ok N p0 Ap0_0 cp0_0 (hp0_0.ext hW.extAll) Ap0_1 cp0_1 (hp0_1.ext hW.extAll) Ap0_2 cp0_2 (hp0_2.ext hW.extAll) p1 y103 hy103 (HF.start _)) ?_
  refine Tr.val (wn rfl) rfl (fun _ _ h1 h2 => run_move (h1.ev rfl)) ?_
  refine Tr.val (wn rfl) rfl (fun _ _ h1 h2 => run_extract (h1.ev rfl) rfl) ?_
  refine Tr.val (wn rfl) rfl (fun _ _ h1 h2 => run_extract (h1.ev rfl) rfl) ?_
  refine Tr.alloc 4 (wn rfl) rfl ze_46 fun b104 => ?_
  refine Tr.store 4 (cs := [(.bool y103.1.Flip), (.int .i64 y103.1.Quarters), (.int .i64 y103.1.At.X), (.int .i64 y103.1.At.Y)]) [(.bool y103.1.Flip), (.int .i64 y103.1.Quarters), (.int .i64 y103.1.At.X), (.int .i64 y103.1.At.Y)] (wn rfl) rfl rfl rfl rfl sz_46 rfl rfl rfl ?_
  refine Tr.val (wn rfl) rfl (fun _ _ h1 h2 => run_assign (h1.ev rfl)) ?_
  refine Tr.nil (Tr.normThen ?_)
  refine Tr.seq ?_
  refine Tr.seq ?_
  refine Tr.region ?_
  refine Tr.val (wn rfl) rfl (fun _ _ h1 h2 => run_move (h1.ev rfl)) ?_
  refine Tr.val (wn rfl) rfl (fun _ _ h1 h2 => run_neq (h1.ev rfl) (h1.ev rfl)) ?_
  refine Tr.nil (Tr.normThen ?_)
  refine Tr.cond rfl H (fun H => ?_) (fun H => ?_)
  · refine Tr.seq ?_
    refine Tr.region ?_
    refine Tr.build (vs := []) (cs := [(.int .i64 0), (.int .i64 0)]) (wn rfl) rfl evs_nil (by kernel_rfl) ?_
    refine Tr.val (wn rfl) rfl (fun _ _ h1 h2 => run_move (h1.ev rfl)) ?_
    refine Tr.store 3 (cs := [(.int .i64 0), (.int .i64 0)]) [(.int .i64 0), (.int .i64 0)] (wn rfl) rfl rfl rfl rfl sz_32 rfl rfl rfl ?_
    refine Tr.val (wn rfl) rfl (fun _ _ h1 h2 => run_assign (h1.ev rfl)) ?_
    refine Tr.nil (Tr.normThen ?_)
    refine Tr.ret (Tr.retThen ?_)
    obtain rfl := Option.some.inj H
    exact Tr.out (m := [(.agg #[(.int .i64 0), (.int .i64 0)]), (.int .i64 y103.2)]) [3] (res_cell rfl rfl ag_32 sz_32 (res_tmp rfl res_nil)) (fun W hW => ⟨rfl, hW.low leB⟩)
  · refine Tr.skip (Tr.normThen ?_)
    refine Tr.seq ?_
    refine Tr.seq ?_
    obtain ⟨x106, hx106, H⟩ := bnd H
    obtain ⟨hx1060, hx1061, hx1062⟩ := idx_some hx106
    obtain ⟨y107, hy107, H⟩ := bnd H
    obtain ⟨x108, hx108, H⟩ := bnd H
    obtain ⟨hx1080, hx1081, hx1082⟩ := idx_some hx108
    refine Tr.drawF 13 [(12, .makeFunc (.func 0) #[] #[])] [(12, ⟨10, 5, (.func (.func 0) #[] #[]), fun b => .pointer (some ⟨b, 0, none⟩), fun b => bx b #[(.string ⟨#[]⟩), (.int .i64 0), (.int .i64 0)] 82⟩)] [(0, (.agg #[(.int .i64 p0.W), (.int .i64 p0.H), (.int .i64 p0.Rail), (.int .i64 p0.Gap), (.slice Ap0_0 (p0.Kinds).length cp0_0), (.slice Ap0_1 (p0.Slots).length cp0_1), (.slice Ap0_2 (p0.Marks).length cp0_2)])), (1, (.int .i64 p1)), (2, (.agg #[(.int .i64 p2.X), (.int .i64 p2.Y)])), (3, (.pointer (some ⟨b100, 0, none⟩))), (5, (.pointer (some ⟨b101, 0, none⟩))), (6, (.pointer (some ⟨b102, 0, none⟩))), (7, (.int .i64 0)), (8, (.pointer (some ⟨b104, 0, none⟩))), (9, (.int .i64 y103.2)), (10, (.func (.func 0) #[] #[])), (11, (.tuple #[(.agg #[(.bool y103.1.Flip), (.int .i64 y103.1.Quarters), (.int .i64 y103.1.At.X), (.int .i64 y103.1.At.Y)]), (.int .i64 y103.2)])), (12, (.agg #[(.int .i64 p0.W), (.int .i64 p0.H), (.int .i64 p0.Rail), (.int .i64 p0.Gap), (.slice Ap0_0 (p0.Kinds).length cp0_0), (.slice Ap0_1 (p0.Slots).length cp0_1), (.slice Ap0_2 (p0.Marks).length cp0_2)])), (13, (.int .i64 p1)), (14, (.tuple #[(.agg #[(.bool y103.1.Flip), (.int .i64 y103.1.Quarters), (.int .i64 y103.1.At.X), (.int .i64 y103.1.At.Y)]), (.int .i64 y103.2)])), (15, (.agg #[(.bool y103.1.Flip), (.int .i64 y103.1.Quarters), (.int .i64 y103.1.At.X), (.int .i64 y103.1.At.Y)])), (16, (.int .i64 y103.2)), (17, (.int .i64 y103.2)), (18, (.bool (y103.2 != 0))), (21, (.pointer (some ⟨b100, 4, none⟩))), (22, (.slice Ap0_0 (p0.Kinds).length cp0_0)), (23, (.agg #[(.int .i64 p0.W), (.int .i64 p0.H), (.int .i64 p0.Rail), (.int .i64 p0.Gap), (.slice Ap0_0 (p0.Kinds).length cp0_0), (.slice Ap0_1 (p0.Slots).length cp0_1), (.slice Ap0_2 (p0.Marks).length cp0_2)])), (24, (.pointer (some ⟨b100, 5, none⟩))), (25, (.slice Ap0_1 (p0.Slots).length cp0_1)), (26, (.int .i64 p1)), (27, (.pointer (some ⟨adB Ap0_1, adO Ap0_1 + (p1).toNat * 4, none⟩))), (28, (.pointer (some ⟨adB Ap0_1, adO Ap0_1 + (p1).toNat * 4 + 0, none⟩))), (29, (.string x106.Board)), (30, (.int .i64 y107)), (31, (.pointer (some ⟨adB Ap0_0, adO Ap0_0 + (y107).toNat * 3, none⟩))), (32, (.agg #[(.string x108.Name), (.int .i64 x108.W), (.int .i64 x108.H)]))] (by kernel_rfl) (by kernel_rfl) (by kernel_rfl) (by kernel_rfl) (by kernel_rfl) (by kernel_rfl) (by kernel_rfl) (fall_cons (fr_alloc rfl rfl ze_82) fall_nil) (fall_cons rfl fall_nil) (fall_cons rfl fall_nil) ?_ ?_
    · refine Tq.val (wn rfl) rfl (fun _ _ h1 h2 => run_fieldAddr fo_26_4 (h1.ev rfl)) ?_
      refine Tq.val (wn rfl) rfl (fun _ _ h1 h2 => run_load1 ag_22 (h1.ev rfl) (rdb h2 (vs := [(.int .i64 p0.W), (.int .i64 p0.H), (.int .i64 p0.Rail), (.int .i64 p0.Gap), (.slice Ap0_0 (p0.Kinds).length cp0_0), (.slice Ap0_1 (p0.Slots).length cp0_1), (.slice Ap0_2 (p0.Marks).length cp0_2)]) (k := 1) rfl 4) rfl) ?_
      refine Tq.val (wn rfl) rfl (fun _ _ h1 h2 => run_loadN (cs := [(.int .i64 p0.W), (.int .i64 p0.H), (.int .i64 p0.Rail), (.int .i64 p0.Gap), (.slice Ap0_0 (p0.Kinds).length cp0_0), (.slice Ap0_1 (p0.Slots).length cp0_1), (.slice Ap0_2 (p0.Marks).length cp0_2)]) ag_26 sz_26 (h1.ev rfl) (CellsAt.take (rdb h2 (vs := [(.int .i64 p0.W), (.int .i64 p0.H), (.int .i64 p0.Rail), (.int .i64 p0.Gap), (.slice Ap0_0 (p0.Kinds).length cp0_0), (.slice Ap0_1 (p0.Slots).length cp0_1), (.slice Ap0_2 (p0.Marks).length cp0_2)]) (k := 1) rfl 0) 7) rfl) ?_
      refine Tq.val (wn rfl) rfl (fun _ _ h1 h2 => run_fieldAddr fo_26_5 (h1.ev rfl)) ?_
      refine Tq.val (wn rfl) rfl (fun _ _ h1 h2 => run_load1 ag_23 (h1.ev rfl) (rdb h2 (vs := [(.int .i64 p0.W), (.int .i64 p0.H), (.int .i64 p0.Rail), (.int .i64 p0.Gap), (.slice Ap0_0 (p0.Kinds).length cp0_0), (.slice Ap0_1 (p0.Slots).length cp0_1), (.slice Ap0_2 (p0.Marks).length cp0_2)]) (k := 1) rfl 5) rfl) ?_
      refine Tq.val (wn rfl) rfl (fun _ _ h1 h2 => run_move (h1.ev rfl)) ?_
      refine Tq.val (wn rfl) rfl (fun _ _ h1 h2 => run_indexAddr el_23 (h1.ev rfl) hp0_1.form (h1.ev rfl) hx1060 hx1061) ?_
      refine Tq.val (wn rfl) rfl (fun _ _ h1 h2 => run_fieldAddr fo_34_0 (h1.ev rfl)) ?_
      refine Tq.val (wn rfl) rfl (fun _ _ h1 h2 => run_load1 ag_9 (h1.ev rfl) (CellsAt.drop (rdF ef_TSlot hp0_1 hx1062 h2) 0) rfl) ?_
      refine Tq.call0 (r := (.int .i64 y107)) (wn rfl) rfl Try.call45 (evl_cons rfl (evl_cons rfl evl_nil)) (fun W hW => F_panel_kindAt_ok p0 Ap0_0 cp0_0 (hp0_0.ext hW.extAll) Ap0_1 cp0_1 (hp0_1.ext hW.extAll) Ap0_2 cp0_2 (hp0_2.ext hW.extAll) x106.Board y107 hy107 (HF.start _)) ?_
      refine Tq.val (wn rfl) rfl (fun _ _ h1 h2 => run_indexAddr el_22 (h1.ev rfl) hp0_0.form (h1.ev rfl) hx1080 hx1081) ?_
      refine Tq.val (wn rfl) rfl (fun _ _ h1 h2 => run_loadN (cs := [(.string x108.Name), (.int .i64 x108.W), (.int .i64 x108.H)]) ag_82 sz_82 (h1.ev rfl) (CellsAt.take (rdF ef_TBoardKind hp0_0 hx1082 h2) 3) rfl) ?_
      refine Tq.mkFunc (vs := []) (wn rfl) rfl evl_nil ?_
      exact Tq.fin (.cons rfl (.cons rfl (.cons rfl (.cons rfl (.cons rfl (.cons rfl (.cons rfl (.cons rfl (.cons rfl (.cons rfl (.cons rfl (.cons rfl (.cons rfl (.cons rfl (.cons rfl (.cons rfl (.cons rfl (.cons rfl (.cons rfl (.cons rfl (.cons rfl (.cons rfl (.cons rfl (.cons rfl (.cons rfl (.cons rfl (.cons rfl (.cons rfl (.cons rfl (.cons rfl .nil))))))))))))))))))))))))))))))
    · intro bs105
      refine Tr.sel (lf := [(5, (.pointer (some ⟨b101, 0, none⟩))), (6, (.pointer (some ⟨b102, 0, none⟩))), (8, (.pointer (some ⟨b104, 0, none⟩))), (10, (.pointer (some ⟨(bs105 12), 0, none⟩))), (32, (.agg #[(.string x108.Name), (.int .i64 x108.W), (.int .i64 x108.H)]))]) (le := [(1, bx b100 #[(.int .i64 p0.W), (.int .i64 p0.H), (.int .i64 p0.Rail), (.int .i64 p0.Gap), (.slice Ap0_0 (p0.Kinds).length cp0_0), (.slice Ap0_1 (p0.Slots).length cp0_1), (.slice Ap0_2 (p0.Marks).length cp0_2)] 26), (2, bx b101 #[(.int .i64 p2.X), (.int .i64 p2.Y)] 32), (3, bx b102 #[(.int .i64 0), (.int .i64 0)] 32), (4, bx b104 #[(.bool y103.1.Flip), (.int .i64 y103.1.Quarters), (.int .i64 y103.1.At.X), (.int .i64 y103.1.At.Y)] 46), (5, bx (bs105 12) #[(.string ⟨#[]⟩), (.int .i64 0), (.int .i64 0)] 82)]) (.cons rfl (.cons rfl (.cons rfl (.cons rfl (.cons rfl .nil))))) (.cons rfl (.cons rfl (.cons rfl (.cons rfl (.cons rfl .nil))))) ?_
      refine Tr.store 5 (cs := [(.string x108.Name), (.int .i64 x108.W), (.int .i64 x108.H)]) [(.string x108.Name), (.int .i64 x108.W), (.int .i64 x108.H)] (wn rfl) rfl rfl rfl rfl sz_82 rfl rfl rfl ?_
      refine Tr.nil (Tr.normThen ?_)
      refine Tr.seq ?_
      refine Tr.region ?_
      refine Tr.val (wn rfl) rfl (fun _ _ h1 h2 => run_fieldAddr fo_32_0 (h1.ev rfl)) ?_
      refine Tr.val (wn rfl) rfl (fun _ _ h1 h2 => run_load1 ag_3 (h1.ev rfl) (rdb h2 (vs := [(.int .i64 p2.X), (.int .i64 p2.Y)]) (k := 2) rfl 0) rfl) ?_
      refine Tr.val (wn rfl) rfl (fun _ _ h1 h2 => run_fieldAddr fo_82_1 (h1.ev rfl)) ?_
      refine Tr.val (wn rfl) rfl (fun _ _ h1 h2 => run_load1 ag_3 (h1.ev rfl) (rdb h2 (vs := [(.string x108.Name), (.int .i64 x108.W), (.int .i64 x108.H)]) (k := 5) rfl 1) rfl) ?_
      obtain ⟨y109, hy109, H⟩ := bnd H
      refine Tr.call0 (r := (.bool y109)) (wn rfl) rfl Try.call46 (evl_cons rfl (evl_cons rfl (evl_cons rfl evl_nil))) (fun W hW => F_panel_within_ok p2.X 0 x108.W y109 hy109 (HF.start _)) ?_
      refine Tr.val (wn rfl) rfl (fun _ _ h1 h2 => run_not (h1.ev rfl)) ?_
      refine Tr.val (wn rfl) rfl (fun _ _ h1 h2 => run_move (h1.ev rfl)) ?_
      obtain ⟨g111, hg111, H⟩ := bnd H
      refine Tr.mid0 7 [(5, (.pointer (some ⟨b101, 0, none⟩))), (6, (.pointer (some ⟨b102, 0, none⟩))), (8, (.pointer (some ⟨b104, 0, none⟩))), (46, (.bool g111))] [(1, bx b100 #[(.int .i64 p0.W), (.int .i64 p0.H), (.int .i64 p0.Rail), (.int .i64 p0.Gap), (.slice Ap0_0 (p0.Kinds).length cp0_0), (.slice Ap0_1 (p0.Slots).length cp0_1), (.slice Ap0_2 (p0.Marks).length cp0_2)] 26), (2, bx b101 #[(.int .i64 p2.X), (.int .i64 p2.Y)] 32), (3, bx b102 #[(.int .i64 0), (.int .i64 0)] 32), (4, bx b104 #[(.bool y103.1.Flip), (.int .i64 y103.1.Quarters), (.int .i64 y103.1.At.X), (.int .i64 y103.1.At.Y)] 46), (5, bx (bs105 12) #[(.string x108.Name), (.int .i64 x108.W), (.int .i64 x108.H)] 82)] ?_ ?_
      · cases hg113 : (!y109)
        · rw [hg113] at hg111
          rw [if_neg (by decide)] at hg111
          have H := hg111
          refine Tr.val (wg rfl rfl rfl) rfl (fun _ _ h1 h2 => run_fieldAddr fo_32_1 (h1.ev rfl)) ?_
          refine Tr.val (wg rfl rfl rfl) rfl (fun _ _ h1 h2 => run_load1 ag_3 (h1.ev rfl) (rdb h2 (vs := [(.int .i64 p2.X), (.int .i64 p2.Y)]) (k := 2) rfl 1) rfl) ?_
          refine Tr.val (wg rfl rfl rfl) rfl (fun _ _ h1 h2 => run_fieldAddr fo_82_2 (h1.ev rfl)) ?_
          refine Tr.val (wg rfl rfl rfl) rfl (fun _ _ h1 h2 => run_load1 ag_3 (h1.ev rfl) (rdb h2 (vs := [(.string x108.Name), (.int .i64 x108.W), (.int .i64 x108.H)]) (k := 5) rfl 2) rfl) ?_
          obtain ⟨y112, hy112, H⟩ := bnd H
          refine Tr.call0 (r := (.bool y112)) (wg rfl rfl rfl) rfl Try.call46 (evl_cons rfl (evl_cons rfl (evl_cons rfl evl_nil))) (fun W hW => F_panel_within_ok p2.Y 0 x108.H y112 hy112 (HF.start _)) ?_
          refine Tr.val (wg rfl rfl rfl) rfl (fun _ _ h1 h2 => run_not (h1.ev rfl)) ?_
          refine Tr.val (wn rfl) rfl (fun _ _ h1 h2 => run_pickF (h1.ev rfl) (h1.ev rfl)) ?_
          obtain rfl := Option.some.inj H
          exact Tr.nil (Tr.fin0 (.cons rfl (.cons rfl (.cons rfl (.cons rfl .nil)))) (.cons rfl (.cons rfl (.cons rfl (.cons rfl (.cons rfl .nil))))))
        · rw [hg113] at hg111
          rw [if_pos rfl] at hg111
          have H := hg111
          obtain rfl := Option.some.inj H
          refine Tr.pass rfl rfl rfl rfl rfl (by decide) ?_
          refine Tr.pass rfl rfl rfl rfl rfl (by decide) ?_
          refine Tr.pass rfl rfl rfl rfl rfl (by decide) ?_
          refine Tr.pass rfl rfl rfl rfl rfl (by decide) ?_
          refine Tr.pass rfl rfl rfl rfl rfl (by decide) ?_
          refine Tr.pass rfl rfl rfl rfl rfl (by decide) ?_
          refine Tr.val (wn rfl) rfl (fun _ _ h1 h2 => run_pickT (h1.ev rfl) (h1.ev rfl)) ?_
          exact Tr.nil (Tr.fin0 (.cons rfl (.cons rfl (.cons rfl (.cons rfl .nil)))) (.cons rfl (.cons rfl (.cons rfl (.cons rfl (.cons rfl .nil))))))
      · show Tr _ _ (LF [(5, (.pointer (some ⟨b101, 0, none⟩))), (6, (.pointer (some ⟨b102, 0, none⟩))), (8, (.pointer (some ⟨b104, 0, none⟩))), (46, (.bool g111))]) (LE [(1, bx b100 #[(.int .i64 p0.W), (.int .i64 p0.H), (.int .i64 p0.Rail), (.int .i64 p0.Gap), (.slice Ap0_0 (p0.Kinds).length cp0_0), (.slice Ap0_1 (p0.Slots).length cp0_1), (.slice Ap0_2 (p0.Marks).length cp0_2)] 26), (2, bx b101 #[(.int .i64 p2.X), (.int .i64 p2.Y)] 32), (3, bx b102 #[(.int .i64 0), (.int .i64 0)] 32), (4, bx b104 #[(.bool y103.1.Flip), (.int .i64 y103.1.Quarters), (.int .i64 y103.1.At.X), (.int .i64 y103.1.At.Y)] 46), (5, bx (bs105 12) #[(.string x108.Name), (.int .i64 x108.W), (.int .i64 x108.H)] 82)]) _
        refine Tr.nil (Tr.normThen ?_)
        refine Tr.cond rfl H (fun H => ?_) (fun H => ?_)
        · refine Tr.seq ?_
          refine Tr.region ?_
          refine Tr.build (vs := []) (cs := [(.int .i64 0), (.int .i64 0)]) (wn rfl) rfl evs_nil (by kernel_rfl) ?_
          refine Tr.store 3 (cs := [(.int .i64 0), (.int .i64 0)]) [(.int .i64 0), (.int .i64 0)] (wn rfl) rfl rfl rfl rfl sz_32 rfl rfl rfl ?_
          refine Tr.val (wn rfl) rfl (fun _ _ h1 h2 => run_assign (h1.ev rfl)) ?_
          refine Tr.nil (Tr.normThen ?_)
          refine Tr.ret (Tr.retThen ?_)
          obtain rfl := Option.some.inj H
          exact Tr.out (m := [(.agg #[(.int .i64 0), (.int .i64 0)]), (.int .i64 1)]) [3] (res_cell rfl rfl ag_32 sz_32 (res_tmp rfl res_nil)) (fun W hW => ⟨rfl, hW.low leB⟩)
        · refine Tr.skip (Tr.normThen ?_)
          refine Tr.seq ?_
          refine Tr.region ?_
          refine Tr.val (wn rfl) rfl (fun _ _ h1 h2 => run_loadN (cs := [(.int .i64 p2.X), (.int .i64 p2.Y)]) ag_32 sz_32 (h1.ev rfl) (CellsAt.take (rdb h2 (vs := [(.int .i64 p2.X), (.int .i64 p2.Y)]) (k := 2) rfl 0) 2) rfl) ?_
          refine Tr.val (wn rfl) rfl (fun _ _ h1 h2 => run_loadN (cs := [(.bool y103.1.Flip), (.int .i64 y103.1.Quarters), (.int .i64 y103.1.At.X), (.int .i64 y103.1.At.Y)]) ag_46 sz_46 (h1.ev rfl) (CellsAt.take (rdb h2 (vs := [(.bool y103.1.Flip), (.int .i64 y103.1.Quarters), (.int .i64 y103.1.At.X), (.int .i64 y103.1.At.Y)]) (k := 4) rfl 0) 4) rfl) ?_
          obtain ⟨y113, hy113, H⟩ := bnd H
          refine Tr.call0 (r := (.agg #[(.int .i64 y113.X), (.int .i64 y113.Y)])) (wn rfl) rfl Try.call54 (evl_cons rfl (evl_cons rfl evl_nil)) (fun W hW => F_shape_TurnPoint_ok N p2 y103.1 y113 hy113 (HF.start _)) ?_
          refine Tr.store 3 (cs := [(.int .i64 y113.X), (.int .i64 y113.Y)]) [(.int .i64 y113.X), (.int .i64 y113.Y)] (wn rfl) rfl rfl rfl rfl sz_32 rfl rfl rfl ?_
          refine Tr.val (wn rfl) rfl (fun _ _ h1 h2 => run_assign (h1.ev rfl)) ?_
          refine Tr.nil (Tr.normThen ?_)
          refine Tr.ret ?_
          obtain rfl := Option.some.inj H
          exact Tr.out (m := [(.agg #[(.int .i64 y113.X), (.int .i64 y113.Y)]), (.int .i64 0)]) [3] (res_cell rfl rfl ag_32 sz_32 (res_tmp rfl res_nil)) (fun W hW => ⟨rfl, hW.low leB⟩)

theorem F_etchhouseref1_around_ok (N : Nat) {w : Bs} (p0 : TPoint) (p1 : TTurn) (r : TPoint) (H : F_etchhouseref1_around N p0 p1 = some r) (hE : HF w w.W E0) : Calls Try.prog 98 [(.agg #[(.int .i64 p0.X), (.int .i64 p0.Y)]), (.agg #[(.bool p1.Flip), (.int .i64 p1.Quarters), (.int .i64 p1.At.X), (.int .i64 p1.At.Y)])].toArray w.W fun e W' => e = .returned (.agg #[(.int .i64 r.X), (.int .i64 r.Y)]) ∧ HF w W' E0 := by
  unfold F_etchhouseref1_around at H
  have leB := Bs.Le.refl w
  refine Tr.enter (n := 23) Try.func98 rfl rfl rfl hE ?_
  refine Tr.seq ?_
  refine Tr.region ?_
  refine Tr.box 1 (cs := [(.int .i64 p0.X), (.int .i64 p0.Y)]) (wn rfl) rfl rfl rfl fun b100 => ?_
  refine Tr.box 2 (cs := [(.bool p1.Flip), (.int .i64 p1.Quarters), (.int .i64 p1.At.X), (.int .i64 p1.At.Y)]) (wn rfl) rfl rfl rfl fun b101 => ?_
  refine Tr.alloc 3 (wn rfl) rfl ze_32 fun b102 => ?_
  refine Tr.nil (Tr.normThen ?_)
  have leJ104 := Bs.Le.refl w
  refine Tr.cutJ (σ := Int) (fun w s => F_etchhouseref1_around_J2 N p0 p1 s = some r) (fun s => [(2, (.pointer (some ⟨b100, 0, none⟩))), (3, (.pointer (some ⟨b101, 0, none⟩))), (4, (.pointer (some ⟨b102, 0, none⟩)))]) (fun s => [(1, bx b100 #[(.int .i64 s), (.int .i64 p0.Y)] 32), (2, bx b101 #[(.bool p1.Flip), (.int .i64 p1.Quarters), (.int .i64 p1.At.X), (.int .i64 p1.At.Y)] 46), (3, bx b102 #[(.int .i64 0), (.int .i64 0)] 32)]) ?_ ?_
  · refine Tr.seq ?_
    refine Tr.region ?_
    refine Tr.val (wn rfl) rfl (fun _ _ h1 h2 => run_fieldAddr fo_46_0 (h1.ev rfl)) ?_
    refine Tr.val (wn rfl) rfl (fun _ _ h1 h2 => run_load1 ag_4 (h1.ev rfl) (rdb h2 (vs := [(.bool p1.Flip), (.int .i64 p1.Quarters), (.int .i64 p1.At.X), (.int .i64 p1.At.Y)]) (k := 2) rfl 0) rfl) ?_
    refine Tr.nil (Tr.normThen ?_)
    refine Tr.cond rfl H (fun H => ?_) (fun H => ?_)
    · refine Tr.region ?_
      refine Tr.val (wn rfl) rfl (fun _ _ h1 h2 => run_fieldAddr fo_32_0 (h1.ev rfl)) ?_
      refine Tr.val (wn rfl) rfl (fun _ _ h1 h2 => run_load1 ag_3 (h1.ev rfl) (rdb h2 (vs := [(.int .i64 p0.X), (.int .i64 p0.Y)]) (k := 1) rfl 0) rfl) ?_
      refine Tr.val (wn rfl) rfl (fun _ _ h1 h2 => run_neg (h1.ev rfl)) ?_
      refine Tr.val (wn rfl) rfl (fun _ _ h1 h2 => run_fieldAddr fo_32_0 (h1.ev rfl)) ?_
      refine Tr.store 1 (cs := [(.int .i64 (w64 (0 - p0.X)))]) [(.int .i64 (w64 (0 - p0.X))), (.int .i64 p0.Y)] (wn rfl) rfl rfl rfl rfl sz_3 rfl rfl rfl ?_
      refine Tr.nil ?_
      exact Tr.backThen leJ104 (w64 (0 - p0.X)) H (.cons rfl (.cons rfl (.cons rfl .nil))) (.cons rfl (.cons rfl (.cons rfl .nil)))
    · refine Tr.skip ?_
      exact Tr.backThen leJ104 p0.X H (.cons rfl (.cons rfl (.cons rfl .nil))) (.cons rfl (.cons rfl (.cons rfl .nil)))
  · intro w x103 hlJ105 hs
    have H := hs
    replace H : F_etchhouseref1_around_J2 N p0 p1 x103 = some r := H
    replace leB := leB.trans hlJ105
    unfold F_etchhouseref1_around_J2 at H
    show Tr _ _ (LF [(2, (.pointer (some ⟨b100, 0, none⟩))), (3, (.pointer (some ⟨b101, 0, none⟩))), (4, (.pointer (some ⟨b102, 0, none⟩)))]) (LE [(1, bx b100 #[(.int .i64 x103), (.int .i64 p0.Y)] 32), (2, bx b101 #[(.bool p1.Flip), (.int .i64 p1.Quarters), (.int .i64 p1.At.X), (.int .i64 p1.At.Y)] 46), (3, bx b102 #[(.int .i64 0), (.int .i64 0)] 32)]) _
    refine Tr.seq ?_
    refine Tr.seq ?_
    refine Tr.region ?_
    refine Tr.val (wn rfl) rfl (fun _ _ h1 h2 => run_fieldAddr fo_46_1 (h1.ev rfl)) ?_
    refine Tr.val (wn rfl) rfl (fun _ _ h1 h2 => run_load1 ag_3 (h1.ev rfl) (rdb h2 (vs := [(.bool p1.Flip), (.int .i64 p1.Quarters), (.int .i64 p1.At.X), (.int .i64 p1.At.Y)]) (k := 2) rfl 1) rfl) ?_
    refine Tr.val (wn rfl) rfl (fun _ _ h1 h2 => run_move (h1.ev rfl)) ?_
    refine Tr.nil (Tr.normThen ?_)
    refine Tr.block ?_
    refine Tr.loop (σ := Int × Int × Int) (fun m w s => F_etchhouseref1_around_L1 p1 m s.1 s.2.1 s.2.2 = some r) (fun s => [(2, (.pointer (some ⟨b100, 0, none⟩))), (4, (.pointer (some ⟨b102, 0, none⟩))), (12, (.int .i64 p1.Quarters)), (13, (.int .i64 s.2.2))]) (fun s => [(1, bx b100 #[(.int .i64 s.1), (.int .i64 s.2.1)] 32), (3, bx b102 #[(.int .i64 0), (.int .i64 0)] 32)]) N (x103, p0.Y, 0) H (.cons rfl (.cons rfl (.cons rfl (.cons rfl .nil)))) (.cons rfl (.cons rfl .nil)) (fun _ _ h => noSome (h)) ?_
    intro w leF_etchhouseref1_around_L1 mF_etchhouseref1_around_L1 s hs
    obtain ⟨x115, x116, x117⟩ := s
    have H := hs
    replace H : F_etchhouseref1_around_L1 p1 (mF_etchhouseref1_around_L1 + 1) x115 x116 x117 = some r := H
    replace leB := leB.trans leF_etchhouseref1_around_L1
    rw [F_etchhouseref1_around_L1.eq_2] at H
    show Tr _ _ (LF [(2, (.pointer (some ⟨b100, 0, none⟩))), (4, (.pointer (some ⟨b102, 0, none⟩))), (12, (.int .i64 p1.Quarters)), (13, (.int .i64 x117))]) (LE [(1, bx b100 #[(.int .i64 x115), (.int .i64 x116)] 32), (3, bx b102 #[(.int .i64 0), (.int .i64 0)] 32)]) _
    refine Tr.seq ?_
    refine Tr.region ?_
    refine Tr.val (wn rfl) rfl (fun _ _ h1 h2 => run_lss (h1.ev rfl) (h1.ev rfl)) ?_
    refine Tr.nil (Tr.normThen ?_)
    refine Tr.seq ?_
    refine Tr.cond rfl H (fun H => ?_) (fun H => ?_)
    · refine Tr.skip (Tr.normThen ?_)
      refine Tr.seq ?_
      refine Tr.block ?_
      refine Tr.region ?_
      refine Tr.val (wn rfl) rfl (fun _ _ h1 h2 => run_fieldAddr fo_32_1 (h1.ev rfl)) ?_
      refine Tr.val (wn rfl) rfl (fun _ _ h1 h2 => run_load1 ag_3 (h1.ev rfl) (rdb h2 (vs := [(.int .i64 x115), (.int .i64 x116)]) (k := 1) rfl 1) rfl) ?_
      refine Tr.val (wn rfl) rfl (fun _ _ h1 h2 => run_neg (h1.ev rfl)) ?_
      refine Tr.val (wn rfl) rfl (fun _ _ h1 h2 => run_fieldAddr fo_32_0 (h1.ev rfl)) ?_
      refine Tr.val (wn rfl) rfl (fun _ _ h1 h2 => run_load1 ag_3 (h1.ev rfl) (rdb h2 (vs := [(.int .i64 x115), (.int .i64 x116)]) (k := 1) rfl 0) rfl) ?_
      refine Tr.build (vs := [(0, (.int .i64 (w64 (0 - x116)))), (1, (.int .i64 x115))]) (cs := [(.int .i64 (w64 (0 - x116))), (.int .i64 x115)]) (wn rfl) rfl (evs_cons rfl (evs_cons rfl evs_nil)) (by kernel_rfl) ?_
      refine Tr.store 1 (cs := [(.int .i64 (w64 (0 - x116))), (.int .i64 x115)]) [(.int .i64 (w64 (0 - x116))), (.int .i64 x115)] (wn rfl) rfl rfl rfl rfl sz_32 rfl rfl rfl ?_
      refine Tr.nil (Tr.normBlock (Tr.normThen ?_))
      refine Tr.region ?_
      refine Tr.val (wn rfl) rfl (fun _ _ h1 h2 => run_add (h1.ev rfl) (h1.ev rfl)) ?_
      refine Tr.val (wn rfl) rfl (fun _ _ h1 h2 => run_move (h1.ev rfl)) ?_
      refine Tr.nil ?_
      exact Tr.backThen leF_etchhouseref1_around_L1 ((w64 (0 - x116)), x115, (w64 (x117 + 1))) H (.cons rfl (.cons rfl (.cons rfl (.cons rfl .nil)))) (.cons rfl (.cons rfl .nil))
    · refine Tr.exit (Tr.exitThen (Tr.exitThen (Tr.exitBlock (Tr.normThen ?_))))
      refine Tr.seq ?_
      refine Tr.region ?_
      refine Tr.val (wn rfl) rfl (fun _ _ h1 h2 => run_loadN (cs := [(.int .i64 x115), (.int .i64 x116)]) ag_32 sz_32 (h1.ev rfl) (CellsAt.take (rdb h2 (vs := [(.int .i64 x115), (.int .i64 x116)]) (k := 1) rfl 0) 2) rfl) ?_
      refine Tr.store 3 (cs := [(.int .i64 x115), (.int .i64 x116)]) [(.int .i64 x115), (.int .i64 x116)] (wn rfl) rfl rfl rfl rfl sz_32 rfl rfl rfl ?_
      refine Tr.nil (Tr.normThen ?_)
      refine Tr.ret ?_
      obtain rfl := Option.some.inj H
      exact Tr.out (m := [(.agg #[(.int .i64 x115), (.int .i64 x116)])]) [3] (res_cell rfl rfl ag_32 sz_32 res_nil) (fun W hW => ⟨rfl, hW.low leB⟩)

theorem F_etchhouseref1_TurnPoint_ok (N : Nat) {w : Bs} (p0 : TPoint) (p1 : TTurn) (r : TPoint) (H : F_etchhouseref1_TurnPoint N p0 p1 = some r) (hE : HF w w.W E0) : Calls Try.prog 56 [(.agg #[(.int .i64 p0.X), (.int .i64 p0.Y)]), (.agg #[(.bool p1.Flip), (.int .i64 p1.Quarters), (.int .i64 p1.At.X), (.int .i64 p1.At.Y)])].toArray w.W fun e W' => e = .returned (.agg #[(.int .i64 r.X), (.int .i64 r.Y)]) ∧ HF w W' E0 := by
  unfold F_etchhouseref1_TurnPoint at H
  have leB := Bs.Le.refl w
  refine Tr.enter (n := 21) Try.func56 rfl rfl rfl hE ?_
  refine Tr.seq ?_
  refine Tr.region ?_
  refine Tr.box 1 (cs := [(.int .i64 p0.X), (.int .i64 p0.Y)]) (wn rfl) rfl rfl rfl fun b100 => ?_
  refine Tr.box 2 (cs := [(.bool p1.Flip), (.int .i64 p1.Quarters), (.int .i64 p1.At.X), (.int .i64 p1.At.Y)]) (wn rfl) rfl rfl rfl fun b101 => ?_
  refine Tr.alloc 3 (wn rfl) rfl ze_32 fun b102 => ?_
  refine Tr.nil (Tr.normThen ?_)
  refine Tr.seq ?_
  refine Tr.region ?_
  refine Tr.val (wn rfl) rfl (fun _ _ h1 h2 => run_loadN (cs := [(.int .i64 p0.X), (.int .i64 p0.Y)]) ag_32 sz_32 (h1.ev rfl) (CellsAt.take (rdb h2 (vs := [(.int .i64 p0.X), (.int .i64 p0.Y)]) (k := 1) rfl 0) 2) rfl) ?_
  refine Tr.val (wn rfl) rfl (fun _ _ h1 h2 => run_loadN (cs := [(.bool p1.Flip), (.int .i64 p1.Quarters), (.int .i64 p1.At.X), (.int .i64 p1.At.Y)]) ag_46 sz_46 (h1.ev rfl) (CellsAt.take (rdb h2 (vs := [(.bool p1.Flip), (.int .i64 p1.Quarters), (.int .i64 p1.At.X), (.int .i64 p1.At.Y)]) (k := 2) rfl 0) 4) rfl) ?_
  obtain ⟨y103, hy103, H⟩ := bnd H
  refine Tr.call0 (r := (.agg #[(.int .i64 y103.X), (.int .i64 y103.Y)])) (wn rfl) rfl Try.call98 (evl_cons rfl (evl_cons rfl evl_nil)) (fun W hW => F_etchhouseref1_around_ok N p0 p1 y103 hy103 (HF.start _)) ?_
  refine Tr.store 1 (cs := [(.int .i64 y103.X), (.int .i64 y103.Y)]) [(.int .i64 y103.X), (.int .i64 y103.Y)] (wn rfl) rfl rfl rfl rfl sz_32 rfl rfl rfl ?_
  refine Tr.nil (Tr.normThen ?_)
  refine Tr.seq ?_
  refine Tr.region ?_
  refine Tr.val (wn rfl) rfl (fun _ _ h1 h2 => run_fieldAddr fo_32_0 (h1.ev rfl)) ?_
  refine Tr.val (wn rfl) rfl (fun _ _ h1 h2 => run_load1 ag_3 (h1.ev rfl) (rdb h2 (vs := [(.int .i64 y103.X), (.int .i64 y103.Y)]) (k := 1) rfl 0) rfl) ?_
  refine Tr.val (wn rfl) rfl (fun _ _ h1 h2 => run_fieldAddr fo_46_2 (h1.ev rfl)) ?_
  refine Tr.val (wn rfl) rfl (fun _ _ h1 h2 => run_fieldAddr fo_32_0 (h1.ev rfl)) ?_
  refine Tr.val (wn rfl) rfl (fun _ _ h1 h2 => run_load1 ag_3 (h1.ev rfl) (rdb h2 (vs := [(.bool p1.Flip), (.int .i64 p1.Quarters), (.int .i64 p1.At.X), (.int .i64 p1.At.Y)]) (k := 2) rfl 2) rfl) ?_
  refine Tr.val (wn rfl) rfl (fun _ _ h1 h2 => run_add (h1.ev rfl) (h1.ev rfl)) ?_
  refine Tr.val (wn rfl) rfl (fun _ _ h1 h2 => run_fieldAddr fo_32_1 (h1.ev rfl)) ?_
  refine Tr.val (wn rfl) rfl (fun _ _ h1 h2 => run_load1 ag_3 (h1.ev rfl) (rdb h2 (vs := [(.int .i64 y103.X), (.int .i64 y103.Y)]) (k := 1) rfl 1) rfl) ?_
  refine Tr.val (wn rfl) rfl (fun _ _ h1 h2 => run_fieldAddr fo_46_2 (h1.ev rfl)) ?_
  refine Tr.val (wn rfl) rfl (fun _ _ h1 h2 => run_fieldAddr fo_32_1 (h1.ev rfl)) ?_
  refine Tr.val (wn rfl) rfl (fun _ _ h1 h2 => run_load1 ag_3 (h1.ev rfl) (rdb h2 (vs := [(.bool p1.Flip), (.int .i64 p1.Quarters), (.int .i64 p1.At.X), (.int .i64 p1.At.Y)]) (k := 2) rfl 3) rfl) ?_
  refine Tr.val (wn rfl) rfl (fun _ _ h1 h2 => run_add (h1.ev rfl) (h1.ev rfl)) ?_
  refine Tr.build (vs := [(0, (.int .i64 (w64 (y103.X + p1.At.X)))), (1, (.int .i64 (w64 (y103.Y + p1.At.Y))))]) (cs := [(.int .i64 (w64 (y103.X + p1.At.X))), (.int .i64 (w64 (y103.Y + p1.At.Y)))]) (wn rfl) rfl (evs_cons rfl (evs_cons rfl evs_nil)) (by kernel_rfl) ?_
  refine Tr.store 3 (cs := [(.int .i64 (w64 (y103.X + p1.At.X))), (.int .i64 (w64 (y103.Y + p1.At.Y)))]) [(.int .i64 (w64 (y103.X + p1.At.X))), (.int .i64 (w64 (y103.Y + p1.At.Y)))] (wn rfl) rfl rfl rfl rfl sz_32 rfl rfl rfl ?_
  refine Tr.nil (Tr.normThen ?_)
  refine Tr.ret ?_
  obtain rfl := Option.some.inj H
  exact Tr.out (m := [(.agg #[(.int .i64 (w64 (y103.X + p1.At.X))), (.int .i64 (w64 (y103.Y + p1.At.Y)))])]) [3] (res_cell rfl rfl ag_32 sz_32 res_nil) (fun W hW => ⟨rfl, hW.low leB⟩)

theorem F_etchhouseref9_ToPanel_ok (N : Nat) {w : Bs} (p0 : TPanel) (Ap0_0 : Option Addr) (cp0_0 : Nat) (hp0_0 : Sl w.R w.W fl_TBoardKind Ap0_0 cp0_0 p0.Kinds) (Ap0_1 : Option Addr) (cp0_1 : Nat) (hp0_1 : Sl w.R w.W fl_TSlot Ap0_1 cp0_1 p0.Slots) (Ap0_2 : Option Addr) (cp0_2 : Nat) (hp0_2 : Sl w.R w.W fl_TPoint Ap0_2 cp0_2 p0.Marks) (p1 : Int) (p2 : TPoint) (r : (TPoint × Int)) (H : F_etchhouseref9_ToPanel N p0 p1 p2 = some r) (hE : HF w w.W E0) : Calls Try.prog 23 [(.agg #[(.int .i64 p0.W), (.int .i64 p0.H), (.int .i64 p0.Rail), (.int .i64 p0.Gap), (.slice Ap0_0 (p0.Kinds).length cp0_0), (.slice Ap0_1 (p0.Slots).length cp0_1), (.slice Ap0_2 (p0.Marks).length cp0_2)]), (.int .i64 p1), (.agg #[(.int .i64 p2.X), (.int .i64 p2.Y)])].toArray w.W fun e W' => e = .returned (.tuple #[(.agg #[(.int .i64 r.1.X), (.int .i64 r.1.Y)]), (.int .i64 r.2)]) ∧ HF w W' E0 := by
  unfold F_etchhouseref9_ToPanel at H
  have leB := Bs.Le.refl w
  refine Tr.enter (n := 51) Try.func23 rfl rfl rfl hE ?_
  refine Tr.seq ?_
  refine Tr.region ?_
  refine Tr.box 1 (cs := [(.int .i64 p0.W), (.int .i64 p0.H), (.int .i64 p0.Rail), (.int .i64 p0.Gap), (.slice Ap0_0 (p0.Kinds).length cp0_0), (.slice Ap0_1 (p0.Slots).length cp0_1), (.slice Ap0_2 (p0.Marks).length cp0_2)]) (wn rfl) rfl rfl rfl fun b100 => ?_
  refine Tr.box 2 (cs := [(.int .i64 p2.X), (.int .i64 p2.Y)]) (wn rfl) rfl rfl rfl fun b101 => ?_
  refine Tr.alloc 3 (wn rfl) rfl ze_32 fun b102 => ?_
  refine Tr.val (wn rfl) rfl (fun _ _ h1 h2 => run_assign (h1.ev rfl)) ?_
  refine Tr.nil (Tr.normThen ?_)
  refine Tr.seq ?_
  refine Tr.region ?_
  refine Tr.val (wn rfl) rfl (fun _ _ h1 h2 => run_loadN (cs := [(.int .i64 p0.W), (.int .i64 p0.H), (.int .i64 p0.Rail), (.int .i64 p0.Gap), (.slice Ap0_0 (p0.Kinds).length cp0_0), (.slice Ap0_1 (p0.Slots).length cp0_1), (.slice Ap0_2 (p0.Marks).length cp0_2)]) ag_26 sz_26 (h1.ev rfl) (CellsAt.take (rdb h2 (vs := [(.int .i64 p0.W), (.int .i64 p0.H), (.int .i64 p0.Rail), (.int .i64 p0.Gap), (.slice Ap0_0 (p0.Kinds).length cp0_0), (.slice Ap0_1 (p0.Slots).length cp0_1), (.slice Ap0_2 (p0.Marks).length cp0_2)]) (k := 1) rfl 0) 7) rfl) ?_
  refine Tr.val (wn rfl) rfl (fun _ _ h1 h2 => run_move (h1.ev rfl)) ?_
  obtain ⟨y103, hy103, H⟩ := bnd H
  refine Tr.call0 (r := (.tuple #[(.agg #[(.bool y103.1.Flip), (.int .i64 y103.1.Quarters), (.int .i64 y103.1.At.X), (.int .i64 y103.1.At.Y)]), (.int .i64 y103.2)])) (wn rfl) rfl Try.call21 (evl_cons rfl (evl_cons rfl evl_nil)) (fun W hW => F_etchhouseref9_SlotTurn_ok N p0 Ap0_0 cp0_0 (hp0_0.ext hW.extAll) Ap0_1 cp0_1 (hp0_1.ext hW.extAll) Ap0_2 cp0_2 (hp0_2.ext hW.extAll) p1 y103 hy103 (HF.start _)) ?_
  refine Tr.val (wn rfl) rfl (fun _ _ h1 h2 => run_move (h1.ev rfl)) ?_
  refine Tr.val (wn rfl) rfl (fun _ _ h1 h2 => run_extract (h1.ev rfl) rfl) ?_
  refine Tr.val (wn rfl) rfl (fun _ _ h1 h2 => run_extract (h1.ev rfl) rfl) ?_
  refine Tr.alloc 4 (wn rfl) rfl ze_46 fun b104 => ?_
  refine Tr.store 4 (cs := [(.bool y103.1.Flip), (.int .i64 y103.1.Quarters), (.int .i64 y103.1.At.X), (.int .i64 y103.1.At.Y)]) [(.bool y103.1.Flip), (.int .i64 y103.1.Quarters), (.int .i64 y103.1.At.X), (.int .i64 y103.1.At.Y)] (wn rfl) rfl rfl rfl rfl sz_46 rfl rfl rfl ?_
  refine Tr.val (wn rfl) rfl (fun _ _ h1 h2 => run_assign (h1.ev rfl)) ?_
  refine Tr.nil (Tr.normThen ?_)
  refine Tr.seq ?_
  refine Tr.seq ?_
  refine Tr.region ?_
  refine Tr.val (wn rfl) rfl (fun _ _ h1 h2 => run_move (h1.ev rfl)) ?_
  refine Tr.val (wn rfl) rfl (fun _ _ h1 h2 => run_neq (h1.ev rfl) (h1.ev rfl)) ?_
  refine Tr.nil (Tr.normThen ?_)
  refine Tr.cond rfl H (fun H => ?_) (fun H => ?_)
  · refine Tr.seq ?_
    refine Tr.region ?_
    refine Tr.build (vs := []) (cs := [(.int .i64 0), (.int .i64 0)]) (wn rfl) rfl evs_nil (by kernel_rfl) ?_
    refine Tr.val (wn rfl) rfl (fun _ _ h1 h2 => run_move (h1.ev rfl)) ?_
    refine Tr.store 3 (cs := [(.int .i64 0), (.int .i64 0)]) [(.int .i64 0), (.int .i64 0)] (wn rfl) rfl rfl rfl rfl sz_32 rfl rfl rfl ?_
    refine Tr.val (wn rfl) rfl (fun _ _ h1 h2 => run_assign (h1.ev rfl)) ?_
    refine Tr.nil (Tr.normThen ?_)
    refine Tr.ret (Tr.retThen ?_)
    obtain rfl := Option.some.inj H
    exact Tr.out (m := [(.agg #[(.int .i64 0), (.int .i64 0)]), (.int .i64 y103.2)]) [3] (res_cell rfl rfl ag_32 sz_32 (res_tmp rfl res_nil)) (fun W hW => ⟨rfl, hW.low leB⟩)
  · refine Tr.skip (Tr.normThen ?_)
    refine Tr.seq ?_
    obtain ⟨x106, hx106, H⟩ := bnd H
    obtain ⟨hx1060, hx1061, hx1062⟩ := idx_some hx106
    obtain ⟨y107, hy107, H⟩ := bnd H
    obtain ⟨x108, hx108, H⟩ := bnd H
    obtain ⟨hx1080, hx1081, hx1082⟩ := idx_some hx108
    refine Tr.drawF 13 [(12, .makeFunc (.func 0) #[] #[])] [(12, ⟨10, 5, (.func (.func 0) #[] #[]), fun b => .pointer (some ⟨b, 0, none⟩), fun b => bx b #[(.string ⟨#[]⟩), (.int .i64 0), (.int .i64 0)] 82⟩)] [(0, (.agg #[(.int .i64 p0.W), (.int .i64 p0.H), (.int .i64 p0.Rail), (.int .i64 p0.Gap), (.slice Ap0_0 (p0.Kinds).length cp0_0), (.slice Ap0_1 (p0.Slots).length cp0_1), (.slice Ap0_2 (p0.Marks).length cp0_2)])), (1, (.int .i64 p1)), (2, (.agg #[(.int .i64 p2.X), (.int .i64 p2.Y)])), (3, (.pointer (some ⟨b100, 0, none⟩))), (5, (.pointer (some ⟨b101, 0, none⟩))), (6, (.pointer (some ⟨b102, 0, none⟩))), (7, (.int .i64 0)), (8, (.pointer (some ⟨b104, 0, none⟩))), (9, (.int .i64 y103.2)), (10, (.func (.func 0) #[] #[])), (11, (.tuple #[(.agg #[(.bool y103.1.Flip), (.int .i64 y103.1.Quarters), (.int .i64 y103.1.At.X), (.int .i64 y103.1.At.Y)]), (.int .i64 y103.2)])), (12, (.agg #[(.int .i64 p0.W), (.int .i64 p0.H), (.int .i64 p0.Rail), (.int .i64 p0.Gap), (.slice Ap0_0 (p0.Kinds).length cp0_0), (.slice Ap0_1 (p0.Slots).length cp0_1), (.slice Ap0_2 (p0.Marks).length cp0_2)])), (13, (.int .i64 p1)), (14, (.tuple #[(.agg #[(.bool y103.1.Flip), (.int .i64 y103.1.Quarters), (.int .i64 y103.1.At.X), (.int .i64 y103.1.At.Y)]), (.int .i64 y103.2)])), (15, (.agg #[(.bool y103.1.Flip), (.int .i64 y103.1.Quarters), (.int .i64 y103.1.At.X), (.int .i64 y103.1.At.Y)])), (16, (.int .i64 y103.2)), (17, (.int .i64 y103.2)), (18, (.bool (y103.2 != 0))), (21, (.pointer (some ⟨b100, 4, none⟩))), (22, (.slice Ap0_0 (p0.Kinds).length cp0_0)), (23, (.agg #[(.int .i64 p0.W), (.int .i64 p0.H), (.int .i64 p0.Rail), (.int .i64 p0.Gap), (.slice Ap0_0 (p0.Kinds).length cp0_0), (.slice Ap0_1 (p0.Slots).length cp0_1), (.slice Ap0_2 (p0.Marks).length cp0_2)])), (24, (.pointer (some ⟨b100, 5, none⟩))), (25, (.slice Ap0_1 (p0.Slots).length cp0_1)), (26, (.int .i64 p1)), (27, (.pointer (some ⟨adB Ap0_1, adO Ap0_1 + (p1).toNat * 4, none⟩))), (28, (.pointer (some ⟨adB Ap0_1, adO Ap0_1 + (p1).toNat * 4 + 0, none⟩))), (29, (.string x106.Board)), (30, (.int .i64 y107)), (31, (.pointer (some ⟨adB Ap0_0, adO Ap0_0 + (y107).toNat * 3, none⟩))), (32, (.agg #[(.string x108.Name), (.int .i64 x108.W), (.int .i64 x108.H)]))] (by kernel_rfl) (by kernel_rfl) (by kernel_rfl) (by kernel_rfl) (by kernel_rfl) (by kernel_rfl) (by kernel_rfl) (fall_cons (fr_alloc rfl rfl ze_82) fall_nil) (fall_cons rfl fall_nil) (fall_cons rfl fall_nil) ?_ ?_
    · refine Tq.val (wn rfl) rfl (fun _ _ h1 h2 => run_fieldAddr fo_26_4 (h1.ev rfl)) ?_
      refine Tq.val (wn rfl) rfl (fun _ _ h1 h2 => run_load1 ag_22 (h1.ev rfl) (rdb h2 (vs := [(.int .i64 p0.W), (.int .i64 p0.H), (.int .i64 p0.Rail), (.int .i64 p0.Gap), (.slice Ap0_0 (p0.Kinds).length cp0_0), (.slice Ap0_1 (p0.Slots).length cp0_1), (.slice Ap0_2 (p0.Marks).length cp0_2)]) (k := 1) rfl 4) rfl) ?_
      refine Tq.val (wn rfl) rfl (fun _ _ h1 h2 => run_loadN (cs := [(.int .i64 p0.W), (.int .i64 p0.H), (.int .i64 p0.Rail), (.int .i64 p0.Gap), (.slice Ap0_0 (p0.Kinds).length cp0_0), (.slice Ap0_1 (p0.Slots).length cp0_1), (.slice Ap0_2 (p0.Marks).length cp0_2)]) ag_26 sz_26 (h1.ev rfl) (CellsAt.take (rdb h2 (vs := [(.int .i64 p0.W), (.int .i64 p0.H), (.int .i64 p0.Rail), (.int .i64 p0.Gap), (.slice Ap0_0 (p0.Kinds).length cp0_0), (.slice Ap0_1 (p0.Slots).length cp0_1), (.slice Ap0_2 (p0.Marks).length cp0_2)]) (k := 1) rfl 0) 7) rfl) ?_
      refine Tq.val (wn rfl) rfl (fun _ _ h1 h2 => run_fieldAddr fo_26_5 (h1.ev rfl)) ?_
      refine Tq.val (wn rfl) rfl (fun _ _ h1 h2 => run_load1 ag_23 (h1.ev rfl) (rdb h2 (vs := [(.int .i64 p0.W), (.int .i64 p0.H), (.int .i64 p0.Rail), (.int .i64 p0.Gap), (.slice Ap0_0 (p0.Kinds).length cp0_0), (.slice Ap0_1 (p0.Slots).length cp0_1), (.slice Ap0_2 (p0.Marks).length cp0_2)]) (k := 1) rfl 5) rfl) ?_
      refine Tq.val (wn rfl) rfl (fun _ _ h1 h2 => run_move (h1.ev rfl)) ?_
      refine Tq.val (wn rfl) rfl (fun _ _ h1 h2 => run_indexAddr el_23 (h1.ev rfl) hp0_1.form (h1.ev rfl) hx1060 hx1061) ?_
      refine Tq.val (wn rfl) rfl (fun _ _ h1 h2 => run_fieldAddr fo_34_0 (h1.ev rfl)) ?_
      refine Tq.val (wn rfl) rfl (fun _ _ h1 h2 => run_load1 ag_9 (h1.ev rfl) (CellsAt.drop (rdF ef_TSlot hp0_1 hx1062 h2) 0) rfl) ?_
      refine Tq.call0 (r := (.int .i64 y107)) (wn rfl) rfl Try.call55 (evl_cons rfl (evl_cons rfl evl_nil)) (fun W hW => F_etchhouseref9_kind_ok N p0 Ap0_0 cp0_0 (hp0_0.ext hW.extAll) Ap0_1 cp0_1 (hp0_1.ext hW.extAll) Ap0_2 cp0_2 (hp0_2.ext hW.extAll) x106.Board y107 hy107 (HF.start _)) ?_
      refine Tq.val (wn rfl) rfl (fun _ _ h1 h2 => run_indexAddr el_22 (h1.ev rfl) hp0_0.form (h1.ev rfl) hx1080 hx1081) ?_
      refine Tq.val (wn rfl) rfl (fun _ _ h1 h2 => run_loadN (cs := [(.string x108.Name), (.int .i64 x108.W), (.int .i64 x108.H)]) ag_82 sz_82 (h1.ev rfl) (CellsAt.take (rdF ef_TBoardKind hp0_0 hx1082 h2) 3) rfl) ?_
      refine Tq.mkFunc (vs := []) (wn rfl) rfl evl_nil ?_
      exact Tq.fin (.cons rfl (.cons rfl (.cons rfl (.cons rfl (.cons rfl (.cons rfl (.cons rfl (.cons rfl (.cons rfl (.cons rfl (.cons rfl (.cons rfl (.cons rfl (.cons rfl (.cons rfl (.cons rfl (.cons rfl (.cons rfl (.cons rfl (.cons rfl (.cons rfl (.cons rfl (.cons rfl (.cons rfl (.cons rfl (.cons rfl (.cons rfl (.cons rfl (.cons rfl (.cons rfl .nil))))))))))))))))))))))))))))))
    · intro bs105
      refine Tr.sel (lf := [(5, (.pointer (some ⟨b101, 0, none⟩))), (6, (.pointer (some ⟨b102, 0, none⟩))), (8, (.pointer (some ⟨b104, 0, none⟩))), (10, (.pointer (some ⟨(bs105 12), 0, none⟩))), (32, (.agg #[(.string x108.Name), (.int .i64 x108.W), (.int .i64 x108.H)]))]) (le := [(1, bx b100 #[(.int .i64 p0.W), (.int .i64 p0.H), (.int .i64 p0.Rail), (.int .i64 p0.Gap), (.slice Ap0_0 (p0.Kinds).length cp0_0), (.slice Ap0_1 (p0.Slots).length cp0_1), (.slice Ap0_2 (p0.Marks).length cp0_2)] 26), (2, bx b101 #[(.int .i64 p2.X), (.int .i64 p2.Y)] 32), (3, bx b102 #[(.int .i64 0), (.int .i64 0)] 32), (4, bx b104 #[(.bool y103.1.Flip), (.int .i64 y103.1.Quarters), (.int .i64 y103.1.At.X), (.int .i64 y103.1.At.Y)] 46), (5, bx (bs105 12) #[(.string ⟨#[]⟩), (.int .i64 0), (.int .i64 0)] 82)]) (.cons rfl (.cons rfl (.cons rfl (.cons rfl (.cons rfl .nil))))) (.cons rfl (.cons rfl (.cons rfl (.cons rfl (.cons rfl .nil))))) ?_
      refine Tr.store 5 (cs := [(.string x108.Name), (.int .i64 x108.W), (.int .i64 x108.H)]) [(.string x108.Name), (.int .i64 x108.W), (.int .i64 x108.H)] (wn rfl) rfl rfl rfl rfl sz_82 rfl rfl rfl ?_
      refine Tr.nil (Tr.normThen ?_)
      refine Tr.seq ?_
      refine Tr.seq ?_
      refine Tr.region ?_
      refine Tr.val (wn rfl) rfl (fun _ _ h1 h2 => run_fieldAddr fo_32_0 (h1.ev rfl)) ?_
      refine Tr.val (wn rfl) rfl (fun _ _ h1 h2 => run_load1 ag_3 (h1.ev rfl) (rdb h2 (vs := [(.int .i64 p2.X), (.int .i64 p2.Y)]) (k := 2) rfl 0) rfl) ?_
      refine Tr.val (wn rfl) rfl (fun _ _ h1 h2 => run_fieldAddr fo_82_1 (h1.ev rfl)) ?_
      refine Tr.val (wn rfl) rfl (fun _ _ h1 h2 => run_load1 ag_3 (h1.ev rfl) (rdb h2 (vs := [(.string x108.Name), (.int .i64 x108.W), (.int .i64 x108.H)]) (k := 5) rfl 1) rfl) ?_
      obtain ⟨y109, hy109, H⟩ := bnd H
      refine Tr.call0 (r := (.bool y109)) (wn rfl) rfl Try.call49 (evl_cons rfl (evl_cons rfl (evl_cons rfl evl_nil))) (fun W hW => F_etchhouseref9_within_ok p2.X 0 x108.W y109 hy109 (HF.start _)) ?_
      refine Tr.val (wn rfl) rfl (fun _ _ h1 h2 => run_not (h1.ev rfl)) ?_
      refine Tr.val (wn rfl) rfl (fun _ _ h1 h2 => run_move (h1.ev rfl)) ?_
      obtain ⟨g111, hg111, H⟩ := bnd H
      refine Tr.mid0 7 [(5, (.pointer (some ⟨b101, 0, none⟩))), (6, (.pointer (some ⟨b102, 0, none⟩))), (8, (.pointer (some ⟨b104, 0, none⟩))), (46, (.bool g111))] [(1, bx b100 #[(.int .i64 p0.W), (.int .i64 p0.H), (.int .i64 p0.Rail), (.int .i64 p0.Gap), (.slice Ap0_0 (p0.Kinds).length cp0_0), (.slice Ap0_1 (p0.Slots).length cp0_1), (.slice Ap0_2 (p0.Marks).length cp0_2)] 26), (2, bx b101 #[(.int .i64 p2.X), (.int .i64 p2.Y)] 32), (3, bx b102 #[(.int .i64 0), (.int .i64 0)] 32), (4, bx b104 #[(.bool y103.1.Flip), (.int .i64 y103.1.Quarters), (.int .i64 y103.1.At.X), (.int .i64 y103.1.At.Y)] 46), (5, bx (bs105 12) #[(.string x108.Name), (.int .i64 x108.W), (.int .i64 x108.H)] 82)] ?_ ?_
      · cases hg113 : (!y109)
        · rw [hg113] at hg111
          rw [if_neg (by decide)] at hg111
          have H := hg111
          refine Tr.val (wg rfl rfl rfl) rfl (fun _ _ h1 h2 => run_fieldAddr fo_32_1 (h1.ev rfl)) ?_
          refine Tr.val (wg rfl rfl rfl) rfl (fun _ _ h1 h2 => run_load1 ag_3 (h1.ev rfl) (rdb h2 (vs := [(.int .i64 p2.X), (.int .i64 p2.Y)]) (k := 2) rfl 1) rfl) ?_
          refine Tr.val (wg rfl rfl rfl) rfl (fun _ _ h1 h2 => run_fieldAddr fo_82_2 (h1.ev rfl)) ?_
          refine Tr.val (wg rfl rfl rfl) rfl (fun _ _ h1 h2 => run_load1 ag_3 (h1.ev rfl) (rdb h2 (vs := [(.string x108.Name), (.int .i64 x108.W), (.int .i64 x108.H)]) (k := 5) rfl 2) rfl) ?_
          obtain ⟨y112, hy112, H⟩ := bnd H
          refine Tr.call0 (r := (.bool y112)) (wg rfl rfl rfl) rfl Try.call49 (evl_cons rfl (evl_cons rfl (evl_cons rfl evl_nil))) (fun W hW => F_etchhouseref9_within_ok p2.Y 0 x108.H y112 hy112 (HF.start _)) ?_
          refine Tr.val (wg rfl rfl rfl) rfl (fun _ _ h1 h2 => run_not (h1.ev rfl)) ?_
          refine Tr.val (wn rfl) rfl (fun _ _ h1 h2 => run_pickF (h1.ev rfl) (h1.ev rfl)) ?_
          obtain rfl := Option.some.inj H
          exact Tr.nil (Tr.fin0 (.cons rfl (.cons rfl (.cons rfl (.cons rfl .nil)))) (.cons rfl (.cons rfl (.cons rfl (.cons rfl (.cons rfl .nil))))))
        · rw [hg113] at hg111
          rw [if_pos rfl] at hg111
          have H := hg111
          obtain rfl := Option.some.inj H
          refine Tr.pass rfl rfl rfl rfl rfl (by decide) ?_
          refine Tr.pass rfl rfl rfl rfl rfl (by decide) ?_
          refine Tr.pass rfl rfl rfl rfl rfl (by decide) ?_
          refine Tr.pass rfl rfl rfl rfl rfl (by decide) ?_
          refine Tr.pass rfl rfl rfl rfl rfl (by decide) ?_
          refine Tr.pass rfl rfl rfl rfl rfl (by decide) ?_
          refine Tr.val (wn rfl) rfl (fun _ _ h1 h2 => run_pickT (h1.ev rfl) (h1.ev rfl)) ?_
          exact Tr.nil (Tr.fin0 (.cons rfl (.cons rfl (.cons rfl (.cons rfl .nil)))) (.cons rfl (.cons rfl (.cons rfl (.cons rfl (.cons rfl .nil))))))
      · show Tr _ _ (LF [(5, (.pointer (some ⟨b101, 0, none⟩))), (6, (.pointer (some ⟨b102, 0, none⟩))), (8, (.pointer (some ⟨b104, 0, none⟩))), (46, (.bool g111))]) (LE [(1, bx b100 #[(.int .i64 p0.W), (.int .i64 p0.H), (.int .i64 p0.Rail), (.int .i64 p0.Gap), (.slice Ap0_0 (p0.Kinds).length cp0_0), (.slice Ap0_1 (p0.Slots).length cp0_1), (.slice Ap0_2 (p0.Marks).length cp0_2)] 26), (2, bx b101 #[(.int .i64 p2.X), (.int .i64 p2.Y)] 32), (3, bx b102 #[(.int .i64 0), (.int .i64 0)] 32), (4, bx b104 #[(.bool y103.1.Flip), (.int .i64 y103.1.Quarters), (.int .i64 y103.1.At.X), (.int .i64 y103.1.At.Y)] 46), (5, bx (bs105 12) #[(.string x108.Name), (.int .i64 x108.W), (.int .i64 x108.H)] 82)]) _
        refine Tr.nil (Tr.normThen ?_)
        refine Tr.cond rfl H (fun H => ?_) (fun H => ?_)
        · refine Tr.seq ?_
          refine Tr.region ?_
          refine Tr.build (vs := []) (cs := [(.int .i64 0), (.int .i64 0)]) (wn rfl) rfl evs_nil (by kernel_rfl) ?_
          refine Tr.store 3 (cs := [(.int .i64 0), (.int .i64 0)]) [(.int .i64 0), (.int .i64 0)] (wn rfl) rfl rfl rfl rfl sz_32 rfl rfl rfl ?_
          refine Tr.val (wn rfl) rfl (fun _ _ h1 h2 => run_assign (h1.ev rfl)) ?_
          refine Tr.nil (Tr.normThen ?_)
          refine Tr.ret (Tr.retThen ?_)
          obtain rfl := Option.some.inj H
          exact Tr.out (m := [(.agg #[(.int .i64 0), (.int .i64 0)]), (.int .i64 1)]) [3] (res_cell rfl rfl ag_32 sz_32 (res_tmp rfl res_nil)) (fun W hW => ⟨rfl, hW.low leB⟩)
        · refine Tr.skip (Tr.normThen ?_)
          refine Tr.seq ?_
          refine Tr.region ?_
          refine Tr.val (wn rfl) rfl (fun _ _ h1 h2 => run_loadN (cs := [(.int .i64 p2.X), (.int .i64 p2.Y)]) ag_32 sz_32 (h1.ev rfl) (CellsAt.take (rdb h2 (vs := [(.int .i64 p2.X), (.int .i64 p2.Y)]) (k := 2) rfl 0) 2) rfl) ?_
          refine Tr.val (wn rfl) rfl (fun _ _ h1 h2 => run_loadN (cs := [(.bool y103.1.Flip), (.int .i64 y103.1.Quarters), (.int .i64 y103.1.At.X), (.int .i64 y103.1.At.Y)]) ag_46 sz_46 (h1.ev rfl) (CellsAt.take (rdb h2 (vs := [(.bool y103.1.Flip), (.int .i64 y103.1.Quarters), (.int .i64 y103.1.At.X), (.int .i64 y103.1.At.Y)]) (k := 4) rfl 0) 4) rfl) ?_
          obtain ⟨y113, hy113, H⟩ := bnd H
          refine Tr.call0 (r := (.agg #[(.int .i64 y113.X), (.int .i64 y113.Y)])) (wn rfl) rfl Try.call56 (evl_cons rfl (evl_cons rfl evl_nil)) (fun W hW => F_etchhouseref1_TurnPoint_ok N p2 y103.1 y113 hy113 (HF.start _)) ?_
          refine Tr.store 3 (cs := [(.int .i64 y113.X), (.int .i64 y113.Y)]) [(.int .i64 y113.X), (.int .i64 y113.Y)] (wn rfl) rfl rfl rfl rfl sz_32 rfl rfl rfl ?_
          refine Tr.val (wn rfl) rfl (fun _ _ h1 h2 => run_assign (h1.ev rfl)) ?_
          refine Tr.nil (Tr.normThen ?_)
          refine Tr.ret ?_
          obtain rfl := Option.some.inj H
          exact Tr.out (m := [(.agg #[(.int .i64 y113.X), (.int .i64 y113.Y)]), (.int .i64 0)]) [3] (res_cell rfl rfl ag_32 sz_32 (res_tmp rfl res_nil)) (fun W hW => ⟨rfl, hW.low leB⟩)

theorem F_shape_within_ok {w : Bs} (p0 : Int) (p1 : Int) (p2 : Int) (r : Bool) (H : F_shape_within p0 p1 p2 = some r) (hE : HF w w.W E0) : Calls Try.prog 117 [(.int .i64 p0), (.int .i64 p1), (.int .i64 p2)].toArray w.W fun e W' => e = .returned (.bool r) ∧ HF w W' E0 := by
  unfold F_shape_within at H
  have leB := Bs.Le.refl w
  refine Tr.enter (n := 15) Try.func117 rfl rfl rfl hE ?_
  refine Tr.seq ?_
  refine Tr.region ?_
  refine Tr.val (wn rfl) rfl (fun _ _ h1 h2 => run_assign (h1.ev rfl)) ?_
  refine Tr.nil (Tr.normThen ?_)
  refine Tr.seq ?_
  refine Tr.region ?_
  refine Tr.val (wn rfl) rfl (fun _ _ h1 h2 => run_move (h1.ev rfl)) ?_
  refine Tr.val (wn rfl) rfl (fun _ _ h1 h2 => run_move (h1.ev rfl)) ?_
  refine Tr.val (wn rfl) rfl (fun _ _ h1 h2 => run_geq (h1.ev rfl) (h1.ev rfl)) ?_
  refine Tr.val (wn rfl) rfl (fun _ _ h1 h2 => run_move (h1.ev rfl)) ?_
  refine Tr.mid0 4 [(14, (.bool ((decide (p1 ≤ p0)) && (decide (p0 ≤ p2)))))] [] ?_ ?_
  · cases hg99 : (decide (p1 ≤ p0))
    · refine Tr.pass rfl rfl rfl rfl rfl (by decide) ?_
      refine Tr.pass rfl rfl rfl rfl rfl (by decide) ?_
      refine Tr.pass rfl rfl rfl rfl rfl (by decide) ?_
      refine Tr.val (wn rfl) rfl (fun _ _ h1 h2 => run_pickF (h1.ev rfl) (h1.ev rfl)) ?_
      exact Tr.nil (Tr.fin0 (.cons rfl .nil) .nil)
    · refine Tr.val (wg rfl rfl rfl) rfl (fun _ _ h1 h2 => run_move (h1.ev rfl)) ?_
      refine Tr.val (wg rfl rfl rfl) rfl (fun _ _ h1 h2 => run_move (h1.ev rfl)) ?_
      refine Tr.val (wg rfl rfl rfl) rfl (fun _ _ h1 h2 => run_leq (h1.ev rfl) (h1.ev rfl)) ?_
      refine Tr.val (wn rfl) rfl (fun _ _ h1 h2 => run_pickT (h1.ev rfl) (h1.ev rfl)) ?_
      exact Tr.nil (Tr.fin0 (.cons rfl .nil) .nil)
  · show Tr _ _ (LF [(14, (.bool ((decide (p1 ≤ p0)) && (decide (p0 ≤ p2)))))]) (LE []) _
    refine Tr.val (wn rfl) rfl (fun _ _ h1 h2 => run_assign (h1.ev rfl)) ?_
    refine Tr.nil (Tr.normThen ?_)
    refine Tr.ret ?_
    obtain rfl := Option.some.inj H
    exact Tr.out (m := [(.bool ((decide (p1 ≤ p0)) && (decide (p0 ≤ p2))))]) [] (res_tmp rfl res_nil) (fun W hW => ⟨rfl, hW.low leB⟩)

theorem F_shape_IsAt_ok {w : Bs} (p0 : Int) (r : Bool) (H : F_shape_IsAt p0 = some r) (hE : HF w w.W E0) : Calls Try.prog 138 [(.int .i64 p0)].toArray w.W fun e W' => e = .returned (.bool r) ∧ HF w W' E0 := by
  unfold F_shape_IsAt at H
  have leB := Bs.Le.refl w
  refine Tr.enter (n := 5) Try.func138 rfl rfl rfl hE ?_
  refine Tr.seq ?_
  refine Tr.region ?_
  refine Tr.val (wn rfl) rfl (fun _ _ h1 h2 => run_assign (h1.ev rfl)) ?_
  refine Tr.nil (Tr.normThen ?_)
  refine Tr.seq ?_
  refine Tr.region ?_
  refine Tr.val (wn rfl) rfl (fun _ _ h1 h2 => run_move (h1.ev rfl)) ?_
  obtain ⟨y100, hy100, H⟩ := bnd H
  refine Tr.call0 (r := (.bool y100)) (wn rfl) rfl Try.call117 (evl_cons rfl (evl_cons rfl (evl_cons rfl evl_nil))) (fun W hW => F_shape_within_ok p0 (-1000000) 1000000 y100 hy100 (HF.start _)) ?_
  refine Tr.val (wn rfl) rfl (fun _ _ h1 h2 => run_assign (h1.ev rfl)) ?_
  refine Tr.nil (Tr.normThen ?_)
  refine Tr.ret ?_
  obtain rfl := Option.some.inj H
  exact Tr.out (m := [(.bool y100)]) [] (res_tmp rfl res_nil) (fun W hW => ⟨rfl, hW.low leB⟩)

theorem F_shape_IsPoint_ok {w : Bs} (p0 : TPoint) (r : Bool) (H : F_shape_IsPoint p0 = some r) (hE : HF w w.W E0) : Calls Try.prog 118 [(.agg #[(.int .i64 p0.X), (.int .i64 p0.Y)])].toArray w.W fun e W' => e = .returned (.bool r) ∧ HF w W' E0 := by
  unfold F_shape_IsPoint at H
  have leB := Bs.Le.refl w
  refine Tr.enter (n := 11) Try.func118 rfl rfl rfl hE ?_
  refine Tr.seq ?_
  refine Tr.region ?_
  refine Tr.box 1 (cs := [(.int .i64 p0.X), (.int .i64 p0.Y)]) (wn rfl) rfl rfl rfl fun b100 => ?_
  refine Tr.val (wn rfl) rfl (fun _ _ h1 h2 => run_assign (h1.ev rfl)) ?_
  refine Tr.nil (Tr.normThen ?_)
  refine Tr.seq ?_
  refine Tr.region ?_
  refine Tr.val (wn rfl) rfl (fun _ _ h1 h2 => run_fieldAddr fo_32_0 (h1.ev rfl)) ?_
  refine Tr.val (wn rfl) rfl (fun _ _ h1 h2 => run_load1 ag_3 (h1.ev rfl) (rdb h2 (vs := [(.int .i64 p0.X), (.int .i64 p0.Y)]) (k := 1) rfl 0) rfl) ?_
  obtain ⟨y101, hy101, H⟩ := bnd H
  refine Tr.call0 (r := (.bool y101)) (wn rfl) rfl Try.call138 (evl_cons rfl evl_nil) (fun W hW => F_shape_IsAt_ok p0.X y101 hy101 (HF.start _)) ?_
  refine Tr.val (wn rfl) rfl (fun _ _ h1 h2 => run_move (h1.ev rfl)) ?_
  obtain ⟨g103, hg103, H⟩ := bnd H
  refine Tr.mid0 4 [(10, (.bool g103))] [(1, bx b100 #[(.int .i64 p0.X), (.int .i64 p0.Y)] 32)] ?_ ?_
  · cases hg104 : y101
    · rw [hg104] at hg103
      rw [if_neg (by decide)] at hg103
      have H := hg103
      obtain rfl := Option.some.inj H
      refine Tr.pass rfl rfl rfl rfl rfl (by decide) ?_
      refine Tr.pass rfl rfl rfl rfl rfl (by decide) ?_
      refine Tr.pass rfl rfl rfl rfl rfl (by decide) ?_
      refine Tr.val (wn rfl) rfl (fun _ _ h1 h2 => run_pickF (h1.ev rfl) (h1.ev rfl)) ?_
      exact Tr.nil (Tr.fin0 (.cons rfl .nil) (.cons rfl .nil))
    · rw [hg104] at hg103
      rw [if_pos rfl] at hg103
      have H := hg103
      refine Tr.val (wg rfl rfl rfl) rfl (fun _ _ h1 h2 => run_fieldAddr fo_32_1 (h1.ev rfl)) ?_
      refine Tr.val (wg rfl rfl rfl) rfl (fun _ _ h1 h2 => run_load1 ag_3 (h1.ev rfl) (rdb h2 (vs := [(.int .i64 p0.X), (.int .i64 p0.Y)]) (k := 1) rfl 1) rfl) ?_
      obtain ⟨y104, hy104, H⟩ := bnd H
      refine Tr.call0 (r := (.bool y104)) (wg rfl rfl rfl) rfl Try.call138 (evl_cons rfl evl_nil) (fun W hW => F_shape_IsAt_ok p0.Y y104 hy104 (HF.start _)) ?_
      refine Tr.val (wn rfl) rfl (fun _ _ h1 h2 => run_pickT (h1.ev rfl) (h1.ev rfl)) ?_
      obtain rfl := Option.some.inj H
      exact Tr.nil (Tr.fin0 (.cons rfl .nil) (.cons rfl .nil))
  · show Tr _ _ (LF [(10, (.bool g103))]) (LE [(1, bx b100 #[(.int .i64 p0.X), (.int .i64 p0.Y)] 32)]) _
    refine Tr.val (wn rfl) rfl (fun _ _ h1 h2 => run_assign (h1.ev rfl)) ?_
    refine Tr.nil (Tr.normThen ?_)
    refine Tr.ret ?_
    obtain rfl := Option.some.inj H
    exact Tr.out (m := [(.bool g103)]) [] (res_tmp rfl res_nil) (fun W hW => ⟨rfl, hW.low leB⟩)

theorem F_shape_CheckTurn_ok {w : Bs} (p0 : TTurn) (r : Int) (H : F_shape_CheckTurn p0 = some r) (hE : HF w w.W E0) : Calls Try.prog 99 [(.agg #[(.bool p0.Flip), (.int .i64 p0.Quarters), (.int .i64 p0.At.X), (.int .i64 p0.At.Y)])].toArray w.W fun e W' => e = .returned (.int .i64 r) ∧ HF w W' E0 := by
  unfold F_shape_CheckTurn at H
  have leB := Bs.Le.refl w
  refine Tr.enter (n := 13) Try.func99 rfl rfl rfl hE ?_
  refine Tr.seq ?_
  refine Tr.region ?_
  refine Tr.box 1 (cs := [(.bool p0.Flip), (.int .i64 p0.Quarters), (.int .i64 p0.At.X), (.int .i64 p0.At.Y)]) (wn rfl) rfl rfl rfl fun b100 => ?_
  refine Tr.val (wn rfl) rfl (fun _ _ h1 h2 => run_assign (h1.ev rfl)) ?_
  refine Tr.nil (Tr.normThen ?_)
  refine Tr.seq ?_
  refine Tr.seq ?_
  refine Tr.region ?_
  refine Tr.val (wn rfl) rfl (fun _ _ h1 h2 => run_fieldAddr fo_46_1 (h1.ev rfl)) ?_
  refine Tr.val (wn rfl) rfl (fun _ _ h1 h2 => run_load1 ag_3 (h1.ev rfl) (rdb h2 (vs := [(.bool p0.Flip), (.int .i64 p0.Quarters), (.int .i64 p0.At.X), (.int .i64 p0.At.Y)]) (k := 1) rfl 1) rfl) ?_
  obtain ⟨y101, hy101, H⟩ := bnd H
  refine Tr.call0 (r := (.bool y101)) (wn rfl) rfl Try.call117 (evl_cons rfl (evl_cons rfl (evl_cons rfl evl_nil))) (fun W hW => F_shape_within_ok p0.Quarters 0 3 y101 hy101 (HF.start _)) ?_
  refine Tr.val (wn rfl) rfl (fun _ _ h1 h2 => run_not (h1.ev rfl)) ?_
  refine Tr.val (wn rfl) rfl (fun _ _ h1 h2 => run_move (h1.ev rfl)) ?_
  obtain ⟨g103, hg103, H⟩ := bnd H
  refine Tr.mid0 5 [(12, (.bool g103))] [(1, bx b100 #[(.bool p0.Flip), (.int .i64 p0.Quarters), (.int .i64 p0.At.X), (.int .i64 p0.At.Y)] 46)] ?_ ?_
  · cases hg104 : (!y101)
    · rw [hg104] at hg103
      rw [if_neg (by decide)] at hg103
      have H := hg103
      refine Tr.val (wg rfl rfl rfl) rfl (fun _ _ h1 h2 => run_fieldAddr fo_46_2 (h1.ev rfl)) ?_
      refine Tr.val (wg rfl rfl rfl) rfl (fun _ _ h1 h2 => run_loadN (cs := [(.int .i64 p0.At.X), (.int .i64 p0.At.Y)]) ag_32 sz_32 (h1.ev rfl) (CellsAt.take (rdb h2 (vs := [(.bool p0.Flip), (.int .i64 p0.Quarters), (.int .i64 p0.At.X), (.int .i64 p0.At.Y)]) (k := 1) rfl 2) 2) rfl) ?_
      obtain ⟨y104, hy104, H⟩ := bnd H
      refine Tr.call0 (r := (.bool y104)) (wg rfl rfl rfl) rfl Try.call118 (evl_cons rfl evl_nil) (fun W hW => F_shape_IsPoint_ok p0.At y104 hy104 (HF.start _)) ?_
      refine Tr.val (wg rfl rfl rfl) rfl (fun _ _ h1 h2 => run_not (h1.ev rfl)) ?_
      refine Tr.val (wn rfl) rfl (fun _ _ h1 h2 => run_pickF (h1.ev rfl) (h1.ev rfl)) ?_
      obtain rfl := Option.some.inj H
      exact Tr.nil (Tr.fin0 (.cons rfl .nil) (.cons rfl .nil))
    · rw [hg104] at hg103
      rw [if_pos rfl] at hg103
      have H := hg103
      obtain rfl := Option.some.inj H
      refine Tr.pass rfl rfl rfl rfl rfl (by decide) ?_
      refine Tr.pass rfl rfl rfl rfl rfl (by decide) ?_
      refine Tr.pass rfl rfl rfl rfl rfl (by decide) ?_
      refine Tr.pass rfl rfl rfl rfl rfl (by decide) ?_
      refine Tr.val (wn rfl) rfl (fun _ _ h1 h2 => run_pickT (h1.ev rfl) (h1.ev rfl)) ?_
      exact Tr.nil (Tr.fin0 (.cons rfl .nil) (.cons rfl .nil))
  · show Tr _ _ (LF [(12, (.bool g103))]) (LE [(1, bx b100 #[(.bool p0.Flip), (.int .i64 p0.Quarters), (.int .i64 p0.At.X), (.int .i64 p0.At.Y)] 46)]) _
    refine Tr.nil (Tr.normThen ?_)
    refine Tr.cond rfl H (fun H => ?_) (fun H => ?_)
    · refine Tr.seq ?_
      refine Tr.region ?_
      refine Tr.val (wn rfl) rfl (fun _ _ h1 h2 => run_assign (h1.ev rfl)) ?_
      refine Tr.nil (Tr.normThen ?_)
      refine Tr.ret (Tr.retThen ?_)
      obtain rfl := Option.some.inj H
      exact Tr.out (m := [(.int .i64 1)]) [] (res_tmp rfl res_nil) (fun W hW => ⟨rfl, hW.low leB⟩)
    · refine Tr.skip (Tr.normThen ?_)
      refine Tr.seq ?_
      refine Tr.region ?_
      refine Tr.val (wn rfl) rfl (fun _ _ h1 h2 => run_assign (h1.ev rfl)) ?_
      refine Tr.nil (Tr.normThen ?_)
      refine Tr.ret ?_
      obtain rfl := Option.some.inj H
      exact Tr.out (m := [(.int .i64 0)]) [] (res_tmp rfl res_nil) (fun W hW => ⟨rfl, hW.low leB⟩)

theorem F_shape_Back_ok (N : Nat) {w : Bs} (p0 : TTurn) (r : (TTurn × Int)) (H : F_shape_Back N p0 = some r) (hE : HF w w.W E0) : Calls Try.prog 58 [(.agg #[(.bool p0.Flip), (.int .i64 p0.Quarters), (.int .i64 p0.At.X), (.int .i64 p0.At.Y)])].toArray w.W fun e W' => e = .returned (.tuple #[(.agg #[(.bool r.1.Flip), (.int .i64 r.1.Quarters), (.int .i64 r.1.At.X), (.int .i64 r.1.At.Y)]), (.int .i64 r.2)]) ∧ HF w W' E0 := by
  unfold F_shape_Back at H
  have leB := Bs.Le.refl w
  refine Tr.enter (n := 39) Try.func58 rfl rfl rfl hE ?_
  refine Tr.seq ?_
  refine Tr.region ?_
  refine Tr.box 1 (cs := [(.bool p0.Flip), (.int .i64 p0.Quarters), (.int .i64 p0.At.X), (.int .i64 p0.At.Y)]) (wn rfl) rfl rfl rfl fun b100 => ?_
  refine Tr.alloc 2 (wn rfl) rfl ze_46 fun b101 => ?_
  refine Tr.val (wn rfl) rfl (fun _ _ h1 h2 => run_assign (h1.ev rfl)) ?_
  refine Tr.nil (Tr.normThen ?_)
  refine Tr.seq ?_
  refine Tr.seq ?_
  refine Tr.region ?_
  refine Tr.val (wn rfl) rfl (fun _ _ h1 h2 => run_loadN (cs := [(.bool p0.Flip), (.int .i64 p0.Quarters), (.int .i64 p0.At.X), (.int .i64 p0.At.Y)]) ag_46 sz_46 (h1.ev rfl) (CellsAt.take (rdb h2 (vs := [(.bool p0.Flip), (.int .i64 p0.Quarters), (.int .i64 p0.At.X), (.int .i64 p0.At.Y)]) (k := 1) rfl 0) 4) rfl) ?_
  obtain ⟨y102, hy102, H⟩ := bnd H
  refine Tr.call0 (r := (.int .i64 y102)) (wn rfl) rfl Try.call99 (evl_cons rfl evl_nil) (fun W hW => F_shape_CheckTurn_ok p0 y102 hy102 (HF.start _)) ?_
  refine Tr.val (wn rfl) rfl (fun _ _ h1 h2 => run_assign (h1.ev rfl)) ?_
  refine Tr.nil (Tr.normThen ?_)
  refine Tr.seq ?_
  refine Tr.region ?_
  refine Tr.val (wn rfl) rfl (fun _ _ h1 h2 => run_move (h1.ev rfl)) ?_
  refine Tr.val (wn rfl) rfl (fun _ _ h1 h2 => run_neq (h1.ev rfl) (h1.ev rfl)) ?_
  refine Tr.nil (Tr.normThen ?_)
  refine Tr.cond rfl H (fun H => ?_) (fun H => ?_)
  · refine Tr.seq ?_
    refine Tr.region ?_
    refine Tr.build (vs := []) (cs := [(.bool false), (.int .i64 0), (.int .i64 0), (.int .i64 0)]) (wn rfl) rfl evs_nil (by kernel_rfl) ?_
    refine Tr.val (wn rfl) rfl (fun _ _ h1 h2 => run_move (h1.ev rfl)) ?_
    refine Tr.store 2 (cs := [(.bool false), (.int .i64 0), (.int .i64 0), (.int .i64 0)]) [(.bool false), (.int .i64 0), (.int .i64 0), (.int .i64 0)] (wn rfl) rfl rfl rfl rfl sz_46 rfl rfl rfl ?_
    refine Tr.val (wn rfl) rfl (fun _ _ h1 h2 => run_assign (h1.ev rfl)) ?_
    refine Tr.nil (Tr.normThen ?_)
    refine Tr.ret (Tr.retThen ?_)
    obtain rfl := Option.some.inj H
    exact Tr.out (m := [(.agg #[(.bool false), (.int .i64 0), (.int .i64 0), (.int .i64 0)]), (.int .i64 y102)]) [2] (res_cell rfl rfl ag_46 sz_46 (res_tmp rfl res_nil)) (fun W hW => ⟨rfl, hW.low leB⟩)
  · refine Tr.skip (Tr.normThen ?_)
    refine Tr.seq ?_
    refine Tr.region ?_
    refine Tr.val (wn rfl) rfl (fun _ _ h1 h2 => run_fieldAddr fo_46_0 (h1.ev rfl)) ?_
    refine Tr.val (wn rfl) rfl (fun _ _ h1 h2 => run_load1 ag_4 (h1.ev rfl) (rdb h2 (vs := [(.bool p0.Flip), (.int .i64 p0.Quarters), (.int .i64 p0.At.X), (.int .i64 p0.At.Y)]) (k := 1) rfl 0) rfl) ?_
    refine Tr.val (wn rfl) rfl (fun _ _ h1 h2 => run_fieldAddr fo_46_1 (h1.ev rfl)) ?_
    refine Tr.val (wn rfl) rfl (fun _ _ h1 h2 => run_load1 ag_3 (h1.ev rfl) (rdb h2 (vs := [(.bool p0.Flip), (.int .i64 p0.Quarters), (.int .i64 p0.At.X), (.int .i64 p0.At.Y)]) (k := 1) rfl 1) rfl) ?_
    refine Tr.build (vs := [(0, (.bool p0.Flip)), (1, (.int .i64 p0.Quarters))]) (cs := [(.bool p0.Flip), (.int .i64 p0.Quarters), (.int .i64 0), (.int .i64 0)]) (wn rfl) rfl (evs_cons rfl (evs_cons rfl evs_nil)) (by kernel_rfl) ?_
    refine Tr.alloc 3 (wn rfl) rfl ze_46 fun b103 => ?_
    refine Tr.store 3 (cs := [(.bool p0.Flip), (.int .i64 p0.Quarters), (.int .i64 0), (.int .i64 0)]) [(.bool p0.Flip), (.int .i64 p0.Quarters), (.int .i64 0), (.int .i64 0)] (wn rfl) rfl rfl rfl rfl sz_46 rfl rfl rfl ?_
    refine Tr.nil (Tr.normThen ?_)
    have leJ105 := Bs.Le.refl w
    refine Tr.cutJ (σ := Int) (fun w s => F_shape_Back_J1 N p0 s = some r) (fun s => [(1, (.pointer (some ⟨b100, 0, none⟩))), (2, (.pointer (some ⟨b101, 0, none⟩))), (5, (.pointer (some ⟨b103, 0, none⟩)))]) (fun s => [(1, bx b100 #[(.bool p0.Flip), (.int .i64 p0.Quarters), (.int .i64 p0.At.X), (.int .i64 p0.At.Y)] 46), (2, bx b101 #[(.bool false), (.int .i64 0), (.int .i64 0), (.int .i64 0)] 46), (3, bx b103 #[(.bool p0.Flip), (.int .i64 s), (.int .i64 0), (.int .i64 0)] 46)]) ?_ ?_
    · refine Tr.seq ?_
      refine Tr.region ?_
      refine Tr.val (wn rfl) rfl (fun _ _ h1 h2 => run_fieldAddr fo_46_0 (h1.ev rfl)) ?_
      refine Tr.val (wn rfl) rfl (fun _ _ h1 h2 => run_load1 ag_4 (h1.ev rfl) (rdb h2 (vs := [(.bool p0.Flip), (.int .i64 p0.Quarters), (.int .i64 p0.At.X), (.int .i64 p0.At.Y)]) (k := 1) rfl 0) rfl) ?_
      refine Tr.val (wn rfl) rfl (fun _ _ h1 h2 => run_not (h1.ev rfl)) ?_
      refine Tr.nil (Tr.normThen ?_)
      refine Tr.cond rfl H (fun H => ?_) (fun H => ?_)
      · refine Tr.region ?_
        refine Tr.val (wn rfl) rfl (fun _ _ h1 h2 => run_fieldAddr fo_46_1 (h1.ev rfl)) ?_
        refine Tr.val (wn rfl) rfl (fun _ _ h1 h2 => run_load1 ag_3 (h1.ev rfl) (rdb h2 (vs := [(.bool p0.Flip), (.int .i64 p0.Quarters), (.int .i64 p0.At.X), (.int .i64 p0.At.Y)]) (k := 1) rfl 1) rfl) ?_
        refine Tr.val (wn rfl) rfl (fun _ _ h1 h2 => run_sub (h1.ev rfl) (h1.ev rfl)) ?_
        refine Tr.val (wn rfl) rfl (fun _ _ h1 h2 => run_rem (h1.ev rfl) (h1.ev rfl) (by decide)) ?_
        refine Tr.val (wn rfl) rfl (fun _ _ h1 h2 => run_fieldAddr fo_46_1 (h1.ev rfl)) ?_
        refine Tr.store 3 (cs := [(.int .i64 (Int.tmod (w64 (4 - p0.Quarters)) 4))]) [(.bool p0.Flip), (.int .i64 (Int.tmod (w64 (4 - p0.Quarters)) 4)), (.int .i64 0), (.int .i64 0)] (wn rfl) rfl rfl rfl rfl sz_3 rfl rfl rfl ?_
        refine Tr.nil ?_
        exact Tr.backThen leJ105 (Int.tmod (w64 (4 - p0.Quarters)) 4) H (.cons rfl (.cons rfl (.cons rfl .nil))) (.cons rfl (.cons rfl (.cons rfl .nil)))
      · refine Tr.skip ?_
        exact Tr.backThen leJ105 p0.Quarters H (.cons rfl (.cons rfl (.cons rfl .nil))) (.cons rfl (.cons rfl (.cons rfl .nil)))
    · intro w x104 hlJ106 hs
      have H := hs
      replace H : F_shape_Back_J1 N p0 x104 = some r := H
      replace leB := leB.trans hlJ106
      unfold F_shape_Back_J1 at H
      show Tr _ _ (LF [(1, (.pointer (some ⟨b100, 0, none⟩))), (2, (.pointer (some ⟨b101, 0, none⟩))), (5, (.pointer (some ⟨b103, 0, none⟩)))]) (LE [(1, bx b100 #[(.bool p0.Flip), (.int .i64 p0.Quarters), (.int .i64 p0.At.X), (.int .i64 p0.At.Y)] 46), (2, bx b101 #[(.bool false), (.int .i64 0), (.int .i64 0), (.int .i64 0)] 46), (3, bx b103 #[(.bool p0.Flip), (.int .i64 x104), (.int .i64 0), (.int .i64 0)] 46)]) _
      refine Tr.seq ?_
      refine Tr.region ?_
      refine Tr.val (wn rfl) rfl (fun _ _ h1 h2 => run_fieldAddr fo_46_2 (h1.ev rfl)) ?_
      refine Tr.val (wn rfl) rfl (fun _ _ h1 h2 => run_loadN (cs := [(.int .i64 p0.At.X), (.int .i64 p0.At.Y)]) ag_32 sz_32 (h1.ev rfl) (CellsAt.take (rdb h2 (vs := [(.bool p0.Flip), (.int .i64 p0.Quarters), (.int .i64 p0.At.X), (.int .i64 p0.At.Y)]) (k := 1) rfl 2) 2) rfl) ?_
      refine Tr.val (wn rfl) rfl (fun _ _ h1 h2 => run_loadN (cs := [(.bool p0.Flip), (.int .i64 x104), (.int .i64 0), (.int .i64 0)]) ag_46 sz_46 (h1.ev rfl) (CellsAt.take (rdb h2 (vs := [(.bool p0.Flip), (.int .i64 x104), (.int .i64 0), (.int .i64 0)]) (k := 3) rfl 0) 4) rfl) ?_
      obtain ⟨y107, hy107, H⟩ := bnd H
      refine Tr.call0 (r := (.agg #[(.int .i64 y107.X), (.int .i64 y107.Y)])) (wn rfl) rfl Try.call54 (evl_cons rfl (evl_cons rfl evl_nil)) (fun W hW => F_shape_TurnPoint_ok N p0.At (TTurn.mk p0.Flip x104 (TPoint.mk 0 0)) y107 hy107 (HF.start _)) ?_
      refine Tr.alloc 4 (wn rfl) rfl ze_32 fun b108 => ?_
      refine Tr.store 4 (cs := [(.int .i64 y107.X), (.int .i64 y107.Y)]) [(.int .i64 y107.X), (.int .i64 y107.Y)] (wn rfl) rfl rfl rfl rfl sz_32 rfl rfl rfl ?_
      refine Tr.nil (Tr.normThen ?_)
      refine Tr.seq ?_
      refine Tr.region ?_
      refine Tr.val (wn rfl) rfl (fun _ _ h1 h2 => run_fieldAddr fo_32_0 (h1.ev rfl)) ?_
      refine Tr.val (wn rfl) rfl (fun _ _ h1 h2 => run_load1 ag_3 (h1.ev rfl) (rdb h2 (vs := [(.int .i64 y107.X), (.int .i64 y107.Y)]) (k := 4) rfl 0) rfl) ?_
      refine Tr.val (wn rfl) rfl (fun _ _ h1 h2 => run_neg (h1.ev rfl)) ?_
      refine Tr.val (wn rfl) rfl (fun _ _ h1 h2 => run_fieldAddr fo_32_1 (h1.ev rfl)) ?_
      refine Tr.val (wn rfl) rfl (fun _ _ h1 h2 => run_load1 ag_3 (h1.ev rfl) (rdb h2 (vs := [(.int .i64 y107.X), (.int .i64 y107.Y)]) (k := 4) rfl 1) rfl) ?_
      refine Tr.val (wn rfl) rfl (fun _ _ h1 h2 => run_neg (h1.ev rfl)) ?_
      refine Tr.build (vs := [(0, (.int .i64 (w64 (0 - y107.X)))), (1, (.int .i64 (w64 (0 - y107.Y))))]) (cs := [(.int .i64 (w64 (0 - y107.X))), (.int .i64 (w64 (0 - y107.Y)))]) (wn rfl) rfl (evs_cons rfl (evs_cons rfl evs_nil)) (by kernel_rfl) ?_
      refine Tr.val (wn rfl) rfl (fun _ _ h1 h2 => run_fieldAddr fo_46_2 (h1.ev rfl)) ?_
      refine Tr.store 3 (cs := [(.int .i64 (w64 (0 - y107.X))), (.int .i64 (w64 (0 - y107.Y)))]) [(.bool p0.Flip), (.int .i64 x104), (.int .i64 (w64 (0 - y107.X))), (.int .i64 (w64 (0 - y107.Y)))] (wn rfl) rfl rfl rfl rfl sz_32 rfl rfl rfl ?_
      refine Tr.nil (Tr.normThen ?_)
      refine Tr.seq ?_
      refine Tr.region ?_
      refine Tr.val (wn rfl) rfl (fun _ _ h1 h2 => run_loadN (cs := [(.bool p0.Flip), (.int .i64 x104), (.int .i64 (w64 (0 - y107.X))), (.int .i64 (w64 (0 - y107.Y)))]) ag_46 sz_46 (h1.ev rfl) (CellsAt.take (rdb h2 (vs := [(.bool p0.Flip), (.int .i64 x104), (.int .i64 (w64 (0 - y107.X))), (.int .i64 (w64 (0 - y107.Y)))]) (k := 3) rfl 0) 4) rfl) ?_
      refine Tr.store 2 (cs := [(.bool p0.Flip), (.int .i64 x104), (.int .i64 (w64 (0 - y107.X))), (.int .i64 (w64 (0 - y107.Y)))]) [(.bool p0.Flip), (.int .i64 x104), (.int .i64 (w64 (0 - y107.X))), (.int .i64 (w64 (0 - y107.Y)))] (wn rfl) rfl rfl rfl rfl sz_46 rfl rfl rfl ?_
      refine Tr.val (wn rfl) rfl (fun _ _ h1 h2 => run_assign (h1.ev rfl)) ?_
      refine Tr.nil (Tr.normThen ?_)
      refine Tr.ret ?_
      obtain rfl := Option.some.inj H
      exact Tr.out (m := [(.agg #[(.bool p0.Flip), (.int .i64 x104), (.int .i64 (w64 (0 - y107.X))), (.int .i64 (w64 (0 - y107.Y)))]), (.int .i64 0)]) [2] (res_cell rfl rfl ag_46 sz_46 (res_tmp rfl res_nil)) (fun W hW => ⟨rfl, hW.low leB⟩)

theorem F_panel_ToBoard_ok (N : Nat) {w : Bs} (p0 : TPanel) (Ap0_0 : Option Addr) (cp0_0 : Nat) (hp0_0 : Sl w.R w.W fl_TBoardKind Ap0_0 cp0_0 p0.Kinds) (Ap0_1 : Option Addr) (cp0_1 : Nat) (hp0_1 : Sl w.R w.W fl_TSlot Ap0_1 cp0_1 p0.Slots) (Ap0_2 : Option Addr) (cp0_2 : Nat) (hp0_2 : Sl w.R w.W fl_TPoint Ap0_2 cp0_2 p0.Marks) (p1 : TPoint) (r : (Int × TPoint × Bool × Int)) (H : F_panel_ToBoard N p0 p1 = some r) (hE : HF w w.W E0) : Calls Try.prog 24 [(.agg #[(.int .i64 p0.W), (.int .i64 p0.H), (.int .i64 p0.Rail), (.int .i64 p0.Gap), (.slice Ap0_0 (p0.Kinds).length cp0_0), (.slice Ap0_1 (p0.Slots).length cp0_1), (.slice Ap0_2 (p0.Marks).length cp0_2)]), (.agg #[(.int .i64 p1.X), (.int .i64 p1.Y)])].toArray w.W fun e W' => e = .returned (.tuple #[(.int .i64 r.1), (.agg #[(.int .i64 r.2.1.X), (.int .i64 r.2.1.Y)]), (.bool r.2.2.1), (.int .i64 r.2.2.2)]) ∧ HF w W' E0 := by
  unfold F_panel_ToBoard at H
  have leB := Bs.Le.refl w
  refine Tr.enter (n := 68) Try.func24 rfl rfl rfl hE ?_
  refine Tr.seq ?_
  refine Tr.region ?_
  refine Tr.box 1 (cs := [(.int .i64 p0.W), (.int .i64 p0.H), (.int .i64 p0.Rail), (.int .i64 p0.Gap), (.slice Ap0_0 (p0.Kinds).length cp0_0), (.slice Ap0_1 (p0.Slots).length cp0_1), (.slice Ap0_2 (p0.Marks).length cp0_2)]) (wn rfl) rfl rfl rfl fun b100 => ?_
  refine Tr.box 2 (cs := [(.int .i64 p1.X), (.int .i64 p1.Y)]) (wn rfl) rfl rfl rfl fun b101 => ?_
  refine Tr.val (wn rfl) rfl (fun _ _ h1 h2 => run_assign (h1.ev rfl)) ?_
  refine Tr.alloc 3 (wn rfl) rfl ze_32 fun b102 => ?_
  refine Tr.val (wn rfl) rfl (fun _ _ h1 h2 => run_assign (h1.ev rfl)) ?_
  refine Tr.val (wn rfl) rfl (fun _ _ h1 h2 => run_assign (h1.ev rfl)) ?_
  refine Tr.nil (Tr.normThen ?_)
  refine Tr.seq ?_
  refine Tr.region ?_
  refine Tr.val (wn rfl) rfl (fun _ _ h1 h2 => run_loadN (cs := [(.int .i64 p0.W), (.int .i64 p0.H), (.int .i64 p0.Rail), (.int .i64 p0.Gap), (.slice Ap0_0 (p0.Kinds).length cp0_0), (.slice Ap0_1 (p0.Slots).length cp0_1), (.slice Ap0_2 (p0.Marks).length cp0_2)]) ag_26 sz_26 (h1.ev rfl) (CellsAt.take (rdb h2 (vs := [(.int .i64 p0.W), (.int .i64 p0.H), (.int .i64 p0.Rail), (.int .i64 p0.Gap), (.slice Ap0_0 (p0.Kinds).length cp0_0), (.slice Ap0_1 (p0.Slots).length cp0_1), (.slice Ap0_2 (p0.Marks).length cp0_2)]) (k := 1) rfl 0) 7) rfl) ?_
  obtain ⟨y103, hy103, H⟩ := bnd H
  refine Tr.callM [4] [emp] (U := (Option Addr × Nat)) (fun u => (.tuple #[(.slice u.1 (y103.1).length u.2), (.int .i64 y103.2)])) (fun u => SlF u.1 (y103.1).length u.2) (fun u => [ow u.1 u.2 42 fl_TRect y103.1]) rfl (pk_cons rfl pk_nil) (fun _ => rfl) (wn rfl) rfl Try.call47 (evl_cons rfl evl_nil) (fun W hW hp hE => F_panel_open_ok N p0 Ap0_0 cp0_0 (hp0_0.ext (hW.extS hp)) Ap0_1 cp0_1 (hp0_1.ext (hW.extS hp)) Ap0_2 cp0_2 (hp0_2.ext (hW.extS hp)) y103 hy103 hE) ?_
  intro u hu
  obtain ⟨Ay103_0, cy103_0⟩ := u
  have gy103_0 := hu
  have hgy103_0 : SlF Ay103_0 (y103.1).length cy103_0 := gy103_0 --@phi
  show Tr _ _ (uf _ 16 (.tuple #[(.slice Ay103_0 (y103.1).length cy103_0), (.int .i64 y103.2)])) (up _ 4 (ow Ay103_0 cy103_0 42 fl_TRect y103.1)) _
  refine Tr.val (wn rfl) rfl (fun _ _ h1 h2 => run_move (h1.ev rfl)) ?_
  refine Tr.val (wn rfl) rfl (fun _ _ h1 h2 => run_extract (h1.ev rfl) rfl) ?_
  refine Tr.val (wn rfl) rfl (fun _ _ h1 h2 => run_extract (h1.ev rfl) rfl) ?_
  refine Tr.val (wn rfl) rfl (fun _ _ h1 h2 => run_assign (h1.ev rfl)) ?_
  refine Tr.val (wn rfl) rfl (fun _ _ h1 h2 => run_assign (h1.ev rfl)) ?_
  refine Tr.nil (Tr.normThen ?_)
  refine Tr.seq ?_
  refine Tr.seq ?_
  refine Tr.region ?_
  refine Tr.val (wn rfl) rfl (fun _ _ h1 h2 => run_move (h1.ev rfl)) ?_
  refine Tr.val (wn rfl) rfl (fun _ _ h1 h2 => run_neq (h1.ev rfl) (h1.ev rfl)) ?_
  refine Tr.nil (Tr.normThen ?_)
  refine Tr.cond rfl H (fun H => ?_) (fun H => ?_)
  · refine Tr.seq ?_
    refine Tr.region ?_
    refine Tr.build (vs := []) (cs := [(.int .i64 0), (.int .i64 0)]) (wn rfl) rfl evs_nil (by kernel_rfl) ?_
    refine Tr.val (wn rfl) rfl (fun _ _ h1 h2 => run_move (h1.ev rfl)) ?_
    refine Tr.val (wn rfl) rfl (fun _ _ h1 h2 => run_assign (h1.ev rfl)) ?_
    refine Tr.store 3 (cs := [(.int .i64 0), (.int .i64 0)]) [(.int .i64 0), (.int .i64 0)] (wn rfl) rfl rfl rfl rfl sz_32 rfl rfl rfl ?_
    refine Tr.val (wn rfl) rfl (fun _ _ h1 h2 => run_assign (h1.ev rfl)) ?_
    refine Tr.val (wn rfl) rfl (fun _ _ h1 h2 => run_assign (h1.ev rfl)) ?_
    refine Tr.nil (Tr.normThen ?_)
    refine Tr.ret (Tr.retThen ?_)
    obtain rfl := Option.some.inj H
    exact Tr.out (m := [(.int .i64 0), (.agg #[(.int .i64 0), (.int .i64 0)]), (.bool false), (.int .i64 y103.2)]) [3] (res_tmp rfl (res_cell rfl rfl ag_32 sz_32 (res_tmp rfl (res_tmp rfl res_nil)))) (fun W hW => ⟨rfl, hW.low leB⟩)
  · refine Tr.skip (Tr.normThen ?_)
    refine Tr.seq ?_
    refine Tr.seq ?_
    refine Tr.region ?_
    refine Tr.val (wn rfl) rfl (fun _ _ h1 h2 => run_loadN (cs := [(.int .i64 p0.W), (.int .i64 p0.H), (.int .i64 p0.Rail), (.int .i64 p0.Gap), (.slice Ap0_0 (p0.Kinds).length cp0_0), (.slice Ap0_1 (p0.Slots).length cp0_1), (.slice Ap0_2 (p0.Marks).length cp0_2)]) ag_26 sz_26 (h1.ev rfl) (CellsAt.take (rdb h2 (vs := [(.int .i64 p0.W), (.int .i64 p0.H), (.int .i64 p0.Rail), (.int .i64 p0.Gap), (.slice Ap0_0 (p0.Kinds).length cp0_0), (.slice Ap0_1 (p0.Slots).length cp0_1), (.slice Ap0_2 (p0.Marks).length cp0_2)]) (k := 1) rfl 0) 7) rfl) ?_
    refine Tr.val (wn rfl) rfl (fun _ _ h1 h2 => run_loadN (cs := [(.int .i64 p1.X), (.int .i64 p1.Y)]) ag_32 sz_32 (h1.ev rfl) (CellsAt.take (rdb h2 (vs := [(.int .i64 p1.X), (.int .i64 p1.Y)]) (k := 2) rfl 0) 2) rfl) ?_
    obtain ⟨y105, hy105, H⟩ := bnd H
    refine Tr.call0 (r := (.bool y105)) (wn rfl) rfl Try.call57 (evl_cons rfl (evl_cons rfl evl_nil)) (fun W hW => F_panel_isOnPanel_ok p0 Ap0_0 cp0_0 (hp0_0.ext hW.extAll) Ap0_1 cp0_1 (hp0_1.ext hW.extAll) Ap0_2 cp0_2 (hp0_2.ext hW.extAll) p1 y105 hy105 (HF.start _)) ?_
    refine Tr.val (wn rfl) rfl (fun _ _ h1 h2 => run_not (h1.ev rfl)) ?_
    refine Tr.nil (Tr.normThen ?_)
    refine Tr.cond rfl H (fun H => ?_) (fun H => ?_)
    · refine Tr.seq ?_
      refine Tr.region ?_
      refine Tr.build (vs := []) (cs := [(.int .i64 0), (.int .i64 0)]) (wn rfl) rfl evs_nil (by kernel_rfl) ?_
      refine Tr.val (wn rfl) rfl (fun _ _ h1 h2 => run_assign (h1.ev rfl)) ?_
      refine Tr.store 3 (cs := [(.int .i64 0), (.int .i64 0)]) [(.int .i64 0), (.int .i64 0)] (wn rfl) rfl rfl rfl rfl sz_32 rfl rfl rfl ?_
      refine Tr.val (wn rfl) rfl (fun _ _ h1 h2 => run_assign (h1.ev rfl)) ?_
      refine Tr.val (wn rfl) rfl (fun _ _ h1 h2 => run_assign (h1.ev rfl)) ?_
      refine Tr.nil (Tr.normThen ?_)
      refine Tr.ret (Tr.retThen ?_)
      obtain rfl := Option.some.inj H
      exact Tr.out (m := [(.int .i64 0), (.agg #[(.int .i64 0), (.int .i64 0)]), (.bool false), (.int .i64 1)]) [3] (res_tmp rfl (res_cell rfl rfl ag_32 sz_32 (res_tmp rfl (res_tmp rfl res_nil)))) (fun W hW => ⟨rfl, hW.low leB⟩)
    · refine Tr.skip (Tr.normThen ?_)
      refine Tr.seq ?_
      refine Tr.seq ?_
      refine Tr.region ?_
      refine Tr.val (wn rfl) rfl (fun _ _ h1 h2 => run_move (h1.ev rfl)) ?_
      refine Tr.val (wn rfl) rfl (fun _ _ h1 h2 => run_len un_38 (h1.ev rfl)) ?_
      refine Tr.val (wn rfl) rfl (fun _ _ h1 h2 => run_move (h1.ev rfl)) ?_
      refine Tr.nil (Tr.normThen ?_)
      refine Tr.block ?_
      refine Tr.loop (σ := (List TRect) × Nat) (fun m w s => m = s.1.length + 1 ∧ s.1 = List.drop s.2 y103.1 ∧ s.2 ≤ y103.1.length ∧ F_panel_ToBoard_L1 N p0 p1 s.1 s.2 = some r) (fun s => [(2, (.pointer (some ⟨b100, 0, none⟩))), (3, (.pointer (some ⟨b101, 0, none⟩))), (5, (.pointer (some ⟨b102, 0, none⟩))), (28, (.slice Ay103_0 (y103.1).length cy103_0)), (29, (.int .i64 (y103.1.length : Int))), (30, (.int .i64 (s.2 : Int)))]) (fun s => [(1, bx b100 #[(.int .i64 p0.W), (.int .i64 p0.H), (.int .i64 p0.Rail), (.int .i64 p0.Gap), (.slice Ap0_0 (p0.Kinds).length cp0_0), (.slice Ap0_1 (p0.Slots).length cp0_1), (.slice Ap0_2 (p0.Marks).length cp0_2)] 26), (2, bx b101 #[(.int .i64 p1.X), (.int .i64 p1.Y)] 32), (3, bx b102 #[(.int .i64 0), (.int .i64 0)] 32), (4, ow Ay103_0 cy103_0 42 fl_TRect y103.1)]) (y103.1.length + 1) (y103.1, 0) ⟨rfl, rfl, Nat.zero_le _, H⟩ (.cons rfl (.cons rfl (.cons rfl (.cons rfl (.cons rfl (.cons rfl .nil)))))) (.cons rfl (.cons rfl (.cons rfl (.cons rfl .nil)))) (fun _ _ h => absurd h.1 (by simp)) ?_
      intro w leF_panel_ToBoard_L1 m s hs
      obtain ⟨restF_panel_ToBoard_L1, iF_panel_ToBoard_L1⟩ := s
      obtain ⟨hmF_panel_ToBoard_L1, hdF_panel_ToBoard_L1, hiF_panel_ToBoard_L1, H⟩ := hs
      replace hdF_panel_ToBoard_L1 : restF_panel_ToBoard_L1 = List.drop iF_panel_ToBoard_L1 y103.1 := hdF_panel_ToBoard_L1
      replace H : F_panel_ToBoard_L1 N p0 p1 restF_panel_ToBoard_L1 iF_panel_ToBoard_L1 = some r := H
      replace hmF_panel_ToBoard_L1 : m + 1 = restF_panel_ToBoard_L1.length + 1 := hmF_panel_ToBoard_L1
      replace hp0_0 := hp0_0.leR leF_panel_ToBoard_L1
      replace hp0_1 := hp0_1.leR leF_panel_ToBoard_L1
      replace hp0_2 := hp0_2.leR leF_panel_ToBoard_L1
      replace leB := leB.trans leF_panel_ToBoard_L1
      obtain rfl : m = restF_panel_ToBoard_L1.length := by omega
      clear hmF_panel_ToBoard_L1
      show Tr _ _ (LF [(2, (.pointer (some ⟨b100, 0, none⟩))), (3, (.pointer (some ⟨b101, 0, none⟩))), (5, (.pointer (some ⟨b102, 0, none⟩))), (28, (.slice Ay103_0 (y103.1).length cy103_0)), (29, (.int .i64 (y103.1.length : Int))), (30, (.int .i64 (iF_panel_ToBoard_L1 : Int)))]) (LE [(1, bx b100 #[(.int .i64 p0.W), (.int .i64 p0.H), (.int .i64 p0.Rail), (.int .i64 p0.Gap), (.slice Ap0_0 (p0.Kinds).length cp0_0), (.slice Ap0_1 (p0.Slots).length cp0_1), (.slice Ap0_2 (p0.Marks).length cp0_2)] 26), (2, bx b101 #[(.int .i64 p1.X), (.int .i64 p1.Y)] 32), (3, bx b102 #[(.int .i64 0), (.int .i64 0)] 32), (4, ow Ay103_0 cy103_0 42 fl_TRect y103.1)]) _
      cases restF_panel_ToBoard_L1 with
      | nil =>
        rw [F_panel_ToBoard_L1.eq_1] at H
        refine Tr.seq ?_
        refine Tr.region ?_
        refine Tr.val (wn rfl) rfl (fun _ _ h1 h2 => run_lss (h1.ev rfl) (h1.ev rfl)) ?_
        refine Tr.nil (Tr.normThen ?_)
        refine Tr.seq ?_
        refine Tr.condF rfl (range_nil hdF_panel_ToBoard_L1) ?_
        refine Tr.exit (Tr.exitThen (Tr.exitThen (Tr.exitBlock (Tr.normThen ?_))))
        refine Tr.seq ?_
        refine Tr.region ?_
        refine Tr.build (vs := []) (cs := [(.int .i64 0), (.int .i64 0)]) (wn rfl) rfl evs_nil (by kernel_rfl) ?_
        refine Tr.val (wn rfl) rfl (fun _ _ h1 h2 => run_assign (h1.ev rfl)) ?_
        refine Tr.store 3 (cs := [(.int .i64 0), (.int .i64 0)]) [(.int .i64 0), (.int .i64 0)] (wn rfl) rfl rfl rfl rfl sz_32 rfl rfl rfl ?_
        refine Tr.val (wn rfl) rfl (fun _ _ h1 h2 => run_assign (h1.ev rfl)) ?_
        refine Tr.val (wn rfl) rfl (fun _ _ h1 h2 => run_assign (h1.ev rfl)) ?_
        refine Tr.nil (Tr.normThen ?_)
        refine Tr.ret ?_
        obtain rfl := Option.some.inj H
        exact Tr.out (m := [(.int .i64 0), (.agg #[(.int .i64 0), (.int .i64 0)]), (.bool false), (.int .i64 0)]) [3] (res_tmp rfl (res_cell rfl rfl ag_32 sz_32 (res_tmp rfl (res_tmp rfl res_nil)))) (fun W hW => ⟨rfl, hW.low leB⟩)
      | cons xF_panel_ToBoard_L1 restF_panel_ToBoard_L1 =>
        rw [F_panel_ToBoard_L1.eq_2] at H
        refine Tr.seq ?_
        refine Tr.region ?_
        refine Tr.val (wn rfl) rfl (fun _ _ h1 h2 => run_lss (h1.ev rfl) (h1.ev rfl)) ?_
        refine Tr.nil (Tr.normThen ?_)
        refine Tr.seq ?_
        refine Tr.condT rfl (range_on hdF_panel_ToBoard_L1) ?_
        refine Tr.skip (Tr.normThen ?_)
        refine Tr.seq ?_
        refine Tr.block ?_
        refine Tr.seq ?_
        refine Tr.region ?_
        refine Tr.val (wn rfl) rfl (fun _ _ h1 h2 => run_move (h1.ev rfl)) ?_
        refine Tr.val (wn rfl) rfl (fun _ _ h1 h2 => run_indexAddr el_38 (h1.ev rfl) hgy103_0 (h1.ev rfl) (Int.natCast_nonneg _) (range_lt hdF_panel_ToBoard_L1)) ?_
        refine Tr.val (wn rfl) rfl (fun _ _ h1 h2 => run_loadN (cs := [(.int .i64 xF_panel_ToBoard_L1.X0), (.int .i64 xF_panel_ToBoard_L1.Y0), (.int .i64 xF_panel_ToBoard_L1.X1), (.int .i64 xF_panel_ToBoard_L1.Y1)]) ag_42 sz_42 (h1.ev rfl) (CellsAt.take (rdo ef_TRect (k := 4) h2 rfl (range_at hdF_panel_ToBoard_L1)) 4) rfl) ?_
        refine Tr.alloc 7 (wn rfl) rfl ze_42 fun b119 => ?_
        refine Tr.val (wn rfl) rfl (fun _ _ h1 h2 => run_assign (h1.ev rfl)) ?_
        refine Tr.store 7 (cs := [(.int .i64 xF_panel_ToBoard_L1.X0), (.int .i64 xF_panel_ToBoard_L1.Y0), (.int .i64 xF_panel_ToBoard_L1.X1), (.int .i64 xF_panel_ToBoard_L1.Y1)]) [(.int .i64 xF_panel_ToBoard_L1.X0), (.int .i64 xF_panel_ToBoard_L1.Y0), (.int .i64 xF_panel_ToBoard_L1.X1), (.int .i64 xF_panel_ToBoard_L1.Y1)] (wn rfl) rfl rfl rfl rfl sz_42 rfl rfl rfl ?_
        refine Tr.nil (Tr.normThen ?_)
        refine Tr.seq ?_
        refine Tr.region ?_
        refine Tr.val (wn rfl) rfl (fun _ _ h1 h2 => run_fieldAddr fo_32_0 (h1.ev rfl)) ?_
        refine Tr.val (wn rfl) rfl (fun _ _ h1 h2 => run_load1 ag_3 (h1.ev rfl) (rdb h2 (vs := [(.int .i64 p1.X), (.int .i64 p1.Y)]) (k := 2) rfl 0) rfl) ?_
        refine Tr.val (wn rfl) rfl (fun _ _ h1 h2 => run_fieldAddr fo_42_0 (h1.ev rfl)) ?_
        refine Tr.val (wn rfl) rfl (fun _ _ h1 h2 => run_load1 ag_3 (h1.ev rfl) (rdb h2 (vs := [(.int .i64 xF_panel_ToBoard_L1.X0), (.int .i64 xF_panel_ToBoard_L1.Y0), (.int .i64 xF_panel_ToBoard_L1.X1), (.int .i64 xF_panel_ToBoard_L1.Y1)]) (k := 7) rfl 0) rfl) ?_
        refine Tr.val (wn rfl) rfl (fun _ _ h1 h2 => run_fieldAddr fo_42_2 (h1.ev rfl)) ?_
        refine Tr.val (wn rfl) rfl (fun _ _ h1 h2 => run_load1 ag_3 (h1.ev rfl) (rdb h2 (vs := [(.int .i64 xF_panel_ToBoard_L1.X0), (.int .i64 xF_panel_ToBoard_L1.Y0), (.int .i64 xF_panel_ToBoard_L1.X1), (.int .i64 xF_panel_ToBoard_L1.Y1)]) (k := 7) rfl 2) rfl) ?_
        obtain ⟨y120, hy120, H⟩ := bnd H
        refine Tr.call0 (r := (.bool y120)) (wn rfl) rfl Try.call46 (evl_cons rfl (evl_cons rfl (evl_cons rfl evl_nil))) (fun W hW => F_panel_within_ok p1.X xF_panel_ToBoard_L1.X0 xF_panel_ToBoard_L1.X1 y120 hy120 (HF.start _)) ?_
        refine Tr.val (wn rfl) rfl (fun _ _ h1 h2 => run_move (h1.ev rfl)) ?_
        obtain ⟨g122, hg122, H⟩ := bnd H
        refine Tr.mid0 8 [(2, (.pointer (some ⟨b100, 0, none⟩))), (3, (.pointer (some ⟨b101, 0, none⟩))), (5, (.pointer (some ⟨b102, 0, none⟩))), (10, (.int .i64 (iF_panel_ToBoard_L1 : Int))), (28, (.slice Ay103_0 (y103.1).length cy103_0)), (29, (.int .i64 (y103.1.length : Int))), (30, (.int .i64 (iF_panel_ToBoard_L1 : Int))), (50, (.bool g122))] [(1, bx b100 #[(.int .i64 p0.W), (.int .i64 p0.H), (.int .i64 p0.Rail), (.int .i64 p0.Gap), (.slice Ap0_0 (p0.Kinds).length cp0_0), (.slice Ap0_1 (p0.Slots).length cp0_1), (.slice Ap0_2 (p0.Marks).length cp0_2)] 26), (2, bx b101 #[(.int .i64 p1.X), (.int .i64 p1.Y)] 32), (3, bx b102 #[(.int .i64 0), (.int .i64 0)] 32), (4, ow Ay103_0 cy103_0 42 fl_TRect y103.1), (7, bx b119 #[(.int .i64 xF_panel_ToBoard_L1.X0), (.int .i64 xF_panel_ToBoard_L1.Y0), (.int .i64 xF_panel_ToBoard_L1.X1), (.int .i64 xF_panel_ToBoard_L1.Y1)] 42)] ?_ ?_
        · cases hg129 : y120
          · rw [hg129] at hg122
            rw [if_neg (by decide)] at hg122
            have H := hg122
            obtain rfl := Option.some.inj H
            refine Tr.pass rfl rfl rfl rfl rfl (by decide) ?_
            refine Tr.pass rfl rfl rfl rfl rfl (by decide) ?_
            refine Tr.pass rfl rfl rfl rfl rfl (by decide) ?_
            refine Tr.pass rfl rfl rfl rfl rfl (by decide) ?_
            refine Tr.pass rfl rfl rfl rfl rfl (by decide) ?_
            refine Tr.pass rfl rfl rfl rfl rfl (by decide) ?_
            refine Tr.pass rfl rfl rfl rfl rfl (by decide) ?_
            refine Tr.val (wn rfl) rfl (fun _ _ h1 h2 => run_pickF (h1.ev rfl) (h1.ev rfl)) ?_
            exact Tr.nil (Tr.fin0 (.cons rfl (.cons rfl (.cons rfl (.cons rfl (.cons rfl (.cons rfl (.cons rfl (.cons rfl .nil)))))))) (.cons rfl (.cons rfl (.cons rfl (.cons rfl (.cons rfl .nil))))))
          · rw [hg129] at hg122
            rw [if_pos rfl] at hg122
            have H := hg122
            refine Tr.val (wg rfl rfl rfl) rfl (fun _ _ h1 h2 => run_fieldAddr fo_32_1 (h1.ev rfl)) ?_
            refine Tr.val (wg rfl rfl rfl) rfl (fun _ _ h1 h2 => run_load1 ag_3 (h1.ev rfl) (rdb h2 (vs := [(.int .i64 p1.X), (.int .i64 p1.Y)]) (k := 2) rfl 1) rfl) ?_
            refine Tr.val (wg rfl rfl rfl) rfl (fun _ _ h1 h2 => run_fieldAddr fo_42_1 (h1.ev rfl)) ?_
            refine Tr.val (wg rfl rfl rfl) rfl (fun _ _ h1 h2 => run_load1 ag_3 (h1.ev rfl) (rdb h2 (vs := [(.int .i64 xF_panel_ToBoard_L1.X0), (.int .i64 xF_panel_ToBoard_L1.Y0), (.int .i64 xF_panel_ToBoard_L1.X1), (.int .i64 xF_panel_ToBoard_L1.Y1)]) (k := 7) rfl 1) rfl) ?_
            refine Tr.val (wg rfl rfl rfl) rfl (fun _ _ h1 h2 => run_fieldAddr fo_42_3 (h1.ev rfl)) ?_
            refine Tr.val (wg rfl rfl rfl) rfl (fun _ _ h1 h2 => run_load1 ag_3 (h1.ev rfl) (rdb h2 (vs := [(.int .i64 xF_panel_ToBoard_L1.X0), (.int .i64 xF_panel_ToBoard_L1.Y0), (.int .i64 xF_panel_ToBoard_L1.X1), (.int .i64 xF_panel_ToBoard_L1.Y1)]) (k := 7) rfl 3) rfl) ?_
            obtain ⟨y123, hy123, H⟩ := bnd H
            refine Tr.call0 (r := (.bool y123)) (wg rfl rfl rfl) rfl Try.call46 (evl_cons rfl (evl_cons rfl (evl_cons rfl evl_nil))) (fun W hW => F_panel_within_ok p1.Y xF_panel_ToBoard_L1.Y0 xF_panel_ToBoard_L1.Y1 y123 hy123 (HF.start _)) ?_
            refine Tr.val (wn rfl) rfl (fun _ _ h1 h2 => run_pickT (h1.ev rfl) (h1.ev rfl)) ?_
            obtain rfl := Option.some.inj H
            exact Tr.nil (Tr.fin0 (.cons rfl (.cons rfl (.cons rfl (.cons rfl (.cons rfl (.cons rfl (.cons rfl (.cons rfl .nil)))))))) (.cons rfl (.cons rfl (.cons rfl (.cons rfl (.cons rfl .nil))))))
        · show Tr _ _ (LF [(2, (.pointer (some ⟨b100, 0, none⟩))), (3, (.pointer (some ⟨b101, 0, none⟩))), (5, (.pointer (some ⟨b102, 0, none⟩))), (10, (.int .i64 (iF_panel_ToBoard_L1 : Int))), (28, (.slice Ay103_0 (y103.1).length cy103_0)), (29, (.int .i64 (y103.1.length : Int))), (30, (.int .i64 (iF_panel_ToBoard_L1 : Int))), (50, (.bool g122))]) (LE [(1, bx b100 #[(.int .i64 p0.W), (.int .i64 p0.H), (.int .i64 p0.Rail), (.int .i64 p0.Gap), (.slice Ap0_0 (p0.Kinds).length cp0_0), (.slice Ap0_1 (p0.Slots).length cp0_1), (.slice Ap0_2 (p0.Marks).length cp0_2)] 26), (2, bx b101 #[(.int .i64 p1.X), (.int .i64 p1.Y)] 32), (3, bx b102 #[(.int .i64 0), (.int .i64 0)] 32), (4, ow Ay103_0 cy103_0 42 fl_TRect y103.1), (7, bx b119 #[(.int .i64 xF_panel_ToBoard_L1.X0), (.int .i64 xF_panel_ToBoard_L1.Y0), (.int .i64 xF_panel_ToBoard_L1.X1), (.int .i64 xF_panel_ToBoard_L1.Y1)] 42)]) _
          refine Tr.nil (Tr.normThen ?_)
          refine Tr.cond rfl H (fun H => ?_) (fun H => ?_)
          · refine Tr.seq ?_
            refine Tr.drawC 13 [] [12] (by kernel_rfl) (by kernel_rfl) fun sz124 hlosz124 hEsz124 => ?_
            refine Dr.quiet 0 [(2, (.pointer (some ⟨b100, 0, none⟩))), (3, (.pointer (some ⟨b101, 0, none⟩))), (5, (.pointer (some ⟨b102, 0, none⟩))), (10, (.int .i64 (iF_panel_ToBoard_L1 : Int))), (28, (.slice Ay103_0 (y103.1).length cy103_0)), (29, (.int .i64 (y103.1.length : Int))), (30, (.int .i64 (iF_panel_ToBoard_L1 : Int))), (50, (.bool g122)), (52, (.agg #[(.int .i64 p0.W), (.int .i64 p0.H), (.int .i64 p0.Rail), (.int .i64 p0.Gap), (.slice Ap0_0 (p0.Kinds).length cp0_0), (.slice Ap0_1 (p0.Slots).length cp0_1), (.slice Ap0_2 (p0.Marks).length cp0_2)]))] (by kernel_rfl) rfl rfl (by kernel_rfl) ?_ rfl rfl ?_
            · refine Tq.val (wn rfl) rfl (fun _ _ h1 h2 => run_loadN (cs := [(.int .i64 p0.W), (.int .i64 p0.H), (.int .i64 p0.Rail), (.int .i64 p0.Gap), (.slice Ap0_0 (p0.Kinds).length cp0_0), (.slice Ap0_1 (p0.Slots).length cp0_1), (.slice Ap0_2 (p0.Marks).length cp0_2)]) ag_26 sz_26 (h1.ev rfl) (CellsAt.take (rdb h2 (vs := [(.int .i64 p0.W), (.int .i64 p0.H), (.int .i64 p0.Rail), (.int .i64 p0.Gap), (.slice Ap0_0 (p0.Kinds).length cp0_0), (.slice Ap0_1 (p0.Slots).length cp0_1), (.slice Ap0_2 (p0.Marks).length cp0_2)]) (k := 1) rfl 0) 7) rfl) ?_
              exact Tq.fin (.cons rfl (.cons rfl (.cons rfl (.cons rfl (.cons rfl (.cons rfl (.cons rfl (.cons rfl (.cons rfl .nil)))))))))
            refine Dr.quiet 1 [(2, (.pointer (some ⟨b100, 0, none⟩))), (3, (.pointer (some ⟨b101, 0, none⟩))), (5, (.pointer (some ⟨b102, 0, none⟩))), (10, (.int .i64 (iF_panel_ToBoard_L1 : Int))), (28, (.slice Ay103_0 (y103.1).length cy103_0)), (29, (.int .i64 (y103.1.length : Int))), (30, (.int .i64 (iF_panel_ToBoard_L1 : Int))), (50, (.bool g122)), (52, (.agg #[(.int .i64 p0.W), (.int .i64 p0.H), (.int .i64 p0.Rail), (.int .i64 p0.Gap), (.slice Ap0_0 (p0.Kinds).length cp0_0), (.slice Ap0_1 (p0.Slots).length cp0_1), (.slice Ap0_2 (p0.Marks).length cp0_2)])), (53, (.pointer (some ⟨b100, 5, none⟩)))] (by kernel_rfl) rfl rfl (by kernel_rfl) ?_ rfl rfl ?_
            · refine Tq.val (wn rfl) rfl (fun _ _ h1 h2 => run_fieldAddr fo_26_5 (h1.ev rfl)) ?_
              exact Tq.fin (.cons rfl (.cons rfl (.cons rfl (.cons rfl (.cons rfl (.cons rfl (.cons rfl (.cons rfl (.cons rfl (.cons rfl .nil))))))))))
            refine Dr.quiet 2 [(2, (.pointer (some ⟨b100, 0, none⟩))), (3, (.pointer (some ⟨b101, 0, none⟩))), (5, (.pointer (some ⟨b102, 0, none⟩))), (10, (.int .i64 (iF_panel_ToBoard_L1 : Int))), (28, (.slice Ay103_0 (y103.1).length cy103_0)), (29, (.int .i64 (y103.1.length : Int))), (30, (.int .i64 (iF_panel_ToBoard_L1 : Int))), (50, (.bool g122)), (52, (.agg #[(.int .i64 p0.W), (.int .i64 p0.H), (.int .i64 p0.Rail), (.int .i64 p0.Gap), (.slice Ap0_0 (p0.Kinds).length cp0_0), (.slice Ap0_1 (p0.Slots).length cp0_1), (.slice Ap0_2 (p0.Marks).length cp0_2)])), (53, (.pointer (some ⟨b100, 5, none⟩))), (54, (.slice Ap0_1 (p0.Slots).length cp0_1))] (by kernel_rfl) rfl rfl (by kernel_rfl) ?_ rfl rfl ?_
            · refine Tq.val (wn rfl) rfl (fun _ _ h1 h2 => run_load1 ag_23 (h1.ev rfl) (rdb h2 (vs := [(.int .i64 p0.W), (.int .i64 p0.H), (.int .i64 p0.Rail), (.int .i64 p0.Gap), (.slice Ap0_0 (p0.Kinds).length cp0_0), (.slice Ap0_1 (p0.Slots).length cp0_1), (.slice Ap0_2 (p0.Marks).length cp0_2)]) (k := 1) rfl 5) rfl) ?_
              exact Tq.fin (.cons rfl (.cons rfl (.cons rfl (.cons rfl (.cons rfl (.cons rfl (.cons rfl (.cons rfl (.cons rfl (.cons rfl (.cons rfl .nil)))))))))))
            refine Dr.quiet 3 [(2, (.pointer (some ⟨b100, 0, none⟩))), (3, (.pointer (some ⟨b101, 0, none⟩))), (5, (.pointer (some ⟨b102, 0, none⟩))), (10, (.int .i64 (iF_panel_ToBoard_L1 : Int))), (28, (.slice Ay103_0 (y103.1).length cy103_0)), (29, (.int .i64 (y103.1.length : Int))), (30, (.int .i64 (iF_panel_ToBoard_L1 : Int))), (50, (.bool g122)), (52, (.agg #[(.int .i64 p0.W), (.int .i64 p0.H), (.int .i64 p0.Rail), (.int .i64 p0.Gap), (.slice Ap0_0 (p0.Kinds).length cp0_0), (.slice Ap0_1 (p0.Slots).length cp0_1), (.slice Ap0_2 (p0.Marks).length cp0_2)])), (53, (.pointer (some ⟨b100, 5, none⟩))), (54, (.slice Ap0_1 (p0.Slots).length cp0_1)), (55, (.int .i64 (iF_panel_ToBoard_L1 : Int)))] (by kernel_rfl) rfl rfl (by kernel_rfl) ?_ rfl rfl ?_
            · refine Tq.val (wn rfl) rfl (fun _ _ h1 h2 => run_move (h1.ev rfl)) ?_
              exact Tq.fin (.cons rfl (.cons rfl (.cons rfl (.cons rfl (.cons rfl (.cons rfl (.cons rfl (.cons rfl (.cons rfl (.cons rfl (.cons rfl (.cons rfl .nil))))))))))))
            obtain ⟨x125, hx125, H⟩ := bnd H
            obtain ⟨hx1250, hx1251, hx1252⟩ := idx_some hx125
            refine Dr.quiet 4 [(2, (.pointer (some ⟨b100, 0, none⟩))), (3, (.pointer (some ⟨b101, 0, none⟩))), (5, (.pointer (some ⟨b102, 0, none⟩))), (10, (.int .i64 (iF_panel_ToBoard_L1 : Int))), (28, (.slice Ay103_0 (y103.1).length cy103_0)), (29, (.int .i64 (y103.1.length : Int))), (30, (.int .i64 (iF_panel_ToBoard_L1 : Int))), (50, (.bool g122)), (52, (.agg #[(.int .i64 p0.W), (.int .i64 p0.H), (.int .i64 p0.Rail), (.int .i64 p0.Gap), (.slice Ap0_0 (p0.Kinds).length cp0_0), (.slice Ap0_1 (p0.Slots).length cp0_1), (.slice Ap0_2 (p0.Marks).length cp0_2)])), (53, (.pointer (some ⟨b100, 5, none⟩))), (54, (.slice Ap0_1 (p0.Slots).length cp0_1)), (55, (.int .i64 (iF_panel_ToBoard_L1 : Int))), (56, (.pointer (some ⟨adB Ap0_1, adO Ap0_1 + ((iF_panel_ToBoard_L1 : Int)).toNat * 4, none⟩)))] (by kernel_rfl) rfl rfl (by kernel_rfl) ?_ rfl rfl ?_
            · refine Tq.val (wn rfl) rfl (fun _ _ h1 h2 => run_indexAddr el_23 (h1.ev rfl) hp0_1.form (h1.ev rfl) hx1250 hx1251) ?_
              exact Tq.fin (.cons rfl (.cons rfl (.cons rfl (.cons rfl (.cons rfl (.cons rfl (.cons rfl (.cons rfl (.cons rfl (.cons rfl (.cons rfl (.cons rfl (.cons rfl .nil)))))))))))))
            refine Dr.quiet 5 [(2, (.pointer (some ⟨b100, 0, none⟩))), (3, (.pointer (some ⟨b101, 0, none⟩))), (5, (.pointer (some ⟨b102, 0, none⟩))), (10, (.int .i64 (iF_panel_ToBoard_L1 : Int))), (28, (.slice Ay103_0 (y103.1).length cy103_0)), (29, (.int .i64 (y103.1.length : Int))), (30, (.int .i64 (iF_panel_ToBoard_L1 : Int))), (50, (.bool g122)), (52, (.agg #[(.int .i64 p0.W), (.int .i64 p0.H), (.int .i64 p0.Rail), (.int .i64 p0.Gap), (.slice Ap0_0 (p0.Kinds).length cp0_0), (.slice Ap0_1 (p0.Slots).length cp0_1), (.slice Ap0_2 (p0.Marks).length cp0_2)])), (53, (.pointer (some ⟨b100, 5, none⟩))), (54, (.slice Ap0_1 (p0.Slots).length cp0_1)), (55, (.int .i64 (iF_panel_ToBoard_L1 : Int))), (56, (.pointer (some ⟨adB Ap0_1, adO Ap0_1 + ((iF_panel_ToBoard_L1 : Int)).toNat * 4, none⟩))), (57, (.agg #[(.string x125.Board), (.int .i64 x125.Quarters), (.int .i64 x125.At.X), (.int .i64 x125.At.Y)]))] (by kernel_rfl) rfl rfl (by kernel_rfl) ?_ rfl rfl ?_
            · refine Tq.val (wn rfl) rfl (fun _ _ h1 h2 => run_loadN (cs := [(.string x125.Board), (.int .i64 x125.Quarters), (.int .i64 x125.At.X), (.int .i64 x125.At.Y)]) ag_34 sz_34 (h1.ev rfl) (CellsAt.take (rdF ef_TSlot hp0_1 hx1252 h2) 4) rfl) ?_
              exact Tq.fin (.cons rfl (.cons rfl (.cons rfl (.cons rfl (.cons rfl (.cons rfl (.cons rfl (.cons rfl (.cons rfl (.cons rfl (.cons rfl (.cons rfl (.cons rfl (.cons rfl .nil))))))))))))))
            obtain ⟨y126, hy126, H⟩ := bnd H
            refine Dr.quiet 6 [(2, (.pointer (some ⟨b100, 0, none⟩))), (3, (.pointer (some ⟨b101, 0, none⟩))), (5, (.pointer (some ⟨b102, 0, none⟩))), (10, (.int .i64 (iF_panel_ToBoard_L1 : Int))), (28, (.slice Ay103_0 (y103.1).length cy103_0)), (29, (.int .i64 (y103.1.length : Int))), (30, (.int .i64 (iF_panel_ToBoard_L1 : Int))), (50, (.bool g122)), (52, (.agg #[(.int .i64 p0.W), (.int .i64 p0.H), (.int .i64 p0.Rail), (.int .i64 p0.Gap), (.slice Ap0_0 (p0.Kinds).length cp0_0), (.slice Ap0_1 (p0.Slots).length cp0_1), (.slice Ap0_2 (p0.Marks).length cp0_2)])), (53, (.pointer (some ⟨b100, 5, none⟩))), (54, (.slice Ap0_1 (p0.Slots).length cp0_1)), (55, (.int .i64 (iF_panel_ToBoard_L1 : Int))), (56, (.pointer (some ⟨adB Ap0_1, adO Ap0_1 + ((iF_panel_ToBoard_L1 : Int)).toNat * 4, none⟩))), (57, (.agg #[(.string x125.Board), (.int .i64 x125.Quarters), (.int .i64 x125.At.X), (.int .i64 x125.At.Y)])), (58, (.agg #[(.bool y126.Flip), (.int .i64 y126.Quarters), (.int .i64 y126.At.X), (.int .i64 y126.At.Y)]))] (by kernel_rfl) rfl rfl (by kernel_rfl) ?_ rfl rfl ?_
            · refine Tq.call0 (r := (.agg #[(.bool y126.Flip), (.int .i64 y126.Quarters), (.int .i64 y126.At.X), (.int .i64 y126.At.Y)])) (wn rfl) rfl Try.call52 (evl_cons rfl (evl_cons rfl evl_nil)) (fun W hW => F_panel_turnOf_ok p0 Ap0_0 cp0_0 (hp0_0.ext hW.extAll) Ap0_1 cp0_1 (hp0_1.ext hW.extAll) Ap0_2 cp0_2 (hp0_2.ext hW.extAll) x125 y126 hy126 (HF.start _)) ?_
              exact Tq.fin (.cons rfl (.cons rfl (.cons rfl (.cons rfl (.cons rfl (.cons rfl (.cons rfl (.cons rfl (.cons rfl (.cons rfl (.cons rfl (.cons rfl (.cons rfl (.cons rfl (.cons rfl .nil)))))))))))))))
            obtain ⟨y127, hy127, H⟩ := bnd H
            refine Dr.quiet 7 [(2, (.pointer (some ⟨b100, 0, none⟩))), (3, (.pointer (some ⟨b101, 0, none⟩))), (5, (.pointer (some ⟨b102, 0, none⟩))), (10, (.int .i64 (iF_panel_ToBoard_L1 : Int))), (28, (.slice Ay103_0 (y103.1).length cy103_0)), (29, (.int .i64 (y103.1.length : Int))), (30, (.int .i64 (iF_panel_ToBoard_L1 : Int))), (50, (.bool g122)), (52, (.agg #[(.int .i64 p0.W), (.int .i64 p0.H), (.int .i64 p0.Rail), (.int .i64 p0.Gap), (.slice Ap0_0 (p0.Kinds).length cp0_0), (.slice Ap0_1 (p0.Slots).length cp0_1), (.slice Ap0_2 (p0.Marks).length cp0_2)])), (53, (.pointer (some ⟨b100, 5, none⟩))), (54, (.slice Ap0_1 (p0.Slots).length cp0_1)), (55, (.int .i64 (iF_panel_ToBoard_L1 : Int))), (56, (.pointer (some ⟨adB Ap0_1, adO Ap0_1 + ((iF_panel_ToBoard_L1 : Int)).toNat * 4, none⟩))), (57, (.agg #[(.string x125.Board), (.int .i64 x125.Quarters), (.int .i64 x125.At.X), (.int .i64 x125.At.Y)])), (58, (.agg #[(.bool y126.Flip), (.int .i64 y126.Quarters), (.int .i64 y126.At.X), (.int .i64 y126.At.Y)])), (59, (.tuple #[(.agg #[(.bool y127.1.Flip), (.int .i64 y127.1.Quarters), (.int .i64 y127.1.At.X), (.int .i64 y127.1.At.Y)]), (.int .i64 y127.2)]))] (by kernel_rfl) rfl rfl (by kernel_rfl) ?_ rfl rfl ?_
            · refine Tq.call0 (r := (.tuple #[(.agg #[(.bool y127.1.Flip), (.int .i64 y127.1.Quarters), (.int .i64 y127.1.At.X), (.int .i64 y127.1.At.Y)]), (.int .i64 y127.2)])) (wn rfl) rfl Try.call58 (evl_cons rfl evl_nil) (fun W hW => F_shape_Back_ok N y126 y127 hy127 (HF.start _)) ?_
              exact Tq.fin (.cons rfl (.cons rfl (.cons rfl (.cons rfl (.cons rfl (.cons rfl (.cons rfl (.cons rfl (.cons rfl (.cons rfl (.cons rfl (.cons rfl (.cons rfl (.cons rfl (.cons rfl (.cons rfl .nil))))))))))))))))
            refine Dr.quiet 8 [(2, (.pointer (some ⟨b100, 0, none⟩))), (3, (.pointer (some ⟨b101, 0, none⟩))), (5, (.pointer (some ⟨b102, 0, none⟩))), (10, (.int .i64 (iF_panel_ToBoard_L1 : Int))), (28, (.slice Ay103_0 (y103.1).length cy103_0)), (29, (.int .i64 (y103.1.length : Int))), (30, (.int .i64 (iF_panel_ToBoard_L1 : Int))), (50, (.bool g122)), (51, (.tuple #[(.agg #[(.bool y127.1.Flip), (.int .i64 y127.1.Quarters), (.int .i64 y127.1.At.X), (.int .i64 y127.1.At.Y)]), (.int .i64 y127.2)])), (52, (.agg #[(.int .i64 p0.W), (.int .i64 p0.H), (.int .i64 p0.Rail), (.int .i64 p0.Gap), (.slice Ap0_0 (p0.Kinds).length cp0_0), (.slice Ap0_1 (p0.Slots).length cp0_1), (.slice Ap0_2 (p0.Marks).length cp0_2)])), (53, (.pointer (some ⟨b100, 5, none⟩))), (54, (.slice Ap0_1 (p0.Slots).length cp0_1)), (55, (.int .i64 (iF_panel_ToBoard_L1 : Int))), (56, (.pointer (some ⟨adB Ap0_1, adO Ap0_1 + ((iF_panel_ToBoard_L1 : Int)).toNat * 4, none⟩))), (57, (.agg #[(.string x125.Board), (.int .i64 x125.Quarters), (.int .i64 x125.At.X), (.int .i64 x125.At.Y)])), (58, (.agg #[(.bool y126.Flip), (.int .i64 y126.Quarters), (.int .i64 y126.At.X), (.int .i64 y126.At.Y)])), (59, (.tuple #[(.agg #[(.bool y127.1.Flip), (.int .i64 y127.1.Quarters), (.int .i64 y127.1.At.X), (.int .i64 y127.1.At.Y)]), (.int .i64 y127.2)]))] (by kernel_rfl) rfl rfl (by kernel_rfl) ?_ rfl rfl ?_
            · refine Tq.val (wn rfl) rfl (fun _ _ h1 h2 => run_move (h1.ev rfl)) ?_
              exact Tq.fin (.cons rfl (.cons rfl (.cons rfl (.cons rfl (.cons rfl (.cons rfl (.cons rfl (.cons rfl (.cons rfl (.cons rfl (.cons rfl (.cons rfl (.cons rfl (.cons rfl (.cons rfl (.cons rfl (.cons rfl .nil)))))))))))))))))
            refine Dr.quiet 9 [(2, (.pointer (some ⟨b100, 0, none⟩))), (3, (.pointer (some ⟨b101, 0, none⟩))), (5, (.pointer (some ⟨b102, 0, none⟩))), (10, (.int .i64 (iF_panel_ToBoard_L1 : Int))), (28, (.slice Ay103_0 (y103.1).length cy103_0)), (29, (.int .i64 (y103.1.length : Int))), (30, (.int .i64 (iF_panel_ToBoard_L1 : Int))), (50, (.bool g122)), (51, (.tuple #[(.agg #[(.bool y127.1.Flip), (.int .i64 y127.1.Quarters), (.int .i64 y127.1.At.X), (.int .i64 y127.1.At.Y)]), (.int .i64 y127.2)])), (52, (.agg #[(.int .i64 p0.W), (.int .i64 p0.H), (.int .i64 p0.Rail), (.int .i64 p0.Gap), (.slice Ap0_0 (p0.Kinds).length cp0_0), (.slice Ap0_1 (p0.Slots).length cp0_1), (.slice Ap0_2 (p0.Marks).length cp0_2)])), (53, (.pointer (some ⟨b100, 5, none⟩))), (54, (.slice Ap0_1 (p0.Slots).length cp0_1)), (55, (.int .i64 (iF_panel_ToBoard_L1 : Int))), (56, (.pointer (some ⟨adB Ap0_1, adO Ap0_1 + ((iF_panel_ToBoard_L1 : Int)).toNat * 4, none⟩))), (57, (.agg #[(.string x125.Board), (.int .i64 x125.Quarters), (.int .i64 x125.At.X), (.int .i64 x125.At.Y)])), (58, (.agg #[(.bool y126.Flip), (.int .i64 y126.Quarters), (.int .i64 y126.At.X), (.int .i64 y126.At.Y)])), (59, (.tuple #[(.agg #[(.bool y127.1.Flip), (.int .i64 y127.1.Quarters), (.int .i64 y127.1.At.X), (.int .i64 y127.1.At.Y)]), (.int .i64 y127.2)])), (60, (.agg #[(.bool y127.1.Flip), (.int .i64 y127.1.Quarters), (.int .i64 y127.1.At.X), (.int .i64 y127.1.At.Y)]))] (by kernel_rfl) rfl rfl (by kernel_rfl) ?_ rfl rfl ?_
            · refine Tq.val (wn rfl) rfl (fun _ _ h1 h2 => run_extract (h1.ev rfl) rfl) ?_
              exact Tq.fin (.cons rfl (.cons rfl (.cons rfl (.cons rfl (.cons rfl (.cons rfl (.cons rfl (.cons rfl (.cons rfl (.cons rfl (.cons rfl (.cons rfl (.cons rfl (.cons rfl (.cons rfl (.cons rfl (.cons rfl (.cons rfl .nil))))))))))))))))))
            refine Dr.quietZ 10 [(2, (.pointer (some ⟨b100, 0, none⟩))), (3, (.pointer (some ⟨b101, 0, none⟩))), (5, (.pointer (some ⟨b102, 0, none⟩))), (10, (.int .i64 (iF_panel_ToBoard_L1 : Int))), (28, (.slice Ay103_0 (y103.1).length cy103_0)), (29, (.int .i64 (y103.1.length : Int))), (30, (.int .i64 (iF_panel_ToBoard_L1 : Int))), (50, (.bool g122)), (51, (.tuple #[(.agg #[(.bool y127.1.Flip), (.int .i64 y127.1.Quarters), (.int .i64 y127.1.At.X), (.int .i64 y127.1.At.Y)]), (.int .i64 y127.2)])), (52, (.agg #[(.int .i64 p0.W), (.int .i64 p0.H), (.int .i64 p0.Rail), (.int .i64 p0.Gap), (.slice Ap0_0 (p0.Kinds).length cp0_0), (.slice Ap0_1 (p0.Slots).length cp0_1), (.slice Ap0_2 (p0.Marks).length cp0_2)])), (53, (.pointer (some ⟨b100, 5, none⟩))), (54, (.slice Ap0_1 (p0.Slots).length cp0_1)), (55, (.int .i64 (iF_panel_ToBoard_L1 : Int))), (56, (.pointer (some ⟨adB Ap0_1, adO Ap0_1 + ((iF_panel_ToBoard_L1 : Int)).toNat * 4, none⟩))), (57, (.agg #[(.string x125.Board), (.int .i64 x125.Quarters), (.int .i64 x125.At.X), (.int .i64 x125.At.Y)])), (58, (.agg #[(.bool y126.Flip), (.int .i64 y126.Quarters), (.int .i64 y126.At.X), (.int .i64 y126.At.Y)])), (59, (.tuple #[(.agg #[(.bool y127.1.Flip), (.int .i64 y127.1.Quarters), (.int .i64 y127.1.At.X), (.int .i64 y127.1.At.Y)]), (.int .i64 y127.2)])), (60, (.agg #[(.bool y127.1.Flip), (.int .i64 y127.1.Quarters), (.int .i64 y127.1.At.X), (.int .i64 y127.1.At.Y)])), (61, (.int .i64 y127.2))] [] true (by kernel_rfl) rfl rfl (by kernel_rfl) (fun W W' h2 hsW hk => HF.keepZ (le := []) (ks := []) (s0 := sz124) h2 hk hlosz124 .nil (fun b hb => hb.elim (fun hb => by simp at hb) (fun hb => .inr ⟨hb.2, (fun _ h => nomatch h)⟩)) (fun p hp => nomatch hp) rfl) ?_ rfl rfl ?_
            · refine Tq.val (wn rfl) rfl (fun _ _ h1 h2 => run_extract (h1.ev rfl) rfl) ?_
              exact Tq.fin (.cons rfl (.cons rfl (.cons rfl (.cons rfl (.cons rfl (.cons rfl (.cons rfl (.cons rfl (.cons rfl (.cons rfl (.cons rfl (.cons rfl (.cons rfl (.cons rfl (.cons rfl (.cons rfl (.cons rfl (.cons rfl (.cons rfl .nil)))))))))))))))))))
            refine Dr.one 11 (by kernel_rfl) ?_
            refine St.alloc 11 8 rfl (wn rfl) rfl ze_46 fun b128 hb128 => ?_
            refine Dr.one 12 (by kernel_rfl) ?_
            refine St.store 12 8 (cs := [(.bool y127.1.Flip), (.int .i64 y127.1.Quarters), (.int .i64 y127.1.At.X), (.int .i64 y127.1.At.Y)]) [(.bool y127.1.Flip), (.int .i64 y127.1.Quarters), (.int .i64 y127.1.At.X), (.int .i64 y127.1.At.Y)] rfl (wn rfl) (.inr ⟨by simp, hb128⟩) rfl rfl rfl rfl sz_46 rfl rfl rfl ?_
            refine Dr.tail (by kernel_rfl) ?_
            refine Tr.val (wn rfl) rfl (fun _ _ h1 h2 => run_assign (h1.ev rfl)) ?_
            refine Tr.nil (Tr.normThen ?_)
            refine Tr.seq ?_
            refine Tr.region ?_
            refine Tr.val (wn rfl) rfl (fun _ _ h1 h2 => run_move (h1.ev rfl)) ?_
            refine Tr.val (wn rfl) rfl (fun _ _ h1 h2 => run_loadN (cs := [(.int .i64 p1.X), (.int .i64 p1.Y)]) ag_32 sz_32 (h1.ev rfl) (CellsAt.take (rdb h2 (vs := [(.int .i64 p1.X), (.int .i64 p1.Y)]) (k := 2) rfl 0) 2) rfl) ?_
            refine Tr.val (wn rfl) rfl (fun _ _ h1 h2 => run_loadN (cs := [(.bool y127.1.Flip), (.int .i64 y127.1.Quarters), (.int .i64 y127.1.At.X), (.int .i64 y127.1.At.Y)]) ag_46 sz_46 (h1.ev rfl) (CellsAt.take (rdb h2 (vs := [(.bool y127.1.Flip), (.int .i64 y127.1.Quarters), (.int .i64 y127.1.At.X), (.int .i64 y127.1.At.Y)]) (k := 8) rfl 0) 4) rfl) ?_
            obtain ⟨y129, hy129, H⟩ := bnd H
            refine Tr.call0 (r := (.agg #[(.int .i64 y129.X), (.int .i64 y129.Y)])) (wn rfl) rfl Try.call54 (evl_cons rfl (evl_cons rfl evl_nil)) (fun W hW => F_shape_TurnPoint_ok N p1 y127.1 y129 hy129 (HF.start _)) ?_
            refine Tr.val (wn rfl) rfl (fun _ _ h1 h2 => run_assign (h1.ev rfl)) ?_
            refine Tr.store 3 (cs := [(.int .i64 y129.X), (.int .i64 y129.Y)]) [(.int .i64 y129.X), (.int .i64 y129.Y)] (wn rfl) rfl rfl rfl rfl sz_32 rfl rfl rfl ?_
            refine Tr.val (wn rfl) rfl (fun _ _ h1 h2 => run_assign (h1.ev rfl)) ?_
            refine Tr.val (wn rfl) rfl (fun _ _ h1 h2 => run_assign (h1.ev rfl)) ?_
            refine Tr.nil (Tr.normThen ?_)
            refine Tr.ret (Tr.retBlock (Tr.retThen (Tr.retThen (Tr.retBlock (Tr.retThen ?_)))))
            obtain rfl := Option.some.inj H
            exact Tr.out (m := [(.int .i64 (iF_panel_ToBoard_L1 : Int)), (.agg #[(.int .i64 y129.X), (.int .i64 y129.Y)]), (.bool true), (.int .i64 0)]) [3] (res_tmp rfl (res_cell rfl rfl ag_32 sz_32 (res_tmp rfl (res_tmp rfl res_nil)))) (fun W hW => ⟨rfl, hW.low leB⟩)
          · refine Tr.skip (Tr.normBlock (Tr.normThen ?_))
            refine Tr.region ?_
            refine Tr.val (wn rfl) rfl (fun _ _ h1 h2 => run_add (h1.ev rfl) (h1.ev rfl)) ?_
            refine Tr.val (wn rfl) rfl (fun _ _ h1 h2 => run_move (h1.ev rfl)) ?_
            refine Tr.nil ?_
            exact Tr.backThen leF_panel_ToBoard_L1 (restF_panel_ToBoard_L1, (iF_panel_ToBoard_L1 + 1)) ⟨rfl, range_tl hdF_panel_ToBoard_L1, range_lt hdF_panel_ToBoard_L1, H⟩ (.cons rfl (.cons rfl (.cons rfl (.cons rfl (.cons rfl (.cons (congrArg (fun z => some (Value.int .i64 z)) (range_up hdF_panel_ToBoard_L1 hgy103_0)) .nil)))))) (.cons rfl (.cons rfl (.cons rfl (.cons rfl .nil))))

end Go.Proofs.Ytpkicpnbpldkpaa
