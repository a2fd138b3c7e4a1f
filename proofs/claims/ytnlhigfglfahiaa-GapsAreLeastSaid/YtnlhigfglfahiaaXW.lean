/- The walks: each function computes its plain function. -/
import Derived.Test.YtnlhigfglfahiaaXWc
namespace Go.Proofs.Ytnlhigfglfahiaa
open Go.RowKit
set_option maxRecDepth 100000
set_option maxHeartbeats 1000000
theorem F_etchhouselaw1_GapsAreLeast_ok (N : Nat) {w : Bs} (p0 : (List TRect)) (Ap0_0 : Option Addr) (cp0_0 : Nat) (hp0_0 : Sl w.O w.W fl_TRect Ap0_0 cp0_0 p0) (p1 : (List TRect)) (Ap1_0 : Option Addr) (cp1_0 : Nat) (hp1_0 : Sl w.O w.W fl_TRect Ap1_0 cp1_0 p1) (r : Bool) (H : F_etchhouselaw1_GapsAreLeast N p0 p1 = some r) (hE : HF w w.W E0) : Calls Try.prog 5 [(.slice Ap0_0 (p0).length cp0_0), (.slice Ap1_0 (p1).length cp1_0)].toArray w.W fun e W' => e = .returned (.bool r) ∧ HF w W' E0 := by
  unfold F_etchhouselaw1_GapsAreLeast at H
  have leB := Bs.Le.refl w
  refine Tr.enter (n := 121) Try.func5 rfl rfl rfl hE ?_
  refine Tr.seq ?_
  refine Tr.region ?_
  refine Tr.val (wn rfl) rfl (fun _ _ h1 h2 => run_assign (h1.ev rfl)) ?_
  refine Tr.nil (Tr.normThen ?_)
  refine Tr.seq ?_
  refine Tr.region ?_
  refine Tr.val (wn rfl) rfl (fun _ _ h1 h2 => run_move (h1.ev rfl)) ?_
  refine Tr.val (wn rfl) rfl (fun _ _ h1 h2 => run_move (h1.ev rfl)) ?_
  refine Tr.buildSlice 1 (e := 22) (vs := [(0, (.slice Ap0_0 (p0).length cp0_0)), (1, (.slice Ap1_0 (p1).length cp1_0))]) (cs := [(.slice Ap0_0 (p0).length cp0_0), (.slice Ap1_0 (p1).length cp1_0)]) (wn rfl) rfl (evs_cons rfl (evs_cons rfl evs_nil)) (by kernel_rfl) fun b100 => ?_
  refine Tr.own 1 fl_LTRect [p0, p1] (css := [[(.slice Ap0_0 (p0).length cp0_0)], [(.slice Ap1_0 (p1).length cp1_0)]]) rfl (.cons ⟨(Ap0_0, cp0_0), hp0_0, rfl⟩ (.cons ⟨(Ap1_0, cp1_0), hp1_0, rfl⟩ .nil)) rfl (by decide) (lit_max rfl) ?_
  obtain ⟨y101, hy101, H⟩ := bnd H
  refine Tr.callM [2] [emp] (U := (Option Addr × Nat)) (fun u => (.tuple #[(.slice u.1 (y101.1).length u.2), (.int .i64 y101.2)])) (fun u => SlF u.1 (y101.1).length u.2) (fun u => [ow u.1 u.2 42 fl_TGap y101.1]) rfl (pk_cons rfl pk_nil) (fun _ => rfl) (wn rfl) rfl Try.call21 (evl_cons rfl (evl_cons rfl evl_nil)) (fun W hW hp hE => F_shape_Gaps_ok N [p0, p1] (some ⟨b100, 0, none⟩) 2 (hW.slS (k := 1) rfl hp rfl) 100000 y101 hy101 hE) ?_
  intro u hu
  obtain ⟨Ay101_0, cy101_0⟩ := u
  have gy101_0 := hu
  have hgy101_0 : SlF Ay101_0 (y101.1).length cy101_0 := gy101_0 --@phi
  show Tr _ _ (uf _ 16 (.tuple #[(.slice Ay101_0 (y101.1).length cy101_0), (.int .i64 y101.2)])) (up _ 2 (ow Ay101_0 cy101_0 42 fl_TGap y101.1)) _
  refine Tr.val (wn rfl) rfl (fun _ _ h1 h2 => run_move (h1.ev rfl)) ?_
  refine Tr.val (wn rfl) rfl (fun _ _ h1 h2 => run_extract (h1.ev rfl) rfl) ?_
  refine Tr.val (wn rfl) rfl (fun _ _ h1 h2 => run_extract (h1.ev rfl) rfl) ?_
  refine Tr.val (wn rfl) rfl (fun _ _ h1 h2 => run_assign (h1.ev rfl)) ?_
  refine Tr.val (wn rfl) rfl (fun _ _ h1 h2 => run_assign (h1.ev rfl)) ?_
  refine Tr.nil (Tr.normThen ?_)
  refine Tr.seq ?_
  refine Tr.seq ?_
  refine Tr.region ?_
  refine Tr.val (wn rfl) rfl (fun _ _ h1 h2 => run_move (h1.ev rfl)) ?_
  refine Tr.val (wn rfl) rfl (fun _ _ h1 h2 => run_neq (h1.ev rfl) (h1.ev rfl)) ?_
  refine Tr.val (wn rfl) rfl (fun _ _ h1 h2 => run_move (h1.ev rfl)) ?_
  refine Tr.mid0 4 [(0, (.slice Ap0_0 (p0).length cp0_0)), (1, (.slice Ap1_0 (p1).length cp1_0)), (5, (.slice Ay101_0 (y101.1).length cy101_0)), (25, (.bool ((y101.2 != 0) || ((y101.1.length : Int) == 0))))] [(1, ow (some ⟨b100, 0, none⟩) 2 22 fl_LTRect [p0, p1]), (2, ow Ay101_0 cy101_0 42 fl_TGap y101.1)] ?_ ?_
  · cases hg134 : (y101.2 != 0)
    · refine Tr.val (wg rfl rfl rfl) rfl (fun _ _ h1 h2 => run_move (h1.ev rfl)) ?_
      refine Tr.val (wg rfl rfl rfl) rfl (fun _ _ h1 h2 => run_len un_37 (h1.ev rfl)) ?_
      refine Tr.val (wg rfl rfl rfl) rfl (fun _ _ h1 h2 => run_eql (h1.ev rfl) (h1.ev rfl)) ?_
      refine Tr.val (wn rfl) rfl (fun _ _ h1 h2 => run_pickF (h1.ev rfl) (h1.ev rfl)) ?_
      exact Tr.nil (Tr.fin0 (.cons rfl (.cons rfl (.cons rfl (.cons rfl .nil)))) (.cons rfl (.cons rfl .nil)))
    · refine Tr.pass rfl rfl rfl rfl rfl (by decide) ?_
      refine Tr.pass rfl rfl rfl rfl rfl (by decide) ?_
      refine Tr.pass rfl rfl rfl rfl rfl (by decide) ?_
      refine Tr.val (wn rfl) rfl (fun _ _ h1 h2 => run_pickT (h1.ev rfl) (h1.ev rfl)) ?_
      exact Tr.nil (Tr.fin0 (.cons rfl (.cons rfl (.cons rfl (.cons rfl .nil)))) (.cons rfl (.cons rfl .nil)))
  · show Tr _ _ (LF [(0, (.slice Ap0_0 (p0).length cp0_0)), (1, (.slice Ap1_0 (p1).length cp1_0)), (5, (.slice Ay101_0 (y101.1).length cy101_0)), (25, (.bool ((y101.2 != 0) || ((y101.1.length : Int) == 0))))]) (LE [(1, ow (some ⟨b100, 0, none⟩) 2 22 fl_LTRect [p0, p1]), (2, ow Ay101_0 cy101_0 42 fl_TGap y101.1)]) _
    refine Tr.nil (Tr.normThen ?_)
    refine Tr.cond rfl H (fun H => ?_) (fun H => ?_)
    · refine Tr.seq ?_
      refine Tr.region ?_
      refine Tr.val (wn rfl) rfl (fun _ _ h1 h2 => run_move (h1.ev rfl)) ?_
      refine Tr.val (wn rfl) rfl (fun _ _ h1 h2 => run_len un_37 (h1.ev rfl)) ?_
      refine Tr.val (wn rfl) rfl (fun _ _ h1 h2 => run_eql (h1.ev rfl) (h1.ev rfl)) ?_
      refine Tr.val (wn rfl) rfl (fun _ _ h1 h2 => run_move (h1.ev rfl)) ?_
      obtain ⟨g104, hg104, H⟩ := bnd H
      refine Tr.mid0 2 [(31, (.bool g104))] [(1, ow (some ⟨b100, 0, none⟩) 2 22 fl_LTRect [p0, p1]), (2, ow Ay101_0 cy101_0 42 fl_TGap y101.1)] ?_ ?_
      · cases hg105 : ((y101.1.length : Int) == 0)
        · rw [hg105] at hg104
          rw [if_neg (by decide)] at hg104
          have H := hg104
          obtain rfl := Option.some.inj H
          refine Tr.pass rfl rfl rfl rfl rfl (by decide) ?_
          refine Tr.val (wn rfl) rfl (fun _ _ h1 h2 => run_pickF (h1.ev rfl) (h1.ev rfl)) ?_
          exact Tr.nil (Tr.fin0 (.cons rfl .nil) (.cons rfl (.cons rfl .nil)))
        · rw [hg105] at hg104
          rw [if_pos rfl] at hg104
          have H := hg104
          obtain ⟨y105, hy105, H⟩ := bnd H
          refine Tr.call0 (r := (.bool y105)) (wg rfl rfl rfl) rfl Try.call12 evl_nil (fun W hW => F_etchhouselaw1_awake_ok N y105 hy105 (HF.start _)) ?_
          refine Tr.val (wn rfl) rfl (fun _ _ h1 h2 => run_pickT (h1.ev rfl) (h1.ev rfl)) ?_
          obtain rfl := Option.some.inj H
          exact Tr.nil (Tr.fin0 (.cons rfl .nil) (.cons rfl (.cons rfl .nil)))
      · show Tr _ _ (LF [(31, (.bool g104))]) (LE [(1, ow (some ⟨b100, 0, none⟩) 2 22 fl_LTRect [p0, p1]), (2, ow Ay101_0 cy101_0 42 fl_TGap y101.1)]) _
        refine Tr.val (wn rfl) rfl (fun _ _ h1 h2 => run_assign (h1.ev rfl)) ?_
        refine Tr.nil (Tr.normThen ?_)
        refine Tr.ret (Tr.retThen ?_)
        obtain rfl := Option.some.inj H
        exact Tr.out (m := [(.bool g104)]) [] (res_tmp rfl res_nil) (fun W hW => ⟨rfl, hW.low leB⟩)
    · refine Tr.skip (Tr.normThen ?_)
      refine Tr.seq ?_
      refine Tr.region ?_
      refine Tr.val (wn rfl) rfl (fun _ _ h1 h2 => run_move (h1.ev rfl)) ?_
      refine Tr.val (wn rfl) rfl (fun _ _ h1 h2 => run_move (h1.ev rfl)) ?_
      obtain ⟨x106, hx106, H⟩ := bnd H
      obtain ⟨hx1060, hx1061, hx1062⟩ := idx_some hx106
      refine Tr.val (wn rfl) rfl (fun _ _ h1 h2 => run_indexAddr el_37 (h1.ev rfl) hgy101_0 (h1.ev rfl) hx1060 hx1061) ?_
      refine Tr.val (wn rfl) rfl (fun _ _ h1 h2 => run_fieldAddr fo_42_2 (h1.ev rfl)) ?_
      refine Tr.val (wn rfl) rfl (fun _ _ h1 h2 => run_load1 ag_3 (h1.ev rfl) (CellsAt.drop (rdo ef_TGap (k := 2) h2 rfl hx1062) 2) rfl) ?_
      obtain ⟨y107, hy107, H⟩ := bnd H
      refine Tr.callM [3] [emp] (U := (Option Addr × Nat)) (fun u => (.tuple #[(.slice u.1 (y107.1).length u.2), (.int .i64 y107.2)])) (fun u => SlF u.1 (y107.1).length u.2) (fun u => [ow u.1 u.2 29 fl_TRect y107.1]) rfl (pk_cons rfl pk_nil) (fun _ => rfl) (wn rfl) rfl Try.call11 (evl_cons rfl (evl_cons rfl evl_nil)) (fun W hW hp hE => F_shape_Grow_ok N p0 Ap0_0 cp0_0 (hp0_0.rl.ext (hW.extS hp)) x106.Distance y107 hy107 hE) ?_
      intro u hu
      obtain ⟨Ay107_0, cy107_0⟩ := u
      have gy107_0 := hu
      have hgy107_0 : SlF Ay107_0 (y107.1).length cy107_0 := gy107_0 --@phi
      show Tr _ _ (uf _ 38 (.tuple #[(.slice Ay107_0 (y107.1).length cy107_0), (.int .i64 y107.2)])) (up _ 3 (ow Ay107_0 cy107_0 29 fl_TRect y107.1)) _
      refine Tr.val (wn rfl) rfl (fun _ _ h1 h2 => run_move (h1.ev rfl)) ?_
      refine Tr.val (wn rfl) rfl (fun _ _ h1 h2 => run_extract (h1.ev rfl) rfl) ?_
      refine Tr.val (wn rfl) rfl (fun _ _ h1 h2 => run_extract (h1.ev rfl) rfl) ?_
      refine Tr.val (wn rfl) rfl (fun _ _ h1 h2 => run_assign (h1.ev rfl)) ?_
      refine Tr.val (wn rfl) rfl (fun _ _ h1 h2 => run_assign (h1.ev rfl)) ?_
      refine Tr.nil (Tr.normThen ?_)
      refine Tr.seq ?_
      refine Tr.region ?_
      refine Tr.val (wn rfl) rfl (fun _ _ h1 h2 => run_move (h1.ev rfl)) ?_
      refine Tr.val (wn rfl) rfl (fun _ _ h1 h2 => run_move (h1.ev rfl)) ?_
      obtain ⟨x109, hx109, H⟩ := bnd H
      obtain ⟨hx1090, hx1091, hx1092⟩ := idx_some hx109
      refine Tr.val (wn rfl) rfl (fun _ _ h1 h2 => run_indexAddr el_37 (h1.ev rfl) hgy101_0 (h1.ev rfl) hx1090 hx1091) ?_
      refine Tr.val (wn rfl) rfl (fun _ _ h1 h2 => run_fieldAddr fo_42_2 (h1.ev rfl)) ?_
      refine Tr.val (wn rfl) rfl (fun _ _ h1 h2 => run_load1 ag_3 (h1.ev rfl) (CellsAt.drop (rdo ef_TGap (k := 2) h2 rfl hx1092) 2) rfl) ?_
      refine Tr.val (wn rfl) rfl (fun _ _ h1 h2 => run_add (h1.ev rfl) (h1.ev rfl)) ?_
      obtain ⟨y110, hy110, H⟩ := bnd H
      refine Tr.callM [4] [emp] (U := (Option Addr × Nat)) (fun u => (.tuple #[(.slice u.1 (y110.1).length u.2), (.int .i64 y110.2)])) (fun u => SlF u.1 (y110.1).length u.2) (fun u => [ow u.1 u.2 29 fl_TRect y110.1]) rfl (pk_cons rfl pk_nil) (fun _ => rfl) (wn rfl) rfl Try.call11 (evl_cons rfl (evl_cons rfl evl_nil)) (fun W hW hp hE => F_shape_Grow_ok N p0 Ap0_0 cp0_0 (hp0_0.rl.ext (hW.extS hp)) (w64 (x109.Distance + 1)) y110 hy110 hE) ?_
      intro u hu
      obtain ⟨Ay110_0, cy110_0⟩ := u
      have gy110_0 := hu
      have hgy110_0 : SlF Ay110_0 (y110.1).length cy110_0 := gy110_0 --@phi
      show Tr _ _ (uf _ 48 (.tuple #[(.slice Ay110_0 (y110.1).length cy110_0), (.int .i64 y110.2)])) (up _ 4 (ow Ay110_0 cy110_0 29 fl_TRect y110.1)) _
      refine Tr.val (wn rfl) rfl (fun _ _ h1 h2 => run_move (h1.ev rfl)) ?_
      refine Tr.val (wn rfl) rfl (fun _ _ h1 h2 => run_extract (h1.ev rfl) rfl) ?_
      refine Tr.val (wn rfl) rfl (fun _ _ h1 h2 => run_extract (h1.ev rfl) rfl) ?_
      refine Tr.val (wn rfl) rfl (fun _ _ h1 h2 => run_assign (h1.ev rfl)) ?_
      refine Tr.val (wn rfl) rfl (fun _ _ h1 h2 => run_assign (h1.ev rfl)) ?_
      refine Tr.nil (Tr.normThen ?_)
      refine Tr.seq ?_
      refine Tr.seq ?_
      refine Tr.region ?_
      refine Tr.val (wn rfl) rfl (fun _ _ h1 h2 => run_move (h1.ev rfl)) ?_
      refine Tr.val (wn rfl) rfl (fun _ _ h1 h2 => run_neq (h1.ev rfl) (h1.ev rfl)) ?_
      refine Tr.val (wn rfl) rfl (fun _ _ h1 h2 => run_move (h1.ev rfl)) ?_
      refine Tr.mid0 3 [(0, (.slice Ap0_0 (p0).length cp0_0)), (1, (.slice Ap1_0 (p1).length cp1_0)), (5, (.slice Ay101_0 (y101.1).length cy101_0)), (6, (.int .i64 y107.2)), (7, (.slice Ay107_0 (y107.1).length cy107_0)), (8, (.slice Ay110_0 (y110.1).length cy110_0)), (56, (.bool ((y107.2 != 0) || (y110.2 != 0))))] [(1, ow (some ⟨b100, 0, none⟩) 2 22 fl_LTRect [p0, p1]), (2, ow Ay101_0 cy101_0 42 fl_TGap y101.1), (3, ow Ay107_0 cy107_0 29 fl_TRect y107.1), (4, ow Ay110_0 cy110_0 29 fl_TRect y110.1)] ?_ ?_
      · cases hg134 : (y107.2 != 0)
        · refine Tr.val (wg rfl rfl rfl) rfl (fun _ _ h1 h2 => run_move (h1.ev rfl)) ?_
          refine Tr.val (wg rfl rfl rfl) rfl (fun _ _ h1 h2 => run_neq (h1.ev rfl) (h1.ev rfl)) ?_
          refine Tr.val (wn rfl) rfl (fun _ _ h1 h2 => run_pickF (h1.ev rfl) (h1.ev rfl)) ?_
          exact Tr.nil (Tr.fin0 (.cons rfl (.cons rfl (.cons rfl (.cons rfl (.cons rfl (.cons rfl (.cons rfl .nil))))))) (.cons rfl (.cons rfl (.cons rfl (.cons rfl .nil)))))
        · refine Tr.pass rfl rfl rfl rfl rfl (by decide) ?_
          refine Tr.pass rfl rfl rfl rfl rfl (by decide) ?_
          refine Tr.val (wn rfl) rfl (fun _ _ h1 h2 => run_pickT (h1.ev rfl) (h1.ev rfl)) ?_
          exact Tr.nil (Tr.fin0 (.cons rfl (.cons rfl (.cons rfl (.cons rfl (.cons rfl (.cons rfl (.cons rfl .nil))))))) (.cons rfl (.cons rfl (.cons rfl (.cons rfl .nil)))))
      · show Tr _ _ (LF [(0, (.slice Ap0_0 (p0).length cp0_0)), (1, (.slice Ap1_0 (p1).length cp1_0)), (5, (.slice Ay101_0 (y101.1).length cy101_0)), (6, (.int .i64 y107.2)), (7, (.slice Ay107_0 (y107.1).length cy107_0)), (8, (.slice Ay110_0 (y110.1).length cy110_0)), (56, (.bool ((y107.2 != 0) || (y110.2 != 0))))]) (LE [(1, ow (some ⟨b100, 0, none⟩) 2 22 fl_LTRect [p0, p1]), (2, ow Ay101_0 cy101_0 42 fl_TGap y101.1), (3, ow Ay107_0 cy107_0 29 fl_TRect y107.1), (4, ow Ay110_0 cy110_0 29 fl_TRect y110.1)]) _
        refine Tr.nil (Tr.normThen ?_)
        refine Tr.cond rfl H (fun H => ?_) (fun H => ?_)
        · refine Tr.seq ?_
          refine Tr.region ?_
          refine Tr.val (wn rfl) rfl (fun _ _ h1 h2 => run_move (h1.ev rfl)) ?_
          refine Tr.val (wn rfl) rfl (fun _ _ h1 h2 => run_eql (h1.ev rfl) (h1.ev rfl)) ?_
          refine Tr.val (wn rfl) rfl (fun _ _ h1 h2 => run_move (h1.ev rfl)) ?_
          refine Tr.mid0 4 [(63, (.bool ((y107.2 == 0) || ((y107.1.length : Int) == 0))))] [(1, ow (some ⟨b100, 0, none⟩) 2 22 fl_LTRect [p0, p1]), (2, ow Ay101_0 cy101_0 42 fl_TGap y101.1), (3, ow Ay107_0 cy107_0 29 fl_TRect y107.1), (4, ow Ay110_0 cy110_0 29 fl_TRect y110.1)] ?_ ?_
          · cases hg114 : (y107.2 == 0)
            · refine Tr.val (wg rfl rfl rfl) rfl (fun _ _ h1 h2 => run_move (h1.ev rfl)) ?_
              refine Tr.val (wg rfl rfl rfl) rfl (fun _ _ h1 h2 => run_len un_22 (h1.ev rfl)) ?_
              refine Tr.val (wg rfl rfl rfl) rfl (fun _ _ h1 h2 => run_eql (h1.ev rfl) (h1.ev rfl)) ?_
              refine Tr.val (wn rfl) rfl (fun _ _ h1 h2 => run_pickF (h1.ev rfl) (h1.ev rfl)) ?_
              exact Tr.nil (Tr.fin0 (.cons rfl .nil) (.cons rfl (.cons rfl (.cons rfl (.cons rfl .nil)))))
            · refine Tr.pass rfl rfl rfl rfl rfl (by decide) ?_
              refine Tr.pass rfl rfl rfl rfl rfl (by decide) ?_
              refine Tr.pass rfl rfl rfl rfl rfl (by decide) ?_
              refine Tr.val (wn rfl) rfl (fun _ _ h1 h2 => run_pickT (h1.ev rfl) (h1.ev rfl)) ?_
              exact Tr.nil (Tr.fin0 (.cons rfl .nil) (.cons rfl (.cons rfl (.cons rfl (.cons rfl .nil)))))
          · show Tr _ _ (LF [(63, (.bool ((y107.2 == 0) || ((y107.1.length : Int) == 0))))]) (LE [(1, ow (some ⟨b100, 0, none⟩) 2 22 fl_LTRect [p0, p1]), (2, ow Ay101_0 cy101_0 42 fl_TGap y101.1), (3, ow Ay107_0 cy107_0 29 fl_TRect y107.1), (4, ow Ay110_0 cy110_0 29 fl_TRect y110.1)]) _
            refine Tr.val (wn rfl) rfl (fun _ _ h1 h2 => run_move (h1.ev rfl)) ?_
            obtain ⟨g113, hg113, H⟩ := bnd H
            refine Tr.mid0 2 [(66, (.bool g113))] [(1, ow (some ⟨b100, 0, none⟩) 2 22 fl_LTRect [p0, p1]), (2, ow Ay101_0 cy101_0 42 fl_TGap y101.1), (3, ow Ay107_0 cy107_0 29 fl_TRect y107.1), (4, ow Ay110_0 cy110_0 29 fl_TRect y110.1)] ?_ ?_
            · cases hg114 : ((y107.2 == 0) || ((y107.1.length : Int) == 0))
              · rw [hg114] at hg113
                rw [if_neg (by decide)] at hg113
                have H := hg113
                obtain rfl := Option.some.inj H
                refine Tr.pass rfl rfl rfl rfl rfl (by decide) ?_
                refine Tr.val (wn rfl) rfl (fun _ _ h1 h2 => run_pickF (h1.ev rfl) (h1.ev rfl)) ?_
                exact Tr.nil (Tr.fin0 (.cons rfl .nil) (.cons rfl (.cons rfl (.cons rfl (.cons rfl .nil)))))
              · rw [hg114] at hg113
                rw [if_pos rfl] at hg113
                have H := hg113
                obtain ⟨y114, hy114, H⟩ := bnd H
                refine Tr.call0 (r := (.bool y114)) (wg rfl rfl rfl) rfl Try.call12 evl_nil (fun W hW => F_etchhouselaw1_awake_ok N y114 hy114 (HF.start _)) ?_
                refine Tr.val (wn rfl) rfl (fun _ _ h1 h2 => run_pickT (h1.ev rfl) (h1.ev rfl)) ?_
                obtain rfl := Option.some.inj H
                exact Tr.nil (Tr.fin0 (.cons rfl .nil) (.cons rfl (.cons rfl (.cons rfl (.cons rfl .nil)))))
            · show Tr _ _ (LF [(66, (.bool g113))]) (LE [(1, ow (some ⟨b100, 0, none⟩) 2 22 fl_LTRect [p0, p1]), (2, ow Ay101_0 cy101_0 42 fl_TGap y101.1), (3, ow Ay107_0 cy107_0 29 fl_TRect y107.1), (4, ow Ay110_0 cy110_0 29 fl_TRect y110.1)]) _
              refine Tr.val (wn rfl) rfl (fun _ _ h1 h2 => run_assign (h1.ev rfl)) ?_
              refine Tr.nil (Tr.normThen ?_)
              refine Tr.ret (Tr.retThen ?_)
              obtain rfl := Option.some.inj H
              exact Tr.out (m := [(.bool g113)]) [] (res_tmp rfl res_nil) (fun W hW => ⟨rfl, hW.low leB⟩)
        · refine Tr.skip (Tr.normThen ?_)
          refine Tr.seq ?_
          refine Tr.region ?_
          refine Tr.val (wn rfl) rfl (fun _ _ h1 h2 => run_move (h1.ev rfl)) ?_
          refine Tr.val (wn rfl) rfl (fun _ _ h1 h2 => run_move (h1.ev rfl)) ?_
          obtain ⟨y115, hy115, H⟩ := bnd H
          refine Tr.callM [5] [emp] (U := (Option Addr × Nat)) (fun u => (.tuple #[(.slice u.1 (y115.1).length u.2), (.int .i64 y115.2)])) (fun u => SlF u.1 (y115.1).length u.2) (fun u => [ow u.1 u.2 29 fl_TRect y115.1]) rfl (pk_cons rfl pk_nil) (fun _ => rfl) (wn rfl) rfl Try.call19 (evl_cons rfl (evl_cons rfl evl_nil)) (fun W hW hp hE => F_shape_Both_ok N y107.1 Ay107_0 cy107_0 (hW.slS (k := 3) rfl hp rfl) p1 Ap1_0 cp1_0 (hp1_0.rl.ext (hW.extS hp)) y115 hy115 hE) ?_
          intro u hu
          obtain ⟨Ay115_0, cy115_0⟩ := u
          have gy115_0 := hu
          have hgy115_0 : SlF Ay115_0 (y115.1).length cy115_0 := gy115_0 --@phi
          show Tr _ _ (uf _ 70 (.tuple #[(.slice Ay115_0 (y115.1).length cy115_0), (.int .i64 y115.2)])) (up _ 5 (ow Ay115_0 cy115_0 29 fl_TRect y115.1)) _
          refine Tr.val (wn rfl) rfl (fun _ _ h1 h2 => run_move (h1.ev rfl)) ?_
          refine Tr.val (wn rfl) rfl (fun _ _ h1 h2 => run_extract (h1.ev rfl) rfl) ?_
          refine Tr.val (wn rfl) rfl (fun _ _ h1 h2 => run_extract (h1.ev rfl) rfl) ?_
          refine Tr.val (wn rfl) rfl (fun _ _ h1 h2 => run_assign (h1.ev rfl)) ?_
          refine Tr.val (wn rfl) rfl (fun _ _ h1 h2 => run_assign (h1.ev rfl)) ?_
          refine Tr.nil (Tr.normThen ?_)
          refine Tr.seq ?_
          refine Tr.region ?_
          refine Tr.val (wn rfl) rfl (fun _ _ h1 h2 => run_move (h1.ev rfl)) ?_
          refine Tr.val (wn rfl) rfl (fun _ _ h1 h2 => run_move (h1.ev rfl)) ?_
          obtain ⟨y117, hy117, H⟩ := bnd H
          refine Tr.callM [6] [emp] (U := (Option Addr × Nat)) (fun u => (.tuple #[(.slice u.1 (y117.1).length u.2), (.int .i64 y117.2)])) (fun u => SlF u.1 (y117.1).length u.2) (fun u => [ow u.1 u.2 29 fl_TRect y117.1]) rfl (pk_cons rfl pk_nil) (fun _ => rfl) (wn rfl) rfl Try.call19 (evl_cons rfl (evl_cons rfl evl_nil)) (fun W hW hp hE => F_shape_Both_ok N y110.1 Ay110_0 cy110_0 (hW.slS (k := 4) rfl hp rfl) p1 Ap1_0 cp1_0 (hp1_0.rl.ext (hW.extS hp)) y117 hy117 hE) ?_
          intro u hu
          obtain ⟨Ay117_0, cy117_0⟩ := u
          have gy117_0 := hu
          have hgy117_0 : SlF Ay117_0 (y117.1).length cy117_0 := gy117_0 --@phi
          show Tr _ _ (uf _ 76 (.tuple #[(.slice Ay117_0 (y117.1).length cy117_0), (.int .i64 y117.2)])) (up _ 6 (ow Ay117_0 cy117_0 29 fl_TRect y117.1)) _
          refine Tr.val (wn rfl) rfl (fun _ _ h1 h2 => run_move (h1.ev rfl)) ?_
          refine Tr.val (wn rfl) rfl (fun _ _ h1 h2 => run_extract (h1.ev rfl) rfl) ?_
          refine Tr.val (wn rfl) rfl (fun _ _ h1 h2 => run_extract (h1.ev rfl) rfl) ?_
          refine Tr.val (wn rfl) rfl (fun _ _ h1 h2 => run_assign (h1.ev rfl)) ?_
          refine Tr.val (wn rfl) rfl (fun _ _ h1 h2 => run_assign (h1.ev rfl)) ?_
          refine Tr.nil (Tr.normThen ?_)
          refine Tr.seq ?_
          refine Tr.seq ?_
          refine Tr.region ?_
          refine Tr.val (wn rfl) rfl (fun _ _ h1 h2 => run_move (h1.ev rfl)) ?_
          refine Tr.val (wn rfl) rfl (fun _ _ h1 h2 => run_neq (h1.ev rfl) (h1.ev rfl)) ?_
          refine Tr.val (wn rfl) rfl (fun _ _ h1 h2 => run_move (h1.ev rfl)) ?_
          refine Tr.mid0 3 [(0, (.slice Ap0_0 (p0).length cp0_0)), (1, (.slice Ap1_0 (p1).length cp1_0)), (5, (.slice Ay101_0 (y101.1).length cy101_0)), (6, (.int .i64 y115.2)), (9, (.int .i64 y117.2)), (10, (.slice Ay115_0 (y115.1).length cy115_0)), (11, (.slice Ay117_0 (y117.1).length cy117_0)), (84, (.bool ((y115.2 != 0) || (y117.2 != 0))))] [(1, ow (some ⟨b100, 0, none⟩) 2 22 fl_LTRect [p0, p1]), (2, ow Ay101_0 cy101_0 42 fl_TGap y101.1), (3, ow Ay107_0 cy107_0 29 fl_TRect y107.1), (4, ow Ay110_0 cy110_0 29 fl_TRect y110.1), (5, ow Ay115_0 cy115_0 29 fl_TRect y115.1), (6, ow Ay117_0 cy117_0 29 fl_TRect y117.1)] ?_ ?_
          · cases hg134 : (y115.2 != 0)
            · refine Tr.val (wg rfl rfl rfl) rfl (fun _ _ h1 h2 => run_move (h1.ev rfl)) ?_
              refine Tr.val (wg rfl rfl rfl) rfl (fun _ _ h1 h2 => run_neq (h1.ev rfl) (h1.ev rfl)) ?_
              refine Tr.val (wn rfl) rfl (fun _ _ h1 h2 => run_pickF (h1.ev rfl) (h1.ev rfl)) ?_
              exact Tr.nil (Tr.fin0 (.cons rfl (.cons rfl (.cons rfl (.cons rfl (.cons rfl (.cons rfl (.cons rfl (.cons rfl .nil)))))))) (.cons rfl (.cons rfl (.cons rfl (.cons rfl (.cons rfl (.cons rfl .nil)))))))
            · refine Tr.pass rfl rfl rfl rfl rfl (by decide) ?_
              refine Tr.pass rfl rfl rfl rfl rfl (by decide) ?_
              refine Tr.val (wn rfl) rfl (fun _ _ h1 h2 => run_pickT (h1.ev rfl) (h1.ev rfl)) ?_
              exact Tr.nil (Tr.fin0 (.cons rfl (.cons rfl (.cons rfl (.cons rfl (.cons rfl (.cons rfl (.cons rfl (.cons rfl .nil)))))))) (.cons rfl (.cons rfl (.cons rfl (.cons rfl (.cons rfl (.cons rfl .nil)))))))
          · show Tr _ _ (LF [(0, (.slice Ap0_0 (p0).length cp0_0)), (1, (.slice Ap1_0 (p1).length cp1_0)), (5, (.slice Ay101_0 (y101.1).length cy101_0)), (6, (.int .i64 y115.2)), (9, (.int .i64 y117.2)), (10, (.slice Ay115_0 (y115.1).length cy115_0)), (11, (.slice Ay117_0 (y117.1).length cy117_0)), (84, (.bool ((y115.2 != 0) || (y117.2 != 0))))]) (LE [(1, ow (some ⟨b100, 0, none⟩) 2 22 fl_LTRect [p0, p1]), (2, ow Ay101_0 cy101_0 42 fl_TGap y101.1), (3, ow Ay107_0 cy107_0 29 fl_TRect y107.1), (4, ow Ay110_0 cy110_0 29 fl_TRect y110.1), (5, ow Ay115_0 cy115_0 29 fl_TRect y115.1), (6, ow Ay117_0 cy117_0 29 fl_TRect y117.1)]) _
            refine Tr.nil (Tr.normThen ?_)
            refine Tr.cond rfl H (fun H => ?_) (fun H => ?_)
            · refine Tr.seq ?_
              refine Tr.region ?_
              refine Tr.val (wn rfl) rfl (fun _ _ h1 h2 => run_move (h1.ev rfl)) ?_
              refine Tr.val (wn rfl) rfl (fun _ _ h1 h2 => run_eql (h1.ev rfl) (h1.ev rfl)) ?_
              refine Tr.val (wn rfl) rfl (fun _ _ h1 h2 => run_move (h1.ev rfl)) ?_
              refine Tr.mid0 3 [(90, (.bool ((y115.2 == 2) || (y117.2 == 2))))] [(1, ow (some ⟨b100, 0, none⟩) 2 22 fl_LTRect [p0, p1]), (2, ow Ay101_0 cy101_0 42 fl_TGap y101.1), (3, ow Ay107_0 cy107_0 29 fl_TRect y107.1), (4, ow Ay110_0 cy110_0 29 fl_TRect y110.1), (5, ow Ay115_0 cy115_0 29 fl_TRect y115.1), (6, ow Ay117_0 cy117_0 29 fl_TRect y117.1)] ?_ ?_
              · cases hg121 : (y115.2 == 2)
                · refine Tr.val (wg rfl rfl rfl) rfl (fun _ _ h1 h2 => run_move (h1.ev rfl)) ?_
                  refine Tr.val (wg rfl rfl rfl) rfl (fun _ _ h1 h2 => run_eql (h1.ev rfl) (h1.ev rfl)) ?_
                  refine Tr.val (wn rfl) rfl (fun _ _ h1 h2 => run_pickF (h1.ev rfl) (h1.ev rfl)) ?_
                  exact Tr.nil (Tr.fin0 (.cons rfl .nil) (.cons rfl (.cons rfl (.cons rfl (.cons rfl (.cons rfl (.cons rfl .nil)))))))
                · refine Tr.pass rfl rfl rfl rfl rfl (by decide) ?_
                  refine Tr.pass rfl rfl rfl rfl rfl (by decide) ?_
                  refine Tr.val (wn rfl) rfl (fun _ _ h1 h2 => run_pickT (h1.ev rfl) (h1.ev rfl)) ?_
                  exact Tr.nil (Tr.fin0 (.cons rfl .nil) (.cons rfl (.cons rfl (.cons rfl (.cons rfl (.cons rfl (.cons rfl .nil)))))))
              · show Tr _ _ (LF [(90, (.bool ((y115.2 == 2) || (y117.2 == 2))))]) (LE [(1, ow (some ⟨b100, 0, none⟩) 2 22 fl_LTRect [p0, p1]), (2, ow Ay101_0 cy101_0 42 fl_TGap y101.1), (3, ow Ay107_0 cy107_0 29 fl_TRect y107.1), (4, ow Ay110_0 cy110_0 29 fl_TRect y110.1), (5, ow Ay115_0 cy115_0 29 fl_TRect y115.1), (6, ow Ay117_0 cy117_0 29 fl_TRect y117.1)]) _
                refine Tr.val (wn rfl) rfl (fun _ _ h1 h2 => run_move (h1.ev rfl)) ?_
                obtain ⟨g120, hg120, H⟩ := bnd H
                refine Tr.mid0 2 [(93, (.bool g120))] [(1, ow (some ⟨b100, 0, none⟩) 2 22 fl_LTRect [p0, p1]), (2, ow Ay101_0 cy101_0 42 fl_TGap y101.1), (3, ow Ay107_0 cy107_0 29 fl_TRect y107.1), (4, ow Ay110_0 cy110_0 29 fl_TRect y110.1), (5, ow Ay115_0 cy115_0 29 fl_TRect y115.1), (6, ow Ay117_0 cy117_0 29 fl_TRect y117.1)] ?_ ?_
                · cases hg121 : ((y115.2 == 2) || (y117.2 == 2))
                  · rw [hg121] at hg120
                    rw [if_neg (by decide)] at hg120
                    have H := hg120
                    obtain rfl := Option.some.inj H
                    refine Tr.pass rfl rfl rfl rfl rfl (by decide) ?_
                    refine Tr.val (wn rfl) rfl (fun _ _ h1 h2 => run_pickF (h1.ev rfl) (h1.ev rfl)) ?_
                    exact Tr.nil (Tr.fin0 (.cons rfl .nil) (.cons rfl (.cons rfl (.cons rfl (.cons rfl (.cons rfl (.cons rfl .nil)))))))
                  · rw [hg121] at hg120
                    rw [if_pos rfl] at hg120
                    have H := hg120
                    obtain ⟨y121, hy121, H⟩ := bnd H
                    refine Tr.call0 (r := (.bool y121)) (wg rfl rfl rfl) rfl Try.call12 evl_nil (fun W hW => F_etchhouselaw1_awake_ok N y121 hy121 (HF.start _)) ?_
                    refine Tr.val (wn rfl) rfl (fun _ _ h1 h2 => run_pickT (h1.ev rfl) (h1.ev rfl)) ?_
                    obtain rfl := Option.some.inj H
                    exact Tr.nil (Tr.fin0 (.cons rfl .nil) (.cons rfl (.cons rfl (.cons rfl (.cons rfl (.cons rfl (.cons rfl .nil)))))))
                · show Tr _ _ (LF [(93, (.bool g120))]) (LE [(1, ow (some ⟨b100, 0, none⟩) 2 22 fl_LTRect [p0, p1]), (2, ow Ay101_0 cy101_0 42 fl_TGap y101.1), (3, ow Ay107_0 cy107_0 29 fl_TRect y107.1), (4, ow Ay110_0 cy110_0 29 fl_TRect y110.1), (5, ow Ay115_0 cy115_0 29 fl_TRect y115.1), (6, ow Ay117_0 cy117_0 29 fl_TRect y117.1)]) _
                  refine Tr.val (wn rfl) rfl (fun _ _ h1 h2 => run_assign (h1.ev rfl)) ?_
                  refine Tr.nil (Tr.normThen ?_)
                  refine Tr.ret (Tr.retThen ?_)
                  obtain rfl := Option.some.inj H
                  exact Tr.out (m := [(.bool g120)]) [] (res_tmp rfl res_nil) (fun W hW => ⟨rfl, hW.low leB⟩)
            · refine Tr.skip (Tr.normThen ?_)
              refine Tr.seq ?_
              refine Tr.region ?_
              refine Tr.val (wn rfl) rfl (fun _ _ h1 h2 => run_move (h1.ev rfl)) ?_
              refine Tr.val (wn rfl) rfl (fun _ _ h1 h2 => run_len un_22 (h1.ev rfl)) ?_
              refine Tr.val (wn rfl) rfl (fun _ _ h1 h2 => run_eql (h1.ev rfl) (h1.ev rfl)) ?_
              refine Tr.val (wn rfl) rfl (fun _ _ h1 h2 => run_move (h1.ev rfl)) ?_
              refine Tr.mid0 4 [(0, (.slice Ap0_0 (p0).length cp0_0)), (1, (.slice Ap1_0 (p1).length cp1_0)), (5, (.slice Ay101_0 (y101.1).length cy101_0)), (101, (.bool (((y115.1.length : Int) == 0) && (decide (0 < (y117.1.length : Int))))))] [(1, ow (some ⟨b100, 0, none⟩) 2 22 fl_LTRect [p0, p1]), (2, ow Ay101_0 cy101_0 42 fl_TGap y101.1), (3, ow Ay107_0 cy107_0 29 fl_TRect y107.1), (4, ow Ay110_0 cy110_0 29 fl_TRect y110.1), (5, ow Ay115_0 cy115_0 29 fl_TRect y115.1), (6, ow Ay117_0 cy117_0 29 fl_TRect y117.1)] ?_ ?_
              · cases hg134 : ((y115.1.length : Int) == 0)
                · refine Tr.pass rfl rfl rfl rfl rfl (by decide) ?_
                  refine Tr.pass rfl rfl rfl rfl rfl (by decide) ?_
                  refine Tr.pass rfl rfl rfl rfl rfl (by decide) ?_
                  refine Tr.val (wn rfl) rfl (fun _ _ h1 h2 => run_pickF (h1.ev rfl) (h1.ev rfl)) ?_
                  exact Tr.nil (Tr.fin0 (.cons rfl (.cons rfl (.cons rfl (.cons rfl .nil)))) (.cons rfl (.cons rfl (.cons rfl (.cons rfl (.cons rfl (.cons rfl .nil)))))))
                · refine Tr.val (wg rfl rfl rfl) rfl (fun _ _ h1 h2 => run_move (h1.ev rfl)) ?_
                  refine Tr.val (wg rfl rfl rfl) rfl (fun _ _ h1 h2 => run_len un_22 (h1.ev rfl)) ?_
                  refine Tr.val (wg rfl rfl rfl) rfl (fun _ _ h1 h2 => run_gtr (h1.ev rfl) (h1.ev rfl)) ?_
                  refine Tr.val (wn rfl) rfl (fun _ _ h1 h2 => run_pickT (h1.ev rfl) (h1.ev rfl)) ?_
                  exact Tr.nil (Tr.fin0 (.cons rfl (.cons rfl (.cons rfl (.cons rfl .nil)))) (.cons rfl (.cons rfl (.cons rfl (.cons rfl (.cons rfl (.cons rfl .nil)))))))
              · show Tr _ _ (LF [(0, (.slice Ap0_0 (p0).length cp0_0)), (1, (.slice Ap1_0 (p1).length cp1_0)), (5, (.slice Ay101_0 (y101.1).length cy101_0)), (101, (.bool (((y115.1.length : Int) == 0) && (decide (0 < (y117.1.length : Int))))))]) (LE [(1, ow (some ⟨b100, 0, none⟩) 2 22 fl_LTRect [p0, p1]), (2, ow Ay101_0 cy101_0 42 fl_TGap y101.1), (3, ow Ay107_0 cy107_0 29 fl_TRect y107.1), (4, ow Ay110_0 cy110_0 29 fl_TRect y110.1), (5, ow Ay115_0 cy115_0 29 fl_TRect y115.1), (6, ow Ay117_0 cy117_0 29 fl_TRect y117.1)]) _
                refine Tr.val (wn rfl) rfl (fun _ _ h1 h2 => run_move (h1.ev rfl)) ?_
                obtain ⟨g124, hg124, H⟩ := bnd H
                refine Tr.mid0 7 [(1, (.slice Ap1_0 (p1).length cp1_0)), (5, (.slice Ay101_0 (y101.1).length cy101_0)), (109, (.bool g124))] [(1, ow (some ⟨b100, 0, none⟩) 2 22 fl_LTRect [p0, p1]), (2, ow Ay101_0 cy101_0 42 fl_TGap y101.1), (3, ow Ay107_0 cy107_0 29 fl_TRect y107.1), (4, ow Ay110_0 cy110_0 29 fl_TRect y110.1), (5, ow Ay115_0 cy115_0 29 fl_TRect y115.1), (6, ow Ay117_0 cy117_0 29 fl_TRect y117.1)] ?_ ?_
                · cases hg134 : (((y115.1.length : Int) == 0) && (decide (0 < (y117.1.length : Int))))
                  · rw [hg134] at hg124
                    rw [if_neg (by decide)] at hg124
                    have H := hg124
                    obtain rfl := Option.some.inj H
                    refine Tr.pass rfl rfl rfl rfl rfl (by decide) ?_
                    refine Tr.pass rfl rfl rfl rfl rfl (by decide) ?_
                    refine Tr.pass rfl rfl rfl rfl rfl (by decide) ?_
                    refine Tr.pass rfl rfl rfl rfl rfl (by decide) ?_
                    refine Tr.pass rfl rfl rfl rfl rfl (by decide) ?_
                    refine Tr.pass rfl rfl rfl rfl rfl (by decide) ?_
                    refine Tr.val (wn rfl) rfl (fun _ _ h1 h2 => run_pickF (h1.ev rfl) (h1.ev rfl)) ?_
                    exact Tr.nil (Tr.fin0 (.cons rfl (.cons rfl (.cons rfl .nil))) (.cons rfl (.cons rfl (.cons rfl (.cons rfl (.cons rfl (.cons rfl .nil)))))))
                  · rw [hg134] at hg124
                    rw [if_pos rfl] at hg124
                    have H := hg124
                    refine Tr.val (wg rfl rfl rfl) rfl (fun _ _ h1 h2 => run_move (h1.ev rfl)) ?_
                    refine Tr.val (wg rfl rfl rfl) rfl (fun _ _ h1 h2 => run_move (h1.ev rfl)) ?_
                    obtain ⟨x125, hx125, H⟩ := bnd H
                    obtain ⟨hx1250, hx1251, hx1252⟩ := idx_some hx125
                    refine Tr.val (wg rfl rfl rfl) rfl (fun _ _ h1 h2 => run_indexAddr el_37 (h1.ev rfl) hgy101_0 (h1.ev rfl) hx1250 hx1251) ?_
                    refine Tr.val (wg rfl rfl rfl) rfl (fun _ _ h1 h2 => run_fieldAddr fo_42_3 (h1.ev rfl)) ?_
                    refine Tr.val (wg rfl rfl rfl) rfl (fun _ _ h1 h2 => run_loadN (cs := [(.int .i64 x125.From.X), (.int .i64 x125.From.Y)]) ag_32 sz_32 (h1.ev rfl) (CellsAt.take (CellsAt.drop (rdo ef_TGap (k := 2) h2 rfl hx1252) 3) 2) rfl) ?_
                    obtain ⟨y126, hy126, H⟩ := bnd H
                    refine Tr.call0 (r := (.bool y126)) (wg rfl rfl rfl) rfl Try.call20 (evl_cons rfl (evl_cons rfl evl_nil)) (fun W hW => F_etchhouselaw1_has_ok N p0 Ap0_0 cp0_0 (hp0_0.rl.ext hW.extAll) x125.From y126 hy126 (HF.start _)) ?_
                    refine Tr.val (wn rfl) rfl (fun _ _ h1 h2 => run_pickT (h1.ev rfl) (h1.ev rfl)) ?_
                    obtain rfl := Option.some.inj H
                    exact Tr.nil (Tr.fin0 (.cons rfl (.cons rfl (.cons rfl .nil))) (.cons rfl (.cons rfl (.cons rfl (.cons rfl (.cons rfl (.cons rfl .nil)))))))
                · show Tr _ _ (LF [(1, (.slice Ap1_0 (p1).length cp1_0)), (5, (.slice Ay101_0 (y101.1).length cy101_0)), (109, (.bool g124))]) (LE [(1, ow (some ⟨b100, 0, none⟩) 2 22 fl_LTRect [p0, p1]), (2, ow Ay101_0 cy101_0 42 fl_TGap y101.1), (3, ow Ay107_0 cy107_0 29 fl_TRect y107.1), (4, ow Ay110_0 cy110_0 29 fl_TRect y110.1), (5, ow Ay115_0 cy115_0 29 fl_TRect y115.1), (6, ow Ay117_0 cy117_0 29 fl_TRect y117.1)]) _
                  refine Tr.val (wn rfl) rfl (fun _ _ h1 h2 => run_move (h1.ev rfl)) ?_
                  obtain ⟨g129, hg129, H⟩ := bnd H
                  refine Tr.mid0 7 [(117, (.bool g129))] [(1, ow (some ⟨b100, 0, none⟩) 2 22 fl_LTRect [p0, p1]), (2, ow Ay101_0 cy101_0 42 fl_TGap y101.1), (3, ow Ay107_0 cy107_0 29 fl_TRect y107.1), (4, ow Ay110_0 cy110_0 29 fl_TRect y110.1), (5, ow Ay115_0 cy115_0 29 fl_TRect y115.1), (6, ow Ay117_0 cy117_0 29 fl_TRect y117.1)] ?_ ?_
                  · cases hg134 : g124
                    · rw [hg134] at hg129
                      rw [if_neg (by decide)] at hg129
                      have H := hg129
                      obtain rfl := Option.some.inj H
                      refine Tr.pass rfl rfl rfl rfl rfl (by decide) ?_
                      refine Tr.pass rfl rfl rfl rfl rfl (by decide) ?_
                      refine Tr.pass rfl rfl rfl rfl rfl (by decide) ?_
                      refine Tr.pass rfl rfl rfl rfl rfl (by decide) ?_
                      refine Tr.pass rfl rfl rfl rfl rfl (by decide) ?_
                      refine Tr.pass rfl rfl rfl rfl rfl (by decide) ?_
                      refine Tr.val (wn rfl) rfl (fun _ _ h1 h2 => run_pickF (h1.ev rfl) (h1.ev rfl)) ?_
                      exact Tr.nil (Tr.fin0 (.cons rfl .nil) (.cons rfl (.cons rfl (.cons rfl (.cons rfl (.cons rfl (.cons rfl .nil)))))))
                    · rw [hg134] at hg129
                      rw [if_pos rfl] at hg129
                      have H := hg129
                      refine Tr.val (wg rfl rfl rfl) rfl (fun _ _ h1 h2 => run_move (h1.ev rfl)) ?_
                      refine Tr.val (wg rfl rfl rfl) rfl (fun _ _ h1 h2 => run_move (h1.ev rfl)) ?_
                      obtain ⟨x130, hx130, H⟩ := bnd H
                      obtain ⟨hx1300, hx1301, hx1302⟩ := idx_some hx130
                      refine Tr.val (wg rfl rfl rfl) rfl (fun _ _ h1 h2 => run_indexAddr el_37 (h1.ev rfl) hgy101_0 (h1.ev rfl) hx1300 hx1301) ?_
                      refine Tr.val (wg rfl rfl rfl) rfl (fun _ _ h1 h2 => run_fieldAddr fo_42_4 (h1.ev rfl)) ?_
                      refine Tr.val (wg rfl rfl rfl) rfl (fun _ _ h1 h2 => run_loadN (cs := [(.int .i64 x130.To.X), (.int .i64 x130.To.Y)]) ag_32 sz_32 (h1.ev rfl) (CellsAt.take (CellsAt.drop (rdo ef_TGap (k := 2) h2 rfl hx1302) 5) 2) rfl) ?_
                      obtain ⟨y131, hy131, H⟩ := bnd H
                      refine Tr.call0 (r := (.bool y131)) (wg rfl rfl rfl) rfl Try.call20 (evl_cons rfl (evl_cons rfl evl_nil)) (fun W hW => F_etchhouselaw1_has_ok N p1 Ap1_0 cp1_0 (hp1_0.rl.ext hW.extAll) x130.To y131 hy131 (HF.start _)) ?_
                      refine Tr.val (wn rfl) rfl (fun _ _ h1 h2 => run_pickT (h1.ev rfl) (h1.ev rfl)) ?_
                      obtain rfl := Option.some.inj H
                      exact Tr.nil (Tr.fin0 (.cons rfl .nil) (.cons rfl (.cons rfl (.cons rfl (.cons rfl (.cons rfl (.cons rfl .nil)))))))
                  · show Tr _ _ (LF [(117, (.bool g129))]) (LE [(1, ow (some ⟨b100, 0, none⟩) 2 22 fl_LTRect [p0, p1]), (2, ow Ay101_0 cy101_0 42 fl_TGap y101.1), (3, ow Ay107_0 cy107_0 29 fl_TRect y107.1), (4, ow Ay110_0 cy110_0 29 fl_TRect y110.1), (5, ow Ay115_0 cy115_0 29 fl_TRect y115.1), (6, ow Ay117_0 cy117_0 29 fl_TRect y117.1)]) _
                    refine Tr.val (wn rfl) rfl (fun _ _ h1 h2 => run_move (h1.ev rfl)) ?_
                    obtain ⟨g133, hg133, H⟩ := bnd H
                    refine Tr.mid0 2 [(120, (.bool g133))] [(1, ow (some ⟨b100, 0, none⟩) 2 22 fl_LTRect [p0, p1]), (2, ow Ay101_0 cy101_0 42 fl_TGap y101.1), (3, ow Ay107_0 cy107_0 29 fl_TRect y107.1), (4, ow Ay110_0 cy110_0 29 fl_TRect y110.1), (5, ow Ay115_0 cy115_0 29 fl_TRect y115.1), (6, ow Ay117_0 cy117_0 29 fl_TRect y117.1)] ?_ ?_
                    · cases hg134 : g129
                      · rw [hg134] at hg133
                        rw [if_neg (by decide)] at hg133
                        have H := hg133
                        obtain rfl := Option.some.inj H
                        refine Tr.pass rfl rfl rfl rfl rfl (by decide) ?_
                        refine Tr.val (wn rfl) rfl (fun _ _ h1 h2 => run_pickF (h1.ev rfl) (h1.ev rfl)) ?_
                        exact Tr.nil (Tr.fin0 (.cons rfl .nil) (.cons rfl (.cons rfl (.cons rfl (.cons rfl (.cons rfl (.cons rfl .nil)))))))
                      · rw [hg134] at hg133
                        rw [if_pos rfl] at hg133
                        have H := hg133
                        obtain ⟨y134, hy134, H⟩ := bnd H
                        refine Tr.call0 (r := (.bool y134)) (wg rfl rfl rfl) rfl Try.call12 evl_nil (fun W hW => F_etchhouselaw1_awake_ok N y134 hy134 (HF.start _)) ?_
                        refine Tr.val (wn rfl) rfl (fun _ _ h1 h2 => run_pickT (h1.ev rfl) (h1.ev rfl)) ?_
                        obtain rfl := Option.some.inj H
                        exact Tr.nil (Tr.fin0 (.cons rfl .nil) (.cons rfl (.cons rfl (.cons rfl (.cons rfl (.cons rfl (.cons rfl .nil)))))))
                    · show Tr _ _ (LF [(120, (.bool g133))]) (LE [(1, ow (some ⟨b100, 0, none⟩) 2 22 fl_LTRect [p0, p1]), (2, ow Ay101_0 cy101_0 42 fl_TGap y101.1), (3, ow Ay107_0 cy107_0 29 fl_TRect y107.1), (4, ow Ay110_0 cy110_0 29 fl_TRect y110.1), (5, ow Ay115_0 cy115_0 29 fl_TRect y115.1), (6, ow Ay117_0 cy117_0 29 fl_TRect y117.1)]) _
                      refine Tr.val (wn rfl) rfl (fun _ _ h1 h2 => run_assign (h1.ev rfl)) ?_
                      refine Tr.nil (Tr.normThen ?_)
                      refine Tr.ret ?_
                      obtain rfl := Option.some.inj H
                      exact Tr.out (m := [(.bool g133)]) [] (res_tmp rfl res_nil) (fun W hW => ⟨rfl, hW.low leB⟩)

end Go.Proofs.Ytnlhigfglfahiaa
