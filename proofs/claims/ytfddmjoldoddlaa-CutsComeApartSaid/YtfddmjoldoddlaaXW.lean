/- The walks: each function computes its plain function. -/
import Derived.Test.YtfddmjoldoddlaaXWc
namespace Go.Proofs.Ytfddmjoldoddlaa
open Go.RowKit
set_option maxRecDepth 100000
set_option maxHeartbeats 1000000
theorem F_etchhouselaw9_CutsComeApart_ok (N : Nat) {w : Bs} (p0 : TPanel) (Ap0_0 : Option Addr) (cp0_0 : Nat) (hp0_0 : Sl w.R w.W fl_TBoardKind Ap0_0 cp0_0 p0.Kinds) (Ap0_1 : Option Addr) (cp0_1 : Nat) (hp0_1 : Sl w.R w.W fl_TSlot Ap0_1 cp0_1 p0.Slots) (Ap0_2 : Option Addr) (cp0_2 : Nat) (hp0_2 : Sl w.R w.W fl_TPoint Ap0_2 cp0_2 p0.Marks) (r : Bool) (H : F_etchhouselaw9_CutsComeApart N p0 = some r) (hE : HF w w.W E0) : Calls Try.prog 3 [(.agg #[(.int .i64 p0.W), (.int .i64 p0.H), (.int .i64 p0.Rail), (.int .i64 p0.Gap), (.slice Ap0_0 (p0.Kinds).length cp0_0), (.slice Ap0_1 (p0.Slots).length cp0_1), (.slice Ap0_2 (p0.Marks).length cp0_2)])].toArray w.W fun e W' => e = .returned (.bool r) ∧ HF w W' E0 := by
 unfold F_etchhouselaw9_CutsComeApart at H
 have leB := Bs.Le.refl w
 refine Tr.enter (n := 105) Try.func3 rfl rfl rfl hE ?_
 refine Tr.sr ?_
 refine Tr.box 1 (cs := [(.int .i64 p0.W), (.int .i64 p0.H), (.int .i64 p0.Rail), (.int .i64 p0.Gap), (.slice Ap0_0 (p0.Kinds).length cp0_0), (.slice Ap0_1 (p0.Slots).length cp0_1), (.slice Ap0_2 (p0.Marks).length cp0_2)]) (wn rfl) rfl rfl rfl fun b100 => ?_
 refine Tr.asg rfl rfl ?_
 refine Tr.nil (Tr.normThen ?_)
 refine Tr.sr ?_
 refine Tr.va rfl (fun _ _ h1 h2 => run_loadN (cs := [(.int .i64 p0.W), (.int .i64 p0.H), (.int .i64 p0.Rail), (.int .i64 p0.Gap), (.slice Ap0_0 (p0.Kinds).length cp0_0), (.slice Ap0_1 (p0.Slots).length cp0_1), (.slice Ap0_2 (p0.Marks).length cp0_2)]) ag_26 sz_26 (h1.ev rfl) (CellsAt.take (rdb h2 (vs := [(.int .i64 p0.W), (.int .i64 p0.H), (.int .i64 p0.Rail), (.int .i64 p0.Gap), (.slice Ap0_0 (p0.Kinds).length cp0_0), (.slice Ap0_1 (p0.Slots).length cp0_1), (.slice Ap0_2 (p0.Marks).length cp0_2)]) (k := 1) rfl 0) 7) rfl) ?_
 obtain ⟨y101, hy101, H⟩ := bnd H
 refine Tr.callM [2] [emp] (U := (Option Addr × Nat)) (fun u => (.tuple #[(.slice u.1 (y101.1).length u.2), (.bool y101.2.1), (.int .i64 y101.2.2)])) (fun u => SlF u.1 (y101.1).length u.2) (fun u => [ow u.1 u.2 40 fl_TCut y101.1]) rfl (pk_cons rfl pk_nil) (fun _ => rfl) (wn rfl) rfl Try.call7 (evl_cons rfl evl_nil) (fun W hW hp hE => F_panel_Cuts_ok N p0 Ap0_0 cp0_0 (hp0_0.ext (hW.extS hp)) Ap0_1 cp0_1 (hp0_1.ext (hW.extS hp)) Ap0_2 cp0_2 (hp0_2.ext (hW.extS hp)) y101 hy101 hE) ?_
 intro u hu
 obtain ⟨Ay101_0, cy101_0⟩ := u
 have gy101_0 := hu
 have hgy101_0 : SlF Ay101_0 (y101.1).length cy101_0 := gy101_0 --@phi
 show Tr _ _ (uf _ 14 (.tuple #[(.slice Ay101_0 (y101.1).length cy101_0), (.bool y101.2.1), (.int .i64 y101.2.2)])) (up _ 2 (ow Ay101_0 cy101_0 40 fl_TCut y101.1)) _
 refine Tr.mv rfl rfl ?_
 refine Tr.va rfl (fun _ _ h1 h2 => run_extract (h1.ev rfl) rfl) ?_
 refine Tr.va rfl (fun _ _ h1 h2 => run_extract (h1.ev rfl) rfl) ?_
 refine Tr.va rfl (fun _ _ h1 h2 => run_extract (h1.ev rfl) rfl) ?_
 refine Tr.asg rfl rfl ?_
 refine Tr.asg rfl rfl ?_
 refine Tr.asg rfl rfl ?_
 refine Tr.nil (Tr.normThen ?_)
 refine Tr.seq ?_
 refine Tr.sr ?_
 refine Tr.mv rfl rfl ?_
 refine Tr.va rfl (fun _ _ h1 h2 => run_neq (h1.ev rfl) (h1.ev rfl)) ?_
 refine Tr.nil (Tr.normThen ?_)
 refine Tr.cond rfl H (fun H => ?_) (fun H => ?_)
 ·refine Tr.sr ?_
  refine Tr.mv rfl rfl ?_
  refine Tr.va rfl (fun _ _ h1 h2 => run_len un_27 (h1.ev rfl)) ?_
  refine Tr.va rfl (fun _ _ h1 h2 => run_eql (h1.ev rfl) (h1.ev rfl)) ?_
  refine Tr.mv rfl rfl ?_
  refine Tr.mid0 3 [(26, (.bool (((y101.1.length : Int) == 0) && (!y101.2.1))))] [(1, bx b100 #[(.int .i64 p0.W), (.int .i64 p0.H), (.int .i64 p0.Rail), (.int .i64 p0.Gap), (.slice Ap0_0 (p0.Kinds).length cp0_0), (.slice Ap0_1 (p0.Slots).length cp0_1), (.slice Ap0_2 (p0.Marks).length cp0_2)] 26), (2, ow Ay101_0 cy101_0 40 fl_TCut y101.1)] ?_ ?_
  ·cases hg105 : ((y101.1.length : Int) == 0)
   ·refine Tr.pass rfl rfl rfl rfl rfl (by decide) ?_
    refine Tr.pass rfl rfl rfl rfl rfl (by decide) ?_
    refine Tr.va rfl (fun _ _ h1 h2 => run_pickF (h1.ev rfl) (h1.ev rfl)) ?_
    exact Tr.nil (Tr.fin0 (.cons rfl .nil) (.cons rfl (.cons rfl .nil)))
   ·refine Tr.val (wg rfl rfl rfl) rfl (fun _ _ h1 h2 => run_move (h1.ev rfl)) ?_
    refine Tr.val (wg rfl rfl rfl) rfl (fun _ _ h1 h2 => run_not (h1.ev rfl)) ?_
    refine Tr.va rfl (fun _ _ h1 h2 => run_pickT (h1.ev rfl) (h1.ev rfl)) ?_
    exact Tr.nil (Tr.fin0 (.cons rfl .nil) (.cons rfl (.cons rfl .nil)))
  ·show Tr _ _ (LF [(26, (.bool (((y101.1.length : Int) == 0) && (!y101.2.1))))]) (LE [(1, bx b100 #[(.int .i64 p0.W), (.int .i64 p0.H), (.int .i64 p0.Rail), (.int .i64 p0.Gap), (.slice Ap0_0 (p0.Kinds).length cp0_0), (.slice Ap0_1 (p0.Slots).length cp0_1), (.slice Ap0_2 (p0.Marks).length cp0_2)] 26), (2, ow Ay101_0 cy101_0 40 fl_TCut y101.1)]) _
   refine Tr.mv rfl rfl ?_
   obtain ⟨g104, hg104, H⟩ := bnd H
   refine Tr.mid0 2 [(29, (.bool g104))] [(1, bx b100 #[(.int .i64 p0.W), (.int .i64 p0.H), (.int .i64 p0.Rail), (.int .i64 p0.Gap), (.slice Ap0_0 (p0.Kinds).length cp0_0), (.slice Ap0_1 (p0.Slots).length cp0_1), (.slice Ap0_2 (p0.Marks).length cp0_2)] 26), (2, ow Ay101_0 cy101_0 40 fl_TCut y101.1)] ?_ ?_
   ·cases hg105 : (((y101.1.length : Int) == 0) && (!y101.2.1))
    ·rw [hg105] at hg104
     rw [if_neg (by decide)] at hg104
     have H := hg104
     obtain rfl := Option.some.inj H
     refine Tr.pass rfl rfl rfl rfl rfl (by decide) ?_
     refine Tr.va rfl (fun _ _ h1 h2 => run_pickF (h1.ev rfl) (h1.ev rfl)) ?_
     exact Tr.nil (Tr.fin0 (.cons rfl .nil) (.cons rfl (.cons rfl .nil)))
    ·rw [hg105] at hg104
     rw [if_pos rfl] at hg104
     have H := hg104
     obtain ⟨y105, hy105, H⟩ := bnd H
     refine Tr.call0 (r := (.bool y105)) (wg rfl rfl rfl) rfl Try.call8 evl_nil (fun W hW => F_etchhouselaw9_awake_ok N y105 hy105 (HF.start _)) ?_
     refine Tr.va rfl (fun _ _ h1 h2 => run_pickT (h1.ev rfl) (h1.ev rfl)) ?_
     obtain rfl := Option.some.inj H
     exact Tr.nil (Tr.fin0 (.cons rfl .nil) (.cons rfl (.cons rfl .nil)))
   ·show Tr _ _ (LF [(29, (.bool g104))]) (LE [(1, bx b100 #[(.int .i64 p0.W), (.int .i64 p0.H), (.int .i64 p0.Rail), (.int .i64 p0.Gap), (.slice Ap0_0 (p0.Kinds).length cp0_0), (.slice Ap0_1 (p0.Slots).length cp0_1), (.slice Ap0_2 (p0.Marks).length cp0_2)] 26), (2, ow Ay101_0 cy101_0 40 fl_TCut y101.1)]) _
    refine Tr.asg rfl rfl ?_
    refine Tr.nil (Tr.normThen ?_)
    refine Tr.ret (Tr.retThen ?_)
    obtain rfl := Option.some.inj H
    exact Tr.out (m := [(.bool g104)]) [] (res_tmp rfl res_nil) (fun W hW => ⟨rfl, hW.low leB⟩)
 ·refine Tr.skip (Tr.normThen ?_)
  refine Tr.sr ?_
  refine Tr.va rfl (fun _ _ h1 h2 => run_loadN (cs := [(.int .i64 p0.W), (.int .i64 p0.H), (.int .i64 p0.Rail), (.int .i64 p0.Gap), (.slice Ap0_0 (p0.Kinds).length cp0_0), (.slice Ap0_1 (p0.Slots).length cp0_1), (.slice Ap0_2 (p0.Marks).length cp0_2)]) ag_26 sz_26 (h1.ev rfl) (CellsAt.take (rdb h2 (vs := [(.int .i64 p0.W), (.int .i64 p0.H), (.int .i64 p0.Rail), (.int .i64 p0.Gap), (.slice Ap0_0 (p0.Kinds).length cp0_0), (.slice Ap0_1 (p0.Slots).length cp0_1), (.slice Ap0_2 (p0.Marks).length cp0_2)]) (k := 1) rfl 0) 7) rfl) ?_
  obtain ⟨y106, hy106, H⟩ := bnd H
  refine Tr.callM [3] [emp] (U := (Option Addr × Nat)) (fun u => (.tuple #[(.slice u.1 (y106.1).length u.2), (.int .i64 y106.2)])) (fun u => SlF u.1 (y106.1).length u.2) (fun u => [ow u.1 u.2 38 fl_TRect y106.1]) rfl (pk_cons rfl pk_nil) (fun _ => rfl) (wn rfl) rfl Try.call9 (evl_cons rfl evl_nil) (fun W hW hp hE => F_panel_Cells_ok N p0 Ap0_0 cp0_0 (hp0_0.ext (hW.extS hp)) Ap0_1 cp0_1 (hp0_1.ext (hW.extS hp)) Ap0_2 cp0_2 (hp0_2.ext (hW.extS hp)) y106 hy106 hE) ?_
  intro u hu
  obtain ⟨Ay106_0, cy106_0⟩ := u
  have gy106_0 := hu
  have hgy106_0 : SlF Ay106_0 (y106.1).length cy106_0 := gy106_0 --@phi
  show Tr _ _ (uf _ 32 (.tuple #[(.slice Ay106_0 (y106.1).length cy106_0), (.int .i64 y106.2)])) (up _ 3 (ow Ay106_0 cy106_0 38 fl_TRect y106.1)) _
  refine Tr.mv rfl rfl ?_
  refine Tr.va rfl (fun _ _ h1 h2 => run_extract (h1.ev rfl) rfl) ?_
  refine Tr.va rfl (fun _ _ h1 h2 => run_extract (h1.ev rfl) rfl) ?_
  refine Tr.asg rfl rfl ?_
  refine Tr.asg rfl rfl ?_
  refine Tr.nil (Tr.normThen ?_)
  refine Tr.sr ?_
  refine Tr.va rfl (fun _ _ h1 h2 => run_loadN (cs := [(.int .i64 p0.W), (.int .i64 p0.H), (.int .i64 p0.Rail), (.int .i64 p0.Gap), (.slice Ap0_0 (p0.Kinds).length cp0_0), (.slice Ap0_1 (p0.Slots).length cp0_1), (.slice Ap0_2 (p0.Marks).length cp0_2)]) ag_26 sz_26 (h1.ev rfl) (CellsAt.take (rdb h2 (vs := [(.int .i64 p0.W), (.int .i64 p0.H), (.int .i64 p0.Rail), (.int .i64 p0.Gap), (.slice Ap0_0 (p0.Kinds).length cp0_0), (.slice Ap0_1 (p0.Slots).length cp0_1), (.slice Ap0_2 (p0.Marks).length cp0_2)]) (k := 1) rfl 0) 7) rfl) ?_
  obtain ⟨y108, hy108, H⟩ := bnd H
  refine Tr.callM [4] [emp] (U := (Option Addr × Nat)) (fun u => (.tuple #[(.slice u.1 (y108.1).length u.2), (.int .i64 y108.2)])) (fun u => SlF u.1 (y108.1).length u.2) (fun u => [ow u.1 u.2 40 fl_TCut y108.1]) rfl (pk_cons rfl pk_nil) (fun _ => rfl) (wn rfl) rfl Try.call10 (evl_cons rfl evl_nil) (fun W hW hp hE => F_panel_Scores_ok N p0 Ap0_0 cp0_0 (hp0_0.ext (hW.extS hp)) Ap0_1 cp0_1 (hp0_1.ext (hW.extS hp)) Ap0_2 cp0_2 (hp0_2.ext (hW.extS hp)) y108 hy108 hE) ?_
  intro u hu
  obtain ⟨Ay108_0, cy108_0⟩ := u
  have gy108_0 := hu
  have hgy108_0 : SlF Ay108_0 (y108.1).length cy108_0 := gy108_0 --@phi
  show Tr _ _ (uf _ 37 (.tuple #[(.slice Ay108_0 (y108.1).length cy108_0), (.int .i64 y108.2)])) (up _ 4 (ow Ay108_0 cy108_0 40 fl_TCut y108.1)) _
  refine Tr.mv rfl rfl ?_
  refine Tr.va rfl (fun _ _ h1 h2 => run_extract (h1.ev rfl) rfl) ?_
  refine Tr.va rfl (fun _ _ h1 h2 => run_extract (h1.ev rfl) rfl) ?_
  refine Tr.asg rfl rfl ?_
  refine Tr.asg rfl rfl ?_
  refine Tr.nil (Tr.normThen ?_)
  refine Tr.seq ?_
  refine Tr.sr ?_
  refine Tr.mv rfl rfl ?_
  refine Tr.va rfl (fun _ _ h1 h2 => run_neq (h1.ev rfl) (h1.ev rfl)) ?_
  refine Tr.mv rfl rfl ?_
  refine Tr.mid0 3 [(3, (.slice Ay101_0 (y101.1).length cy101_0)), (4, (.bool y101.2.1)), (6, (.slice Ay106_0 (y106.1).length cy106_0)), (7, (.slice Ay108_0 (y108.1).length cy108_0)), (45, (.bool ((y106.2 != 0) || (y108.2 != 0))))] [(1, bx b100 #[(.int .i64 p0.W), (.int .i64 p0.H), (.int .i64 p0.Rail), (.int .i64 p0.Gap), (.slice Ap0_0 (p0.Kinds).length cp0_0), (.slice Ap0_1 (p0.Slots).length cp0_1), (.slice Ap0_2 (p0.Marks).length cp0_2)] 26), (2, ow Ay101_0 cy101_0 40 fl_TCut y101.1), (3, ow Ay106_0 cy106_0 38 fl_TRect y106.1), (4, ow Ay108_0 cy108_0 40 fl_TCut y108.1)] ?_ ?_
  ·cases hg183 : (y106.2 != 0)
   ·refine Tr.val (wg rfl rfl rfl) rfl (fun _ _ h1 h2 => run_move (h1.ev rfl)) ?_
    refine Tr.val (wg rfl rfl rfl) rfl (fun _ _ h1 h2 => run_neq (h1.ev rfl) (h1.ev rfl)) ?_
    refine Tr.va rfl (fun _ _ h1 h2 => run_pickF (h1.ev rfl) (h1.ev rfl)) ?_
    exact Tr.nil (Tr.fin0 (.cons rfl (.cons rfl (.cons rfl (.cons rfl (.cons rfl .nil))))) (.cons rfl (.cons rfl (.cons rfl (.cons rfl .nil)))))
   ·refine Tr.pass rfl rfl rfl rfl rfl (by decide) ?_
    refine Tr.pass rfl rfl rfl rfl rfl (by decide) ?_
    refine Tr.va rfl (fun _ _ h1 h2 => run_pickT (h1.ev rfl) (h1.ev rfl)) ?_
    exact Tr.nil (Tr.fin0 (.cons rfl (.cons rfl (.cons rfl (.cons rfl (.cons rfl .nil))))) (.cons rfl (.cons rfl (.cons rfl (.cons rfl .nil)))))
  ·show Tr _ _ (LF [(3, (.slice Ay101_0 (y101.1).length cy101_0)), (4, (.bool y101.2.1)), (6, (.slice Ay106_0 (y106.1).length cy106_0)), (7, (.slice Ay108_0 (y108.1).length cy108_0)), (45, (.bool ((y106.2 != 0) || (y108.2 != 0))))]) (LE [(1, bx b100 #[(.int .i64 p0.W), (.int .i64 p0.H), (.int .i64 p0.Rail), (.int .i64 p0.Gap), (.slice Ap0_0 (p0.Kinds).length cp0_0), (.slice Ap0_1 (p0.Slots).length cp0_1), (.slice Ap0_2 (p0.Marks).length cp0_2)] 26), (2, ow Ay101_0 cy101_0 40 fl_TCut y101.1), (3, ow Ay106_0 cy106_0 38 fl_TRect y106.1), (4, ow Ay108_0 cy108_0 40 fl_TCut y108.1)]) _
   refine Tr.mv rfl rfl ?_
   refine Tr.mid0 8 [(3, (.slice Ay101_0 (y101.1).length cy101_0)), (4, (.bool y101.2.1)), (6, (.slice Ay106_0 (y106.1).length cy106_0)), (7, (.slice Ay108_0 (y108.1).length cy108_0)), (54, (.bool (((y106.2 != 0) || (y108.2 != 0)) || ((!y101.2.1) && (decide (0 < (y101.1.length : Int)))))))] [(1, bx b100 #[(.int .i64 p0.W), (.int .i64 p0.H), (.int .i64 p0.Rail), (.int .i64 p0.Gap), (.slice Ap0_0 (p0.Kinds).length cp0_0), (.slice Ap0_1 (p0.Slots).length cp0_1), (.slice Ap0_2 (p0.Marks).length cp0_2)] 26), (2, ow Ay101_0 cy101_0 40 fl_TCut y101.1), (3, ow Ay106_0 cy106_0 38 fl_TRect y106.1), (4, ow Ay108_0 cy108_0 40 fl_TCut y108.1)] ?_ ?_
   ·cases hg183 : ((y106.2 != 0) || (y108.2 != 0))
    ·refine Tr.val (wg rfl rfl rfl) rfl (fun _ _ h1 h2 => run_move (h1.ev rfl)) ?_
     refine Tr.val (wg rfl rfl rfl) rfl (fun _ _ h1 h2 => run_not (h1.ev rfl)) ?_
     refine Tr.val (wg rfl rfl rfl) rfl (fun _ _ h1 h2 => run_move (h1.ev rfl)) ?_
     refine Tr.mid0 4 [(3, (.slice Ay101_0 (y101.1).length cy101_0)), (4, (.bool y101.2.1)), (6, (.slice Ay106_0 (y106.1).length cy106_0)), (7, (.slice Ay108_0 (y108.1).length cy108_0)), (46, (.bool false)), (53, (.bool ((!y101.2.1) && (decide (0 < (y101.1.length : Int))))))] [(1, bx b100 #[(.int .i64 p0.W), (.int .i64 p0.H), (.int .i64 p0.Rail), (.int .i64 p0.Gap), (.slice Ap0_0 (p0.Kinds).length cp0_0), (.slice Ap0_1 (p0.Slots).length cp0_1), (.slice Ap0_2 (p0.Marks).length cp0_2)] 26), (2, ow Ay101_0 cy101_0 40 fl_TCut y101.1), (3, ow Ay106_0 cy106_0 38 fl_TRect y106.1), (4, ow Ay108_0 cy108_0 40 fl_TCut y108.1)] ?_ ?_
     ·cases hg109 : (!y101.2.1)
      ·refine Tr.pass rfl rfl rfl rfl rfl (by decide) ?_
       refine Tr.pass rfl rfl rfl rfl rfl (by decide) ?_
       refine Tr.pass rfl rfl rfl rfl rfl (by decide) ?_
       refine Tr.val (wg rfl rfl rfl) rfl (fun _ _ h1 h2 => run_pickF (h1.ev rfl) (h1.ev rfl)) ?_
       exact Tr.nil (Tr.fin0 (.cons rfl (.cons rfl (.cons rfl (.cons rfl (.cons rfl (.cons rfl .nil)))))) (.cons rfl (.cons rfl (.cons rfl (.cons rfl .nil)))))
      ·refine Tr.val (wg rfl rfl rfl) rfl (fun _ _ h1 h2 => run_move (h1.ev rfl)) ?_
       refine Tr.val (wg rfl rfl rfl) rfl (fun _ _ h1 h2 => run_len un_27 (h1.ev rfl)) ?_
       refine Tr.val (wg rfl rfl rfl) rfl (fun _ _ h1 h2 => run_gtr (h1.ev rfl) (h1.ev rfl)) ?_
       refine Tr.val (wg rfl rfl rfl) rfl (fun _ _ h1 h2 => run_pickT (h1.ev rfl) (h1.ev rfl)) ?_
       exact Tr.nil (Tr.fin0 (.cons rfl (.cons rfl (.cons rfl (.cons rfl (.cons rfl (.cons rfl .nil)))))) (.cons rfl (.cons rfl (.cons rfl (.cons rfl .nil)))))
     ·show Tr _ _ (LF [(3, (.slice Ay101_0 (y101.1).length cy101_0)), (4, (.bool y101.2.1)), (6, (.slice Ay106_0 (y106.1).length cy106_0)), (7, (.slice Ay108_0 (y108.1).length cy108_0)), (46, (.bool false)), (53, (.bool ((!y101.2.1) && (decide (0 < (y101.1.length : Int))))))]) (LE [(1, bx b100 #[(.int .i64 p0.W), (.int .i64 p0.H), (.int .i64 p0.Rail), (.int .i64 p0.Gap), (.slice Ap0_0 (p0.Kinds).length cp0_0), (.slice Ap0_1 (p0.Slots).length cp0_1), (.slice Ap0_2 (p0.Marks).length cp0_2)] 26), (2, ow Ay101_0 cy101_0 40 fl_TCut y101.1), (3, ow Ay106_0 cy106_0 38 fl_TRect y106.1), (4, ow Ay108_0 cy108_0 40 fl_TCut y108.1)]) _
      refine Tr.va rfl (fun _ _ h1 h2 => run_pickF (h1.ev rfl) (h1.ev rfl)) ?_
      exact Tr.nil (Tr.fin0 (.cons rfl (.cons rfl (.cons rfl (.cons rfl (.cons rfl .nil))))) (.cons rfl (.cons rfl (.cons rfl (.cons rfl .nil)))))
    ·refine Tr.pass rfl rfl rfl rfl rfl (by decide) ?_
     refine Tr.pass rfl rfl rfl rfl rfl (by decide) ?_
     refine Tr.pass rfl rfl rfl rfl rfl (by decide) ?_
     refine Tr.passU rfl rfl rfl rfl (by decide) ?_
     refine Tr.passU rfl rfl rfl rfl (by decide) ?_
     refine Tr.passU rfl rfl rfl rfl (by decide) ?_
     refine Tr.pass rfl rfl rfl rfl rfl (by decide) ?_
     refine Tr.va rfl (fun _ _ h1 h2 => run_pickT (h1.ev rfl) (h1.ev rfl)) ?_
     exact Tr.nil (Tr.fin0 (.cons rfl (.cons rfl (.cons rfl (.cons rfl (.cons rfl .nil))))) (.cons rfl (.cons rfl (.cons rfl (.cons rfl .nil)))))
   ·show Tr _ _ (LF [(3, (.slice Ay101_0 (y101.1).length cy101_0)), (4, (.bool y101.2.1)), (6, (.slice Ay106_0 (y106.1).length cy106_0)), (7, (.slice Ay108_0 (y108.1).length cy108_0)), (54, (.bool (((y106.2 != 0) || (y108.2 != 0)) || ((!y101.2.1) && (decide (0 < (y101.1.length : Int)))))))]) (LE [(1, bx b100 #[(.int .i64 p0.W), (.int .i64 p0.H), (.int .i64 p0.Rail), (.int .i64 p0.Gap), (.slice Ap0_0 (p0.Kinds).length cp0_0), (.slice Ap0_1 (p0.Slots).length cp0_1), (.slice Ap0_2 (p0.Marks).length cp0_2)] 26), (2, ow Ay101_0 cy101_0 40 fl_TCut y101.1), (3, ow Ay106_0 cy106_0 38 fl_TRect y106.1), (4, ow Ay108_0 cy108_0 40 fl_TCut y108.1)]) _
    refine Tr.mv rfl rfl ?_
    refine Tr.mid0 11 [(3, (.slice Ay101_0 (y101.1).length cy101_0)), (6, (.slice Ay106_0 (y106.1).length cy106_0)), (7, (.slice Ay108_0 (y108.1).length cy108_0)), (66, (.bool ((((y106.2 != 0) || (y108.2 != 0)) || ((!y101.2.1) && (decide (0 < (y101.1.length : Int))))) || (y101.2.1 && ((y101.1.length : Int) != (max 0 (w64 ((y106.1.length : Int) - 1))))))))] [(1, bx b100 #[(.int .i64 p0.W), (.int .i64 p0.H), (.int .i64 p0.Rail), (.int .i64 p0.Gap), (.slice Ap0_0 (p0.Kinds).length cp0_0), (.slice Ap0_1 (p0.Slots).length cp0_1), (.slice Ap0_2 (p0.Marks).length cp0_2)] 26), (2, ow Ay101_0 cy101_0 40 fl_TCut y101.1), (3, ow Ay106_0 cy106_0 38 fl_TRect y106.1), (4, ow Ay108_0 cy108_0 40 fl_TCut y108.1)] ?_ ?_
    ·cases hg183 : (((y106.2 != 0) || (y108.2 != 0)) || ((!y101.2.1) && (decide (0 < (y101.1.length : Int)))))
     ·refine Tr.val (wg rfl rfl rfl) rfl (fun _ _ h1 h2 => run_move (h1.ev rfl)) ?_
      refine Tr.val (wg rfl rfl rfl) rfl (fun _ _ h1 h2 => run_move (h1.ev rfl)) ?_
      refine Tr.mid0 8 [(3, (.slice Ay101_0 (y101.1).length cy101_0)), (6, (.slice Ay106_0 (y106.1).length cy106_0)), (7, (.slice Ay108_0 (y108.1).length cy108_0)), (55, (.bool false)), (65, (.bool (y101.2.1 && ((y101.1.length : Int) != (max 0 (w64 ((y106.1.length : Int) - 1)))))))] [(1, bx b100 #[(.int .i64 p0.W), (.int .i64 p0.H), (.int .i64 p0.Rail), (.int .i64 p0.Gap), (.slice Ap0_0 (p0.Kinds).length cp0_0), (.slice Ap0_1 (p0.Slots).length cp0_1), (.slice Ap0_2 (p0.Marks).length cp0_2)] 26), (2, ow Ay101_0 cy101_0 40 fl_TCut y101.1), (3, ow Ay106_0 cy106_0 38 fl_TRect y106.1), (4, ow Ay108_0 cy108_0 40 fl_TCut y108.1)] ?_ ?_
      ·cases hg109 : y101.2.1
       ·refine Tr.pass rfl rfl rfl rfl rfl (by decide) ?_
        refine Tr.pass rfl rfl rfl rfl rfl (by decide) ?_
        refine Tr.pass rfl rfl rfl rfl rfl (by decide) ?_
        refine Tr.pass rfl rfl rfl rfl rfl (by decide) ?_
        refine Tr.pass rfl rfl rfl rfl rfl (by decide) ?_
        refine Tr.pass rfl rfl rfl rfl rfl (by decide) ?_
        refine Tr.pass rfl rfl rfl rfl rfl (by decide) ?_
        refine Tr.val (wg rfl rfl rfl) rfl (fun _ _ h1 h2 => run_pickF (h1.ev rfl) (h1.ev rfl)) ?_
        exact Tr.nil (Tr.fin0 (.cons rfl (.cons rfl (.cons rfl (.cons rfl (.cons rfl .nil))))) (.cons rfl (.cons rfl (.cons rfl (.cons rfl .nil)))))
       ·refine Tr.val (wg rfl rfl rfl) rfl (fun _ _ h1 h2 => run_move (h1.ev rfl)) ?_
        refine Tr.val (wg rfl rfl rfl) rfl (fun _ _ h1 h2 => run_len un_27 (h1.ev rfl)) ?_
        refine Tr.val (wg rfl rfl rfl) rfl (fun _ _ h1 h2 => run_move (h1.ev rfl)) ?_
        refine Tr.val (wg rfl rfl rfl) rfl (fun _ _ h1 h2 => run_len un_32 (h1.ev rfl)) ?_
        refine Tr.val (wg rfl rfl rfl) rfl (fun _ _ h1 h2 => run_sub (h1.ev rfl) (h1.ev rfl)) ?_
        refine Tr.val (wg rfl rfl rfl) rfl (fun _ _ h1 h2 => run_max (h1.ev rfl) (h1.ev rfl) _) ?_
        refine Tr.val (wg rfl rfl rfl) rfl (fun _ _ h1 h2 => run_neq (h1.ev rfl) (h1.ev rfl)) ?_
        refine Tr.val (wg rfl rfl rfl) rfl (fun _ _ h1 h2 => run_pickT (h1.ev rfl) (h1.ev rfl)) ?_
        exact Tr.nil (Tr.fin0 (.cons rfl (.cons rfl (.cons rfl (.cons rfl (.cons rfl .nil))))) (.cons rfl (.cons rfl (.cons rfl (.cons rfl .nil)))))
      ·show Tr _ _ (LF [(3, (.slice Ay101_0 (y101.1).length cy101_0)), (6, (.slice Ay106_0 (y106.1).length cy106_0)), (7, (.slice Ay108_0 (y108.1).length cy108_0)), (55, (.bool false)), (65, (.bool (y101.2.1 && ((y101.1.length : Int) != (max 0 (w64 ((y106.1.length : Int) - 1)))))))]) (LE [(1, bx b100 #[(.int .i64 p0.W), (.int .i64 p0.H), (.int .i64 p0.Rail), (.int .i64 p0.Gap), (.slice Ap0_0 (p0.Kinds).length cp0_0), (.slice Ap0_1 (p0.Slots).length cp0_1), (.slice Ap0_2 (p0.Marks).length cp0_2)] 26), (2, ow Ay101_0 cy101_0 40 fl_TCut y101.1), (3, ow Ay106_0 cy106_0 38 fl_TRect y106.1), (4, ow Ay108_0 cy108_0 40 fl_TCut y108.1)]) _
       refine Tr.va rfl (fun _ _ h1 h2 => run_pickF (h1.ev rfl) (h1.ev rfl)) ?_
       exact Tr.nil (Tr.fin0 (.cons rfl (.cons rfl (.cons rfl (.cons rfl .nil)))) (.cons rfl (.cons rfl (.cons rfl (.cons rfl .nil)))))
     ·refine Tr.pass rfl rfl rfl rfl rfl (by decide) ?_
      refine Tr.pass rfl rfl rfl rfl rfl (by decide) ?_
      refine Tr.passU rfl rfl rfl rfl (by decide) ?_
      refine Tr.passU rfl rfl rfl rfl (by decide) ?_
      refine Tr.passU rfl rfl rfl rfl (by decide) ?_
      refine Tr.passU rfl rfl rfl rfl (by decide) ?_
      refine Tr.passU rfl rfl rfl rfl (by decide) ?_
      refine Tr.passU rfl rfl rfl rfl (by decide) ?_
      refine Tr.passU rfl rfl rfl rfl (by decide) ?_
      refine Tr.pass rfl rfl rfl rfl rfl (by decide) ?_
      refine Tr.va rfl (fun _ _ h1 h2 => run_pickT (h1.ev rfl) (h1.ev rfl)) ?_
      exact Tr.nil (Tr.fin0 (.cons rfl (.cons rfl (.cons rfl (.cons rfl .nil)))) (.cons rfl (.cons rfl (.cons rfl (.cons rfl .nil)))))
    ·show Tr _ _ (LF [(3, (.slice Ay101_0 (y101.1).length cy101_0)), (6, (.slice Ay106_0 (y106.1).length cy106_0)), (7, (.slice Ay108_0 (y108.1).length cy108_0)), (66, (.bool ((((y106.2 != 0) || (y108.2 != 0)) || ((!y101.2.1) && (decide (0 < (y101.1.length : Int))))) || (y101.2.1 && ((y101.1.length : Int) != (max 0 (w64 ((y106.1.length : Int) - 1))))))))]) (LE [(1, bx b100 #[(.int .i64 p0.W), (.int .i64 p0.H), (.int .i64 p0.Rail), (.int .i64 p0.Gap), (.slice Ap0_0 (p0.Kinds).length cp0_0), (.slice Ap0_1 (p0.Slots).length cp0_1), (.slice Ap0_2 (p0.Marks).length cp0_2)] 26), (2, ow Ay101_0 cy101_0 40 fl_TCut y101.1), (3, ow Ay106_0 cy106_0 38 fl_TRect y106.1), (4, ow Ay108_0 cy108_0 40 fl_TCut y108.1)]) _
     refine Tr.nil (Tr.normThen ?_)
     refine Tr.cond rfl H (fun H => ?_) (fun H => ?_)
     ·refine Tr.sr ?_
      refine Tr.asg rfl rfl ?_
      refine Tr.nil (Tr.normThen ?_)
      refine Tr.ret (Tr.retThen ?_)
      obtain rfl := Option.some.inj H
      exact Tr.out (m := [(.bool false)]) [] (res_tmp rfl res_nil) (fun W hW => ⟨rfl, hW.low leB⟩)
     ·refine Tr.skip (Tr.normThen ?_)
      refine Tr.seq ?_
      refine Tr.sr ?_
      refine Tr.asg rfl rfl ?_
      refine Tr.nil (Tr.normThen ?_)
      refine Tr.block ?_
      refine Tr.loop (σ := Int) (fun m w s => F_etchhouselaw9_CutsComeApart_L5 N y101 y106 y108 m s = some r) (fun s => [(3, (.slice Ay101_0 (y101.1).length cy101_0)), (6, (.slice Ay106_0 (y106.1).length cy106_0)), (7, (.slice Ay108_0 (y108.1).length cy108_0)), (9, (.int .i64 s))]) (fun s => [(2, ow Ay101_0 cy101_0 40 fl_TCut y101.1), (3, ow Ay106_0 cy106_0 38 fl_TRect y106.1), (4, ow Ay108_0 cy108_0 40 fl_TCut y108.1)]) N 0 H (.cons rfl (.cons rfl (.cons rfl (.cons rfl .nil)))) (.cons rfl (.cons rfl (.cons rfl .nil))) (fun _ _ h => noSome (h)) ?_
      intro w leF_etchhouselaw9_CutsComeApart_L5 mF_etchhouselaw9_CutsComeApart_L5 x159 hs
      have H := hs
      replace H : F_etchhouselaw9_CutsComeApart_L5 N y101 y106 y108 (mF_etchhouselaw9_CutsComeApart_L5 + 1) x159 = some r := H
      replace leB := leB.trans leF_etchhouselaw9_CutsComeApart_L5
      rw [F_etchhouselaw9_CutsComeApart_L5.eq_2] at H
      show Tr _ _ (LF [(3, (.slice Ay101_0 (y101.1).length cy101_0)), (6, (.slice Ay106_0 (y106.1).length cy106_0)), (7, (.slice Ay108_0 (y108.1).length cy108_0)), (9, (.int .i64 x159))]) (LE [(2, ow Ay101_0 cy101_0 40 fl_TCut y101.1), (3, ow Ay106_0 cy106_0 38 fl_TRect y106.1), (4, ow Ay108_0 cy108_0 40 fl_TCut y108.1)]) _
      refine Tr.seq ?_
      refine Tr.sr ?_
      refine Tr.mv rfl rfl ?_
      refine Tr.mv rfl rfl ?_
      refine Tr.va rfl (fun _ _ h1 h2 => run_len un_27 (h1.ev rfl)) ?_
      refine Tr.mv rfl rfl ?_
      refine Tr.va rfl (fun _ _ h1 h2 => run_len un_27 (h1.ev rfl)) ?_
      refine Tr.va rfl (fun _ _ h1 h2 => run_add (h1.ev rfl) (h1.ev rfl)) ?_
      refine Tr.va rfl (fun _ _ h1 h2 => run_lss (h1.ev rfl) (h1.ev rfl)) ?_
      refine Tr.nil (Tr.normThen ?_)
      refine Tr.cond rfl H (fun H => ?_) (fun H => ?_)
      ·refine Tr.skip (Tr.normThen ?_)
       refine Tr.seq ?_
       refine Tr.block ?_
       refine Tr.sr ?_
       refine Tr.build (vs := []) (cs := [(.int .i64 0), (.int .i64 0), (.int .i64 0), (.int .i64 0), (.bool false), (.int .i64 0)]) (wn rfl) rfl evs_nil (by kernel_rfl) ?_
       refine Tr.alloc 7 (wn rfl) rfl ze_40 fun b160 => ?_
       refine Tr.store 7 (cs := [(.int .i64 0), (.int .i64 0), (.int .i64 0), (.int .i64 0), (.bool false), (.int .i64 0)]) [(.int .i64 0), (.int .i64 0), (.int .i64 0), (.int .i64 0), (.bool false), (.int .i64 0)] (wn rfl) rfl rfl rfl rfl sz_40 rfl rfl rfl ?_
       refine Tr.nil (Tr.normThen ?_)
       have leJ169 := Bs.Le.refl w
       refine Tr.cutJ (σ := Int × Int × Int × Int × Bool × Int) (fun w s => F_etchhouselaw9_CutsComeApart_J7 N y106 x159 (F_etchhouselaw9_CutsComeApart_L5 N y101 y106 y108 mF_etchhouselaw9_CutsComeApart_L5) s.1 s.2.1 s.2.2.1 s.2.2.2.1 s.2.2.2.2.1 s.2.2.2.2.2 = some r) (fun s => [(3, (.slice Ay101_0 (y101.1).length cy101_0)), (6, (.slice Ay106_0 (y106.1).length cy106_0)), (7, (.slice Ay108_0 (y108.1).length cy108_0)), (9, (.int .i64 x159)), (10, (.pointer (some ⟨b160, 0, none⟩)))]) (fun s => [(2, ow Ay101_0 cy101_0 40 fl_TCut y101.1), (3, ow Ay106_0 cy106_0 38 fl_TRect y106.1), (4, ow Ay108_0 cy108_0 40 fl_TCut y108.1), (7, bx b160 #[(.int .i64 s.1), (.int .i64 s.2.1), (.int .i64 s.2.2.1), (.int .i64 s.2.2.2.1), (.bool s.2.2.2.2.1), (.int .i64 s.2.2.2.2.2)] 40)]) ?_ ?_
       ·refine Tr.sr ?_
        refine Tr.mv rfl rfl ?_
        refine Tr.mv rfl rfl ?_
        refine Tr.va rfl (fun _ _ h1 h2 => run_len un_27 (h1.ev rfl)) ?_
        refine Tr.va rfl (fun _ _ h1 h2 => run_lss (h1.ev rfl) (h1.ev rfl)) ?_
        refine Tr.nil (Tr.normThen ?_)
        refine Tr.cond rfl H (fun H => ?_) (fun H => ?_)
        ·refine Tr.region ?_
         refine Tr.mv rfl rfl ?_
         refine Tr.mv rfl rfl ?_
         obtain ⟨x181, hx181, H⟩ := bnd H
         obtain ⟨hx1810, hx1811, hx1812⟩ := idx_some hx181
         refine Tr.va rfl (fun _ _ h1 h2 => run_indexAddr el_27 (h1.ev rfl) hgy101_0 (h1.ev rfl) hx1810 hx1811) ?_
         refine Tr.va rfl (fun _ _ h1 h2 => run_loadN (cs := [(.int .i64 x181.Part.X0), (.int .i64 x181.Part.Y0), (.int .i64 x181.Part.X1), (.int .i64 x181.Part.Y1), (.bool x181.Across), (.int .i64 x181.At)]) ag_40 sz_40 (h1.ev rfl) (CellsAt.take (rdo ef_TCut (k := 2) h2 rfl hx1812) 6) rfl) ?_
         refine Tr.store 7 (cs := [(.int .i64 x181.Part.X0), (.int .i64 x181.Part.Y0), (.int .i64 x181.Part.X1), (.int .i64 x181.Part.Y1), (.bool x181.Across), (.int .i64 x181.At)]) [(.int .i64 x181.Part.X0), (.int .i64 x181.Part.Y0), (.int .i64 x181.Part.X1), (.int .i64 x181.Part.Y1), (.bool x181.Across), (.int .i64 x181.At)] (wn rfl) rfl rfl rfl rfl sz_40 rfl rfl rfl ?_
         refine Tr.nil ?_
         exact Tr.backThen leJ169 (x181.Part.X0, x181.Part.Y0, x181.Part.X1, x181.Part.Y1, x181.Across, x181.At) H (.cons rfl (.cons rfl (.cons rfl (.cons rfl (.cons rfl .nil))))) (.cons rfl (.cons rfl (.cons rfl (.cons rfl .nil))))
        ·refine Tr.region ?_
         refine Tr.mv rfl rfl ?_
         refine Tr.mv rfl rfl ?_
         refine Tr.mv rfl rfl ?_
         refine Tr.va rfl (fun _ _ h1 h2 => run_len un_27 (h1.ev rfl)) ?_
         refine Tr.va rfl (fun _ _ h1 h2 => run_sub (h1.ev rfl) (h1.ev rfl)) ?_
         obtain ⟨x182, hx182, H⟩ := bnd H
         obtain ⟨hx1820, hx1821, hx1822⟩ := idx_some hx182
         refine Tr.va rfl (fun _ _ h1 h2 => run_indexAddr el_27 (h1.ev rfl) hgy108_0 (h1.ev rfl) hx1820 hx1821) ?_
         refine Tr.va rfl (fun _ _ h1 h2 => run_loadN (cs := [(.int .i64 x182.Part.X0), (.int .i64 x182.Part.Y0), (.int .i64 x182.Part.X1), (.int .i64 x182.Part.Y1), (.bool x182.Across), (.int .i64 x182.At)]) ag_40 sz_40 (h1.ev rfl) (CellsAt.take (rdo ef_TCut (k := 4) h2 rfl hx1822) 6) rfl) ?_
         refine Tr.store 7 (cs := [(.int .i64 x182.Part.X0), (.int .i64 x182.Part.Y0), (.int .i64 x182.Part.X1), (.int .i64 x182.Part.Y1), (.bool x182.Across), (.int .i64 x182.At)]) [(.int .i64 x182.Part.X0), (.int .i64 x182.Part.Y0), (.int .i64 x182.Part.X1), (.int .i64 x182.Part.Y1), (.bool x182.Across), (.int .i64 x182.At)] (wn rfl) rfl rfl rfl rfl sz_40 rfl rfl rfl ?_
         refine Tr.nil ?_
         exact Tr.backThen leJ169 (x182.Part.X0, x182.Part.Y0, x182.Part.X1, x182.Part.Y1, x182.Across, x182.At) H (.cons rfl (.cons rfl (.cons rfl (.cons rfl (.cons rfl .nil))))) (.cons rfl (.cons rfl (.cons rfl (.cons rfl .nil))))
       ·intro w s hlJ170 hs
        obtain ⟨x163, x164, x165, x166, x167, x168⟩ := s
        have H := hs
        replace H : F_etchhouselaw9_CutsComeApart_J7 N y106 x159 (F_etchhouselaw9_CutsComeApart_L5 N y101 y106 y108 mF_etchhouselaw9_CutsComeApart_L5) x163 x164 x165 x166 x167 x168 = some r := H
        replace leB := leB.trans hlJ170
        replace leF_etchhouselaw9_CutsComeApart_L5 := leF_etchhouselaw9_CutsComeApart_L5.trans hlJ170
        unfold F_etchhouselaw9_CutsComeApart_J7 at H
        show Tr _ _ (LF [(3, (.slice Ay101_0 (y101.1).length cy101_0)), (6, (.slice Ay106_0 (y106.1).length cy106_0)), (7, (.slice Ay108_0 (y108.1).length cy108_0)), (9, (.int .i64 x159)), (10, (.pointer (some ⟨b160, 0, none⟩)))]) (LE [(2, ow Ay101_0 cy101_0 40 fl_TCut y101.1), (3, ow Ay106_0 cy106_0 38 fl_TRect y106.1), (4, ow Ay108_0 cy108_0 40 fl_TCut y108.1), (7, bx b160 #[(.int .i64 x163), (.int .i64 x164), (.int .i64 x165), (.int .i64 x166), (.bool x167), (.int .i64 x168)] 40)]) _
        refine Tr.sr ?_
        refine Tr.asg rfl rfl ?_
        refine Tr.nil (Tr.normThen ?_)
        refine Tr.block ?_
        refine Tr.loop (σ := Int) (fun m w s => F_etchhouselaw9_CutsComeApart_L6 y106 x159 (F_etchhouselaw9_CutsComeApart_L5 N y101 y106 y108 mF_etchhouselaw9_CutsComeApart_L5) x163 x164 x165 x166 x167 x168 m s = some r) (fun s => [(3, (.slice Ay101_0 (y101.1).length cy101_0)), (6, (.slice Ay106_0 (y106.1).length cy106_0)), (7, (.slice Ay108_0 (y108.1).length cy108_0)), (9, (.int .i64 x159)), (10, (.pointer (some ⟨b160, 0, none⟩))), (11, (.int .i64 s))]) (fun s => [(2, ow Ay101_0 cy101_0 40 fl_TCut y101.1), (3, ow Ay106_0 cy106_0 38 fl_TRect y106.1), (4, ow Ay108_0 cy108_0 40 fl_TCut y108.1), (7, bx b160 #[(.int .i64 x163), (.int .i64 x164), (.int .i64 x165), (.int .i64 x166), (.bool x167), (.int .i64 x168)] 40)]) N 0 H (.cons rfl (.cons rfl (.cons rfl (.cons rfl (.cons rfl (.cons rfl .nil)))))) (.cons rfl (.cons rfl (.cons rfl (.cons rfl .nil)))) (fun _ _ h => noSome (h)) ?_
        intro w leF_etchhouselaw9_CutsComeApart_L6 mF_etchhouselaw9_CutsComeApart_L6 x178 hs
        have H := hs
        replace H : F_etchhouselaw9_CutsComeApart_L6 y106 x159 (F_etchhouselaw9_CutsComeApart_L5 N y101 y106 y108 mF_etchhouselaw9_CutsComeApart_L5) x163 x164 x165 x166 x167 x168 (mF_etchhouselaw9_CutsComeApart_L6 + 1) x178 = some r := H
        replace leB := leB.trans leF_etchhouselaw9_CutsComeApart_L6
        replace leF_etchhouselaw9_CutsComeApart_L5 := leF_etchhouselaw9_CutsComeApart_L5.trans leF_etchhouselaw9_CutsComeApart_L6
        rw [F_etchhouselaw9_CutsComeApart_L6.eq_2] at H
        show Tr _ _ (LF [(3, (.slice Ay101_0 (y101.1).length cy101_0)), (6, (.slice Ay106_0 (y106.1).length cy106_0)), (7, (.slice Ay108_0 (y108.1).length cy108_0)), (9, (.int .i64 x159)), (10, (.pointer (some ⟨b160, 0, none⟩))), (11, (.int .i64 x178))]) (LE [(2, ow Ay101_0 cy101_0 40 fl_TCut y101.1), (3, ow Ay106_0 cy106_0 38 fl_TRect y106.1), (4, ow Ay108_0 cy108_0 40 fl_TCut y108.1), (7, bx b160 #[(.int .i64 x163), (.int .i64 x164), (.int .i64 x165), (.int .i64 x166), (.bool x167), (.int .i64 x168)] 40)]) _
        refine Tr.seq ?_
        refine Tr.sr ?_
        refine Tr.mv rfl rfl ?_
        refine Tr.mv rfl rfl ?_
        refine Tr.va rfl (fun _ _ h1 h2 => run_len un_32 (h1.ev rfl)) ?_
        refine Tr.va rfl (fun _ _ h1 h2 => run_lss (h1.ev rfl) (h1.ev rfl)) ?_
        refine Tr.nil (Tr.normThen ?_)
        refine Tr.cond rfl H (fun H => ?_) (fun H => ?_)
        ·refine Tr.skip (Tr.normThen ?_)
         refine Tr.seq ?_
         refine Tr.block ?_
         refine Tr.seq ?_
         refine Tr.draw (by kernel_rfl) (by kernel_rfl) ?_
         refine Tq.va rfl (fun _ _ h1 h2 => run_loadN (cs := [(.int .i64 x163), (.int .i64 x164), (.int .i64 x165), (.int .i64 x166), (.bool x167), (.int .i64 x168)]) ag_40 sz_40 (h1.ev rfl) (CellsAt.take (rdb h2 (vs := [(.int .i64 x163), (.int .i64 x164), (.int .i64 x165), (.int .i64 x166), (.bool x167), (.int .i64 x168)]) (k := 7) rfl 0) 6) rfl) ?_
         refine Tq.mv rfl rfl ?_
         refine Tq.mv rfl rfl ?_
         obtain ⟨x179, hx179, H⟩ := bnd H
         obtain ⟨hx1790, hx1791, hx1792⟩ := idx_some hx179
         refine Tq.va rfl (fun _ _ h1 h2 => run_indexAddr el_32 (h1.ev rfl) hgy106_0 (h1.ev rfl) hx1790 hx1791) ?_
         refine Tq.va rfl (fun _ _ h1 h2 => run_loadN (cs := [(.int .i64 x179.X0), (.int .i64 x179.Y0), (.int .i64 x179.X1), (.int .i64 x179.Y1)]) ag_38 sz_38 (h1.ev rfl) (CellsAt.take (rdo ef_TRect (k := 3) h2 rfl hx1792) 4) rfl) ?_
         obtain ⟨y180, hy180, H⟩ := bnd H
         refine Tq.call0 (r := (.bool y180)) (wn rfl) rfl Try.call11 (evl_cons rfl (evl_cons rfl evl_nil)) (fun W hW => F_etchhouselaw9_through_ok (TCut.mk (TRect.mk x163 x164 x165 x166) x167 x168) x179 y180 hy180 (HF.start _)) ?_
         refine Tq.nil (Tr.normThen ?_)
         refine Tr.cond rfl H (fun H => ?_) (fun H => ?_)
         ·refine Tr.sr ?_
          refine Tr.asg rfl rfl ?_
          refine Tr.nil (Tr.normThen ?_)
          refine Tr.ret (Tr.retBlock (Tr.retThen (Tr.retThen (Tr.retBlock (Tr.retBlock (Tr.retThen (Tr.retThen (Tr.retBlock (Tr.retThen ?_)))))))))
          obtain rfl := Option.some.inj H
          exact Tr.out (m := [(.bool false)]) [] (res_tmp rfl res_nil) (fun W hW => ⟨rfl, hW.low leB⟩)
         ·refine Tr.skip (Tr.normBlock (Tr.normThen ?_))
          refine Tr.region ?_
          refine Tr.mv rfl rfl ?_
          refine Tr.va rfl (fun _ _ h1 h2 => run_add (h1.ev rfl) (h1.ev rfl)) ?_
          refine Tr.asg rfl rfl ?_
          refine Tr.nil ?_
          exact Tr.backThen leF_etchhouselaw9_CutsComeApart_L6 (w64 (x178 + 1)) H (.cons rfl (.cons rfl (.cons rfl (.cons rfl (.cons rfl (.cons rfl .nil)))))) (.cons rfl (.cons rfl (.cons rfl (.cons rfl .nil))))
        ·refine Tr.exit (Tr.exitThen (Tr.exitThen (Tr.exitBlock (Tr.normBlock (Tr.normThen ?_)))))
         refine Tr.region ?_
         refine Tr.mv rfl rfl ?_
         refine Tr.va rfl (fun _ _ h1 h2 => run_add (h1.ev rfl) (h1.ev rfl)) ?_
         refine Tr.asg rfl rfl ?_
         refine Tr.nil ?_
         exact Tr.backThen leF_etchhouselaw9_CutsComeApart_L5 (w64 (x159 + 1)) H (.cons rfl (.cons rfl (.cons rfl (.cons rfl .nil)))) (.cons rfl (.cons rfl (.cons rfl .nil)))
      ·refine Tr.exit (Tr.exitThen (Tr.exitThen (Tr.exitBlock (Tr.normThen ?_))))
       refine Tr.sr ?_
       obtain ⟨y183, hy183, H⟩ := bnd H
       refine Tr.call0 (r := (.bool y183)) (wn rfl) rfl Try.call8 evl_nil (fun W hW => F_etchhouselaw9_awake_ok N y183 hy183 (HF.start _)) ?_
       refine Tr.asg rfl rfl ?_
       refine Tr.nil (Tr.normThen ?_)
       refine Tr.ret ?_
       obtain rfl := Option.some.inj H
       exact Tr.out (m := [(.bool y183)]) [] (res_tmp rfl res_nil) (fun W hW => ⟨rfl, hW.low leB⟩)

end Go.Proofs.Ytfddmjoldoddlaa
