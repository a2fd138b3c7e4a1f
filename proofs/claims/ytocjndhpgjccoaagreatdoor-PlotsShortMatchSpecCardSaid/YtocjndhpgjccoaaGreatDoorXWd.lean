/- The walks: each function computes its plain function. -/
import Derived.Test.YtocjndhpgjccoaaGreatDoorXWc
namespace Go.Proofs.YtocjndhpgjccoaaGreatDoor
open Go.RowKit
set_option maxRecDepth 100000
set_option maxHeartbeats 1000000
theorem F_etchhouseref3_idle_ok (N : Nat) {w : Bs} (p0 : (List TPlotStep)) (Ap0_0 : Option Addr) (cp0_0 : Nat) (hp0_0 : Sl w.R w.W fl_TPlotStep Ap0_0 cp0_0 p0) (p1 : Int) (p2 : Tetchhouseref3Known) (r : Bool) (H : F_etchhouseref3_idle N p0 p1 p2 = some r) (hE : HF w w.W E0) : Calls Tryz.prog 59 [(.slice Ap0_0 (p0).length cp0_0), (iv p1), (.agg #[(iv p2.light), (sv p2.tool), (.bool p2.there), (iv p2.place.X), (iv p2.place.Y), (.bool p2.drawn), (sv p2.drawTool), (iv p2.drawDark), (iv p2.drawAt.X), (iv p2.drawAt.Y)])].toArray w.W fun e W' => e = .returned (.bool r) ∧ HF w W' E0 := by
 unfold F_etchhouseref3_idle at H
 have leB := Bs.Le.refl w
 refine Tr.enter (n := 97) Tryz.func59 rfl rfl rfl hE ?_
 refine Tr.sr ?_
 refine Tr.box 1 (cs := [(iv p2.light), (sv p2.tool), (.bool p2.there), (iv p2.place.X), (iv p2.place.Y), (.bool p2.drawn), (sv p2.drawTool), (iv p2.drawDark), (iv p2.drawAt.X), (iv p2.drawAt.Y)]) (wn rfl) rfl rfl rfl fun b100 => ?_
 refine Tr.asg rfl rfl ?_
 refine Tr.nil (Tr.normThen ?_)
 refine Tr.sr ?_
 refine Tr.mv rfl rfl ?_
 refine Tr.mv rfl rfl ?_
 obtain ⟨x101, hx101, H⟩ := bnd H
 obtain ⟨hx1010, hx1011, hx1012⟩ := idx_some hx101
 obtain ⟨u102, hRu102, hoku102, hcu102⟩ := (hp0_0).el hx1012
 obtain ⟨⟨Au102_0, cu102_0⟩, ⟨Au102_1, cu102_1⟩⟩ := u102
 obtain ⟨hoku102_0, hoku102_1⟩ := TPlotStep_ok.1 hoku102
 replace hoku102_0 : Sl w.R w.W fl_TPoint Au102_0 cu102_0 x101.Points := hoku102_0
 replace hoku102_1 : Sl w.R w.W fl_TPlotStep Au102_1 cu102_1 x101.Steps := hoku102_1
 refine Tr.va rfl (fun _ _ h1 h2 => run_indexAddr el_23 (h1.ev rfl) hp0_0.form (h1.ev rfl) hx1010 hx1011) ?_
 refine Tr.va rfl (fun _ _ h1 h2 => run_loadN (cs := [(iv x101.Kind), (sv x101.Name), (iv x101.At.X), (iv x101.At.Y), (.slice Au102_0 (x101.Points).length cu102_0), (iv x101.NX), (iv x101.NY), (.slice Au102_1 (x101.Steps).length cu102_1)]) ag_49 sz_49 (h1.ev rfl) (CellsAt.take (rdR hRu102 hcu102 h2) 8) rfl) ?_
 refine Tr.alloc 2 (wn rfl) rfl ze_49 fun b103 => ?_
 refine Tr.store 2 (cs := [(iv x101.Kind), (sv x101.Name), (iv x101.At.X), (iv x101.At.Y), (.slice Au102_0 (x101.Points).length cu102_0), (iv x101.NX), (iv x101.NY), (.slice Au102_1 (x101.Steps).length cu102_1)]) [(iv x101.Kind), (sv x101.Name), (iv x101.At.X), (iv x101.At.Y), (.slice Au102_0 (x101.Points).length cu102_0), (iv x101.NX), (iv x101.NY), (.slice Au102_1 (x101.Steps).length cu102_1)] (wn rfl) rfl rfl rfl rfl sz_49 rfl rfl rfl ?_
 refine Tr.nil (Tr.normThen ?_)
 refine Tr.seq ?_
 refine Tr.sr ?_
 refine Tr.va rfl (fun _ _ h1 h2 => run_fieldAddr fo_49_0 (h1.ev rfl)) ?_
 refine Tr.va rfl (fun _ _ h1 h2 => run_load1 ag_3 (h1.ev rfl) (rdb h2 (vs := [(iv x101.Kind), (sv x101.Name), (iv x101.At.X), (iv x101.At.Y), (.slice Au102_0 (x101.Points).length cu102_0), (iv x101.NX), (iv x101.NY), (.slice Au102_1 (x101.Steps).length cu102_1)]) (k := 2) rfl 0) rfl) ?_
 refine Tr.nil (Tr.normThen ?_)
 refine Tr.block ?_
 refine Tr.sr ?_
 refine Tr.va rfl (fun _ _ h1 h2 => run_eql (h1.ev rfl) (h1.ev rfl)) ?_
 refine Tr.asg rfl rfl ?_
 refine Tr.nil (Tr.normThen ?_)
 refine Tr.cond rfl H (fun H => ?_) (fun H => ?_)
 ·refine Tr.sr ?_
  refine Tr.va rfl (fun _ _ h1 h2 => run_fieldAddr fo_103_0 (h1.ev rfl)) ?_
  refine Tr.va rfl (fun _ _ h1 h2 => run_load1 ag_3 (h1.ev rfl) (rdb h2 (vs := [(iv p2.light), (sv p2.tool), (.bool p2.there), (iv p2.place.X), (iv p2.place.Y), (.bool p2.drawn), (sv p2.drawTool), (iv p2.drawDark), (iv p2.drawAt.X), (iv p2.drawAt.Y)]) (k := 1) rfl 0) rfl) ?_
  refine Tr.va rfl (fun _ _ h1 h2 => run_eql (h1.ev rfl) (h1.ev rfl)) ?_
  refine Tr.mv rfl rfl ?_
  obtain ⟨g105, hg105, H⟩ := bnd H
  refine Tr.mid0 4 [(23, (.bool g105))] [(1, bx b100 #[(iv p2.light), (sv p2.tool), (.bool p2.there), (iv p2.place.X), (iv p2.place.Y), (.bool p2.drawn), (sv p2.drawTool), (iv p2.drawDark), (iv p2.drawAt.X), (iv p2.drawAt.Y)] 103), (2, bx b103 #[(iv x101.Kind), (sv x101.Name), (iv x101.At.X), (iv x101.At.Y), (.slice Au102_0 (x101.Points).length cu102_0), (iv x101.NX), (iv x101.NY), (.slice Au102_1 (x101.Steps).length cu102_1)] 49)] ?_ ?_
  ·cases hg106 : (p2.light == 1)
   ·rw [hg106] at hg105
    rw [if_neg (by decide)] at hg105
    have H := hg105
    refine Tr.val (wg rfl rfl rfl) rfl (fun _ _ h1 h2 => run_move (h1.ev rfl)) ?_
    refine Tr.val (wg rfl rfl rfl) rfl (fun _ _ h1 h2 => run_move (h1.ev rfl)) ?_
    obtain ⟨y106, hy106, H⟩ := bnd H
    refine Tr.call0 (r := (.bool y106)) (wg rfl rfl rfl) rfl Tryz.call88 (evl_cons rfl (evl_cons rfl evl_nil)) (fun W hW => F_etchhouseref3_idleLight_ok N p0 Ap0_0 cp0_0 (hp0_0.ext hW.extAll) p1 y106 hy106 (HF.start _)) ?_
    refine Tr.va rfl (fun _ _ h1 h2 => run_pickF (h1.ev rfl) (h1.ev rfl)) ?_
    obtain rfl := Option.some.inj H
    exact Tr.nil (Tr.fin0 (.cons rfl .nil) (.cons rfl (.cons rfl .nil)))
   ·rw [hg106] at hg105
    rw [if_pos rfl] at hg105
    have H := hg105
    obtain rfl := Option.some.inj H
    refine Tr.pass rfl rfl rfl rfl rfl (by decide) ?_
    refine Tr.pass rfl rfl rfl rfl rfl (by decide) ?_
    refine Tr.pass rfl rfl rfl rfl rfl (by decide) ?_
    refine Tr.va rfl (fun _ _ h1 h2 => run_pickT (h1.ev rfl) (h1.ev rfl)) ?_
    exact Tr.nil (Tr.fin0 (.cons rfl .nil) (.cons rfl (.cons rfl .nil)))
  ·show Tr _ _ (LF [(23, (.bool g105))]) (LE [(1, bx b100 #[(iv p2.light), (sv p2.tool), (.bool p2.there), (iv p2.place.X), (iv p2.place.Y), (.bool p2.drawn), (sv p2.drawTool), (iv p2.drawDark), (iv p2.drawAt.X), (iv p2.drawAt.Y)] 103), (2, bx b103 #[(iv x101.Kind), (sv x101.Name), (iv x101.At.X), (iv x101.At.Y), (.slice Au102_0 (x101.Points).length cu102_0), (iv x101.NX), (iv x101.NY), (.slice Au102_1 (x101.Steps).length cu102_1)] 49)]) _
   refine Tr.asg rfl rfl ?_
   refine Tr.nil (Tr.normThen ?_)
   refine Tr.ret (Tr.retBlock (Tr.retThen ?_))
   obtain rfl := Option.some.inj H
   exact Tr.out (m := [(.bool g105)]) [] (res_tmp rfl res_nil) (fun W hW => ⟨rfl, hW.low leB⟩)
 ·refine Tr.sr ?_
  refine Tr.va rfl (fun _ _ h1 h2 => run_eql (h1.ev rfl) (h1.ev rfl)) ?_
  refine Tr.asg rfl rfl ?_
  refine Tr.nil (Tr.normThen ?_)
  refine Tr.cond rfl H (fun H => ?_) (fun H => ?_)
  ·refine Tr.sr ?_
   refine Tr.va rfl (fun _ _ h1 h2 => run_fieldAddr fo_103_0 (h1.ev rfl)) ?_
   refine Tr.va rfl (fun _ _ h1 h2 => run_load1 ag_3 (h1.ev rfl) (rdb h2 (vs := [(iv p2.light), (sv p2.tool), (.bool p2.there), (iv p2.place.X), (iv p2.place.Y), (.bool p2.drawn), (sv p2.drawTool), (iv p2.drawDark), (iv p2.drawAt.X), (iv p2.drawAt.Y)]) (k := 1) rfl 0) rfl) ?_
   refine Tr.va rfl (fun _ _ h1 h2 => run_eql (h1.ev rfl) (h1.ev rfl)) ?_
   refine Tr.mv rfl rfl ?_
   obtain ⟨g108, hg108, H⟩ := bnd H
   refine Tr.mid0 4 [(33, (.bool g108))] [(1, bx b100 #[(iv p2.light), (sv p2.tool), (.bool p2.there), (iv p2.place.X), (iv p2.place.Y), (.bool p2.drawn), (sv p2.drawTool), (iv p2.drawDark), (iv p2.drawAt.X), (iv p2.drawAt.Y)] 103), (2, bx b103 #[(iv x101.Kind), (sv x101.Name), (iv x101.At.X), (iv x101.At.Y), (.slice Au102_0 (x101.Points).length cu102_0), (iv x101.NX), (iv x101.NY), (.slice Au102_1 (x101.Steps).length cu102_1)] 49)] ?_ ?_
   ·cases hg109 : (p2.light == 2)
    ·rw [hg109] at hg108
     rw [if_neg (by decide)] at hg108
     have H := hg108
     refine Tr.val (wg rfl rfl rfl) rfl (fun _ _ h1 h2 => run_move (h1.ev rfl)) ?_
     refine Tr.val (wg rfl rfl rfl) rfl (fun _ _ h1 h2 => run_move (h1.ev rfl)) ?_
     obtain ⟨y109, hy109, H⟩ := bnd H
     refine Tr.call0 (r := (.bool y109)) (wg rfl rfl rfl) rfl Tryz.call88 (evl_cons rfl (evl_cons rfl evl_nil)) (fun W hW => F_etchhouseref3_idleLight_ok N p0 Ap0_0 cp0_0 (hp0_0.ext hW.extAll) p1 y109 hy109 (HF.start _)) ?_
     refine Tr.va rfl (fun _ _ h1 h2 => run_pickF (h1.ev rfl) (h1.ev rfl)) ?_
     obtain rfl := Option.some.inj H
     exact Tr.nil (Tr.fin0 (.cons rfl .nil) (.cons rfl (.cons rfl .nil)))
    ·rw [hg109] at hg108
     rw [if_pos rfl] at hg108
     have H := hg108
     obtain rfl := Option.some.inj H
     refine Tr.pass rfl rfl rfl rfl rfl (by decide) ?_
     refine Tr.pass rfl rfl rfl rfl rfl (by decide) ?_
     refine Tr.pass rfl rfl rfl rfl rfl (by decide) ?_
     refine Tr.va rfl (fun _ _ h1 h2 => run_pickT (h1.ev rfl) (h1.ev rfl)) ?_
     exact Tr.nil (Tr.fin0 (.cons rfl .nil) (.cons rfl (.cons rfl .nil)))
   ·show Tr _ _ (LF [(33, (.bool g108))]) (LE [(1, bx b100 #[(iv p2.light), (sv p2.tool), (.bool p2.there), (iv p2.place.X), (iv p2.place.Y), (.bool p2.drawn), (sv p2.drawTool), (iv p2.drawDark), (iv p2.drawAt.X), (iv p2.drawAt.Y)] 103), (2, bx b103 #[(iv x101.Kind), (sv x101.Name), (iv x101.At.X), (iv x101.At.Y), (.slice Au102_0 (x101.Points).length cu102_0), (iv x101.NX), (iv x101.NY), (.slice Au102_1 (x101.Steps).length cu102_1)] 49)]) _
    refine Tr.asg rfl rfl ?_
    refine Tr.nil (Tr.normThen ?_)
    refine Tr.ret (Tr.retBlock (Tr.retThen ?_))
    obtain rfl := Option.some.inj H
    exact Tr.out (m := [(.bool g108)]) [] (res_tmp rfl res_nil) (fun W hW => ⟨rfl, hW.low leB⟩)
  ·refine Tr.sr ?_
   refine Tr.va rfl (fun _ _ h1 h2 => run_eql (h1.ev rfl) (h1.ev rfl)) ?_
   refine Tr.asg rfl rfl ?_
   refine Tr.nil (Tr.normThen ?_)
   refine Tr.cond rfl H (fun H => ?_) (fun H => ?_)
   ·refine Tr.sr ?_
    refine Tr.va rfl (fun _ _ h1 h2 => run_fieldAddr fo_103_1 (h1.ev rfl)) ?_
    refine Tr.va rfl (fun _ _ h1 h2 => run_load1 ag_9 (h1.ev rfl) (rdb h2 (vs := [(iv p2.light), (sv p2.tool), (.bool p2.there), (iv p2.place.X), (iv p2.place.Y), (.bool p2.drawn), (sv p2.drawTool), (iv p2.drawDark), (iv p2.drawAt.X), (iv p2.drawAt.Y)]) (k := 1) rfl 1) rfl) ?_
    refine Tr.va rfl (fun _ _ h1 h2 => run_fieldAddr fo_49_1 (h1.ev rfl)) ?_
    refine Tr.va rfl (fun _ _ h1 h2 => run_load1 ag_9 (h1.ev rfl) (rdb h2 (vs := [(iv x101.Kind), (sv x101.Name), (iv x101.At.X), (iv x101.At.Y), (.slice Au102_0 (x101.Points).length cu102_0), (iv x101.NX), (iv x101.NY), (.slice Au102_1 (x101.Steps).length cu102_1)]) (k := 2) rfl 1) rfl) ?_
    refine Tr.va rfl (fun _ _ h1 h2 => run_eqlS (h1.ev rfl) (h1.ev rfl)) ?_
    refine Tr.mv rfl rfl ?_
    obtain ⟨g111, hg111, H⟩ := bnd H
    refine Tr.mid0 4 [(45, (.bool g111))] [(1, bx b100 #[(iv p2.light), (sv p2.tool), (.bool p2.there), (iv p2.place.X), (iv p2.place.Y), (.bool p2.drawn), (sv p2.drawTool), (iv p2.drawDark), (iv p2.drawAt.X), (iv p2.drawAt.Y)] 103), (2, bx b103 #[(iv x101.Kind), (sv x101.Name), (iv x101.At.X), (iv x101.At.Y), (.slice Au102_0 (x101.Points).length cu102_0), (iv x101.NX), (iv x101.NY), (.slice Au102_1 (x101.Steps).length cu102_1)] 49)] ?_ ?_
    ·cases hg112 : (sEq p2.tool x101.Name)
     ·rw [hg112] at hg111
      rw [if_neg (by decide)] at hg111
      have H := hg111
      refine Tr.val (wg rfl rfl rfl) rfl (fun _ _ h1 h2 => run_move (h1.ev rfl)) ?_
      refine Tr.val (wg rfl rfl rfl) rfl (fun _ _ h1 h2 => run_move (h1.ev rfl)) ?_
      obtain ⟨y112, hy112, H⟩ := bnd H
      refine Tr.call0 (r := (.bool y112)) (wg rfl rfl rfl) rfl Tryz.call89 (evl_cons rfl (evl_cons rfl evl_nil)) (fun W hW => F_etchhouseref3_idleUse_ok N p0 Ap0_0 cp0_0 (hp0_0.ext hW.extAll) p1 y112 hy112 (HF.start _)) ?_
      refine Tr.va rfl (fun _ _ h1 h2 => run_pickF (h1.ev rfl) (h1.ev rfl)) ?_
      obtain rfl := Option.some.inj H
      exact Tr.nil (Tr.fin0 (.cons rfl .nil) (.cons rfl (.cons rfl .nil)))
     ·rw [hg112] at hg111
      rw [if_pos rfl] at hg111
      have H := hg111
      obtain rfl := Option.some.inj H
      refine Tr.pass rfl rfl rfl rfl rfl (by decide) ?_
      refine Tr.pass rfl rfl rfl rfl rfl (by decide) ?_
      refine Tr.pass rfl rfl rfl rfl rfl (by decide) ?_
      refine Tr.va rfl (fun _ _ h1 h2 => run_pickT (h1.ev rfl) (h1.ev rfl)) ?_
      exact Tr.nil (Tr.fin0 (.cons rfl .nil) (.cons rfl (.cons rfl .nil)))
    ·show Tr _ _ (LF [(45, (.bool g111))]) (LE [(1, bx b100 #[(iv p2.light), (sv p2.tool), (.bool p2.there), (iv p2.place.X), (iv p2.place.Y), (.bool p2.drawn), (sv p2.drawTool), (iv p2.drawDark), (iv p2.drawAt.X), (iv p2.drawAt.Y)] 103), (2, bx b103 #[(iv x101.Kind), (sv x101.Name), (iv x101.At.X), (iv x101.At.Y), (.slice Au102_0 (x101.Points).length cu102_0), (iv x101.NX), (iv x101.NY), (.slice Au102_1 (x101.Steps).length cu102_1)] 49)]) _
     refine Tr.asg rfl rfl ?_
     refine Tr.nil (Tr.normThen ?_)
     refine Tr.ret (Tr.retBlock (Tr.retThen ?_))
     obtain rfl := Option.some.inj H
     exact Tr.out (m := [(.bool g111)]) [] (res_tmp rfl res_nil) (fun W hW => ⟨rfl, hW.low leB⟩)
   ·refine Tr.sr ?_
    refine Tr.va rfl (fun _ _ h1 h2 => run_eql (h1.ev rfl) (h1.ev rfl)) ?_
    refine Tr.asg rfl rfl ?_
    refine Tr.nil (Tr.normThen ?_)
    refine Tr.cond rfl H (fun H => ?_) (fun H => ?_)
    ·refine Tr.sr ?_
     refine Tr.mv rfl rfl ?_
     refine Tr.mv rfl rfl ?_
     obtain ⟨y113, hy113, H⟩ := bnd H
     refine Tr.call0 (r := (.bool y113)) (wn rfl) rfl Tryz.call90 (evl_cons rfl (evl_cons rfl evl_nil)) (fun W hW => F_etchhouseref3_idleMove_ok N p0 Ap0_0 cp0_0 (hp0_0.ext hW.extAll) p1 y113 hy113 (HF.start _)) ?_
     refine Tr.asg rfl rfl ?_
     refine Tr.nil (Tr.normThen ?_)
     refine Tr.ret (Tr.retBlock (Tr.retThen ?_))
     obtain rfl := Option.some.inj H
     exact Tr.out (m := [(.bool y113)]) [] (res_tmp rfl res_nil) (fun W hW => ⟨rfl, hW.low leB⟩)
    ·refine Tr.sr ?_
     refine Tr.va rfl (fun _ _ h1 h2 => run_eql (h1.ev rfl) (h1.ev rfl)) ?_
     refine Tr.asg rfl rfl ?_
     refine Tr.nil (Tr.normThen ?_)
     refine Tr.cond rfl H (fun H => ?_) (fun H => ?_)
     ·refine Tr.sr ?_
      refine Tr.va rfl (fun _ _ h1 h2 => run_fieldAddr fo_103_2 (h1.ev rfl)) ?_
      refine Tr.va rfl (fun _ _ h1 h2 => run_load1 ag_4 (h1.ev rfl) (rdb h2 (vs := [(iv p2.light), (sv p2.tool), (.bool p2.there), (iv p2.place.X), (iv p2.place.Y), (.bool p2.drawn), (sv p2.drawTool), (iv p2.drawDark), (iv p2.drawAt.X), (iv p2.drawAt.Y)]) (k := 1) rfl 2) rfl) ?_
      refine Tr.mv rfl rfl ?_
      refine Tr.mid0 6 [(5, (.pointer (some ⟨b100, 0, none⟩))), (7, (.pointer (some ⟨b103, 0, none⟩))), (61, (.bool (p2.there && (eqTPoint p2.place x101.At))))] [(1, bx b100 #[(iv p2.light), (sv p2.tool), (.bool p2.there), (iv p2.place.X), (iv p2.place.Y), (.bool p2.drawn), (sv p2.drawTool), (iv p2.drawDark), (iv p2.drawAt.X), (iv p2.drawAt.Y)] 103), (2, bx b103 #[(iv x101.Kind), (sv x101.Name), (iv x101.At.X), (iv x101.At.Y), (.slice Au102_0 (x101.Points).length cu102_0), (iv x101.NX), (iv x101.NY), (.slice Au102_1 (x101.Steps).length cu102_1)] 49)] ?_ ?_
      ·cases hg113 : p2.there
       ·refine Tr.pass rfl rfl rfl rfl rfl (by decide) ?_
        refine Tr.pass rfl rfl rfl rfl rfl (by decide) ?_
        refine Tr.pass rfl rfl rfl rfl rfl (by decide) ?_
        refine Tr.pass rfl rfl rfl rfl rfl (by decide) ?_
        refine Tr.pass rfl rfl rfl rfl rfl (by decide) ?_
        refine Tr.va rfl (fun _ _ h1 h2 => run_pickF (h1.ev rfl) (h1.ev rfl)) ?_
        exact Tr.nil (Tr.fin0 (.cons rfl (.cons rfl (.cons rfl .nil))) (.cons rfl (.cons rfl .nil)))
       ·refine Tr.val (wg rfl rfl rfl) rfl (fun _ _ h1 h2 => run_fieldAddr fo_103_3 (h1.ev rfl)) ?_
        refine Tr.val (wg rfl rfl rfl) rfl (fun _ _ h1 h2 => run_loadN (cs := [(iv p2.place.X), (iv p2.place.Y)]) ag_42 sz_42 (h1.ev rfl) (CellsAt.take (rdb h2 (vs := [(iv p2.light), (sv p2.tool), (.bool true), (iv p2.place.X), (iv p2.place.Y), (.bool p2.drawn), (sv p2.drawTool), (iv p2.drawDark), (iv p2.drawAt.X), (iv p2.drawAt.Y)]) (k := 1) rfl 3) 2) rfl) ?_
        refine Tr.val (wg rfl rfl rfl) rfl (fun _ _ h1 h2 => run_fieldAddr fo_49_2 (h1.ev rfl)) ?_
        refine Tr.val (wg rfl rfl rfl) rfl (fun _ _ h1 h2 => run_loadN (cs := [(iv x101.At.X), (iv x101.At.Y)]) ag_42 sz_42 (h1.ev rfl) (CellsAt.take (rdb h2 (vs := [(iv x101.Kind), (sv x101.Name), (iv x101.At.X), (iv x101.At.Y), (.slice Au102_0 (x101.Points).length cu102_0), (iv x101.NX), (iv x101.NY), (.slice Au102_1 (x101.Steps).length cu102_1)]) (k := 2) rfl 2) 2) rfl) ?_
        refine Tr.val (wg rfl rfl rfl) rfl (fun _ _ h1 h2 => run_eql_42 p2.place x101.At (h1.ev rfl) (h1.ev rfl)) ?_
        refine Tr.va rfl (fun _ _ h1 h2 => run_pickT (h1.ev rfl) (h1.ev rfl)) ?_
        exact Tr.nil (Tr.fin0 (.cons rfl (.cons rfl (.cons rfl .nil))) (.cons rfl (.cons rfl .nil)))
      ·show Tr _ _ (LF [(5, (.pointer (some ⟨b100, 0, none⟩))), (7, (.pointer (some ⟨b103, 0, none⟩))), (61, (.bool (p2.there && (eqTPoint p2.place x101.At))))]) (LE [(1, bx b100 #[(iv p2.light), (sv p2.tool), (.bool p2.there), (iv p2.place.X), (iv p2.place.Y), (.bool p2.drawn), (sv p2.drawTool), (iv p2.drawDark), (iv p2.drawAt.X), (iv p2.drawAt.Y)] 103), (2, bx b103 #[(iv x101.Kind), (sv x101.Name), (iv x101.At.X), (iv x101.At.Y), (.slice Au102_0 (x101.Points).length cu102_0), (iv x101.NX), (iv x101.NY), (.slice Au102_1 (x101.Steps).length cu102_1)] 49)]) _
       refine Tr.mv rfl rfl ?_
       refine Tr.mid0 3 [(5, (.pointer (some ⟨b100, 0, none⟩))), (7, (.pointer (some ⟨b103, 0, none⟩))), (65, (.bool ((p2.there && (eqTPoint p2.place x101.At)) && p2.drawn)))] [(1, bx b100 #[(iv p2.light), (sv p2.tool), (.bool p2.there), (iv p2.place.X), (iv p2.place.Y), (.bool p2.drawn), (sv p2.drawTool), (iv p2.drawDark), (iv p2.drawAt.X), (iv p2.drawAt.Y)] 103), (2, bx b103 #[(iv x101.Kind), (sv x101.Name), (iv x101.At.X), (iv x101.At.Y), (.slice Au102_0 (x101.Points).length cu102_0), (iv x101.NX), (iv x101.NY), (.slice Au102_1 (x101.Steps).length cu102_1)] 49)] ?_ ?_
       ·cases hg113 : (p2.there && (eqTPoint p2.place x101.At))
        ·refine Tr.pass rfl rfl rfl rfl rfl (by decide) ?_
         refine Tr.pass rfl rfl rfl rfl rfl (by decide) ?_
         refine Tr.va rfl (fun _ _ h1 h2 => run_pickF (h1.ev rfl) (h1.ev rfl)) ?_
         exact Tr.nil (Tr.fin0 (.cons rfl (.cons rfl (.cons rfl .nil))) (.cons rfl (.cons rfl .nil)))
        ·refine Tr.val (wg rfl rfl rfl) rfl (fun _ _ h1 h2 => run_fieldAddr fo_103_4 (h1.ev rfl)) ?_
         refine Tr.val (wg rfl rfl rfl) rfl (fun _ _ h1 h2 => run_load1 ag_4 (h1.ev rfl) (rdb h2 (vs := [(iv p2.light), (sv p2.tool), (.bool p2.there), (iv p2.place.X), (iv p2.place.Y), (.bool p2.drawn), (sv p2.drawTool), (iv p2.drawDark), (iv p2.drawAt.X), (iv p2.drawAt.Y)]) (k := 1) rfl 5) rfl) ?_
         refine Tr.va rfl (fun _ _ h1 h2 => run_pickT (h1.ev rfl) (h1.ev rfl)) ?_
         exact Tr.nil (Tr.fin0 (.cons rfl (.cons rfl (.cons rfl .nil))) (.cons rfl (.cons rfl .nil)))
       ·show Tr _ _ (LF [(5, (.pointer (some ⟨b100, 0, none⟩))), (7, (.pointer (some ⟨b103, 0, none⟩))), (65, (.bool ((p2.there && (eqTPoint p2.place x101.At)) && p2.drawn)))]) (LE [(1, bx b100 #[(iv p2.light), (sv p2.tool), (.bool p2.there), (iv p2.place.X), (iv p2.place.Y), (.bool p2.drawn), (sv p2.drawTool), (iv p2.drawDark), (iv p2.drawAt.X), (iv p2.drawAt.Y)] 103), (2, bx b103 #[(iv x101.Kind), (sv x101.Name), (iv x101.At.X), (iv x101.At.Y), (.slice Au102_0 (x101.Points).length cu102_0), (iv x101.NX), (iv x101.NY), (.slice Au102_1 (x101.Steps).length cu102_1)] 49)]) _
        refine Tr.mv rfl rfl ?_
        refine Tr.mid0 6 [(5, (.pointer (some ⟨b100, 0, none⟩))), (72, (.bool (((p2.there && (eqTPoint p2.place x101.At)) && p2.drawn) && (eqTPoint p2.drawAt x101.At))))] [(1, bx b100 #[(iv p2.light), (sv p2.tool), (.bool p2.there), (iv p2.place.X), (iv p2.place.Y), (.bool p2.drawn), (sv p2.drawTool), (iv p2.drawDark), (iv p2.drawAt.X), (iv p2.drawAt.Y)] 103), (2, bx b103 #[(iv x101.Kind), (sv x101.Name), (iv x101.At.X), (iv x101.At.Y), (.slice Au102_0 (x101.Points).length cu102_0), (iv x101.NX), (iv x101.NY), (.slice Au102_1 (x101.Steps).length cu102_1)] 49)] ?_ ?_
        ·cases hg113 : ((p2.there && (eqTPoint p2.place x101.At)) && p2.drawn)
         ·refine Tr.pass rfl rfl rfl rfl rfl (by decide) ?_
          refine Tr.pass rfl rfl rfl rfl rfl (by decide) ?_
          refine Tr.pass rfl rfl rfl rfl rfl (by decide) ?_
          refine Tr.pass rfl rfl rfl rfl rfl (by decide) ?_
          refine Tr.pass rfl rfl rfl rfl rfl (by decide) ?_
          refine Tr.va rfl (fun _ _ h1 h2 => run_pickF (h1.ev rfl) (h1.ev rfl)) ?_
          exact Tr.nil (Tr.fin0 (.cons rfl (.cons rfl .nil)) (.cons rfl (.cons rfl .nil)))
         ·refine Tr.val (wg rfl rfl rfl) rfl (fun _ _ h1 h2 => run_fieldAddr fo_103_7 (h1.ev rfl)) ?_
          refine Tr.val (wg rfl rfl rfl) rfl (fun _ _ h1 h2 => run_loadN (cs := [(iv p2.drawAt.X), (iv p2.drawAt.Y)]) ag_42 sz_42 (h1.ev rfl) (CellsAt.take (rdb h2 (vs := [(iv p2.light), (sv p2.tool), (.bool p2.there), (iv p2.place.X), (iv p2.place.Y), (.bool p2.drawn), (sv p2.drawTool), (iv p2.drawDark), (iv p2.drawAt.X), (iv p2.drawAt.Y)]) (k := 1) rfl 8) 2) rfl) ?_
          refine Tr.val (wg rfl rfl rfl) rfl (fun _ _ h1 h2 => run_fieldAddr fo_49_2 (h1.ev rfl)) ?_
          refine Tr.val (wg rfl rfl rfl) rfl (fun _ _ h1 h2 => run_loadN (cs := [(iv x101.At.X), (iv x101.At.Y)]) ag_42 sz_42 (h1.ev rfl) (CellsAt.take (rdb h2 (vs := [(iv x101.Kind), (sv x101.Name), (iv x101.At.X), (iv x101.At.Y), (.slice Au102_0 (x101.Points).length cu102_0), (iv x101.NX), (iv x101.NY), (.slice Au102_1 (x101.Steps).length cu102_1)]) (k := 2) rfl 2) 2) rfl) ?_
          refine Tr.val (wg rfl rfl rfl) rfl (fun _ _ h1 h2 => run_eql_42 p2.drawAt x101.At (h1.ev rfl) (h1.ev rfl)) ?_
          refine Tr.va rfl (fun _ _ h1 h2 => run_pickT (h1.ev rfl) (h1.ev rfl)) ?_
          exact Tr.nil (Tr.fin0 (.cons rfl (.cons rfl .nil)) (.cons rfl (.cons rfl .nil)))
        ·show Tr _ _ (LF [(5, (.pointer (some ⟨b100, 0, none⟩))), (72, (.bool (((p2.there && (eqTPoint p2.place x101.At)) && p2.drawn) && (eqTPoint p2.drawAt x101.At))))]) (LE [(1, bx b100 #[(iv p2.light), (sv p2.tool), (.bool p2.there), (iv p2.place.X), (iv p2.place.Y), (.bool p2.drawn), (sv p2.drawTool), (iv p2.drawDark), (iv p2.drawAt.X), (iv p2.drawAt.Y)] 103), (2, bx b103 #[(iv x101.Kind), (sv x101.Name), (iv x101.At.X), (iv x101.At.Y), (.slice Au102_0 (x101.Points).length cu102_0), (iv x101.NX), (iv x101.NY), (.slice Au102_1 (x101.Steps).length cu102_1)] 49)]) _
         refine Tr.mv rfl rfl ?_
         refine Tr.mid0 6 [(5, (.pointer (some ⟨b100, 0, none⟩))), (79, (.bool ((((p2.there && (eqTPoint p2.place x101.At)) && p2.drawn) && (eqTPoint p2.drawAt x101.At)) && (sEq p2.drawTool p2.tool))))] [(1, bx b100 #[(iv p2.light), (sv p2.tool), (.bool p2.there), (iv p2.place.X), (iv p2.place.Y), (.bool p2.drawn), (sv p2.drawTool), (iv p2.drawDark), (iv p2.drawAt.X), (iv p2.drawAt.Y)] 103), (2, bx b103 #[(iv x101.Kind), (sv x101.Name), (iv x101.At.X), (iv x101.At.Y), (.slice Au102_0 (x101.Points).length cu102_0), (iv x101.NX), (iv x101.NY), (.slice Au102_1 (x101.Steps).length cu102_1)] 49)] ?_ ?_
         ·cases hg113 : (((p2.there && (eqTPoint p2.place x101.At)) && p2.drawn) && (eqTPoint p2.drawAt x101.At))
          ·refine Tr.pass rfl rfl rfl rfl rfl (by decide) ?_
           refine Tr.pass rfl rfl rfl rfl rfl (by decide) ?_
           refine Tr.pass rfl rfl rfl rfl rfl (by decide) ?_
           refine Tr.pass rfl rfl rfl rfl rfl (by decide) ?_
           refine Tr.pass rfl rfl rfl rfl rfl (by decide) ?_
           refine Tr.va rfl (fun _ _ h1 h2 => run_pickF (h1.ev rfl) (h1.ev rfl)) ?_
           exact Tr.nil (Tr.fin0 (.cons rfl (.cons rfl .nil)) (.cons rfl (.cons rfl .nil)))
          ·refine Tr.val (wg rfl rfl rfl) rfl (fun _ _ h1 h2 => run_fieldAddr fo_103_5 (h1.ev rfl)) ?_
           refine Tr.val (wg rfl rfl rfl) rfl (fun _ _ h1 h2 => run_load1 ag_9 (h1.ev rfl) (rdb h2 (vs := [(iv p2.light), (sv p2.tool), (.bool p2.there), (iv p2.place.X), (iv p2.place.Y), (.bool p2.drawn), (sv p2.drawTool), (iv p2.drawDark), (iv p2.drawAt.X), (iv p2.drawAt.Y)]) (k := 1) rfl 6) rfl) ?_
           refine Tr.val (wg rfl rfl rfl) rfl (fun _ _ h1 h2 => run_fieldAddr fo_103_1 (h1.ev rfl)) ?_
           refine Tr.val (wg rfl rfl rfl) rfl (fun _ _ h1 h2 => run_load1 ag_9 (h1.ev rfl) (rdb h2 (vs := [(iv p2.light), (sv p2.tool), (.bool p2.there), (iv p2.place.X), (iv p2.place.Y), (.bool p2.drawn), (sv p2.drawTool), (iv p2.drawDark), (iv p2.drawAt.X), (iv p2.drawAt.Y)]) (k := 1) rfl 1) rfl) ?_
           refine Tr.val (wg rfl rfl rfl) rfl (fun _ _ h1 h2 => run_eqlS (h1.ev rfl) (h1.ev rfl)) ?_
           refine Tr.va rfl (fun _ _ h1 h2 => run_pickT (h1.ev rfl) (h1.ev rfl)) ?_
           exact Tr.nil (Tr.fin0 (.cons rfl (.cons rfl .nil)) (.cons rfl (.cons rfl .nil)))
         ·show Tr _ _ (LF [(5, (.pointer (some ⟨b100, 0, none⟩))), (79, (.bool ((((p2.there && (eqTPoint p2.place x101.At)) && p2.drawn) && (eqTPoint p2.drawAt x101.At)) && (sEq p2.drawTool p2.tool))))]) (LE [(1, bx b100 #[(iv p2.light), (sv p2.tool), (.bool p2.there), (iv p2.place.X), (iv p2.place.Y), (.bool p2.drawn), (sv p2.drawTool), (iv p2.drawDark), (iv p2.drawAt.X), (iv p2.drawAt.Y)] 103), (2, bx b103 #[(iv x101.Kind), (sv x101.Name), (iv x101.At.X), (iv x101.At.Y), (.slice Au102_0 (x101.Points).length cu102_0), (iv x101.NX), (iv x101.NY), (.slice Au102_1 (x101.Steps).length cu102_1)] 49)]) _
          refine Tr.mv rfl rfl ?_
          refine Tr.mid0 4 [(5, (.pointer (some ⟨b100, 0, none⟩))), (84, (.bool (((((p2.there && (eqTPoint p2.place x101.At)) && p2.drawn) && (eqTPoint p2.drawAt x101.At)) && (sEq p2.drawTool p2.tool)) && (!sEq p2.tool ByteArray.empty))))] [(1, bx b100 #[(iv p2.light), (sv p2.tool), (.bool p2.there), (iv p2.place.X), (iv p2.place.Y), (.bool p2.drawn), (sv p2.drawTool), (iv p2.drawDark), (iv p2.drawAt.X), (iv p2.drawAt.Y)] 103), (2, bx b103 #[(iv x101.Kind), (sv x101.Name), (iv x101.At.X), (iv x101.At.Y), (.slice Au102_0 (x101.Points).length cu102_0), (iv x101.NX), (iv x101.NY), (.slice Au102_1 (x101.Steps).length cu102_1)] 49)] ?_ ?_
          ·cases hg113 : ((((p2.there && (eqTPoint p2.place x101.At)) && p2.drawn) && (eqTPoint p2.drawAt x101.At)) && (sEq p2.drawTool p2.tool))
           ·refine Tr.pass rfl rfl rfl rfl rfl (by decide) ?_
            refine Tr.pass rfl rfl rfl rfl rfl (by decide) ?_
            refine Tr.pass rfl rfl rfl rfl rfl (by decide) ?_
            refine Tr.va rfl (fun _ _ h1 h2 => run_pickF (h1.ev rfl) (h1.ev rfl)) ?_
            exact Tr.nil (Tr.fin0 (.cons rfl (.cons rfl .nil)) (.cons rfl (.cons rfl .nil)))
           ·refine Tr.val (wg rfl rfl rfl) rfl (fun _ _ h1 h2 => run_fieldAddr fo_103_1 (h1.ev rfl)) ?_
            refine Tr.val (wg rfl rfl rfl) rfl (fun _ _ h1 h2 => run_load1 ag_9 (h1.ev rfl) (rdb h2 (vs := [(iv p2.light), (sv p2.tool), (.bool p2.there), (iv p2.place.X), (iv p2.place.Y), (.bool p2.drawn), (sv p2.drawTool), (iv p2.drawDark), (iv p2.drawAt.X), (iv p2.drawAt.Y)]) (k := 1) rfl 1) rfl) ?_
            refine Tr.val (wg rfl rfl rfl) rfl (fun _ _ h1 h2 => run_neqS (h1.ev rfl) (h1.ev rfl)) ?_
            refine Tr.va rfl (fun _ _ h1 h2 => run_pickT (h1.ev rfl) (h1.ev rfl)) ?_
            exact Tr.nil (Tr.fin0 (.cons rfl (.cons rfl .nil)) (.cons rfl (.cons rfl .nil)))
          ·show Tr _ _ (LF [(5, (.pointer (some ⟨b100, 0, none⟩))), (84, (.bool (((((p2.there && (eqTPoint p2.place x101.At)) && p2.drawn) && (eqTPoint p2.drawAt x101.At)) && (sEq p2.drawTool p2.tool)) && (!sEq p2.tool ByteArray.empty))))]) (LE [(1, bx b100 #[(iv p2.light), (sv p2.tool), (.bool p2.there), (iv p2.place.X), (iv p2.place.Y), (.bool p2.drawn), (sv p2.drawTool), (iv p2.drawDark), (iv p2.drawAt.X), (iv p2.drawAt.Y)] 103), (2, bx b103 #[(iv x101.Kind), (sv x101.Name), (iv x101.At.X), (iv x101.At.Y), (.slice Au102_0 (x101.Points).length cu102_0), (iv x101.NX), (iv x101.NY), (.slice Au102_1 (x101.Steps).length cu102_1)] 49)]) _
           refine Tr.mv rfl rfl ?_
           refine Tr.mid0 6 [(5, (.pointer (some ⟨b100, 0, none⟩))), (91, (.bool ((((((p2.there && (eqTPoint p2.place x101.At)) && p2.drawn) && (eqTPoint p2.drawAt x101.At)) && (sEq p2.drawTool p2.tool)) && (!sEq p2.tool ByteArray.empty)) && (p2.drawDark == p2.light))))] [(1, bx b100 #[(iv p2.light), (sv p2.tool), (.bool p2.there), (iv p2.place.X), (iv p2.place.Y), (.bool p2.drawn), (sv p2.drawTool), (iv p2.drawDark), (iv p2.drawAt.X), (iv p2.drawAt.Y)] 103), (2, bx b103 #[(iv x101.Kind), (sv x101.Name), (iv x101.At.X), (iv x101.At.Y), (.slice Au102_0 (x101.Points).length cu102_0), (iv x101.NX), (iv x101.NY), (.slice Au102_1 (x101.Steps).length cu102_1)] 49)] ?_ ?_
           ·cases hg113 : (((((p2.there && (eqTPoint p2.place x101.At)) && p2.drawn) && (eqTPoint p2.drawAt x101.At)) && (sEq p2.drawTool p2.tool)) && (!sEq p2.tool ByteArray.empty))
            ·refine Tr.pass rfl rfl rfl rfl rfl (by decide) ?_
             refine Tr.pass rfl rfl rfl rfl rfl (by decide) ?_
             refine Tr.pass rfl rfl rfl rfl rfl (by decide) ?_
             refine Tr.pass rfl rfl rfl rfl rfl (by decide) ?_
             refine Tr.pass rfl rfl rfl rfl rfl (by decide) ?_
             refine Tr.va rfl (fun _ _ h1 h2 => run_pickF (h1.ev rfl) (h1.ev rfl)) ?_
             exact Tr.nil (Tr.fin0 (.cons rfl (.cons rfl .nil)) (.cons rfl (.cons rfl .nil)))
            ·refine Tr.val (wg rfl rfl rfl) rfl (fun _ _ h1 h2 => run_fieldAddr fo_103_6 (h1.ev rfl)) ?_
             refine Tr.val (wg rfl rfl rfl) rfl (fun _ _ h1 h2 => run_load1 ag_3 (h1.ev rfl) (rdb h2 (vs := [(iv p2.light), (sv p2.tool), (.bool p2.there), (iv p2.place.X), (iv p2.place.Y), (.bool p2.drawn), (sv p2.drawTool), (iv p2.drawDark), (iv p2.drawAt.X), (iv p2.drawAt.Y)]) (k := 1) rfl 7) rfl) ?_
             refine Tr.val (wg rfl rfl rfl) rfl (fun _ _ h1 h2 => run_fieldAddr fo_103_0 (h1.ev rfl)) ?_
             refine Tr.val (wg rfl rfl rfl) rfl (fun _ _ h1 h2 => run_load1 ag_3 (h1.ev rfl) (rdb h2 (vs := [(iv p2.light), (sv p2.tool), (.bool p2.there), (iv p2.place.X), (iv p2.place.Y), (.bool p2.drawn), (sv p2.drawTool), (iv p2.drawDark), (iv p2.drawAt.X), (iv p2.drawAt.Y)]) (k := 1) rfl 0) rfl) ?_
             refine Tr.val (wg rfl rfl rfl) rfl (fun _ _ h1 h2 => run_eql (h1.ev rfl) (h1.ev rfl)) ?_
             refine Tr.va rfl (fun _ _ h1 h2 => run_pickT (h1.ev rfl) (h1.ev rfl)) ?_
             exact Tr.nil (Tr.fin0 (.cons rfl (.cons rfl .nil)) (.cons rfl (.cons rfl .nil)))
           ·show Tr _ _ (LF [(5, (.pointer (some ⟨b100, 0, none⟩))), (91, (.bool ((((((p2.there && (eqTPoint p2.place x101.At)) && p2.drawn) && (eqTPoint p2.drawAt x101.At)) && (sEq p2.drawTool p2.tool)) && (!sEq p2.tool ByteArray.empty)) && (p2.drawDark == p2.light))))]) (LE [(1, bx b100 #[(iv p2.light), (sv p2.tool), (.bool p2.there), (iv p2.place.X), (iv p2.place.Y), (.bool p2.drawn), (sv p2.drawTool), (iv p2.drawDark), (iv p2.drawAt.X), (iv p2.drawAt.Y)] 103), (2, bx b103 #[(iv x101.Kind), (sv x101.Name), (iv x101.At.X), (iv x101.At.Y), (.slice Au102_0 (x101.Points).length cu102_0), (iv x101.NX), (iv x101.NY), (.slice Au102_1 (x101.Steps).length cu102_1)] 49)]) _
            refine Tr.mv rfl rfl ?_
            refine Tr.mid0 4 [(96, (.bool (((((((p2.there && (eqTPoint p2.place x101.At)) && p2.drawn) && (eqTPoint p2.drawAt x101.At)) && (sEq p2.drawTool p2.tool)) && (!sEq p2.tool ByteArray.empty)) && (p2.drawDark == p2.light)) && (p2.light != 3))))] [(1, bx b100 #[(iv p2.light), (sv p2.tool), (.bool p2.there), (iv p2.place.X), (iv p2.place.Y), (.bool p2.drawn), (sv p2.drawTool), (iv p2.drawDark), (iv p2.drawAt.X), (iv p2.drawAt.Y)] 103), (2, bx b103 #[(iv x101.Kind), (sv x101.Name), (iv x101.At.X), (iv x101.At.Y), (.slice Au102_0 (x101.Points).length cu102_0), (iv x101.NX), (iv x101.NY), (.slice Au102_1 (x101.Steps).length cu102_1)] 49)] ?_ ?_
            ·cases hg113 : ((((((p2.there && (eqTPoint p2.place x101.At)) && p2.drawn) && (eqTPoint p2.drawAt x101.At)) && (sEq p2.drawTool p2.tool)) && (!sEq p2.tool ByteArray.empty)) && (p2.drawDark == p2.light))
             ·refine Tr.pass rfl rfl rfl rfl rfl (by decide) ?_
              refine Tr.pass rfl rfl rfl rfl rfl (by decide) ?_
              refine Tr.pass rfl rfl rfl rfl rfl (by decide) ?_
              refine Tr.va rfl (fun _ _ h1 h2 => run_pickF (h1.ev rfl) (h1.ev rfl)) ?_
              exact Tr.nil (Tr.fin0 (.cons rfl .nil) (.cons rfl (.cons rfl .nil)))
             ·refine Tr.val (wg rfl rfl rfl) rfl (fun _ _ h1 h2 => run_fieldAddr fo_103_0 (h1.ev rfl)) ?_
              refine Tr.val (wg rfl rfl rfl) rfl (fun _ _ h1 h2 => run_load1 ag_3 (h1.ev rfl) (rdb h2 (vs := [(iv p2.light), (sv p2.tool), (.bool p2.there), (iv p2.place.X), (iv p2.place.Y), (.bool p2.drawn), (sv p2.drawTool), (iv p2.drawDark), (iv p2.drawAt.X), (iv p2.drawAt.Y)]) (k := 1) rfl 0) rfl) ?_
              refine Tr.val (wg rfl rfl rfl) rfl (fun _ _ h1 h2 => run_neq (h1.ev rfl) (h1.ev rfl)) ?_
              refine Tr.va rfl (fun _ _ h1 h2 => run_pickT (h1.ev rfl) (h1.ev rfl)) ?_
              exact Tr.nil (Tr.fin0 (.cons rfl .nil) (.cons rfl (.cons rfl .nil)))
            ·show Tr _ _ (LF [(96, (.bool (((((((p2.there && (eqTPoint p2.place x101.At)) && p2.drawn) && (eqTPoint p2.drawAt x101.At)) && (sEq p2.drawTool p2.tool)) && (!sEq p2.tool ByteArray.empty)) && (p2.drawDark == p2.light)) && (p2.light != 3))))]) (LE [(1, bx b100 #[(iv p2.light), (sv p2.tool), (.bool p2.there), (iv p2.place.X), (iv p2.place.Y), (.bool p2.drawn), (sv p2.drawTool), (iv p2.drawDark), (iv p2.drawAt.X), (iv p2.drawAt.Y)] 103), (2, bx b103 #[(iv x101.Kind), (sv x101.Name), (iv x101.At.X), (iv x101.At.Y), (.slice Au102_0 (x101.Points).length cu102_0), (iv x101.NX), (iv x101.NY), (.slice Au102_1 (x101.Steps).length cu102_1)] 49)]) _
             refine Tr.asg rfl rfl ?_
             refine Tr.nil (Tr.normThen ?_)
             refine Tr.ret (Tr.retBlock (Tr.retThen ?_))
             obtain rfl := Option.some.inj H
             exact Tr.out (m := [(.bool (((((((p2.there && (eqTPoint p2.place x101.At)) && p2.drawn) && (eqTPoint p2.drawAt x101.At)) && (sEq p2.drawTool p2.tool)) && (!sEq p2.tool ByteArray.empty)) && (p2.drawDark == p2.light)) && (p2.light != 3)))]) [] (res_tmp rfl res_nil) (fun W hW => ⟨rfl, hW.low leB⟩)
     ·refine Tr.skip (Tr.normBlock (Tr.normThen ?_))
      refine Tr.sr ?_
      refine Tr.asg rfl rfl ?_
      refine Tr.nil (Tr.normThen ?_)
      refine Tr.ret ?_
      obtain rfl := Option.some.inj H
      exact Tr.out (m := [(.bool false)]) [] (res_tmp rfl res_nil) (fun W hW => ⟨rfl, hW.low leB⟩)

theorem F_etchhouseref3_known__after_ok {w : Bs} (p0 : Tetchhouseref3Known) (p1 : TPlotStep) (Ap1_0 : Option Addr) (cp1_0 : Nat) (hp1_0 : Sl w.R w.W fl_TPoint Ap1_0 cp1_0 p1.Points) (Ap1_1 : Option Addr) (cp1_1 : Nat) (hp1_1 : Sl w.R w.W fl_TPlotStep Ap1_1 cp1_1 p1.Steps) (r : Tetchhouseref3Known) (H : F_etchhouseref3_known__after p0 p1 = some r) (hE : HF w w.W E0) : Calls Tryz.prog 60 [(.agg #[(iv p0.light), (sv p0.tool), (.bool p0.there), (iv p0.place.X), (iv p0.place.Y), (.bool p0.drawn), (sv p0.drawTool), (iv p0.drawDark), (iv p0.drawAt.X), (iv p0.drawAt.Y)]), (.agg #[(iv p1.Kind), (sv p1.Name), (iv p1.At.X), (iv p1.At.Y), (.slice Ap1_0 (p1.Points).length cp1_0), (iv p1.NX), (iv p1.NY), (.slice Ap1_1 (p1.Steps).length cp1_1)])].toArray w.W fun e W' => e = .returned (.agg #[(iv r.light), (sv r.tool), (.bool r.there), (iv r.place.X), (iv r.place.Y), (.bool r.drawn), (sv r.drawTool), (iv r.drawDark), (iv r.drawAt.X), (iv r.drawAt.Y)]) ∧ HF w W' E0 := by
 unfold F_etchhouseref3_known__after at H
 have leB := Bs.Le.refl w
 refine Tr.enter (n := 48) Tryz.func60 rfl rfl rfl hE ?_
 refine Tr.sr ?_
 refine Tr.box 1 (cs := [(iv p0.light), (sv p0.tool), (.bool p0.there), (iv p0.place.X), (iv p0.place.Y), (.bool p0.drawn), (sv p0.drawTool), (iv p0.drawDark), (iv p0.drawAt.X), (iv p0.drawAt.Y)]) (wn rfl) rfl rfl rfl fun b100 => ?_
 refine Tr.box 2 (cs := [(iv p1.Kind), (sv p1.Name), (iv p1.At.X), (iv p1.At.Y), (.slice Ap1_0 (p1.Points).length cp1_0), (iv p1.NX), (iv p1.NY), (.slice Ap1_1 (p1.Steps).length cp1_1)]) (wn rfl) rfl rfl rfl fun b101 => ?_
 refine Tr.alloc 3 (wn rfl) rfl ze_103 fun b102 => ?_
 refine Tr.nil (Tr.normThen ?_)
 have leJ119 := Bs.Le.refl w
 refine Tr.cutJ (σ := Int × ByteArray × Bool × Int × Int × Bool × ByteArray × Int × Int × Int) (fun w s => F_etchhouseref3_known__after_J2 s.1 s.2.1 s.2.2.1 s.2.2.2.1 s.2.2.2.2.1 s.2.2.2.2.2.1 s.2.2.2.2.2.2.1 s.2.2.2.2.2.2.2.1 s.2.2.2.2.2.2.2.2.1 s.2.2.2.2.2.2.2.2.2 = some r) (fun s => [(2, (.pointer (some ⟨b100, 0, none⟩))), (4, (.pointer (some ⟨b102, 0, none⟩)))]) (fun s => [(1, bx b100 #[(iv s.1), (sv s.2.1), (.bool s.2.2.1), (iv s.2.2.2.1), (iv s.2.2.2.2.1), (.bool s.2.2.2.2.2.1), (sv s.2.2.2.2.2.2.1), (iv s.2.2.2.2.2.2.2.1), (iv s.2.2.2.2.2.2.2.2.1), (iv s.2.2.2.2.2.2.2.2.2)] 103), (3, bx b102 #[(iv 0), (sv ⟨#[]⟩), (.bool false), (iv 0), (iv 0), (.bool false), (sv ⟨#[]⟩), (iv 0), (iv 0), (iv 0)] 103)]) ?_ ?_
 ·refine Tr.sr ?_
  refine Tr.va rfl (fun _ _ h1 h2 => run_fieldAddr fo_49_0 (h1.ev rfl)) ?_
  refine Tr.va rfl (fun _ _ h1 h2 => run_load1 ag_3 (h1.ev rfl) (rdb h2 (vs := [(iv p1.Kind), (sv p1.Name), (iv p1.At.X), (iv p1.At.Y), (.slice Ap1_0 (p1.Points).length cp1_0), (iv p1.NX), (iv p1.NY), (.slice Ap1_1 (p1.Steps).length cp1_1)]) (k := 2) rfl 0) rfl) ?_
  refine Tr.nil (Tr.normThen ?_)
  refine Tr.block ?_
  refine Tr.sr ?_
  refine Tr.va rfl (fun _ _ h1 h2 => run_eql (h1.ev rfl) (h1.ev rfl)) ?_
  refine Tr.asg rfl rfl ?_
  refine Tr.nil (Tr.normThen ?_)
  refine Tr.cond rfl H (fun H => ?_) (fun H => ?_)
  ·refine Tr.region ?_
   refine Tr.va rfl (fun _ _ h1 h2 => run_fieldAddr fo_103_0 (h1.ev rfl)) ?_
   refine Tr.store 1 (cs := [(iv 1)]) [(iv 1), (sv p0.tool), (.bool p0.there), (iv p0.place.X), (iv p0.place.Y), (.bool p0.drawn), (sv p0.drawTool), (iv p0.drawDark), (iv p0.drawAt.X), (iv p0.drawAt.Y)] (wn rfl) rfl rfl rfl rfl sz_3 rfl rfl rfl ?_
   refine Tr.nil (Tr.normBlock ?_)
   exact Tr.backThen leJ119 (1, p0.tool, p0.there, p0.place.X, p0.place.Y, p0.drawn, p0.drawTool, p0.drawDark, p0.drawAt.X, p0.drawAt.Y) H (.cons rfl (.cons rfl .nil)) (.cons rfl (.cons rfl .nil))
  ·refine Tr.sr ?_
   refine Tr.va rfl (fun _ _ h1 h2 => run_eql (h1.ev rfl) (h1.ev rfl)) ?_
   refine Tr.asg rfl rfl ?_
   refine Tr.nil (Tr.normThen ?_)
   refine Tr.cond rfl H (fun H => ?_) (fun H => ?_)
   ·refine Tr.region ?_
    refine Tr.va rfl (fun _ _ h1 h2 => run_fieldAddr fo_103_0 (h1.ev rfl)) ?_
    refine Tr.store 1 (cs := [(iv 2)]) [(iv 2), (sv p0.tool), (.bool p0.there), (iv p0.place.X), (iv p0.place.Y), (.bool p0.drawn), (sv p0.drawTool), (iv p0.drawDark), (iv p0.drawAt.X), (iv p0.drawAt.Y)] (wn rfl) rfl rfl rfl rfl sz_3 rfl rfl rfl ?_
    refine Tr.nil (Tr.normBlock ?_)
    exact Tr.backThen leJ119 (2, p0.tool, p0.there, p0.place.X, p0.place.Y, p0.drawn, p0.drawTool, p0.drawDark, p0.drawAt.X, p0.drawAt.Y) H (.cons rfl (.cons rfl .nil)) (.cons rfl (.cons rfl .nil))
   ·refine Tr.sr ?_
    refine Tr.va rfl (fun _ _ h1 h2 => run_eql (h1.ev rfl) (h1.ev rfl)) ?_
    refine Tr.asg rfl rfl ?_
    refine Tr.nil (Tr.normThen ?_)
    refine Tr.cond rfl H (fun H => ?_) (fun H => ?_)
    ·refine Tr.region ?_
     refine Tr.va rfl (fun _ _ h1 h2 => run_fieldAddr fo_49_1 (h1.ev rfl)) ?_
     refine Tr.va rfl (fun _ _ h1 h2 => run_load1 ag_9 (h1.ev rfl) (rdb h2 (vs := [(iv p1.Kind), (sv p1.Name), (iv p1.At.X), (iv p1.At.Y), (.slice Ap1_0 (p1.Points).length cp1_0), (iv p1.NX), (iv p1.NY), (.slice Ap1_1 (p1.Steps).length cp1_1)]) (k := 2) rfl 1) rfl) ?_
     refine Tr.va rfl (fun _ _ h1 h2 => run_fieldAddr fo_103_1 (h1.ev rfl)) ?_
     refine Tr.store 1 (cs := [(sv p1.Name)]) [(iv p0.light), (sv p1.Name), (.bool p0.there), (iv p0.place.X), (iv p0.place.Y), (.bool p0.drawn), (sv p0.drawTool), (iv p0.drawDark), (iv p0.drawAt.X), (iv p0.drawAt.Y)] (wn rfl) rfl rfl rfl rfl sz_9 rfl rfl rfl ?_
     refine Tr.nil (Tr.normBlock ?_)
     exact Tr.backThen leJ119 (p0.light, p1.Name, p0.there, p0.place.X, p0.place.Y, p0.drawn, p0.drawTool, p0.drawDark, p0.drawAt.X, p0.drawAt.Y) H (.cons rfl (.cons rfl .nil)) (.cons rfl (.cons rfl .nil))
    ·refine Tr.sr ?_
     refine Tr.va rfl (fun _ _ h1 h2 => run_eql (h1.ev rfl) (h1.ev rfl)) ?_
     refine Tr.asg rfl rfl ?_
     refine Tr.nil (Tr.normThen ?_)
     refine Tr.cond rfl H (fun H => ?_) (fun H => ?_)
     ·refine Tr.drawC 4 [(3, fun x => x = b100)] [] (by kernel_rfl) (by kernel_rfl) fun sz121 hlosz121 hEsz121 => ?_
      refine Dr.quietP 0 (by kernel_rfl) rfl (wn rfl) rfl (by kernel_rfl) (fun _ _ h1 => run_fieldAddr fo_49_2 (h1.ev rfl)) rfl ?_
      refine Dr.quietZ 1 [(21, (.agg #[(iv p1.At.X), (iv p1.At.Y)]))] [3] false (by kernel_rfl) rfl rfl (by kernel_rfl) (fun W W' h2 hsW hk => HF.keepZ (le := [(2, bx b101 #[(iv p1.Kind), (sv p1.Name), (iv p1.At.X), (iv p1.At.Y), (.slice Ap1_0 (p1.Points).length cp1_0), (iv p1.NX), (iv p1.NY), (.slice Ap1_1 (p1.Steps).length cp1_1)] 49)]) (ks := [(1, fun x => x = b100)]) (s0 := sz121) false h2 hk (fun h => absurd h (by decide)) (.cons rfl .nil) (fun b hb => hb.elim (fun ⟨p, hp, hf, hb⟩ => by simp only [List.mem_cons, List.not_mem_nil, or_false] at hp; rcases hp with rfl; exact .inl ⟨_, List.mem_cons_self, hb⟩) (fun hb => absurd hb.1 (by decide))) (List.forall_mem_cons.2 ⟨fun b hb => hb, (fun _ h => nomatch h)⟩) rfl) ?_ rfl rfl ?_
      ·refine Tq.va rfl (fun _ _ h1 h2 => run_loadN (cs := [(iv p1.At.X), (iv p1.At.Y)]) ag_42 sz_42 (h1.ev rfl) (CellsAt.take (rdb h2 (vs := [(iv p1.Kind), (sv p1.Name), (iv p1.At.X), (iv p1.At.Y), (.slice Ap1_0 (p1.Points).length cp1_0), (iv p1.NX), (iv p1.NY), (.slice Ap1_1 (p1.Steps).length cp1_1)]) (k := 2) rfl 2) 2) rfl) ?_
       exact Tq.fin (.cons rfl .nil)
      refine Dr.quiet 2 [(22, (.pointer (some ⟨b100, 2, none⟩)))] (by kernel_rfl) rfl rfl (by kernel_rfl) ?_ rfl rfl ?_
      ·refine Tq.va rfl (fun _ _ h1 h2 => run_fieldAddr fo_103_2 (h1.ev rfl)) ?_
       exact Tq.fin (.cons rfl .nil)
      refine Dr.one 3 (by kernel_rfl) ?_
      refine St.store 3 1 (cs := [(.bool true)]) [(iv p0.light), (sv p0.tool), (.bool true), (iv p0.place.X), (iv p0.place.Y), (.bool p0.drawn), (sv p0.drawTool), (iv p0.drawDark), (iv p0.drawAt.X), (iv p0.drawAt.Y)] rfl (wn rfl) (.inl ⟨_, List.mem_cons_self, rfl, rfl⟩) rfl rfl rfl rfl sz_4 rfl rfl rfl ?_
      refine Dr.tail (by kernel_rfl) ?_
      refine Tr.va rfl (fun _ _ h1 h2 => run_fieldAddr fo_103_3 (h1.ev rfl)) ?_
      refine Tr.store 1 (cs := [(iv p1.At.X), (iv p1.At.Y)]) [(iv p0.light), (sv p0.tool), (.bool true), (iv p1.At.X), (iv p1.At.Y), (.bool p0.drawn), (sv p0.drawTool), (iv p0.drawDark), (iv p0.drawAt.X), (iv p0.drawAt.Y)] (wn rfl) rfl rfl rfl rfl sz_42 rfl rfl rfl ?_
      refine Tr.nil (Tr.normBlock ?_)
      exact Tr.backThen leJ119 (p0.light, p0.tool, true, p1.At.X, p1.At.Y, p0.drawn, p0.drawTool, p0.drawDark, p0.drawAt.X, p0.drawAt.Y) H (.cons rfl (.cons rfl .nil)) (.cons rfl (.cons rfl .nil))
     ·have leJ123 := Bs.Le.refl w
      refine Tr.cutJ (σ := Bool) (fun w s => F_etchhouseref3_known__after_J3 p0 p1 s = some r) (fun s => [(2, (.pointer (some ⟨b100, 0, none⟩))), (3, (.pointer (some ⟨b101, 0, none⟩))), (4, (.pointer (some ⟨b102, 0, none⟩))), (6, (iv p1.Kind)), (24, (.bool s))]) (fun s => [(1, bx b100 #[(iv p0.light), (sv p0.tool), (.bool p0.there), (iv p0.place.X), (iv p0.place.Y), (.bool p0.drawn), (sv p0.drawTool), (iv p0.drawDark), (iv p0.drawAt.X), (iv p0.drawAt.Y)] 103), (2, bx b101 #[(iv p1.Kind), (sv p1.Name), (iv p1.At.X), (iv p1.At.Y), (.slice Ap1_0 (p1.Points).length cp1_0), (iv p1.NX), (iv p1.NY), (.slice Ap1_1 (p1.Steps).length cp1_1)] 49), (3, bx b102 #[(iv 0), (sv ⟨#[]⟩), (.bool false), (iv 0), (iv 0), (.bool false), (sv ⟨#[]⟩), (iv 0), (iv 0), (iv 0)] 103)]) ?_ ?_
      ·refine Tr.sr ?_
       refine Tr.va rfl (fun _ _ h1 h2 => run_eql (h1.ev rfl) (h1.ev rfl)) ?_
       refine Tr.asg rfl rfl ?_
       refine Tr.nil (Tr.normThen ?_)
       refine Tr.cond rfl H (fun H => ?_) (fun H => ?_)
       ·refine Tr.skip ?_
        exact Tr.backThen leJ123 (p1.Kind == 5) H (.cons rfl (.cons rfl (.cons rfl (.cons rfl (.cons rfl .nil))))) (.cons rfl (.cons rfl (.cons rfl .nil)))
       ·refine Tr.region ?_
        refine Tr.va rfl (fun _ _ h1 h2 => run_eql (h1.ev rfl) (h1.ev rfl)) ?_
        refine Tr.asg rfl rfl ?_
        refine Tr.nil ?_
        exact Tr.backThen leJ123 (p1.Kind == 6) H (.cons rfl (.cons rfl (.cons rfl (.cons rfl (.cons rfl .nil))))) (.cons rfl (.cons rfl (.cons rfl .nil)))
      ·intro w x122 hlJ124 hs
       have H := hs
       replace H : F_etchhouseref3_known__after_J3 p0 p1 x122 = some r := H
       replace hp1_0 := hp1_0.leR hlJ124
       replace hp1_1 := hp1_1.leR hlJ124
       replace leB := leB.trans hlJ124
       replace leJ119 := leJ119.trans hlJ124
       unfold F_etchhouseref3_known__after_J3 at H
       show Tr _ _ (LF [(2, (.pointer (some ⟨b100, 0, none⟩))), (3, (.pointer (some ⟨b101, 0, none⟩))), (4, (.pointer (some ⟨b102, 0, none⟩))), (6, (iv p1.Kind)), (24, (.bool x122))]) (LE [(1, bx b100 #[(iv p0.light), (sv p0.tool), (.bool p0.there), (iv p0.place.X), (iv p0.place.Y), (.bool p0.drawn), (sv p0.drawTool), (iv p0.drawDark), (iv p0.drawAt.X), (iv p0.drawAt.Y)] 103), (2, bx b101 #[(iv p1.Kind), (sv p1.Name), (iv p1.At.X), (iv p1.At.Y), (.slice Ap1_0 (p1.Points).length cp1_0), (iv p1.NX), (iv p1.NY), (.slice Ap1_1 (p1.Steps).length cp1_1)] 49), (3, bx b102 #[(iv 0), (sv ⟨#[]⟩), (.bool false), (iv 0), (iv 0), (.bool false), (sv ⟨#[]⟩), (iv 0), (iv 0), (iv 0)] 103)]) _
       refine Tr.cond rfl H (fun H => ?_) (fun H => ?_)
       ·refine Tr.seq ?_
        refine Tr.drawC 4 [(3, fun x => x = b100)] [] (by kernel_rfl) (by kernel_rfl) fun sz125 hlosz125 hEsz125 => ?_
        refine Dr.quietP 0 (by kernel_rfl) rfl (wn rfl) rfl (by kernel_rfl) (fun _ _ h1 => run_fieldAddr fo_49_2 (h1.ev rfl)) rfl ?_
        refine Dr.quietZ 1 [(28, (.agg #[(iv p1.At.X), (iv p1.At.Y)]))] [3] false (by kernel_rfl) rfl rfl (by kernel_rfl) (fun W W' h2 hsW hk => HF.keepZ (le := [(2, bx b101 #[(iv p1.Kind), (sv p1.Name), (iv p1.At.X), (iv p1.At.Y), (.slice Ap1_0 (p1.Points).length cp1_0), (iv p1.NX), (iv p1.NY), (.slice Ap1_1 (p1.Steps).length cp1_1)] 49)]) (ks := [(1, fun x => x = b100)]) (s0 := sz125) false h2 hk (fun h => absurd h (by decide)) (.cons rfl .nil) (fun b hb => hb.elim (fun ⟨p, hp, hf, hb⟩ => by simp only [List.mem_cons, List.not_mem_nil, or_false] at hp; rcases hp with rfl; exact .inl ⟨_, List.mem_cons_self, hb⟩) (fun hb => absurd hb.1 (by decide))) (List.forall_mem_cons.2 ⟨fun b hb => hb, (fun _ h => nomatch h)⟩) rfl) ?_ rfl rfl ?_
        ·refine Tq.va rfl (fun _ _ h1 h2 => run_loadN (cs := [(iv p1.At.X), (iv p1.At.Y)]) ag_42 sz_42 (h1.ev rfl) (CellsAt.take (rdb h2 (vs := [(iv p1.Kind), (sv p1.Name), (iv p1.At.X), (iv p1.At.Y), (.slice Ap1_0 (p1.Points).length cp1_0), (iv p1.NX), (iv p1.NY), (.slice Ap1_1 (p1.Steps).length cp1_1)]) (k := 2) rfl 2) 2) rfl) ?_
         exact Tq.fin (.cons rfl .nil)
        refine Dr.quiet 2 [(29, (.pointer (some ⟨b100, 2, none⟩)))] (by kernel_rfl) rfl rfl (by kernel_rfl) ?_ rfl rfl ?_
        ·refine Tq.va rfl (fun _ _ h1 h2 => run_fieldAddr fo_103_2 (h1.ev rfl)) ?_
         exact Tq.fin (.cons rfl .nil)
        refine Dr.one 3 (by kernel_rfl) ?_
        refine St.store 3 1 (cs := [(.bool true)]) [(iv p0.light), (sv p0.tool), (.bool true), (iv p0.place.X), (iv p0.place.Y), (.bool p0.drawn), (sv p0.drawTool), (iv p0.drawDark), (iv p0.drawAt.X), (iv p0.drawAt.Y)] rfl (wn rfl) (.inl ⟨_, List.mem_cons_self, rfl, rfl⟩) rfl rfl rfl rfl sz_4 rfl rfl rfl ?_
        refine Dr.tail (by kernel_rfl) ?_
        refine Tr.va rfl (fun _ _ h1 h2 => run_fieldAddr fo_103_3 (h1.ev rfl)) ?_
        refine Tr.store 1 (cs := [(iv p1.At.X), (iv p1.At.Y)]) [(iv p0.light), (sv p0.tool), (.bool true), (iv p1.At.X), (iv p1.At.Y), (.bool p0.drawn), (sv p0.drawTool), (iv p0.drawDark), (iv p0.drawAt.X), (iv p0.drawAt.Y)] (wn rfl) rfl rfl rfl rfl sz_42 rfl rfl rfl ?_
        refine Tr.nil (Tr.normThen ?_)
        refine Tr.drawC 12 [(7, fun x => x = b100), (9, fun x => x = b100), (11, fun x => x = b100)] [] (by kernel_rfl) (by kernel_rfl) fun sz126 hlosz126 hEsz126 => ?_
        refine Dr.quiet 0 [(31, (.pointer (some ⟨b100, 1, none⟩)))] (by kernel_rfl) rfl rfl (by kernel_rfl) ?_ rfl rfl ?_
        ·refine Tq.va rfl (fun _ _ h1 h2 => run_fieldAddr fo_103_1 (h1.ev rfl)) ?_
         exact Tq.fin (.cons rfl .nil)
        refine Dr.quiet 1 [(32, (sv p0.tool))] (by kernel_rfl) rfl rfl (by kernel_rfl) ?_ rfl rfl ?_
        ·refine Tq.va rfl (fun _ _ h1 h2 => run_load1 ag_9 (h1.ev rfl) (rdb h2 (vs := [(iv p0.light), (sv p0.tool), (.bool true), (iv p1.At.X), (iv p1.At.Y), (.bool p0.drawn), (sv p0.drawTool), (iv p0.drawDark), (iv p0.drawAt.X), (iv p0.drawAt.Y)]) (k := 1) rfl 1) rfl) ?_
         exact Tq.fin (.cons rfl .nil)
        refine Dr.quiet 2 [(33, (.pointer (some ⟨b100, 0, none⟩)))] (by kernel_rfl) rfl rfl (by kernel_rfl) ?_ rfl rfl ?_
        ·refine Tq.va rfl (fun _ _ h1 h2 => run_fieldAddr fo_103_0 (h1.ev rfl)) ?_
         exact Tq.fin (.cons rfl .nil)
        refine Dr.quiet 3 [(34, (iv p0.light))] (by kernel_rfl) rfl rfl (by kernel_rfl) ?_ rfl rfl ?_
        ·refine Tq.va rfl (fun _ _ h1 h2 => run_load1 ag_3 (h1.ev rfl) (rdb h2 (vs := [(iv p0.light), (sv p0.tool), (.bool true), (iv p1.At.X), (iv p1.At.Y), (.bool p0.drawn), (sv p0.drawTool), (iv p0.drawDark), (iv p0.drawAt.X), (iv p0.drawAt.Y)]) (k := 1) rfl 0) rfl) ?_
         exact Tq.fin (.cons rfl .nil)
        refine Dr.quietP 4 (by kernel_rfl) rfl (wn rfl) rfl (by kernel_rfl) (fun _ _ h1 => run_fieldAddr fo_49_2 (h1.ev rfl)) rfl ?_
        refine Dr.quietZ 5 [(36, (.agg #[(iv p1.At.X), (iv p1.At.Y)]))] [7, 9, 11] false (by kernel_rfl) rfl rfl (by kernel_rfl) (fun W W' h2 hsW hk => HF.keepZ (le := [(2, bx b101 #[(iv p1.Kind), (sv p1.Name), (iv p1.At.X), (iv p1.At.Y), (.slice Ap1_0 (p1.Points).length cp1_0), (iv p1.NX), (iv p1.NY), (.slice Ap1_1 (p1.Steps).length cp1_1)] 49)]) (ks := [(1, fun x => x = b100), (1, fun x => x = b100), (1, fun x => x = b100)]) (s0 := sz126) false h2 hk (fun h => absurd h (by decide)) (.cons rfl .nil) (fun b hb => hb.elim (fun ⟨p, hp, hf, hb⟩ => by simp only [List.mem_cons, List.not_mem_nil, or_false] at hp; rcases hp with rfl | rfl | rfl; exact .inl ⟨_, List.mem_cons_self, hb⟩; exact .inl ⟨_, (List.mem_cons_of_mem _ List.mem_cons_self), hb⟩; exact .inl ⟨_, (List.mem_cons_of_mem _ (List.mem_cons_of_mem _ List.mem_cons_self)), hb⟩) (fun hb => absurd hb.1 (by decide))) (List.forall_mem_cons.2 ⟨fun b hb => hb, (List.forall_mem_cons.2 ⟨fun b hb => hb, (List.forall_mem_cons.2 ⟨fun b hb => hb, (fun _ h => nomatch h)⟩)⟩)⟩) rfl) ?_ rfl rfl ?_
        ·refine Tq.va rfl (fun _ _ h1 h2 => run_loadN (cs := [(iv p1.At.X), (iv p1.At.Y)]) ag_42 sz_42 (h1.ev rfl) (CellsAt.take (rdb h2 (vs := [(iv p1.Kind), (sv p1.Name), (iv p1.At.X), (iv p1.At.Y), (.slice Ap1_0 (p1.Points).length cp1_0), (iv p1.NX), (iv p1.NY), (.slice Ap1_1 (p1.Steps).length cp1_1)]) (k := 2) rfl 2) 2) rfl) ?_
         exact Tq.fin (.cons rfl .nil)
        refine Dr.quiet 6 [(37, (.pointer (some ⟨b100, 5, none⟩)))] (by kernel_rfl) rfl rfl (by kernel_rfl) ?_ rfl rfl ?_
        ·refine Tq.va rfl (fun _ _ h1 h2 => run_fieldAddr fo_103_4 (h1.ev rfl)) ?_
         exact Tq.fin (.cons rfl .nil)
        refine Dr.one 7 (by kernel_rfl) ?_
        refine St.store 7 1 (cs := [(.bool true)]) [(iv p0.light), (sv p0.tool), (.bool true), (iv p1.At.X), (iv p1.At.Y), (.bool true), (sv p0.drawTool), (iv p0.drawDark), (iv p0.drawAt.X), (iv p0.drawAt.Y)] rfl (wn rfl) (.inl ⟨_, List.mem_cons_self, rfl, rfl⟩) rfl rfl rfl rfl sz_4 rfl rfl rfl ?_
        refine Dr.quiet 8 [(38, (.pointer (some ⟨b100, 6, none⟩)))] (by kernel_rfl) rfl rfl (by kernel_rfl) ?_ rfl rfl ?_
        ·refine Tq.va rfl (fun _ _ h1 h2 => run_fieldAddr fo_103_5 (h1.ev rfl)) ?_
         exact Tq.fin (.cons rfl .nil)
        refine Dr.one 9 (by kernel_rfl) ?_
        refine St.store 9 1 (cs := [(sv p0.tool)]) [(iv p0.light), (sv p0.tool), (.bool true), (iv p1.At.X), (iv p1.At.Y), (.bool true), (sv p0.tool), (iv p0.drawDark), (iv p0.drawAt.X), (iv p0.drawAt.Y)] rfl (wn rfl) (.inl ⟨_, (List.mem_cons_of_mem _ List.mem_cons_self), rfl, rfl⟩) rfl rfl rfl rfl sz_9 rfl rfl rfl ?_
        refine Dr.quiet 10 [(39, (.pointer (some ⟨b100, 7, none⟩)))] (by kernel_rfl) rfl rfl (by kernel_rfl) ?_ rfl rfl ?_
        ·refine Tq.va rfl (fun _ _ h1 h2 => run_fieldAddr fo_103_6 (h1.ev rfl)) ?_
         exact Tq.fin (.cons rfl .nil)
        refine Dr.one 11 (by kernel_rfl) ?_
        refine St.store 11 1 (cs := [(iv p0.light)]) [(iv p0.light), (sv p0.tool), (.bool true), (iv p1.At.X), (iv p1.At.Y), (.bool true), (sv p0.tool), (iv p0.light), (iv p0.drawAt.X), (iv p0.drawAt.Y)] rfl (wn rfl) (.inl ⟨_, (List.mem_cons_of_mem _ (List.mem_cons_of_mem _ List.mem_cons_self)), rfl, rfl⟩) rfl rfl rfl rfl sz_3 rfl rfl rfl ?_
        refine Dr.tail (by kernel_rfl) ?_
        refine Tr.va rfl (fun _ _ h1 h2 => run_fieldAddr fo_103_7 (h1.ev rfl)) ?_
        refine Tr.store 1 (cs := [(iv p1.At.X), (iv p1.At.Y)]) [(iv p0.light), (sv p0.tool), (.bool true), (iv p1.At.X), (iv p1.At.Y), (.bool true), (sv p0.tool), (iv p0.light), (iv p1.At.X), (iv p1.At.Y)] (wn rfl) rfl rfl rfl rfl sz_42 rfl rfl rfl ?_
        refine Tr.nil (Tr.normBlock ?_)
        exact Tr.backThen leJ119 (p0.light, p0.tool, true, p1.At.X, p1.At.Y, true, p0.tool, p0.light, p1.At.X, p1.At.Y) H (.cons rfl (.cons rfl .nil)) (.cons rfl (.cons rfl .nil))
       ·refine Tr.sr ?_
        refine Tr.va rfl (fun _ _ h1 h2 => run_eql (h1.ev rfl) (h1.ev rfl)) ?_
        refine Tr.asg rfl rfl ?_
        refine Tr.nil (Tr.normThen ?_)
        refine Tr.cond rfl H (fun H => ?_) (fun H => ?_)
        ·refine Tr.region ?_
         refine Tr.va rfl (fun _ _ h1 h2 => run_fieldAddr fo_103_4 (h1.ev rfl)) ?_
         refine Tr.store 1 (cs := [(.bool false)]) [(iv p0.light), (sv p0.tool), (.bool p0.there), (iv p0.place.X), (iv p0.place.Y), (.bool false), (sv p0.drawTool), (iv p0.drawDark), (iv p0.drawAt.X), (iv p0.drawAt.Y)] (wn rfl) rfl rfl rfl rfl sz_4 rfl rfl rfl ?_
         refine Tr.nil (Tr.normBlock ?_)
         exact Tr.backThen leJ119 (p0.light, p0.tool, p0.there, p0.place.X, p0.place.Y, false, p0.drawTool, p0.drawDark, p0.drawAt.X, p0.drawAt.Y) H (.cons rfl (.cons rfl .nil)) (.cons rfl (.cons rfl .nil))
        ·refine Tr.sr ?_
         refine Tr.va rfl (fun _ _ h1 h2 => run_eql (h1.ev rfl) (h1.ev rfl)) ?_
         refine Tr.asg rfl rfl ?_
         refine Tr.nil (Tr.normThen ?_)
         refine Tr.cond rfl H (fun H => ?_) (fun H => ?_)
         ·refine Tr.region ?_
          refine Tr.build (vs := [(0, (iv 3))]) (cs := [(iv 3), (sv ⟨#[]⟩), (.bool false), (iv 0), (iv 0), (.bool false), (sv ⟨#[]⟩), (iv 0), (iv 0), (iv 0)]) (wn rfl) rfl (evs_cons rfl evs_nil) (by kernel_rfl) ?_
          refine Tr.store 1 (cs := [(iv 3), (sv ⟨#[]⟩), (.bool false), (iv 0), (iv 0), (.bool false), (sv ⟨#[]⟩), (iv 0), (iv 0), (iv 0)]) [(iv 3), (sv ⟨#[]⟩), (.bool false), (iv 0), (iv 0), (.bool false), (sv ⟨#[]⟩), (iv 0), (iv 0), (iv 0)] (wn rfl) rfl rfl rfl rfl sz_103 rfl rfl rfl ?_
          refine Tr.nil (Tr.normBlock ?_)
          exact Tr.backThen leJ119 (3, ⟨#[]⟩, false, 0, 0, false, ⟨#[]⟩, 0, 0, 0) H (.cons rfl (.cons rfl .nil)) (.cons rfl (.cons rfl .nil))
         ·refine Tr.skip (Tr.normBlock ?_)
          exact Tr.backThen leJ119 (p0.light, p0.tool, p0.there, p0.place.X, p0.place.Y, p0.drawn, p0.drawTool, p0.drawDark, p0.drawAt.X, p0.drawAt.Y) H (.cons rfl (.cons rfl .nil)) (.cons rfl (.cons rfl .nil))
 ·intro w s hlJ120 hs
  obtain ⟨x109, x110, x111, x112, x113, x114, x115, x116, x117, x118⟩ := s
  have H := hs
  replace H : F_etchhouseref3_known__after_J2 x109 x110 x111 x112 x113 x114 x115 x116 x117 x118 = some r := H
  replace leB := leB.trans hlJ120
  unfold F_etchhouseref3_known__after_J2 at H
  show Tr _ _ (LF [(2, (.pointer (some ⟨b100, 0, none⟩))), (4, (.pointer (some ⟨b102, 0, none⟩)))]) (LE [(1, bx b100 #[(iv x109), (sv x110), (.bool x111), (iv x112), (iv x113), (.bool x114), (sv x115), (iv x116), (iv x117), (iv x118)] 103), (3, bx b102 #[(iv 0), (sv ⟨#[]⟩), (.bool false), (iv 0), (iv 0), (.bool false), (sv ⟨#[]⟩), (iv 0), (iv 0), (iv 0)] 103)]) _
  refine Tr.sr ?_
  refine Tr.va rfl (fun _ _ h1 h2 => run_loadN (cs := [(iv x109), (sv x110), (.bool x111), (iv x112), (iv x113), (.bool x114), (sv x115), (iv x116), (iv x117), (iv x118)]) ag_103 sz_103 (h1.ev rfl) (CellsAt.take (rdb h2 (vs := [(iv x109), (sv x110), (.bool x111), (iv x112), (iv x113), (.bool x114), (sv x115), (iv x116), (iv x117), (iv x118)]) (k := 1) rfl 0) 10) rfl) ?_
  refine Tr.store 3 (cs := [(iv x109), (sv x110), (.bool x111), (iv x112), (iv x113), (.bool x114), (sv x115), (iv x116), (iv x117), (iv x118)]) [(iv x109), (sv x110), (.bool x111), (iv x112), (iv x113), (.bool x114), (sv x115), (iv x116), (iv x117), (iv x118)] (wn rfl) rfl rfl rfl rfl sz_103 rfl rfl rfl ?_
  refine Tr.nil (Tr.normThen ?_)
  refine Tr.ret ?_
  obtain rfl := Option.some.inj H
  exact Tr.out (m := [(.agg #[(iv x109), (sv x110), (.bool x111), (iv x112), (iv x113), (.bool x114), (sv x115), (iv x116), (iv x117), (iv x118)])]) [3] (res_cell rfl rfl ag_103 sz_103 res_nil) (fun W hW => ⟨rfl, hW.low leB⟩)

theorem F_etchhouseref3_firstIdle_ok (N : Nat) {w : Bs} (p0 : (List TPlotStep)) (Ap0_0 : Option Addr) (cp0_0 : Nat) (hp0_0 : Sl w.R w.W fl_TPlotStep Ap0_0 cp0_0 p0) (r : Int) (H : F_etchhouseref3_firstIdle N p0 = some r) (hE : HF w w.W E0) : Calls Tryz.prog 25 [(.slice Ap0_0 (p0).length cp0_0)].toArray w.W fun e W' => e = .returned (iv r) ∧ HF w W' E0 := by
 unfold F_etchhouseref3_firstIdle at H
 have leB := Bs.Le.refl w
 refine Tr.enter (n := 23) Tryz.func25 rfl rfl rfl hE ?_
 refine Tr.sr ?_
 refine Tr.asg rfl rfl ?_
 refine Tr.nil (Tr.normThen ?_)
 refine Tr.sr ?_
 refine Tr.build (vs := [(0, (iv 1))]) (cs := [(iv 1), (sv ⟨#[]⟩), (.bool false), (iv 0), (iv 0), (.bool false), (sv ⟨#[]⟩), (iv 0), (iv 0), (iv 0)]) (wn rfl) rfl (evs_cons rfl evs_nil) (by kernel_rfl) ?_
 refine Tr.alloc 1 (wn rfl) rfl ze_103 fun b100 => ?_
 refine Tr.store 1 (cs := [(iv 1), (sv ⟨#[]⟩), (.bool false), (iv 0), (iv 0), (.bool false), (sv ⟨#[]⟩), (iv 0), (iv 0), (iv 0)]) [(iv 1), (sv ⟨#[]⟩), (.bool false), (iv 0), (iv 0), (.bool false), (sv ⟨#[]⟩), (iv 0), (iv 0), (iv 0)] (wn rfl) rfl rfl rfl rfl sz_103 rfl rfl rfl ?_
 refine Tr.nil (Tr.normThen ?_)
 refine Tr.seq ?_
 refine Tr.sr ?_
 refine Tr.asg rfl rfl ?_
 refine Tr.nil (Tr.normThen ?_)
 refine Tr.block ?_
 refine Tr.loop (σ := Int × ByteArray × Bool × Int × Int × Bool × ByteArray × Int × Int × Int × Int) (fun m w s => F_etchhouseref3_firstIdle_L1 N p0 m s.1 s.2.1 s.2.2.1 s.2.2.2.1 s.2.2.2.2.1 s.2.2.2.2.2.1 s.2.2.2.2.2.2.1 s.2.2.2.2.2.2.2.1 s.2.2.2.2.2.2.2.2.1 s.2.2.2.2.2.2.2.2.2.1 s.2.2.2.2.2.2.2.2.2.2 = some r) (fun s => [(0, (.slice Ap0_0 (p0).length cp0_0)), (3, (.pointer (some ⟨b100, 0, none⟩))), (4, (iv s.2.2.2.2.2.2.2.2.2.2))]) (fun s => [(1, bx b100 #[(iv s.1), (sv s.2.1), (.bool s.2.2.1), (iv s.2.2.2.1), (iv s.2.2.2.2.1), (.bool s.2.2.2.2.2.1), (sv s.2.2.2.2.2.2.1), (iv s.2.2.2.2.2.2.2.1), (iv s.2.2.2.2.2.2.2.2.1), (iv s.2.2.2.2.2.2.2.2.2.1)] 103)]) N (1, ⟨#[]⟩, false, 0, 0, false, ⟨#[]⟩, 0, 0, 0, 0) H (.cons rfl (.cons rfl (.cons rfl .nil))) (.cons rfl .nil) (fun _ _ h => noSome (h)) ?_
 intro w leL1 mL1 s hs
 obtain ⟨x142, x143, x144, x145, x146, x147, x148, x149, x150, x151, x152⟩ := s
 have H := hs
 replace H : F_etchhouseref3_firstIdle_L1 N p0 (mL1 + 1) x142 x143 x144 x145 x146 x147 x148 x149 x150 x151 x152 = some r := H
 replace hp0_0 := hp0_0.leR leL1
 replace leB := leB.trans leL1
 rw [F_etchhouseref3_firstIdle_L1.eq_2] at H
 show Tr _ _ (LF [(0, (.slice Ap0_0 (p0).length cp0_0)), (3, (.pointer (some ⟨b100, 0, none⟩))), (4, (iv x152))]) (LE [(1, bx b100 #[(iv x142), (sv x143), (.bool x144), (iv x145), (iv x146), (.bool x147), (sv x148), (iv x149), (iv x150), (iv x151)] 103)]) _
 refine Tr.seq ?_
 refine Tr.sr ?_
 refine Tr.mv rfl rfl ?_
 refine Tr.mv rfl rfl ?_
 refine Tr.va rfl (fun _ _ h1 h2 => run_len un_23 (h1.ev rfl)) ?_
 refine Tr.va rfl (fun _ _ h1 h2 => run_lss (h1.ev rfl) (h1.ev rfl)) ?_
 refine Tr.nil (Tr.normThen ?_)
 refine Tr.cond rfl H (fun H => ?_) (fun H => ?_)
 ·refine Tr.skip (Tr.normThen ?_)
  refine Tr.seq ?_
  refine Tr.block ?_
  refine Tr.seq ?_
  refine Tr.sr ?_
  refine Tr.mv rfl rfl ?_
  refine Tr.mv rfl rfl ?_
  refine Tr.va rfl (fun _ _ h1 h2 => run_loadN (cs := [(iv x142), (sv x143), (.bool x144), (iv x145), (iv x146), (.bool x147), (sv x148), (iv x149), (iv x150), (iv x151)]) ag_103 sz_103 (h1.ev rfl) (CellsAt.take (rdb h2 (vs := [(iv x142), (sv x143), (.bool x144), (iv x145), (iv x146), (.bool x147), (sv x148), (iv x149), (iv x150), (iv x151)]) (k := 1) rfl 0) 10) rfl) ?_
  obtain ⟨y153, hy153, H⟩ := bnd H
  refine Tr.call0 (r := (.bool y153)) (wn rfl) rfl Tryz.call59 (evl_cons rfl (evl_cons rfl (evl_cons rfl evl_nil))) (fun W hW => F_etchhouseref3_idle_ok N p0 Ap0_0 cp0_0 (hp0_0.ext hW.extAll) x152 (Tetchhouseref3Known.mk x142 x143 x144 (TPoint.mk x145 x146) x147 x148 x149 (TPoint.mk x150 x151)) y153 hy153 (HF.start _)) ?_
  refine Tr.nil (Tr.normThen ?_)
  refine Tr.cond rfl H (fun H => ?_) (fun H => ?_)
  ·refine Tr.sr ?_
   refine Tr.mv rfl rfl ?_
   refine Tr.asg rfl rfl ?_
   refine Tr.nil (Tr.normThen ?_)
   refine Tr.ret (Tr.retThen (Tr.retBlock (Tr.retThen (Tr.retThen (Tr.retBlock (Tr.retThen ?_))))))
   obtain rfl := Option.some.inj H
   exact Tr.out (m := [(iv x152)]) [] (res_tmp rfl res_nil) (fun W hW => ⟨rfl, hW.low leB⟩)
  ·refine Tr.skip (Tr.normThen ?_)
   refine Tr.drawTail 5 (by kernel_rfl) (by kernel_rfl) ?_
   refine Tq.va rfl (fun _ _ h1 h2 => run_loadN (cs := [(iv x142), (sv x143), (.bool x144), (iv x145), (iv x146), (.bool x147), (sv x148), (iv x149), (iv x150), (iv x151)]) ag_103 sz_103 (h1.ev rfl) (CellsAt.take (rdb h2 (vs := [(iv x142), (sv x143), (.bool x144), (iv x145), (iv x146), (.bool x147), (sv x148), (iv x149), (iv x150), (iv x151)]) (k := 1) rfl 0) 10) rfl) ?_
   refine Tq.mv rfl rfl ?_
   refine Tq.mv rfl rfl ?_
   obtain ⟨x154, hx154, H⟩ := bnd H
   obtain ⟨hx1540, hx1541, hx1542⟩ := idx_some hx154
   obtain ⟨u155, hRu155, hoku155, hcu155⟩ := (hp0_0).el hx1542
   obtain ⟨⟨Au155_0, cu155_0⟩, ⟨Au155_1, cu155_1⟩⟩ := u155
   obtain ⟨hoku155_0, hoku155_1⟩ := TPlotStep_ok.1 hoku155
   replace hoku155_0 : Sl w.R w.W fl_TPoint Au155_0 cu155_0 x154.Points := hoku155_0
   replace hoku155_1 : Sl w.R w.W fl_TPlotStep Au155_1 cu155_1 x154.Steps := hoku155_1
   refine Tq.va rfl (fun _ _ h1 h2 => run_indexAddr el_23 (h1.ev rfl) hp0_0.form (h1.ev rfl) hx1540 hx1541) ?_
   refine Tq.va rfl (fun _ _ h1 h2 => run_loadN (cs := [(iv x154.Kind), (sv x154.Name), (iv x154.At.X), (iv x154.At.Y), (.slice Au155_0 (x154.Points).length cu155_0), (iv x154.NX), (iv x154.NY), (.slice Au155_1 (x154.Steps).length cu155_1)]) ag_49 sz_49 (h1.ev rfl) (CellsAt.take (rdR hRu155 hcu155 h2) 8) rfl) ?_
   refine Tq.nil ?_
   obtain ⟨y156, hy156, H⟩ := bnd H
   refine Tr.call0 (r := (.agg #[(iv y156.light), (sv y156.tool), (.bool y156.there), (iv y156.place.X), (iv y156.place.Y), (.bool y156.drawn), (sv y156.drawTool), (iv y156.drawDark), (iv y156.drawAt.X), (iv y156.drawAt.Y)])) (wn rfl) rfl Tryz.call60 (evl_cons rfl (evl_cons rfl evl_nil)) (fun W hW => F_etchhouseref3_known__after_ok (Tetchhouseref3Known.mk x142 x143 x144 (TPoint.mk x145 x146) x147 x148 x149 (TPoint.mk x150 x151)) x154 Au155_0 cu155_0 (hoku155_0.ext hW.extAll) Au155_1 cu155_1 (hoku155_1.ext hW.extAll) y156 hy156 (HF.start _)) ?_
   refine Tr.store 1 (cs := [(iv y156.light), (sv y156.tool), (.bool y156.there), (iv y156.place.X), (iv y156.place.Y), (.bool y156.drawn), (sv y156.drawTool), (iv y156.drawDark), (iv y156.drawAt.X), (iv y156.drawAt.Y)]) [(iv y156.light), (sv y156.tool), (.bool y156.there), (iv y156.place.X), (iv y156.place.Y), (.bool y156.drawn), (sv y156.drawTool), (iv y156.drawDark), (iv y156.drawAt.X), (iv y156.drawAt.Y)] (wn rfl) rfl rfl rfl rfl sz_103 rfl rfl rfl ?_
   refine Tr.nil (Tr.normBlock (Tr.normThen ?_))
   refine Tr.region ?_
   refine Tr.mv rfl rfl ?_
   refine Tr.va rfl (fun _ _ h1 h2 => run_add (h1.ev rfl) (h1.ev rfl)) ?_
   refine Tr.asg rfl rfl ?_
   refine Tr.nil ?_
   exact Tr.backThen leL1 (y156.light, y156.tool, y156.there, y156.place.X, y156.place.Y, y156.drawn, y156.drawTool, y156.drawDark, y156.drawAt.X, y156.drawAt.Y, (w64 (x152 + 1))) H (.cons rfl (.cons rfl (.cons rfl .nil))) (.cons rfl .nil)
 ·refine Tr.exit (Tr.exitThen (Tr.exitThen (Tr.exitBlock (Tr.normThen ?_))))
  refine Tr.sr ?_
  refine Tr.asg rfl rfl ?_
  refine Tr.nil (Tr.normThen ?_)
  refine Tr.ret ?_
  obtain rfl := Option.some.inj H
  exact Tr.out (m := [(iv (-1))]) [] (res_tmp rfl res_nil) (fun W hW => ⟨rfl, hW.low leB⟩)

theorem F_etchhouseref3_without_ok {w : Bs} (p0 : (List TPlotStep)) (Ap0_0 : Option Addr) (cp0_0 : Nat) (hp0_0 : Sl w.O w.W fl_TPlotStep Ap0_0 cp0_0 p0) (p1 : Int) (r : (List TPlotStep)) (H : F_etchhouseref3_without p0 p1 = some r) (hE : HF w w.W (LEn [emp])) : Calls Tryz.prog 26 [(.slice Ap0_0 (p0).length cp0_0), (iv p1)].toArray w.W fun e W' => ∃ (w' : Bs) (u : (Option Addr × Nat)), w.Le w' ∧ e = .returned (.slice u.1 (r).length u.2) ∧ (SlF u.1 (r).length u.2) ∧ HF w' W' (LEn [ow u.1 u.2 49 fl_TPlotStep r]) := by
 unfold F_etchhouseref3_without at H
 have leB := Bs.Le.refl w
 refine Tr.enter (n := 17) Tryz.func26 rfl rfl rfl hE ?_
 refine Tr.sr ?_
 refine Tr.asg rfl rfl ?_
 refine Tr.nilOwn 1 49 fl_TPlotStep ?_
 show Tr _ _ (uf _ 4 (.slice none (([] : List TPlotStep)).length 0)) _ _
 refine Tr.nil (Tr.normThen ?_)
 refine Tr.sr ?_
 refine Tr.asg rfl rfl ?_
 refine Tr.nilOwn 2 49 fl_TPlotStep ?_
 show Tr _ _ (uf _ 5 (.slice none (([] : List TPlotStep)).length 0)) _ _
 refine Tr.nil (Tr.normThen ?_)
 refine Tr.sr ?_
 refine Tr.mv rfl rfl ?_
 refine Tr.mv rfl rfl ?_
 refine Tr.mv rfl rfl ?_
 obtain ⟨l100, hl100, H⟩ := bnd H
 refine Tr.va rfl (fun _ _ h1 h2 => run_pre el_23 (h1.ev rfl) hp0_0.form (h1.ev rfl) hl100) ?_
 obtain ⟨l101, hl101, H⟩ := bnd H
 refine Tr.appendS 2 (t := fl_TPlotStep) (l := ([] : List TPlotStep)) (l2 := l100) (wn rfl) rfl rfl rfl rfl (apO (Sl.pre hp0_0 hl100)) un_23 sz_49 zl_49 (by decide) by_49 rfl hl101 fun Al101 cl101 hAl101 => ?_
 refine Tr.asg rfl rfl ?_
 refine Tr.nil (Tr.normThen ?_)
 refine Tr.sr ?_
 refine Tr.mv rfl rfl ?_
 refine Tr.mv rfl rfl ?_
 refine Tr.mv rfl rfl ?_
 refine Tr.va rfl (fun _ _ h1 h2 => run_add (h1.ev rfl) (h1.ev rfl)) ?_
 obtain ⟨l102, hl102, H⟩ := bnd H
 refine Tr.va rfl (fun _ _ h1 h2 => run_cutL el_23 (h1.ev rfl) hp0_0.form (h1.ev rfl) hl102) ?_
 obtain ⟨l103, hl103, H⟩ := bnd H
 refine Tr.appendS 2 (t := fl_TPlotStep) (l := l101) (l2 := l102) (wn rfl) rfl rfl rfl rfl (apO (Sl.cut hp0_0 hl102)) un_23 sz_49 zl_49 (by decide) by_49 rfl hl103 fun Al103 cl103 hAl103 => ?_
 refine Tr.asg rfl rfl ?_
 refine Tr.nil (Tr.normThen ?_)
 refine Tr.ret ?_
 obtain rfl := Option.some.inj H
 exact Tr.out (m := [(.slice Al103 (l103).length cl103)]) [] (res_tmp rfl res_nil) (fun W hW => ⟨w, (Al103, cl103), leB, rfl, hAl103, hW.pick (ks := [2]) (by decide) (pk_cons rfl pk_nil)⟩)

theorem F_etchhouseref3_Short_ok (N : Nat) {w : Bs} (p0 : TPlot) (Ap0_0 : Option Addr) (cp0_0 : Nat) (hp0_0 : Sl w.O w.W fl_TPlotTool Ap0_0 cp0_0 p0.Tools) (Ap0_1 : Option Addr) (cp0_1 : Nat) (hp0_1 : Sl w.O w.W fl_TPlotStep Ap0_1 cp0_1 p0.Steps) (r : (TPlot × Int)) (H : F_etchhouseref3_Short N p0 = some r) (hE : HF w w.W (LEn [])) : Calls Tryz.prog 9 [(.agg #[(iv p0.Unit), (.slice Ap0_0 (p0.Tools).length cp0_0), (.slice Ap0_1 (p0.Steps).length cp0_1)])].toArray w.W fun e W' => ∃ (w' : Bs) (u : (Option Addr × Nat) × (Option Addr × Nat)), w.Le w' ∧ e = .returned (.tuple #[(.agg #[(iv r.1.Unit), (.slice u.1.1 (r.1.Tools).length u.1.2), (.slice u.2.1 (r.1.Steps).length u.2.2)]), (iv r.2)]) ∧ (Sl w'.O w'.W fl_TPlotTool u.1.1 u.1.2 r.1.Tools ∧ Sl w'.O w'.W fl_TPlotStep u.2.1 u.2.2 r.1.Steps) ∧ HF w' W' (LEn []) := by
 unfold F_etchhouseref3_Short at H
 have leB := Bs.Le.refl w
 refine Tr.enter (n := 26) Tryz.func9 rfl rfl rfl hE ?_
 refine Tr.sr ?_
 refine Tr.box 1 (cs := [(iv p0.Unit), (.slice Ap0_0 (p0.Tools).length cp0_0), (.slice Ap0_1 (p0.Steps).length cp0_1)]) (wn rfl) rfl rfl rfl fun b100 => ?_
 refine Tr.alloc 2 (wn rfl) rfl ze_25 fun b101 => ?_
 refine Tr.asg rfl rfl ?_
 refine Tr.nil (Tr.normThen ?_)
 refine Tr.seq ?_
 refine Tr.sr ?_
 refine Tr.va rfl (fun _ _ h1 h2 => run_loadN (cs := [(iv p0.Unit), (.slice Ap0_0 (p0.Tools).length cp0_0), (.slice Ap0_1 (p0.Steps).length cp0_1)]) ag_25 sz_25 (h1.ev rfl) (CellsAt.take (rdb h2 (vs := [(iv p0.Unit), (.slice Ap0_0 (p0.Tools).length cp0_0), (.slice Ap0_1 (p0.Steps).length cp0_1)]) (k := 1) rfl 0) 3) rfl) ?_
 obtain ⟨y102, hy102, H⟩ := bnd H
 refine Tr.call0 (r := (iv y102)) (wn rfl) rfl Tryz.call18 (evl_cons rfl evl_nil) (fun W hW => F_etchhouseref3_CheckPlot_ok N p0 Ap0_0 cp0_0 (hp0_0.rl.ext hW.extAll) Ap0_1 cp0_1 (hp0_1.rl.ext hW.extAll) y102 hy102 (HF.start _)) ?_
 refine Tr.asg rfl rfl ?_
 refine Tr.nil (Tr.normThen ?_)
 refine Tr.sr ?_
 refine Tr.mv rfl rfl ?_
 refine Tr.va rfl (fun _ _ h1 h2 => run_neq (h1.ev rfl) (h1.ev rfl)) ?_
 refine Tr.nil (Tr.normThen ?_)
 refine Tr.cond rfl H (fun H => ?_) (fun H => ?_)
 ·refine Tr.sr ?_
  refine Tr.build (vs := []) (cs := [(iv 0), (.slice none 0 0), (.slice none 0 0)]) (wn rfl) rfl evs_nil (by kernel_rfl) ?_
  refine Tr.mv rfl rfl ?_
  refine Tr.store 2 (cs := [(iv 0), (.slice none 0 0), (.slice none 0 0)]) [(iv 0), (.slice none 0 0), (.slice none 0 0)] (wn rfl) rfl rfl rfl rfl sz_25 rfl rfl rfl ?_
  refine Tr.asg rfl rfl ?_
  refine Tr.nil (Tr.normThen ?_)
  refine Tr.ret (Tr.retThen ?_)
  obtain rfl := Option.some.inj H
  exact Tr.out (m := [(.agg #[(iv 0), (.slice none 0 0), (.slice none 0 0)]), (iv y102)]) [2] (res_cell rfl rfl ag_25 sz_25 (res_tmp rfl res_nil)) (fun W hW => ⟨w, ((none, 0), (none, 0)), leB, rfl, ⟨(Sl.nil _ _ _), (Sl.nil _ _ _)⟩, hW.pick (ks := []) (by decide) pk_nil⟩)
 ·refine Tr.skip (Tr.normThen ?_)
  refine Tr.seq ?_
  refine Tr.sr ?_
  refine Tr.va rfl (fun _ _ h1 h2 => run_fieldAddr fo_25_2 (h1.ev rfl)) ?_
  refine Tr.va rfl (fun _ _ h1 h2 => run_load1 ag_23 (h1.ev rfl) (rdb h2 (vs := [(iv p0.Unit), (.slice Ap0_0 (p0.Tools).length cp0_0), (.slice Ap0_1 (p0.Steps).length cp0_1)]) (k := 1) rfl 2) rfl) ?_
  obtain ⟨y103, hy103, H⟩ := bnd H
  refine Tr.call0 (r := (iv y103)) (wn rfl) rfl Tryz.call25 (evl_cons rfl evl_nil) (fun W hW => F_etchhouseref3_firstIdle_ok N p0.Steps Ap0_1 cp0_1 (hp0_1.rl.ext hW.extAll) y103 hy103 (HF.start _)) ?_
  refine Tr.asg rfl rfl ?_
  refine Tr.nil (Tr.normThen ?_)
  refine Tr.block ?_
  refine Tr.loop (σ := (List TPlotStep) × Int × (Option Addr) × Nat) (fun m w s => F_etchhouseref3_Short_L1 N p0 m s.1 s.2.1 = some r ∧ Sl w.O w.W fl_TPlotStep s.2.2.1 s.2.2.2 s.1) (fun s => [(1, (.pointer (some ⟨b100, 0, none⟩))), (2, (.pointer (some ⟨b101, 0, none⟩))), (5, (iv s.2.1))]) (fun s => [(1, bx b100 #[(iv p0.Unit), (.slice Ap0_0 (p0.Tools).length cp0_0), (.slice s.2.2.1 (s.1).length s.2.2.2)] 25), (2, bx b101 #[(iv 0), (.slice none 0 0), (.slice none 0 0)] 25)]) N (p0.Steps, y103, Ap0_1, cp0_1) ⟨H, hp0_1⟩ (.cons rfl (.cons rfl (.cons rfl .nil))) (.cons rfl (.cons rfl .nil)) (fun _ _ h => noSome (h.1)) ?_
  intro w leL1 mL1 s hs
  obtain ⟨l116, x117, Al116, cl116⟩ := s
  obtain ⟨H, hl116⟩ := hs
  replace H : F_etchhouseref3_Short_L1 N p0 (mL1 + 1) l116 x117 = some r := H
  replace hp0_0 := hp0_0.le leL1
  replace leB := leB.trans leL1
  replace hl116 : Sl w.O w.W fl_TPlotStep Al116 cl116 l116 := hl116
  rw [F_etchhouseref3_Short_L1.eq_2] at H
  show Tr _ _ (LF [(1, (.pointer (some ⟨b100, 0, none⟩))), (2, (.pointer (some ⟨b101, 0, none⟩))), (5, (iv x117))]) (LE [(1, bx b100 #[(iv p0.Unit), (.slice Ap0_0 (p0.Tools).length cp0_0), (.slice Al116 (l116).length cl116)] 25), (2, bx b101 #[(iv 0), (.slice none 0 0), (.slice none 0 0)] 25)]) _
  refine Tr.seq ?_
  refine Tr.sr ?_
  refine Tr.mv rfl rfl ?_
  refine Tr.va rfl (fun _ _ h1 h2 => run_geq (h1.ev rfl) (h1.ev rfl)) ?_
  refine Tr.nil (Tr.normThen ?_)
  refine Tr.cond rfl H (fun H => ?_) (fun H => ?_)
  ·refine Tr.skip (Tr.normThen ?_)
   refine Tr.seq ?_
   refine Tr.block ?_
   refine Tr.region ?_
   refine Tr.va rfl (fun _ _ h1 h2 => run_fieldAddr fo_25_2 (h1.ev rfl)) ?_
   refine Tr.va rfl (fun _ _ h1 h2 => run_load1 ag_23 (h1.ev rfl) (rdb h2 (vs := [(iv p0.Unit), (.slice Ap0_0 (p0.Tools).length cp0_0), (.slice Al116 (l116).length cl116)]) (k := 1) rfl 2) rfl) ?_
   refine Tr.mv rfl rfl ?_
   obtain ⟨y118, hy118, H⟩ := bnd H
   refine Tr.callG [5] [emp] (U := (Option Addr × Nat)) (fun u => (.slice u.1 (y118).length u.2)) (fun O W u => SlF u.1 (y118).length u.2) (fun u => [ow u.1 u.2 49 fl_TPlotStep y118]) rfl (pk_cons rfl pk_nil) (fun _ => rfl) (wn rfl) rfl Tryz.call26 (evl_cons rfl (evl_cons rfl evl_nil)) (fun W hW hp hE => F_etchhouseref3_without_ok l116 Al116 cl116 (hl116.extO (hW.extS hp)) x117 y118 hy118 hE) ?_
   intro w u le119 hu
   obtain ⟨Ay118_0, cy118_0⟩ := u
   have gy118_0 := hu
   replace hp0_0 := hp0_0.le le119
   replace hl116 := hl116.le le119
   replace leB := leB.trans le119
   replace leL1 := leL1.trans le119
   have hgy118_0 : SlF Ay118_0 (y118).length cy118_0 := gy118_0 --@phi
   show Tr _ _ (uf _ 23 (.slice Ay118_0 (y118).length cy118_0)) (up _ 5 (ow Ay118_0 cy118_0 49 fl_TPlotStep y118)) _
   refine Tr.va rfl (fun _ _ h1 h2 => run_fieldAddr fo_25_2 (h1.ev rfl)) ?_
   refine Tr.store 1 (cs := [(.slice Ay118_0 (y118).length cy118_0)]) [(iv p0.Unit), (.slice Ap0_0 (p0.Tools).length cp0_0), (.slice Ay118_0 (y118).length cy118_0)] (wn rfl) rfl rfl rfl rfl sz_23 rfl rfl rfl ?_
   refine Tr.nil (Tr.normBlock (Tr.normThen ?_))
   refine Tr.region ?_
   refine Tr.va rfl (fun _ _ h1 h2 => run_fieldAddr fo_25_2 (h1.ev rfl)) ?_
   refine Tr.va rfl (fun _ _ h1 h2 => run_load1 ag_23 (h1.ev rfl) (rdb h2 (vs := [(iv p0.Unit), (.slice Ap0_0 (p0.Tools).length cp0_0), (.slice Ay118_0 (y118).length cy118_0)]) (k := 1) rfl 2) rfl) ?_
   obtain ⟨y120, hy120, H⟩ := bnd H
   refine Tr.call0 (r := (iv y120)) (wn rfl) rfl Tryz.call25 (evl_cons rfl evl_nil) (fun W hW => F_etchhouseref3_firstIdle_ok N y118 Ay118_0 cy118_0 (hW.slCall (k := 5) rfl) y120 hy120 (HF.start _)) ?_
   refine Tr.asg rfl rfl ?_
   refine Tr.nil ?_
   refine Tr.freeze 5 rfl fun w le122 hz121 => ?_
   replace hp0_0 := hp0_0.le le122
   replace hl116 := hl116.le le122
   replace leB := leB.trans le122
   replace leL1 := leL1.trans le122
   exact Tr.backThen leL1 (y118, y120, Ay118_0, cy118_0) ⟨H, hz121⟩ (.cons rfl (.cons rfl (.cons rfl .nil))) (.cons rfl (.cons rfl .nil))
  ·refine Tr.exit (Tr.exitThen (Tr.exitThen (Tr.exitBlock (Tr.normThen ?_))))
   refine Tr.sr ?_
   refine Tr.va rfl (fun _ _ h1 h2 => run_loadN (cs := [(iv p0.Unit), (.slice Ap0_0 (p0.Tools).length cp0_0), (.slice Al116 (l116).length cl116)]) ag_25 sz_25 (h1.ev rfl) (CellsAt.take (rdb h2 (vs := [(iv p0.Unit), (.slice Ap0_0 (p0.Tools).length cp0_0), (.slice Al116 (l116).length cl116)]) (k := 1) rfl 0) 3) rfl) ?_
   refine Tr.store 2 (cs := [(iv p0.Unit), (.slice Ap0_0 (p0.Tools).length cp0_0), (.slice Al116 (l116).length cl116)]) [(iv p0.Unit), (.slice Ap0_0 (p0.Tools).length cp0_0), (.slice Al116 (l116).length cl116)] (wn rfl) rfl rfl rfl rfl sz_25 rfl rfl rfl ?_
   refine Tr.asg rfl rfl ?_
   refine Tr.nil (Tr.normThen ?_)
   refine Tr.ret ?_
   obtain rfl := Option.some.inj H
   exact Tr.out (m := [(.agg #[(iv p0.Unit), (.slice Ap0_0 (p0.Tools).length cp0_0), (.slice Al116 (l116).length cl116)]), (iv 0)]) [2] (res_cell rfl rfl ag_25 sz_25 (res_tmp rfl res_nil)) (fun W hW => ⟨w, ((Ap0_0, cp0_0), (Al116, cl116)), leB, rfl, ⟨hp0_0, hl116⟩, hW.pick (ks := []) (by decide) pk_nil⟩)

theorem F_etchhouseref3_samePoints_ok (N : Nat) {w : Bs} (p0 : (List TPoint)) (Ap0_0 : Option Addr) (cp0_0 : Nat) (hp0_0 : Sl w.R w.W fl_TPoint Ap0_0 cp0_0 p0) (p1 : (List TPoint)) (Ap1_0 : Option Addr) (cp1_0 : Nat) (hp1_0 : Sl w.R w.W fl_TPoint Ap1_0 cp1_0 p1) (r : Bool) (H : F_etchhouseref3_samePoints N p0 p1 = some r) (hE : HF w w.W E0) : Calls Tryz.prog 61 [(.slice Ap0_0 (p0).length cp0_0), (.slice Ap1_0 (p1).length cp1_0)].toArray w.W fun e W' => e = .returned (.bool r) ∧ HF w W' E0 := by
 unfold F_etchhouseref3_samePoints at H
 have leB := Bs.Le.refl w
 refine Tr.enter (n := 26) Tryz.func61 rfl rfl rfl hE ?_
 refine Tr.sr ?_
 refine Tr.asg rfl rfl ?_
 refine Tr.nil (Tr.normThen ?_)
 refine Tr.seq ?_
 refine Tr.sr ?_
 refine Tr.mv rfl rfl ?_
 refine Tr.va rfl (fun _ _ h1 h2 => run_len un_47 (h1.ev rfl)) ?_
 refine Tr.mv rfl rfl ?_
 refine Tr.va rfl (fun _ _ h1 h2 => run_len un_47 (h1.ev rfl)) ?_
 refine Tr.va rfl (fun _ _ h1 h2 => run_neq (h1.ev rfl) (h1.ev rfl)) ?_
 refine Tr.nil (Tr.normThen ?_)
 refine Tr.cond rfl H (fun H => ?_) (fun H => ?_)
 ·refine Tr.sr ?_
  refine Tr.asg rfl rfl ?_
  refine Tr.nil (Tr.normThen ?_)
  refine Tr.ret (Tr.retThen ?_)
  obtain rfl := Option.some.inj H
  exact Tr.out (m := [(.bool false)]) [] (res_tmp rfl res_nil) (fun W hW => ⟨rfl, hW.low leB⟩)
 ·refine Tr.skip (Tr.normThen ?_)
  refine Tr.seq ?_
  refine Tr.sr ?_
  refine Tr.asg rfl rfl ?_
  refine Tr.nil (Tr.normThen ?_)
  refine Tr.block ?_
  refine Tr.loop (σ := Int) (fun m w s => F_etchhouseref3_samePoints_L1 p0 p1 m s = some r) (fun s => [(0, (.slice Ap0_0 (p0).length cp0_0)), (1, (.slice Ap1_0 (p1).length cp1_0)), (5, (iv s))]) (fun s => []) N 0 H (.cons rfl (.cons rfl (.cons rfl .nil))) .nil (fun _ _ h => noSome (h)) ?_
  intro w leL1 mL1 x107 hs
  have H := hs
  replace H : F_etchhouseref3_samePoints_L1 p0 p1 (mL1 + 1) x107 = some r := H
  replace hp0_0 := hp0_0.leR leL1
  replace hp1_0 := hp1_0.leR leL1
  replace leB := leB.trans leL1
  rw [F_etchhouseref3_samePoints_L1.eq_2] at H
  show Tr _ _ (LF [(0, (.slice Ap0_0 (p0).length cp0_0)), (1, (.slice Ap1_0 (p1).length cp1_0)), (5, (iv x107))]) (LE []) _
  refine Tr.seq ?_
  refine Tr.sr ?_
  refine Tr.mv rfl rfl ?_
  refine Tr.mv rfl rfl ?_
  refine Tr.va rfl (fun _ _ h1 h2 => run_len un_47 (h1.ev rfl)) ?_
  refine Tr.va rfl (fun _ _ h1 h2 => run_lss (h1.ev rfl) (h1.ev rfl)) ?_
  refine Tr.nil (Tr.normThen ?_)
  refine Tr.cond rfl H (fun H => ?_) (fun H => ?_)
  ·refine Tr.skip (Tr.normThen ?_)
   refine Tr.seq ?_
   refine Tr.block ?_
   refine Tr.seq ?_
   refine Tr.draw (by kernel_rfl) (by kernel_rfl) ?_
   refine Tq.mv rfl rfl ?_
   refine Tq.mv rfl rfl ?_
   obtain ⟨x108, hx108, H⟩ := bnd H
   obtain ⟨hx1080, hx1081, hx1082⟩ := idx_some hx108
   refine Tq.va rfl (fun _ _ h1 h2 => run_indexAddr el_47 (h1.ev rfl) hp0_0.form (h1.ev rfl) hx1080 hx1081) ?_
   refine Tq.va rfl (fun _ _ h1 h2 => run_loadN (cs := [(iv x108.X), (iv x108.Y)]) ag_42 sz_42 (h1.ev rfl) (CellsAt.take (rdF ef_TPoint hp0_0 hx1082 h2) 2) rfl) ?_
   refine Tq.mv rfl rfl ?_
   refine Tq.mv rfl rfl ?_
   obtain ⟨x109, hx109, H⟩ := bnd H
   obtain ⟨hx1090, hx1091, hx1092⟩ := idx_some hx109
   refine Tq.va rfl (fun _ _ h1 h2 => run_indexAddr el_47 (h1.ev rfl) hp1_0.form (h1.ev rfl) hx1090 hx1091) ?_
   refine Tq.va rfl (fun _ _ h1 h2 => run_loadN (cs := [(iv x109.X), (iv x109.Y)]) ag_42 sz_42 (h1.ev rfl) (CellsAt.take (rdF ef_TPoint hp1_0 hx1092 h2) 2) rfl) ?_
   refine Tq.va rfl (fun _ _ h1 h2 => run_neq_42 x108 x109 (h1.ev rfl) (h1.ev rfl)) ?_
   refine Tq.nil (Tr.normThen ?_)
   refine Tr.cond rfl H (fun H => ?_) (fun H => ?_)
   ·refine Tr.sr ?_
    refine Tr.asg rfl rfl ?_
    refine Tr.nil (Tr.normThen ?_)
    refine Tr.ret (Tr.retBlock (Tr.retThen (Tr.retThen (Tr.retBlock (Tr.retThen ?_)))))
    obtain rfl := Option.some.inj H
    exact Tr.out (m := [(.bool false)]) [] (res_tmp rfl res_nil) (fun W hW => ⟨rfl, hW.low leB⟩)
   ·refine Tr.skip (Tr.normBlock (Tr.normThen ?_))
    refine Tr.region ?_
    refine Tr.mv rfl rfl ?_
    refine Tr.va rfl (fun _ _ h1 h2 => run_add (h1.ev rfl) (h1.ev rfl)) ?_
    refine Tr.asg rfl rfl ?_
    refine Tr.nil ?_
    exact Tr.backThen leL1 (w64 (x107 + 1)) H (.cons rfl (.cons rfl (.cons rfl .nil))) .nil
  ·refine Tr.exit (Tr.exitThen (Tr.exitThen (Tr.exitBlock (Tr.normThen ?_))))
   refine Tr.sr ?_
   refine Tr.asg rfl rfl ?_
   refine Tr.nil (Tr.normThen ?_)
   refine Tr.ret ?_
   obtain rfl := Option.some.inj H
   exact Tr.out (m := [(.bool true)]) [] (res_tmp rfl res_nil) (fun W hW => ⟨rfl, hW.low leB⟩)

theorem F_etchhouseref3_sameSteps_b_ok (N : Nat) (rec : (List TPlotStep) → (List TPlotStep) → Option Bool) (hrec : ∀ {w : Bs} (p0 : (List TPlotStep)) (Ap0_0 : Option Addr) (cp0_0 : Nat) (hp0_0 : Sl w.R w.W fl_TPlotStep Ap0_0 cp0_0 p0) (p1 : (List TPlotStep)) (Ap1_0 : Option Addr) (cp1_0 : Nat) (hp1_0 : Sl w.R w.W fl_TPlotStep Ap1_0 cp1_0 p1) (r : Bool) (H : rec p0 p1 = some r) (hE : HF w w.W E0), Calls Tryz.prog 27 [(.slice Ap0_0 (p0).length cp0_0), (.slice Ap1_0 (p1).length cp1_0)].toArray w.W fun e W' => e = .returned (.bool r) ∧ HF w W' E0) {w : Bs} (p0 : (List TPlotStep)) (Ap0_0 : Option Addr) (cp0_0 : Nat) (hp0_0 : Sl w.R w.W fl_TPlotStep Ap0_0 cp0_0 p0) (p1 : (List TPlotStep)) (Ap1_0 : Option Addr) (cp1_0 : Nat) (hp1_0 : Sl w.R w.W fl_TPlotStep Ap1_0 cp1_0 p1) (r : Bool) (H : F_etchhouseref3_sameSteps_b N rec p0 p1 = some r) (hE : HF w w.W E0) : Calls Tryz.prog 27 [(.slice Ap0_0 (p0).length cp0_0), (.slice Ap1_0 (p1).length cp1_0)].toArray w.W fun e W' => e = .returned (.bool r) ∧ HF w W' E0 := by
 unfold F_etchhouseref3_sameSteps_b at H
 have leB := Bs.Le.refl w
 refine Tr.enter (n := 76) Tryz.func27 rfl rfl rfl hE ?_
 refine Tr.sr ?_
 refine Tr.asg rfl rfl ?_
 refine Tr.nil (Tr.normThen ?_)
 refine Tr.seq ?_
 refine Tr.sr ?_
 refine Tr.mv rfl rfl ?_
 refine Tr.va rfl (fun _ _ h1 h2 => run_len un_23 (h1.ev rfl)) ?_
 refine Tr.mv rfl rfl ?_
 refine Tr.va rfl (fun _ _ h1 h2 => run_len un_23 (h1.ev rfl)) ?_
 refine Tr.va rfl (fun _ _ h1 h2 => run_neq (h1.ev rfl) (h1.ev rfl)) ?_
 refine Tr.nil (Tr.normThen ?_)
 refine Tr.cond rfl H (fun H => ?_) (fun H => ?_)
 ·refine Tr.sr ?_
  refine Tr.asg rfl rfl ?_
  refine Tr.nil (Tr.normThen ?_)
  refine Tr.ret (Tr.retThen ?_)
  obtain rfl := Option.some.inj H
  exact Tr.out (m := [(.bool false)]) [] (res_tmp rfl res_nil) (fun W hW => ⟨rfl, hW.low leB⟩)
 ·refine Tr.skip (Tr.normThen ?_)
  refine Tr.seq ?_
  refine Tr.sr ?_
  refine Tr.asg rfl rfl ?_
  refine Tr.nil (Tr.normThen ?_)
  refine Tr.block ?_
  refine Tr.loop (σ := Int) (fun m w s => F_etchhouseref3_sameSteps_L1 N p0 p1 rec m s = some r) (fun s => [(0, (.slice Ap0_0 (p0).length cp0_0)), (1, (.slice Ap1_0 (p1).length cp1_0)), (5, (iv s))]) (fun s => []) N 0 H (.cons rfl (.cons rfl (.cons rfl .nil))) .nil (fun _ _ h => noSome (h)) ?_
  intro w leL1 mL1 x131 hs
  have H := hs
  replace H : F_etchhouseref3_sameSteps_L1 N p0 p1 rec (mL1 + 1) x131 = some r := H
  replace hp0_0 := hp0_0.leR leL1
  replace hp1_0 := hp1_0.leR leL1
  replace leB := leB.trans leL1
  rw [F_etchhouseref3_sameSteps_L1.eq_2] at H
  show Tr _ _ (LF [(0, (.slice Ap0_0 (p0).length cp0_0)), (1, (.slice Ap1_0 (p1).length cp1_0)), (5, (iv x131))]) (LE []) _
  refine Tr.seq ?_
  refine Tr.sr ?_
  refine Tr.mv rfl rfl ?_
  refine Tr.mv rfl rfl ?_
  refine Tr.va rfl (fun _ _ h1 h2 => run_len un_23 (h1.ev rfl)) ?_
  refine Tr.va rfl (fun _ _ h1 h2 => run_lss (h1.ev rfl) (h1.ev rfl)) ?_
  refine Tr.nil (Tr.normThen ?_)
  refine Tr.cond rfl H (fun H => ?_) (fun H => ?_)
  ·refine Tr.skip (Tr.normThen ?_)
   refine Tr.seq ?_
   refine Tr.block ?_
   refine Tr.seq ?_
   refine Tr.drawC 11 [] [10] (by kernel_rfl) (by kernel_rfl) fun sz132 hlosz132 hEsz132 => ?_
   refine Dr.quiet 0 [(19, (.slice Ap0_0 (p0).length cp0_0))] (by kernel_rfl) rfl rfl (by kernel_rfl) ?_ rfl rfl ?_
   ·refine Tq.mv rfl rfl ?_
    exact Tq.fin (.cons rfl .nil)
   refine Dr.quiet 1 [(20, (iv x131))] (by kernel_rfl) rfl rfl (by kernel_rfl) ?_ rfl rfl ?_
   ·refine Tq.mv rfl rfl ?_
    exact Tq.fin (.cons rfl .nil)
   obtain ⟨x133, hx133, H⟩ := bnd H
   obtain ⟨hx1330, hx1331, hx1332⟩ := idx_some hx133
   obtain ⟨u134, hRu134, hoku134, hcu134⟩ := (hp0_0).el hx1332
   obtain ⟨⟨Au134_0, cu134_0⟩, ⟨Au134_1, cu134_1⟩⟩ := u134
   obtain ⟨hoku134_0, hoku134_1⟩ := TPlotStep_ok.1 hoku134
   refine Dr.quiet 2 [(21, (.pointer (some ⟨adB Ap0_0, adO Ap0_0 + (x131).toNat * 8, none⟩)))] (by kernel_rfl) rfl rfl (by kernel_rfl) ?_ rfl rfl ?_
   ·replace hoku134_0 : Sl w.R w.W fl_TPoint Au134_0 cu134_0 x133.Points := hoku134_0
    replace hoku134_1 : Sl w.R w.W fl_TPlotStep Au134_1 cu134_1 x133.Steps := hoku134_1
    refine Tq.va rfl (fun _ _ h1 h2 => run_indexAddr el_23 (h1.ev rfl) hp0_0.form (h1.ev rfl) hx1330 hx1331) ?_
    exact Tq.fin (.cons rfl .nil)
   refine Dr.quiet 3 [(22, (.agg #[(iv x133.Kind), (sv x133.Name), (iv x133.At.X), (iv x133.At.Y), (.slice Au134_0 (x133.Points).length cu134_0), (iv x133.NX), (iv x133.NY), (.slice Au134_1 (x133.Steps).length cu134_1)]))] (by kernel_rfl) rfl rfl (by kernel_rfl) ?_ rfl rfl ?_
   ·refine Tq.va rfl (fun _ _ h1 h2 => run_loadN (cs := [(iv x133.Kind), (sv x133.Name), (iv x133.At.X), (iv x133.At.Y), (.slice Au134_0 (x133.Points).length cu134_0), (iv x133.NX), (iv x133.NY), (.slice Au134_1 (x133.Steps).length cu134_1)]) ag_49 sz_49 (h1.ev rfl) (CellsAt.take (rdR hRu134 hcu134 h2) 8) rfl) ?_
    exact Tq.fin (.cons rfl .nil)
   refine Dr.quietP 4 (by kernel_rfl) rfl (wn rfl) rfl (by kernel_rfl) (fun _ _ h1 => run_move (h1.ev rfl)) rfl ?_
   refine Dr.quietP 5 (by kernel_rfl) rfl (wn rfl) rfl (by kernel_rfl) (fun _ _ h1 => run_move (h1.ev rfl)) rfl ?_
   obtain ⟨x135, hx135, H⟩ := bnd H
   obtain ⟨hx1350, hx1351, hx1352⟩ := idx_some hx135
   obtain ⟨u136, hRu136, hoku136, hcu136⟩ := (hp1_0).el hx1352
   obtain ⟨⟨Au136_0, cu136_0⟩, ⟨Au136_1, cu136_1⟩⟩ := u136
   obtain ⟨hoku136_0, hoku136_1⟩ := TPlotStep_ok.1 hoku136
   refine Dr.quietZ 6 [(25, (.pointer (some ⟨adB Ap1_0, adO Ap1_0 + (x131).toNat * 8, none⟩)))] [] true (by kernel_rfl) rfl rfl (by kernel_rfl) (fun W W' h2 hsW hk => HF.keepZ (le := []) (ks := []) (s0 := sz132) true h2 hk (fun _ => hlosz132) .nil (fun b hb => hb.elim (fun ⟨_, hp, _⟩ => nomatch hp) (fun hb => .inr ⟨rfl, hb.2, (fun _ h => nomatch h)⟩)) (fun _ h => nomatch h) rfl) ?_ rfl rfl ?_
   ·replace hoku136_0 : Sl w.R w.W fl_TPoint Au136_0 cu136_0 x135.Points := hoku136_0
    replace hoku136_1 : Sl w.R w.W fl_TPlotStep Au136_1 cu136_1 x135.Steps := hoku136_1
    refine Tq.va rfl (fun _ _ h1 h2 => run_indexAddr el_23 (h1.ev rfl) hp1_0.form (h1.ev rfl) hx1350 hx1351) ?_
    exact Tq.fin (.cons rfl .nil)
   refine Dr.quietZ 7 [(26, (.agg #[(iv x135.Kind), (sv x135.Name), (iv x135.At.X), (iv x135.At.Y), (.slice Au136_0 (x135.Points).length cu136_0), (iv x135.NX), (iv x135.NY), (.slice Au136_1 (x135.Steps).length cu136_1)]))] [] true (by kernel_rfl) rfl rfl (by kernel_rfl) (fun W W' h2 hsW hk => HF.keepZ (le := []) (ks := []) (s0 := sz132) true h2 hk (fun _ => hlosz132) .nil (fun b hb => hb.elim (fun ⟨_, hp, _⟩ => nomatch hp) (fun hb => .inr ⟨rfl, hb.2, (fun _ h => nomatch h)⟩)) (fun _ h => nomatch h) rfl) ?_ rfl rfl ?_
   ·refine Tq.va rfl (fun _ _ h1 h2 => run_loadN (cs := [(iv x135.Kind), (sv x135.Name), (iv x135.At.X), (iv x135.At.Y), (.slice Au136_0 (x135.Points).length cu136_0), (iv x135.NX), (iv x135.NY), (.slice Au136_1 (x135.Steps).length cu136_1)]) ag_49 sz_49 (h1.ev rfl) (CellsAt.take (rdR hRu136 hcu136 h2) 8) rfl) ?_
    exact Tq.fin (.cons rfl .nil)
   refine Dr.cut (U := Nat × Nat) [8, 9] 1 (fun u => sz132 ≤ u.1 ∧ sz132 ≤ u.2) (fun u => [(0, (.slice Ap0_0 (p0).length cp0_0)), (1, (.slice Ap1_0 (p1).length cp1_0)), (5, (iv x131)), (6, (.pointer (some ⟨u.1, 0, none⟩))), (7, (.pointer (some ⟨u.2, 0, none⟩))), (13, (iv x131)), (14, (.slice Ap0_0 (p0).length cp0_0)), (15, (iv (p0.length : Int))), (16, (.bool (decide (x131 < (p0.length : Int))))), (19, (.slice Ap0_0 (p0).length cp0_0)), (20, (iv x131)), (21, (.pointer (some ⟨adB Ap0_0, adO Ap0_0 + (x131).toNat * 8, none⟩))), (22, (.agg #[(iv x133.Kind), (sv x133.Name), (iv x133.At.X), (iv x133.At.Y), (.slice Au134_0 (x133.Points).length cu134_0), (iv x133.NX), (iv x133.NY), (.slice Au134_1 (x133.Steps).length cu134_1)])), (23, (.slice Ap1_0 (p1).length cp1_0)), (24, (iv x131)), (25, (.pointer (some ⟨adB Ap1_0, adO Ap1_0 + (x131).toNat * 8, none⟩))), (26, (.agg #[(iv x135.Kind), (sv x135.Name), (iv x135.At.X), (iv x135.At.Y), (.slice Au136_0 (x135.Points).length cu136_0), (iv x135.NX), (iv x135.NY), (.slice Au136_1 (x135.Steps).length cu136_1)]))]) (fun u => [(5, bx u.1 #[(iv 0), (sv ⟨#[]⟩), (iv 0), (iv 0), (.slice none 0 0), (iv 0), (iv 0), (.slice none 0 0)] 49), (6, bx u.2 #[(iv 0), (sv ⟨#[]⟩), (iv 0), (iv 0), (.slice none 0 0), (iv 0), (iv 0), (.slice none 0 0)] 49)]) ?_ ?_
   ·intro hC
    refine Dr.pair 8 9 (by kernel_rfl) ?_ ?_
    ·refine St.alloc 8 5 rfl (wn rfl) rfl ze_49 fun b137 hb137 => ?_
     refine Dr.one 9 (by kernel_rfl) ?_
     refine St.alloc 9 6 rfl (wn rfl) rfl ze_49 fun b138 hb138 => ?_
     exact (hC ⟨b137, b138⟩ ⟨hb137, hb138⟩).use (by kernel_rfl) (.cons rfl (.cons rfl (.cons rfl (.cons rfl (.cons rfl (.cons rfl (.cons rfl (.cons rfl (.cons rfl (.cons rfl (.cons rfl (.cons rfl (.cons rfl (.cons rfl (.cons rfl (.cons rfl (.cons rfl .nil))))))))))))))))) (.cons rfl (.cons rfl .nil))
    ·refine St.alloc 9 6 rfl (wn rfl) rfl ze_49 fun b138 hb138 => ?_
     refine Dr.one 8 (by kernel_rfl) ?_
     refine St.alloc 8 5 rfl (wn rfl) rfl ze_49 fun b137 hb137 => ?_
     exact (hC ⟨b137, b138⟩ ⟨hb137, hb138⟩).use (by kernel_rfl) (.cons rfl (.cons rfl (.cons rfl (.cons rfl (.cons rfl (.cons rfl (.cons rfl (.cons rfl (.cons rfl (.cons rfl (.cons rfl (.cons rfl (.cons rfl (.cons rfl (.cons rfl (.cons rfl (.cons rfl .nil))))))))))))))))) (.cons rfl (.cons rfl .nil))
   intro u hu
   obtain ⟨b137, b138⟩ := u
   obtain ⟨hb137, hb138⟩ := hu
   replace hb137 : sz132 ≤ b137 := hb137
   replace hb138 : sz132 ≤ b138 := hb138
   show Dr _ _ _ _ _ _ _ _ _ (LF [(0, (.slice Ap0_0 (p0).length cp0_0)), (1, (.slice Ap1_0 (p1).length cp1_0)), (5, (iv x131)), (6, (.pointer (some ⟨b137, 0, none⟩))), (7, (.pointer (some ⟨b138, 0, none⟩))), (13, (iv x131)), (14, (.slice Ap0_0 (p0).length cp0_0)), (15, (iv (p0.length : Int))), (16, (.bool (decide (x131 < (p0.length : Int))))), (19, (.slice Ap0_0 (p0).length cp0_0)), (20, (iv x131)), (21, (.pointer (some ⟨adB Ap0_0, adO Ap0_0 + (x131).toNat * 8, none⟩))), (22, (.agg #[(iv x133.Kind), (sv x133.Name), (iv x133.At.X), (iv x133.At.Y), (.slice Au134_0 (x133.Points).length cu134_0), (iv x133.NX), (iv x133.NY), (.slice Au134_1 (x133.Steps).length cu134_1)])), (23, (.slice Ap1_0 (p1).length cp1_0)), (24, (iv x131)), (25, (.pointer (some ⟨adB Ap1_0, adO Ap1_0 + (x131).toNat * 8, none⟩))), (26, (.agg #[(iv x135.Kind), (sv x135.Name), (iv x135.At.X), (iv x135.At.Y), (.slice Au136_0 (x135.Points).length cu136_0), (iv x135.NX), (iv x135.NY), (.slice Au136_1 (x135.Steps).length cu136_1)]))]) (LE [(5, bx b137 #[(iv 0), (sv ⟨#[]⟩), (iv 0), (iv 0), (.slice none 0 0), (iv 0), (iv 0), (.slice none 0 0)] 49), (6, bx b138 #[(iv 0), (sv ⟨#[]⟩), (iv 0), (iv 0), (.slice none 0 0), (iv 0), (iv 0), (.slice none 0 0)] 49)])
   refine Dr.one 10 (by kernel_rfl) ?_
   refine St.store 10 5 (cs := [(iv x133.Kind), (sv x133.Name), (iv x133.At.X), (iv x133.At.Y), (.slice Au134_0 (x133.Points).length cu134_0), (iv x133.NX), (iv x133.NY), (.slice Au134_1 (x133.Steps).length cu134_1)]) [(iv x133.Kind), (sv x133.Name), (iv x133.At.X), (iv x133.At.Y), (.slice Au134_0 (x133.Points).length cu134_0), (iv x133.NX), (iv x133.NY), (.slice Au134_1 (x133.Steps).length cu134_1)] rfl (wn rfl) (.inr ⟨by simp, hb137⟩) rfl rfl rfl rfl sz_49 rfl rfl rfl ?_
   refine Dr.tail (by kernel_rfl) ?_
   refine Tr.store 6 (cs := [(iv x135.Kind), (sv x135.Name), (iv x135.At.X), (iv x135.At.Y), (.slice Au136_0 (x135.Points).length cu136_0), (iv x135.NX), (iv x135.NY), (.slice Au136_1 (x135.Steps).length cu136_1)]) [(iv x135.Kind), (sv x135.Name), (iv x135.At.X), (iv x135.At.Y), (.slice Au136_0 (x135.Points).length cu136_0), (iv x135.NX), (iv x135.NY), (.slice Au136_1 (x135.Steps).length cu136_1)] (wn rfl) rfl rfl rfl rfl sz_49 rfl rfl rfl ?_
   refine Tr.nil (Tr.normThen ?_)
   refine Tr.sr ?_
   refine Tr.va rfl (fun _ _ h1 h2 => run_fieldAddr fo_49_0 (h1.ev rfl)) ?_
   refine Tr.va rfl (fun _ _ h1 h2 => run_load1 ag_3 (h1.ev rfl) (rdb h2 (vs := [(iv x133.Kind), (sv x133.Name), (iv x133.At.X), (iv x133.At.Y), (.slice Au134_0 (x133.Points).length cu134_0), (iv x133.NX), (iv x133.NY), (.slice Au134_1 (x133.Steps).length cu134_1)]) (k := 5) rfl 0) rfl) ?_
   refine Tr.va rfl (fun _ _ h1 h2 => run_fieldAddr fo_49_0 (h1.ev rfl)) ?_
   refine Tr.va rfl (fun _ _ h1 h2 => run_load1 ag_3 (h1.ev rfl) (rdb h2 (vs := [(iv x135.Kind), (sv x135.Name), (iv x135.At.X), (iv x135.At.Y), (.slice Au136_0 (x135.Points).length cu136_0), (iv x135.NX), (iv x135.NY), (.slice Au136_1 (x135.Steps).length cu136_1)]) (k := 6) rfl 0) rfl) ?_
   refine Tr.va rfl (fun _ _ h1 h2 => run_neq (h1.ev rfl) (h1.ev rfl)) ?_
   refine Tr.mv rfl rfl ?_
   refine Tr.mid0 6 [(0, (.slice Ap0_0 (p0).length cp0_0)), (1, (.slice Ap1_0 (p1).length cp1_0)), (5, (iv x131)), (6, (.pointer (some ⟨b137, 0, none⟩))), (7, (.pointer (some ⟨b138, 0, none⟩))), (38, (.bool ((x133.Kind != x135.Kind) || (!sEq x133.Name x135.Name))))] [(5, bx b137 #[(iv x133.Kind), (sv x133.Name), (iv x133.At.X), (iv x133.At.Y), (.slice Au134_0 (x133.Points).length cu134_0), (iv x133.NX), (iv x133.NY), (.slice Au134_1 (x133.Steps).length cu134_1)] 49), (6, bx b138 #[(iv x135.Kind), (sv x135.Name), (iv x135.At.X), (iv x135.At.Y), (.slice Au136_0 (x135.Points).length cu136_0), (iv x135.NX), (iv x135.NY), (.slice Au136_1 (x135.Steps).length cu136_1)] 49)] ?_ ?_
   ·cases hg144 : (x133.Kind != x135.Kind)
    ·refine Tr.val (wg rfl rfl rfl) rfl (fun _ _ h1 h2 => run_fieldAddr fo_49_1 (h1.ev rfl)) ?_
     refine Tr.val (wg rfl rfl rfl) rfl (fun _ _ h1 h2 => run_load1 ag_9 (h1.ev rfl) (rdb h2 (vs := [(iv x133.Kind), (sv x133.Name), (iv x133.At.X), (iv x133.At.Y), (.slice Au134_0 (x133.Points).length cu134_0), (iv x133.NX), (iv x133.NY), (.slice Au134_1 (x133.Steps).length cu134_1)]) (k := 5) rfl 1) rfl) ?_
     refine Tr.val (wg rfl rfl rfl) rfl (fun _ _ h1 h2 => run_fieldAddr fo_49_1 (h1.ev rfl)) ?_
     refine Tr.val (wg rfl rfl rfl) rfl (fun _ _ h1 h2 => run_load1 ag_9 (h1.ev rfl) (rdb h2 (vs := [(iv x135.Kind), (sv x135.Name), (iv x135.At.X), (iv x135.At.Y), (.slice Au136_0 (x135.Points).length cu136_0), (iv x135.NX), (iv x135.NY), (.slice Au136_1 (x135.Steps).length cu136_1)]) (k := 6) rfl 1) rfl) ?_
     refine Tr.val (wg rfl rfl rfl) rfl (fun _ _ h1 h2 => run_neqS (h1.ev rfl) (h1.ev rfl)) ?_
     refine Tr.va rfl (fun _ _ h1 h2 => run_pickF (h1.ev rfl) (h1.ev rfl)) ?_
     exact Tr.nil (Tr.fin0 (.cons rfl (.cons rfl (.cons rfl (.cons rfl (.cons rfl (.cons rfl .nil)))))) (.cons rfl (.cons rfl .nil)))
    ·refine Tr.pass rfl rfl rfl rfl rfl (by decide) ?_
     refine Tr.pass rfl rfl rfl rfl rfl (by decide) ?_
     refine Tr.pass rfl rfl rfl rfl rfl (by decide) ?_
     refine Tr.pass rfl rfl rfl rfl rfl (by decide) ?_
     refine Tr.pass rfl rfl rfl rfl rfl (by decide) ?_
     refine Tr.va rfl (fun _ _ h1 h2 => run_pickT (h1.ev rfl) (h1.ev rfl)) ?_
     exact Tr.nil (Tr.fin0 (.cons rfl (.cons rfl (.cons rfl (.cons rfl (.cons rfl (.cons rfl .nil)))))) (.cons rfl (.cons rfl .nil)))
   ·show Tr _ _ (LF [(0, (.slice Ap0_0 (p0).length cp0_0)), (1, (.slice Ap1_0 (p1).length cp1_0)), (5, (iv x131)), (6, (.pointer (some ⟨b137, 0, none⟩))), (7, (.pointer (some ⟨b138, 0, none⟩))), (38, (.bool ((x133.Kind != x135.Kind) || (!sEq x133.Name x135.Name))))]) (LE [(5, bx b137 #[(iv x133.Kind), (sv x133.Name), (iv x133.At.X), (iv x133.At.Y), (.slice Au134_0 (x133.Points).length cu134_0), (iv x133.NX), (iv x133.NY), (.slice Au134_1 (x133.Steps).length cu134_1)] 49), (6, bx b138 #[(iv x135.Kind), (sv x135.Name), (iv x135.At.X), (iv x135.At.Y), (.slice Au136_0 (x135.Points).length cu136_0), (iv x135.NX), (iv x135.NY), (.slice Au136_1 (x135.Steps).length cu136_1)] 49)]) _
    refine Tr.mv rfl rfl ?_
    refine Tr.mid0 6 [(0, (.slice Ap0_0 (p0).length cp0_0)), (1, (.slice Ap1_0 (p1).length cp1_0)), (5, (iv x131)), (6, (.pointer (some ⟨b137, 0, none⟩))), (7, (.pointer (some ⟨b138, 0, none⟩))), (45, (.bool (((x133.Kind != x135.Kind) || (!sEq x133.Name x135.Name)) || (!(eqTPoint x133.At x135.At)))))] [(5, bx b137 #[(iv x133.Kind), (sv x133.Name), (iv x133.At.X), (iv x133.At.Y), (.slice Au134_0 (x133.Points).length cu134_0), (iv x133.NX), (iv x133.NY), (.slice Au134_1 (x133.Steps).length cu134_1)] 49), (6, bx b138 #[(iv x135.Kind), (sv x135.Name), (iv x135.At.X), (iv x135.At.Y), (.slice Au136_0 (x135.Points).length cu136_0), (iv x135.NX), (iv x135.NY), (.slice Au136_1 (x135.Steps).length cu136_1)] 49)] ?_ ?_
    ·cases hg144 : ((x133.Kind != x135.Kind) || (!sEq x133.Name x135.Name))
     ·refine Tr.val (wg rfl rfl rfl) rfl (fun _ _ h1 h2 => run_fieldAddr fo_49_2 (h1.ev rfl)) ?_
      refine Tr.val (wg rfl rfl rfl) rfl (fun _ _ h1 h2 => run_loadN (cs := [(iv x133.At.X), (iv x133.At.Y)]) ag_42 sz_42 (h1.ev rfl) (CellsAt.take (rdb h2 (vs := [(iv x133.Kind), (sv x133.Name), (iv x133.At.X), (iv x133.At.Y), (.slice Au134_0 (x133.Points).length cu134_0), (iv x133.NX), (iv x133.NY), (.slice Au134_1 (x133.Steps).length cu134_1)]) (k := 5) rfl 2) 2) rfl) ?_
      refine Tr.val (wg rfl rfl rfl) rfl (fun _ _ h1 h2 => run_fieldAddr fo_49_2 (h1.ev rfl)) ?_
      refine Tr.val (wg rfl rfl rfl) rfl (fun _ _ h1 h2 => run_loadN (cs := [(iv x135.At.X), (iv x135.At.Y)]) ag_42 sz_42 (h1.ev rfl) (CellsAt.take (rdb h2 (vs := [(iv x135.Kind), (sv x135.Name), (iv x135.At.X), (iv x135.At.Y), (.slice Au136_0 (x135.Points).length cu136_0), (iv x135.NX), (iv x135.NY), (.slice Au136_1 (x135.Steps).length cu136_1)]) (k := 6) rfl 2) 2) rfl) ?_
      refine Tr.val (wg rfl rfl rfl) rfl (fun _ _ h1 h2 => run_neq_42 x133.At x135.At (h1.ev rfl) (h1.ev rfl)) ?_
      refine Tr.va rfl (fun _ _ h1 h2 => run_pickF (h1.ev rfl) (h1.ev rfl)) ?_
      exact Tr.nil (Tr.fin0 (.cons rfl (.cons rfl (.cons rfl (.cons rfl (.cons rfl (.cons rfl .nil)))))) (.cons rfl (.cons rfl .nil)))
     ·refine Tr.pass rfl rfl rfl rfl rfl (by decide) ?_
      refine Tr.pass rfl rfl rfl rfl rfl (by decide) ?_
      refine Tr.pass rfl rfl rfl rfl rfl (by decide) ?_
      refine Tr.pass rfl rfl rfl rfl rfl (by decide) ?_
      refine Tr.pass rfl rfl rfl rfl rfl (by decide) ?_
      refine Tr.va rfl (fun _ _ h1 h2 => run_pickT (h1.ev rfl) (h1.ev rfl)) ?_
      exact Tr.nil (Tr.fin0 (.cons rfl (.cons rfl (.cons rfl (.cons rfl (.cons rfl (.cons rfl .nil)))))) (.cons rfl (.cons rfl .nil)))
    ·show Tr _ _ (LF [(0, (.slice Ap0_0 (p0).length cp0_0)), (1, (.slice Ap1_0 (p1).length cp1_0)), (5, (iv x131)), (6, (.pointer (some ⟨b137, 0, none⟩))), (7, (.pointer (some ⟨b138, 0, none⟩))), (45, (.bool (((x133.Kind != x135.Kind) || (!sEq x133.Name x135.Name)) || (!(eqTPoint x133.At x135.At)))))]) (LE [(5, bx b137 #[(iv x133.Kind), (sv x133.Name), (iv x133.At.X), (iv x133.At.Y), (.slice Au134_0 (x133.Points).length cu134_0), (iv x133.NX), (iv x133.NY), (.slice Au134_1 (x133.Steps).length cu134_1)] 49), (6, bx b138 #[(iv x135.Kind), (sv x135.Name), (iv x135.At.X), (iv x135.At.Y), (.slice Au136_0 (x135.Points).length cu136_0), (iv x135.NX), (iv x135.NY), (.slice Au136_1 (x135.Steps).length cu136_1)] 49)]) _
     refine Tr.mv rfl rfl ?_
     refine Tr.mid0 6 [(0, (.slice Ap0_0 (p0).length cp0_0)), (1, (.slice Ap1_0 (p1).length cp1_0)), (5, (iv x131)), (6, (.pointer (some ⟨b137, 0, none⟩))), (7, (.pointer (some ⟨b138, 0, none⟩))), (52, (.bool ((((x133.Kind != x135.Kind) || (!sEq x133.Name x135.Name)) || (!(eqTPoint x133.At x135.At))) || (x133.NX != x135.NX))))] [(5, bx b137 #[(iv x133.Kind), (sv x133.Name), (iv x133.At.X), (iv x133.At.Y), (.slice Au134_0 (x133.Points).length cu134_0), (iv x133.NX), (iv x133.NY), (.slice Au134_1 (x133.Steps).length cu134_1)] 49), (6, bx b138 #[(iv x135.Kind), (sv x135.Name), (iv x135.At.X), (iv x135.At.Y), (.slice Au136_0 (x135.Points).length cu136_0), (iv x135.NX), (iv x135.NY), (.slice Au136_1 (x135.Steps).length cu136_1)] 49)] ?_ ?_
     ·cases hg144 : (((x133.Kind != x135.Kind) || (!sEq x133.Name x135.Name)) || (!(eqTPoint x133.At x135.At)))
      ·refine Tr.val (wg rfl rfl rfl) rfl (fun _ _ h1 h2 => run_fieldAddr fo_49_4 (h1.ev rfl)) ?_
       refine Tr.val (wg rfl rfl rfl) rfl (fun _ _ h1 h2 => run_load1 ag_3 (h1.ev rfl) (rdb h2 (vs := [(iv x133.Kind), (sv x133.Name), (iv x133.At.X), (iv x133.At.Y), (.slice Au134_0 (x133.Points).length cu134_0), (iv x133.NX), (iv x133.NY), (.slice Au134_1 (x133.Steps).length cu134_1)]) (k := 5) rfl 5) rfl) ?_
       refine Tr.val (wg rfl rfl rfl) rfl (fun _ _ h1 h2 => run_fieldAddr fo_49_4 (h1.ev rfl)) ?_
       refine Tr.val (wg rfl rfl rfl) rfl (fun _ _ h1 h2 => run_load1 ag_3 (h1.ev rfl) (rdb h2 (vs := [(iv x135.Kind), (sv x135.Name), (iv x135.At.X), (iv x135.At.Y), (.slice Au136_0 (x135.Points).length cu136_0), (iv x135.NX), (iv x135.NY), (.slice Au136_1 (x135.Steps).length cu136_1)]) (k := 6) rfl 5) rfl) ?_
       refine Tr.val (wg rfl rfl rfl) rfl (fun _ _ h1 h2 => run_neq (h1.ev rfl) (h1.ev rfl)) ?_
       refine Tr.va rfl (fun _ _ h1 h2 => run_pickF (h1.ev rfl) (h1.ev rfl)) ?_
       exact Tr.nil (Tr.fin0 (.cons rfl (.cons rfl (.cons rfl (.cons rfl (.cons rfl (.cons rfl .nil)))))) (.cons rfl (.cons rfl .nil)))
      ·refine Tr.pass rfl rfl rfl rfl rfl (by decide) ?_
       refine Tr.pass rfl rfl rfl rfl rfl (by decide) ?_
       refine Tr.pass rfl rfl rfl rfl rfl (by decide) ?_
       refine Tr.pass rfl rfl rfl rfl rfl (by decide) ?_
       refine Tr.pass rfl rfl rfl rfl rfl (by decide) ?_
       refine Tr.va rfl (fun _ _ h1 h2 => run_pickT (h1.ev rfl) (h1.ev rfl)) ?_
       exact Tr.nil (Tr.fin0 (.cons rfl (.cons rfl (.cons rfl (.cons rfl (.cons rfl (.cons rfl .nil)))))) (.cons rfl (.cons rfl .nil)))
     ·show Tr _ _ (LF [(0, (.slice Ap0_0 (p0).length cp0_0)), (1, (.slice Ap1_0 (p1).length cp1_0)), (5, (iv x131)), (6, (.pointer (some ⟨b137, 0, none⟩))), (7, (.pointer (some ⟨b138, 0, none⟩))), (52, (.bool ((((x133.Kind != x135.Kind) || (!sEq x133.Name x135.Name)) || (!(eqTPoint x133.At x135.At))) || (x133.NX != x135.NX))))]) (LE [(5, bx b137 #[(iv x133.Kind), (sv x133.Name), (iv x133.At.X), (iv x133.At.Y), (.slice Au134_0 (x133.Points).length cu134_0), (iv x133.NX), (iv x133.NY), (.slice Au134_1 (x133.Steps).length cu134_1)] 49), (6, bx b138 #[(iv x135.Kind), (sv x135.Name), (iv x135.At.X), (iv x135.At.Y), (.slice Au136_0 (x135.Points).length cu136_0), (iv x135.NX), (iv x135.NY), (.slice Au136_1 (x135.Steps).length cu136_1)] 49)]) _
      refine Tr.mv rfl rfl ?_
      refine Tr.mid0 6 [(0, (.slice Ap0_0 (p0).length cp0_0)), (1, (.slice Ap1_0 (p1).length cp1_0)), (5, (iv x131)), (6, (.pointer (some ⟨b137, 0, none⟩))), (7, (.pointer (some ⟨b138, 0, none⟩))), (59, (.bool (((((x133.Kind != x135.Kind) || (!sEq x133.Name x135.Name)) || (!(eqTPoint x133.At x135.At))) || (x133.NX != x135.NX)) || (x133.NY != x135.NY))))] [(5, bx b137 #[(iv x133.Kind), (sv x133.Name), (iv x133.At.X), (iv x133.At.Y), (.slice Au134_0 (x133.Points).length cu134_0), (iv x133.NX), (iv x133.NY), (.slice Au134_1 (x133.Steps).length cu134_1)] 49), (6, bx b138 #[(iv x135.Kind), (sv x135.Name), (iv x135.At.X), (iv x135.At.Y), (.slice Au136_0 (x135.Points).length cu136_0), (iv x135.NX), (iv x135.NY), (.slice Au136_1 (x135.Steps).length cu136_1)] 49)] ?_ ?_
      ·cases hg144 : ((((x133.Kind != x135.Kind) || (!sEq x133.Name x135.Name)) || (!(eqTPoint x133.At x135.At))) || (x133.NX != x135.NX))
       ·refine Tr.val (wg rfl rfl rfl) rfl (fun _ _ h1 h2 => run_fieldAddr fo_49_5 (h1.ev rfl)) ?_
        refine Tr.val (wg rfl rfl rfl) rfl (fun _ _ h1 h2 => run_load1 ag_3 (h1.ev rfl) (rdb h2 (vs := [(iv x133.Kind), (sv x133.Name), (iv x133.At.X), (iv x133.At.Y), (.slice Au134_0 (x133.Points).length cu134_0), (iv x133.NX), (iv x133.NY), (.slice Au134_1 (x133.Steps).length cu134_1)]) (k := 5) rfl 6) rfl) ?_
        refine Tr.val (wg rfl rfl rfl) rfl (fun _ _ h1 h2 => run_fieldAddr fo_49_5 (h1.ev rfl)) ?_
        refine Tr.val (wg rfl rfl rfl) rfl (fun _ _ h1 h2 => run_load1 ag_3 (h1.ev rfl) (rdb h2 (vs := [(iv x135.Kind), (sv x135.Name), (iv x135.At.X), (iv x135.At.Y), (.slice Au136_0 (x135.Points).length cu136_0), (iv x135.NX), (iv x135.NY), (.slice Au136_1 (x135.Steps).length cu136_1)]) (k := 6) rfl 6) rfl) ?_
        refine Tr.val (wg rfl rfl rfl) rfl (fun _ _ h1 h2 => run_neq (h1.ev rfl) (h1.ev rfl)) ?_
        refine Tr.va rfl (fun _ _ h1 h2 => run_pickF (h1.ev rfl) (h1.ev rfl)) ?_
        exact Tr.nil (Tr.fin0 (.cons rfl (.cons rfl (.cons rfl (.cons rfl (.cons rfl (.cons rfl .nil)))))) (.cons rfl (.cons rfl .nil)))
       ·refine Tr.pass rfl rfl rfl rfl rfl (by decide) ?_
        refine Tr.pass rfl rfl rfl rfl rfl (by decide) ?_
        refine Tr.pass rfl rfl rfl rfl rfl (by decide) ?_
        refine Tr.pass rfl rfl rfl rfl rfl (by decide) ?_
        refine Tr.pass rfl rfl rfl rfl rfl (by decide) ?_
        refine Tr.va rfl (fun _ _ h1 h2 => run_pickT (h1.ev rfl) (h1.ev rfl)) ?_
        exact Tr.nil (Tr.fin0 (.cons rfl (.cons rfl (.cons rfl (.cons rfl (.cons rfl (.cons rfl .nil)))))) (.cons rfl (.cons rfl .nil)))
      ·show Tr _ _ (LF [(0, (.slice Ap0_0 (p0).length cp0_0)), (1, (.slice Ap1_0 (p1).length cp1_0)), (5, (iv x131)), (6, (.pointer (some ⟨b137, 0, none⟩))), (7, (.pointer (some ⟨b138, 0, none⟩))), (59, (.bool (((((x133.Kind != x135.Kind) || (!sEq x133.Name x135.Name)) || (!(eqTPoint x133.At x135.At))) || (x133.NX != x135.NX)) || (x133.NY != x135.NY))))]) (LE [(5, bx b137 #[(iv x133.Kind), (sv x133.Name), (iv x133.At.X), (iv x133.At.Y), (.slice Au134_0 (x133.Points).length cu134_0), (iv x133.NX), (iv x133.NY), (.slice Au134_1 (x133.Steps).length cu134_1)] 49), (6, bx b138 #[(iv x135.Kind), (sv x135.Name), (iv x135.At.X), (iv x135.At.Y), (.slice Au136_0 (x135.Points).length cu136_0), (iv x135.NX), (iv x135.NY), (.slice Au136_1 (x135.Steps).length cu136_1)] 49)]) _
       refine Tr.mv rfl rfl ?_
       obtain ⟨g140, hg140, H⟩ := bnd H
       refine Tr.mid0 7 [(0, (.slice Ap0_0 (p0).length cp0_0)), (1, (.slice Ap1_0 (p1).length cp1_0)), (5, (iv x131)), (6, (.pointer (some ⟨b137, 0, none⟩))), (7, (.pointer (some ⟨b138, 0, none⟩))), (67, (.bool g140))] [(5, bx b137 #[(iv x133.Kind), (sv x133.Name), (iv x133.At.X), (iv x133.At.Y), (.slice Au134_0 (x133.Points).length cu134_0), (iv x133.NX), (iv x133.NY), (.slice Au134_1 (x133.Steps).length cu134_1)] 49), (6, bx b138 #[(iv x135.Kind), (sv x135.Name), (iv x135.At.X), (iv x135.At.Y), (.slice Au136_0 (x135.Points).length cu136_0), (iv x135.NX), (iv x135.NY), (.slice Au136_1 (x135.Steps).length cu136_1)] 49)] ?_ ?_
       ·cases hg144 : (((((x133.Kind != x135.Kind) || (!sEq x133.Name x135.Name)) || (!(eqTPoint x133.At x135.At))) || (x133.NX != x135.NX)) || (x133.NY != x135.NY))
        ·rw [hg144] at hg140
         rw [if_neg (by decide)] at hg140
         have H := hg140
         refine Tr.val (wg rfl rfl rfl) rfl (fun _ _ h1 h2 => run_fieldAddr fo_49_3 (h1.ev rfl)) ?_
         refine Tr.val (wg rfl rfl rfl) rfl (fun _ _ h1 h2 => run_load1 ag_47 (h1.ev rfl) (rdb h2 (vs := [(iv x133.Kind), (sv x133.Name), (iv x133.At.X), (iv x133.At.Y), (.slice Au134_0 (x133.Points).length cu134_0), (iv x133.NX), (iv x133.NY), (.slice Au134_1 (x133.Steps).length cu134_1)]) (k := 5) rfl 4) rfl) ?_
         refine Tr.val (wg rfl rfl rfl) rfl (fun _ _ h1 h2 => run_fieldAddr fo_49_3 (h1.ev rfl)) ?_
         refine Tr.val (wg rfl rfl rfl) rfl (fun _ _ h1 h2 => run_load1 ag_47 (h1.ev rfl) (rdb h2 (vs := [(iv x135.Kind), (sv x135.Name), (iv x135.At.X), (iv x135.At.Y), (.slice Au136_0 (x135.Points).length cu136_0), (iv x135.NX), (iv x135.NY), (.slice Au136_1 (x135.Steps).length cu136_1)]) (k := 6) rfl 4) rfl) ?_
         obtain ⟨y141, hy141, H⟩ := bnd H
         refine Tr.call0 (r := (.bool y141)) (wg rfl rfl rfl) rfl Tryz.call61 (evl_cons rfl (evl_cons rfl evl_nil)) (fun W hW => F_etchhouseref3_samePoints_ok N x133.Points Au134_0 cu134_0 (hoku134_0.ext hW.extAll) x135.Points Au136_0 cu136_0 (hoku136_0.ext hW.extAll) y141 hy141 (HF.start _)) ?_
         refine Tr.val (wg rfl rfl rfl) rfl (fun _ _ h1 h2 => run_not (h1.ev rfl)) ?_
         refine Tr.va rfl (fun _ _ h1 h2 => run_pickF (h1.ev rfl) (h1.ev rfl)) ?_
         obtain rfl := Option.some.inj H
         exact Tr.nil (Tr.fin0 (.cons rfl (.cons rfl (.cons rfl (.cons rfl (.cons rfl (.cons rfl .nil)))))) (.cons rfl (.cons rfl .nil)))
        ·rw [hg144] at hg140
         rw [if_pos rfl] at hg140
         have H := hg140
         obtain rfl := Option.some.inj H
         refine Tr.pass rfl rfl rfl rfl rfl (by decide) ?_
         refine Tr.pass rfl rfl rfl rfl rfl (by decide) ?_
         refine Tr.pass rfl rfl rfl rfl rfl (by decide) ?_
         refine Tr.pass rfl rfl rfl rfl rfl (by decide) ?_
         refine Tr.pass rfl rfl rfl rfl rfl (by decide) ?_
         refine Tr.pass rfl rfl rfl rfl rfl (by decide) ?_
         refine Tr.va rfl (fun _ _ h1 h2 => run_pickT (h1.ev rfl) (h1.ev rfl)) ?_
         exact Tr.nil (Tr.fin0 (.cons rfl (.cons rfl (.cons rfl (.cons rfl (.cons rfl (.cons rfl .nil)))))) (.cons rfl (.cons rfl .nil)))
       ·show Tr _ _ (LF [(0, (.slice Ap0_0 (p0).length cp0_0)), (1, (.slice Ap1_0 (p1).length cp1_0)), (5, (iv x131)), (6, (.pointer (some ⟨b137, 0, none⟩))), (7, (.pointer (some ⟨b138, 0, none⟩))), (67, (.bool g140))]) (LE [(5, bx b137 #[(iv x133.Kind), (sv x133.Name), (iv x133.At.X), (iv x133.At.Y), (.slice Au134_0 (x133.Points).length cu134_0), (iv x133.NX), (iv x133.NY), (.slice Au134_1 (x133.Steps).length cu134_1)] 49), (6, bx b138 #[(iv x135.Kind), (sv x135.Name), (iv x135.At.X), (iv x135.At.Y), (.slice Au136_0 (x135.Points).length cu136_0), (iv x135.NX), (iv x135.NY), (.slice Au136_1 (x135.Steps).length cu136_1)] 49)]) _
        refine Tr.mv rfl rfl ?_
        obtain ⟨g143, hg143, H⟩ := bnd H
        refine Tr.mid0 7 [(0, (.slice Ap0_0 (p0).length cp0_0)), (1, (.slice Ap1_0 (p1).length cp1_0)), (5, (iv x131)), (75, (.bool g143))] [(5, bx b137 #[(iv x133.Kind), (sv x133.Name), (iv x133.At.X), (iv x133.At.Y), (.slice Au134_0 (x133.Points).length cu134_0), (iv x133.NX), (iv x133.NY), (.slice Au134_1 (x133.Steps).length cu134_1)] 49), (6, bx b138 #[(iv x135.Kind), (sv x135.Name), (iv x135.At.X), (iv x135.At.Y), (.slice Au136_0 (x135.Points).length cu136_0), (iv x135.NX), (iv x135.NY), (.slice Au136_1 (x135.Steps).length cu136_1)] 49)] ?_ ?_
        ·cases hg144 : g140
         ·rw [hg144] at hg143
          rw [if_neg (by decide)] at hg143
          have H := hg143
          refine Tr.val (wg rfl rfl rfl) rfl (fun _ _ h1 h2 => run_fieldAddr fo_49_6 (h1.ev rfl)) ?_
          refine Tr.val (wg rfl rfl rfl) rfl (fun _ _ h1 h2 => run_load1 ag_23 (h1.ev rfl) (rdb h2 (vs := [(iv x133.Kind), (sv x133.Name), (iv x133.At.X), (iv x133.At.Y), (.slice Au134_0 (x133.Points).length cu134_0), (iv x133.NX), (iv x133.NY), (.slice Au134_1 (x133.Steps).length cu134_1)]) (k := 5) rfl 7) rfl) ?_
          refine Tr.val (wg rfl rfl rfl) rfl (fun _ _ h1 h2 => run_fieldAddr fo_49_6 (h1.ev rfl)) ?_
          refine Tr.val (wg rfl rfl rfl) rfl (fun _ _ h1 h2 => run_load1 ag_23 (h1.ev rfl) (rdb h2 (vs := [(iv x135.Kind), (sv x135.Name), (iv x135.At.X), (iv x135.At.Y), (.slice Au136_0 (x135.Points).length cu136_0), (iv x135.NX), (iv x135.NY), (.slice Au136_1 (x135.Steps).length cu136_1)]) (k := 6) rfl 7) rfl) ?_
          obtain ⟨y144, hy144, H⟩ := bnd H
          refine Tr.call0 (r := (.bool y144)) (wg rfl rfl rfl) rfl Tryz.call27 (evl_cons rfl (evl_cons rfl evl_nil)) (fun W hW => hrec x133.Steps Au134_1 cu134_1 (hoku134_1.ext hW.extAll) x135.Steps Au136_1 cu136_1 (hoku136_1.ext hW.extAll) y144 hy144 (HF.start _)) ?_
          refine Tr.val (wg rfl rfl rfl) rfl (fun _ _ h1 h2 => run_not (h1.ev rfl)) ?_
          refine Tr.va rfl (fun _ _ h1 h2 => run_pickF (h1.ev rfl) (h1.ev rfl)) ?_
          obtain rfl := Option.some.inj H
          exact Tr.nil (Tr.fin0 (.cons rfl (.cons rfl (.cons rfl (.cons rfl .nil)))) (.cons rfl (.cons rfl .nil)))
         ·rw [hg144] at hg143
          rw [if_pos rfl] at hg143
          have H := hg143
          obtain rfl := Option.some.inj H
          refine Tr.pass rfl rfl rfl rfl rfl (by decide) ?_
          refine Tr.pass rfl rfl rfl rfl rfl (by decide) ?_
          refine Tr.pass rfl rfl rfl rfl rfl (by decide) ?_
          refine Tr.pass rfl rfl rfl rfl rfl (by decide) ?_
          refine Tr.pass rfl rfl rfl rfl rfl (by decide) ?_
          refine Tr.pass rfl rfl rfl rfl rfl (by decide) ?_
          refine Tr.va rfl (fun _ _ h1 h2 => run_pickT (h1.ev rfl) (h1.ev rfl)) ?_
          exact Tr.nil (Tr.fin0 (.cons rfl (.cons rfl (.cons rfl (.cons rfl .nil)))) (.cons rfl (.cons rfl .nil)))
        ·show Tr _ _ (LF [(0, (.slice Ap0_0 (p0).length cp0_0)), (1, (.slice Ap1_0 (p1).length cp1_0)), (5, (iv x131)), (75, (.bool g143))]) (LE [(5, bx b137 #[(iv x133.Kind), (sv x133.Name), (iv x133.At.X), (iv x133.At.Y), (.slice Au134_0 (x133.Points).length cu134_0), (iv x133.NX), (iv x133.NY), (.slice Au134_1 (x133.Steps).length cu134_1)] 49), (6, bx b138 #[(iv x135.Kind), (sv x135.Name), (iv x135.At.X), (iv x135.At.Y), (.slice Au136_0 (x135.Points).length cu136_0), (iv x135.NX), (iv x135.NY), (.slice Au136_1 (x135.Steps).length cu136_1)] 49)]) _
         refine Tr.nil (Tr.normThen ?_)
         refine Tr.cond rfl H (fun H => ?_) (fun H => ?_)
         ·refine Tr.sr ?_
          refine Tr.asg rfl rfl ?_
          refine Tr.nil (Tr.normThen ?_)
          refine Tr.ret (Tr.retBlock (Tr.retThen (Tr.retThen (Tr.retBlock (Tr.retThen ?_)))))
          obtain rfl := Option.some.inj H
          exact Tr.out (m := [(.bool false)]) [] (res_tmp rfl res_nil) (fun W hW => ⟨rfl, hW.low leB⟩)
         ·refine Tr.skip (Tr.normBlock (Tr.normThen ?_))
          refine Tr.region ?_
          refine Tr.mv rfl rfl ?_
          refine Tr.va rfl (fun _ _ h1 h2 => run_add (h1.ev rfl) (h1.ev rfl)) ?_
          refine Tr.asg rfl rfl ?_
          refine Tr.nil ?_
          exact Tr.backThen leL1 (w64 (x131 + 1)) H (.cons rfl (.cons rfl (.cons rfl .nil))) .nil
  ·refine Tr.exit (Tr.exitThen (Tr.exitThen (Tr.exitBlock (Tr.normThen ?_))))
   refine Tr.sr ?_
   refine Tr.asg rfl rfl ?_
   refine Tr.nil (Tr.normThen ?_)
   refine Tr.ret ?_
   obtain rfl := Option.some.inj H
   exact Tr.out (m := [(.bool true)]) [] (res_tmp rfl res_nil) (fun W hW => ⟨rfl, hW.low leB⟩)
theorem F_etchhouseref3_sameSteps_ok : ∀ (N : Nat) {w : Bs} (p0 : (List TPlotStep)) (Ap0_0 : Option Addr) (cp0_0 : Nat) (hp0_0 : Sl w.R w.W fl_TPlotStep Ap0_0 cp0_0 p0) (p1 : (List TPlotStep)) (Ap1_0 : Option Addr) (cp1_0 : Nat) (hp1_0 : Sl w.R w.W fl_TPlotStep Ap1_0 cp1_0 p1) (r : Bool) (H : F_etchhouseref3_sameSteps N p0 p1 = some r) (hE : HF w w.W E0), Calls Tryz.prog 27 [(.slice Ap0_0 (p0).length cp0_0), (.slice Ap1_0 (p1).length cp1_0)].toArray w.W fun e W' => e = .returned (.bool r) ∧ HF w W' E0
 | 0 => by intros; rename_i H _; cases H
 | N + 1 => F_etchhouseref3_sameSteps_b_ok N (F_etchhouseref3_sameSteps N) (F_etchhouseref3_sameSteps_ok N)

theorem F_etchhouseref1_SameRects_ok (N : Nat) {w : Bs} (p0 : (List TRect)) (Ap0_0 : Option Addr) (cp0_0 : Nat) (hp0_0 : Sl w.R w.W fl_TRect Ap0_0 cp0_0 p0) (p1 : (List TRect)) (Ap1_0 : Option Addr) (cp1_0 : Nat) (hp1_0 : Sl w.R w.W fl_TRect Ap1_0 cp1_0 p1) (r : Bool) (H : F_etchhouseref1_SameRects N p0 p1 = some r) (hE : HF w w.W E0) : Calls Tryz.prog 28 [(.slice Ap0_0 (p0).length cp0_0), (.slice Ap1_0 (p1).length cp1_0)].toArray w.W fun e W' => e = .returned (.bool r) ∧ HF w W' E0 := by
 unfold F_etchhouseref1_SameRects at H
 have leB := Bs.Le.refl w
 refine Tr.enter (n := 26) Tryz.func28 rfl rfl rfl hE ?_
 refine Tr.sr ?_
 refine Tr.asg rfl rfl ?_
 refine Tr.nil (Tr.normThen ?_)
 refine Tr.seq ?_
 refine Tr.sr ?_
 refine Tr.mv rfl rfl ?_
 refine Tr.va rfl (fun _ _ h1 h2 => run_len un_52 (h1.ev rfl)) ?_
 refine Tr.mv rfl rfl ?_
 refine Tr.va rfl (fun _ _ h1 h2 => run_len un_52 (h1.ev rfl)) ?_
 refine Tr.va rfl (fun _ _ h1 h2 => run_neq (h1.ev rfl) (h1.ev rfl)) ?_
 refine Tr.nil (Tr.normThen ?_)
 refine Tr.cond rfl H (fun H => ?_) (fun H => ?_)
 ·refine Tr.sr ?_
  refine Tr.asg rfl rfl ?_
  refine Tr.nil (Tr.normThen ?_)
  refine Tr.ret (Tr.retThen ?_)
  obtain rfl := Option.some.inj H
  exact Tr.out (m := [(.bool false)]) [] (res_tmp rfl res_nil) (fun W hW => ⟨rfl, hW.low leB⟩)
 ·refine Tr.skip (Tr.normThen ?_)
  refine Tr.seq ?_
  refine Tr.sr ?_
  refine Tr.asg rfl rfl ?_
  refine Tr.nil (Tr.normThen ?_)
  refine Tr.block ?_
  refine Tr.loop (σ := Int) (fun m w s => F_etchhouseref1_SameRects_L1 p0 p1 m s = some r) (fun s => [(0, (.slice Ap0_0 (p0).length cp0_0)), (1, (.slice Ap1_0 (p1).length cp1_0)), (5, (iv s))]) (fun s => []) N 0 H (.cons rfl (.cons rfl (.cons rfl .nil))) .nil (fun _ _ h => noSome (h)) ?_
  intro w leL1 mL1 x107 hs
  have H := hs
  replace H : F_etchhouseref1_SameRects_L1 p0 p1 (mL1 + 1) x107 = some r := H
  replace hp0_0 := hp0_0.leR leL1
  replace hp1_0 := hp1_0.leR leL1
  replace leB := leB.trans leL1
  rw [F_etchhouseref1_SameRects_L1.eq_2] at H
  show Tr _ _ (LF [(0, (.slice Ap0_0 (p0).length cp0_0)), (1, (.slice Ap1_0 (p1).length cp1_0)), (5, (iv x107))]) (LE []) _
  refine Tr.seq ?_
  refine Tr.sr ?_
  refine Tr.mv rfl rfl ?_
  refine Tr.mv rfl rfl ?_
  refine Tr.va rfl (fun _ _ h1 h2 => run_len un_52 (h1.ev rfl)) ?_
  refine Tr.va rfl (fun _ _ h1 h2 => run_lss (h1.ev rfl) (h1.ev rfl)) ?_
  refine Tr.nil (Tr.normThen ?_)
  refine Tr.cond rfl H (fun H => ?_) (fun H => ?_)
  ·refine Tr.skip (Tr.normThen ?_)
   refine Tr.seq ?_
   refine Tr.block ?_
   refine Tr.seq ?_
   refine Tr.draw (by kernel_rfl) (by kernel_rfl) ?_
   refine Tq.mv rfl rfl ?_
   refine Tq.mv rfl rfl ?_
   obtain ⟨x108, hx108, H⟩ := bnd H
   obtain ⟨hx1080, hx1081, hx1082⟩ := idx_some hx108
   refine Tq.va rfl (fun _ _ h1 h2 => run_indexAddr el_52 (h1.ev rfl) hp0_0.form (h1.ev rfl) hx1080 hx1081) ?_
   refine Tq.va rfl (fun _ _ h1 h2 => run_loadN (cs := [(iv x108.X0), (iv x108.Y0), (iv x108.X1), (iv x108.Y1)]) ag_66 sz_66 (h1.ev rfl) (CellsAt.take (rdF ef_TRect hp0_0 hx1082 h2) 4) rfl) ?_
   refine Tq.mv rfl rfl ?_
   refine Tq.mv rfl rfl ?_
   obtain ⟨x109, hx109, H⟩ := bnd H
   obtain ⟨hx1090, hx1091, hx1092⟩ := idx_some hx109
   refine Tq.va rfl (fun _ _ h1 h2 => run_indexAddr el_52 (h1.ev rfl) hp1_0.form (h1.ev rfl) hx1090 hx1091) ?_
   refine Tq.va rfl (fun _ _ h1 h2 => run_loadN (cs := [(iv x109.X0), (iv x109.Y0), (iv x109.X1), (iv x109.Y1)]) ag_66 sz_66 (h1.ev rfl) (CellsAt.take (rdF ef_TRect hp1_0 hx1092 h2) 4) rfl) ?_
   refine Tq.va rfl (fun _ _ h1 h2 => run_neq_66 x108 x109 (h1.ev rfl) (h1.ev rfl)) ?_
   refine Tq.nil (Tr.normThen ?_)
   refine Tr.cond rfl H (fun H => ?_) (fun H => ?_)
   ·refine Tr.sr ?_
    refine Tr.asg rfl rfl ?_
    refine Tr.nil (Tr.normThen ?_)
    refine Tr.ret (Tr.retBlock (Tr.retThen (Tr.retThen (Tr.retBlock (Tr.retThen ?_)))))
    obtain rfl := Option.some.inj H
    exact Tr.out (m := [(.bool false)]) [] (res_tmp rfl res_nil) (fun W hW => ⟨rfl, hW.low leB⟩)
   ·refine Tr.skip (Tr.normBlock (Tr.normThen ?_))
    refine Tr.region ?_
    refine Tr.mv rfl rfl ?_
    refine Tr.va rfl (fun _ _ h1 h2 => run_add (h1.ev rfl) (h1.ev rfl)) ?_
    refine Tr.asg rfl rfl ?_
    refine Tr.nil ?_
    exact Tr.backThen leL1 (w64 (x107 + 1)) H (.cons rfl (.cons rfl (.cons rfl .nil))) .nil
  ·refine Tr.exit (Tr.exitThen (Tr.exitThen (Tr.exitBlock (Tr.normThen ?_))))
   refine Tr.sr ?_
   refine Tr.asg rfl rfl ?_
   refine Tr.nil (Tr.normThen ?_)
   refine Tr.ret ?_
   obtain rfl := Option.some.inj H
   exact Tr.out (m := [(.bool true)]) [] (res_tmp rfl res_nil) (fun W hW => ⟨rfl, hW.low leB⟩)

theorem F_etchhouseref3_SamePlot_ok (N : Nat) {w : Bs} (p0 : TPlot) (Ap0_0 : Option Addr) (cp0_0 : Nat) (hp0_0 : Sl w.R w.W fl_TPlotTool Ap0_0 cp0_0 p0.Tools) (Ap0_1 : Option Addr) (cp0_1 : Nat) (hp0_1 : Sl w.R w.W fl_TPlotStep Ap0_1 cp0_1 p0.Steps) (p1 : TPlot) (Ap1_0 : Option Addr) (cp1_0 : Nat) (hp1_0 : Sl w.R w.W fl_TPlotTool Ap1_0 cp1_0 p1.Tools) (Ap1_1 : Option Addr) (cp1_1 : Nat) (hp1_1 : Sl w.R w.W fl_TPlotStep Ap1_1 cp1_1 p1.Steps) (r : Bool) (H : F_etchhouseref3_SamePlot N p0 p1 = some r) (hE : HF w w.W E0) : Calls Tryz.prog 10 [(.agg #[(iv p0.Unit), (.slice Ap0_0 (p0.Tools).length cp0_0), (.slice Ap0_1 (p0.Steps).length cp0_1)]), (.agg #[(iv p1.Unit), (.slice Ap1_0 (p1.Tools).length cp1_0), (.slice Ap1_1 (p1.Steps).length cp1_1)])].toArray w.W fun e W' => e = .returned (.bool r) ∧ HF w W' E0 := by
 unfold F_etchhouseref3_SamePlot at H
 have leB := Bs.Le.refl w
 refine Tr.enter (n := 64) Tryz.func10 rfl rfl rfl hE ?_
 refine Tr.sr ?_
 refine Tr.box 1 (cs := [(iv p0.Unit), (.slice Ap0_0 (p0.Tools).length cp0_0), (.slice Ap0_1 (p0.Steps).length cp0_1)]) (wn rfl) rfl rfl rfl fun b100 => ?_
 refine Tr.box 2 (cs := [(iv p1.Unit), (.slice Ap1_0 (p1.Tools).length cp1_0), (.slice Ap1_1 (p1.Steps).length cp1_1)]) (wn rfl) rfl rfl rfl fun b101 => ?_
 refine Tr.asg rfl rfl ?_
 refine Tr.nil (Tr.normThen ?_)
 refine Tr.seq ?_
 refine Tr.sr ?_
 refine Tr.va rfl (fun _ _ h1 h2 => run_fieldAddr fo_25_0 (h1.ev rfl)) ?_
 refine Tr.va rfl (fun _ _ h1 h2 => run_load1 ag_3 (h1.ev rfl) (rdb h2 (vs := [(iv p0.Unit), (.slice Ap0_0 (p0.Tools).length cp0_0), (.slice Ap0_1 (p0.Steps).length cp0_1)]) (k := 1) rfl 0) rfl) ?_
 refine Tr.va rfl (fun _ _ h1 h2 => run_fieldAddr fo_25_0 (h1.ev rfl)) ?_
 refine Tr.va rfl (fun _ _ h1 h2 => run_load1 ag_3 (h1.ev rfl) (rdb h2 (vs := [(iv p1.Unit), (.slice Ap1_0 (p1.Tools).length cp1_0), (.slice Ap1_1 (p1.Steps).length cp1_1)]) (k := 2) rfl 0) rfl) ?_
 refine Tr.va rfl (fun _ _ h1 h2 => run_neq (h1.ev rfl) (h1.ev rfl)) ?_
 refine Tr.mv rfl rfl ?_
 refine Tr.mid0 8 [(2, (.pointer (some ⟨b100, 0, none⟩))), (3, (.pointer (some ⟨b101, 0, none⟩))), (19, (.bool ((p0.Unit != p1.Unit) || ((p0.Tools.length : Int) != (p1.Tools.length : Int)))))] [(1, bx b100 #[(iv p0.Unit), (.slice Ap0_0 (p0.Tools).length cp0_0), (.slice Ap0_1 (p0.Steps).length cp0_1)] 25), (2, bx b101 #[(iv p1.Unit), (.slice Ap1_0 (p1.Tools).length cp1_0), (.slice Ap1_1 (p1.Steps).length cp1_1)] 25)] ?_ ?_
 ·cases hg153 : (p0.Unit != p1.Unit)
  ·refine Tr.val (wg rfl rfl rfl) rfl (fun _ _ h1 h2 => run_fieldAddr fo_25_1 (h1.ev rfl)) ?_
   refine Tr.val (wg rfl rfl rfl) rfl (fun _ _ h1 h2 => run_load1 ag_22 (h1.ev rfl) (rdb h2 (vs := [(iv p0.Unit), (.slice Ap0_0 (p0.Tools).length cp0_0), (.slice Ap0_1 (p0.Steps).length cp0_1)]) (k := 1) rfl 1) rfl) ?_
   refine Tr.val (wg rfl rfl rfl) rfl (fun _ _ h1 h2 => run_len un_22 (h1.ev rfl)) ?_
   refine Tr.val (wg rfl rfl rfl) rfl (fun _ _ h1 h2 => run_fieldAddr fo_25_1 (h1.ev rfl)) ?_
   refine Tr.val (wg rfl rfl rfl) rfl (fun _ _ h1 h2 => run_load1 ag_22 (h1.ev rfl) (rdb h2 (vs := [(iv p1.Unit), (.slice Ap1_0 (p1.Tools).length cp1_0), (.slice Ap1_1 (p1.Steps).length cp1_1)]) (k := 2) rfl 1) rfl) ?_
   refine Tr.val (wg rfl rfl rfl) rfl (fun _ _ h1 h2 => run_len un_22 (h1.ev rfl)) ?_
   refine Tr.val (wg rfl rfl rfl) rfl (fun _ _ h1 h2 => run_neq (h1.ev rfl) (h1.ev rfl)) ?_
   refine Tr.va rfl (fun _ _ h1 h2 => run_pickF (h1.ev rfl) (h1.ev rfl)) ?_
   exact Tr.nil (Tr.fin0 (.cons rfl (.cons rfl (.cons rfl .nil))) (.cons rfl (.cons rfl .nil)))
  ·refine Tr.pass rfl rfl rfl rfl rfl (by decide) ?_
   refine Tr.pass rfl rfl rfl rfl rfl (by decide) ?_
   refine Tr.pass rfl rfl rfl rfl rfl (by decide) ?_
   refine Tr.pass rfl rfl rfl rfl rfl (by decide) ?_
   refine Tr.pass rfl rfl rfl rfl rfl (by decide) ?_
   refine Tr.pass rfl rfl rfl rfl rfl (by decide) ?_
   refine Tr.pass rfl rfl rfl rfl rfl (by decide) ?_
   refine Tr.va rfl (fun _ _ h1 h2 => run_pickT (h1.ev rfl) (h1.ev rfl)) ?_
   exact Tr.nil (Tr.fin0 (.cons rfl (.cons rfl (.cons rfl .nil))) (.cons rfl (.cons rfl .nil)))
 ·show Tr _ _ (LF [(2, (.pointer (some ⟨b100, 0, none⟩))), (3, (.pointer (some ⟨b101, 0, none⟩))), (19, (.bool ((p0.Unit != p1.Unit) || ((p0.Tools.length : Int) != (p1.Tools.length : Int)))))]) (LE [(1, bx b100 #[(iv p0.Unit), (.slice Ap0_0 (p0.Tools).length cp0_0), (.slice Ap0_1 (p0.Steps).length cp0_1)] 25), (2, bx b101 #[(iv p1.Unit), (.slice Ap1_0 (p1.Tools).length cp1_0), (.slice Ap1_1 (p1.Steps).length cp1_1)] 25)]) _
  refine Tr.mv rfl rfl ?_
  obtain ⟨g103, hg103, H⟩ := bnd H
  refine Tr.mid0 7 [(2, (.pointer (some ⟨b100, 0, none⟩))), (3, (.pointer (some ⟨b101, 0, none⟩))), (27, (.bool g103))] [(1, bx b100 #[(iv p0.Unit), (.slice Ap0_0 (p0.Tools).length cp0_0), (.slice Ap0_1 (p0.Steps).length cp0_1)] 25), (2, bx b101 #[(iv p1.Unit), (.slice Ap1_0 (p1.Tools).length cp1_0), (.slice Ap1_1 (p1.Steps).length cp1_1)] 25)] ?_ ?_
  ·cases hg153 : ((p0.Unit != p1.Unit) || ((p0.Tools.length : Int) != (p1.Tools.length : Int)))
   ·rw [hg153] at hg103
    rw [if_neg (by decide)] at hg103
    have H := hg103
    refine Tr.val (wg rfl rfl rfl) rfl (fun _ _ h1 h2 => run_fieldAddr fo_25_2 (h1.ev rfl)) ?_
    refine Tr.val (wg rfl rfl rfl) rfl (fun _ _ h1 h2 => run_load1 ag_23 (h1.ev rfl) (rdb h2 (vs := [(iv p0.Unit), (.slice Ap0_0 (p0.Tools).length cp0_0), (.slice Ap0_1 (p0.Steps).length cp0_1)]) (k := 1) rfl 2) rfl) ?_
    refine Tr.val (wg rfl rfl rfl) rfl (fun _ _ h1 h2 => run_fieldAddr fo_25_2 (h1.ev rfl)) ?_
    refine Tr.val (wg rfl rfl rfl) rfl (fun _ _ h1 h2 => run_load1 ag_23 (h1.ev rfl) (rdb h2 (vs := [(iv p1.Unit), (.slice Ap1_0 (p1.Tools).length cp1_0), (.slice Ap1_1 (p1.Steps).length cp1_1)]) (k := 2) rfl 2) rfl) ?_
    obtain ⟨y104, hy104, H⟩ := bnd H
    refine Tr.call0 (r := (.bool y104)) (wg rfl rfl rfl) rfl Tryz.call27 (evl_cons rfl (evl_cons rfl evl_nil)) (fun W hW => F_etchhouseref3_sameSteps_ok N p0.Steps Ap0_1 cp0_1 (hp0_1.ext hW.extAll) p1.Steps Ap1_1 cp1_1 (hp1_1.ext hW.extAll) y104 hy104 (HF.start _)) ?_
    refine Tr.val (wg rfl rfl rfl) rfl (fun _ _ h1 h2 => run_not (h1.ev rfl)) ?_
    refine Tr.va rfl (fun _ _ h1 h2 => run_pickF (h1.ev rfl) (h1.ev rfl)) ?_
    obtain rfl := Option.some.inj H
    exact Tr.nil (Tr.fin0 (.cons rfl (.cons rfl (.cons rfl .nil))) (.cons rfl (.cons rfl .nil)))
   ·rw [hg153] at hg103
    rw [if_pos rfl] at hg103
    have H := hg103
    obtain rfl := Option.some.inj H
    refine Tr.pass rfl rfl rfl rfl rfl (by decide) ?_
    refine Tr.pass rfl rfl rfl rfl rfl (by decide) ?_
    refine Tr.pass rfl rfl rfl rfl rfl (by decide) ?_
    refine Tr.pass rfl rfl rfl rfl rfl (by decide) ?_
    refine Tr.pass rfl rfl rfl rfl rfl (by decide) ?_
    refine Tr.pass rfl rfl rfl rfl rfl (by decide) ?_
    refine Tr.va rfl (fun _ _ h1 h2 => run_pickT (h1.ev rfl) (h1.ev rfl)) ?_
    exact Tr.nil (Tr.fin0 (.cons rfl (.cons rfl (.cons rfl .nil))) (.cons rfl (.cons rfl .nil)))
  ·show Tr _ _ (LF [(2, (.pointer (some ⟨b100, 0, none⟩))), (3, (.pointer (some ⟨b101, 0, none⟩))), (27, (.bool g103))]) (LE [(1, bx b100 #[(iv p0.Unit), (.slice Ap0_0 (p0.Tools).length cp0_0), (.slice Ap0_1 (p0.Steps).length cp0_1)] 25), (2, bx b101 #[(iv p1.Unit), (.slice Ap1_0 (p1.Tools).length cp1_0), (.slice Ap1_1 (p1.Steps).length cp1_1)] 25)]) _
   refine Tr.nil (Tr.normThen ?_)
   refine Tr.cond rfl H (fun H => ?_) (fun H => ?_)
   ·refine Tr.sr ?_
    refine Tr.asg rfl rfl ?_
    refine Tr.nil (Tr.normThen ?_)
    refine Tr.ret (Tr.retThen ?_)
    obtain rfl := Option.some.inj H
    exact Tr.out (m := [(.bool false)]) [] (res_tmp rfl res_nil) (fun W hW => ⟨rfl, hW.low leB⟩)
   ·refine Tr.skip (Tr.normThen ?_)
    refine Tr.seq ?_
    refine Tr.sr ?_
    refine Tr.asg rfl rfl ?_
    refine Tr.nil (Tr.normThen ?_)
    refine Tr.block ?_
    refine Tr.loop (σ := Int) (fun m w s => F_etchhouseref3_SamePlot_L1 N p0 p1 m s = some r) (fun s => [(2, (.pointer (some ⟨b100, 0, none⟩))), (3, (.pointer (some ⟨b101, 0, none⟩))), (5, (iv s))]) (fun s => [(1, bx b100 #[(iv p0.Unit), (.slice Ap0_0 (p0.Tools).length cp0_0), (.slice Ap0_1 (p0.Steps).length cp0_1)] 25), (2, bx b101 #[(iv p1.Unit), (.slice Ap1_0 (p1.Tools).length cp1_0), (.slice Ap1_1 (p1.Steps).length cp1_1)] 25)]) N 0 H (.cons rfl (.cons rfl (.cons rfl .nil))) (.cons rfl (.cons rfl .nil)) (fun _ _ h => noSome (h)) ?_
    intro w leL1 mL1 x138 hs
    have H := hs
    replace H : F_etchhouseref3_SamePlot_L1 N p0 p1 (mL1 + 1) x138 = some r := H
    replace hp0_0 := hp0_0.leR leL1
    replace hp0_1 := hp0_1.leR leL1
    replace hp1_0 := hp1_0.leR leL1
    replace hp1_1 := hp1_1.leR leL1
    replace leB := leB.trans leL1
    rw [F_etchhouseref3_SamePlot_L1.eq_2] at H
    show Tr _ _ (LF [(2, (.pointer (some ⟨b100, 0, none⟩))), (3, (.pointer (some ⟨b101, 0, none⟩))), (5, (iv x138))]) (LE [(1, bx b100 #[(iv p0.Unit), (.slice Ap0_0 (p0.Tools).length cp0_0), (.slice Ap0_1 (p0.Steps).length cp0_1)] 25), (2, bx b101 #[(iv p1.Unit), (.slice Ap1_0 (p1.Tools).length cp1_0), (.slice Ap1_1 (p1.Steps).length cp1_1)] 25)]) _
    refine Tr.seq ?_
    refine Tr.sr ?_
    refine Tr.mv rfl rfl ?_
    refine Tr.va rfl (fun _ _ h1 h2 => run_fieldAddr fo_25_1 (h1.ev rfl)) ?_
    refine Tr.va rfl (fun _ _ h1 h2 => run_load1 ag_22 (h1.ev rfl) (rdb h2 (vs := [(iv p0.Unit), (.slice Ap0_0 (p0.Tools).length cp0_0), (.slice Ap0_1 (p0.Steps).length cp0_1)]) (k := 1) rfl 1) rfl) ?_
    refine Tr.va rfl (fun _ _ h1 h2 => run_len un_22 (h1.ev rfl)) ?_
    refine Tr.va rfl (fun _ _ h1 h2 => run_lss (h1.ev rfl) (h1.ev rfl)) ?_
    refine Tr.nil (Tr.normThen ?_)
    refine Tr.cond rfl H (fun H => ?_) (fun H => ?_)
    ·refine Tr.skip (Tr.normThen ?_)
     refine Tr.seq ?_
     refine Tr.block ?_
     refine Tr.seq ?_
     refine Tr.draw (by kernel_rfl) (by kernel_rfl) ?_
     refine Tq.va rfl (fun _ _ h1 h2 => run_fieldAddr fo_25_1 (h1.ev rfl)) ?_
     refine Tq.va rfl (fun _ _ h1 h2 => run_load1 ag_22 (h1.ev rfl) (rdb h2 (vs := [(iv p0.Unit), (.slice Ap0_0 (p0.Tools).length cp0_0), (.slice Ap0_1 (p0.Steps).length cp0_1)]) (k := 1) rfl 1) rfl) ?_
     refine Tq.mv rfl rfl ?_
     obtain ⟨x139, hx139, H⟩ := bnd H
     obtain ⟨hx1390, hx1391, hx1392⟩ := idx_some hx139
     obtain ⟨u140, hRu140, hoku140, hcu140⟩ := (hp0_0).el hx1392
     obtain ⟨Au140_0, cu140_0⟩ := u140
     have hoku140_0 := hoku140
     replace hoku140_0 : Sl w.R w.W fl_TRect Au140_0 cu140_0 x139.Rects := hoku140_0
     refine Tq.va rfl (fun _ _ h1 h2 => run_indexAddr el_22 (h1.ev rfl) hp0_0.form (h1.ev rfl) hx1390 hx1391) ?_
     refine Tq.va rfl (fun _ _ h1 h2 => run_fieldAddr fo_54_0 (h1.ev rfl)) ?_
     refine Tq.va rfl (fun _ _ h1 h2 => run_load1 ag_9 (h1.ev rfl) (CellsAt.drop (rdR hRu140 hcu140 h2) 0) rfl) ?_
     refine Tq.va rfl (fun _ _ h1 h2 => run_fieldAddr fo_25_1 (h1.ev rfl)) ?_
     refine Tq.va rfl (fun _ _ h1 h2 => run_load1 ag_22 (h1.ev rfl) (rdb h2 (vs := [(iv p1.Unit), (.slice Ap1_0 (p1.Tools).length cp1_0), (.slice Ap1_1 (p1.Steps).length cp1_1)]) (k := 2) rfl 1) rfl) ?_
     refine Tq.mv rfl rfl ?_
     obtain ⟨x141, hx141, H⟩ := bnd H
     obtain ⟨hx1410, hx1411, hx1412⟩ := idx_some hx141
     obtain ⟨u142, hRu142, hoku142, hcu142⟩ := (hp1_0).el hx1412
     obtain ⟨Au142_0, cu142_0⟩ := u142
     have hoku142_0 := hoku142
     replace hoku142_0 : Sl w.R w.W fl_TRect Au142_0 cu142_0 x141.Rects := hoku142_0
     refine Tq.va rfl (fun _ _ h1 h2 => run_indexAddr el_22 (h1.ev rfl) hp1_0.form (h1.ev rfl) hx1410 hx1411) ?_
     refine Tq.va rfl (fun _ _ h1 h2 => run_fieldAddr fo_54_0 (h1.ev rfl)) ?_
     refine Tq.va rfl (fun _ _ h1 h2 => run_load1 ag_9 (h1.ev rfl) (CellsAt.drop (rdR hRu142 hcu142 h2) 0) rfl) ?_
     refine Tq.va rfl (fun _ _ h1 h2 => run_neqS (h1.ev rfl) (h1.ev rfl)) ?_
     refine Tq.mv rfl rfl ?_
     obtain ⟨g148, hg148, H⟩ := bnd H
     refine Tq.mid 15 [(2, (.pointer (some ⟨b100, 0, none⟩))), (3, (.pointer (some ⟨b101, 0, none⟩))), (5, (iv x138)), (63, (.bool g148))] ?_ ?_
     ·cases hg153 : (!sEq x139.Name x141.Name)
      ·rw [hg153] at hg148
       rw [if_neg (by decide)] at hg148
       have H := hg148
       refine Tq.val (wg rfl rfl rfl) rfl (fun _ _ h1 h2 => run_fieldAddr fo_25_1 (h1.ev rfl)) ?_
       refine Tq.val (wg rfl rfl rfl) rfl (fun _ _ h1 h2 => run_load1 ag_22 (h1.ev rfl) (rdb h2 (vs := [(iv p0.Unit), (.slice Ap0_0 (p0.Tools).length cp0_0), (.slice Ap0_1 (p0.Steps).length cp0_1)]) (k := 1) rfl 1) rfl) ?_
       refine Tq.val (wg rfl rfl rfl) rfl (fun _ _ h1 h2 => run_move (h1.ev rfl)) ?_
       obtain ⟨x149, hx149, H⟩ := bnd H
       obtain ⟨hx1490, hx1491, hx1492⟩ := idx_some hx149
       obtain ⟨u150, hRu150, hoku150, hcu150⟩ := (hp0_0).el hx1492
       obtain ⟨Au150_0, cu150_0⟩ := u150
       have hoku150_0 := hoku150
       replace hoku150_0 : Sl w.R w.W fl_TRect Au150_0 cu150_0 x149.Rects := hoku150_0
       refine Tq.val (wg rfl rfl rfl) rfl (fun _ _ h1 h2 => run_indexAddr el_22 (h1.ev rfl) hp0_0.form (h1.ev rfl) hx1490 hx1491) ?_
       refine Tq.val (wg rfl rfl rfl) rfl (fun _ _ h1 h2 => run_fieldAddr fo_54_1 (h1.ev rfl)) ?_
       refine Tq.val (wg rfl rfl rfl) rfl (fun _ _ h1 h2 => run_load1 ag_52 (h1.ev rfl) (CellsAt.drop (rdR hRu150 hcu150 h2) 1) rfl) ?_
       refine Tq.val (wg rfl rfl rfl) rfl (fun _ _ h1 h2 => run_fieldAddr fo_25_1 (h1.ev rfl)) ?_
       refine Tq.val (wg rfl rfl rfl) rfl (fun _ _ h1 h2 => run_load1 ag_22 (h1.ev rfl) (rdb h2 (vs := [(iv p1.Unit), (.slice Ap1_0 (p1.Tools).length cp1_0), (.slice Ap1_1 (p1.Steps).length cp1_1)]) (k := 2) rfl 1) rfl) ?_
       refine Tq.val (wg rfl rfl rfl) rfl (fun _ _ h1 h2 => run_move (h1.ev rfl)) ?_
       obtain ⟨x151, hx151, H⟩ := bnd H
       obtain ⟨hx1510, hx1511, hx1512⟩ := idx_some hx151
       obtain ⟨u152, hRu152, hoku152, hcu152⟩ := (hp1_0).el hx1512
       obtain ⟨Au152_0, cu152_0⟩ := u152
       have hoku152_0 := hoku152
       replace hoku152_0 : Sl w.R w.W fl_TRect Au152_0 cu152_0 x151.Rects := hoku152_0
       refine Tq.val (wg rfl rfl rfl) rfl (fun _ _ h1 h2 => run_indexAddr el_22 (h1.ev rfl) hp1_0.form (h1.ev rfl) hx1510 hx1511) ?_
       refine Tq.val (wg rfl rfl rfl) rfl (fun _ _ h1 h2 => run_fieldAddr fo_54_1 (h1.ev rfl)) ?_
       refine Tq.val (wg rfl rfl rfl) rfl (fun _ _ h1 h2 => run_load1 ag_52 (h1.ev rfl) (CellsAt.drop (rdR hRu152 hcu152 h2) 1) rfl) ?_
       obtain ⟨y153, hy153, H⟩ := bnd H
       refine Tq.call0 (r := (.bool y153)) (wg rfl rfl rfl) rfl Tryz.call28 (evl_cons rfl (evl_cons rfl evl_nil)) (fun W hW => F_etchhouseref1_SameRects_ok N x149.Rects Au150_0 cu150_0 (hoku150_0.ext hW.extAll) x151.Rects Au152_0 cu152_0 (hoku152_0.ext hW.extAll) y153 hy153 (HF.start _)) ?_
       refine Tq.val (wg rfl rfl rfl) rfl (fun _ _ h1 h2 => run_not (h1.ev rfl)) ?_
       refine Tq.va rfl (fun _ _ h1 h2 => run_pickF (h1.ev rfl) (h1.ev rfl)) ?_
       obtain rfl := Option.some.inj H
       exact Tq.fin (.cons rfl (.cons rfl (.cons rfl (.cons rfl .nil))))
      ·rw [hg153] at hg148
       rw [if_pos rfl] at hg148
       have H := hg148
       obtain rfl := Option.some.inj H
       refine Tq.pass rfl rfl rfl rfl rfl (by decide) ?_
       refine Tq.pass rfl rfl rfl rfl rfl (by decide) ?_
       refine Tq.pass rfl rfl rfl rfl rfl (by decide) ?_
       refine Tq.pass rfl rfl rfl rfl rfl (by decide) ?_
       refine Tq.pass rfl rfl rfl rfl rfl (by decide) ?_
       refine Tq.pass rfl rfl rfl rfl rfl (by decide) ?_
       refine Tq.pass rfl rfl rfl rfl rfl (by decide) ?_
       refine Tq.pass rfl rfl rfl rfl rfl (by decide) ?_
       refine Tq.pass rfl rfl rfl rfl rfl (by decide) ?_
       refine Tq.pass rfl rfl rfl rfl rfl (by decide) ?_
       refine Tq.pass rfl rfl rfl rfl rfl (by decide) ?_
       refine Tq.pass rfl rfl rfl rfl rfl (by decide) ?_
       refine Tq.pass rfl rfl rfl rfl rfl (by decide) ?_
       refine Tq.pass rfl rfl rfl rfl rfl (by decide) ?_
       refine Tq.va rfl (fun _ _ h1 h2 => run_pickT (h1.ev rfl) (h1.ev rfl)) ?_
       exact Tq.fin (.cons rfl (.cons rfl (.cons rfl (.cons rfl .nil))))
     ·refine Tq.nil (Tr.normThen ?_)
      refine Tr.cond rfl H (fun H => ?_) (fun H => ?_)
      ·refine Tr.sr ?_
       refine Tr.asg rfl rfl ?_
       refine Tr.nil (Tr.normThen ?_)
       refine Tr.ret (Tr.retBlock (Tr.retThen (Tr.retThen (Tr.retBlock (Tr.retThen ?_)))))
       obtain rfl := Option.some.inj H
       exact Tr.out (m := [(.bool false)]) [] (res_tmp rfl res_nil) (fun W hW => ⟨rfl, hW.low leB⟩)
      ·refine Tr.skip (Tr.normBlock (Tr.normThen ?_))
       refine Tr.region ?_
       refine Tr.mv rfl rfl ?_
       refine Tr.va rfl (fun _ _ h1 h2 => run_add (h1.ev rfl) (h1.ev rfl)) ?_
       refine Tr.asg rfl rfl ?_
       refine Tr.nil ?_
       exact Tr.backThen leL1 (w64 (x138 + 1)) H (.cons rfl (.cons rfl (.cons rfl .nil))) (.cons rfl (.cons rfl .nil))
    ·refine Tr.exit (Tr.exitThen (Tr.exitThen (Tr.exitBlock (Tr.normThen ?_))))
     refine Tr.sr ?_
     refine Tr.asg rfl rfl ?_
     refine Tr.nil (Tr.normThen ?_)
     refine Tr.ret ?_
     obtain rfl := Option.some.inj H
     exact Tr.out (m := [(.bool true)]) [] (res_tmp rfl res_nil) (fun W hW => ⟨rfl, hW.low leB⟩)

theorem F_strconv_Itoa_ok {w : Bs} (p0 : Int) (r : ByteArray) (H : itoaS p0 = some r) (hE : HF w w.W E0) : Calls Tryz.prog 30 [(iv p0)].toArray w.W fun e W' => e = .returned (sv r) ∧ HF w W' E0 :=
 itoaS_rule (ρ := Tryz.itoa30_ren) Tryz.itoa30 H hE

end Go.Proofs.YtocjndhpgjccoaaGreatDoor
namespace Go.Proofs
open Go.Shelf
def Tryz.bld29_ren : Go.Shelf.Ren := ⟨fun | 166 => 29 | 240 => 62 | 276 => 91 | n => n, fun | 5 => 5 | 37 => 57 | 70 => 56 | 72 => 59 | 75 => 61 | 80 => 70 | 164 => 131 | n => n, fun n => n⟩
theorem Tryz.bld29 : Go.Proofs.Lays.n166 Tryz.prog Tryz.bld29_ren := {
 mixed := by kernel_rfl
 f166 := Tryz.func29.trans (congrArg some (by kernel_rfl))
 f240 := Tryz.func62.trans (congrArg some (by kernel_rfl))
 f276 := Tryz.func91.trans (congrArg some (by kernel_rfl))
 t0 := Tryz.underlying0
 a0 := Tryz.isAgg0
 z0 := Tryz.sizeOf0
 v0 := Tryz.zeroValue0
 t3 := Tryz.underlying3
 a3 := Tryz.isAgg3
 z3 := Tryz.sizeOf3
 v3 := Tryz.zeroValue3
 t4 := Tryz.underlying4
 a4 := Tryz.isAgg4
 z4 := Tryz.sizeOf4
 v4 := Tryz.zeroValue4
 t9 := Tryz.underlying9
 a9 := Tryz.isAgg9
 z9 := Tryz.sizeOf9
 v9 := Tryz.zeroValue9
 t20 := Tryz.underlying20
 a20 := Tryz.isAgg20
 z20 := Tryz.sizeOf20
 v20 := Tryz.zeroValue20
 t37 := Tryz.underlying57
 a37 := Tryz.isAgg57
 z37 := Tryz.sizeOf57
 v37 := Tryz.zeroValue57
 t70 := Tryz.underlying56
 a70 := Tryz.isAgg56
 z70 := Tryz.sizeOf56
 v70 := Tryz.zeroValue56
 t72 := Tryz.underlying59
 a72 := Tryz.isAgg59
 z72 := Tryz.sizeOf59
 v72 := Tryz.zeroValue59
 t75 := Tryz.underlying61
 a75 := Tryz.isAgg61
 z75 := Tryz.sizeOf61
 v75 := Tryz.zeroValue61
 t164 := Tryz.underlying131
 a164 := Tryz.isAgg131
 z164 := Tryz.sizeOf131
 v164 := Tryz.zeroValue131
}
end Go.Proofs
namespace Go.Proofs.YtocjndhpgjccoaaGreatDoor
open Go.RowKit
theorem bX29 : Builder.Extra Tryz.prog Tryz.bld29_ren where
 sizeBuilder := by kernel_rfl
 liesBuilder := by kernel_rfl
 t5 := Tryz.underlying5
 a5 := Tryz.isAgg5
 z5 := Tryz.sizeOf5
 v5 := Tryz.zeroValue5
 infoByte := by kernel_rfl
 cellsByte := by kernel_rfl
 sizeByte := by kernel_rfl
 neB5 := by decide
theorem F_strings_Builder_WriteString_ok {w : Bs} (p0 : ByteArray) (Ap0_0 : Option Addr) (cp0_0 : Nat) (bp0 : Nat) (p1 : ByteArray) (r : ByteArray) (H : sbW p0 p1 = some r) (hE : HF w w.W (LEn [sb 59 5 bp0 Ap0_0 cp0_0 p0])) : Calls Tryz.prog 29 [(.pointer (some ⟨bp0, 0, none⟩)), .string p1].toArray w.W fun e W' => ∃ u : (Option Addr × Nat), e = .returned (.tuple #[.int .i64 p1.size, .nilIface]) ∧ (True) ∧ HF w W' (LEn [sb 59 5 bp0 u.1 u.2 r]) :=
 sb_write (ρ := Tryz.bld29_ren) Tryz.bld29 bX29 H hE

theorem F_plot_points_ok {w : Bs} (p0 : (List TPoint)) (Ap0_0 : Option Addr) (cp0_0 : Nat) (hp0_0 : Sl w.R w.W fl_TPoint Ap0_0 cp0_0 p0) (r : ByteArray) (H : F_plot_points p0 = some r) (hE : HF w w.W E0) : Calls Tryz.prog 31 [(.slice Ap0_0 (p0).length cp0_0)].toArray w.W fun e W' => e = .returned (sv r) ∧ HF w W' E0 := by
 unfold F_plot_points at H
 have leB := Bs.Le.refl w
 refine Tr.enter (n := 25) Tryz.func31 rfl rfl rfl hE ?_
 refine Tr.sr ?_
 refine Tr.asg rfl rfl ?_
 refine Tr.nil (Tr.normThen ?_)
 refine Tr.sr ?_
 refine Tr.asg rfl rfl ?_
 refine Tr.nil (Tr.normThen ?_)
 refine Tr.seq ?_
 refine Tr.sr ?_
 refine Tr.mv rfl rfl ?_
 refine Tr.va rfl (fun _ _ h1 h2 => run_len un_47 (h1.ev rfl)) ?_
 refine Tr.mv rfl rfl ?_
 refine Tr.nil (Tr.normThen ?_)
 refine Tr.block ?_
 refine Tr.loop (σ := (List TPoint) × Nat × ByteArray) (fun m w s => m = s.1.length + 1 ∧ s.1 = List.drop s.2.1 p0 ∧ s.2.1 ≤ p0.length ∧ F_plot_points_L1 s.1 s.2.1 s.2.2 = some r) (fun s => [(3, (sv s.2.2)), (6, (.slice Ap0_0 (p0).length cp0_0)), (7, (iv (p0.length : Int))), (8, (iv (s.2.1 : Int)))]) (fun s => []) (p0.length + 1) (p0, 0, ByteArray.empty) ⟨rfl, rfl, Nat.zero_le _, H⟩ (.cons rfl (.cons rfl (.cons rfl (.cons rfl .nil)))) .nil (fun _ _ h => absurd h.1 (by simp)) ?_
 intro w leL1 m s hs
 obtain ⟨restL1, iL1, x122⟩ := s
 obtain ⟨hmL1, hdL1, hiL1, H⟩ := hs
 replace hdL1 : restL1 = List.drop iL1 p0 := hdL1
 replace H : F_plot_points_L1 restL1 iL1 x122 = some r := H
 replace hmL1 : m + 1 = restL1.length + 1 := hmL1
 replace hp0_0 := hp0_0.leR leL1
 replace leB := leB.trans leL1
 obtain rfl : m = restL1.length := by omega
 clear hmL1
 show Tr _ _ (LF [(3, (sv x122)), (6, (.slice Ap0_0 (p0).length cp0_0)), (7, (iv (p0.length : Int))), (8, (iv (iL1 : Int)))]) (LE []) _
 cases restL1 with
 | nil =>
  rw [F_plot_points_L1.eq_1] at H
  refine Tr.sr ?_
  refine Tr.va rfl (fun _ _ h1 h2 => run_lss (h1.ev rfl) (h1.ev rfl)) ?_
  refine Tr.nil (Tr.normThen ?_)
  refine Tr.seq ?_
  refine Tr.condF rfl (range_nil hdL1) ?_
  refine Tr.exit (Tr.exitThen (Tr.exitThen (Tr.exitBlock (Tr.normThen ?_))))
  refine Tr.sr ?_
  refine Tr.mv rfl rfl ?_
  refine Tr.asg rfl rfl ?_
  refine Tr.nil (Tr.normThen ?_)
  refine Tr.ret ?_
  obtain rfl := Option.some.inj H
  exact Tr.out (m := [(sv x122)]) [] (res_tmp rfl res_nil) (fun W hW => ⟨rfl, hW.low leB⟩)
 | cons xL1 restL1 =>
  rw [F_plot_points_L1.eq_2] at H
  refine Tr.sr ?_
  refine Tr.va rfl (fun _ _ h1 h2 => run_lss (h1.ev rfl) (h1.ev rfl)) ?_
  refine Tr.nil (Tr.normThen ?_)
  refine Tr.seq ?_
  refine Tr.condT rfl (range_on hdL1) ?_
  refine Tr.skip (Tr.normThen ?_)
  refine Tr.seq ?_
  refine Tr.block ?_
  refine Tr.sr ?_
  refine Tr.va rfl (fun _ _ h1 h2 => run_indexAddr el_47 (h1.ev rfl) hp0_0.form (h1.ev rfl) (Int.natCast_nonneg _) (range_lt hdL1)) ?_
  refine Tr.va rfl (fun _ _ h1 h2 => run_loadN (cs := [(iv xL1.X), (iv xL1.Y)]) ag_42 sz_42 (h1.ev rfl) (CellsAt.take (rdF ef_TPoint hp0_0 (range_at hdL1) h2) 2) rfl) ?_
  refine Tr.alloc 3 (wn rfl) rfl ze_42 fun b123 => ?_
  refine Tr.store 3 (cs := [(iv xL1.X), (iv xL1.Y)]) [(iv xL1.X), (iv xL1.Y)] (wn rfl) rfl rfl rfl rfl sz_42 rfl rfl rfl ?_
  refine Tr.nil (Tr.normThen ?_)
  refine Tr.draw (by kernel_rfl) (by kernel_rfl) ?_
  refine Tq.mv rfl rfl ?_
  refine Tq.va rfl (fun _ _ h1 h2 => run_fieldAddr fo_42_0 (h1.ev rfl)) ?_
  refine Tq.va rfl (fun _ _ h1 h2 => run_load1 ag_3 (h1.ev rfl) (rdb h2 (vs := [(iv xL1.X), (iv xL1.Y)]) (k := 3) rfl 0) rfl) ?_
  obtain ⟨y124, hy124, H⟩ := bnd H
  refine Tq.call0 (r := (sv y124)) (wn rfl) rfl Tryz.call30 (evl_cons rfl evl_nil) (fun W hW => F_strconv_Itoa_ok xL1.X y124 hy124 (HF.start _)) ?_
  obtain ⟨t125, ht125, H⟩ := bnd H
  refine Tq.va rfl (fun _ _ h1 h2 => run_catS (h1.ev rfl) (h1.ev rfl) ht125) ?_
  obtain ⟨t126, ht126, H⟩ := bnd H
  refine Tq.va rfl (fun _ _ h1 h2 => run_catS (h1.ev rfl) (h1.ev rfl) ht126) ?_
  refine Tq.va rfl (fun _ _ h1 h2 => run_fieldAddr fo_42_1 (h1.ev rfl)) ?_
  refine Tq.va rfl (fun _ _ h1 h2 => run_load1 ag_3 (h1.ev rfl) (rdb h2 (vs := [(iv xL1.X), (iv xL1.Y)]) (k := 3) rfl 1) rfl) ?_
  obtain ⟨y127, hy127, H⟩ := bnd H
  refine Tq.call0 (r := (sv y127)) (wn rfl) rfl Tryz.call30 (evl_cons rfl evl_nil) (fun W hW => F_strconv_Itoa_ok xL1.Y y127 hy127 (HF.start _)) ?_
  obtain ⟨t128, ht128, H⟩ := bnd H
  refine Tq.va rfl (fun _ _ h1 h2 => run_catS (h1.ev rfl) (h1.ev rfl) ht128) ?_
  obtain ⟨t129, ht129, H⟩ := bnd H
  refine Tq.va rfl (fun _ _ h1 h2 => run_catS (h1.ev rfl) (h1.ev rfl) ht129) ?_
  refine Tq.asg rfl rfl ?_
  refine Tq.nil (Tr.normBlock (Tr.normThen ?_))
  refine Tr.region ?_
  refine Tr.va rfl (fun _ _ h1 h2 => run_add (h1.ev rfl) (h1.ev rfl)) ?_
  refine Tr.mv rfl rfl ?_
  refine Tr.nil ?_
  exact Tr.backThen leL1 (restL1, (iL1 + 1), t129) ⟨rfl, range_tl hdL1, range_lt hdL1, H⟩ (.cons rfl (.cons rfl (.cons rfl (.cons (congrArg (fun z => some (Value.int .i64 z)) (range_up hdL1 hp0_0.form)) .nil)))) .nil

theorem F_plot_writeSteps_b_ok (N : Nat) (rec : ByteArray → (List TPlotStep) → Option ByteArray) (hrec : ∀ {w : Bs} (p0 : ByteArray) (Ap0_0 : Option Addr) (cp0_0 : Nat) (bp0 : Nat) (p1 : (List TPlotStep)) (Ap1_0 : Option Addr) (cp1_0 : Nat) (hp1_0 : Sl w.R w.W fl_TPlotStep Ap1_0 cp1_0 p1) (r : ByteArray) (H : rec p0 p1 = some r) (hE : HF w w.W (LEn [sb 59 5 bp0 Ap0_0 cp0_0 p0])), Calls Tryz.prog 32 [(.pointer (some ⟨bp0, 0, none⟩)), (.slice Ap1_0 (p1).length cp1_0)].toArray w.W fun e W' => ∃ u : (Option Addr × Nat), e = .returned (.tuple #[]) ∧ (True) ∧ HF w W' (LEn [sb 59 5 bp0 u.1 u.2 r])) {w : Bs} (p0 : ByteArray) (Ap0_0 : Option Addr) (cp0_0 : Nat) (bp0 : Nat) (p1 : (List TPlotStep)) (Ap1_0 : Option Addr) (cp1_0 : Nat) (hp1_0 : Sl w.R w.W fl_TPlotStep Ap1_0 cp1_0 p1) (r : ByteArray) (H : F_plot_writeSteps_b N rec p0 p1 = some r) (hE : HF w w.W (LEn [sb 59 5 bp0 Ap0_0 cp0_0 p0])) : Calls Tryz.prog 32 [(.pointer (some ⟨bp0, 0, none⟩)), (.slice Ap1_0 (p1).length cp1_0)].toArray w.W fun e W' => ∃ u : (Option Addr × Nat), e = .returned (.tuple #[]) ∧ (True) ∧ HF w W' (LEn [sb 59 5 bp0 u.1 u.2 r]) := by
 unfold F_plot_writeSteps_b at H
 have leB := Bs.Le.refl w
 refine Tr.enter (n := 91) Tryz.func32 rfl rfl rfl hE ?_
 refine Tr.sr ?_
 refine Tr.mv rfl rfl ?_
 refine Tr.va rfl (fun _ _ h1 h2 => run_len un_23 (h1.ev rfl)) ?_
 refine Tr.mv rfl rfl ?_
 refine Tr.nil (Tr.normThen ?_)
 refine Tr.block ?_
 refine Tr.loop (σ := (List TPlotStep) × Nat × ByteArray × (Option Addr) × Nat) (fun m w s => m = s.1.length + 1 ∧ s.1 = List.drop s.2.1 p1 ∧ s.2.1 ≤ p1.length ∧ F_plot_writeSteps_L1 rec s.1 s.2.1 s.2.2.1 = some r) (fun s => [(0, (.pointer (some ⟨bp0, 0, none⟩))), (6, (.slice Ap1_0 (p1).length cp1_0)), (7, (iv (p1.length : Int))), (8, (iv (s.2.1 : Int)))]) (fun s => [(0, sb 59 5 bp0 s.2.2.2.1 s.2.2.2.2 s.2.2.1)]) (p1.length + 1) (p1, 0, p0, Ap0_0, cp0_0) ⟨rfl, rfl, Nat.zero_le _, H⟩ (.cons rfl (.cons rfl (.cons rfl (.cons rfl .nil)))) (.cons rfl .nil) (fun _ _ h => absurd h.1 (by simp)) ?_
 intro w leL1 m s hs
 obtain ⟨restL1, iL1, m194, Am194, cm194⟩ := s
 obtain ⟨hmL1, hdL1, hiL1, H⟩ := hs
 replace hdL1 : restL1 = List.drop iL1 p1 := hdL1
 replace H : F_plot_writeSteps_L1 rec restL1 iL1 m194 = some r := H
 replace hmL1 : m + 1 = restL1.length + 1 := hmL1
 replace hp1_0 := hp1_0.leR leL1
 replace leB := leB.trans leL1
 obtain rfl : m = restL1.length := by omega
 clear hmL1
 show Tr _ _ (LF [(0, (.pointer (some ⟨bp0, 0, none⟩))), (6, (.slice Ap1_0 (p1).length cp1_0)), (7, (iv (p1.length : Int))), (8, (iv (iL1 : Int)))]) (LE [(0, sb 59 5 bp0 Am194 cm194 m194)]) _
 cases restL1 with
 | nil =>
  rw [F_plot_writeSteps_L1.eq_1] at H
  refine Tr.sr ?_
  refine Tr.va rfl (fun _ _ h1 h2 => run_lss (h1.ev rfl) (h1.ev rfl)) ?_
  refine Tr.nil (Tr.normThen ?_)
  refine Tr.seq ?_
  refine Tr.condF rfl (range_nil hdL1) ?_
  refine Tr.exit (Tr.exitThen (Tr.exitThen (Tr.exitBlock (Tr.offEnd ?_))))
  obtain rfl := Option.some.inj H
  exact Tr.out (m := []) [] res_nil (fun W hW => ⟨(Am194, cm194), rfl, trivial, HF.lowE leB (hW.pick (ks := [0]) (by decide) (pk_cons rfl pk_nil)) ⟨sb_any, trivial⟩⟩)
 | cons xL1 restL1 =>
  rw [F_plot_writeSteps_L1.eq_2] at H
  refine Tr.sr ?_
  refine Tr.va rfl (fun _ _ h1 h2 => run_lss (h1.ev rfl) (h1.ev rfl)) ?_
  refine Tr.nil (Tr.normThen ?_)
  refine Tr.seq ?_
  refine Tr.condT rfl (range_on hdL1) ?_
  refine Tr.skip (Tr.normThen ?_)
  refine Tr.seq ?_
  refine Tr.block ?_
  refine Tr.sr ?_
  obtain ⟨u195, hRu195, hoku195, hcu195⟩ := (hp1_0).el (range_at hdL1)
  obtain ⟨⟨Au195_0, cu195_0⟩, ⟨Au195_1, cu195_1⟩⟩ := u195
  obtain ⟨hoku195_0, hoku195_1⟩ := TPlotStep_ok.1 hoku195
  replace hoku195_0 : Sl w.R w.W fl_TPoint Au195_0 cu195_0 xL1.Points := hoku195_0
  replace hoku195_1 : Sl w.R w.W fl_TPlotStep Au195_1 cu195_1 xL1.Steps := hoku195_1
  refine Tr.va rfl (fun _ _ h1 h2 => run_indexAddr el_23 (h1.ev rfl) hp1_0.form (h1.ev rfl) (Int.natCast_nonneg _) (range_lt hdL1)) ?_
  refine Tr.va rfl (fun _ _ h1 h2 => run_loadN (cs := [(iv xL1.Kind), (sv xL1.Name), (iv xL1.At.X), (iv xL1.At.Y), (.slice Au195_0 (xL1.Points).length cu195_0), (iv xL1.NX), (iv xL1.NY), (.slice Au195_1 (xL1.Steps).length cu195_1)]) ag_49 sz_49 (h1.ev rfl) (CellsAt.take (rdR hRu195 hcu195 h2) 8) rfl) ?_
  refine Tr.alloc 11 (wn rfl) rfl ze_49 fun b196 => ?_
  refine Tr.store 11 (cs := [(iv xL1.Kind), (sv xL1.Name), (iv xL1.At.X), (iv xL1.At.Y), (.slice Au195_0 (xL1.Points).length cu195_0), (iv xL1.NX), (iv xL1.NY), (.slice Au195_1 (xL1.Steps).length cu195_1)]) [(iv xL1.Kind), (sv xL1.Name), (iv xL1.At.X), (iv xL1.At.Y), (.slice Au195_0 (xL1.Points).length cu195_0), (iv xL1.NX), (iv xL1.NY), (.slice Au195_1 (xL1.Steps).length cu195_1)] (wn rfl) rfl rfl rfl rfl sz_49 rfl rfl rfl ?_
  refine Tr.nil (Tr.normThen ?_)
  refine Tr.sr ?_
  refine Tr.va rfl (fun _ _ h1 h2 => run_fieldAddr fo_49_0 (h1.ev rfl)) ?_
  refine Tr.va rfl (fun _ _ h1 h2 => run_load1 ag_3 (h1.ev rfl) (rdb h2 (vs := [(iv xL1.Kind), (sv xL1.Name), (iv xL1.At.X), (iv xL1.At.Y), (.slice Au195_0 (xL1.Points).length cu195_0), (iv xL1.NX), (iv xL1.NY), (.slice Au195_1 (xL1.Steps).length cu195_1)]) (k := 11) rfl 0) rfl) ?_
  refine Tr.nil (Tr.normThen ?_)
  refine Tr.block ?_
  refine Tr.sr ?_
  refine Tr.va rfl (fun _ _ h1 h2 => run_eql (h1.ev rfl) (h1.ev rfl)) ?_
  refine Tr.asg rfl rfl ?_
  refine Tr.nil (Tr.normThen ?_)
  refine Tr.cond rfl H (fun H => ?_) (fun H => ?_)
  ·refine Tr.region ?_
   refine Tr.mv rfl rfl ?_
   obtain ⟨y197, hy197, H⟩ := bnd H
   refine Tr.callM [0] [sb 59 5 bp0 Am194 cm194 m194] (U := (Option Addr × Nat)) (fun u => (.tuple #[(iv (((⟨#[100, 97, 114, 107, 10]⟩) : ByteArray).size : Int)), .nilIface])) (fun u => True) (fun u => [sb 59 5 bp0 u.1 u.2 y197]) rfl (pk_cons rfl pk_nil) (fun _ => rfl) (wn rfl) rfl Tryz.call29 (evl_cons rfl (evl_cons rfl evl_nil)) (fun W hW hp hE => F_strings_Builder_WriteString_ok m194 Am194 cm194 bp0 (⟨#[100, 97, 114, 107, 10]⟩) y197 hy197 hE) ?_
   intro u hu
   obtain ⟨Ay197_0, cy197_0⟩ := u
   have gy197_0 := hu
   have hgy197_0 : True := gy197_0 --@phi
   show Tr _ _ (uf _ 17 (.tuple #[(iv (((⟨#[100, 97, 114, 107, 10]⟩) : ByteArray).size : Int)), .nilIface])) (up _ 0 (sb 59 5 bp0 Ay197_0 cy197_0 y197)) _
   refine Tr.nil (Tr.normBlock (Tr.normBlock (Tr.normThen ?_)))
   refine Tr.region ?_
   refine Tr.va rfl (fun _ _ h1 h2 => run_add (h1.ev rfl) (h1.ev rfl)) ?_
   refine Tr.mv rfl rfl ?_
   refine Tr.nil ?_
   exact Tr.backThen leL1 (restL1, (iL1 + 1), y197, Ay197_0, cy197_0) ⟨rfl, range_tl hdL1, range_lt hdL1, H⟩ (.cons rfl (.cons rfl (.cons rfl (.cons (congrArg (fun z => some (Value.int .i64 z)) (range_up hdL1 hp1_0.form)) .nil)))) (.cons rfl .nil)
  ·refine Tr.sr ?_
   refine Tr.va rfl (fun _ _ h1 h2 => run_eql (h1.ev rfl) (h1.ev rfl)) ?_
   refine Tr.asg rfl rfl ?_
   refine Tr.nil (Tr.normThen ?_)
   refine Tr.cond rfl H (fun H => ?_) (fun H => ?_)
   ·refine Tr.region ?_
    refine Tr.mv rfl rfl ?_
    obtain ⟨y199, hy199, H⟩ := bnd H
    refine Tr.callM [0] [sb 59 5 bp0 Am194 cm194 m194] (U := (Option Addr × Nat)) (fun u => (.tuple #[(iv (((⟨#[99, 108, 101, 97, 114, 10]⟩) : ByteArray).size : Int)), .nilIface])) (fun u => True) (fun u => [sb 59 5 bp0 u.1 u.2 y199]) rfl (pk_cons rfl pk_nil) (fun _ => rfl) (wn rfl) rfl Tryz.call29 (evl_cons rfl (evl_cons rfl evl_nil)) (fun W hW hp hE => F_strings_Builder_WriteString_ok m194 Am194 cm194 bp0 (⟨#[99, 108, 101, 97, 114, 10]⟩) y199 hy199 hE) ?_
    intro u hu
    obtain ⟨Ay199_0, cy199_0⟩ := u
    have gy199_0 := hu
    have hgy199_0 : True := gy199_0 --@phi
    show Tr _ _ (uf _ 21 (.tuple #[(iv (((⟨#[99, 108, 101, 97, 114, 10]⟩) : ByteArray).size : Int)), .nilIface])) (up _ 0 (sb 59 5 bp0 Ay199_0 cy199_0 y199)) _
    refine Tr.nil (Tr.normBlock (Tr.normBlock (Tr.normThen ?_)))
    refine Tr.region ?_
    refine Tr.va rfl (fun _ _ h1 h2 => run_add (h1.ev rfl) (h1.ev rfl)) ?_
    refine Tr.mv rfl rfl ?_
    refine Tr.nil ?_
    exact Tr.backThen leL1 (restL1, (iL1 + 1), y199, Ay199_0, cy199_0) ⟨rfl, range_tl hdL1, range_lt hdL1, H⟩ (.cons rfl (.cons rfl (.cons rfl (.cons (congrArg (fun z => some (Value.int .i64 z)) (range_up hdL1 hp1_0.form)) .nil)))) (.cons rfl .nil)
   ·refine Tr.sr ?_
    refine Tr.va rfl (fun _ _ h1 h2 => run_eql (h1.ev rfl) (h1.ev rfl)) ?_
    refine Tr.asg rfl rfl ?_
    refine Tr.nil (Tr.normThen ?_)
    refine Tr.cond rfl H (fun H => ?_) (fun H => ?_)
    ·refine Tr.region ?_
     refine Tr.mv rfl rfl ?_
     refine Tr.va rfl (fun _ _ h1 h2 => run_fieldAddr fo_49_1 (h1.ev rfl)) ?_
     refine Tr.va rfl (fun _ _ h1 h2 => run_load1 ag_9 (h1.ev rfl) (rdb h2 (vs := [(iv xL1.Kind), (sv xL1.Name), (iv xL1.At.X), (iv xL1.At.Y), (.slice Au195_0 (xL1.Points).length cu195_0), (iv xL1.NX), (iv xL1.NY), (.slice Au195_1 (xL1.Steps).length cu195_1)]) (k := 11) rfl 1) rfl) ?_
     obtain ⟨t201, ht201, H⟩ := bnd H
     refine Tr.va rfl (fun _ _ h1 h2 => run_catS (h1.ev rfl) (h1.ev rfl) ht201) ?_
     obtain ⟨t202, ht202, H⟩ := bnd H
     refine Tr.va rfl (fun _ _ h1 h2 => run_catS (h1.ev rfl) (h1.ev rfl) ht202) ?_
     obtain ⟨y203, hy203, H⟩ := bnd H
     refine Tr.callM [0] [sb 59 5 bp0 Am194 cm194 m194] (U := (Option Addr × Nat)) (fun u => (.tuple #[(iv ((t202 : ByteArray).size : Int)), .nilIface])) (fun u => True) (fun u => [sb 59 5 bp0 u.1 u.2 y203]) rfl (pk_cons rfl pk_nil) (fun _ => rfl) (wn rfl) rfl Tryz.call29 (evl_cons rfl (evl_cons rfl evl_nil)) (fun W hW hp hE => F_strings_Builder_WriteString_ok m194 Am194 cm194 bp0 t202 y203 hy203 hE) ?_
     intro u hu
     obtain ⟨Ay203_0, cy203_0⟩ := u
     have gy203_0 := hu
     have hgy203_0 : True := gy203_0 --@phi
     show Tr _ _ (uf _ 29 (.tuple #[(iv ((t202 : ByteArray).size : Int)), .nilIface])) (up _ 0 (sb 59 5 bp0 Ay203_0 cy203_0 y203)) _
     refine Tr.nil (Tr.normBlock (Tr.normBlock (Tr.normThen ?_)))
     refine Tr.region ?_
     refine Tr.va rfl (fun _ _ h1 h2 => run_add (h1.ev rfl) (h1.ev rfl)) ?_
     refine Tr.mv rfl rfl ?_
     refine Tr.nil ?_
     exact Tr.backThen leL1 (restL1, (iL1 + 1), y203, Ay203_0, cy203_0) ⟨rfl, range_tl hdL1, range_lt hdL1, H⟩ (.cons rfl (.cons rfl (.cons rfl (.cons (congrArg (fun z => some (Value.int .i64 z)) (range_up hdL1 hp1_0.form)) .nil)))) (.cons rfl .nil)
    ·refine Tr.sr ?_
     refine Tr.va rfl (fun _ _ h1 h2 => run_eql (h1.ev rfl) (h1.ev rfl)) ?_
     refine Tr.asg rfl rfl ?_
     refine Tr.nil (Tr.normThen ?_)
     refine Tr.cond rfl H (fun H => ?_) (fun H => ?_)
     ·refine Tr.region ?_
      refine Tr.mv rfl rfl ?_
      refine Tr.va rfl (fun _ _ h1 h2 => run_fieldAddr fo_49_2 (h1.ev rfl)) ?_
      refine Tr.va rfl (fun _ _ h1 h2 => run_loadN (cs := [(iv xL1.At.X), (iv xL1.At.Y)]) ag_42 sz_42 (h1.ev rfl) (CellsAt.take (rdb h2 (vs := [(iv xL1.Kind), (sv xL1.Name), (iv xL1.At.X), (iv xL1.At.Y), (.slice Au195_0 (xL1.Points).length cu195_0), (iv xL1.NX), (iv xL1.NY), (.slice Au195_1 (xL1.Steps).length cu195_1)]) (k := 11) rfl 2) 2) rfl) ?_
      refine Tr.buildSlice 12 (e := 42) (vs := [(0, (.agg #[(iv xL1.At.X), (iv xL1.At.Y)]))]) (cs := [(iv xL1.At.X), (iv xL1.At.Y)]) (wn rfl) rfl (evs_cons rfl evs_nil) (by kernel_rfl) fun b205 => ?_
      refine Tr.own 12 fl_TPoint [xL1.At] (css := [[(iv xL1.At.X), (iv xL1.At.Y)]]) rfl (.cons ⟨(), trivial, rfl⟩ .nil) rfl (by decide) (lit_max rfl) ?_
      obtain ⟨y206, hy206, H⟩ := bnd H
      refine Tr.call0 (r := (sv y206)) (wn rfl) rfl Tryz.call31 (evl_cons rfl evl_nil) (fun W hW => F_plot_points_ok [xL1.At] (some ⟨b205, 0, none⟩) 1 (hW.slCall (k := 12) rfl) y206 hy206 (HF.start _)) ?_
      obtain ⟨t207, ht207, H⟩ := bnd H
      refine Tr.va rfl (fun _ _ h1 h2 => run_catS (h1.ev rfl) (h1.ev rfl) ht207) ?_
      obtain ⟨t208, ht208, H⟩ := bnd H
      refine Tr.va rfl (fun _ _ h1 h2 => run_catS (h1.ev rfl) (h1.ev rfl) ht208) ?_
      obtain ⟨y209, hy209, H⟩ := bnd H
      refine Tr.callM [0] [sb 59 5 bp0 Am194 cm194 m194] (U := (Option Addr × Nat)) (fun u => (.tuple #[(iv ((t208 : ByteArray).size : Int)), .nilIface])) (fun u => True) (fun u => [sb 59 5 bp0 u.1 u.2 y209]) rfl (pk_cons rfl pk_nil) (fun _ => rfl) (wn rfl) rfl Tryz.call29 (evl_cons rfl (evl_cons rfl evl_nil)) (fun W hW hp hE => F_strings_Builder_WriteString_ok m194 Am194 cm194 bp0 t208 y209 hy209 hE) ?_
      intro u hu
      obtain ⟨Ay209_0, cy209_0⟩ := u
      have gy209_0 := hu
      have hgy209_0 : True := gy209_0 --@phi
      show Tr _ _ (uf _ 39 (.tuple #[(iv ((t208 : ByteArray).size : Int)), .nilIface])) (up _ 0 (sb 59 5 bp0 Ay209_0 cy209_0 y209)) _
      refine Tr.nil (Tr.normBlock (Tr.normBlock (Tr.normThen ?_)))
      refine Tr.region ?_
      refine Tr.va rfl (fun _ _ h1 h2 => run_add (h1.ev rfl) (h1.ev rfl)) ?_
      refine Tr.mv rfl rfl ?_
      refine Tr.nil ?_
      exact Tr.backThen leL1 (restL1, (iL1 + 1), y209, Ay209_0, cy209_0) ⟨rfl, range_tl hdL1, range_lt hdL1, H⟩ (.cons rfl (.cons rfl (.cons rfl (.cons (congrArg (fun z => some (Value.int .i64 z)) (range_up hdL1 hp1_0.form)) .nil)))) (.cons rfl .nil)
     ·refine Tr.sr ?_
      refine Tr.va rfl (fun _ _ h1 h2 => run_eql (h1.ev rfl) (h1.ev rfl)) ?_
      refine Tr.asg rfl rfl ?_
      refine Tr.nil (Tr.normThen ?_)
      refine Tr.cond rfl H (fun H => ?_) (fun H => ?_)
      ·refine Tr.region ?_
       refine Tr.mv rfl rfl ?_
       refine Tr.va rfl (fun _ _ h1 h2 => run_fieldAddr fo_49_2 (h1.ev rfl)) ?_
       refine Tr.va rfl (fun _ _ h1 h2 => run_loadN (cs := [(iv xL1.At.X), (iv xL1.At.Y)]) ag_42 sz_42 (h1.ev rfl) (CellsAt.take (rdb h2 (vs := [(iv xL1.Kind), (sv xL1.Name), (iv xL1.At.X), (iv xL1.At.Y), (.slice Au195_0 (xL1.Points).length cu195_0), (iv xL1.NX), (iv xL1.NY), (.slice Au195_1 (xL1.Steps).length cu195_1)]) (k := 11) rfl 2) 2) rfl) ?_
       refine Tr.buildSlice 13 (e := 42) (vs := [(0, (.agg #[(iv xL1.At.X), (iv xL1.At.Y)]))]) (cs := [(iv xL1.At.X), (iv xL1.At.Y)]) (wn rfl) rfl (evs_cons rfl evs_nil) (by kernel_rfl) fun b211 => ?_
       refine Tr.own 13 fl_TPoint [xL1.At] (css := [[(iv xL1.At.X), (iv xL1.At.Y)]]) rfl (.cons ⟨(), trivial, rfl⟩ .nil) rfl (by decide) (lit_max rfl) ?_
       obtain ⟨y212, hy212, H⟩ := bnd H
       refine Tr.call0 (r := (sv y212)) (wn rfl) rfl Tryz.call31 (evl_cons rfl evl_nil) (fun W hW => F_plot_points_ok [xL1.At] (some ⟨b211, 0, none⟩) 1 (hW.slCall (k := 13) rfl) y212 hy212 (HF.start _)) ?_
       obtain ⟨t213, ht213, H⟩ := bnd H
       refine Tr.va rfl (fun _ _ h1 h2 => run_catS (h1.ev rfl) (h1.ev rfl) ht213) ?_
       obtain ⟨t214, ht214, H⟩ := bnd H
       refine Tr.va rfl (fun _ _ h1 h2 => run_catS (h1.ev rfl) (h1.ev rfl) ht214) ?_
       obtain ⟨y215, hy215, H⟩ := bnd H
       refine Tr.callM [0] [sb 59 5 bp0 Am194 cm194 m194] (U := (Option Addr × Nat)) (fun u => (.tuple #[(iv ((t214 : ByteArray).size : Int)), .nilIface])) (fun u => True) (fun u => [sb 59 5 bp0 u.1 u.2 y215]) rfl (pk_cons rfl pk_nil) (fun _ => rfl) (wn rfl) rfl Tryz.call29 (evl_cons rfl (evl_cons rfl evl_nil)) (fun W hW hp hE => F_strings_Builder_WriteString_ok m194 Am194 cm194 bp0 t214 y215 hy215 hE) ?_
       intro u hu
       obtain ⟨Ay215_0, cy215_0⟩ := u
       have gy215_0 := hu
       have hgy215_0 : True := gy215_0 --@phi
       show Tr _ _ (uf _ 49 (.tuple #[(iv ((t214 : ByteArray).size : Int)), .nilIface])) (up _ 0 (sb 59 5 bp0 Ay215_0 cy215_0 y215)) _
       refine Tr.nil (Tr.normBlock (Tr.normBlock (Tr.normThen ?_)))
       refine Tr.region ?_
       refine Tr.va rfl (fun _ _ h1 h2 => run_add (h1.ev rfl) (h1.ev rfl)) ?_
       refine Tr.mv rfl rfl ?_
       refine Tr.nil ?_
       exact Tr.backThen leL1 (restL1, (iL1 + 1), y215, Ay215_0, cy215_0) ⟨rfl, range_tl hdL1, range_lt hdL1, H⟩ (.cons rfl (.cons rfl (.cons rfl (.cons (congrArg (fun z => some (Value.int .i64 z)) (range_up hdL1 hp1_0.form)) .nil)))) (.cons rfl .nil)
      ·refine Tr.sr ?_
       refine Tr.va rfl (fun _ _ h1 h2 => run_eql (h1.ev rfl) (h1.ev rfl)) ?_
       refine Tr.asg rfl rfl ?_
       refine Tr.nil (Tr.normThen ?_)
       refine Tr.cond rfl H (fun H => ?_) (fun H => ?_)
       ·refine Tr.region ?_
        refine Tr.mv rfl rfl ?_
        refine Tr.va rfl (fun _ _ h1 h2 => run_fieldAddr fo_49_2 (h1.ev rfl)) ?_
        refine Tr.va rfl (fun _ _ h1 h2 => run_loadN (cs := [(iv xL1.At.X), (iv xL1.At.Y)]) ag_42 sz_42 (h1.ev rfl) (CellsAt.take (rdb h2 (vs := [(iv xL1.Kind), (sv xL1.Name), (iv xL1.At.X), (iv xL1.At.Y), (.slice Au195_0 (xL1.Points).length cu195_0), (iv xL1.NX), (iv xL1.NY), (.slice Au195_1 (xL1.Steps).length cu195_1)]) (k := 11) rfl 2) 2) rfl) ?_
        refine Tr.buildSlice 14 (e := 42) (vs := [(0, (.agg #[(iv xL1.At.X), (iv xL1.At.Y)]))]) (cs := [(iv xL1.At.X), (iv xL1.At.Y)]) (wn rfl) rfl (evs_cons rfl evs_nil) (by kernel_rfl) fun b217 => ?_
        refine Tr.own 14 fl_TPoint [xL1.At] (css := [[(iv xL1.At.X), (iv xL1.At.Y)]]) rfl (.cons ⟨(), trivial, rfl⟩ .nil) rfl (by decide) (lit_max rfl) ?_
        obtain ⟨y218, hy218, H⟩ := bnd H
        refine Tr.call0 (r := (sv y218)) (wn rfl) rfl Tryz.call31 (evl_cons rfl evl_nil) (fun W hW => F_plot_points_ok [xL1.At] (some ⟨b217, 0, none⟩) 1 (hW.slCall (k := 14) rfl) y218 hy218 (HF.start _)) ?_
        obtain ⟨t219, ht219, H⟩ := bnd H
        refine Tr.va rfl (fun _ _ h1 h2 => run_catS (h1.ev rfl) (h1.ev rfl) ht219) ?_
        obtain ⟨t220, ht220, H⟩ := bnd H
        refine Tr.va rfl (fun _ _ h1 h2 => run_catS (h1.ev rfl) (h1.ev rfl) ht220) ?_
        obtain ⟨y221, hy221, H⟩ := bnd H
        refine Tr.callM [0] [sb 59 5 bp0 Am194 cm194 m194] (U := (Option Addr × Nat)) (fun u => (.tuple #[(iv ((t220 : ByteArray).size : Int)), .nilIface])) (fun u => True) (fun u => [sb 59 5 bp0 u.1 u.2 y221]) rfl (pk_cons rfl pk_nil) (fun _ => rfl) (wn rfl) rfl Tryz.call29 (evl_cons rfl (evl_cons rfl evl_nil)) (fun W hW hp hE => F_strings_Builder_WriteString_ok m194 Am194 cm194 bp0 t220 y221 hy221 hE) ?_
        intro u hu
        obtain ⟨Ay221_0, cy221_0⟩ := u
        have gy221_0 := hu
        have hgy221_0 : True := gy221_0 --@phi
        show Tr _ _ (uf _ 59 (.tuple #[(iv ((t220 : ByteArray).size : Int)), .nilIface])) (up _ 0 (sb 59 5 bp0 Ay221_0 cy221_0 y221)) _
        refine Tr.nil (Tr.normBlock (Tr.normBlock (Tr.normThen ?_)))
        refine Tr.region ?_
        refine Tr.va rfl (fun _ _ h1 h2 => run_add (h1.ev rfl) (h1.ev rfl)) ?_
        refine Tr.mv rfl rfl ?_
        refine Tr.nil ?_
        exact Tr.backThen leL1 (restL1, (iL1 + 1), y221, Ay221_0, cy221_0) ⟨rfl, range_tl hdL1, range_lt hdL1, H⟩ (.cons rfl (.cons rfl (.cons rfl (.cons (congrArg (fun z => some (Value.int .i64 z)) (range_up hdL1 hp1_0.form)) .nil)))) (.cons rfl .nil)
       ·refine Tr.sr ?_
        refine Tr.va rfl (fun _ _ h1 h2 => run_eql (h1.ev rfl) (h1.ev rfl)) ?_
        refine Tr.asg rfl rfl ?_
        refine Tr.nil (Tr.normThen ?_)
        refine Tr.cond rfl H (fun H => ?_) (fun H => ?_)
        ·refine Tr.region ?_
         refine Tr.mv rfl rfl ?_
         refine Tr.va rfl (fun _ _ h1 h2 => run_fieldAddr fo_49_3 (h1.ev rfl)) ?_
         refine Tr.va rfl (fun _ _ h1 h2 => run_load1 ag_47 (h1.ev rfl) (rdb h2 (vs := [(iv xL1.Kind), (sv xL1.Name), (iv xL1.At.X), (iv xL1.At.Y), (.slice Au195_0 (xL1.Points).length cu195_0), (iv xL1.NX), (iv xL1.NY), (.slice Au195_1 (xL1.Steps).length cu195_1)]) (k := 11) rfl 4) rfl) ?_
         obtain ⟨y223, hy223, H⟩ := bnd H
         refine Tr.call0 (r := (sv y223)) (wn rfl) rfl Tryz.call31 (evl_cons rfl evl_nil) (fun W hW => F_plot_points_ok xL1.Points Au195_0 cu195_0 (hoku195_0.ext hW.extAll) y223 hy223 (HF.start _)) ?_
         obtain ⟨t224, ht224, H⟩ := bnd H
         refine Tr.va rfl (fun _ _ h1 h2 => run_catS (h1.ev rfl) (h1.ev rfl) ht224) ?_
         obtain ⟨t225, ht225, H⟩ := bnd H
         refine Tr.va rfl (fun _ _ h1 h2 => run_catS (h1.ev rfl) (h1.ev rfl) ht225) ?_
         obtain ⟨y226, hy226, H⟩ := bnd H
         refine Tr.callM [0] [sb 59 5 bp0 Am194 cm194 m194] (U := (Option Addr × Nat)) (fun u => (.tuple #[(iv ((t225 : ByteArray).size : Int)), .nilIface])) (fun u => True) (fun u => [sb 59 5 bp0 u.1 u.2 y226]) rfl (pk_cons rfl pk_nil) (fun _ => rfl) (wn rfl) rfl Tryz.call29 (evl_cons rfl (evl_cons rfl evl_nil)) (fun W hW hp hE => F_strings_Builder_WriteString_ok m194 Am194 cm194 bp0 t225 y226 hy226 hE) ?_
         intro u hu
         obtain ⟨Ay226_0, cy226_0⟩ := u
         have gy226_0 := hu
         have hgy226_0 : True := gy226_0 --@phi
         show Tr _ _ (uf _ 68 (.tuple #[(iv ((t225 : ByteArray).size : Int)), .nilIface])) (up _ 0 (sb 59 5 bp0 Ay226_0 cy226_0 y226)) _
         refine Tr.nil (Tr.normBlock (Tr.normBlock (Tr.normThen ?_)))
         refine Tr.region ?_
         refine Tr.va rfl (fun _ _ h1 h2 => run_add (h1.ev rfl) (h1.ev rfl)) ?_
         refine Tr.mv rfl rfl ?_
         refine Tr.nil ?_
         exact Tr.backThen leL1 (restL1, (iL1 + 1), y226, Ay226_0, cy226_0) ⟨rfl, range_tl hdL1, range_lt hdL1, H⟩ (.cons rfl (.cons rfl (.cons rfl (.cons (congrArg (fun z => some (Value.int .i64 z)) (range_up hdL1 hp1_0.form)) .nil)))) (.cons rfl .nil)
        ·refine Tr.sr ?_
         refine Tr.va rfl (fun _ _ h1 h2 => run_eql (h1.ev rfl) (h1.ev rfl)) ?_
         refine Tr.asg rfl rfl ?_
         refine Tr.nil (Tr.normThen ?_)
         refine Tr.cond rfl H (fun H => ?_) (fun H => ?_)
         ·refine Tr.sr ?_
          refine Tr.mv rfl rfl ?_
          refine Tr.va rfl (fun _ _ h1 h2 => run_fieldAddr fo_49_4 (h1.ev rfl)) ?_
          refine Tr.va rfl (fun _ _ h1 h2 => run_load1 ag_3 (h1.ev rfl) (rdb h2 (vs := [(iv xL1.Kind), (sv xL1.Name), (iv xL1.At.X), (iv xL1.At.Y), (.slice Au195_0 (xL1.Points).length cu195_0), (iv xL1.NX), (iv xL1.NY), (.slice Au195_1 (xL1.Steps).length cu195_1)]) (k := 11) rfl 5) rfl) ?_
          refine Tr.va rfl (fun _ _ h1 h2 => run_fieldAddr fo_49_5 (h1.ev rfl)) ?_
          refine Tr.va rfl (fun _ _ h1 h2 => run_load1 ag_3 (h1.ev rfl) (rdb h2 (vs := [(iv xL1.Kind), (sv xL1.Name), (iv xL1.At.X), (iv xL1.At.Y), (.slice Au195_0 (xL1.Points).length cu195_0), (iv xL1.NX), (iv xL1.NY), (.slice Au195_1 (xL1.Steps).length cu195_1)]) (k := 11) rfl 6) rfl) ?_
          refine Tr.build (vs := [(0, (iv xL1.NX)), (1, (iv xL1.NY))]) (cs := [(iv xL1.NX), (iv xL1.NY)]) (wn rfl) rfl (evs_cons rfl (evs_cons rfl evs_nil)) (by kernel_rfl) ?_
          refine Tr.va rfl (fun _ _ h1 h2 => run_fieldAddr fo_49_2 (h1.ev rfl)) ?_
          refine Tr.va rfl (fun _ _ h1 h2 => run_loadN (cs := [(iv xL1.At.X), (iv xL1.At.Y)]) ag_42 sz_42 (h1.ev rfl) (CellsAt.take (rdb h2 (vs := [(iv xL1.Kind), (sv xL1.Name), (iv xL1.At.X), (iv xL1.At.Y), (.slice Au195_0 (xL1.Points).length cu195_0), (iv xL1.NX), (iv xL1.NY), (.slice Au195_1 (xL1.Steps).length cu195_1)]) (k := 11) rfl 2) 2) rfl) ?_
          refine Tr.buildSlice 15 (e := 42) (vs := [(0, (.agg #[(iv xL1.NX), (iv xL1.NY)])), (1, (.agg #[(iv xL1.At.X), (iv xL1.At.Y)]))]) (cs := [(iv xL1.NX), (iv xL1.NY), (iv xL1.At.X), (iv xL1.At.Y)]) (wn rfl) rfl (evs_cons rfl (evs_cons rfl evs_nil)) (by kernel_rfl) fun b228 => ?_
          refine Tr.own 15 fl_TPoint [(TPoint.mk xL1.NX xL1.NY), xL1.At] (css := [[(iv xL1.NX), (iv xL1.NY)], [(iv xL1.At.X), (iv xL1.At.Y)]]) rfl (.cons ⟨(), trivial, rfl⟩ (.cons ⟨(), trivial, rfl⟩ .nil)) rfl (by decide) (lit_max rfl) ?_
          obtain ⟨y229, hy229, H⟩ := bnd H
          refine Tr.call0 (r := (sv y229)) (wn rfl) rfl Tryz.call31 (evl_cons rfl evl_nil) (fun W hW => F_plot_points_ok [(TPoint.mk xL1.NX xL1.NY), xL1.At] (some ⟨b228, 0, none⟩) 2 (hW.slCall (k := 15) rfl) y229 hy229 (HF.start _)) ?_
          obtain ⟨t230, ht230, H⟩ := bnd H
          refine Tr.va rfl (fun _ _ h1 h2 => run_catS (h1.ev rfl) (h1.ev rfl) ht230) ?_
          obtain ⟨t231, ht231, H⟩ := bnd H
          refine Tr.va rfl (fun _ _ h1 h2 => run_catS (h1.ev rfl) (h1.ev rfl) ht231) ?_
          obtain ⟨y232, hy232, H⟩ := bnd H
          refine Tr.callM [0] [sb 59 5 bp0 Am194 cm194 m194] (U := (Option Addr × Nat)) (fun u => (.tuple #[(iv ((t231 : ByteArray).size : Int)), .nilIface])) (fun u => True) (fun u => [sb 59 5 bp0 u.1 u.2 y232]) rfl (pk_cons rfl pk_nil) (fun _ => rfl) (wn rfl) rfl Tryz.call29 (evl_cons rfl (evl_cons rfl evl_nil)) (fun W hW hp hE => F_strings_Builder_WriteString_ok m194 Am194 cm194 bp0 t231 y232 hy232 hE) ?_
          intro u hu
          obtain ⟨Ay232_0, cy232_0⟩ := u
          have gy232_0 := hu
          have hgy232_0 : True := gy232_0 --@phi
          show Tr _ _ (uf _ 83 (.tuple #[(iv ((t231 : ByteArray).size : Int)), .nilIface])) (up _ 0 (sb 59 5 bp0 Ay232_0 cy232_0 y232)) _
          refine Tr.nil (Tr.normThen ?_)
          refine Tr.sr ?_
          refine Tr.mv rfl rfl ?_
          refine Tr.va rfl (fun _ _ h1 h2 => run_fieldAddr fo_49_6 (h1.ev rfl)) ?_
          refine Tr.va rfl (fun _ _ h1 h2 => run_load1 ag_23 (h1.ev rfl) (rdb h2 (vs := [(iv xL1.Kind), (sv xL1.Name), (iv xL1.At.X), (iv xL1.At.Y), (.slice Au195_0 (xL1.Points).length cu195_0), (iv xL1.NX), (iv xL1.NY), (.slice Au195_1 (xL1.Steps).length cu195_1)]) (k := 11) rfl 7) rfl) ?_
          obtain ⟨y234, hy234, H⟩ := bnd H
          refine Tr.callM [0] [sb 59 5 bp0 Ay232_0 cy232_0 y232] (U := (Option Addr × Nat)) (fun u => (.tuple #[])) (fun u => True) (fun u => [sb 59 5 bp0 u.1 u.2 y234]) rfl (pk_cons rfl pk_nil) (fun _ => rfl) (wn rfl) rfl Tryz.call32 (evl_cons rfl (evl_cons rfl evl_nil)) (fun W hW hp hE => hrec y232 Ay232_0 cy232_0 bp0 xL1.Steps Au195_1 cu195_1 (hoku195_1.ext (hW.extS hp)) y234 hy234 hE) ?_
          intro u hu
          obtain ⟨Ay234_0, cy234_0⟩ := u
          have gy234_0 := hu
          have hgy234_0 : True := gy234_0 --@phi
          show Tr _ _ (uf _ 87 (.tuple #[])) (up _ 0 (sb 59 5 bp0 Ay234_0 cy234_0 y234)) _
          refine Tr.nil (Tr.normThen ?_)
          refine Tr.region ?_
          refine Tr.mv rfl rfl ?_
          obtain ⟨y236, hy236, H⟩ := bnd H
          refine Tr.callM [0] [sb 59 5 bp0 Ay234_0 cy234_0 y234] (U := (Option Addr × Nat)) (fun u => (.tuple #[(iv (((⟨#[100, 111, 110, 101, 10]⟩) : ByteArray).size : Int)), .nilIface])) (fun u => True) (fun u => [sb 59 5 bp0 u.1 u.2 y236]) rfl (pk_cons rfl pk_nil) (fun _ => rfl) (wn rfl) rfl Tryz.call29 (evl_cons rfl (evl_cons rfl evl_nil)) (fun W hW hp hE => F_strings_Builder_WriteString_ok y234 Ay234_0 cy234_0 bp0 (⟨#[100, 111, 110, 101, 10]⟩) y236 hy236 hE) ?_
          intro u hu
          obtain ⟨Ay236_0, cy236_0⟩ := u
          have gy236_0 := hu
          have hgy236_0 : True := gy236_0 --@phi
          show Tr _ _ (uf _ 89 (.tuple #[(iv (((⟨#[100, 111, 110, 101, 10]⟩) : ByteArray).size : Int)), .nilIface])) (up _ 0 (sb 59 5 bp0 Ay236_0 cy236_0 y236)) _
          refine Tr.nil (Tr.normBlock (Tr.normBlock (Tr.normThen ?_)))
          refine Tr.region ?_
          refine Tr.va rfl (fun _ _ h1 h2 => run_add (h1.ev rfl) (h1.ev rfl)) ?_
          refine Tr.mv rfl rfl ?_
          refine Tr.nil ?_
          exact Tr.backThen leL1 (restL1, (iL1 + 1), y236, Ay236_0, cy236_0) ⟨rfl, range_tl hdL1, range_lt hdL1, H⟩ (.cons rfl (.cons rfl (.cons rfl (.cons (congrArg (fun z => some (Value.int .i64 z)) (range_up hdL1 hp1_0.form)) .nil)))) (.cons rfl .nil)
         ·refine Tr.skip (Tr.normBlock (Tr.normBlock (Tr.normThen ?_)))
          refine Tr.region ?_
          refine Tr.va rfl (fun _ _ h1 h2 => run_add (h1.ev rfl) (h1.ev rfl)) ?_
          refine Tr.mv rfl rfl ?_
          refine Tr.nil ?_
          exact Tr.backThen leL1 (restL1, (iL1 + 1), m194, Am194, cm194) ⟨rfl, range_tl hdL1, range_lt hdL1, H⟩ (.cons rfl (.cons rfl (.cons rfl (.cons (congrArg (fun z => some (Value.int .i64 z)) (range_up hdL1 hp1_0.form)) .nil)))) (.cons rfl .nil)
theorem F_plot_writeSteps_ok : ∀ (N : Nat) {w : Bs} (p0 : ByteArray) (Ap0_0 : Option Addr) (cp0_0 : Nat) (bp0 : Nat) (p1 : (List TPlotStep)) (Ap1_0 : Option Addr) (cp1_0 : Nat) (hp1_0 : Sl w.R w.W fl_TPlotStep Ap1_0 cp1_0 p1) (r : ByteArray) (H : F_plot_writeSteps N p0 p1 = some r) (hE : HF w w.W (LEn [sb 59 5 bp0 Ap0_0 cp0_0 p0])), Calls Tryz.prog 32 [(.pointer (some ⟨bp0, 0, none⟩)), (.slice Ap1_0 (p1).length cp1_0)].toArray w.W fun e W' => ∃ u : (Option Addr × Nat), e = .returned (.tuple #[]) ∧ (True) ∧ HF w W' (LEn [sb 59 5 bp0 u.1 u.2 r])
 | 0 => by intros; rename_i H _; cases H
 | N + 1 => F_plot_writeSteps_b_ok N (F_plot_writeSteps N) (F_plot_writeSteps_ok N)

theorem F_strings_Builder_Len_ok {w : Bs} (p0 : ByteArray) (Ap0_0 : Option Addr) (cp0_0 : Nat) (bp0 : Nat) (r : (Int × ByteArray)) (H : sbL p0 = some r) (hE : HF w w.W (LEn [sb 59 5 bp0 Ap0_0 cp0_0 p0])) : Calls Tryz.prog 33 [(.pointer (some ⟨bp0, 0, none⟩))].toArray w.W fun e W' => ∃ u : (Option Addr × Nat), e = .returned (iv r.1) ∧ (True) ∧ HF w W' (LEn [sb 59 5 bp0 u.1 u.2 r.2]) :=
 sb_len (ρ := Tryz.bld33_ren) Tryz.bld33 H hE

end Go.Proofs.YtocjndhpgjccoaaGreatDoor
namespace Go.Proofs
open Go.Shelf
def Tryz.bld34_ren : Go.Shelf.Ren := ⟨fun | 169 => 34 | n => n, fun | 5 => 5 | 37 => 57 | 70 => 56 | 72 => 59 | 127 => 107 | n => n, fun n => n⟩
theorem Tryz.bld34 : Go.Proofs.Lays.n169 Tryz.prog Tryz.bld34_ren := {
 mixed := by kernel_rfl
 f169 := Tryz.func34.trans (congrArg some (by kernel_rfl))
 t0 := Tryz.underlying0
 a0 := Tryz.isAgg0
 z0 := Tryz.sizeOf0
 v0 := Tryz.zeroValue0
 t3 := Tryz.underlying3
 a3 := Tryz.isAgg3
 z3 := Tryz.sizeOf3
 v3 := Tryz.zeroValue3
 t9 := Tryz.underlying9
 a9 := Tryz.isAgg9
 z9 := Tryz.sizeOf9
 v9 := Tryz.zeroValue9
 t37 := Tryz.underlying57
 a37 := Tryz.isAgg57
 z37 := Tryz.sizeOf57
 v37 := Tryz.zeroValue57
 t70 := Tryz.underlying56
 a70 := Tryz.isAgg56
 z70 := Tryz.sizeOf56
 v70 := Tryz.zeroValue56
 t72 := Tryz.underlying59
 a72 := Tryz.isAgg59
 z72 := Tryz.sizeOf59
 v72 := Tryz.zeroValue59
 t127 := Tryz.underlying107
 a127 := Tryz.isAgg107
 z127 := Tryz.sizeOf107
 v127 := Tryz.zeroValue107
}
end Go.Proofs
namespace Go.Proofs.YtocjndhpgjccoaaGreatDoor
open Go.RowKit
theorem bX34 : Builder.Extra Tryz.prog Tryz.bld34_ren where
 sizeBuilder := by kernel_rfl
 liesBuilder := by kernel_rfl
 t5 := Tryz.underlying5
 a5 := Tryz.isAgg5
 z5 := Tryz.sizeOf5
 v5 := Tryz.zeroValue5
 infoByte := by kernel_rfl
 cellsByte := by kernel_rfl
 sizeByte := by kernel_rfl
 neB5 := by decide
theorem F_strings_Builder_String_ok {w : Bs} (p0 : ByteArray) (Ap0_0 : Option Addr) (cp0_0 : Nat) (bp0 : Nat) (r : (ByteArray × ByteArray)) (H : sbS p0 = some r) (hE : HF w w.W (LEn [sb 59 5 bp0 Ap0_0 cp0_0 p0])) : Calls Tryz.prog 34 [(.pointer (some ⟨bp0, 0, none⟩))].toArray w.W fun e W' => ∃ u : (Option Addr × Nat), e = .returned (sv r.1) ∧ (True) ∧ HF w W' (LEn [sb 59 5 bp0 u.1 u.2 r.2]) :=
 sb_string (ρ := Tryz.bld34_ren) Tryz.bld34 bX34 H hE

theorem F_plot_Text_ok (N : Nat) {w : Bs} (p0 : TPlot) (Ap0_0 : Option Addr) (cp0_0 : Nat) (hp0_0 : Sl w.R w.W fl_TPlotTool Ap0_0 cp0_0 p0.Tools) (Ap0_1 : Option Addr) (cp0_1 : Nat) (hp0_1 : Sl w.R w.W fl_TPlotStep Ap0_1 cp0_1 p0.Steps) (r : (ByteArray × Int)) (H : F_plot_Text N p0 = some r) (hE : HF w w.W E0) : Calls Tryz.prog 12 [(.agg #[(iv p0.Unit), (.slice Ap0_0 (p0.Tools).length cp0_0), (.slice Ap0_1 (p0.Steps).length cp0_1)])].toArray w.W fun e W' => e = .returned (.tuple #[(sv r.1), (iv r.2)]) ∧ HF w W' E0 := by
 unfold F_plot_Text at H
 have leB := Bs.Le.refl w
 refine Tr.enter (n := 61) Tryz.func12 rfl rfl rfl hE ?_
 refine Tr.sr ?_
 refine Tr.box 1 (cs := [(iv p0.Unit), (.slice Ap0_0 (p0.Tools).length cp0_0), (.slice Ap0_1 (p0.Steps).length cp0_1)]) (wn rfl) rfl rfl rfl fun b100 => ?_
 refine Tr.asg rfl rfl ?_
 refine Tr.asg rfl rfl ?_
 refine Tr.nil (Tr.normThen ?_)
 refine Tr.seq ?_
 refine Tr.sr ?_
 refine Tr.va rfl (fun _ _ h1 h2 => run_loadN (cs := [(iv p0.Unit), (.slice Ap0_0 (p0.Tools).length cp0_0), (.slice Ap0_1 (p0.Steps).length cp0_1)]) ag_25 sz_25 (h1.ev rfl) (CellsAt.take (rdb h2 (vs := [(iv p0.Unit), (.slice Ap0_0 (p0.Tools).length cp0_0), (.slice Ap0_1 (p0.Steps).length cp0_1)]) (k := 1) rfl 0) 3) rfl) ?_
 obtain ⟨y101, hy101, H⟩ := bnd H
 refine Tr.call0 (r := (iv y101)) (wn rfl) rfl Tryz.call15 (evl_cons rfl evl_nil) (fun W hW => F_plot_CheckPlot_ok N p0 Ap0_0 cp0_0 (hp0_0.ext hW.extAll) Ap0_1 cp0_1 (hp0_1.ext hW.extAll) y101 hy101 (HF.start _)) ?_
 refine Tr.asg rfl rfl ?_
 refine Tr.nil (Tr.normThen ?_)
 refine Tr.sr ?_
 refine Tr.mv rfl rfl ?_
 refine Tr.va rfl (fun _ _ h1 h2 => run_neq (h1.ev rfl) (h1.ev rfl)) ?_
 refine Tr.nil (Tr.normThen ?_)
 refine Tr.cond rfl H (fun H => ?_) (fun H => ?_)
 ·refine Tr.sr ?_
  refine Tr.mv rfl rfl ?_
  refine Tr.asg rfl rfl ?_
  refine Tr.asg rfl rfl ?_
  refine Tr.nil (Tr.normThen ?_)
  refine Tr.ret (Tr.retThen ?_)
  obtain rfl := Option.some.inj H
  exact Tr.out (m := [(sv ByteArray.empty), (iv y101)]) [] (res_tmp rfl (res_tmp rfl res_nil)) (fun W hW => ⟨rfl, hW.low leB⟩)
 ·refine Tr.skip (Tr.normThen ?_)
  refine Tr.sr ?_
  refine Tr.sbNew (e := 5) 2 (wn rfl) rfl zb_59 fun b102 => ?_
  refine Tr.nil (Tr.normThen ?_)
  refine Tr.sr ?_
  refine Tr.va rfl (fun _ _ h1 h2 => run_fieldAddr fo_25_0 (h1.ev rfl)) ?_
  refine Tr.va rfl (fun _ _ h1 h2 => run_load1 ag_3 (h1.ev rfl) (rdb h2 (vs := [(iv p0.Unit), (.slice Ap0_0 (p0.Tools).length cp0_0), (.slice Ap0_1 (p0.Steps).length cp0_1)]) (k := 1) rfl 0) rfl) ?_
  obtain ⟨y103, hy103, H⟩ := bnd H
  refine Tr.call0 (r := (sv y103)) (wn rfl) rfl Tryz.call30 (evl_cons rfl evl_nil) (fun W hW => F_strconv_Itoa_ok p0.Unit y103 hy103 (HF.start _)) ?_
  obtain ⟨t104, ht104, H⟩ := bnd H
  refine Tr.va rfl (fun _ _ h1 h2 => run_catS (h1.ev rfl) (h1.ev rfl) ht104) ?_
  obtain ⟨t105, ht105, H⟩ := bnd H
  refine Tr.va rfl (fun _ _ h1 h2 => run_catS (h1.ev rfl) (h1.ev rfl) ht105) ?_
  obtain ⟨y106, hy106, H⟩ := bnd H
  refine Tr.callM [2] [sb 59 5 b102 none 0 ByteArray.empty] (U := (Option Addr × Nat)) (fun u => (.tuple #[(iv ((t105 : ByteArray).size : Int)), .nilIface])) (fun u => True) (fun u => [sb 59 5 b102 u.1 u.2 y106]) rfl (pk_cons rfl pk_nil) (fun _ => rfl) (wn rfl) rfl Tryz.call29 (evl_cons rfl (evl_cons rfl evl_nil)) (fun W hW hp hE => F_strings_Builder_WriteString_ok ByteArray.empty none 0 b102 t105 y106 hy106 hE) ?_
  intro u hu
  obtain ⟨Ay106_0, cy106_0⟩ := u
  have gy106_0 := hu
  have hgy106_0 : True := gy106_0 --@phi
  show Tr _ _ (uf _ 20 (.tuple #[(iv ((t105 : ByteArray).size : Int)), .nilIface])) (up _ 2 (sb 59 5 b102 Ay106_0 cy106_0 y106)) _
  refine Tr.nil (Tr.normThen ?_)
  refine Tr.seq ?_
  refine Tr.sr ?_
  refine Tr.va rfl (fun _ _ h1 h2 => run_fieldAddr fo_25_1 (h1.ev rfl)) ?_
  refine Tr.va rfl (fun _ _ h1 h2 => run_load1 ag_22 (h1.ev rfl) (rdb h2 (vs := [(iv p0.Unit), (.slice Ap0_0 (p0.Tools).length cp0_0), (.slice Ap0_1 (p0.Steps).length cp0_1)]) (k := 1) rfl 1) rfl) ?_
  refine Tr.va rfl (fun _ _ h1 h2 => run_len un_22 (h1.ev rfl)) ?_
  refine Tr.mv rfl rfl ?_
  refine Tr.nil (Tr.normThen ?_)
  refine Tr.block ?_
  refine Tr.loop (σ := (List TPlotTool) × Nat × ByteArray × (Option Addr) × Nat) (fun m w s => m = s.1.length + 1 ∧ s.1 = List.drop s.2.1 p0.Tools ∧ s.2.1 ≤ p0.Tools.length ∧ F_plot_Text_L3 N p0 s.1 s.2.1 s.2.2.1 = some r) (fun s => [(1, (.pointer (some ⟨b100, 0, none⟩))), (5, (.pointer (some ⟨b102, 0, none⟩))), (22, (.slice Ap0_0 (p0.Tools).length cp0_0)), (23, (iv (p0.Tools.length : Int))), (24, (iv (s.2.1 : Int)))]) (fun s => [(1, bx b100 #[(iv p0.Unit), (.slice Ap0_0 (p0.Tools).length cp0_0), (.slice Ap0_1 (p0.Steps).length cp0_1)] 25), (2, sb 59 5 b102 s.2.2.2.1 s.2.2.2.2 s.2.2.1)]) (p0.Tools.length + 1) (p0.Tools, 0, y106, Ay106_0, cy106_0) ⟨rfl, rfl, Nat.zero_le _, H⟩ (.cons rfl (.cons rfl (.cons rfl (.cons rfl (.cons rfl .nil))))) (.cons rfl (.cons rfl .nil)) (fun _ _ h => absurd h.1 (by simp)) ?_
  intro w leL3 m s hs
  obtain ⟨restL3, iL3, m178, Am178, cm178⟩ := s
  obtain ⟨hmL3, hdL3, hiL3, H⟩ := hs
  replace hdL3 : restL3 = List.drop iL3 p0.Tools := hdL3
  replace H : F_plot_Text_L3 N p0 restL3 iL3 m178 = some r := H
  replace hmL3 : m + 1 = restL3.length + 1 := hmL3
  replace hp0_0 := hp0_0.leR leL3
  replace hp0_1 := hp0_1.leR leL3
  replace leB := leB.trans leL3
  obtain rfl : m = restL3.length := by omega
  clear hmL3
  show Tr _ _ (LF [(1, (.pointer (some ⟨b100, 0, none⟩))), (5, (.pointer (some ⟨b102, 0, none⟩))), (22, (.slice Ap0_0 (p0.Tools).length cp0_0)), (23, (iv (p0.Tools.length : Int))), (24, (iv (iL3 : Int)))]) (LE [(1, bx b100 #[(iv p0.Unit), (.slice Ap0_0 (p0.Tools).length cp0_0), (.slice Ap0_1 (p0.Steps).length cp0_1)] 25), (2, sb 59 5 b102 Am178 cm178 m178)]) _
  cases restL3 with
  | nil =>
   rw [F_plot_Text_L3.eq_1] at H
   refine Tr.sr ?_
   refine Tr.va rfl (fun _ _ h1 h2 => run_lss (h1.ev rfl) (h1.ev rfl)) ?_
   refine Tr.nil (Tr.normThen ?_)
   refine Tr.seq ?_
   refine Tr.condF rfl (range_nil hdL3) ?_
   refine Tr.exit (Tr.exitThen (Tr.exitThen (Tr.exitBlock (Tr.normThen ?_))))
   refine Tr.sr ?_
   refine Tr.va rfl (fun _ _ h1 h2 => run_fieldAddr fo_25_2 (h1.ev rfl)) ?_
   refine Tr.va rfl (fun _ _ h1 h2 => run_load1 ag_23 (h1.ev rfl) (rdb h2 (vs := [(iv p0.Unit), (.slice Ap0_0 (p0.Tools).length cp0_0), (.slice Ap0_1 (p0.Steps).length cp0_1)]) (k := 1) rfl 2) rfl) ?_
   obtain ⟨y179, hy179, H⟩ := bnd H
   refine Tr.callM [2] [sb 59 5 b102 Am178 cm178 m178] (U := (Option Addr × Nat)) (fun u => (.tuple #[])) (fun u => True) (fun u => [sb 59 5 b102 u.1 u.2 y179]) rfl (pk_cons rfl pk_nil) (fun _ => rfl) (wn rfl) rfl Tryz.call32 (evl_cons rfl (evl_cons rfl evl_nil)) (fun W hW hp hE => F_plot_writeSteps_ok N m178 Am178 cm178 b102 p0.Steps Ap0_1 cp0_1 (hp0_1.ext (hW.extS hp)) y179 hy179 hE) ?_
   intro u hu
   obtain ⟨Ay179_0, cy179_0⟩ := u
   have gy179_0 := hu
   have hgy179_0 : True := gy179_0 --@phi
   show Tr _ _ (uf _ 57 (.tuple #[])) (up _ 2 (sb 59 5 b102 Ay179_0 cy179_0 y179)) _
   refine Tr.nil (Tr.normThen ?_)
   refine Tr.seq ?_
   refine Tr.sr ?_
   obtain ⟨y181, hy181, H⟩ := bnd H
   refine Tr.callM [2] [sb 59 5 b102 Ay179_0 cy179_0 y179] (U := (Option Addr × Nat)) (fun u => (iv y181.1)) (fun u => True) (fun u => [sb 59 5 b102 u.1 u.2 y181.2]) rfl (pk_cons rfl pk_nil) (fun _ => rfl) (wn rfl) rfl Tryz.call33 (evl_cons rfl evl_nil) (fun W hW hp hE => F_strings_Builder_Len_ok y179 Ay179_0 cy179_0 b102 y181 hy181 hE) ?_
   intro u hu
   obtain ⟨Ay181_0, cy181_0⟩ := u
   have gy181_0 := hu
   have hgy181_0 : True := gy181_0 --@phi
   show Tr _ _ (uf _ 58 (iv y181.1)) (up _ 2 (sb 59 5 b102 Ay181_0 cy181_0 y181.2)) _
   refine Tr.va rfl (fun _ _ h1 h2 => run_gtr (h1.ev rfl) (h1.ev rfl)) ?_
   refine Tr.nil (Tr.normThen ?_)
   refine Tr.cond rfl H (fun H => ?_) (fun H => ?_)
   ·refine Tr.sr ?_
    refine Tr.asg rfl rfl ?_
    refine Tr.asg rfl rfl ?_
    refine Tr.nil (Tr.normThen ?_)
    refine Tr.ret (Tr.retThen ?_)
    obtain rfl := Option.some.inj H
    exact Tr.out (m := [(sv ByteArray.empty), (iv 2)]) [] (res_tmp rfl (res_tmp rfl res_nil)) (fun W hW => ⟨rfl, hW.low leB⟩)
   ·refine Tr.skip (Tr.normThen ?_)
    refine Tr.sr ?_
    obtain ⟨y183, hy183, H⟩ := bnd H
    refine Tr.callM [2] [sb 59 5 b102 Ay181_0 cy181_0 y181.2] (U := (Option Addr × Nat)) (fun u => (sv y183.1)) (fun u => True) (fun u => [sb 59 5 b102 u.1 u.2 y183.2]) rfl (pk_cons rfl pk_nil) (fun _ => rfl) (wn rfl) rfl Tryz.call34 (evl_cons rfl evl_nil) (fun W hW hp hE => F_strings_Builder_String_ok y181.2 Ay181_0 cy181_0 b102 y183 hy183 hE) ?_
    intro u hu
    obtain ⟨Ay183_0, cy183_0⟩ := u
    have gy183_0 := hu
    have hgy183_0 : True := gy183_0 --@phi
    show Tr _ _ (uf _ 60 (sv y183.1)) (up _ 2 (sb 59 5 b102 Ay183_0 cy183_0 y183.2)) _
    refine Tr.asg rfl rfl ?_
    refine Tr.asg rfl rfl ?_
    refine Tr.nil (Tr.normThen ?_)
    refine Tr.ret ?_
    obtain rfl := Option.some.inj H
    exact Tr.out (m := [(sv y183.1), (iv 0)]) [] (res_tmp rfl (res_tmp rfl res_nil)) (fun W hW => ⟨rfl, hW.low leB⟩)
  | cons xL3 restL3 =>
   rw [F_plot_Text_L3.eq_2] at H
   refine Tr.sr ?_
   refine Tr.va rfl (fun _ _ h1 h2 => run_lss (h1.ev rfl) (h1.ev rfl)) ?_
   refine Tr.nil (Tr.normThen ?_)
   refine Tr.seq ?_
   refine Tr.condT rfl (range_on hdL3) ?_
   refine Tr.skip (Tr.normThen ?_)
   refine Tr.seq ?_
   refine Tr.block ?_
   refine Tr.sr ?_
   obtain ⟨u185, hRu185, hoku185, hcu185⟩ := (hp0_0).el (range_at hdL3)
   obtain ⟨Au185_0, cu185_0⟩ := u185
   have hoku185_0 := hoku185
   replace hoku185_0 : Sl w.R w.W fl_TRect Au185_0 cu185_0 xL3.Rects := hoku185_0
   refine Tr.va rfl (fun _ _ h1 h2 => run_indexAddr el_22 (h1.ev rfl) hp0_0.form (h1.ev rfl) (Int.natCast_nonneg _) (range_lt hdL3)) ?_
   refine Tr.va rfl (fun _ _ h1 h2 => run_loadN (cs := [(sv xL3.Name), (.slice Au185_0 (xL3.Rects).length cu185_0)]) ag_54 sz_54 (h1.ev rfl) (CellsAt.take (rdR hRu185 hcu185 h2) 2) rfl) ?_
   refine Tr.alloc 17 (wn rfl) rfl ze_54 fun b186 => ?_
   refine Tr.store 17 (cs := [(sv xL3.Name), (.slice Au185_0 (xL3.Rects).length cu185_0)]) [(sv xL3.Name), (.slice Au185_0 (xL3.Rects).length cu185_0)] (wn rfl) rfl rfl rfl rfl sz_54 rfl rfl rfl ?_
   refine Tr.nil (Tr.normThen ?_)
   refine Tr.sr ?_
   refine Tr.va rfl (fun _ _ h1 h2 => run_fieldAddr fo_54_0 (h1.ev rfl)) ?_
   refine Tr.va rfl (fun _ _ h1 h2 => run_load1 ag_9 (h1.ev rfl) (rdb h2 (vs := [(sv xL3.Name), (.slice Au185_0 (xL3.Rects).length cu185_0)]) (k := 17) rfl 0) rfl) ?_
   obtain ⟨t187, ht187, H⟩ := bnd H
   refine Tr.va rfl (fun _ _ h1 h2 => run_catS (h1.ev rfl) (h1.ev rfl) ht187) ?_
   obtain ⟨y188, hy188, H⟩ := bnd H
   refine Tr.callM [2] [sb 59 5 b102 Am178 cm178 m178] (U := (Option Addr × Nat)) (fun u => (.tuple #[(iv ((t187 : ByteArray).size : Int)), .nilIface])) (fun u => True) (fun u => [sb 59 5 b102 u.1 u.2 y188]) rfl (pk_cons rfl pk_nil) (fun _ => rfl) (wn rfl) rfl Tryz.call29 (evl_cons rfl (evl_cons rfl evl_nil)) (fun W hW hp hE => F_strings_Builder_WriteString_ok m178 Am178 cm178 b102 t187 y188 hy188 hE) ?_
   intro u hu
   obtain ⟨Ay188_0, cy188_0⟩ := u
   have gy188_0 := hu
   have hgy188_0 : True := gy188_0 --@phi
   show Tr _ _ (uf _ 31 (.tuple #[(iv ((t187 : ByteArray).size : Int)), .nilIface])) (up _ 2 (sb 59 5 b102 Ay188_0 cy188_0 y188)) _
   refine Tr.nil (Tr.normThen ?_)
   refine Tr.seq ?_
   refine Tr.sr ?_
   refine Tr.va rfl (fun _ _ h1 h2 => run_fieldAddr fo_54_1 (h1.ev rfl)) ?_
   refine Tr.va rfl (fun _ _ h1 h2 => run_load1 ag_52 (h1.ev rfl) (rdb h2 (vs := [(sv xL3.Name), (.slice Au185_0 (xL3.Rects).length cu185_0)]) (k := 17) rfl 1) rfl) ?_
   refine Tr.va rfl (fun _ _ h1 h2 => run_len un_52 (h1.ev rfl)) ?_
   refine Tr.mv rfl rfl ?_
   refine Tr.nil (Tr.normThen ?_)
   refine Tr.block ?_
   refine Tr.loop (σ := (List TRect) × Nat × ByteArray × (Option Addr) × Nat) (fun m w s => m = s.1.length + 1 ∧ s.1 = List.drop s.2.1 xL3.Rects ∧ s.2.1 ≤ xL3.Rects.length ∧ F_plot_Text_L4 (F_plot_Text_L3 N p0 restL3 (iL3 + 1)) s.1 s.2.1 s.2.2.1 = some r) (fun s => [(1, (.pointer (some ⟨b100, 0, none⟩))), (5, (.pointer (some ⟨b102, 0, none⟩))), (22, (.slice Ap0_0 (p0.Tools).length cp0_0)), (23, (iv (p0.Tools.length : Int))), (24, (iv (iL3 : Int))), (33, (.slice Au185_0 (xL3.Rects).length cu185_0)), (34, (iv (xL3.Rects.length : Int))), (35, (iv (s.2.1 : Int)))]) (fun s => [(1, bx b100 #[(iv p0.Unit), (.slice Ap0_0 (p0.Tools).length cp0_0), (.slice Ap0_1 (p0.Steps).length cp0_1)] 25), (2, sb 59 5 b102 s.2.2.2.1 s.2.2.2.2 s.2.2.1)]) (xL3.Rects.length + 1) (xL3.Rects, 0, y188, Ay188_0, cy188_0) ⟨rfl, rfl, Nat.zero_le _, H⟩ (.cons rfl (.cons rfl (.cons rfl (.cons rfl (.cons rfl (.cons rfl (.cons rfl (.cons rfl .nil)))))))) (.cons rfl (.cons rfl .nil)) (fun _ _ h => absurd h.1 (by simp)) ?_
   intro w leL4 m s hs
   obtain ⟨restL4, iL4, m208, Am208, cm208⟩ := s
   obtain ⟨hmL4, hdL4, hiL4, H⟩ := hs
   replace hdL4 : restL4 = List.drop iL4 xL3.Rects := hdL4
   replace H : F_plot_Text_L4 (F_plot_Text_L3 N p0 restL3 (iL3 + 1)) restL4 iL4 m208 = some r := H
   replace hmL4 : m + 1 = restL4.length + 1 := hmL4
   replace hp0_0 := hp0_0.leR leL4
   replace hp0_1 := hp0_1.leR leL4
   replace hoku185_0 := hoku185_0.leR leL4
   replace leB := leB.trans leL4
   replace leL3 := leL3.trans leL4
   obtain rfl : m = restL4.length := by omega
   clear hmL4
   show Tr _ _ (LF [(1, (.pointer (some ⟨b100, 0, none⟩))), (5, (.pointer (some ⟨b102, 0, none⟩))), (22, (.slice Ap0_0 (p0.Tools).length cp0_0)), (23, (iv (p0.Tools.length : Int))), (24, (iv (iL3 : Int))), (33, (.slice Au185_0 (xL3.Rects).length cu185_0)), (34, (iv (xL3.Rects.length : Int))), (35, (iv (iL4 : Int)))]) (LE [(1, bx b100 #[(iv p0.Unit), (.slice Ap0_0 (p0.Tools).length cp0_0), (.slice Ap0_1 (p0.Steps).length cp0_1)] 25), (2, sb 59 5 b102 Am208 cm208 m208)]) _
   cases restL4 with
   | nil =>
    rw [F_plot_Text_L4.eq_1] at H
    refine Tr.sr ?_
    refine Tr.va rfl (fun _ _ h1 h2 => run_lss (h1.ev rfl) (h1.ev rfl)) ?_
    refine Tr.nil (Tr.normThen ?_)
    refine Tr.seq ?_
    refine Tr.condF rfl (range_nil hdL4) ?_
    refine Tr.exit (Tr.exitThen (Tr.exitThen (Tr.exitBlock (Tr.normThen ?_))))
    refine Tr.region ?_
    obtain ⟨y209, hy209, H⟩ := bnd H
    refine Tr.callM [2] [sb 59 5 b102 Am208 cm208 m208] (U := (Option Addr × Nat)) (fun u => (.tuple #[(iv (((⟨#[10]⟩) : ByteArray).size : Int)), .nilIface])) (fun u => True) (fun u => [sb 59 5 b102 u.1 u.2 y209]) rfl (pk_cons rfl pk_nil) (fun _ => rfl) (wn rfl) rfl Tryz.call29 (evl_cons rfl (evl_cons rfl evl_nil)) (fun W hW hp hE => F_strings_Builder_WriteString_ok m208 Am208 cm208 b102 (⟨#[10]⟩) y209 hy209 hE) ?_
    intro u hu
    obtain ⟨Ay209_0, cy209_0⟩ := u
    have gy209_0 := hu
    have hgy209_0 : True := gy209_0 --@phi
    show Tr _ _ (uf _ 53 (.tuple #[(iv (((⟨#[10]⟩) : ByteArray).size : Int)), .nilIface])) (up _ 2 (sb 59 5 b102 Ay209_0 cy209_0 y209)) _
    refine Tr.nil (Tr.normBlock (Tr.normThen ?_))
    refine Tr.region ?_
    refine Tr.va rfl (fun _ _ h1 h2 => run_add (h1.ev rfl) (h1.ev rfl)) ?_
    refine Tr.mv rfl rfl ?_
    refine Tr.nil ?_
    exact Tr.backThen leL3 (restL3, (iL3 + 1), y209, Ay209_0, cy209_0) ⟨rfl, range_tl hdL3, range_lt hdL3, H⟩ (.cons rfl (.cons rfl (.cons rfl (.cons rfl (.cons (congrArg (fun z => some (Value.int .i64 z)) (range_up hdL3 hp0_0.form)) .nil))))) (.cons rfl (.cons rfl .nil))
   | cons xL4 restL4 =>
    rw [F_plot_Text_L4.eq_2] at H
    refine Tr.sr ?_
    refine Tr.va rfl (fun _ _ h1 h2 => run_lss (h1.ev rfl) (h1.ev rfl)) ?_
    refine Tr.nil (Tr.normThen ?_)
    refine Tr.seq ?_
    refine Tr.condT rfl (range_on hdL4) ?_
    refine Tr.skip (Tr.normThen ?_)
    refine Tr.seq ?_
    refine Tr.block ?_
    refine Tr.sr ?_
    refine Tr.va rfl (fun _ _ h1 h2 => run_indexAddr el_52 (h1.ev rfl) hoku185_0.form (h1.ev rfl) (Int.natCast_nonneg _) (range_lt hdL4)) ?_
    refine Tr.va rfl (fun _ _ h1 h2 => run_loadN (cs := [(iv xL4.X0), (iv xL4.Y0), (iv xL4.X1), (iv xL4.Y1)]) ag_66 sz_66 (h1.ev rfl) (CellsAt.take (rdF ef_TRect hoku185_0 (range_at hdL4) h2) 4) rfl) ?_
    refine Tr.alloc 22 (wn rfl) rfl ze_66 fun b211 => ?_
    refine Tr.store 22 (cs := [(iv xL4.X0), (iv xL4.Y0), (iv xL4.X1), (iv xL4.Y1)]) [(iv xL4.X0), (iv xL4.Y0), (iv xL4.X1), (iv xL4.Y1)] (wn rfl) rfl rfl rfl rfl sz_66 rfl rfl rfl ?_
    refine Tr.nil (Tr.normThen ?_)
    refine Tr.region ?_
    refine Tr.va rfl (fun _ _ h1 h2 => run_fieldAddr fo_66_0 (h1.ev rfl)) ?_
    refine Tr.va rfl (fun _ _ h1 h2 => run_load1 ag_3 (h1.ev rfl) (rdb h2 (vs := [(iv xL4.X0), (iv xL4.Y0), (iv xL4.X1), (iv xL4.Y1)]) (k := 22) rfl 0) rfl) ?_
    refine Tr.va rfl (fun _ _ h1 h2 => run_fieldAddr fo_66_1 (h1.ev rfl)) ?_
    refine Tr.va rfl (fun _ _ h1 h2 => run_load1 ag_3 (h1.ev rfl) (rdb h2 (vs := [(iv xL4.X0), (iv xL4.Y0), (iv xL4.X1), (iv xL4.Y1)]) (k := 22) rfl 1) rfl) ?_
    refine Tr.build (vs := [(0, (iv xL4.X0)), (1, (iv xL4.Y0))]) (cs := [(iv xL4.X0), (iv xL4.Y0)]) (wn rfl) rfl (evs_cons rfl (evs_cons rfl evs_nil)) (by kernel_rfl) ?_
    refine Tr.va rfl (fun _ _ h1 h2 => run_fieldAddr fo_66_2 (h1.ev rfl)) ?_
    refine Tr.va rfl (fun _ _ h1 h2 => run_load1 ag_3 (h1.ev rfl) (rdb h2 (vs := [(iv xL4.X0), (iv xL4.Y0), (iv xL4.X1), (iv xL4.Y1)]) (k := 22) rfl 2) rfl) ?_
    refine Tr.va rfl (fun _ _ h1 h2 => run_fieldAddr fo_66_3 (h1.ev rfl)) ?_
    refine Tr.va rfl (fun _ _ h1 h2 => run_load1 ag_3 (h1.ev rfl) (rdb h2 (vs := [(iv xL4.X0), (iv xL4.Y0), (iv xL4.X1), (iv xL4.Y1)]) (k := 22) rfl 3) rfl) ?_
    refine Tr.build (vs := [(0, (iv xL4.X1)), (1, (iv xL4.Y1))]) (cs := [(iv xL4.X1), (iv xL4.Y1)]) (wn rfl) rfl (evs_cons rfl (evs_cons rfl evs_nil)) (by kernel_rfl) ?_
    refine Tr.buildSlice 23 (e := 42) (vs := [(0, (.agg #[(iv xL4.X0), (iv xL4.Y0)])), (1, (.agg #[(iv xL4.X1), (iv xL4.Y1)]))]) (cs := [(iv xL4.X0), (iv xL4.Y0), (iv xL4.X1), (iv xL4.Y1)]) (wn rfl) rfl (evs_cons rfl (evs_cons rfl evs_nil)) (by kernel_rfl) fun b212 => ?_
    refine Tr.own 23 fl_TPoint [(TPoint.mk xL4.X0 xL4.Y0), (TPoint.mk xL4.X1 xL4.Y1)] (css := [[(iv xL4.X0), (iv xL4.Y0)], [(iv xL4.X1), (iv xL4.Y1)]]) rfl (.cons ⟨(), trivial, rfl⟩ (.cons ⟨(), trivial, rfl⟩ .nil)) rfl (by decide) (lit_max rfl) ?_
    obtain ⟨y213, hy213, H⟩ := bnd H
    refine Tr.call0 (r := (sv y213)) (wn rfl) rfl Tryz.call31 (evl_cons rfl evl_nil) (fun W hW => F_plot_points_ok [(TPoint.mk xL4.X0 xL4.Y0), (TPoint.mk xL4.X1 xL4.Y1)] (some ⟨b212, 0, none⟩) 2 (hW.slCall (k := 23) rfl) y213 hy213 (HF.start _)) ?_
    obtain ⟨y214, hy214, H⟩ := bnd H
    refine Tr.callM [2] [sb 59 5 b102 Am208 cm208 m208] (U := (Option Addr × Nat)) (fun u => (.tuple #[(iv ((y213 : ByteArray).size : Int)), .nilIface])) (fun u => True) (fun u => [sb 59 5 b102 u.1 u.2 y214]) rfl (pk_cons rfl pk_nil) (fun _ => rfl) (wn rfl) rfl Tryz.call29 (evl_cons rfl (evl_cons rfl evl_nil)) (fun W hW hp hE => F_strings_Builder_WriteString_ok m208 Am208 cm208 b102 y213 y214 hy214 hE) ?_
    intro u hu
    obtain ⟨Ay214_0, cy214_0⟩ := u
    have gy214_0 := hu
    have hgy214_0 : True := gy214_0 --@phi
    show Tr _ _ (uf _ 51 (.tuple #[(iv ((y213 : ByteArray).size : Int)), .nilIface])) (up _ 2 (sb 59 5 b102 Ay214_0 cy214_0 y214)) _
    refine Tr.nil (Tr.normBlock (Tr.normThen ?_))
    refine Tr.region ?_
    refine Tr.va rfl (fun _ _ h1 h2 => run_add (h1.ev rfl) (h1.ev rfl)) ?_
    refine Tr.mv rfl rfl ?_
    refine Tr.nil ?_
    exact Tr.backThen leL4 (restL4, (iL4 + 1), y214, Ay214_0, cy214_0) ⟨rfl, range_tl hdL4, range_lt hdL4, H⟩ (.cons rfl (.cons rfl (.cons rfl (.cons rfl (.cons rfl (.cons rfl (.cons rfl (.cons (congrArg (fun z => some (Value.int .i64 z)) (range_up hdL4 hoku185_0.form)) .nil)))))))) (.cons rfl (.cons rfl .nil))

theorem F_etchhouselaw3_awake_ok (N : Nat) {w : Bs}  (r : Bool) (H : F_etchhouselaw3_awake N = some r) (hE : HF w w.W E0) : Calls Tryz.prog 11 [].toArray w.W fun e W' => e = .returned (.bool r) ∧ HF w W' E0 := by
 unfold F_etchhouselaw3_awake at H
 have leB := Bs.Le.refl w
 refine Tr.enter (n := 14) Tryz.func11 rfl rfl rfl hE ?_
 refine Tr.sr ?_
 refine Tr.asg rfl rfl ?_
 refine Tr.nil (Tr.normThen ?_)
 refine Tr.sr ?_
 refine Tr.build (vs := [(0, (iv 7))]) (cs := [(iv 7), (.slice none 0 0), (.slice none 0 0)]) (wn rfl) rfl (evs_cons rfl evs_nil) (by kernel_rfl) ?_
 obtain ⟨y100, hy100, H⟩ := bnd H
 refine Tr.call0 (r := (.tuple #[(sv y100.1), (iv y100.2)])) (wn rfl) rfl Tryz.call12 (evl_cons rfl evl_nil) (fun W hW => F_plot_Text_ok N (TPlot.mk 7 [] []) none 0 (Sl.nil _ _ _) none 0 (Sl.nil _ _ _) y100 hy100 (HF.start _)) ?_
 refine Tr.mv rfl rfl ?_
 refine Tr.va rfl (fun _ _ h1 h2 => run_extract (h1.ev rfl) rfl) ?_
 refine Tr.va rfl (fun _ _ h1 h2 => run_extract (h1.ev rfl) rfl) ?_
 refine Tr.asg rfl rfl ?_
 refine Tr.asg rfl rfl ?_
 refine Tr.nil (Tr.normThen ?_)
 refine Tr.sr ?_
 refine Tr.mv rfl rfl ?_
 refine Tr.va rfl (fun _ _ h1 h2 => run_eql (h1.ev rfl) (h1.ev rfl)) ?_
 refine Tr.mv rfl rfl ?_
 refine Tr.mid0 3 [(13, (.bool ((y100.2 == 0) && (sEq y100.1 (⟨#[117, 110, 105, 116, 32, 55, 10]⟩)))))] [] ?_ ?_
 ·cases hg100 : (y100.2 == 0)
  ·refine Tr.pass rfl rfl rfl rfl rfl (by decide) ?_
   refine Tr.pass rfl rfl rfl rfl rfl (by decide) ?_
   refine Tr.va rfl (fun _ _ h1 h2 => run_pickF (h1.ev rfl) (h1.ev rfl)) ?_
   exact Tr.nil (Tr.fin0 (.cons rfl .nil) .nil)
  ·refine Tr.val (wg rfl rfl rfl) rfl (fun _ _ h1 h2 => run_move (h1.ev rfl)) ?_
   refine Tr.val (wg rfl rfl rfl) rfl (fun _ _ h1 h2 => run_eqlS (h1.ev rfl) (h1.ev rfl)) ?_
   refine Tr.va rfl (fun _ _ h1 h2 => run_pickT (h1.ev rfl) (h1.ev rfl)) ?_
   exact Tr.nil (Tr.fin0 (.cons rfl .nil) .nil)
 ·show Tr _ _ (LF [(13, (.bool ((y100.2 == 0) && (sEq y100.1 (⟨#[117, 110, 105, 116, 32, 55, 10]⟩)))))]) (LE []) _
  refine Tr.asg rfl rfl ?_
  refine Tr.nil (Tr.normThen ?_)
  refine Tr.ret ?_
  obtain rfl := Option.some.inj H
  exact Tr.out (m := [(.bool ((y100.2 == 0) && (sEq y100.1 (⟨#[117, 110, 105, 116, 32, 55, 10]⟩))))]) [] (res_tmp rfl res_nil) (fun W hW => ⟨rfl, hW.low leB⟩)

end Go.Proofs.YtocjndhpgjccoaaGreatDoor
