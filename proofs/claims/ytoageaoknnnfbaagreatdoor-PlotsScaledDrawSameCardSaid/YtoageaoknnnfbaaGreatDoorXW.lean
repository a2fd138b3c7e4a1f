/- The walks: each function computes its plain function. -/
import Derived.Test.YtoageaoknnnfbaaGreatDoorXWd
namespace Go.Proofs.YtoageaoknnnfbaaGreatDoor
open Go.RowKit
set_option maxRecDepth 100000
set_option maxHeartbeats 1000000
theorem F_plot_machine__step_ok (rec : zAA → (List zD) → zI → Option (Int × Bool × Int × Int × Int × Bool × Int × Int × (List zV))) (hrec : ∀ {w : Bs} (p0 : zAA) (Ap0_0 : Option Addr) (cp0_0 : Nat) (hp0_0 : Sl w.R w.W zK Ap0_0 cp0_0 p0.p.Tools) (Ap0_1 : Option Addr) (cp0_1 : Nat) (hp0_1 : Sl w.R w.W zG Ap0_1 cp0_1 p0.p.Steps) (Ap0_2 : Option Addr) (cp0_2 : Nat) (hp0_2 : Sl w.R w.W fl_LTBand Ap0_2 cp0_2 p0.tools) (Ap0_3 : Option Addr) (cp0_3 : Nat) (bp0 : Nat) (p1 : (List zD)) (Ap1_0 : Option Addr) (cp1_0 : Nat) (hp1_0 : Sl w.R w.W zG Ap1_0 cp1_0 p1) (p2 : zI) (r : (Int × Bool × Int × Int × Int × Bool × Int × Int × (List zV))) (H : rec p0 p1 p2 = some r) (hE : HF w w.W (LEn [bx bp0 #[(iv p0.p.Unit), (.slice Ap0_0 (p0.p.Tools).length cp0_0), (.slice Ap0_1 (p0.p.Steps).length cp0_1), (.slice Ap0_2 (p0.tools).length cp0_2), (.slice Ap0_3 (p0.image).length cp0_3), (.bool p0.clear), (iv p0.tool), (iv p0.place.X), (iv p0.place.Y), (.bool p0.placed), (iv p0.off), (iv p0.on)] 77, ow Ap0_3 cp0_3 107 zJ p0.image])), Calls Tryz.prog 56 [(.pointer (some ⟨bp0, 0, none⟩)), (.slice Ap1_0 (p1).length cp1_0), (.agg #[(iv p2.X), (iv p2.Y)])].toArray w.W fun e W' => ∃ (w' : Bs) (u : (Option Addr × Nat)), w.Le w' ∧ e = .returned (iv r.1) ∧ (SlF u.1 (r.2.2.2.2.2.2.2.2).length u.2) ∧ HF w' W' (LEn [bx bp0 #[(iv p0.p.Unit), (.slice Ap0_0 (p0.p.Tools).length cp0_0), (.slice Ap0_1 (p0.p.Steps).length cp0_1), (.slice Ap0_2 (p0.tools).length cp0_2), (.slice u.1 (r.2.2.2.2.2.2.2.2).length u.2), (.bool r.2.1), (iv r.2.2.1), (iv r.2.2.2.1), (iv r.2.2.2.2.1), (.bool r.2.2.2.2.2.1), (iv r.2.2.2.2.2.2.1), (iv r.2.2.2.2.2.2.2.1)] 77, ow u.1 u.2 107 zJ r.2.2.2.2.2.2.2.2])) (N : Nat) {w : Bs} (p0 : zAA) (Ap0_0 : Option Addr) (cp0_0 : Nat) (hp0_0 : Sl w.R w.W zK Ap0_0 cp0_0 p0.p.Tools) (Ap0_1 : Option Addr) (cp0_1 : Nat) (hp0_1 : Sl w.R w.W zG Ap0_1 cp0_1 p0.p.Steps) (Ap0_2 : Option Addr) (cp0_2 : Nat) (hp0_2 : Sl w.R w.W fl_LTBand Ap0_2 cp0_2 p0.tools) (Ap0_3 : Option Addr) (cp0_3 : Nat) (bp0 : Nat) (p1 : zD) (Ap1_0 : Option Addr) (cp1_0 : Nat) (hp1_0 : Sl w.R w.W zy Ap1_0 cp1_0 p1.Points) (Ap1_1 : Option Addr) (cp1_1 : Nat) (hp1_1 : Sl w.R w.W zG Ap1_1 cp1_1 p1.Steps) (p2 : zI) (r : (Int × Bool × Int × Int × Int × Bool × Int × Int × (List zV))) (H : F_plot_machine__step rec N p0 p1 p2 = some r) (hE : HF w w.W (LEn [bx bp0 #[(iv p0.p.Unit), (.slice Ap0_0 (p0.p.Tools).length cp0_0), (.slice Ap0_1 (p0.p.Steps).length cp0_1), (.slice Ap0_2 (p0.tools).length cp0_2), (.slice Ap0_3 (p0.image).length cp0_3), (.bool p0.clear), (iv p0.tool), (iv p0.place.X), (iv p0.place.Y), (.bool p0.placed), (iv p0.off), (iv p0.on)] 77, ow Ap0_3 cp0_3 107 zJ p0.image])) : Calls Tryz.prog 78 [(.pointer (some ⟨bp0, 0, none⟩)), (.agg #[(iv p1.Kind), (sv p1.Name), (iv p1.At.X), (iv p1.At.Y), (.slice Ap1_0 (p1.Points).length cp1_0), (iv p1.NX), (iv p1.NY), (.slice Ap1_1 (p1.Steps).length cp1_1)]), (.agg #[(iv p2.X), (iv p2.Y)])].toArray w.W fun e W' => ∃ (w' : Bs) (u : (Option Addr × Nat)), w.Le w' ∧ e = .returned (iv r.1) ∧ (SlF u.1 (r.2.2.2.2.2.2.2.2).length u.2) ∧ HF w' W' (LEn [bx bp0 #[(iv p0.p.Unit), (.slice Ap0_0 (p0.p.Tools).length cp0_0), (.slice Ap0_1 (p0.p.Steps).length cp0_1), (.slice Ap0_2 (p0.tools).length cp0_2), (.slice u.1 (r.2.2.2.2.2.2.2.2).length u.2), (.bool r.2.1), (iv r.2.2.1), (iv r.2.2.2.1), (iv r.2.2.2.2.1), (.bool r.2.2.2.2.2.1), (iv r.2.2.2.2.2.2.1), (iv r.2.2.2.2.2.2.2.1)] 77, ow u.1 u.2 107 zJ r.2.2.2.2.2.2.2.2]) := by
 unfold F_plot_machine__step at H
 have hfhp0_3 := (hE.sl (k := 1) rfl).form
 have leB := Bs.Le.refl w
 refine Tr.enter (n := 116) Tryz.func78 rfl rfl rfl hE ?_
 refine Tr.sr ?_
 refine Tr.box 2 (cs := [(iv p1.Kind), (sv p1.Name), (iv p1.At.X), (iv p1.At.Y), (.slice Ap1_0 (p1.Points).length cp1_0), (iv p1.NX), (iv p1.NY), (.slice Ap1_1 (p1.Steps).length cp1_1)]) (wn rfl) rfl rfl rfl fun b100 => ?_
 refine Tr.box 3 (cs := [(iv p2.X), (iv p2.Y)]) (wn rfl) rfl rfl rfl fun b101 => ?_
 refine Tr.asg rfl rfl ?_
 refine Tr.nil (Tr.zA ?_)
 refine Tr.sr ?_
 refine Tr.mv rfl rfl ?_
 refine Tr.va rfl (fun _ _ h1 h2 => zB fo_46_2 (h1.ev rfl)) ?_
 refine Tr.va rfl (fun _ _ h1 h2 => zR (cs := [(iv p1.At.X), (iv p1.At.Y)]) ag_43 sz_43 (h1.ev rfl) (zL.take (rdb h2 (vs := [(iv p1.Kind), (sv p1.Name), (iv p1.At.X), (iv p1.At.Y), (.slice Ap1_0 (p1.Points).length cp1_0), (iv p1.NX), (iv p1.NY), (.slice Ap1_1 (p1.Steps).length cp1_1)]) (k := 2) rfl 2) 2) rfl) ?_
 refine Tr.va rfl (fun _ _ h1 h2 => zR (cs := [(iv p2.X), (iv p2.Y)]) ag_43 sz_43 (h1.ev rfl) (zL.take (rdb h2 (vs := [(iv p2.X), (iv p2.Y)]) (k := 3) rfl 0) 2) rfl) ?_
 obtain ⟨y102, hy102, H⟩ := bnd H
 refine Tr.call0 (r := (.agg #[(iv y102.X), (iv y102.Y)])) (wn rfl) rfl Tryz.call103 (zF rfl (zF rfl (zF rfl zO))) (fun W hW => F_plot_machine__moved_ok p0 Ap0_0 cp0_0 (hp0_0.ext hW.extAll) Ap0_1 cp0_1 (hp0_1.ext hW.extAll) Ap0_2 cp0_2 (hp0_2.ext hW.extAll) Ap0_3 cp0_3 (hW.slCall (k := 1) rfl) bp0 (hW.capR (k := 0) rfl) (hW.capC (k := 0) rfl) p1.At p2 y102 hy102 (HF.start _)) ?_
 refine Tr.alloc 4 (wn rfl) rfl ze_43 fun b103 => ?_
 refine Tr.store 4 (cs := [(iv y102.X), (iv y102.Y)]) [(iv y102.X), (iv y102.Y)] (wn rfl) rfl rfl rfl rfl sz_43 rfl rfl rfl ?_
 refine Tr.nil (Tr.zA ?_)
 have leJ295 := Bs.Le.refl w
 refine Tr.cutJ (σ := (List zV) × Bool × Int × Int × Int × Bool × Int × Int × (Option Addr) × Nat) (fun w s => F_plot_machine__step_J6 s.1 s.2.1 s.2.2.1 s.2.2.2.1 s.2.2.2.2.1 s.2.2.2.2.2.1 s.2.2.2.2.2.2.1 s.2.2.2.2.2.2.2.1 = some r ∧ SlF s.2.2.2.2.2.2.2.2.1 (s.1).length s.2.2.2.2.2.2.2.2.2) (fun s => []) (fun s => [(0, bx bp0 #[(iv p0.p.Unit), (.slice Ap0_0 (p0.p.Tools).length cp0_0), (.slice Ap0_1 (p0.p.Steps).length cp0_1), (.slice Ap0_2 (p0.tools).length cp0_2), (.slice s.2.2.2.2.2.2.2.2.1 (s.1).length s.2.2.2.2.2.2.2.2.2), (.bool s.2.1), (iv s.2.2.1), (iv s.2.2.2.1), (iv s.2.2.2.2.1), (.bool s.2.2.2.2.2.1), (iv s.2.2.2.2.2.2.1), (iv s.2.2.2.2.2.2.2.1)] 77), (1, ow s.2.2.2.2.2.2.2.2.1 s.2.2.2.2.2.2.2.2.2 107 zJ s.1)]) ?_ ?_
 ·refine Tr.sr ?_
  refine Tr.va rfl (fun _ _ h1 h2 => zB fo_46_0 (h1.ev rfl)) ?_
  refine Tr.va rfl (fun _ _ h1 h2 => zC ag_3 (h1.ev rfl) (rdb h2 (vs := [(iv p1.Kind), (sv p1.Name), (iv p1.At.X), (iv p1.At.Y), (.slice Ap1_0 (p1.Points).length cp1_0), (iv p1.NX), (iv p1.NY), (.slice Ap1_1 (p1.Steps).length cp1_1)]) (k := 2) rfl 0) rfl) ?_
  refine Tr.nil (Tr.zA ?_)
  refine Tr.block ?_
  have leJ298 := Bs.Le.refl w
  refine Tr.cutJ (σ := Bool) (fun w s => F_plot_machine__step_J11 N p0 p1 p2 rec y102 s = some r) (fun s => [(0, (.pointer (some ⟨bp0, 0, none⟩))), (4, (.pointer (some ⟨b100, 0, none⟩))), (5, (.pointer (some ⟨b101, 0, none⟩))), (7, (.pointer (some ⟨b103, 0, none⟩))), (18, (iv p1.Kind)), (19, (.bool s))]) (fun s => [(0, bx bp0 #[(iv p0.p.Unit), (.slice Ap0_0 (p0.p.Tools).length cp0_0), (.slice Ap0_1 (p0.p.Steps).length cp0_1), (.slice Ap0_2 (p0.tools).length cp0_2), (.slice Ap0_3 (p0.image).length cp0_3), (.bool p0.clear), (iv p0.tool), (iv p0.place.X), (iv p0.place.Y), (.bool p0.placed), (iv p0.off), (iv p0.on)] 77), (1, ow Ap0_3 cp0_3 107 zJ p0.image), (2, bx b100 #[(iv p1.Kind), (sv p1.Name), (iv p1.At.X), (iv p1.At.Y), (.slice Ap1_0 (p1.Points).length cp1_0), (iv p1.NX), (iv p1.NY), (.slice Ap1_1 (p1.Steps).length cp1_1)] 46), (3, bx b101 #[(iv p2.X), (iv p2.Y)] 43), (4, bx b103 #[(iv y102.X), (iv y102.Y)] 43)]) ?_ ?_
  ·refine Tr.sr ?_
   refine Tr.va rfl (fun _ _ h1 h2 => run_eql (h1.ev rfl) (h1.ev rfl)) ?_
   refine Tr.asg rfl rfl ?_
   refine Tr.nil (Tr.zA ?_)
   refine Tr.cond rfl H (fun H => ?_) (fun H => ?_)
   ·refine Tr.skip ?_
    exact Tr.zZ leJ298 (p1.Kind == 1) H (.cons rfl (.cons rfl (.cons rfl (.cons rfl (.cons rfl (.cons rfl .nil)))))) (.cons rfl (.cons rfl (.cons rfl (.cons rfl (.cons rfl .nil)))))
   ·refine Tr.region ?_
    refine Tr.va rfl (fun _ _ h1 h2 => run_eql (h1.ev rfl) (h1.ev rfl)) ?_
    refine Tr.asg rfl rfl ?_
    refine Tr.nil ?_
    exact Tr.zZ leJ298 (p1.Kind == 2) H (.cons rfl (.cons rfl (.cons rfl (.cons rfl (.cons rfl (.cons rfl .nil)))))) (.cons rfl (.cons rfl (.cons rfl (.cons rfl (.cons rfl .nil)))))
  ·intro w x297 hlJ299 hs
   have H := hs
   replace H : F_plot_machine__step_J11 N p0 p1 p2 rec y102 x297 = some r := H
   replace hp0_0 := hp0_0.leR hlJ299
   replace hp0_1 := hp0_1.leR hlJ299
   replace hp0_2 := hp0_2.leR hlJ299
   replace hp1_0 := hp1_0.leR hlJ299
   replace hp1_1 := hp1_1.leR hlJ299
   replace leB := leB.trans hlJ299
   replace leJ295 := leJ295.trans hlJ299
   unfold F_plot_machine__step_J11 at H
   show Tr _ _ (LF [(0, (.pointer (some ⟨bp0, 0, none⟩))), (4, (.pointer (some ⟨b100, 0, none⟩))), (5, (.pointer (some ⟨b101, 0, none⟩))), (7, (.pointer (some ⟨b103, 0, none⟩))), (18, (iv p1.Kind)), (19, (.bool x297))]) (LE [(0, bx bp0 #[(iv p0.p.Unit), (.slice Ap0_0 (p0.p.Tools).length cp0_0), (.slice Ap0_1 (p0.p.Steps).length cp0_1), (.slice Ap0_2 (p0.tools).length cp0_2), (.slice Ap0_3 (p0.image).length cp0_3), (.bool p0.clear), (iv p0.tool), (iv p0.place.X), (iv p0.place.Y), (.bool p0.placed), (iv p0.off), (iv p0.on)] 77), (1, ow Ap0_3 cp0_3 107 zJ p0.image), (2, bx b100 #[(iv p1.Kind), (sv p1.Name), (iv p1.At.X), (iv p1.At.Y), (.slice Ap1_0 (p1.Points).length cp1_0), (iv p1.NX), (iv p1.NY), (.slice Ap1_1 (p1.Steps).length cp1_1)] 46), (3, bx b101 #[(iv p2.X), (iv p2.Y)] 43), (4, bx b103 #[(iv y102.X), (iv y102.Y)] 43)]) _
   refine Tr.cond rfl H (fun H => ?_) (fun H => ?_)
   ·refine Tr.region ?_
    refine Tr.mv rfl rfl ?_
    refine Tr.va rfl (fun _ _ h1 h2 => zB fo_46_0 (h1.ev rfl)) ?_
    refine Tr.va rfl (fun _ _ h1 h2 => zC ag_3 (h1.ev rfl) (rdb h2 (vs := [(iv p1.Kind), (sv p1.Name), (iv p1.At.X), (iv p1.At.Y), (.slice Ap1_0 (p1.Points).length cp1_0), (iv p1.NX), (iv p1.NY), (.slice Ap1_1 (p1.Steps).length cp1_1)]) (k := 2) rfl 0) rfl) ?_
    refine Tr.va rfl (fun _ _ h1 h2 => run_eql (h1.ev rfl) (h1.ev rfl)) ?_
    refine Tr.va rfl (fun _ _ h1 h2 => zb (h1.ev rfl)) ?_
    refine Tr.va rfl (fun _ _ h1 h2 => zB fo_77_3 (h1.ev rfl)) ?_
    refine Tr.store 0 (cs := [(.bool (p1.Kind == 2))]) [(iv p0.p.Unit), (.slice Ap0_0 (p0.p.Tools).length cp0_0), (.slice Ap0_1 (p0.p.Steps).length cp0_1), (.slice Ap0_2 (p0.tools).length cp0_2), (.slice Ap0_3 (p0.image).length cp0_3), (.bool (p1.Kind == 2)), (iv p0.tool), (iv p0.place.X), (iv p0.place.Y), (.bool p0.placed), (iv p0.off), (iv p0.on)] (wn rfl) rfl rfl rfl rfl sz_4 rfl rfl rfl ?_
    refine Tr.nil (Tr.zW ?_)
    exact Tr.zZ leJ295 (p0.image, (p1.Kind == 2), p0.tool, p0.place.X, p0.place.Y, p0.placed, p0.off, p0.on, Ap0_3, cp0_3) ⟨H, hfhp0_3⟩ .nil (.cons rfl (.cons rfl .nil))
   ·refine Tr.sr ?_
    refine Tr.va rfl (fun _ _ h1 h2 => run_eql (h1.ev rfl) (h1.ev rfl)) ?_
    refine Tr.asg rfl rfl ?_
    refine Tr.nil (Tr.zA ?_)
    refine Tr.cond rfl H (fun H => ?_) (fun H => ?_)
    ·refine Tr.drawTail 8 (by kernel_rfl) (by kernel_rfl) ?_
     refine Tq.mv rfl rfl ?_
     refine Tq.mv rfl rfl ?_
     refine Tq.va rfl (fun _ _ h1 h2 => zb (h1.ev rfl)) ?_
     refine Tq.va rfl (fun _ _ h1 h2 => zB fo_77_0 (h1.ev rfl)) ?_
     refine Tq.va rfl (fun _ _ h1 h2 => zR (cs := [(iv p0.p.Unit), (.slice Ap0_0 (p0.p.Tools).length cp0_0), (.slice Ap0_1 (p0.p.Steps).length cp0_1)]) ag_25 sz_25 (h1.ev rfl) (zL.take (rdb h2 (vs := [(iv p0.p.Unit), (.slice Ap0_0 (p0.p.Tools).length cp0_0), (.slice Ap0_1 (p0.p.Steps).length cp0_1), (.slice Ap0_2 (p0.tools).length cp0_2), (.slice Ap0_3 (p0.image).length cp0_3), (.bool p0.clear), (iv p0.tool), (iv p0.place.X), (iv p0.place.Y), (.bool p0.placed), (iv p0.off), (iv p0.on)]) (k := 0) rfl 0) 3) rfl) ?_
     refine Tq.va rfl (fun _ _ h1 h2 => zB fo_46_1 (h1.ev rfl)) ?_
     refine Tq.va rfl (fun _ _ h1 h2 => zC ag_9 (h1.ev rfl) (rdb h2 (vs := [(iv p1.Kind), (sv p1.Name), (iv p1.At.X), (iv p1.At.Y), (.slice Ap1_0 (p1.Points).length cp1_0), (iv p1.NX), (iv p1.NY), (.slice Ap1_1 (p1.Steps).length cp1_1)]) (k := 2) rfl 1) rfl) ?_
     obtain ⟨y300, hy300, H⟩ := bnd H
     refine Tq.call0 (r := (iv y300)) (wn rfl) rfl Tryz.call96 (zF rfl (zF rfl zO)) (fun W hW => F_plot_toolAt_ok p0.p Ap0_0 cp0_0 (hp0_0.ext hW.extAll) Ap0_1 cp0_1 (hp0_1.ext hW.extAll) p1.Name y300 hy300 (HF.start _)) ?_
     refine Tq.nil ?_
     refine Tr.va rfl (fun _ _ h1 h2 => zb (h1.ev rfl)) ?_
     refine Tr.va rfl (fun _ _ h1 h2 => zB fo_77_4 (h1.ev rfl)) ?_
     refine Tr.store 0 (cs := [(iv y300)]) [(iv p0.p.Unit), (.slice Ap0_0 (p0.p.Tools).length cp0_0), (.slice Ap0_1 (p0.p.Steps).length cp0_1), (.slice Ap0_2 (p0.tools).length cp0_2), (.slice Ap0_3 (p0.image).length cp0_3), (.bool p0.clear), (iv y300), (iv p0.place.X), (iv p0.place.Y), (.bool p0.placed), (iv p0.off), (iv p0.on)] (wn rfl) rfl rfl rfl rfl sz_3 rfl rfl rfl ?_
     refine Tr.nil (Tr.zW ?_)
     exact Tr.zZ leJ295 (p0.image, p0.clear, y300, p0.place.X, p0.place.Y, p0.placed, p0.off, p0.on, Ap0_3, cp0_3) ⟨H, hfhp0_3⟩ .nil (.cons rfl (.cons rfl .nil))
    ·refine Tr.sr ?_
     refine Tr.va rfl (fun _ _ h1 h2 => run_eql (h1.ev rfl) (h1.ev rfl)) ?_
     refine Tr.asg rfl rfl ?_
     refine Tr.nil (Tr.zA ?_)
     refine Tr.cond rfl H (fun H => ?_) (fun H => ?_)
     ·refine Tr.seq ?_
      refine Tr.drawTail 5 (by kernel_rfl) (by kernel_rfl) ?_
      refine Tq.mv rfl rfl ?_
      refine Tq.va rfl (fun _ _ h1 h2 => zR (cs := [(iv y102.X), (iv y102.Y)]) ag_43 sz_43 (h1.ev rfl) (zL.take (rdb h2 (vs := [(iv y102.X), (iv y102.Y)]) (k := 4) rfl 0) 2) rfl) ?_
      refine Tq.mv rfl rfl ?_
      refine Tq.va rfl (fun _ _ h1 h2 => zb (h1.ev rfl)) ?_
      refine Tq.va rfl (fun _ _ h1 h2 => zB fo_77_7 (h1.ev rfl)) ?_
      refine Tq.nil ?_
      obtain ⟨y301, hy301, H⟩ := bnd H
      refine Tr.callM [0] [bx bp0 #[(iv p0.p.Unit), (.slice Ap0_0 (p0.p.Tools).length cp0_0), (.slice Ap0_1 (p0.p.Steps).length cp0_1), (.slice Ap0_2 (p0.tools).length cp0_2), (.slice Ap0_3 (p0.image).length cp0_3), (.bool p0.clear), (iv p0.tool), (iv p0.place.X), (iv p0.place.Y), (.bool p0.placed), (iv p0.off), (iv p0.on)] 77] (U := Unit) (fun u => (iv y301.1)) (fun u => True) (fun u => [bx bp0 #[(iv p0.p.Unit), (.slice Ap0_0 (p0.p.Tools).length cp0_0), (.slice Ap0_1 (p0.p.Steps).length cp0_1), (.slice Ap0_2 (p0.tools).length cp0_2), (.slice Ap0_3 (p0.image).length cp0_3), (.bool p0.clear), (iv p0.tool), (iv y301.2.1), (iv y301.2.2.1), (.bool y301.2.2.2.1), (iv y301.2.2.2.2), (iv p0.on)] 77]) rfl (zM rfl zY) (fun _ => rfl) (wn rfl) rfl Tryz.call104 (zF rfl (zF rfl (zF rfl zO))) (fun W hW hp hE => F_plot_machine__set__f0_10_ok p0 Ap0_0 cp0_0 (hp0_0.ext (hW.extS hp)) Ap0_1 cp0_1 (hp0_1.ext (hW.extS hp)) Ap0_2 cp0_2 (hp0_2.ext (hW.extS hp)) Ap0_3 cp0_3 (hW.slS (k := 1) rfl hp rfl) bp0 y102 y301 hy301 hE) ?_
      intro u hu
      show Tr _ _ (uf _ 47 (iv y301.1)) (up _ 0 (bx bp0 #[(iv p0.p.Unit), (.slice Ap0_0 (p0.p.Tools).length cp0_0), (.slice Ap0_1 (p0.p.Steps).length cp0_1), (.slice Ap0_2 (p0.tools).length cp0_2), (.slice Ap0_3 (p0.image).length cp0_3), (.bool p0.clear), (iv p0.tool), (iv y301.2.1), (iv y301.2.2.1), (.bool y301.2.2.2.1), (iv y301.2.2.2.2), (iv p0.on)] 77)) _
      refine Tr.asg rfl rfl ?_
      refine Tr.nil (Tr.zA ?_)
      refine Tr.ret (Tr.zAB (Tr.zU ?_))
      obtain rfl := Option.some.inj H
      exact Tr.out (m := [(iv y301.1)]) [] (zP rfl zQ) (fun W hW => ⟨w, (Ap0_3, cp0_3), leB, rfl, hfhp0_3, hW.pick (ks := [0, 1]) (by decide) (zM rfl (zM rfl zY))⟩)
     ·refine Tr.sr ?_
      refine Tr.va rfl (fun _ _ h1 h2 => run_eql (h1.ev rfl) (h1.ev rfl)) ?_
      refine Tr.asg rfl rfl ?_
      refine Tr.nil (Tr.zA ?_)
      refine Tr.cond rfl H (fun H => ?_) (fun H => ?_)
      ·refine Tr.sr ?_
       refine Tr.mv rfl rfl ?_
       refine Tr.va rfl (fun _ _ h1 h2 => zR (cs := [(iv y102.X), (iv y102.Y)]) ag_43 sz_43 (h1.ev rfl) (zL.take (rdb h2 (vs := [(iv y102.X), (iv y102.Y)]) (k := 4) rfl 0) 2) rfl) ?_
       obtain ⟨y303, hy303, H⟩ := bnd H
       refine Tr.callG [0, 1] [bx bp0 #[(iv p0.p.Unit), (.slice Ap0_0 (p0.p.Tools).length cp0_0), (.slice Ap0_1 (p0.p.Steps).length cp0_1), (.slice Ap0_2 (p0.tools).length cp0_2), (.slice Ap0_3 (p0.image).length cp0_3), (.bool p0.clear), (iv p0.tool), (iv p0.place.X), (iv p0.place.Y), (.bool p0.placed), (iv p0.off), (iv p0.on)] 77, ow Ap0_3 cp0_3 107 zJ p0.image] (U := (Option Addr × Nat)) (fun u => (iv y303.1)) (fun O W u => SlF u.1 (y303.2.2.2.2.2).length u.2) (fun u => [bx bp0 #[(iv p0.p.Unit), (.slice Ap0_0 (p0.p.Tools).length cp0_0), (.slice Ap0_1 (p0.p.Steps).length cp0_1), (.slice Ap0_2 (p0.tools).length cp0_2), (.slice u.1 (y303.2.2.2.2.2).length u.2), (.bool p0.clear), (iv p0.tool), (iv y303.2.1), (iv y303.2.2.1), (.bool y303.2.2.2.1), (iv y303.2.2.2.2.1), (iv p0.on)] 77, ow u.1 u.2 107 zJ y303.2.2.2.2.2]) rfl (zM rfl (zM rfl zY)) (fun _ => rfl) (wn rfl) rfl Tryz.call105 (zF rfl (zF rfl zO)) (fun W hW hp hE => F_plot_machine__flash_ok N p0 Ap0_0 cp0_0 (hp0_0.ext (hW.extS hp)) Ap0_1 cp0_1 (hp0_1.ext (hW.extS hp)) Ap0_2 cp0_2 (hp0_2.ext (hW.extS hp)) Ap0_3 cp0_3 bp0 y102 y303 hy303 hE) ?_
       intro w u le304 hu
       obtain ⟨Ay303_0, cy303_0⟩ := u
       have gy303_0 := hu
       replace hp0_0 := hp0_0.leR le304
       replace hp0_1 := hp0_1.leR le304
       replace hp0_2 := hp0_2.leR le304
       replace hp1_0 := hp1_0.leR le304
       replace hp1_1 := hp1_1.leR le304
       replace leB := leB.trans le304
       replace leJ295 := leJ295.trans le304
       have hgy303_0 : SlF Ay303_0 (y303.2.2.2.2.2).length cy303_0 := gy303_0 --@phi
       show Tr _ _ (uf _ 52 (iv y303.1)) (up (up _ 1 (ow Ay303_0 cy303_0 107 zJ y303.2.2.2.2.2)) 0 (bx bp0 #[(iv p0.p.Unit), (.slice Ap0_0 (p0.p.Tools).length cp0_0), (.slice Ap0_1 (p0.p.Steps).length cp0_1), (.slice Ap0_2 (p0.tools).length cp0_2), (.slice Ay303_0 (y303.2.2.2.2.2).length cy303_0), (.bool p0.clear), (iv p0.tool), (iv y303.2.1), (iv y303.2.2.1), (.bool y303.2.2.2.1), (iv y303.2.2.2.2.1), (iv p0.on)] 77)) _
       refine Tr.asg rfl rfl ?_
       refine Tr.nil (Tr.zA ?_)
       refine Tr.ret (Tr.zAB (Tr.zU ?_))
       obtain rfl := Option.some.inj H
       exact Tr.out (m := [(iv y303.1)]) [] (zP rfl zQ) (fun W hW => ⟨w, (Ay303_0, cy303_0), leB, rfl, hgy303_0, hW.pick (ks := [0, 1]) (by decide) (zM rfl (zM rfl zY))⟩)
      ·refine Tr.sr ?_
       refine Tr.va rfl (fun _ _ h1 h2 => run_eql (h1.ev rfl) (h1.ev rfl)) ?_
       refine Tr.asg rfl rfl ?_
       refine Tr.nil (Tr.zA ?_)
       refine Tr.cond rfl H (fun H => ?_) (fun H => ?_)
       ·refine Tr.sr ?_
        refine Tr.mv rfl rfl ?_
        refine Tr.va rfl (fun _ _ h1 h2 => zR (cs := [(iv y102.X), (iv y102.Y)]) ag_43 sz_43 (h1.ev rfl) (zL.take (rdb h2 (vs := [(iv y102.X), (iv y102.Y)]) (k := 4) rfl 0) 2) rfl) ?_
        obtain ⟨y305, hy305, H⟩ := bnd H
        refine Tr.callG [0, 1] [bx bp0 #[(iv p0.p.Unit), (.slice Ap0_0 (p0.p.Tools).length cp0_0), (.slice Ap0_1 (p0.p.Steps).length cp0_1), (.slice Ap0_2 (p0.tools).length cp0_2), (.slice Ap0_3 (p0.image).length cp0_3), (.bool p0.clear), (iv p0.tool), (iv p0.place.X), (iv p0.place.Y), (.bool p0.placed), (iv p0.off), (iv p0.on)] 77, ow Ap0_3 cp0_3 107 zJ p0.image] (U := (Option Addr × Nat)) (fun u => (iv y305.1)) (fun O W u => SlF u.1 (y305.2.2.2.2.2).length u.2) (fun u => [bx bp0 #[(iv p0.p.Unit), (.slice Ap0_0 (p0.p.Tools).length cp0_0), (.slice Ap0_1 (p0.p.Steps).length cp0_1), (.slice Ap0_2 (p0.tools).length cp0_2), (.slice u.1 (y305.2.2.2.2.2).length u.2), (.bool p0.clear), (iv p0.tool), (iv y305.2.1), (iv y305.2.2.1), (.bool y305.2.2.2.1), (iv p0.off), (iv y305.2.2.2.2.1)] 77, ow u.1 u.2 107 zJ y305.2.2.2.2.2]) rfl (zM rfl (zM rfl zY)) (fun _ => rfl) (wn rfl) rfl Tryz.call106 (zF rfl (zF rfl zO)) (fun W hW hp hE => F_plot_machine__line_ok N p0 Ap0_0 cp0_0 (hp0_0.ext (hW.extS hp)) Ap0_1 cp0_1 (hp0_1.ext (hW.extS hp)) Ap0_2 cp0_2 (hp0_2.ext (hW.extS hp)) Ap0_3 cp0_3 bp0 y102 y305 hy305 hE) ?_
        intro w u le306 hu
        obtain ⟨Ay305_0, cy305_0⟩ := u
        have gy305_0 := hu
        replace hp0_0 := hp0_0.leR le306
        replace hp0_1 := hp0_1.leR le306
        replace hp0_2 := hp0_2.leR le306
        replace hp1_0 := hp1_0.leR le306
        replace hp1_1 := hp1_1.leR le306
        replace leB := leB.trans le306
        replace leJ295 := leJ295.trans le306
        have hgy305_0 : SlF Ay305_0 (y305.2.2.2.2.2).length cy305_0 := gy305_0 --@phi
        show Tr _ _ (uf _ 57 (iv y305.1)) (up (up _ 1 (ow Ay305_0 cy305_0 107 zJ y305.2.2.2.2.2)) 0 (bx bp0 #[(iv p0.p.Unit), (.slice Ap0_0 (p0.p.Tools).length cp0_0), (.slice Ap0_1 (p0.p.Steps).length cp0_1), (.slice Ap0_2 (p0.tools).length cp0_2), (.slice Ay305_0 (y305.2.2.2.2.2).length cy305_0), (.bool p0.clear), (iv p0.tool), (iv y305.2.1), (iv y305.2.2.1), (.bool y305.2.2.2.1), (iv p0.off), (iv y305.2.2.2.2.1)] 77)) _
        refine Tr.asg rfl rfl ?_
        refine Tr.nil (Tr.zA ?_)
        refine Tr.ret (Tr.zAB (Tr.zU ?_))
        obtain rfl := Option.some.inj H
        exact Tr.out (m := [(iv y305.1)]) [] (zP rfl zQ) (fun W hW => ⟨w, (Ay305_0, cy305_0), leB, rfl, hgy305_0, hW.pick (ks := [0, 1]) (by decide) (zM rfl (zM rfl zY))⟩)
       ·refine Tr.sr ?_
        refine Tr.va rfl (fun _ _ h1 h2 => run_eql (h1.ev rfl) (h1.ev rfl)) ?_
        refine Tr.asg rfl rfl ?_
        refine Tr.nil (Tr.zA ?_)
        refine Tr.cond rfl H (fun H => ?_) (fun H => ?_)
        ·refine Tr.sr ?_
         refine Tr.mv rfl rfl ?_
         refine Tr.va rfl (fun _ _ h1 h2 => zB fo_46_3 (h1.ev rfl)) ?_
         refine Tr.va rfl (fun _ _ h1 h2 => zC ag_44 (h1.ev rfl) (rdb h2 (vs := [(iv p1.Kind), (sv p1.Name), (iv p1.At.X), (iv p1.At.Y), (.slice Ap1_0 (p1.Points).length cp1_0), (iv p1.NX), (iv p1.NY), (.slice Ap1_1 (p1.Steps).length cp1_1)]) (k := 2) rfl 4) rfl) ?_
         refine Tr.va rfl (fun _ _ h1 h2 => zR (cs := [(iv p2.X), (iv p2.Y)]) ag_43 sz_43 (h1.ev rfl) (zL.take (rdb h2 (vs := [(iv p2.X), (iv p2.Y)]) (k := 3) rfl 0) 2) rfl) ?_
         obtain ⟨y307, hy307, H⟩ := bnd H
         refine Tr.callG [0, 1] [bx bp0 #[(iv p0.p.Unit), (.slice Ap0_0 (p0.p.Tools).length cp0_0), (.slice Ap0_1 (p0.p.Steps).length cp0_1), (.slice Ap0_2 (p0.tools).length cp0_2), (.slice Ap0_3 (p0.image).length cp0_3), (.bool p0.clear), (iv p0.tool), (iv p0.place.X), (iv p0.place.Y), (.bool p0.placed), (iv p0.off), (iv p0.on)] 77, ow Ap0_3 cp0_3 107 zJ p0.image] (U := (Option Addr × Nat)) (fun u => (iv y307.1)) (fun O W u => SlF u.1 (y307.2).length u.2) (fun u => [bx bp0 #[(iv p0.p.Unit), (.slice Ap0_0 (p0.p.Tools).length cp0_0), (.slice Ap0_1 (p0.p.Steps).length cp0_1), (.slice Ap0_2 (p0.tools).length cp0_2), (.slice u.1 (y307.2).length u.2), (.bool p0.clear), (iv p0.tool), (iv p0.place.X), (iv p0.place.Y), (.bool p0.placed), (iv p0.off), (iv p0.on)] 77, ow u.1 u.2 107 zJ y307.2]) rfl (zM rfl (zM rfl zY)) (fun _ => rfl) (wn rfl) rfl Tryz.call107 (zF rfl (zF rfl (zF rfl zO))) (fun W hW hp hE => F_plot_machine__area_ok N p0 Ap0_0 cp0_0 (hp0_0.ext (hW.extS hp)) Ap0_1 cp0_1 (hp0_1.ext (hW.extS hp)) Ap0_2 cp0_2 (hp0_2.ext (hW.extS hp)) Ap0_3 cp0_3 bp0 p1.Points Ap1_0 cp1_0 (hp1_0.ext (hW.extS hp)) p2 y307 hy307 hE) ?_
         intro w u le308 hu
         obtain ⟨Ay307_0, cy307_0⟩ := u
         have gy307_0 := hu
         replace hp0_0 := hp0_0.leR le308
         replace hp0_1 := hp0_1.leR le308
         replace hp0_2 := hp0_2.leR le308
         replace hp1_0 := hp1_0.leR le308
         replace hp1_1 := hp1_1.leR le308
         replace leB := leB.trans le308
         replace leJ295 := leJ295.trans le308
         have hgy307_0 : SlF Ay307_0 (y307.2).length cy307_0 := gy307_0 --@phi
         show Tr _ _ (uf _ 64 (iv y307.1)) (up (up _ 1 (ow Ay307_0 cy307_0 107 zJ y307.2)) 0 (bx bp0 #[(iv p0.p.Unit), (.slice Ap0_0 (p0.p.Tools).length cp0_0), (.slice Ap0_1 (p0.p.Steps).length cp0_1), (.slice Ap0_2 (p0.tools).length cp0_2), (.slice Ay307_0 (y307.2).length cy307_0), (.bool p0.clear), (iv p0.tool), (iv p0.place.X), (iv p0.place.Y), (.bool p0.placed), (iv p0.off), (iv p0.on)] 77)) _
         refine Tr.asg rfl rfl ?_
         refine Tr.nil (Tr.zA ?_)
         refine Tr.ret (Tr.zAB (Tr.zU ?_))
         obtain rfl := Option.some.inj H
         exact Tr.out (m := [(iv y307.1)]) [] (zP rfl zQ) (fun W hW => ⟨w, (Ay307_0, cy307_0), leB, rfl, hgy307_0, hW.pick (ks := [0, 1]) (by decide) (zM rfl (zM rfl zY))⟩)
        ·refine Tr.sr ?_
         refine Tr.va rfl (fun _ _ h1 h2 => run_eql (h1.ev rfl) (h1.ev rfl)) ?_
         refine Tr.asg rfl rfl ?_
         refine Tr.nil (Tr.zA ?_)
         refine Tr.cond rfl H (fun H => ?_) (fun H => ?_)
         ·refine Tr.sr ?_
          refine Tr.va rfl (fun _ _ h1 h2 => zB fo_46_5 (h1.ev rfl)) ?_
          refine Tr.va rfl (fun _ _ h1 h2 => zC ag_3 (h1.ev rfl) (rdb h2 (vs := [(iv p1.Kind), (sv p1.Name), (iv p1.At.X), (iv p1.At.Y), (.slice Ap1_0 (p1.Points).length cp1_0), (iv p1.NX), (iv p1.NY), (.slice Ap1_1 (p1.Steps).length cp1_1)]) (k := 2) rfl 6) rfl) ?_
          refine Tr.mv rfl rfl ?_
          refine Tr.nil (Tr.zA ?_)
          refine Tr.block ?_
          refine Tr.loop (σ := (List zV) × Bool × Int × Int × Int × Bool × Int × Int × Int × (Option Addr) × Nat) (fun m w s => zAJ N p0 p1 p2 rec m s.1 s.2.1 s.2.2.1 s.2.2.2.1 s.2.2.2.2.1 s.2.2.2.2.2.1 s.2.2.2.2.2.2.1 s.2.2.2.2.2.2.2.1 s.2.2.2.2.2.2.2.2.1 = some r ∧ SlF s.2.2.2.2.2.2.2.2.2.1 (s.1).length s.2.2.2.2.2.2.2.2.2.2) (fun s => [(0, (.pointer (some ⟨bp0, 0, none⟩))), (4, (.pointer (some ⟨b100, 0, none⟩))), (5, (.pointer (some ⟨b101, 0, none⟩))), (68, (iv p1.NY)), (69, (iv s.2.2.2.2.2.2.2.2.1))]) (fun s => [(0, bx bp0 #[(iv p0.p.Unit), (.slice Ap0_0 (p0.p.Tools).length cp0_0), (.slice Ap0_1 (p0.p.Steps).length cp0_1), (.slice Ap0_2 (p0.tools).length cp0_2), (.slice s.2.2.2.2.2.2.2.2.2.1 (s.1).length s.2.2.2.2.2.2.2.2.2.2), (.bool s.2.1), (iv s.2.2.1), (iv s.2.2.2.1), (iv s.2.2.2.2.1), (.bool s.2.2.2.2.2.1), (iv s.2.2.2.2.2.2.1), (iv s.2.2.2.2.2.2.2.1)] 77), (1, ow s.2.2.2.2.2.2.2.2.2.1 s.2.2.2.2.2.2.2.2.2.2 107 zJ s.1), (2, bx b100 #[(iv p1.Kind), (sv p1.Name), (iv p1.At.X), (iv p1.At.Y), (.slice Ap1_0 (p1.Points).length cp1_0), (iv p1.NX), (iv p1.NY), (.slice Ap1_1 (p1.Steps).length cp1_1)] 46), (3, bx b101 #[(iv p2.X), (iv p2.Y)] 43)]) N (p0.image, p0.clear, p0.tool, p0.place.X, p0.place.Y, p0.placed, p0.off, p0.on, 0, Ap0_3, cp0_3) ⟨H, hfhp0_3⟩ (.cons rfl (.cons rfl (.cons rfl (.cons rfl (.cons rfl .nil))))) (.cons rfl (.cons rfl (.cons rfl (.cons rfl .nil)))) (fun _ _ h => noSome (h.1)) ?_
          intro w leL9 mL9 s hs
          obtain ⟨l426, x427, x428, x429, x430, x431, x432, x433, x434, Al426, cl426⟩ := s
          obtain ⟨H, hl426⟩ := hs
          replace H : zAJ N p0 p1 p2 rec (mL9 + 1) l426 x427 x428 x429 x430 x431 x432 x433 x434 = some r := H
          replace hp0_0 := hp0_0.leR leL9
          replace hp0_1 := hp0_1.leR leL9
          replace hp0_2 := hp0_2.leR leL9
          replace hp1_0 := hp1_0.leR leL9
          replace hp1_1 := hp1_1.leR leL9
          replace leB := leB.trans leL9
          replace leJ295 := leJ295.trans leL9
          replace hl426 : SlF Al426 (l426).length cl426 := hl426
          rw [zAJ.eq_2] at H
          show Tr _ _ (LF [(0, (.pointer (some ⟨bp0, 0, none⟩))), (4, (.pointer (some ⟨b100, 0, none⟩))), (5, (.pointer (some ⟨b101, 0, none⟩))), (68, (iv p1.NY)), (69, (iv x434))]) (LE [(0, bx bp0 #[(iv p0.p.Unit), (.slice Ap0_0 (p0.p.Tools).length cp0_0), (.slice Ap0_1 (p0.p.Steps).length cp0_1), (.slice Ap0_2 (p0.tools).length cp0_2), (.slice Al426 (l426).length cl426), (.bool x427), (iv x428), (iv x429), (iv x430), (.bool x431), (iv x432), (iv x433)] 77), (1, ow Al426 cl426 107 zJ l426), (2, bx b100 #[(iv p1.Kind), (sv p1.Name), (iv p1.At.X), (iv p1.At.Y), (.slice Ap1_0 (p1.Points).length cp1_0), (iv p1.NX), (iv p1.NY), (.slice Ap1_1 (p1.Steps).length cp1_1)] 46), (3, bx b101 #[(iv p2.X), (iv p2.Y)] 43)]) _
          refine Tr.sr ?_
          refine Tr.va rfl (fun _ _ h1 h2 => zz (h1.ev rfl) (h1.ev rfl)) ?_
          refine Tr.nil (Tr.zA ?_)
          refine Tr.seq ?_
          refine Tr.cond rfl H (fun H => ?_) (fun H => ?_)
          ·refine Tr.skip (Tr.zA ?_)
           refine Tr.seq ?_
           refine Tr.block ?_
           refine Tr.sr ?_
           refine Tr.mv rfl rfl ?_
           refine Tr.asg rfl rfl ?_
           refine Tr.nil (Tr.zA ?_)
           refine Tr.sr ?_
           refine Tr.va rfl (fun _ _ h1 h2 => zB fo_46_4 (h1.ev rfl)) ?_
           refine Tr.va rfl (fun _ _ h1 h2 => zC ag_3 (h1.ev rfl) (rdb h2 (vs := [(iv p1.Kind), (sv p1.Name), (iv p1.At.X), (iv p1.At.Y), (.slice Ap1_0 (p1.Points).length cp1_0), (iv p1.NX), (iv p1.NY), (.slice Ap1_1 (p1.Steps).length cp1_1)]) (k := 2) rfl 5) rfl) ?_
           refine Tr.mv rfl rfl ?_
           refine Tr.nil (Tr.zA ?_)
           refine Tr.block ?_
           refine Tr.loop (σ := (List zV) × Bool × Int × Int × Int × Bool × Int × Int × Int × (Option Addr) × Nat) (fun m w s => F_plot_machine__step_L10 p0 p1 p2 rec x434 (zAJ N p0 p1 p2 rec mL9) m s.1 s.2.1 s.2.2.1 s.2.2.2.1 s.2.2.2.2.1 s.2.2.2.2.2.1 s.2.2.2.2.2.2.1 s.2.2.2.2.2.2.2.1 s.2.2.2.2.2.2.2.2.1 = some r ∧ SlF s.2.2.2.2.2.2.2.2.2.1 (s.1).length s.2.2.2.2.2.2.2.2.2.2) (fun s => [(0, (.pointer (some ⟨bp0, 0, none⟩))), (4, (.pointer (some ⟨b100, 0, none⟩))), (5, (.pointer (some ⟨b101, 0, none⟩))), (8, (iv x434)), (68, (iv p1.NY)), (69, (iv x434)), (73, (iv p1.NX)), (74, (iv s.2.2.2.2.2.2.2.2.1))]) (fun s => [(0, bx bp0 #[(iv p0.p.Unit), (.slice Ap0_0 (p0.p.Tools).length cp0_0), (.slice Ap0_1 (p0.p.Steps).length cp0_1), (.slice Ap0_2 (p0.tools).length cp0_2), (.slice s.2.2.2.2.2.2.2.2.2.1 (s.1).length s.2.2.2.2.2.2.2.2.2.2), (.bool s.2.1), (iv s.2.2.1), (iv s.2.2.2.1), (iv s.2.2.2.2.1), (.bool s.2.2.2.2.2.1), (iv s.2.2.2.2.2.2.1), (iv s.2.2.2.2.2.2.2.1)] 77), (1, ow s.2.2.2.2.2.2.2.2.2.1 s.2.2.2.2.2.2.2.2.2.2 107 zJ s.1), (2, bx b100 #[(iv p1.Kind), (sv p1.Name), (iv p1.At.X), (iv p1.At.Y), (.slice Ap1_0 (p1.Points).length cp1_0), (iv p1.NX), (iv p1.NY), (.slice Ap1_1 (p1.Steps).length cp1_1)] 46), (3, bx b101 #[(iv p2.X), (iv p2.Y)] 43)]) N (l426, x427, x428, x429, x430, x431, x432, x433, 0, Al426, cl426) ⟨H, hl426⟩ (.cons rfl (.cons rfl (.cons rfl (.cons rfl (.cons rfl (.cons rfl (.cons rfl (.cons rfl .nil)))))))) (.cons rfl (.cons rfl (.cons rfl (.cons rfl .nil)))) (fun _ _ h => noSome (h.1)) ?_
           intro w leL10 mL10 s hs
           obtain ⟨l468, x469, x470, x471, x472, x473, x474, x475, x476, Al468, cl468⟩ := s
           obtain ⟨H, hl468⟩ := hs
           replace H : F_plot_machine__step_L10 p0 p1 p2 rec x434 (zAJ N p0 p1 p2 rec mL9) (mL10 + 1) l468 x469 x470 x471 x472 x473 x474 x475 x476 = some r := H
           replace hp0_0 := hp0_0.leR leL10
           replace hp0_1 := hp0_1.leR leL10
           replace hp0_2 := hp0_2.leR leL10
           replace hp1_0 := hp1_0.leR leL10
           replace hp1_1 := hp1_1.leR leL10
           replace leB := leB.trans leL10
           replace leJ295 := leJ295.trans leL10
           replace leL9 := leL9.trans leL10
           replace hl468 : SlF Al468 (l468).length cl468 := hl468
           rw [F_plot_machine__step_L10.eq_2] at H
           show Tr _ _ (LF [(0, (.pointer (some ⟨bp0, 0, none⟩))), (4, (.pointer (some ⟨b100, 0, none⟩))), (5, (.pointer (some ⟨b101, 0, none⟩))), (8, (iv x434)), (68, (iv p1.NY)), (69, (iv x434)), (73, (iv p1.NX)), (74, (iv x476))]) (LE [(0, bx bp0 #[(iv p0.p.Unit), (.slice Ap0_0 (p0.p.Tools).length cp0_0), (.slice Ap0_1 (p0.p.Steps).length cp0_1), (.slice Ap0_2 (p0.tools).length cp0_2), (.slice Al468 (l468).length cl468), (.bool x469), (iv x470), (iv x471), (iv x472), (.bool x473), (iv x474), (iv x475)] 77), (1, ow Al468 cl468 107 zJ l468), (2, bx b100 #[(iv p1.Kind), (sv p1.Name), (iv p1.At.X), (iv p1.At.Y), (.slice Ap1_0 (p1.Points).length cp1_0), (iv p1.NX), (iv p1.NY), (.slice Ap1_1 (p1.Steps).length cp1_1)] 46), (3, bx b101 #[(iv p2.X), (iv p2.Y)] 43)]) _
           refine Tr.sr ?_
           refine Tr.va rfl (fun _ _ h1 h2 => zz (h1.ev rfl) (h1.ev rfl)) ?_
           refine Tr.nil (Tr.zA ?_)
           refine Tr.seq ?_
           refine Tr.cond rfl H (fun H => ?_) (fun H => ?_)
           ·refine Tr.skip (Tr.zA ?_)
            refine Tr.seq ?_
            refine Tr.block ?_
            refine Tr.sr ?_
            refine Tr.mv rfl rfl ?_
            refine Tr.asg rfl rfl ?_
            refine Tr.nil (Tr.zA ?_)
            refine Tr.seq ?_
            refine Tr.drawF 30 [(29, .makeFunc (.func 0) #[] #[])] [(29, ⟨10, 22, (.func (.func 0) #[] #[]), fun b => .pointer (some ⟨b, 0, none⟩), fun b => bx b #[(iv 0), (iv 0)] 43⟩)] [(0, (.pointer (some ⟨bp0, 0, none⟩))), (4, (.pointer (some ⟨b100, 0, none⟩))), (5, (.pointer (some ⟨b101, 0, none⟩))), (8, (iv x434)), (9, (iv x476)), (10, (.func (.func 0) #[] #[])), (68, (iv p1.NY)), (69, (iv x434)), (73, (iv p1.NX)), (74, (iv x476)), (75, (.bool (decide (x476 < p1.NX)))), (76, (iv x476)), (77, (.pointer (some ⟨b101, 0, none⟩))), (78, (iv p2.X)), (79, (iv x476)), (80, (.pointer (some ⟨b100, 2, none⟩))), (81, (.pointer (some ⟨b100, 2, none⟩))), (82, (iv p1.At.X)), (83, (iv (w64 (x476 * p1.At.X)))), (84, (.pointer (some ⟨bp0, 0, none⟩))), (85, (.pointer (some ⟨bp0, 0, none⟩))), (86, (.pointer (some ⟨bp0, 0, none⟩))), (87, (.pointer (some ⟨bp0, 0, none⟩))), (88, (iv p0.p.Unit)), (89, (iv (w64 ((w64 (x476 * p1.At.X)) * p0.p.Unit)))), (90, (iv (w64 (p2.X + (w64 ((w64 (x476 * p1.At.X)) * p0.p.Unit)))))), (91, (.pointer (some ⟨b101, 1, none⟩))), (92, (iv p2.Y)), (93, (iv x434)), (94, (.pointer (some ⟨b100, 2, none⟩))), (95, (.pointer (some ⟨b100, 3, none⟩))), (96, (iv p1.At.Y)), (97, (iv (w64 (x434 * p1.At.Y)))), (98, (.pointer (some ⟨bp0, 0, none⟩))), (99, (.pointer (some ⟨bp0, 0, none⟩))), (100, (.pointer (some ⟨bp0, 0, none⟩))), (101, (.pointer (some ⟨bp0, 0, none⟩))), (102, (iv p0.p.Unit)), (103, (iv (w64 ((w64 (x434 * p1.At.Y)) * p0.p.Unit)))), (104, (iv (w64 (p2.Y + (w64 ((w64 (x434 * p1.At.Y)) * p0.p.Unit)))))), (105, (.agg #[(iv (w64 (p2.X + (w64 ((w64 (x476 * p1.At.X)) * p0.p.Unit))))), (iv (w64 (p2.Y + (w64 ((w64 (x434 * p1.At.Y)) * p0.p.Unit)))))]))] (by kernel_rfl) (by kernel_rfl) (by kernel_rfl) (by kernel_rfl) (by kernel_rfl) (by kernel_rfl) (by kernel_rfl) (fall_cons (fr_alloc rfl rfl ze_43) fall_nil) (fall_cons rfl fall_nil) (fall_cons rfl fall_nil) ?_ ?_
            ·refine Tq.va rfl (fun _ _ h1 h2 => zB fo_43_0 (h1.ev rfl)) ?_
             refine Tq.va rfl (fun _ _ h1 h2 => zC ag_3 (h1.ev rfl) (rdb h2 (vs := [(iv p2.X), (iv p2.Y)]) (k := 3) rfl 0) rfl) ?_
             refine Tq.mv rfl rfl ?_
             refine Tq.va rfl (fun _ _ h1 h2 => zB fo_46_2 (h1.ev rfl)) ?_
             refine Tq.va rfl (fun _ _ h1 h2 => zB fo_43_0 (h1.ev rfl)) ?_
             refine Tq.va rfl (fun _ _ h1 h2 => zC ag_3 (h1.ev rfl) (rdb h2 (vs := [(iv p1.Kind), (sv p1.Name), (iv p1.At.X), (iv p1.At.Y), (.slice Ap1_0 (p1.Points).length cp1_0), (iv p1.NX), (iv p1.NY), (.slice Ap1_1 (p1.Steps).length cp1_1)]) (k := 2) rfl 2) rfl) ?_
             refine Tq.va rfl (fun _ _ h1 h2 => run_mul (h1.ev rfl) (h1.ev rfl)) ?_
             refine Tq.mv rfl rfl ?_
             refine Tq.va rfl (fun _ _ h1 h2 => zb (h1.ev rfl)) ?_
             refine Tq.va rfl (fun _ _ h1 h2 => zB fo_77_0 (h1.ev rfl)) ?_
             refine Tq.va rfl (fun _ _ h1 h2 => zB fo_25_0 (h1.ev rfl)) ?_
             refine Tq.va rfl (fun _ _ h1 h2 => zC ag_3 (h1.ev rfl) (rdb h2 (vs := [(iv p0.p.Unit), (.slice Ap0_0 (p0.p.Tools).length cp0_0), (.slice Ap0_1 (p0.p.Steps).length cp0_1), (.slice Ap0_2 (p0.tools).length cp0_2), (.slice Al468 (l468).length cl468), (.bool x469), (iv x470), (iv x471), (iv x472), (.bool x473), (iv x474), (iv x475)]) (k := 0) rfl 0) rfl) ?_
             refine Tq.va rfl (fun _ _ h1 h2 => run_mul (h1.ev rfl) (h1.ev rfl)) ?_
             refine Tq.va rfl (fun _ _ h1 h2 => zx (h1.ev rfl) (h1.ev rfl)) ?_
             refine Tq.va rfl (fun _ _ h1 h2 => zB fo_43_1 (h1.ev rfl)) ?_
             refine Tq.va rfl (fun _ _ h1 h2 => zC ag_3 (h1.ev rfl) (rdb h2 (vs := [(iv p2.X), (iv p2.Y)]) (k := 3) rfl 1) rfl) ?_
             refine Tq.mv rfl rfl ?_
             refine Tq.va rfl (fun _ _ h1 h2 => zB fo_46_2 (h1.ev rfl)) ?_
             refine Tq.va rfl (fun _ _ h1 h2 => zB fo_43_1 (h1.ev rfl)) ?_
             refine Tq.va rfl (fun _ _ h1 h2 => zC ag_3 (h1.ev rfl) (rdb h2 (vs := [(iv p1.Kind), (sv p1.Name), (iv p1.At.X), (iv p1.At.Y), (.slice Ap1_0 (p1.Points).length cp1_0), (iv p1.NX), (iv p1.NY), (.slice Ap1_1 (p1.Steps).length cp1_1)]) (k := 2) rfl 3) rfl) ?_
             refine Tq.va rfl (fun _ _ h1 h2 => run_mul (h1.ev rfl) (h1.ev rfl)) ?_
             refine Tq.mv rfl rfl ?_
             refine Tq.va rfl (fun _ _ h1 h2 => zb (h1.ev rfl)) ?_
             refine Tq.va rfl (fun _ _ h1 h2 => zB fo_77_0 (h1.ev rfl)) ?_
             refine Tq.va rfl (fun _ _ h1 h2 => zB fo_25_0 (h1.ev rfl)) ?_
             refine Tq.va rfl (fun _ _ h1 h2 => zC ag_3 (h1.ev rfl) (rdb h2 (vs := [(iv p0.p.Unit), (.slice Ap0_0 (p0.p.Tools).length cp0_0), (.slice Ap0_1 (p0.p.Steps).length cp0_1), (.slice Ap0_2 (p0.tools).length cp0_2), (.slice Al468 (l468).length cl468), (.bool x469), (iv x470), (iv x471), (iv x472), (.bool x473), (iv x474), (iv x475)]) (k := 0) rfl 0) rfl) ?_
             refine Tq.va rfl (fun _ _ h1 h2 => run_mul (h1.ev rfl) (h1.ev rfl)) ?_
             refine Tq.va rfl (fun _ _ h1 h2 => zx (h1.ev rfl) (h1.ev rfl)) ?_
             refine Tq.build (vs := [(0, (iv (w64 (p2.X + (w64 ((w64 (x476 * p1.At.X)) * p0.p.Unit)))))), (1, (iv (w64 (p2.Y + (w64 ((w64 (x434 * p1.At.Y)) * p0.p.Unit))))))]) (cs := [(iv (w64 (p2.X + (w64 ((w64 (x476 * p1.At.X)) * p0.p.Unit))))), (iv (w64 (p2.Y + (w64 ((w64 (x434 * p1.At.Y)) * p0.p.Unit)))))]) (wn rfl) rfl (zi rfl (zi rfl evs_nil)) (by kernel_rfl) ?_
             refine Tq.mkFunc (vs := []) (wn rfl) rfl zO ?_
             exact Tq.fin (.cons rfl (.cons rfl (.cons rfl (.cons rfl (.cons rfl (.cons rfl (.cons rfl (.cons rfl (.cons rfl (.cons rfl (.cons rfl (.cons rfl (.cons rfl (.cons rfl (.cons rfl (.cons rfl (.cons rfl (.cons rfl (.cons rfl (.cons rfl (.cons rfl (.cons rfl (.cons rfl (.cons rfl (.cons rfl (.cons rfl (.cons rfl (.cons rfl (.cons rfl (.cons rfl (.cons rfl (.cons rfl (.cons rfl (.cons rfl (.cons rfl (.cons rfl (.cons rfl (.cons rfl (.cons rfl (.cons rfl (.cons rfl .nil)))))))))))))))))))))))))))))))))))))))))
            ·intro bs477
             refine Tr.sel (lf := [(0, (.pointer (some ⟨bp0, 0, none⟩))), (4, (.pointer (some ⟨b100, 0, none⟩))), (5, (.pointer (some ⟨b101, 0, none⟩))), (8, (iv x434)), (10, (.pointer (some ⟨(bs477 29), 0, none⟩))), (68, (iv p1.NY)), (69, (iv x434)), (73, (iv p1.NX)), (74, (iv x476)), (105, (.agg #[(iv (w64 (p2.X + (w64 ((w64 (x476 * p1.At.X)) * p0.p.Unit))))), (iv (w64 (p2.Y + (w64 ((w64 (x434 * p1.At.Y)) * p0.p.Unit)))))]))]) (le := [(0, bx bp0 #[(iv p0.p.Unit), (.slice Ap0_0 (p0.p.Tools).length cp0_0), (.slice Ap0_1 (p0.p.Steps).length cp0_1), (.slice Ap0_2 (p0.tools).length cp0_2), (.slice Al468 (l468).length cl468), (.bool x469), (iv x470), (iv x471), (iv x472), (.bool x473), (iv x474), (iv x475)] 77), (1, ow Al468 cl468 107 zJ l468), (2, bx b100 #[(iv p1.Kind), (sv p1.Name), (iv p1.At.X), (iv p1.At.Y), (.slice Ap1_0 (p1.Points).length cp1_0), (iv p1.NX), (iv p1.NY), (.slice Ap1_1 (p1.Steps).length cp1_1)] 46), (3, bx b101 #[(iv p2.X), (iv p2.Y)] 43), (22, bx (bs477 29) #[(iv 0), (iv 0)] 43)]) (.cons rfl (.cons rfl (.cons rfl (.cons rfl (.cons rfl (.cons rfl (.cons rfl (.cons rfl (.cons rfl (.cons rfl .nil)))))))))) (.cons rfl (.cons rfl (.cons rfl (.cons rfl (.cons rfl .nil))))) ?_
             refine Tr.store 22 (cs := [(iv (w64 (p2.X + (w64 ((w64 (x476 * p1.At.X)) * p0.p.Unit))))), (iv (w64 (p2.Y + (w64 ((w64 (x434 * p1.At.Y)) * p0.p.Unit)))))]) [(iv (w64 (p2.X + (w64 ((w64 (x476 * p1.At.X)) * p0.p.Unit))))), (iv (w64 (p2.Y + (w64 ((w64 (x434 * p1.At.Y)) * p0.p.Unit)))))] (wn rfl) rfl rfl rfl rfl sz_43 rfl rfl rfl ?_
             refine Tr.nil (Tr.zA ?_)
             refine Tr.sr ?_
             refine Tr.mv rfl rfl ?_
             refine Tr.va rfl (fun _ _ h1 h2 => zB fo_46_6 (h1.ev rfl)) ?_
             refine Tr.va rfl (fun _ _ h1 h2 => zC ag_23 (h1.ev rfl) (rdb h2 (vs := [(iv p1.Kind), (sv p1.Name), (iv p1.At.X), (iv p1.At.Y), (.slice Ap1_0 (p1.Points).length cp1_0), (iv p1.NX), (iv p1.NY), (.slice Ap1_1 (p1.Steps).length cp1_1)]) (k := 2) rfl 7) rfl) ?_
             refine Tr.va rfl (fun _ _ h1 h2 => zR (cs := [(iv (w64 (p2.X + (w64 ((w64 (x476 * p1.At.X)) * p0.p.Unit))))), (iv (w64 (p2.Y + (w64 ((w64 (x434 * p1.At.Y)) * p0.p.Unit)))))]) ag_43 sz_43 (h1.ev rfl) (zL.take (rdb h2 (vs := [(iv (w64 (p2.X + (w64 ((w64 (x476 * p1.At.X)) * p0.p.Unit))))), (iv (w64 (p2.Y + (w64 ((w64 (x434 * p1.At.Y)) * p0.p.Unit)))))]) (k := 22) rfl 0) 2) rfl) ?_
             obtain ⟨y478, hy478, H⟩ := bnd H
             refine Tr.callG [0, 1] [bx bp0 #[(iv p0.p.Unit), (.slice Ap0_0 (p0.p.Tools).length cp0_0), (.slice Ap0_1 (p0.p.Steps).length cp0_1), (.slice Ap0_2 (p0.tools).length cp0_2), (.slice Al468 (l468).length cl468), (.bool x469), (iv x470), (iv x471), (iv x472), (.bool x473), (iv x474), (iv x475)] 77, ow Al468 cl468 107 zJ l468] (U := (Option Addr × Nat)) (fun u => (iv y478.1)) (fun O W u => SlF u.1 (y478.2.2.2.2.2.2.2.2).length u.2) (fun u => [bx bp0 #[(iv p0.p.Unit), (.slice Ap0_0 (p0.p.Tools).length cp0_0), (.slice Ap0_1 (p0.p.Steps).length cp0_1), (.slice Ap0_2 (p0.tools).length cp0_2), (.slice u.1 (y478.2.2.2.2.2.2.2.2).length u.2), (.bool y478.2.1), (iv y478.2.2.1), (iv y478.2.2.2.1), (iv y478.2.2.2.2.1), (.bool y478.2.2.2.2.2.1), (iv y478.2.2.2.2.2.2.1), (iv y478.2.2.2.2.2.2.2.1)] 77, ow u.1 u.2 107 zJ y478.2.2.2.2.2.2.2.2]) rfl (zM rfl (zM rfl zY)) (fun _ => rfl) (wn rfl) rfl Tryz.call56 (zF rfl (zF rfl (zF rfl zO))) (fun W hW hp hE => hrec (zAA.mk p0.p p0.tools l468 x469 x470 (zI.mk x471 x472) x473 x474 x475) Ap0_0 cp0_0 (hp0_0.ext (hW.extS hp)) Ap0_1 cp0_1 (hp0_1.ext (hW.extS hp)) Ap0_2 cp0_2 (hp0_2.ext (hW.extS hp)) Al468 cl468 bp0 p1.Steps Ap1_1 cp1_1 (hp1_1.ext (hW.extS hp)) (zI.mk (w64 (p2.X + (w64 ((w64 (x476 * p1.At.X)) * p0.p.Unit)))) (w64 (p2.Y + (w64 ((w64 (x434 * p1.At.Y)) * p0.p.Unit))))) y478 hy478 hE) ?_
             intro w u le479 hu
             obtain ⟨Ay478_0, cy478_0⟩ := u
             have gy478_0 := hu
             replace hp0_0 := hp0_0.leR le479
             replace hp0_1 := hp0_1.leR le479
             replace hp0_2 := hp0_2.leR le479
             replace hp1_0 := hp1_0.leR le479
             replace hp1_1 := hp1_1.leR le479
             replace leB := leB.trans le479
             replace leJ295 := leJ295.trans le479
             replace leL9 := leL9.trans le479
             replace leL10 := leL10.trans le479
             have hgy478_0 : SlF Ay478_0 (y478.2.2.2.2.2.2.2.2).length cy478_0 := gy478_0 --@phi
             show Tr _ _ (uf _ 110 (iv y478.1)) (up (up _ 1 (ow Ay478_0 cy478_0 107 zJ y478.2.2.2.2.2.2.2.2)) 0 (bx bp0 #[(iv p0.p.Unit), (.slice Ap0_0 (p0.p.Tools).length cp0_0), (.slice Ap0_1 (p0.p.Steps).length cp0_1), (.slice Ap0_2 (p0.tools).length cp0_2), (.slice Ay478_0 (y478.2.2.2.2.2.2.2.2).length cy478_0), (.bool y478.2.1), (iv y478.2.2.1), (iv y478.2.2.2.1), (iv y478.2.2.2.2.1), (.bool y478.2.2.2.2.2.1), (iv y478.2.2.2.2.2.2.1), (iv y478.2.2.2.2.2.2.2.1)] 77)) _
             refine Tr.asg rfl rfl ?_
             refine Tr.nil (Tr.zA ?_)
             refine Tr.sr ?_
             refine Tr.mv rfl rfl ?_
             refine Tr.va rfl (fun _ _ h1 h2 => run_neq (h1.ev rfl) (h1.ev rfl)) ?_
             refine Tr.nil (Tr.zA ?_)
             refine Tr.cond rfl H (fun H => ?_) (fun H => ?_)
             ·refine Tr.sr ?_
              refine Tr.mv rfl rfl ?_
              refine Tr.asg rfl rfl ?_
              refine Tr.nil (Tr.zA ?_)
              refine Tr.ret (Tr.zAB (Tr.zU (Tr.zU (Tr.zAB (Tr.zAB (Tr.zU (Tr.zU (Tr.zAB (Tr.zAB (Tr.zU ?_))))))))))
              obtain rfl := Option.some.inj H
              exact Tr.out (m := [(iv y478.1)]) [] (zP rfl zQ) (fun W hW => ⟨w, (Ay478_0, cy478_0), leB, rfl, hgy478_0, hW.pick (ks := [0, 1]) (by decide) (zM rfl (zM rfl zY))⟩)
             ·refine Tr.skip (Tr.zW (Tr.zA ?_))
              refine Tr.region ?_
              refine Tr.va rfl (fun _ _ h1 h2 => zx (h1.ev rfl) (h1.ev rfl)) ?_
              refine Tr.mv rfl rfl ?_
              refine Tr.nil ?_
              exact Tr.zZ leL10 (y478.2.2.2.2.2.2.2.2, y478.2.1, y478.2.2.1, y478.2.2.2.1, y478.2.2.2.2.1, y478.2.2.2.2.2.1, y478.2.2.2.2.2.2.1, y478.2.2.2.2.2.2.2.1, (w64 (x476 + 1)), Ay478_0, cy478_0) ⟨H, hgy478_0⟩ (.cons rfl (.cons rfl (.cons rfl (.cons rfl (.cons rfl (.cons rfl (.cons rfl (.cons rfl .nil)))))))) (.cons rfl (.cons rfl (.cons rfl (.cons rfl .nil))))
           ·refine Tr.exit (Tr.zX (Tr.zX (Tr.zAC (Tr.zW (Tr.zA ?_)))))
            refine Tr.region ?_
            refine Tr.va rfl (fun _ _ h1 h2 => zx (h1.ev rfl) (h1.ev rfl)) ?_
            refine Tr.mv rfl rfl ?_
            refine Tr.nil ?_
            exact Tr.zZ leL9 (l468, x469, x470, x471, x472, x473, x474, x475, (w64 (x434 + 1)), Al468, cl468) ⟨H, hl468⟩ (.cons rfl (.cons rfl (.cons rfl (.cons rfl (.cons rfl .nil))))) (.cons rfl (.cons rfl (.cons rfl (.cons rfl .nil))))
          ·refine Tr.exit (Tr.zX (Tr.zX (Tr.zAC (Tr.zW ?_))))
           exact Tr.zZ leJ295 (l426, x427, x428, x429, x430, x431, x432, x433, Al426, cl426) ⟨H, hl426⟩ .nil (.cons rfl (.cons rfl .nil))
         ·refine Tr.skip (Tr.zW ?_)
          exact Tr.zZ leJ295 (p0.image, p0.clear, p0.tool, p0.place.X, p0.place.Y, p0.placed, p0.off, p0.on, Ap0_3, cp0_3) ⟨H, hfhp0_3⟩ .nil (.cons rfl (.cons rfl .nil))
 ·intro w s hlJ296 hs
  obtain ⟨l287, x288, x289, x290, x291, x292, x293, x294, Al287, cl287⟩ := s
  obtain ⟨H, hl287⟩ := hs
  replace H : F_plot_machine__step_J6 l287 x288 x289 x290 x291 x292 x293 x294 = some r := H
  replace hp0_0 := hp0_0.leR hlJ296
  replace hp0_1 := hp0_1.leR hlJ296
  replace hp0_2 := hp0_2.leR hlJ296
  replace leB := leB.trans hlJ296
  replace hl287 : SlF Al287 (l287).length cl287 := hl287
  unfold F_plot_machine__step_J6 at H
  show Tr _ _ (LF []) (LE [(0, bx bp0 #[(iv p0.p.Unit), (.slice Ap0_0 (p0.p.Tools).length cp0_0), (.slice Ap0_1 (p0.p.Steps).length cp0_1), (.slice Ap0_2 (p0.tools).length cp0_2), (.slice Al287 (l287).length cl287), (.bool x288), (iv x289), (iv x290), (iv x291), (.bool x292), (iv x293), (iv x294)] 77), (1, ow Al287 cl287 107 zJ l287)]) _
  refine Tr.sr ?_
  refine Tr.asg rfl rfl ?_
  refine Tr.nil (Tr.zA ?_)
  refine Tr.ret ?_
  obtain rfl := Option.some.inj H
  exact Tr.out (m := [(iv 0)]) [] (zP rfl zQ) (fun W hW => ⟨w, (Al287, cl287), leB, rfl, hl287, hW.pick (ks := [0, 1]) (by decide) (zM rfl (zM rfl zY))⟩)
theorem F_plot_machine__run_b_ok (N : Nat) (rec : zAA → (List zD) → zI → Option (Int × Bool × Int × Int × Int × Bool × Int × Int × (List zV))) (hrec : ∀ {w : Bs} (p0 : zAA) (Ap0_0 : Option Addr) (cp0_0 : Nat) (hp0_0 : Sl w.R w.W zK Ap0_0 cp0_0 p0.p.Tools) (Ap0_1 : Option Addr) (cp0_1 : Nat) (hp0_1 : Sl w.R w.W zG Ap0_1 cp0_1 p0.p.Steps) (Ap0_2 : Option Addr) (cp0_2 : Nat) (hp0_2 : Sl w.R w.W fl_LTBand Ap0_2 cp0_2 p0.tools) (Ap0_3 : Option Addr) (cp0_3 : Nat) (bp0 : Nat) (p1 : (List zD)) (Ap1_0 : Option Addr) (cp1_0 : Nat) (hp1_0 : Sl w.R w.W zG Ap1_0 cp1_0 p1) (p2 : zI) (r : (Int × Bool × Int × Int × Int × Bool × Int × Int × (List zV))) (H : rec p0 p1 p2 = some r) (hE : HF w w.W (LEn [bx bp0 #[(iv p0.p.Unit), (.slice Ap0_0 (p0.p.Tools).length cp0_0), (.slice Ap0_1 (p0.p.Steps).length cp0_1), (.slice Ap0_2 (p0.tools).length cp0_2), (.slice Ap0_3 (p0.image).length cp0_3), (.bool p0.clear), (iv p0.tool), (iv p0.place.X), (iv p0.place.Y), (.bool p0.placed), (iv p0.off), (iv p0.on)] 77, ow Ap0_3 cp0_3 107 zJ p0.image])), Calls Tryz.prog 56 [(.pointer (some ⟨bp0, 0, none⟩)), (.slice Ap1_0 (p1).length cp1_0), (.agg #[(iv p2.X), (iv p2.Y)])].toArray w.W fun e W' => ∃ (w' : Bs) (u : (Option Addr × Nat)), w.Le w' ∧ e = .returned (iv r.1) ∧ (SlF u.1 (r.2.2.2.2.2.2.2.2).length u.2) ∧ HF w' W' (LEn [bx bp0 #[(iv p0.p.Unit), (.slice Ap0_0 (p0.p.Tools).length cp0_0), (.slice Ap0_1 (p0.p.Steps).length cp0_1), (.slice Ap0_2 (p0.tools).length cp0_2), (.slice u.1 (r.2.2.2.2.2.2.2.2).length u.2), (.bool r.2.1), (iv r.2.2.1), (iv r.2.2.2.1), (iv r.2.2.2.2.1), (.bool r.2.2.2.2.2.1), (iv r.2.2.2.2.2.2.1), (iv r.2.2.2.2.2.2.2.1)] 77, ow u.1 u.2 107 zJ r.2.2.2.2.2.2.2.2])) {w : Bs} (p0 : zAA) (Ap0_0 : Option Addr) (cp0_0 : Nat) (hp0_0 : Sl w.R w.W zK Ap0_0 cp0_0 p0.p.Tools) (Ap0_1 : Option Addr) (cp0_1 : Nat) (hp0_1 : Sl w.R w.W zG Ap0_1 cp0_1 p0.p.Steps) (Ap0_2 : Option Addr) (cp0_2 : Nat) (hp0_2 : Sl w.R w.W fl_LTBand Ap0_2 cp0_2 p0.tools) (Ap0_3 : Option Addr) (cp0_3 : Nat) (bp0 : Nat) (p1 : (List zD)) (Ap1_0 : Option Addr) (cp1_0 : Nat) (hp1_0 : Sl w.R w.W zG Ap1_0 cp1_0 p1) (p2 : zI) (r : (Int × Bool × Int × Int × Int × Bool × Int × Int × (List zV))) (H : F_plot_machine__run_b N rec p0 p1 p2 = some r) (hE : HF w w.W (LEn [bx bp0 #[(iv p0.p.Unit), (.slice Ap0_0 (p0.p.Tools).length cp0_0), (.slice Ap0_1 (p0.p.Steps).length cp0_1), (.slice Ap0_2 (p0.tools).length cp0_2), (.slice Ap0_3 (p0.image).length cp0_3), (.bool p0.clear), (iv p0.tool), (iv p0.place.X), (iv p0.place.Y), (.bool p0.placed), (iv p0.off), (iv p0.on)] 77, ow Ap0_3 cp0_3 107 zJ p0.image])) : Calls Tryz.prog 56 [(.pointer (some ⟨bp0, 0, none⟩)), (.slice Ap1_0 (p1).length cp1_0), (.agg #[(iv p2.X), (iv p2.Y)])].toArray w.W fun e W' => ∃ (w' : Bs) (u : (Option Addr × Nat)), w.Le w' ∧ e = .returned (iv r.1) ∧ (SlF u.1 (r.2.2.2.2.2.2.2.2).length u.2) ∧ HF w' W' (LEn [bx bp0 #[(iv p0.p.Unit), (.slice Ap0_0 (p0.p.Tools).length cp0_0), (.slice Ap0_1 (p0.p.Steps).length cp0_1), (.slice Ap0_2 (p0.tools).length cp0_2), (.slice u.1 (r.2.2.2.2.2.2.2.2).length u.2), (.bool r.2.1), (iv r.2.2.1), (iv r.2.2.2.1), (iv r.2.2.2.2.1), (.bool r.2.2.2.2.2.1), (iv r.2.2.2.2.2.2.1), (iv r.2.2.2.2.2.2.2.1)] 77, ow u.1 u.2 107 zJ r.2.2.2.2.2.2.2.2]) := by
 unfold F_plot_machine__run_b at H
 have hfhp0_3 := (hE.sl (k := 1) rfl).form
 have leB := Bs.Le.refl w
 refine Tr.enter (n := 24) Tryz.func56 rfl rfl rfl hE ?_
 refine Tr.sr ?_
 refine Tr.box 2 (cs := [(iv p2.X), (iv p2.Y)]) (wn rfl) rfl rfl rfl fun b100 => ?_
 refine Tr.asg rfl rfl ?_
 refine Tr.nil (Tr.zA ?_)
 refine Tr.seq ?_
 refine Tr.sr ?_
 refine Tr.mv rfl rfl ?_
 refine Tr.va rfl (fun _ _ h1 h2 => zq un_23 (h1.ev rfl)) ?_
 refine Tr.mv rfl rfl ?_
 refine Tr.nil (Tr.zA ?_)
 refine Tr.block ?_
 refine Tr.loop (σ := (List zD) × Nat × (List zV) × Bool × Int × Int × Int × Bool × Int × Int × (Option Addr) × Nat) (fun m w s => m = s.1.length + 1 ∧ s.1 = List.drop s.2.1 p1 ∧ s.2.1 ≤ p1.length ∧ F_plot_machine__run_L1 N p0 p2 rec s.1 s.2.1 s.2.2.1 s.2.2.2.1 s.2.2.2.2.1 s.2.2.2.2.2.1 s.2.2.2.2.2.2.1 s.2.2.2.2.2.2.2.1 s.2.2.2.2.2.2.2.2.1 s.2.2.2.2.2.2.2.2.2.1 = some r ∧ SlF s.2.2.2.2.2.2.2.2.2.2.1 (s.2.2.1).length s.2.2.2.2.2.2.2.2.2.2.2) (fun s => [(0, (.pointer (some ⟨bp0, 0, none⟩))), (5, (.pointer (some ⟨b100, 0, none⟩))), (10, (.slice Ap1_0 (p1).length cp1_0)), (11, (iv (p1.length : Int))), (12, (iv (s.2.1 : Int)))]) (fun s => [(0, bx bp0 #[(iv p0.p.Unit), (.slice Ap0_0 (p0.p.Tools).length cp0_0), (.slice Ap0_1 (p0.p.Steps).length cp0_1), (.slice Ap0_2 (p0.tools).length cp0_2), (.slice s.2.2.2.2.2.2.2.2.2.2.1 (s.2.2.1).length s.2.2.2.2.2.2.2.2.2.2.2), (.bool s.2.2.2.1), (iv s.2.2.2.2.1), (iv s.2.2.2.2.2.1), (iv s.2.2.2.2.2.2.1), (.bool s.2.2.2.2.2.2.2.1), (iv s.2.2.2.2.2.2.2.2.1), (iv s.2.2.2.2.2.2.2.2.2.1)] 77), (1, ow s.2.2.2.2.2.2.2.2.2.2.1 s.2.2.2.2.2.2.2.2.2.2.2 107 zJ s.2.2.1), (2, bx b100 #[(iv p2.X), (iv p2.Y)] 43)]) (p1.length + 1) (p1, 0, p0.image, p0.clear, p0.tool, p0.place.X, p0.place.Y, p0.placed, p0.off, p0.on, Ap0_3, cp0_3) ⟨rfl, rfl, Nat.zero_le _, H, hfhp0_3⟩ (.cons rfl (.cons rfl (.cons rfl (.cons rfl (.cons rfl .nil))))) (.cons rfl (.cons rfl (.cons rfl .nil))) (fun _ _ h => absurd h.1 (by simp)) ?_
 intro w leL1 m s hs
 obtain ⟨restL1, iL1, l138, x139, x140, x141, x142, x143, x144, x145, Al138, cl138⟩ := s
 obtain ⟨hmL1, hdL1, hiL1, H, hl138⟩ := hs
 replace hdL1 : restL1 = List.drop iL1 p1 := hdL1
 replace H : F_plot_machine__run_L1 N p0 p2 rec restL1 iL1 l138 x139 x140 x141 x142 x143 x144 x145 = some r := H
 replace hmL1 : m + 1 = restL1.length + 1 := hmL1
 replace hp0_0 := hp0_0.leR leL1
 replace hp0_1 := hp0_1.leR leL1
 replace hp0_2 := hp0_2.leR leL1
 replace hp1_0 := hp1_0.leR leL1
 replace leB := leB.trans leL1
 replace hl138 : SlF Al138 (l138).length cl138 := hl138
 obtain rfl : m = restL1.length := by omega
 clear hmL1
 show Tr _ _ (LF [(0, (.pointer (some ⟨bp0, 0, none⟩))), (5, (.pointer (some ⟨b100, 0, none⟩))), (10, (.slice Ap1_0 (p1).length cp1_0)), (11, (iv (p1.length : Int))), (12, (iv (iL1 : Int)))]) (LE [(0, bx bp0 #[(iv p0.p.Unit), (.slice Ap0_0 (p0.p.Tools).length cp0_0), (.slice Ap0_1 (p0.p.Steps).length cp0_1), (.slice Ap0_2 (p0.tools).length cp0_2), (.slice Al138 (l138).length cl138), (.bool x139), (iv x140), (iv x141), (iv x142), (.bool x143), (iv x144), (iv x145)] 77), (1, ow Al138 cl138 107 zJ l138), (2, bx b100 #[(iv p2.X), (iv p2.Y)] 43)]) _
 cases restL1 with
 | nil =>
  rw [F_plot_machine__run_L1.eq_1] at H
  refine Tr.sr ?_
  refine Tr.va rfl (fun _ _ h1 h2 => zz (h1.ev rfl) (h1.ev rfl)) ?_
  refine Tr.nil (Tr.zA ?_)
  refine Tr.seq ?_
  refine Tr.condF rfl (range_nil hdL1) ?_
  refine Tr.exit (Tr.zX (Tr.zX (Tr.zAC (Tr.zA ?_))))
  refine Tr.sr ?_
  refine Tr.asg rfl rfl ?_
  refine Tr.nil (Tr.zA ?_)
  refine Tr.ret ?_
  obtain rfl := Option.some.inj H
  exact Tr.out (m := [(iv 0)]) [] (zP rfl zQ) (fun W hW => ⟨w, (Al138, cl138), leB, rfl, hl138, hW.pick (ks := [0, 1]) (by decide) (zM rfl (zM rfl zY))⟩)
 | cons xL1 restL1 =>
  rw [F_plot_machine__run_L1.eq_2] at H
  refine Tr.sr ?_
  refine Tr.va rfl (fun _ _ h1 h2 => zz (h1.ev rfl) (h1.ev rfl)) ?_
  refine Tr.nil (Tr.zA ?_)
  refine Tr.seq ?_
  refine Tr.condT rfl (range_on hdL1) ?_
  refine Tr.skip (Tr.zA ?_)
  refine Tr.seq ?_
  refine Tr.block ?_
  refine Tr.sr ?_
  obtain ⟨u146, hRu146, hoku146, hcu146⟩ := (hp1_0).el (range_at hdL1)
  obtain ⟨⟨Au146_0, cu146_0⟩, ⟨Au146_1, cu146_1⟩⟩ := u146
  obtain ⟨hoku146_0, hoku146_1⟩ := TPlotStep_ok.1 hoku146
  replace hoku146_0 : Sl w.R w.W zy Au146_0 cu146_0 xL1.Points := hoku146_0
  replace hoku146_1 : Sl w.R w.W zG Au146_1 cu146_1 xL1.Steps := hoku146_1
  refine Tr.va rfl (fun _ _ h1 h2 => zH el_23 (h1.ev rfl) hp1_0.form (h1.ev rfl) (Int.natCast_nonneg _) (zo hdL1)) ?_
  refine Tr.va rfl (fun _ _ h1 h2 => zR (cs := [(iv xL1.Kind), (sv xL1.Name), (iv xL1.At.X), (iv xL1.At.Y), (.slice Au146_0 (xL1.Points).length cu146_0), (iv xL1.NX), (iv xL1.NY), (.slice Au146_1 (xL1.Steps).length cu146_1)]) ag_46 sz_46 (h1.ev rfl) (zL.take (rdR hRu146 hcu146 h2) 8) rfl) ?_
  refine Tr.alloc 5 (wn rfl) rfl ze_46 fun b147 => ?_
  refine Tr.store 5 (cs := [(iv xL1.Kind), (sv xL1.Name), (iv xL1.At.X), (iv xL1.At.Y), (.slice Au146_0 (xL1.Points).length cu146_0), (iv xL1.NX), (iv xL1.NY), (.slice Au146_1 (xL1.Steps).length cu146_1)]) [(iv xL1.Kind), (sv xL1.Name), (iv xL1.At.X), (iv xL1.At.Y), (.slice Au146_0 (xL1.Points).length cu146_0), (iv xL1.NX), (iv xL1.NY), (.slice Au146_1 (xL1.Steps).length cu146_1)] (wn rfl) rfl rfl rfl rfl sz_46 rfl rfl rfl ?_
  refine Tr.nil (Tr.zA ?_)
  refine Tr.sr ?_
  refine Tr.mv rfl rfl ?_
  refine Tr.va rfl (fun _ _ h1 h2 => zR (cs := [(iv xL1.Kind), (sv xL1.Name), (iv xL1.At.X), (iv xL1.At.Y), (.slice Au146_0 (xL1.Points).length cu146_0), (iv xL1.NX), (iv xL1.NY), (.slice Au146_1 (xL1.Steps).length cu146_1)]) ag_46 sz_46 (h1.ev rfl) (zL.take (rdb h2 (vs := [(iv xL1.Kind), (sv xL1.Name), (iv xL1.At.X), (iv xL1.At.Y), (.slice Au146_0 (xL1.Points).length cu146_0), (iv xL1.NX), (iv xL1.NY), (.slice Au146_1 (xL1.Steps).length cu146_1)]) (k := 5) rfl 0) 8) rfl) ?_
  refine Tr.va rfl (fun _ _ h1 h2 => zR (cs := [(iv p2.X), (iv p2.Y)]) ag_43 sz_43 (h1.ev rfl) (zL.take (rdb h2 (vs := [(iv p2.X), (iv p2.Y)]) (k := 2) rfl 0) 2) rfl) ?_
  obtain ⟨y148, hy148, H⟩ := bnd H
  refine Tr.callG [0, 1] [bx bp0 #[(iv p0.p.Unit), (.slice Ap0_0 (p0.p.Tools).length cp0_0), (.slice Ap0_1 (p0.p.Steps).length cp0_1), (.slice Ap0_2 (p0.tools).length cp0_2), (.slice Al138 (l138).length cl138), (.bool x139), (iv x140), (iv x141), (iv x142), (.bool x143), (iv x144), (iv x145)] 77, ow Al138 cl138 107 zJ l138] (U := (Option Addr × Nat)) (fun u => (iv y148.1)) (fun O W u => SlF u.1 (y148.2.2.2.2.2.2.2.2).length u.2) (fun u => [bx bp0 #[(iv p0.p.Unit), (.slice Ap0_0 (p0.p.Tools).length cp0_0), (.slice Ap0_1 (p0.p.Steps).length cp0_1), (.slice Ap0_2 (p0.tools).length cp0_2), (.slice u.1 (y148.2.2.2.2.2.2.2.2).length u.2), (.bool y148.2.1), (iv y148.2.2.1), (iv y148.2.2.2.1), (iv y148.2.2.2.2.1), (.bool y148.2.2.2.2.2.1), (iv y148.2.2.2.2.2.2.1), (iv y148.2.2.2.2.2.2.2.1)] 77, ow u.1 u.2 107 zJ y148.2.2.2.2.2.2.2.2]) rfl (zM rfl (zM rfl zY)) (fun _ => rfl) (wn rfl) rfl Tryz.call78 (zF rfl (zF rfl (zF rfl zO))) (fun W hW hp hE => F_plot_machine__step_ok rec hrec N (zAA.mk p0.p p0.tools l138 x139 x140 (zI.mk x141 x142) x143 x144 x145) Ap0_0 cp0_0 (hp0_0.ext (hW.extS hp)) Ap0_1 cp0_1 (hp0_1.ext (hW.extS hp)) Ap0_2 cp0_2 (hp0_2.ext (hW.extS hp)) Al138 cl138 bp0 xL1 Au146_0 cu146_0 (hoku146_0.ext (hW.extS hp)) Au146_1 cu146_1 (hoku146_1.ext (hW.extS hp)) p2 y148 hy148 hE) ?_
  intro w u le149 hu
  obtain ⟨Ay148_0, cy148_0⟩ := u
  have gy148_0 := hu
  replace hp0_0 := hp0_0.leR le149
  replace hp0_1 := hp0_1.leR le149
  replace hp0_2 := hp0_2.leR le149
  replace hp1_0 := hp1_0.leR le149
  replace hcu146 := le149.ext.cells hRu146 hcu146
  replace hRu146 := le149.r _ hRu146
  replace hoku146_0 := hoku146_0.leR le149
  replace hoku146_1 := hoku146_1.leR le149
  replace leB := leB.trans le149
  replace leL1 := leL1.trans le149
  have hgy148_0 : SlF Ay148_0 (y148.2.2.2.2.2.2.2.2).length cy148_0 := gy148_0 --@phi
  show Tr _ _ (uf _ 19 (iv y148.1)) (up (up _ 1 (ow Ay148_0 cy148_0 107 zJ y148.2.2.2.2.2.2.2.2)) 0 (bx bp0 #[(iv p0.p.Unit), (.slice Ap0_0 (p0.p.Tools).length cp0_0), (.slice Ap0_1 (p0.p.Steps).length cp0_1), (.slice Ap0_2 (p0.tools).length cp0_2), (.slice Ay148_0 (y148.2.2.2.2.2.2.2.2).length cy148_0), (.bool y148.2.1), (iv y148.2.2.1), (iv y148.2.2.2.1), (iv y148.2.2.2.2.1), (.bool y148.2.2.2.2.2.1), (iv y148.2.2.2.2.2.2.1), (iv y148.2.2.2.2.2.2.2.1)] 77)) _
  refine Tr.asg rfl rfl ?_
  refine Tr.nil (Tr.zA ?_)
  refine Tr.sr ?_
  refine Tr.mv rfl rfl ?_
  refine Tr.va rfl (fun _ _ h1 h2 => run_neq (h1.ev rfl) (h1.ev rfl)) ?_
  refine Tr.nil (Tr.zA ?_)
  refine Tr.cond rfl H (fun H => ?_) (fun H => ?_)
  ·refine Tr.sr ?_
   refine Tr.mv rfl rfl ?_
   refine Tr.asg rfl rfl ?_
   refine Tr.nil (Tr.zA ?_)
   refine Tr.ret (Tr.zAB (Tr.zU (Tr.zU (Tr.zAB (Tr.zU ?_)))))
   obtain rfl := Option.some.inj H
   exact Tr.out (m := [(iv y148.1)]) [] (zP rfl zQ) (fun W hW => ⟨w, (Ay148_0, cy148_0), leB, rfl, hgy148_0, hW.pick (ks := [0, 1]) (by decide) (zM rfl (zM rfl zY))⟩)
  ·refine Tr.skip (Tr.zW (Tr.zA ?_))
   refine Tr.region ?_
   refine Tr.va rfl (fun _ _ h1 h2 => zx (h1.ev rfl) (h1.ev rfl)) ?_
   refine Tr.mv rfl rfl ?_
   refine Tr.nil ?_
   exact Tr.zZ leL1 (restL1, (iL1 + 1), y148.2.2.2.2.2.2.2.2, y148.2.1, y148.2.2.1, y148.2.2.2.1, y148.2.2.2.2.1, y148.2.2.2.2.2.1, y148.2.2.2.2.2.2.1, y148.2.2.2.2.2.2.2.1, Ay148_0, cy148_0) ⟨rfl, range_tl hdL1, zo hdL1, H, hgy148_0⟩ (.cons rfl (.cons rfl (.cons rfl (.cons rfl (.cons (congrArg (fun z => some (Value.int .i64 z)) (range_up hdL1 hp1_0.form)) .nil))))) (.cons rfl (.cons rfl (.cons rfl .nil)))
theorem F_plot_machine__run_ok : ∀ (N : Nat) {w : Bs} (p0 : zAA) (Ap0_0 : Option Addr) (cp0_0 : Nat) (hp0_0 : Sl w.R w.W zK Ap0_0 cp0_0 p0.p.Tools) (Ap0_1 : Option Addr) (cp0_1 : Nat) (hp0_1 : Sl w.R w.W zG Ap0_1 cp0_1 p0.p.Steps) (Ap0_2 : Option Addr) (cp0_2 : Nat) (hp0_2 : Sl w.R w.W fl_LTBand Ap0_2 cp0_2 p0.tools) (Ap0_3 : Option Addr) (cp0_3 : Nat) (bp0 : Nat) (p1 : (List zD)) (Ap1_0 : Option Addr) (cp1_0 : Nat) (hp1_0 : Sl w.R w.W zG Ap1_0 cp1_0 p1) (p2 : zI) (r : (Int × Bool × Int × Int × Int × Bool × Int × Int × (List zV))) (H : F_plot_machine__run N p0 p1 p2 = some r) (hE : HF w w.W (LEn [bx bp0 #[(iv p0.p.Unit), (.slice Ap0_0 (p0.p.Tools).length cp0_0), (.slice Ap0_1 (p0.p.Steps).length cp0_1), (.slice Ap0_2 (p0.tools).length cp0_2), (.slice Ap0_3 (p0.image).length cp0_3), (.bool p0.clear), (iv p0.tool), (iv p0.place.X), (iv p0.place.Y), (.bool p0.placed), (iv p0.off), (iv p0.on)] 77, ow Ap0_3 cp0_3 107 zJ p0.image])), Calls Tryz.prog 56 [(.pointer (some ⟨bp0, 0, none⟩)), (.slice Ap1_0 (p1).length cp1_0), (.agg #[(iv p2.X), (iv p2.Y)])].toArray w.W fun e W' => ∃ (w' : Bs) (u : (Option Addr × Nat)), w.Le w' ∧ e = .returned (iv r.1) ∧ (SlF u.1 (r.2.2.2.2.2.2.2.2).length u.2) ∧ HF w' W' (LEn [bx bp0 #[(iv p0.p.Unit), (.slice Ap0_0 (p0.p.Tools).length cp0_0), (.slice Ap0_1 (p0.p.Steps).length cp0_1), (.slice Ap0_2 (p0.tools).length cp0_2), (.slice u.1 (r.2.2.2.2.2.2.2.2).length u.2), (.bool r.2.1), (iv r.2.2.1), (iv r.2.2.2.1), (iv r.2.2.2.2.1), (.bool r.2.2.2.2.2.1), (iv r.2.2.2.2.2.2.1), (iv r.2.2.2.2.2.2.2.1)] 77, ow u.1 u.2 107 zJ r.2.2.2.2.2.2.2.2])
 | 0 => by intros; rename_i H _; cases H
 | N + 1 => F_plot_machine__run_b_ok N (F_plot_machine__run N) (F_plot_machine__run_ok N)

theorem F_plot_drawn_ok (N : Nat) {w : Bs} (p0 : zt) (Ap0_0 : Option Addr) (cp0_0 : Nat) (hp0_0 : Sl w.O w.W zK Ap0_0 cp0_0 p0.Tools) (Ap0_1 : Option Addr) (cp0_1 : Nat) (hp0_1 : Sl w.O w.W zG Ap0_1 cp0_1 p0.Steps) (r : (zAA × Int)) (H : F_plot_drawn N p0 = some r) (hE : HF w w.W (LEn [emp, emp, emp])) : Calls Tryz.prog 32 [(.agg #[(iv p0.Unit), (.slice Ap0_0 (p0.Tools).length cp0_0), (.slice Ap0_1 (p0.Steps).length cp0_1)])].toArray w.W fun e W' => ∃ (w' : Bs) (u : (Option Addr × Nat) × (Option Addr × Nat) × (Option Addr × Nat) × (Option Addr × Nat) × (Option Addr × Nat)), w.Le w' ∧ e = .returned (.tuple #[(.pointer (some ⟨u.2.2.2.2.2, 0, none⟩)), (iv r.2)]) ∧ (Sl w'.O w'.W zK u.1.1 u.1.2 r.1.p.Tools ∧ Sl w'.O w'.W zG u.2.1.1 u.2.1.2 r.1.p.Steps ∧ SlF u.2.2.1.1 (r.1.tools).length u.2.2.1.2 ∧ SlF u.2.2.2.1.1 (r.1.image).length u.2.2.2.1.2 ∧ True) ∧ HF w' W' (LEn [ow u.2.2.1.1 u.2.2.1.2 66 fl_LTBand r.1.tools, ow u.2.2.2.1.1 u.2.2.2.1.2 107 zJ r.1.image, bx u.2.2.2.2.2 #[(iv r.1.p.Unit), (.slice u.1.1 (r.1.p.Tools).length u.1.2), (.slice u.2.1.1 (r.1.p.Steps).length u.2.1.2), (.slice u.2.2.1.1 (r.1.tools).length u.2.2.1.2), (.slice u.2.2.2.1.1 (r.1.image).length u.2.2.2.1.2), (.bool r.1.clear), (iv r.1.tool), (iv r.1.place.X), (iv r.1.place.Y), (.bool r.1.placed), (iv r.1.off), (iv r.1.on)] 77]) := by
 unfold F_plot_drawn at H
 have leB := Bs.Le.refl w
 refine Tr.enter (n := 13) Tryz.func32 rfl rfl rfl hE ?_
 refine Tr.sr ?_
 refine Tr.box 1 (cs := [(iv p0.Unit), (.slice Ap0_0 (p0.Tools).length cp0_0), (.slice Ap0_1 (p0.Steps).length cp0_1)]) (wn rfl) rfl rfl rfl fun b100 => ?_
 refine Tr.asg rfl rfl ?_
 refine Tr.asg rfl rfl ?_
 refine Tr.nil (Tr.zA ?_)
 refine Tr.sr ?_
 refine Tr.va rfl (fun _ _ h1 h2 => zR (cs := [(iv p0.Unit), (.slice Ap0_0 (p0.Tools).length cp0_0), (.slice Ap0_1 (p0.Steps).length cp0_1)]) ag_25 sz_25 (h1.ev rfl) (zL.take (rdb h2 (vs := [(iv p0.Unit), (.slice Ap0_0 (p0.Tools).length cp0_0), (.slice Ap0_1 (p0.Steps).length cp0_1)]) (k := 1) rfl 0) 3) rfl) ?_
 obtain ⟨y101, hy101, H⟩ := bnd H
 refine Tr.callG [2, 3, 4] [emp, emp, emp] (U := (Option Addr × Nat) × (Option Addr × Nat) × (Option Addr × Nat) × (Option Addr × Nat) × (Option Addr × Nat)) (fun u => (.pointer (some ⟨u.2.2.2.2.2, 0, none⟩))) (fun O W u => Sl O W zK u.1.1 u.1.2 y101.p.Tools ∧ Sl O W zG u.2.1.1 u.2.1.2 y101.p.Steps ∧ SlF u.2.2.1.1 (y101.tools).length u.2.2.1.2 ∧ SlF u.2.2.2.1.1 (y101.image).length u.2.2.2.1.2 ∧ True) (fun u => [ow u.2.2.1.1 u.2.2.1.2 66 fl_LTBand y101.tools, ow u.2.2.2.1.1 u.2.2.2.1.2 107 zJ y101.image, bx u.2.2.2.2.2 #[(iv y101.p.Unit), (.slice u.1.1 (y101.p.Tools).length u.1.2), (.slice u.2.1.1 (y101.p.Steps).length u.2.1.2), (.slice u.2.2.1.1 (y101.tools).length u.2.2.1.2), (.slice u.2.2.2.1.1 (y101.image).length u.2.2.2.1.2), (.bool y101.clear), (iv y101.tool), (iv y101.place.X), (iv y101.place.Y), (.bool y101.placed), (iv y101.off), (iv y101.on)] 77]) rfl (zM rfl (zM rfl (zM rfl zY))) (fun _ => rfl) (wn rfl) rfl Tryz.call55 (zF rfl zO) (fun W hW hp hE => F_plot_newMachine_ok N p0 Ap0_0 cp0_0 (hp0_0.extO (hW.extS hp)) Ap0_1 cp0_1 (hp0_1.extO (hW.extS hp)) y101 hy101 hE) ?_
 intro w u le102 hu
 obtain ⟨⟨Ay101_0, cy101_0⟩, ⟨Ay101_1, cy101_1⟩, ⟨Ay101_2, cy101_2⟩, ⟨Ay101_3, cy101_3⟩, ⟨Ay101_4, cy101_4⟩⟩ := u
 obtain ⟨gy101_0, gy101_1, gy101_2, gy101_3, gy101_4⟩ := hu
 replace hp0_0 := hp0_0.le le102
 replace hp0_1 := hp0_1.le le102
 replace leB := leB.trans le102
 have hgy101_0 : Sl w.O w.W zK Ay101_0 cy101_0 y101.p.Tools := gy101_0 --@phi
 have hgy101_1 : Sl w.O w.W zG Ay101_1 cy101_1 y101.p.Steps := gy101_1 --@phi
 have hgy101_2 : SlF Ay101_2 (y101.tools).length cy101_2 := gy101_2 --@phi
 have hgy101_3 : SlF Ay101_3 (y101.image).length cy101_3 := gy101_3 --@phi
 have hgy101_4 : True := gy101_4 --@phi
 show Tr _ _ (uf _ 6 (.pointer (some ⟨cy101_4, 0, none⟩))) (up (up (up _ 4 (bx cy101_4 #[(iv y101.p.Unit), (.slice Ay101_0 (y101.p.Tools).length cy101_0), (.slice Ay101_1 (y101.p.Steps).length cy101_1), (.slice Ay101_2 (y101.tools).length cy101_2), (.slice Ay101_3 (y101.image).length cy101_3), (.bool y101.clear), (iv y101.tool), (iv y101.place.X), (iv y101.place.Y), (.bool y101.placed), (iv y101.off), (iv y101.on)] 77)) 3 (ow Ay101_3 cy101_3 107 zJ y101.image)) 2 (ow Ay101_2 cy101_2 66 fl_LTBand y101.tools)) _
 refine Tr.asg rfl rfl ?_
 refine Tr.nil (Tr.zA ?_)
 refine Tr.sr ?_
 refine Tr.mv rfl rfl ?_
 refine Tr.mv rfl rfl ?_
 refine Tr.va rfl (fun _ _ h1 h2 => zB fo_25_2 (h1.ev rfl)) ?_
 refine Tr.va rfl (fun _ _ h1 h2 => zC ag_23 (h1.ev rfl) (rdb h2 (vs := [(iv p0.Unit), (.slice Ap0_0 (p0.Tools).length cp0_0), (.slice Ap0_1 (p0.Steps).length cp0_1)]) (k := 1) rfl 2) rfl) ?_
 refine Tr.build (vs := []) (cs := [(iv 0), (iv 0)]) (wn rfl) rfl evs_nil (by kernel_rfl) ?_
 obtain ⟨y103, hy103, H⟩ := bnd H
 refine Tr.callG [4, 3] [bx cy101_4 #[(iv y101.p.Unit), (.slice Ay101_0 (y101.p.Tools).length cy101_0), (.slice Ay101_1 (y101.p.Steps).length cy101_1), (.slice Ay101_2 (y101.tools).length cy101_2), (.slice Ay101_3 (y101.image).length cy101_3), (.bool y101.clear), (iv y101.tool), (iv y101.place.X), (iv y101.place.Y), (.bool y101.placed), (iv y101.off), (iv y101.on)] 77, ow Ay101_3 cy101_3 107 zJ y101.image] (U := (Option Addr × Nat)) (fun u => (iv y103.1)) (fun O W u => SlF u.1 (y103.2.2.2.2.2.2.2.2).length u.2) (fun u => [bx cy101_4 #[(iv y101.p.Unit), (.slice Ay101_0 (y101.p.Tools).length cy101_0), (.slice Ay101_1 (y101.p.Steps).length cy101_1), (.slice Ay101_2 (y101.tools).length cy101_2), (.slice u.1 (y103.2.2.2.2.2.2.2.2).length u.2), (.bool y103.2.1), (iv y103.2.2.1), (iv y103.2.2.2.1), (iv y103.2.2.2.2.1), (.bool y103.2.2.2.2.2.1), (iv y103.2.2.2.2.2.2.1), (iv y103.2.2.2.2.2.2.2.1)] 77, ow u.1 u.2 107 zJ y103.2.2.2.2.2.2.2.2]) rfl (zM rfl (zM rfl zY)) (fun _ => rfl) (wn rfl) rfl Tryz.call56 (zF rfl (zF rfl (zF rfl zO))) (fun W hW hp hE => F_plot_machine__run_ok N y101 Ay101_0 cy101_0 (hgy101_0.rl.ext (hW.extS hp)) Ay101_1 cy101_1 (hgy101_1.rl.ext (hW.extS hp)) Ay101_2 cy101_2 (hW.slS (k := 2) rfl hp rfl) Ay101_3 cy101_3 cy101_4 p0.Steps Ap0_1 cp0_1 (hp0_1.rl.ext (hW.extS hp)) (zI.mk 0 0) y103 hy103 hE) ?_
 intro w u le104 hu
 obtain ⟨Ay103_0, cy103_0⟩ := u
 have gy103_0 := hu
 replace hp0_0 := hp0_0.le le104
 replace hp0_1 := hp0_1.le le104
 replace hgy101_0 := hgy101_0.le le104
 replace hgy101_1 := hgy101_1.le le104
 replace leB := leB.trans le104
 have hgy103_0 : SlF Ay103_0 (y103.2.2.2.2.2.2.2.2).length cy103_0 := gy103_0 --@phi
 show Tr _ _ (uf _ 12 (iv y103.1)) (up (up _ 3 (ow Ay103_0 cy103_0 107 zJ y103.2.2.2.2.2.2.2.2)) 4 (bx cy101_4 #[(iv y101.p.Unit), (.slice Ay101_0 (y101.p.Tools).length cy101_0), (.slice Ay101_1 (y101.p.Steps).length cy101_1), (.slice Ay101_2 (y101.tools).length cy101_2), (.slice Ay103_0 (y103.2.2.2.2.2.2.2.2).length cy103_0), (.bool y103.2.1), (iv y103.2.2.1), (iv y103.2.2.2.1), (iv y103.2.2.2.2.1), (.bool y103.2.2.2.2.2.1), (iv y103.2.2.2.2.2.2.1), (iv y103.2.2.2.2.2.2.2.1)] 77)) _
 refine Tr.asg rfl rfl ?_
 refine Tr.asg rfl rfl ?_
 refine Tr.nil (Tr.zA ?_)
 refine Tr.ret ?_
 obtain rfl := Option.some.inj H
 exact Tr.out (m := [(.pointer (some ⟨cy101_4, 0, none⟩)), (iv y103.1)]) [] (zP rfl (zP rfl zQ)) (fun W hW => ⟨w, ((Ay101_0, cy101_0), (Ay101_1, cy101_1), (Ay101_2, cy101_2), (Ay103_0, cy103_0), (none, cy101_4)), leB, rfl, ⟨hgy101_0, hgy101_1, hgy101_2, hgy103_0, trivial⟩, hW.pick (ks := [2, 3, 4]) (by decide) (zM rfl (zM rfl (zM rfl zY)))⟩)

theorem F_plot_ImageOf_ok (N : Nat) {w : Bs} (p0 : zt) (Ap0_0 : Option Addr) (cp0_0 : Nat) (hp0_0 : Sl w.O w.W zK Ap0_0 cp0_0 p0.Tools) (Ap0_1 : Option Addr) (cp0_1 : Nat) (hp0_1 : Sl w.O w.W zG Ap0_1 cp0_1 p0.Steps) (r : ((List zV) × Int)) (H : F_plot_ImageOf N p0 = some r) (hE : HF w w.W (LEn [emp])) : Calls Tryz.prog 28 [(.agg #[(iv p0.Unit), (.slice Ap0_0 (p0.Tools).length cp0_0), (.slice Ap0_1 (p0.Steps).length cp0_1)])].toArray w.W fun e W' => ∃ (w' : Bs) (u : (Option Addr × Nat)), w.Le w' ∧ e = .returned (.tuple #[(.slice u.1 (r.1).length u.2), (iv r.2)]) ∧ (SlF u.1 (r.1).length u.2) ∧ HF w' W' (LEn [ow u.1 u.2 107 zJ r.1]) := by
 unfold F_plot_ImageOf at H
 have leB := Bs.Le.refl w
 refine Tr.enter (n := 24) Tryz.func28 rfl rfl rfl hE ?_
 refine Tr.sr ?_
 refine Tr.box 1 (cs := [(iv p0.Unit), (.slice Ap0_0 (p0.Tools).length cp0_0), (.slice Ap0_1 (p0.Steps).length cp0_1)]) (wn rfl) rfl rfl rfl fun b100 => ?_
 refine Tr.asg rfl rfl ?_
 refine Tr.nilOwn 2 107 zJ ?_
 show Tr _ _ (uf _ 2 (.slice none (([] : List zV)).length 0)) _ _
 refine Tr.asg rfl rfl ?_
 refine Tr.nil (Tr.zA ?_)
 refine Tr.seq ?_
 refine Tr.sr ?_
 refine Tr.va rfl (fun _ _ h1 h2 => zR (cs := [(iv p0.Unit), (.slice Ap0_0 (p0.Tools).length cp0_0), (.slice Ap0_1 (p0.Steps).length cp0_1)]) ag_25 sz_25 (h1.ev rfl) (zL.take (rdb h2 (vs := [(iv p0.Unit), (.slice Ap0_0 (p0.Tools).length cp0_0), (.slice Ap0_1 (p0.Steps).length cp0_1)]) (k := 1) rfl 0) 3) rfl) ?_
 obtain ⟨y101, hy101, H⟩ := bnd H
 refine Tr.call0 (r := (iv y101)) (wn rfl) rfl Tryz.call21 (zF rfl zO) (fun W hW => F_plot_CheckPlot_ok N p0 Ap0_0 cp0_0 (hp0_0.rl.ext hW.extAll) Ap0_1 cp0_1 (hp0_1.rl.ext hW.extAll) y101 hy101 (HF.start _)) ?_
 refine Tr.asg rfl rfl ?_
 refine Tr.nil (Tr.zA ?_)
 refine Tr.sr ?_
 refine Tr.mv rfl rfl ?_
 refine Tr.va rfl (fun _ _ h1 h2 => run_neq (h1.ev rfl) (h1.ev rfl)) ?_
 refine Tr.nil (Tr.zA ?_)
 refine Tr.cond rfl H (fun H => ?_) (fun H => ?_)
 ·refine Tr.sr ?_
  refine Tr.mv rfl rfl ?_
  refine Tr.asg rfl rfl ?_
  refine Tr.nilOwn 3 107 zJ ?_
  show Tr _ _ (uf _ 2 (.slice none (([] : List zV)).length 0)) _ _
  refine Tr.asg rfl rfl ?_
  refine Tr.nil (Tr.zA ?_)
  refine Tr.ret (Tr.zU ?_)
  obtain rfl := Option.some.inj H
  exact Tr.out (m := [(.slice none (([] : List zV)).length 0), (iv y101)]) [] (zP rfl (zP rfl zQ)) (fun W hW => ⟨w, (none, 0), leB, rfl, slf_nil, hW.pick (ks := [3]) (by decide) (zM rfl zY)⟩)
 ·refine Tr.skip (Tr.zA ?_)
  refine Tr.sr ?_
  refine Tr.va rfl (fun _ _ h1 h2 => zR (cs := [(iv p0.Unit), (.slice Ap0_0 (p0.Tools).length cp0_0), (.slice Ap0_1 (p0.Steps).length cp0_1)]) ag_25 sz_25 (h1.ev rfl) (zL.take (rdb h2 (vs := [(iv p0.Unit), (.slice Ap0_0 (p0.Tools).length cp0_0), (.slice Ap0_1 (p0.Steps).length cp0_1)]) (k := 1) rfl 0) 3) rfl) ?_
  obtain ⟨y102, hy102, H⟩ := bnd H
  refine Tr.callG [4, 5, 6] [emp, emp, emp] (U := (Option Addr × Nat) × (Option Addr × Nat) × (Option Addr × Nat) × (Option Addr × Nat) × (Option Addr × Nat)) (fun u => (.tuple #[(.pointer (some ⟨u.2.2.2.2.2, 0, none⟩)), (iv y102.2)])) (fun O W u => Sl O W zK u.1.1 u.1.2 y102.1.p.Tools ∧ Sl O W zG u.2.1.1 u.2.1.2 y102.1.p.Steps ∧ SlF u.2.2.1.1 (y102.1.tools).length u.2.2.1.2 ∧ SlF u.2.2.2.1.1 (y102.1.image).length u.2.2.2.1.2 ∧ True) (fun u => [ow u.2.2.1.1 u.2.2.1.2 66 fl_LTBand y102.1.tools, ow u.2.2.2.1.1 u.2.2.2.1.2 107 zJ y102.1.image, bx u.2.2.2.2.2 #[(iv y102.1.p.Unit), (.slice u.1.1 (y102.1.p.Tools).length u.1.2), (.slice u.2.1.1 (y102.1.p.Steps).length u.2.1.2), (.slice u.2.2.1.1 (y102.1.tools).length u.2.2.1.2), (.slice u.2.2.2.1.1 (y102.1.image).length u.2.2.2.1.2), (.bool y102.1.clear), (iv y102.1.tool), (iv y102.1.place.X), (iv y102.1.place.Y), (.bool y102.1.placed), (iv y102.1.off), (iv y102.1.on)] 77]) rfl (zM rfl (zM rfl (zM rfl zY))) (fun _ => rfl) (wn rfl) rfl Tryz.call32 (zF rfl zO) (fun W hW hp hE => F_plot_drawn_ok N p0 Ap0_0 cp0_0 (hp0_0.extO (hW.extS hp)) Ap0_1 cp0_1 (hp0_1.extO (hW.extS hp)) y102 hy102 hE) ?_
  intro w u le103 hu
  obtain ⟨⟨Ay102_0, cy102_0⟩, ⟨Ay102_1, cy102_1⟩, ⟨Ay102_2, cy102_2⟩, ⟨Ay102_3, cy102_3⟩, ⟨Ay102_4, cy102_4⟩⟩ := u
  obtain ⟨gy102_0, gy102_1, gy102_2, gy102_3, gy102_4⟩ := hu
  replace hp0_0 := hp0_0.le le103
  replace hp0_1 := hp0_1.le le103
  replace leB := leB.trans le103
  have hgy102_0 : Sl w.O w.W zK Ay102_0 cy102_0 y102.1.p.Tools := gy102_0 --@phi
  have hgy102_1 : Sl w.O w.W zG Ay102_1 cy102_1 y102.1.p.Steps := gy102_1 --@phi
  have hgy102_2 : SlF Ay102_2 (y102.1.tools).length cy102_2 := gy102_2 --@phi
  have hgy102_3 : SlF Ay102_3 (y102.1.image).length cy102_3 := gy102_3 --@phi
  have hgy102_4 : True := gy102_4 --@phi
  show Tr _ _ (uf _ 14 (.tuple #[(.pointer (some ⟨cy102_4, 0, none⟩)), (iv y102.2)])) (up (up (up _ 6 (bx cy102_4 #[(iv y102.1.p.Unit), (.slice Ay102_0 (y102.1.p.Tools).length cy102_0), (.slice Ay102_1 (y102.1.p.Steps).length cy102_1), (.slice Ay102_2 (y102.1.tools).length cy102_2), (.slice Ay102_3 (y102.1.image).length cy102_3), (.bool y102.1.clear), (iv y102.1.tool), (iv y102.1.place.X), (iv y102.1.place.Y), (.bool y102.1.placed), (iv y102.1.off), (iv y102.1.on)] 77)) 5 (ow Ay102_3 cy102_3 107 zJ y102.1.image)) 4 (ow Ay102_2 cy102_2 66 fl_LTBand y102.1.tools)) _
  refine Tr.mv rfl rfl ?_
  refine Tr.va rfl (fun _ _ h1 h2 => run_extract (h1.ev rfl) rfl) ?_
  refine Tr.va rfl (fun _ _ h1 h2 => run_extract (h1.ev rfl) rfl) ?_
  refine Tr.asg rfl rfl ?_
  refine Tr.asg rfl rfl ?_
  refine Tr.nil (Tr.zA ?_)
  refine Tr.seq ?_
  refine Tr.sr ?_
  refine Tr.mv rfl rfl ?_
  refine Tr.va rfl (fun _ _ h1 h2 => run_neq (h1.ev rfl) (h1.ev rfl)) ?_
  refine Tr.nil (Tr.zA ?_)
  refine Tr.cond rfl H (fun H => ?_) (fun H => ?_)
  ·refine Tr.sr ?_
   refine Tr.mv rfl rfl ?_
   refine Tr.asg rfl rfl ?_
   refine Tr.nilOwn 7 107 zJ ?_
   show Tr _ _ (uf _ 2 (.slice none (([] : List zV)).length 0)) _ _
   refine Tr.asg rfl rfl ?_
   refine Tr.nil (Tr.zA ?_)
   refine Tr.ret (Tr.zU ?_)
   obtain rfl := Option.some.inj H
   exact Tr.out (m := [(.slice none (([] : List zV)).length 0), (iv y102.2)]) [] (zP rfl (zP rfl zQ)) (fun W hW => ⟨w, (none, 0), leB, rfl, slf_nil, hW.pick (ks := [7]) (by decide) (zM rfl zY)⟩)
  ·refine Tr.skip (Tr.zA ?_)
   refine Tr.sr ?_
   refine Tr.mv rfl rfl ?_
   refine Tr.va rfl (fun _ _ h1 h2 => zb (h1.ev rfl)) ?_
   refine Tr.va rfl (fun _ _ h1 h2 => zB fo_77_2 (h1.ev rfl)) ?_
   refine Tr.va rfl (fun _ _ h1 h2 => zC ag_66 (h1.ev rfl) (rdb h2 (vs := [(iv y102.1.p.Unit), (.slice Ay102_0 (y102.1.p.Tools).length cy102_0), (.slice Ay102_1 (y102.1.p.Steps).length cy102_1), (.slice Ay102_2 (y102.1.tools).length cy102_2), (.slice Ay102_3 (y102.1.image).length cy102_3), (.bool y102.1.clear), (iv y102.1.tool), (iv y102.1.place.X), (iv y102.1.place.Y), (.bool y102.1.placed), (iv y102.1.off), (iv y102.1.on)]) (k := 6) rfl 4) rfl) ?_
   refine Tr.asg rfl rfl ?_
   refine Tr.asg rfl rfl ?_
   refine Tr.nil (Tr.zA ?_)
   refine Tr.ret ?_
   obtain rfl := Option.some.inj H
   exact Tr.out (m := [(.slice Ay102_3 (y102.1.image).length cy102_3), (iv 0)]) [] (zP rfl (zP rfl zQ)) (fun W hW => ⟨w, (Ay102_3, cy102_3), leB, rfl, hgy102_3, hW.pick (ks := [5]) (by decide) (zM rfl zY)⟩)

theorem F_plot_Image_ok (N : Nat) {w : Bs} (p0 : zt) (Ap0_0 : Option Addr) (cp0_0 : Nat) (hp0_0 : Sl w.O w.W zK Ap0_0 cp0_0 p0.Tools) (Ap0_1 : Option Addr) (cp0_1 : Nat) (hp0_1 : Sl w.O w.W zG Ap0_1 cp0_1 p0.Steps) (r : ((List zT) × Int)) (H : F_plot_Image N p0 = some r) (hE : HF w w.W (LEn [emp])) : Calls Tryz.prog 10 [(.agg #[(iv p0.Unit), (.slice Ap0_0 (p0.Tools).length cp0_0), (.slice Ap0_1 (p0.Steps).length cp0_1)])].toArray w.W fun e W' => ∃ u : (Option Addr × Nat), e = .returned (.tuple #[(.slice u.1 (r.1).length u.2), (iv r.2)]) ∧ (SlF u.1 (r.1).length u.2) ∧ HF w W' (LEn [ow u.1 u.2 36 zN r.1]) := by
 unfold F_plot_Image at H
 have leB := Bs.Le.refl w
 refine Tr.enter (n := 14) Tryz.func10 rfl rfl rfl hE ?_
 refine Tr.sr ?_
 refine Tr.box 1 (cs := [(iv p0.Unit), (.slice Ap0_0 (p0.Tools).length cp0_0), (.slice Ap0_1 (p0.Steps).length cp0_1)]) (wn rfl) rfl rfl rfl fun b100 => ?_
 refine Tr.asg rfl rfl ?_
 refine Tr.nilOwn 2 36 zN ?_
 show Tr _ _ (uf _ 2 (.slice none (([] : List zT)).length 0)) _ _
 refine Tr.asg rfl rfl ?_
 refine Tr.nil (Tr.zA ?_)
 refine Tr.sr ?_
 refine Tr.va rfl (fun _ _ h1 h2 => zR (cs := [(iv p0.Unit), (.slice Ap0_0 (p0.Tools).length cp0_0), (.slice Ap0_1 (p0.Steps).length cp0_1)]) ag_25 sz_25 (h1.ev rfl) (zL.take (rdb h2 (vs := [(iv p0.Unit), (.slice Ap0_0 (p0.Tools).length cp0_0), (.slice Ap0_1 (p0.Steps).length cp0_1)]) (k := 1) rfl 0) 3) rfl) ?_
 obtain ⟨y101, hy101, H⟩ := bnd H
 refine Tr.callG [3] [emp] (U := (Option Addr × Nat)) (fun u => (.tuple #[(.slice u.1 (y101.1).length u.2), (iv y101.2)])) (fun O W u => SlF u.1 (y101.1).length u.2) (fun u => [ow u.1 u.2 107 zJ y101.1]) rfl (zM rfl zY) (fun _ => rfl) (wn rfl) rfl Tryz.call28 (zF rfl zO) (fun W hW hp hE => F_plot_ImageOf_ok N p0 Ap0_0 cp0_0 (hp0_0.extO (hW.extS hp)) Ap0_1 cp0_1 (hp0_1.extO (hW.extS hp)) y101 hy101 hE) ?_
 intro w u le102 hu
 obtain ⟨Ay101_0, cy101_0⟩ := u
 have gy101_0 := hu
 replace hp0_0 := hp0_0.le le102
 replace hp0_1 := hp0_1.le le102
 replace leB := leB.trans le102
 have hgy101_0 : SlF Ay101_0 (y101.1).length cy101_0 := gy101_0 --@phi
 show Tr _ _ (uf _ 8 (.tuple #[(.slice Ay101_0 (y101.1).length cy101_0), (iv y101.2)])) (up _ 3 (ow Ay101_0 cy101_0 107 zJ y101.1)) _
 refine Tr.mv rfl rfl ?_
 refine Tr.va rfl (fun _ _ h1 h2 => run_extract (h1.ev rfl) rfl) ?_
 refine Tr.va rfl (fun _ _ h1 h2 => run_extract (h1.ev rfl) rfl) ?_
 refine Tr.asg rfl rfl ?_
 refine Tr.asg rfl rfl ?_
 refine Tr.nil (Tr.zA ?_)
 refine Tr.sr ?_
 refine Tr.mv rfl rfl ?_
 obtain ⟨y103, hy103, H⟩ := bnd H
 refine Tr.callM [4] [emp] (U := (Option Addr × Nat)) (fun u => (.slice u.1 (y103).length u.2)) (fun u => SlF u.1 (y103).length u.2) (fun u => [ow u.1 u.2 36 zN y103]) rfl (zM rfl zY) (fun _ => rfl) (wn rfl) rfl Tryz.call29 (zF rfl zO) (fun W hW hp hE => F_shape_Set__Rects_ok N y101.1 Ay101_0 cy101_0 (hW.slS (k := 3) rfl hp rfl) y103 hy103 hE) ?_
 intro u hu
 obtain ⟨Ay103_0, cy103_0⟩ := u
 have gy103_0 := hu
 have hgy103_0 : SlF Ay103_0 (y103).length cy103_0 := gy103_0 --@phi
 show Tr _ _ (uf _ 12 (.slice Ay103_0 (y103).length cy103_0)) (up _ 4 (ow Ay103_0 cy103_0 36 zN y103)) _
 refine Tr.mv rfl rfl ?_
 refine Tr.asg rfl rfl ?_
 refine Tr.asg rfl rfl ?_
 refine Tr.nil (Tr.zA ?_)
 refine Tr.ret ?_
 obtain rfl := Option.some.inj H
 exact Tr.out (m := [(.slice Ay103_0 (y103).length cy103_0), (iv y101.2)]) [] (zP rfl (zP rfl zQ)) (fun W hW => ⟨(Ay103_0, cy103_0), rfl, hgy103_0, HF.lowE leB (hW.pick (ks := [4]) (by decide) (zM rfl zY)) ⟨ow_any _ _ _ _ tr_TRect, trivial⟩⟩)

theorem F_slices_Equal_Rect_ok {w : Bs} (p0 : (List zT)) (Ap0_0 : Option Addr) (cp0_0 : Nat) (hp0_0 : Sl w.R w.W zN Ap0_0 cp0_0 p0) (p1 : (List zT)) (Ap1_0 : Option Addr) (cp1_0 : Nat) (hp1_0 : Sl w.R w.W zN Ap1_0 cp1_0 p1) (r : Bool) (H : F_slices_Equal_Rect p0 p1 = some r) (hE : HF w w.W E0) : Calls Tryz.prog 11 [(.slice Ap0_0 (p0).length cp0_0), (.slice Ap1_0 (p1).length cp1_0)].toArray w.W fun e W' => e = .returned (.bool r) ∧ HF w W' E0 := by
 unfold F_slices_Equal_Rect at H
 have leB := Bs.Le.refl w
 refine Tr.enter (n := 26) Tryz.func11 rfl rfl rfl hE ?_
 refine Tr.sr ?_
 refine Tr.asg rfl rfl ?_
 refine Tr.nil (Tr.zA ?_)
 refine Tr.seq ?_
 refine Tr.sr ?_
 refine Tr.mv rfl rfl ?_
 refine Tr.va rfl (fun _ _ h1 h2 => zq un_31 (h1.ev rfl)) ?_
 refine Tr.mv rfl rfl ?_
 refine Tr.va rfl (fun _ _ h1 h2 => zq un_31 (h1.ev rfl)) ?_
 refine Tr.va rfl (fun _ _ h1 h2 => run_neq (h1.ev rfl) (h1.ev rfl)) ?_
 refine Tr.nil (Tr.zA ?_)
 refine Tr.cond rfl H (fun H => ?_) (fun H => ?_)
 ·refine Tr.sr ?_
  refine Tr.asg rfl rfl ?_
  refine Tr.nil (Tr.zA ?_)
  refine Tr.ret (Tr.zU ?_)
  obtain rfl := Option.some.inj H
  exact Tr.out (m := [(.bool false)]) [] (zP rfl zQ) (fun W hW => ⟨rfl, hW.low leB⟩)
 ·refine Tr.skip (Tr.zA ?_)
  refine Tr.seq ?_
  refine Tr.sr ?_
  refine Tr.mv rfl rfl ?_
  refine Tr.va rfl (fun _ _ h1 h2 => zq un_31 (h1.ev rfl)) ?_
  refine Tr.mv rfl rfl ?_
  refine Tr.nil (Tr.zA ?_)
  refine Tr.block ?_
  refine Tr.loop (σ := (List zT) × Nat) (fun m w s => m = s.1.length + 1 ∧ s.1 = List.drop s.2 p0 ∧ s.2 ≤ p0.length ∧ F_slices_Equal_Rect_L1 p1 s.1 s.2 = some r) (fun s => [(0, (.slice Ap0_0 (p0).length cp0_0)), (1, (.slice Ap1_0 (p1).length cp1_0)), (12, (iv (p0.length : Int))), (13, (iv (s.2 : Int)))]) (fun s => []) (p0.length + 1) (p0, 0) ⟨rfl, rfl, Nat.zero_le _, H⟩ (.cons rfl (.cons rfl (.cons rfl (.cons rfl .nil)))) .nil (fun _ _ h => absurd h.1 (by simp)) ?_
  intro w leL1 m s hs
  obtain ⟨restL1, iL1⟩ := s
  obtain ⟨hmL1, hdL1, hiL1, H⟩ := hs
  replace hdL1 : restL1 = List.drop iL1 p0 := hdL1
  replace H : F_slices_Equal_Rect_L1 p1 restL1 iL1 = some r := H
  replace hmL1 : m + 1 = restL1.length + 1 := hmL1
  replace hp0_0 := hp0_0.leR leL1
  replace hp1_0 := hp1_0.leR leL1
  replace leB := leB.trans leL1
  obtain rfl : m = restL1.length := by omega
  clear hmL1
  show Tr _ _ (LF [(0, (.slice Ap0_0 (p0).length cp0_0)), (1, (.slice Ap1_0 (p1).length cp1_0)), (12, (iv (p0.length : Int))), (13, (iv (iL1 : Int)))]) (LE []) _
  cases restL1 with
  | nil =>
   rw [F_slices_Equal_Rect_L1.eq_1] at H
   refine Tr.sr ?_
   refine Tr.va rfl (fun _ _ h1 h2 => zz (h1.ev rfl) (h1.ev rfl)) ?_
   refine Tr.nil (Tr.zA ?_)
   refine Tr.seq ?_
   refine Tr.condF rfl (range_nil hdL1) ?_
   refine Tr.exit (Tr.zX (Tr.zX (Tr.zAC (Tr.zA ?_))))
   refine Tr.sr ?_
   refine Tr.asg rfl rfl ?_
   refine Tr.nil (Tr.zA ?_)
   refine Tr.ret ?_
   obtain rfl := Option.some.inj H
   exact Tr.out (m := [(.bool true)]) [] (zP rfl zQ) (fun W hW => ⟨rfl, hW.low leB⟩)
  | cons xL1 restL1 =>
   rw [F_slices_Equal_Rect_L1.eq_2] at H
   refine Tr.sr ?_
   refine Tr.va rfl (fun _ _ h1 h2 => zz (h1.ev rfl) (h1.ev rfl)) ?_
   refine Tr.nil (Tr.zA ?_)
   refine Tr.seq ?_
   refine Tr.condT rfl (range_on hdL1) ?_
   refine Tr.skip (Tr.zA ?_)
   refine Tr.seq ?_
   refine Tr.block ?_
   refine Tr.sr ?_
   refine Tr.mv rfl rfl ?_
   refine Tr.asg rfl rfl ?_
   refine Tr.nil (Tr.zA ?_)
   refine Tr.seq ?_
   refine Tr.draw (by kernel_rfl) (by kernel_rfl) ?_
   refine Tq.mv rfl rfl ?_
   refine Tq.mv rfl rfl ?_
   refine Tq.va rfl (fun _ _ h1 h2 => zH el_31 (h1.ev rfl) hp0_0.form (h1.ev rfl) (Int.natCast_nonneg _) (zo hdL1)) ?_
   refine Tq.va rfl (fun _ _ h1 h2 => zR (cs := [(iv xL1.X0), (iv xL1.Y0), (iv xL1.X1), (iv xL1.Y1)]) ag_36 sz_36 (h1.ev rfl) (zL.take (rdF ef_TRect hp0_0 (range_at hdL1) h2) 4) rfl) ?_
   refine Tq.mv rfl rfl ?_
   refine Tq.mv rfl rfl ?_
   obtain ⟨x103, hx103, H⟩ := bnd H
   obtain ⟨hx1030, hx1031, hx1032⟩ := zh hx103
   refine Tq.va rfl (fun _ _ h1 h2 => zH el_31 (h1.ev rfl) hp1_0.form (h1.ev rfl) hx1030 hx1031) ?_
   refine Tq.va rfl (fun _ _ h1 h2 => zR (cs := [(iv x103.X0), (iv x103.Y0), (iv x103.X1), (iv x103.Y1)]) ag_36 sz_36 (h1.ev rfl) (zL.take (rdF ef_TRect hp1_0 hx1032 h2) 4) rfl) ?_
   refine Tq.va rfl (fun _ _ h1 h2 => run_neq_36 xL1 x103 (h1.ev rfl) (h1.ev rfl)) ?_
   refine Tq.nil (Tr.zA ?_)
   refine Tr.cond rfl H (fun H => ?_) (fun H => ?_)
   ·refine Tr.sr ?_
    refine Tr.asg rfl rfl ?_
    refine Tr.nil (Tr.zA ?_)
    refine Tr.ret (Tr.zAB (Tr.zU (Tr.zU (Tr.zAB (Tr.zU ?_)))))
    obtain rfl := Option.some.inj H
    exact Tr.out (m := [(.bool false)]) [] (zP rfl zQ) (fun W hW => ⟨rfl, hW.low leB⟩)
   ·refine Tr.skip (Tr.zW (Tr.zA ?_))
    refine Tr.region ?_
    refine Tr.va rfl (fun _ _ h1 h2 => zx (h1.ev rfl) (h1.ev rfl)) ?_
    refine Tr.mv rfl rfl ?_
    refine Tr.nil ?_
    exact Tr.zZ leL1 (restL1, (iL1 + 1)) ⟨rfl, range_tl hdL1, zo hdL1, H⟩ (.cons rfl (.cons rfl (.cons rfl (.cons (congrArg (fun z => some (Value.int .i64 z)) (range_up hdL1 hp0_0.form)) .nil)))) .nil

theorem F_etchhouselaw3_PlotsScaledDrawSame_ok (N : Nat) {w : Bs} (p0 : zt) (Ap0_0 : Option Addr) (cp0_0 : Nat) (hp0_0 : Sl w.O w.W zK Ap0_0 cp0_0 p0.Tools) (Ap0_1 : Option Addr) (cp0_1 : Nat) (hp0_1 : Sl w.O w.W zG Ap0_1 cp0_1 p0.Steps) (p1 : Int) (r : Bool) (H : F_etchhouselaw3_PlotsScaledDrawSame N p0 p1 = some r) (hE : HF w w.W E0) : Calls Tryz.prog 3 [(.agg #[(iv p0.Unit), (.slice Ap0_0 (p0.Tools).length cp0_0), (.slice Ap0_1 (p0.Steps).length cp0_1)]), (iv p1)].toArray w.W fun e W' => e = .returned (.bool r) ∧ HF w W' E0 := by
 unfold F_etchhouselaw3_PlotsScaledDrawSame at H
 have leB := Bs.Le.refl w
 refine Tr.enter (n := 72) Tryz.func3 rfl rfl rfl hE ?_
 refine Tr.sr ?_
 refine Tr.box 1 (cs := [(iv p0.Unit), (.slice Ap0_0 (p0.Tools).length cp0_0), (.slice Ap0_1 (p0.Steps).length cp0_1)]) (wn rfl) rfl rfl rfl fun b100 => ?_
 refine Tr.asg rfl rfl ?_
 refine Tr.nil (Tr.zA ?_)
 refine Tr.sr ?_
 refine Tr.va rfl (fun _ _ h1 h2 => zR (cs := [(iv p0.Unit), (.slice Ap0_0 (p0.Tools).length cp0_0), (.slice Ap0_1 (p0.Steps).length cp0_1)]) ag_25 sz_25 (h1.ev rfl) (zL.take (rdb h2 (vs := [(iv p0.Unit), (.slice Ap0_0 (p0.Tools).length cp0_0), (.slice Ap0_1 (p0.Steps).length cp0_1)]) (k := 1) rfl 0) 3) rfl) ?_
 refine Tr.mv rfl rfl ?_
 obtain ⟨y101, hy101, H⟩ := bnd H
 refine Tr.callG [] [] (U := (Option Addr × Nat) × (Option Addr × Nat)) (fun u => (.tuple #[(.agg #[(iv y101.1.Unit), (.slice u.1.1 (y101.1.Tools).length u.1.2), (.slice u.2.1 (y101.1.Steps).length u.2.2)]), (.bool y101.2.1), (iv y101.2.2)])) (fun O W u => Sl O W zK u.1.1 u.1.2 y101.1.Tools ∧ Sl O W zG u.2.1 u.2.2 y101.1.Steps) (fun u => []) rfl zY (fun _ => rfl) (wn rfl) rfl Tryz.call7 (zF rfl (zF rfl zO)) (fun W hW hp hE => F_plot_Scaled_ok N p0 Ap0_0 cp0_0 (hp0_0.extO (hW.extS hp)) Ap0_1 cp0_1 (hp0_1.extO (hW.extS hp)) p1 y101 hy101 hE) ?_
 intro w u le102 hu
 obtain ⟨⟨Ay101_0, cy101_0⟩, ⟨Ay101_1, cy101_1⟩⟩ := u
 obtain ⟨gy101_0, gy101_1⟩ := hu
 replace hp0_0 := hp0_0.le le102
 replace hp0_1 := hp0_1.le le102
 replace leB := leB.trans le102
 have hgy101_0 : Sl w.O w.W zK Ay101_0 cy101_0 y101.1.Tools := gy101_0 --@phi
 have hgy101_1 : Sl w.O w.W zG Ay101_1 cy101_1 y101.1.Steps := gy101_1 --@phi
 show Tr _ _ (uf _ 15 (.tuple #[(.agg #[(iv y101.1.Unit), (.slice Ay101_0 (y101.1.Tools).length cy101_0), (.slice Ay101_1 (y101.1.Steps).length cy101_1)]), (.bool y101.2.1), (iv y101.2.2)])) (_) _
 refine Tr.mv rfl rfl ?_
 refine Tr.va rfl (fun _ _ h1 h2 => run_extract (h1.ev rfl) rfl) ?_
 refine Tr.va rfl (fun _ _ h1 h2 => run_extract (h1.ev rfl) rfl) ?_
 refine Tr.va rfl (fun _ _ h1 h2 => run_extract (h1.ev rfl) rfl) ?_
 refine Tr.alloc 2 (wn rfl) rfl ze_25 fun b103 => ?_
 refine Tr.store 2 (cs := [(iv y101.1.Unit), (.slice Ay101_0 (y101.1.Tools).length cy101_0), (.slice Ay101_1 (y101.1.Steps).length cy101_1)]) [(iv y101.1.Unit), (.slice Ay101_0 (y101.1.Tools).length cy101_0), (.slice Ay101_1 (y101.1.Steps).length cy101_1)] (wn rfl) rfl rfl rfl rfl sz_25 rfl rfl rfl ?_
 refine Tr.asg rfl rfl ?_
 refine Tr.asg rfl rfl ?_
 refine Tr.nil (Tr.zA ?_)
 refine Tr.seq ?_
 refine Tr.sr ?_
 refine Tr.mv rfl rfl ?_
 refine Tr.va rfl (fun _ _ h1 h2 => run_neq (h1.ev rfl) (h1.ev rfl)) ?_
 refine Tr.mv rfl rfl ?_
 refine Tr.mid0 3 [(2, (.pointer (some ⟨b100, 0, none⟩))), (5, (.pointer (some ⟨b103, 0, none⟩))), (24, (.bool ((y101.2.2 != 0) || (!y101.2.1))))] [(1, bx b100 #[(iv p0.Unit), (.slice Ap0_0 (p0.Tools).length cp0_0), (.slice Ap0_1 (p0.Steps).length cp0_1)] 25), (2, bx b103 #[(iv y101.1.Unit), (.slice Ay101_0 (y101.1.Tools).length cy101_0), (.slice Ay101_1 (y101.1.Steps).length cy101_1)] 25)] ?_ ?_
 ·cases hg122 : (y101.2.2 != 0)
  ·refine Tr.val (wg rfl rfl rfl) rfl (fun _ _ h1 h2 => run_move (h1.ev rfl)) ?_
   refine Tr.val (wg rfl rfl rfl) rfl (fun _ _ h1 h2 => run_not (h1.ev rfl)) ?_
   refine Tr.va rfl (fun _ _ h1 h2 => zf (h1.ev rfl) (h1.ev rfl)) ?_
   exact Tr.nil (Tr.fin0 (.cons rfl (.cons rfl (.cons rfl .nil))) (.cons rfl (.cons rfl .nil)))
  ·refine Tr.pass rfl rfl rfl rfl rfl (by decide) ?_
   refine Tr.pass rfl rfl rfl rfl rfl (by decide) ?_
   refine Tr.va rfl (fun _ _ h1 h2 => ze (h1.ev rfl) (h1.ev rfl)) ?_
   exact Tr.nil (Tr.fin0 (.cons rfl (.cons rfl (.cons rfl .nil))) (.cons rfl (.cons rfl .nil)))
 ·show Tr _ _ (LF [(2, (.pointer (some ⟨b100, 0, none⟩))), (5, (.pointer (some ⟨b103, 0, none⟩))), (24, (.bool ((y101.2.2 != 0) || (!y101.2.1))))]) (LE [(1, bx b100 #[(iv p0.Unit), (.slice Ap0_0 (p0.Tools).length cp0_0), (.slice Ap0_1 (p0.Steps).length cp0_1)] 25), (2, bx b103 #[(iv y101.1.Unit), (.slice Ay101_0 (y101.1.Tools).length cy101_0), (.slice Ay101_1 (y101.1.Steps).length cy101_1)] 25)]) _
  refine Tr.nil (Tr.zA ?_)
  refine Tr.cond rfl H (fun H => ?_) (fun H => ?_)
  ·refine Tr.sr ?_
   refine Tr.va rfl (fun _ _ h1 h2 => zB fo_25_0 (h1.ev rfl)) ?_
   refine Tr.va rfl (fun _ _ h1 h2 => zC ag_3 (h1.ev rfl) (rdb h2 (vs := [(iv y101.1.Unit), (.slice Ay101_0 (y101.1.Tools).length cy101_0), (.slice Ay101_1 (y101.1.Steps).length cy101_1)]) (k := 2) rfl 0) rfl) ?_
   refine Tr.va rfl (fun _ _ h1 h2 => run_eql (h1.ev rfl) (h1.ev rfl)) ?_
   refine Tr.mv rfl rfl ?_
   obtain ⟨g105, hg105, H⟩ := bnd H
   refine Tr.mid0 2 [(30, (.bool g105))] [(1, bx b100 #[(iv p0.Unit), (.slice Ap0_0 (p0.Tools).length cp0_0), (.slice Ap0_1 (p0.Steps).length cp0_1)] 25), (2, bx b103 #[(iv y101.1.Unit), (.slice Ay101_0 (y101.1.Tools).length cy101_0), (.slice Ay101_1 (y101.1.Steps).length cy101_1)] 25)] ?_ ?_
   ·cases hg106 : (y101.1.Unit == 0)
    ·rw [hg106] at hg105
     rw [if_neg (by decide)] at hg105
     have H := hg105
     obtain rfl := Option.some.inj H
     refine Tr.pass rfl rfl rfl rfl rfl (by decide) ?_
     refine Tr.va rfl (fun _ _ h1 h2 => zf (h1.ev rfl) (h1.ev rfl)) ?_
     exact Tr.nil (Tr.fin0 (.cons rfl .nil) (.cons rfl (.cons rfl .nil)))
    ·rw [hg106] at hg105
     rw [if_pos rfl] at hg105
     have H := hg105
     obtain ⟨y106, hy106, H⟩ := bnd H
     refine Tr.call0 (r := (.bool y106)) (wg rfl rfl rfl) rfl Tryz.call8 zO (fun W hW => F_etchhouselaw3_awake_ok N y106 hy106 (HF.start _)) ?_
     refine Tr.va rfl (fun _ _ h1 h2 => ze (h1.ev rfl) (h1.ev rfl)) ?_
     obtain rfl := Option.some.inj H
     exact Tr.nil (Tr.fin0 (.cons rfl .nil) (.cons rfl (.cons rfl .nil)))
   ·show Tr _ _ (LF [(30, (.bool g105))]) (LE [(1, bx b100 #[(iv p0.Unit), (.slice Ap0_0 (p0.Tools).length cp0_0), (.slice Ap0_1 (p0.Steps).length cp0_1)] 25), (2, bx b103 #[(iv y101.1.Unit), (.slice Ay101_0 (y101.1.Tools).length cy101_0), (.slice Ay101_1 (y101.1.Steps).length cy101_1)] 25)]) _
    refine Tr.asg rfl rfl ?_
    refine Tr.nil (Tr.zA ?_)
    refine Tr.ret (Tr.zU ?_)
    obtain rfl := Option.some.inj H
    exact Tr.out (m := [(.bool g105)]) [] (zP rfl zQ) (fun W hW => ⟨rfl, hW.low leB⟩)
  ·refine Tr.skip (Tr.zA ?_)
   refine Tr.sr ?_
   refine Tr.va rfl (fun _ _ h1 h2 => zR (cs := [(iv y101.1.Unit), (.slice Ay101_0 (y101.1.Tools).length cy101_0), (.slice Ay101_1 (y101.1.Steps).length cy101_1)]) ag_25 sz_25 (h1.ev rfl) (zL.take (rdb h2 (vs := [(iv y101.1.Unit), (.slice Ay101_0 (y101.1.Tools).length cy101_0), (.slice Ay101_1 (y101.1.Steps).length cy101_1)]) (k := 2) rfl 0) 3) rfl) ?_
   refine Tr.va rfl (fun _ _ h1 h2 => zB fo_25_0 (h1.ev rfl)) ?_
   refine Tr.va rfl (fun _ _ h1 h2 => zC ag_3 (h1.ev rfl) (rdb h2 (vs := [(iv p0.Unit), (.slice Ap0_0 (p0.Tools).length cp0_0), (.slice Ap0_1 (p0.Steps).length cp0_1)]) (k := 1) rfl 0) rfl) ?_
   obtain ⟨y107, hy107, H⟩ := bnd H
   refine Tr.callG [] [] (U := (Option Addr × Nat) × (Option Addr × Nat)) (fun u => (.tuple #[(.agg #[(iv y107.1.Unit), (.slice u.1.1 (y107.1.Tools).length u.1.2), (.slice u.2.1 (y107.1.Steps).length u.2.2)]), (.bool y107.2.1), (iv y107.2.2)])) (fun O W u => Sl O W zK u.1.1 u.1.2 y107.1.Tools ∧ Sl O W zG u.2.1 u.2.2 y107.1.Steps) (fun u => []) rfl zY (fun _ => rfl) (wn rfl) rfl Tryz.call7 (zF rfl (zF rfl zO)) (fun W hW hp hE => F_plot_Scaled_ok N y101.1 Ay101_0 cy101_0 (hgy101_0.extO (hW.extS hp)) Ay101_1 cy101_1 (hgy101_1.extO (hW.extS hp)) p0.Unit y107 hy107 hE) ?_
   intro w u le108 hu
   obtain ⟨⟨Ay107_0, cy107_0⟩, ⟨Ay107_1, cy107_1⟩⟩ := u
   obtain ⟨gy107_0, gy107_1⟩ := hu
   replace hp0_0 := hp0_0.le le108
   replace hp0_1 := hp0_1.le le108
   replace hgy101_0 := hgy101_0.le le108
   replace hgy101_1 := hgy101_1.le le108
   replace leB := leB.trans le108
   have hgy107_0 : Sl w.O w.W zK Ay107_0 cy107_0 y107.1.Tools := gy107_0 --@phi
   have hgy107_1 : Sl w.O w.W zG Ay107_1 cy107_1 y107.1.Steps := gy107_1 --@phi
   show Tr _ _ (uf _ 35 (.tuple #[(.agg #[(iv y107.1.Unit), (.slice Ay107_0 (y107.1.Tools).length cy107_0), (.slice Ay107_1 (y107.1.Steps).length cy107_1)]), (.bool y107.2.1), (iv y107.2.2)])) (_) _
   refine Tr.mv rfl rfl ?_
   refine Tr.va rfl (fun _ _ h1 h2 => run_extract (h1.ev rfl) rfl) ?_
   refine Tr.va rfl (fun _ _ h1 h2 => run_extract (h1.ev rfl) rfl) ?_
   refine Tr.va rfl (fun _ _ h1 h2 => run_extract (h1.ev rfl) rfl) ?_
   refine Tr.alloc 3 (wn rfl) rfl ze_25 fun b109 => ?_
   refine Tr.store 3 (cs := [(iv y107.1.Unit), (.slice Ay107_0 (y107.1.Tools).length cy107_0), (.slice Ay107_1 (y107.1.Steps).length cy107_1)]) [(iv y107.1.Unit), (.slice Ay107_0 (y107.1.Tools).length cy107_0), (.slice Ay107_1 (y107.1.Steps).length cy107_1)] (wn rfl) rfl rfl rfl rfl sz_25 rfl rfl rfl ?_
   refine Tr.asg rfl rfl ?_
   refine Tr.asg rfl rfl ?_
   refine Tr.nil (Tr.zA ?_)
   refine Tr.seq ?_
   refine Tr.sr ?_
   refine Tr.mv rfl rfl ?_
   refine Tr.va rfl (fun _ _ h1 h2 => run_neq (h1.ev rfl) (h1.ev rfl)) ?_
   refine Tr.mv rfl rfl ?_
   refine Tr.mid0 3 [(2, (.pointer (some ⟨b100, 0, none⟩))), (5, (.pointer (some ⟨b103, 0, none⟩))), (8, (.pointer (some ⟨b109, 0, none⟩))), (44, (.bool ((y107.2.2 != 0) || (!y107.2.1))))] [(1, bx b100 #[(iv p0.Unit), (.slice Ap0_0 (p0.Tools).length cp0_0), (.slice Ap0_1 (p0.Steps).length cp0_1)] 25), (2, bx b103 #[(iv y101.1.Unit), (.slice Ay101_0 (y101.1.Tools).length cy101_0), (.slice Ay101_1 (y101.1.Steps).length cy101_1)] 25), (3, bx b109 #[(iv y107.1.Unit), (.slice Ay107_0 (y107.1.Tools).length cy107_0), (.slice Ay107_1 (y107.1.Steps).length cy107_1)] 25)] ?_ ?_
   ·cases hg122 : (y107.2.2 != 0)
    ·refine Tr.val (wg rfl rfl rfl) rfl (fun _ _ h1 h2 => run_move (h1.ev rfl)) ?_
     refine Tr.val (wg rfl rfl rfl) rfl (fun _ _ h1 h2 => run_not (h1.ev rfl)) ?_
     refine Tr.va rfl (fun _ _ h1 h2 => zf (h1.ev rfl) (h1.ev rfl)) ?_
     exact Tr.nil (Tr.fin0 (.cons rfl (.cons rfl (.cons rfl (.cons rfl .nil)))) (.cons rfl (.cons rfl (.cons rfl .nil))))
    ·refine Tr.pass rfl rfl rfl rfl rfl (by decide) ?_
     refine Tr.pass rfl rfl rfl rfl rfl (by decide) ?_
     refine Tr.va rfl (fun _ _ h1 h2 => ze (h1.ev rfl) (h1.ev rfl)) ?_
     exact Tr.nil (Tr.fin0 (.cons rfl (.cons rfl (.cons rfl (.cons rfl .nil)))) (.cons rfl (.cons rfl (.cons rfl .nil))))
   ·show Tr _ _ (LF [(2, (.pointer (some ⟨b100, 0, none⟩))), (5, (.pointer (some ⟨b103, 0, none⟩))), (8, (.pointer (some ⟨b109, 0, none⟩))), (44, (.bool ((y107.2.2 != 0) || (!y107.2.1))))]) (LE [(1, bx b100 #[(iv p0.Unit), (.slice Ap0_0 (p0.Tools).length cp0_0), (.slice Ap0_1 (p0.Steps).length cp0_1)] 25), (2, bx b103 #[(iv y101.1.Unit), (.slice Ay101_0 (y101.1.Tools).length cy101_0), (.slice Ay101_1 (y101.1.Steps).length cy101_1)] 25), (3, bx b109 #[(iv y107.1.Unit), (.slice Ay107_0 (y107.1.Tools).length cy107_0), (.slice Ay107_1 (y107.1.Steps).length cy107_1)] 25)]) _
    refine Tr.mv rfl rfl ?_
    obtain ⟨g111, hg111, H⟩ := bnd H
    refine Tr.mid0 5 [(2, (.pointer (some ⟨b100, 0, none⟩))), (5, (.pointer (some ⟨b103, 0, none⟩))), (50, (.bool g111))] [(1, bx b100 #[(iv p0.Unit), (.slice Ap0_0 (p0.Tools).length cp0_0), (.slice Ap0_1 (p0.Steps).length cp0_1)] 25), (2, bx b103 #[(iv y101.1.Unit), (.slice Ay101_0 (y101.1.Tools).length cy101_0), (.slice Ay101_1 (y101.1.Steps).length cy101_1)] 25), (3, bx b109 #[(iv y107.1.Unit), (.slice Ay107_0 (y107.1.Tools).length cy107_0), (.slice Ay107_1 (y107.1.Steps).length cy107_1)] 25)] ?_ ?_
    ·cases hg122 : ((y107.2.2 != 0) || (!y107.2.1))
     ·rw [hg122] at hg111
      rw [if_neg (by decide)] at hg111
      have H := hg111
      refine Tr.val (wg rfl rfl rfl) rfl (fun _ _ h1 h2 => zR (cs := [(iv y107.1.Unit), (.slice Ay107_0 (y107.1.Tools).length cy107_0), (.slice Ay107_1 (y107.1.Steps).length cy107_1)]) ag_25 sz_25 (h1.ev rfl) (zL.take (rdb h2 (vs := [(iv y107.1.Unit), (.slice Ay107_0 (y107.1.Tools).length cy107_0), (.slice Ay107_1 (y107.1.Steps).length cy107_1)]) (k := 3) rfl 0) 3) rfl) ?_
      refine Tr.val (wg rfl rfl rfl) rfl (fun _ _ h1 h2 => zR (cs := [(iv p0.Unit), (.slice Ap0_0 (p0.Tools).length cp0_0), (.slice Ap0_1 (p0.Steps).length cp0_1)]) ag_25 sz_25 (h1.ev rfl) (zL.take (rdb h2 (vs := [(iv p0.Unit), (.slice Ap0_0 (p0.Tools).length cp0_0), (.slice Ap0_1 (p0.Steps).length cp0_1)]) (k := 1) rfl 0) 3) rfl) ?_
      obtain ⟨y112, hy112, H⟩ := bnd H
      refine Tr.call0 (r := (.bool y112)) (wg rfl rfl rfl) rfl Tryz.call9 (zF rfl (zF rfl zO)) (fun W hW => F_etchhouseref3_SamePlot_ok N y107.1 Ay107_0 cy107_0 (hgy107_0.rl.ext hW.extAll) Ay107_1 cy107_1 (hgy107_1.rl.ext hW.extAll) p0 Ap0_0 cp0_0 (hp0_0.rl.ext hW.extAll) Ap0_1 cp0_1 (hp0_1.rl.ext hW.extAll) y112 hy112 (HF.start _)) ?_
      refine Tr.val (wg rfl rfl rfl) rfl (fun _ _ h1 h2 => run_not (h1.ev rfl)) ?_
      refine Tr.va rfl (fun _ _ h1 h2 => zf (h1.ev rfl) (h1.ev rfl)) ?_
      obtain rfl := Option.some.inj H
      exact Tr.nil (Tr.fin0 (.cons rfl (.cons rfl (.cons rfl .nil))) (.cons rfl (.cons rfl (.cons rfl .nil))))
     ·rw [hg122] at hg111
      rw [if_pos rfl] at hg111
      have H := hg111
      obtain rfl := Option.some.inj H
      refine Tr.pass rfl rfl rfl rfl rfl (by decide) ?_
      refine Tr.pass rfl rfl rfl rfl rfl (by decide) ?_
      refine Tr.pass rfl rfl rfl rfl rfl (by decide) ?_
      refine Tr.pass rfl rfl rfl rfl rfl (by decide) ?_
      refine Tr.va rfl (fun _ _ h1 h2 => ze (h1.ev rfl) (h1.ev rfl)) ?_
      exact Tr.nil (Tr.fin0 (.cons rfl (.cons rfl (.cons rfl .nil))) (.cons rfl (.cons rfl (.cons rfl .nil))))
    ·show Tr _ _ (LF [(2, (.pointer (some ⟨b100, 0, none⟩))), (5, (.pointer (some ⟨b103, 0, none⟩))), (50, (.bool g111))]) (LE [(1, bx b100 #[(iv p0.Unit), (.slice Ap0_0 (p0.Tools).length cp0_0), (.slice Ap0_1 (p0.Steps).length cp0_1)] 25), (2, bx b103 #[(iv y101.1.Unit), (.slice Ay101_0 (y101.1.Tools).length cy101_0), (.slice Ay101_1 (y101.1.Steps).length cy101_1)] 25), (3, bx b109 #[(iv y107.1.Unit), (.slice Ay107_0 (y107.1.Tools).length cy107_0), (.slice Ay107_1 (y107.1.Steps).length cy107_1)] 25)]) _
     refine Tr.nil (Tr.zA ?_)
     refine Tr.cond rfl H (fun H => ?_) (fun H => ?_)
     ·refine Tr.sr ?_
      refine Tr.asg rfl rfl ?_
      refine Tr.nil (Tr.zA ?_)
      refine Tr.ret (Tr.zU ?_)
      obtain rfl := Option.some.inj H
      exact Tr.out (m := [(.bool false)]) [] (zP rfl zQ) (fun W hW => ⟨rfl, hW.low leB⟩)
     ·refine Tr.skip (Tr.zA ?_)
      refine Tr.sr ?_
      refine Tr.va rfl (fun _ _ h1 h2 => zR (cs := [(iv p0.Unit), (.slice Ap0_0 (p0.Tools).length cp0_0), (.slice Ap0_1 (p0.Steps).length cp0_1)]) ag_25 sz_25 (h1.ev rfl) (zL.take (rdb h2 (vs := [(iv p0.Unit), (.slice Ap0_0 (p0.Tools).length cp0_0), (.slice Ap0_1 (p0.Steps).length cp0_1)]) (k := 1) rfl 0) 3) rfl) ?_
      obtain ⟨y113, hy113, H⟩ := bnd H
      refine Tr.callM [4] [emp] (U := (Option Addr × Nat)) (fun u => (.tuple #[(.slice u.1 (y113.1).length u.2), (iv y113.2)])) (fun u => SlF u.1 (y113.1).length u.2) (fun u => [ow u.1 u.2 36 zN y113.1]) rfl (zM rfl zY) (fun _ => rfl) (wn rfl) rfl Tryz.call10 (zF rfl zO) (fun W hW hp hE => F_plot_Image_ok N p0 Ap0_0 cp0_0 (hp0_0.extO (hW.extS hp)) Ap0_1 cp0_1 (hp0_1.extO (hW.extS hp)) y113 hy113 hE) ?_
      intro u hu
      obtain ⟨Ay113_0, cy113_0⟩ := u
      have gy113_0 := hu
      have hgy113_0 : SlF Ay113_0 (y113.1).length cy113_0 := gy113_0 --@phi
      show Tr _ _ (uf _ 53 (.tuple #[(.slice Ay113_0 (y113.1).length cy113_0), (iv y113.2)])) (up _ 4 (ow Ay113_0 cy113_0 36 zN y113.1)) _
      refine Tr.mv rfl rfl ?_
      refine Tr.va rfl (fun _ _ h1 h2 => run_extract (h1.ev rfl) rfl) ?_
      refine Tr.va rfl (fun _ _ h1 h2 => run_extract (h1.ev rfl) rfl) ?_
      refine Tr.asg rfl rfl ?_
      refine Tr.asg rfl rfl ?_
      refine Tr.nil (Tr.zA ?_)
      refine Tr.sr ?_
      refine Tr.va rfl (fun _ _ h1 h2 => zR (cs := [(iv y101.1.Unit), (.slice Ay101_0 (y101.1.Tools).length cy101_0), (.slice Ay101_1 (y101.1.Steps).length cy101_1)]) ag_25 sz_25 (h1.ev rfl) (zL.take (rdb h2 (vs := [(iv y101.1.Unit), (.slice Ay101_0 (y101.1.Tools).length cy101_0), (.slice Ay101_1 (y101.1.Steps).length cy101_1)]) (k := 2) rfl 0) 3) rfl) ?_
      obtain ⟨y115, hy115, H⟩ := bnd H
      refine Tr.callM [5] [emp] (U := (Option Addr × Nat)) (fun u => (.tuple #[(.slice u.1 (y115.1).length u.2), (iv y115.2)])) (fun u => SlF u.1 (y115.1).length u.2) (fun u => [ow u.1 u.2 36 zN y115.1]) rfl (zM rfl zY) (fun _ => rfl) (wn rfl) rfl Tryz.call10 (zF rfl zO) (fun W hW hp hE => F_plot_Image_ok N y101.1 Ay101_0 cy101_0 (hgy101_0.extO (hW.extS hp)) Ay101_1 cy101_1 (hgy101_1.extO (hW.extS hp)) y115 hy115 hE) ?_
      intro u hu
      obtain ⟨Ay115_0, cy115_0⟩ := u
      have gy115_0 := hu
      have hgy115_0 : SlF Ay115_0 (y115.1).length cy115_0 := gy115_0 --@phi
      show Tr _ _ (uf _ 58 (.tuple #[(.slice Ay115_0 (y115.1).length cy115_0), (iv y115.2)])) (up _ 5 (ow Ay115_0 cy115_0 36 zN y115.1)) _
      refine Tr.mv rfl rfl ?_
      refine Tr.va rfl (fun _ _ h1 h2 => run_extract (h1.ev rfl) rfl) ?_
      refine Tr.va rfl (fun _ _ h1 h2 => run_extract (h1.ev rfl) rfl) ?_
      refine Tr.asg rfl rfl ?_
      refine Tr.asg rfl rfl ?_
      refine Tr.nil (Tr.zA ?_)
      refine Tr.sr ?_
      refine Tr.mv rfl rfl ?_
      refine Tr.mv rfl rfl ?_
      refine Tr.va rfl (fun _ _ h1 h2 => run_eql (h1.ev rfl) (h1.ev rfl)) ?_
      refine Tr.mv rfl rfl ?_
      obtain ⟨g118, hg118, H⟩ := bnd H
      refine Tr.mid0 4 [(68, (.bool g118))] [(1, bx b100 #[(iv p0.Unit), (.slice Ap0_0 (p0.Tools).length cp0_0), (.slice Ap0_1 (p0.Steps).length cp0_1)] 25), (2, bx b103 #[(iv y101.1.Unit), (.slice Ay101_0 (y101.1.Tools).length cy101_0), (.slice Ay101_1 (y101.1.Steps).length cy101_1)] 25), (3, bx b109 #[(iv y107.1.Unit), (.slice Ay107_0 (y107.1.Tools).length cy107_0), (.slice Ay107_1 (y107.1.Steps).length cy107_1)] 25), (4, ow Ay113_0 cy113_0 36 zN y113.1), (5, ow Ay115_0 cy115_0 36 zN y115.1)] ?_ ?_
      ·cases hg122 : (y113.2 == y115.2)
       ·rw [hg122] at hg118
        rw [if_neg (by decide)] at hg118
        have H := hg118
        obtain rfl := Option.some.inj H
        refine Tr.pass rfl rfl rfl rfl rfl (by decide) ?_
        refine Tr.pass rfl rfl rfl rfl rfl (by decide) ?_
        refine Tr.pass rfl rfl rfl rfl rfl (by decide) ?_
        refine Tr.va rfl (fun _ _ h1 h2 => zf (h1.ev rfl) (h1.ev rfl)) ?_
        exact Tr.nil (Tr.fin0 (.cons rfl .nil) (.cons rfl (.cons rfl (.cons rfl (.cons rfl (.cons rfl .nil))))))
       ·rw [hg122] at hg118
        rw [if_pos rfl] at hg118
        have H := hg118
        refine Tr.val (wg rfl rfl rfl) rfl (fun _ _ h1 h2 => run_move (h1.ev rfl)) ?_
        refine Tr.val (wg rfl rfl rfl) rfl (fun _ _ h1 h2 => run_move (h1.ev rfl)) ?_
        obtain ⟨y119, hy119, H⟩ := bnd H
        refine Tr.call0 (r := (.bool y119)) (wg rfl rfl rfl) rfl Tryz.call11 (zF rfl (zF rfl zO)) (fun W hW => F_slices_Equal_Rect_ok y113.1 Ay113_0 cy113_0 (hW.slCall (k := 4) rfl) y115.1 Ay115_0 cy115_0 (hW.slCall (k := 5) rfl) y119 hy119 (HF.start _)) ?_
        refine Tr.va rfl (fun _ _ h1 h2 => ze (h1.ev rfl) (h1.ev rfl)) ?_
        obtain rfl := Option.some.inj H
        exact Tr.nil (Tr.fin0 (.cons rfl .nil) (.cons rfl (.cons rfl (.cons rfl (.cons rfl (.cons rfl .nil))))))
      ·show Tr _ _ (LF [(68, (.bool g118))]) (LE [(1, bx b100 #[(iv p0.Unit), (.slice Ap0_0 (p0.Tools).length cp0_0), (.slice Ap0_1 (p0.Steps).length cp0_1)] 25), (2, bx b103 #[(iv y101.1.Unit), (.slice Ay101_0 (y101.1.Tools).length cy101_0), (.slice Ay101_1 (y101.1.Steps).length cy101_1)] 25), (3, bx b109 #[(iv y107.1.Unit), (.slice Ay107_0 (y107.1.Tools).length cy107_0), (.slice Ay107_1 (y107.1.Steps).length cy107_1)] 25), (4, ow Ay113_0 cy113_0 36 zN y113.1), (5, ow Ay115_0 cy115_0 36 zN y115.1)]) _
       refine Tr.mv rfl rfl ?_
       obtain ⟨g121, hg121, H⟩ := bnd H
       refine Tr.mid0 2 [(71, (.bool g121))] [(1, bx b100 #[(iv p0.Unit), (.slice Ap0_0 (p0.Tools).length cp0_0), (.slice Ap0_1 (p0.Steps).length cp0_1)] 25), (2, bx b103 #[(iv y101.1.Unit), (.slice Ay101_0 (y101.1.Tools).length cy101_0), (.slice Ay101_1 (y101.1.Steps).length cy101_1)] 25), (3, bx b109 #[(iv y107.1.Unit), (.slice Ay107_0 (y107.1.Tools).length cy107_0), (.slice Ay107_1 (y107.1.Steps).length cy107_1)] 25), (4, ow Ay113_0 cy113_0 36 zN y113.1), (5, ow Ay115_0 cy115_0 36 zN y115.1)] ?_ ?_
       ·cases hg122 : g118
        ·rw [hg122] at hg121
         rw [if_neg (by decide)] at hg121
         have H := hg121
         obtain rfl := Option.some.inj H
         refine Tr.pass rfl rfl rfl rfl rfl (by decide) ?_
         refine Tr.va rfl (fun _ _ h1 h2 => zf (h1.ev rfl) (h1.ev rfl)) ?_
         exact Tr.nil (Tr.fin0 (.cons rfl .nil) (.cons rfl (.cons rfl (.cons rfl (.cons rfl (.cons rfl .nil))))))
        ·rw [hg122] at hg121
         rw [if_pos rfl] at hg121
         have H := hg121
         obtain ⟨y122, hy122, H⟩ := bnd H
         refine Tr.call0 (r := (.bool y122)) (wg rfl rfl rfl) rfl Tryz.call8 zO (fun W hW => F_etchhouselaw3_awake_ok N y122 hy122 (HF.start _)) ?_
         refine Tr.va rfl (fun _ _ h1 h2 => ze (h1.ev rfl) (h1.ev rfl)) ?_
         obtain rfl := Option.some.inj H
         exact Tr.nil (Tr.fin0 (.cons rfl .nil) (.cons rfl (.cons rfl (.cons rfl (.cons rfl (.cons rfl .nil))))))
       ·show Tr _ _ (LF [(71, (.bool g121))]) (LE [(1, bx b100 #[(iv p0.Unit), (.slice Ap0_0 (p0.Tools).length cp0_0), (.slice Ap0_1 (p0.Steps).length cp0_1)] 25), (2, bx b103 #[(iv y101.1.Unit), (.slice Ay101_0 (y101.1.Tools).length cy101_0), (.slice Ay101_1 (y101.1.Steps).length cy101_1)] 25), (3, bx b109 #[(iv y107.1.Unit), (.slice Ay107_0 (y107.1.Tools).length cy107_0), (.slice Ay107_1 (y107.1.Steps).length cy107_1)] 25), (4, ow Ay113_0 cy113_0 36 zN y113.1), (5, ow Ay115_0 cy115_0 36 zN y115.1)]) _
        refine Tr.asg rfl rfl ?_
        refine Tr.nil (Tr.zA ?_)
        refine Tr.ret ?_
        obtain rfl := Option.some.inj H
        exact Tr.out (m := [(.bool g121)]) [] (zP rfl zQ) (fun W hW => ⟨rfl, hW.low leB⟩)

end Go.Proofs.YtoageaoknnnfbaaGreatDoor
