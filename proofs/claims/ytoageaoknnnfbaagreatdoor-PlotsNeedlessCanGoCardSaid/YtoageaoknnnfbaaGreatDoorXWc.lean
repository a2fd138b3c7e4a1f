/- The walks: each function computes its plain function. -/
import Derived.Test.YtoageaoknnnfbaaGreatDoorXWb
namespace Go.Proofs.YtoageaoknnnfbaaGreatDoor
open Go.RowKit
set_option maxRecDepth 100000
set_option maxHeartbeats 1000000
theorem F_plot_machine__set__f0_10_ok {w : Bs} (p0 : zo) (Ap0_0 : Option Addr) (cp0_0 : Nat) (hp0_0 : Sl w.R w.W zh Ap0_0 cp0_0 p0.p.Tools) (Ap0_1 : Option Addr) (cp0_1 : Nat) (hp0_1 : Sl w.R w.W zG Ap0_1 cp0_1 p0.p.Steps) (Ap0_2 : Option Addr) (cp0_2 : Nat) (hp0_2 : Sl w.R w.W zAA Ap0_2 cp0_2 p0.tools) (Ap0_3 : Option Addr) (cp0_3 : Nat) (hp0_3 : Sl w.R w.W zH Ap0_3 cp0_3 p0.image) (bp0 : Nat) (p1 : zJ) (r : (Int × Int × Int × Bool × Int)) (H : F_plot_machine__set__f0_10 p0 p1 = some r) (hE : HF w w.W (LEn [bx bp0 #[(iv p0.p.Unit), (.slice Ap0_0 (p0.p.Tools).length cp0_0), (.slice Ap0_1 (p0.p.Steps).length cp0_1), (.slice Ap0_2 (p0.tools).length cp0_2), (.slice Ap0_3 (p0.image).length cp0_3), (.bool p0.clear), (iv p0.tool), (iv p0.place.X), (iv p0.place.Y), (.bool p0.placed), (iv p0.off), (iv p0.on)] 77])) : Calls Tryz.prog 104 [(.pointer (some ⟨bp0, 0, none⟩)), (.agg #[(iv p1.X), (iv p1.Y)]), (.pointer (some ⟨bp0, 10, none⟩))].toArray w.W fun e W' => ∃ u : Unit, e = .returned (iv r.1) ∧ (True) ∧ HF w W' (LEn [bx bp0 #[(iv p0.p.Unit), (.slice Ap0_0 (p0.p.Tools).length cp0_0), (.slice Ap0_1 (p0.p.Steps).length cp0_1), (.slice Ap0_2 (p0.tools).length cp0_2), (.slice Ap0_3 (p0.image).length cp0_3), (.bool p0.clear), (iv p0.tool), (iv r.2.1), (iv r.2.2.1), (.bool r.2.2.2.1), (iv r.2.2.2.2), (iv p0.on)] 77]) := by
 unfold F_plot_machine__set__f0_10 at H
 have leB := Bs.Le.refl w
 refine Tr.enter (n := 32) Tryz.func104 rfl rfl rfl hE ?_
 refine Tr.sr ?_
 refine Tr.box 1 (cs := [(iv p1.X), (iv p1.Y)]) (wn rfl) rfl rfl rfl fun b100 => ?_
 refine Tr.asg rfl rfl ?_
 refine Tr.nil (Tr.zA ?_)
 refine Tr.seq ?_
 refine Tr.sr ?_
 refine Tr.va rfl (fun _ _ h1 h2 => zQ (cs := [(iv p1.X), (iv p1.Y)]) ag_43 sz_43 (h1.ev rfl) (zO.take (rdb h2 (vs := [(iv p1.X), (iv p1.Y)]) (k := 1) rfl 0) 2) rfl) ?_
 obtain ⟨y101, hy101, H⟩ := bnd H
 refine Tr.call0 (r := (.bool y101)) (wn rfl) rfl Tryz.call123 (zF rfl zN) (fun W hW => F_shape_IsPoint_ok p1 y101 hy101 (HF.start _)) ?_
 refine Tr.va rfl (fun _ _ h1 h2 => run_not (h1.ev rfl)) ?_
 refine Tr.nil (Tr.zA ?_)
 refine Tr.cond rfl H (fun H => ?_) (fun H => ?_)
 ·refine Tr.sr ?_
  refine Tr.asg rfl rfl ?_
  refine Tr.nil (Tr.zA ?_)
  refine Tr.ret (Tr.zU ?_)
  obtain rfl := Option.some.inj H
  exact Tr.out (m := [(iv 1)]) [] (zL rfl zP) (fun W hW => ⟨(), rfl, trivial, HF.lowE leB (hW.pick (ks := [0]) (by decide) (zK rfl za)) ⟨bx_any _ _ _, trivial⟩⟩)
 ·refine Tr.skip (Tr.zA ?_)
  have leJ104 := Bs.Le.refl w
  refine Tr.cutJ (σ := Int) (fun w s => F_plot_machine__set__f0_10_J1 p1 s = some r) (fun s => [(0, (.pointer (some ⟨bp0, 0, none⟩))), (4, (.pointer (some ⟨b100, 0, none⟩)))]) (fun s => [(0, bx bp0 #[(iv p0.p.Unit), (.slice Ap0_0 (p0.p.Tools).length cp0_0), (.slice Ap0_1 (p0.p.Steps).length cp0_1), (.slice Ap0_2 (p0.tools).length cp0_2), (.slice Ap0_3 (p0.image).length cp0_3), (.bool p0.clear), (iv p0.tool), (iv p0.place.X), (iv p0.place.Y), (.bool p0.placed), (iv s), (iv p0.on)] 77), (1, bx b100 #[(iv p1.X), (iv p1.Y)] 43)]) ?_ ?_
  ·refine Tr.sr ?_
   refine Tr.mv rfl rfl ?_
   refine Tr.va rfl (fun _ _ h1 h2 => zg (h1.ev rfl)) ?_
   refine Tr.va rfl (fun _ _ h1 h2 => zB fo_77_6 (h1.ev rfl)) ?_
   refine Tr.va rfl (fun _ _ h1 h2 => zC ag_4 (h1.ev rfl) (rdb h2 (vs := [(iv p0.p.Unit), (.slice Ap0_0 (p0.p.Tools).length cp0_0), (.slice Ap0_1 (p0.p.Steps).length cp0_1), (.slice Ap0_2 (p0.tools).length cp0_2), (.slice Ap0_3 (p0.image).length cp0_3), (.bool p0.clear), (iv p0.tool), (iv p0.place.X), (iv p0.place.Y), (.bool p0.placed), (iv p0.off), (iv p0.on)]) (k := 0) rfl 9) rfl) ?_
   refine Tr.nil (Tr.zA ?_)
   refine Tr.cond rfl H (fun H => ?_) (fun H => ?_)
   ·refine Tr.drawTail 9 (by kernel_rfl) (by kernel_rfl) ?_
    refine Tq.mv rfl rfl ?_
    refine Tq.va rfl (fun _ _ h1 h2 => zg (h1.ev rfl)) ?_
    refine Tq.va rfl (fun _ _ h1 h2 => zC ag_3 (h1.ev rfl) (rdb h2 (vs := [(iv p0.p.Unit), (.slice Ap0_0 (p0.p.Tools).length cp0_0), (.slice Ap0_1 (p0.p.Steps).length cp0_1), (.slice Ap0_2 (p0.tools).length cp0_2), (.slice Ap0_3 (p0.image).length cp0_3), (.bool p0.clear), (iv p0.tool), (iv p0.place.X), (iv p0.place.Y), (.bool p0.placed), (iv p0.off), (iv p0.on)]) (k := 0) rfl 10) rfl) ?_
    refine Tq.mv rfl rfl ?_
    refine Tq.va rfl (fun _ _ h1 h2 => zg (h1.ev rfl)) ?_
    refine Tq.va rfl (fun _ _ h1 h2 => zB fo_77_5 (h1.ev rfl)) ?_
    refine Tq.va rfl (fun _ _ h1 h2 => zQ (cs := [(iv p0.place.X), (iv p0.place.Y)]) ag_43 sz_43 (h1.ev rfl) (zO.take (rdb h2 (vs := [(iv p0.p.Unit), (.slice Ap0_0 (p0.p.Tools).length cp0_0), (.slice Ap0_1 (p0.p.Steps).length cp0_1), (.slice Ap0_2 (p0.tools).length cp0_2), (.slice Ap0_3 (p0.image).length cp0_3), (.bool p0.clear), (iv p0.tool), (iv p0.place.X), (iv p0.place.Y), (.bool p0.placed), (iv p0.off), (iv p0.on)]) (k := 0) rfl 7) 2) rfl) ?_
    refine Tq.va rfl (fun _ _ h1 h2 => zQ (cs := [(iv p1.X), (iv p1.Y)]) ag_43 sz_43 (h1.ev rfl) (zO.take (rdb h2 (vs := [(iv p1.X), (iv p1.Y)]) (k := 1) rfl 0) 2) rfl) ?_
    obtain ⟨y106, hy106, H⟩ := bnd H
    refine Tq.call0 (r := (iv y106)) (wn rfl) rfl Tryz.call124 (zF rfl (zF rfl zN)) (fun W hW => F_plot_far_ok p0.place p1 y106 hy106 (HF.start _)) ?_
    refine Tq.nil ?_
    refine Tr.va rfl (fun _ _ h1 h2 => zm (h1.ev rfl) (h1.ev rfl)) ?_
    refine Tr.va rfl (fun _ _ h1 h2 => zg (h1.ev rfl)) ?_
    refine Tr.store 0 (cs := [(iv (w64 (p0.off + y106)))]) [(iv p0.p.Unit), (.slice Ap0_0 (p0.p.Tools).length cp0_0), (.slice Ap0_1 (p0.p.Steps).length cp0_1), (.slice Ap0_2 (p0.tools).length cp0_2), (.slice Ap0_3 (p0.image).length cp0_3), (.bool p0.clear), (iv p0.tool), (iv p0.place.X), (iv p0.place.Y), (.bool p0.placed), (iv (w64 (p0.off + y106))), (iv p0.on)] (wn rfl) rfl rfl rfl rfl sz_3 rfl rfl rfl ?_
    refine Tr.nil ?_
    exact Tr.zW leJ104 (w64 (p0.off + y106)) H (.cons rfl (.cons rfl .nil)) (.cons rfl (.cons rfl .nil))
   ·refine Tr.skip ?_
    exact Tr.zW leJ104 p0.off H (.cons rfl (.cons rfl .nil)) (.cons rfl (.cons rfl .nil))
  ·intro w x103 hlJ105 hs
   have H := hs
   replace H : F_plot_machine__set__f0_10_J1 p1 x103 = some r := H
   replace hp0_0 := hp0_0.leR hlJ105
   replace hp0_1 := hp0_1.leR hlJ105
   replace hp0_2 := hp0_2.leR hlJ105
   replace hp0_3 := hp0_3.leR hlJ105
   replace leB := leB.trans hlJ105
   unfold F_plot_machine__set__f0_10_J1 at H
   show Tr _ _ (LF [(0, (.pointer (some ⟨bp0, 0, none⟩))), (4, (.pointer (some ⟨b100, 0, none⟩)))]) (LE [(0, bx bp0 #[(iv p0.p.Unit), (.slice Ap0_0 (p0.p.Tools).length cp0_0), (.slice Ap0_1 (p0.p.Steps).length cp0_1), (.slice Ap0_2 (p0.tools).length cp0_2), (.slice Ap0_3 (p0.image).length cp0_3), (.bool p0.clear), (iv p0.tool), (iv p0.place.X), (iv p0.place.Y), (.bool p0.placed), (iv x103), (iv p0.on)] 77), (1, bx b100 #[(iv p1.X), (iv p1.Y)] 43)]) _
   refine Tr.sr ?_
   refine Tr.mv rfl rfl ?_
   refine Tr.mv rfl rfl ?_
   refine Tr.va rfl (fun _ _ h1 h2 => zQ (cs := [(iv p1.X), (iv p1.Y)]) ag_43 sz_43 (h1.ev rfl) (zO.take (rdb h2 (vs := [(iv p1.X), (iv p1.Y)]) (k := 1) rfl 0) 2) rfl) ?_
   refine Tr.va rfl (fun _ _ h1 h2 => zg (h1.ev rfl)) ?_
   refine Tr.va rfl (fun _ _ h1 h2 => zB fo_77_5 (h1.ev rfl)) ?_
   refine Tr.store 0 (cs := [(iv p1.X), (iv p1.Y)]) [(iv p0.p.Unit), (.slice Ap0_0 (p0.p.Tools).length cp0_0), (.slice Ap0_1 (p0.p.Steps).length cp0_1), (.slice Ap0_2 (p0.tools).length cp0_2), (.slice Ap0_3 (p0.image).length cp0_3), (.bool p0.clear), (iv p0.tool), (iv p1.X), (iv p1.Y), (.bool p0.placed), (iv x103), (iv p0.on)] (wn rfl) rfl rfl rfl rfl sz_43 rfl rfl rfl ?_
   refine Tr.va rfl (fun _ _ h1 h2 => zg (h1.ev rfl)) ?_
   refine Tr.va rfl (fun _ _ h1 h2 => zB fo_77_6 (h1.ev rfl)) ?_
   refine Tr.store 0 (cs := [(.bool true)]) [(iv p0.p.Unit), (.slice Ap0_0 (p0.p.Tools).length cp0_0), (.slice Ap0_1 (p0.p.Steps).length cp0_1), (.slice Ap0_2 (p0.tools).length cp0_2), (.slice Ap0_3 (p0.image).length cp0_3), (.bool p0.clear), (iv p0.tool), (iv p1.X), (iv p1.Y), (.bool true), (iv x103), (iv p0.on)] (wn rfl) rfl rfl rfl rfl sz_4 rfl rfl rfl ?_
   refine Tr.nil (Tr.zA ?_)
   refine Tr.sr ?_
   refine Tr.asg rfl rfl ?_
   refine Tr.nil (Tr.zA ?_)
   refine Tr.ret ?_
   obtain rfl := Option.some.inj H
   exact Tr.out (m := [(iv 0)]) [] (zL rfl zP) (fun W hW => ⟨(), rfl, trivial, HF.lowE leB (hW.pick (ks := [0]) (by decide) (zK rfl za)) ⟨bx_any _ _ _, trivial⟩⟩)

theorem F_plot_machine__flash_ok (N : Nat) {w : Bs} (p0 : zo) (Ap0_0 : Option Addr) (cp0_0 : Nat) (hp0_0 : Sl w.R w.W zh Ap0_0 cp0_0 p0.p.Tools) (Ap0_1 : Option Addr) (cp0_1 : Nat) (hp0_1 : Sl w.R w.W zG Ap0_1 cp0_1 p0.p.Steps) (Ap0_2 : Option Addr) (cp0_2 : Nat) (hp0_2 : Sl w.R w.W zAA Ap0_2 cp0_2 p0.tools) (Ap0_3 : Option Addr) (cp0_3 : Nat) (bp0 : Nat) (p1 : zJ) (r : (Int × Int × Int × Bool × Int × (List zS))) (H : F_plot_machine__flash N p0 p1 = some r) (hE : HF w w.W (LEn [bx bp0 #[(iv p0.p.Unit), (.slice Ap0_0 (p0.p.Tools).length cp0_0), (.slice Ap0_1 (p0.p.Steps).length cp0_1), (.slice Ap0_2 (p0.tools).length cp0_2), (.slice Ap0_3 (p0.image).length cp0_3), (.bool p0.clear), (iv p0.tool), (iv p0.place.X), (iv p0.place.Y), (.bool p0.placed), (iv p0.off), (iv p0.on)] 77, ow Ap0_3 cp0_3 107 zH p0.image])) : Calls Tryz.prog 105 [(.pointer (some ⟨bp0, 0, none⟩)), (.agg #[(iv p1.X), (iv p1.Y)])].toArray w.W fun e W' => ∃ (w' : Bs) (u : (Option Addr × Nat)), w.Le w' ∧ e = .returned (iv r.1) ∧ (SlF u.1 (r.2.2.2.2.2).length u.2) ∧ HF w' W' (LEn [bx bp0 #[(iv p0.p.Unit), (.slice Ap0_0 (p0.p.Tools).length cp0_0), (.slice Ap0_1 (p0.p.Steps).length cp0_1), (.slice Ap0_2 (p0.tools).length cp0_2), (.slice u.1 (r.2.2.2.2.2).length u.2), (.bool p0.clear), (iv p0.tool), (iv r.2.1), (iv r.2.2.1), (.bool r.2.2.2.1), (iv r.2.2.2.2.1), (iv p0.on)] 77, ow u.1 u.2 107 zH r.2.2.2.2.2]) := by
 unfold F_plot_machine__flash at H
 have hfhp0_3 := (hE.sl (k := 1) rfl).form
 have leB := Bs.Le.refl w
 refine Tr.enter (n := 35) Tryz.func105 rfl rfl rfl hE ?_
 refine Tr.sr ?_
 refine Tr.box 2 (cs := [(iv p1.X), (iv p1.Y)]) (wn rfl) rfl rfl rfl fun b100 => ?_
 refine Tr.asg rfl rfl ?_
 refine Tr.nil (Tr.zA ?_)
 refine Tr.seq ?_
 refine Tr.sr ?_
 refine Tr.mv rfl rfl ?_
 refine Tr.va rfl (fun _ _ h1 h2 => zg (h1.ev rfl)) ?_
 refine Tr.va rfl (fun _ _ h1 h2 => zB fo_77_4 (h1.ev rfl)) ?_
 refine Tr.va rfl (fun _ _ h1 h2 => zC ag_3 (h1.ev rfl) (rdb h2 (vs := [(iv p0.p.Unit), (.slice Ap0_0 (p0.p.Tools).length cp0_0), (.slice Ap0_1 (p0.p.Steps).length cp0_1), (.slice Ap0_2 (p0.tools).length cp0_2), (.slice Ap0_3 (p0.image).length cp0_3), (.bool p0.clear), (iv p0.tool), (iv p0.place.X), (iv p0.place.Y), (.bool p0.placed), (iv p0.off), (iv p0.on)]) (k := 0) rfl 6) rfl) ?_
 refine Tr.va rfl (fun _ _ h1 h2 => zn (h1.ev rfl) (h1.ev rfl)) ?_
 refine Tr.nil (Tr.zA ?_)
 refine Tr.cond rfl H (fun H => ?_) (fun H => ?_)
 ·refine Tr.sr ?_
  refine Tr.asg rfl rfl ?_
  refine Tr.nil (Tr.zA ?_)
  refine Tr.ret (Tr.zU ?_)
  obtain rfl := Option.some.inj H
  exact Tr.out (m := [(iv 11)]) [] (zL rfl zP) (fun W hW => ⟨w, (Ap0_3, cp0_3), leB, rfl, hfhp0_3, hW.pick (ks := [0, 1]) (by decide) (zK rfl (zK rfl za))⟩)
 ·refine Tr.skip (Tr.zA ?_)
  refine Tr.seq ?_
  refine Tr.seq ?_
  refine Tr.drawTail 5 (by kernel_rfl) (by kernel_rfl) ?_
  refine Tq.mv rfl rfl ?_
  refine Tq.va rfl (fun _ _ h1 h2 => zQ (cs := [(iv p1.X), (iv p1.Y)]) ag_43 sz_43 (h1.ev rfl) (zO.take (rdb h2 (vs := [(iv p1.X), (iv p1.Y)]) (k := 2) rfl 0) 2) rfl) ?_
  refine Tq.mv rfl rfl ?_
  refine Tq.va rfl (fun _ _ h1 h2 => zg (h1.ev rfl)) ?_
  refine Tq.va rfl (fun _ _ h1 h2 => zB fo_77_7 (h1.ev rfl)) ?_
  refine Tq.nil ?_
  obtain ⟨y101, hy101, H⟩ := bnd H
  refine Tr.callM [0] [bx bp0 #[(iv p0.p.Unit), (.slice Ap0_0 (p0.p.Tools).length cp0_0), (.slice Ap0_1 (p0.p.Steps).length cp0_1), (.slice Ap0_2 (p0.tools).length cp0_2), (.slice Ap0_3 (p0.image).length cp0_3), (.bool p0.clear), (iv p0.tool), (iv p0.place.X), (iv p0.place.Y), (.bool p0.placed), (iv p0.off), (iv p0.on)] 77] (U := Unit) (fun u => (iv y101.1)) (fun u => True) (fun u => [bx bp0 #[(iv p0.p.Unit), (.slice Ap0_0 (p0.p.Tools).length cp0_0), (.slice Ap0_1 (p0.p.Steps).length cp0_1), (.slice Ap0_2 (p0.tools).length cp0_2), (.slice Ap0_3 (p0.image).length cp0_3), (.bool p0.clear), (iv p0.tool), (iv y101.2.1), (iv y101.2.2.1), (.bool y101.2.2.2.1), (iv y101.2.2.2.2), (iv p0.on)] 77]) rfl (zK rfl za) (fun _ => rfl) (wn rfl) rfl Tryz.call104 (zF rfl (zF rfl (zF rfl zN))) (fun W hW hp hE => F_plot_machine__set__f0_10_ok p0 Ap0_0 cp0_0 (hp0_0.ext (hW.extS hp)) Ap0_1 cp0_1 (hp0_1.ext (hW.extS hp)) Ap0_2 cp0_2 (hp0_2.ext (hW.extS hp)) Ap0_3 cp0_3 (hW.slS (k := 1) rfl hp rfl) bp0 p1 y101 hy101 hE) ?_
  intro u hu
  show Tr _ _ (uf _ 16 (iv y101.1)) (up _ 0 (bx bp0 #[(iv p0.p.Unit), (.slice Ap0_0 (p0.p.Tools).length cp0_0), (.slice Ap0_1 (p0.p.Steps).length cp0_1), (.slice Ap0_2 (p0.tools).length cp0_2), (.slice Ap0_3 (p0.image).length cp0_3), (.bool p0.clear), (iv p0.tool), (iv y101.2.1), (iv y101.2.2.1), (.bool y101.2.2.2.1), (iv y101.2.2.2.2), (iv p0.on)] 77)) _
  refine Tr.asg rfl rfl ?_
  refine Tr.nil (Tr.zA ?_)
  refine Tr.sr ?_
  refine Tr.mv rfl rfl ?_
  refine Tr.va rfl (fun _ _ h1 h2 => run_neq (h1.ev rfl) (h1.ev rfl)) ?_
  refine Tr.nil (Tr.zA ?_)
  refine Tr.cond rfl H (fun H => ?_) (fun H => ?_)
  ·refine Tr.sr ?_
   refine Tr.mv rfl rfl ?_
   refine Tr.asg rfl rfl ?_
   refine Tr.nil (Tr.zA ?_)
   refine Tr.ret (Tr.zU ?_)
   obtain rfl := Option.some.inj H
   exact Tr.out (m := [(iv y101.1)]) [] (zL rfl zP) (fun W hW => ⟨w, (Ap0_3, cp0_3), leB, rfl, hfhp0_3, hW.pick (ks := [0, 1]) (by decide) (zK rfl (zK rfl za))⟩)
  ·refine Tr.skip (Tr.zA ?_)
   refine Tr.seq ?_
   refine Tr.drawC 14 [] [] (by kernel_rfl) (by kernel_rfl) fun sz103 hlosz103 hEsz103 => ?_
   refine Dr.quiet 0 [(20, (.pointer (some ⟨bp0, 0, none⟩)))] (by kernel_rfl) rfl rfl (by kernel_rfl) ?_ rfl rfl ?_
   ·refine Tq.mv rfl rfl ?_
    exact Tq.fin (.cons rfl .nil)
   refine Dr.quiet 1 [(21, (.pointer (some ⟨bp0, 0, none⟩)))] (by kernel_rfl) rfl rfl (by kernel_rfl) ?_ rfl rfl ?_
   ·refine Tq.mv rfl rfl ?_
    exact Tq.fin (.cons rfl .nil)
   refine Dr.quiet 2 [(22, (.pointer (some ⟨bp0, 0, none⟩)))] (by kernel_rfl) rfl rfl (by kernel_rfl) ?_ rfl rfl ?_
   ·refine Tq.va rfl (fun _ _ h1 h2 => zg (h1.ev rfl)) ?_
    exact Tq.fin (.cons rfl .nil)
   refine Dr.quiet 3 [(23, (.pointer (some ⟨bp0, 3, none⟩)))] (by kernel_rfl) rfl rfl (by kernel_rfl) ?_ rfl rfl ?_
   ·refine Tq.va rfl (fun _ _ h1 h2 => zB fo_77_1 (h1.ev rfl)) ?_
    exact Tq.fin (.cons rfl .nil)
   refine Dr.quiet 4 [(24, (.slice Ap0_2 (p0.tools).length cp0_2))] (by kernel_rfl) rfl rfl (by kernel_rfl) ?_ rfl rfl ?_
   ·refine Tq.va rfl (fun _ _ h1 h2 => zC ag_75 (h1.ev rfl) (rdb h2 (vs := [(iv p0.p.Unit), (.slice Ap0_0 (p0.p.Tools).length cp0_0), (.slice Ap0_1 (p0.p.Steps).length cp0_1), (.slice Ap0_2 (p0.tools).length cp0_2), (.slice Ap0_3 (p0.image).length cp0_3), (.bool p0.clear), (iv p0.tool), (iv y101.2.1), (iv y101.2.2.1), (.bool y101.2.2.2.1), (iv y101.2.2.2.2), (iv p0.on)]) (k := 0) rfl 3) rfl) ?_
    exact Tq.fin (.cons rfl .nil)
   refine Dr.quiet 5 [(25, (.pointer (some ⟨bp0, 0, none⟩)))] (by kernel_rfl) rfl rfl (by kernel_rfl) ?_ rfl rfl ?_
   ·refine Tq.mv rfl rfl ?_
    exact Tq.fin (.cons rfl .nil)
   refine Dr.quiet 6 [(26, (.pointer (some ⟨bp0, 0, none⟩)))] (by kernel_rfl) rfl rfl (by kernel_rfl) ?_ rfl rfl ?_
   ·refine Tq.va rfl (fun _ _ h1 h2 => zg (h1.ev rfl)) ?_
    exact Tq.fin (.cons rfl .nil)
   refine Dr.quiet 7 [(27, (.pointer (some ⟨bp0, 6, none⟩)))] (by kernel_rfl) rfl rfl (by kernel_rfl) ?_ rfl rfl ?_
   ·refine Tq.va rfl (fun _ _ h1 h2 => zB fo_77_4 (h1.ev rfl)) ?_
    exact Tq.fin (.cons rfl .nil)
   refine Dr.quiet 8 [(28, (iv p0.tool))] (by kernel_rfl) rfl rfl (by kernel_rfl) ?_ rfl rfl ?_
   ·refine Tq.va rfl (fun _ _ h1 h2 => zC ag_3 (h1.ev rfl) (rdb h2 (vs := [(iv p0.p.Unit), (.slice Ap0_0 (p0.p.Tools).length cp0_0), (.slice Ap0_1 (p0.p.Steps).length cp0_1), (.slice Ap0_2 (p0.tools).length cp0_2), (.slice Ap0_3 (p0.image).length cp0_3), (.bool p0.clear), (iv p0.tool), (iv y101.2.1), (iv y101.2.2.1), (.bool y101.2.2.2.1), (iv y101.2.2.2.2), (iv p0.on)]) (k := 0) rfl 6) rfl) ?_
    exact Tq.fin (.cons rfl .nil)
   obtain ⟨x104, hx104, H⟩ := bnd H
   obtain ⟨hx1040, hx1041, hx1042⟩ := zq hx104
   obtain ⟨u105, hRu105, hoku105, hcu105⟩ := (hp0_2).el hx1042
   obtain ⟨Au105_0, cu105_0⟩ := u105
   have hoku105_0 := hoku105
   refine Dr.quiet 9 [(29, (.pointer (some ⟨adB Ap0_2, adO Ap0_2 + (p0.tool).toNat * 1, none⟩)))] (by kernel_rfl) rfl rfl (by kernel_rfl) ?_ rfl rfl ?_
   ·replace hoku105_0 : Sl w.R w.W zH Au105_0 cu105_0 x104 := hoku105_0
    refine Tq.va rfl (fun _ _ h1 h2 => zI el_75 (h1.ev rfl) hp0_2.form (h1.ev rfl) hx1040 hx1041) ?_
    exact Tq.fin (.cons rfl .nil)
   refine Dr.quiet 10 [(30, (.slice Au105_0 (x104).length cu105_0))] (by kernel_rfl) rfl rfl (by kernel_rfl) ?_ rfl rfl ?_
   ·refine Tq.va rfl (fun _ _ h1 h2 => zC ag_66 (h1.ev rfl) (rdR hRu105 hcu105 h2) rfl) ?_
    exact Tq.fin (.cons rfl .nil)
   refine Dr.quiet 11 [(31, (.agg #[(iv p1.X), (iv p1.Y)]))] (by kernel_rfl) rfl rfl (by kernel_rfl) ?_ rfl rfl ?_
   ·refine Tq.va rfl (fun _ _ h1 h2 => zQ (cs := [(iv p1.X), (iv p1.Y)]) ag_43 sz_43 (h1.ev rfl) (zO.take (rdb h2 (vs := [(iv p1.X), (iv p1.Y)]) (k := 2) rfl 0) 2) rfl) ?_
    exact Tq.fin (.cons rfl .nil)
   refine Dr.quiet 12 [(32, (.agg #[(iv p1.X), (iv p1.Y)]))] (by kernel_rfl) rfl rfl (by kernel_rfl) ?_ rfl rfl ?_
   ·refine Tq.va rfl (fun _ _ h1 h2 => zQ (cs := [(iv p1.X), (iv p1.Y)]) ag_43 sz_43 (h1.ev rfl) (zO.take (rdb h2 (vs := [(iv p1.X), (iv p1.Y)]) (k := 2) rfl 0) 2) rfl) ?_
    exact Tq.fin (.cons rfl .nil)
   obtain ⟨y106, hy106, H⟩ := bnd H
   refine Dr.one 13 (by kernel_rfl) ?_
   refine St.callG 13 [3] [emp] (U := (Option Addr × Nat)) (fun u => (.slice u.1 (y106).length u.2)) (fun O W u => SlF u.1 (y106).length u.2) (fun u => [ow u.1 u.2 107 zH y106]) rfl (zK rfl za) (fun _ => rfl) (insS_no rfl) rfl (wn rfl) rfl Tryz.call126 (zF rfl (zF rfl (zF rfl zN))) (fun W hW hp hE => F_plot_swept_ok N x104 Au105_0 cu105_0 (hoku105_0.ext (hW.extS hp)) p1 p1 y106 hy106 hE) ?_
   intro w u le107 hu hsy106
   obtain ⟨Ay106_0, cy106_0⟩ := u
   have gy106_0 := hu
   replace hp0_0 := hp0_0.leR le107
   replace hp0_1 := hp0_1.leR le107
   replace hp0_2 := hp0_2.leR le107
   replace hcu105 := le107.ext.cells hRu105 hcu105
   replace hRu105 := le107.r _ hRu105
   replace hoku105_0 := hoku105_0.leR le107
   replace leB := leB.trans le107
   have hgy106_0 : SlF Ay106_0 (y106).length cy106_0 := gy106_0
   show Dr _ _ _ _ _ _ _ _ _ (uf _ 33 (.slice Ay106_0 (y106).length cy106_0)) (up _ 3 (ow Ay106_0 cy106_0 107 zH y106))
   refine Dr.tail (by kernel_rfl) ?_
   refine Tr.freeze 3 rfl fun w le109 hz108 => ?_
   replace hp0_0 := hp0_0.leR le109
   replace hp0_1 := hp0_1.leR le109
   replace hp0_2 := hp0_2.leR le109
   replace hcu105 := le109.ext.cells hRu105 hcu105
   replace hRu105 := le109.r _ hRu105
   replace hoku105_0 := hoku105_0.leR le109
   replace leB := leB.trans le109
   obtain ⟨y110, hy110, H⟩ := bnd H
   refine Tr.callG [0, 1] [bx bp0 #[(iv p0.p.Unit), (.slice Ap0_0 (p0.p.Tools).length cp0_0), (.slice Ap0_1 (p0.p.Steps).length cp0_1), (.slice Ap0_2 (p0.tools).length cp0_2), (.slice Ap0_3 (p0.image).length cp0_3), (.bool p0.clear), (iv p0.tool), (iv y101.2.1), (iv y101.2.2.1), (.bool y101.2.2.2.1), (iv y101.2.2.2.2), (iv p0.on)] 77, ow Ap0_3 cp0_3 107 zH p0.image] (U := (Option Addr × Nat)) (fun u => (iv y110.1)) (fun O W u => SlF u.1 (y110.2).length u.2) (fun u => [bx bp0 #[(iv p0.p.Unit), (.slice Ap0_0 (p0.p.Tools).length cp0_0), (.slice Ap0_1 (p0.p.Steps).length cp0_1), (.slice Ap0_2 (p0.tools).length cp0_2), (.slice u.1 (y110.2).length u.2), (.bool p0.clear), (iv p0.tool), (iv y101.2.1), (iv y101.2.2.1), (.bool y101.2.2.2.1), (iv y101.2.2.2.2), (iv p0.on)] 77, ow u.1 u.2 107 zH y110.2]) rfl (zK rfl (zK rfl za)) (fun _ => rfl) (wn rfl) rfl Tryz.call125 (zF rfl (zF rfl zN)) (fun W hW hp hE => F_plot_machine__draw_ok N (zo.mk p0.p p0.tools p0.image p0.clear p0.tool (zJ.mk y101.2.1 y101.2.2.1) y101.2.2.2.1 y101.2.2.2.2 p0.on) Ap0_0 cp0_0 (hp0_0.ext (hW.extS hp)) Ap0_1 cp0_1 (hp0_1.ext (hW.extS hp)) Ap0_2 cp0_2 (hp0_2.ext (hW.extS hp)) Ap0_3 cp0_3 bp0 y106 Ay106_0 cy106_0 (hz108.extO (hW.extS hp)) y110 hy110 hE) ?_
   intro w u le111 hu
   obtain ⟨Ay110_0, cy110_0⟩ := u
   have gy110_0 := hu
   replace hp0_0 := hp0_0.leR le111
   replace hp0_1 := hp0_1.leR le111
   replace hp0_2 := hp0_2.leR le111
   replace hcu105 := le111.ext.cells hRu105 hcu105
   replace hRu105 := le111.r _ hRu105
   replace hoku105_0 := hoku105_0.leR le111
   replace hz108 := hz108.le le111
   replace leB := leB.trans le111
   have hgy110_0 : SlF Ay110_0 (y110.2).length cy110_0 := gy110_0 --@phi
   show Tr _ _ (uf _ 34 (iv y110.1)) (up (up _ 1 (ow Ay110_0 cy110_0 107 zH y110.2)) 0 (bx bp0 #[(iv p0.p.Unit), (.slice Ap0_0 (p0.p.Tools).length cp0_0), (.slice Ap0_1 (p0.p.Steps).length cp0_1), (.slice Ap0_2 (p0.tools).length cp0_2), (.slice Ay110_0 (y110.2).length cy110_0), (.bool p0.clear), (iv p0.tool), (iv y101.2.1), (iv y101.2.2.1), (.bool y101.2.2.2.1), (iv y101.2.2.2.2), (iv p0.on)] 77)) _
   refine Tr.asg rfl rfl ?_
   refine Tr.nil (Tr.zA ?_)
   refine Tr.ret ?_
   obtain rfl := Option.some.inj H
   exact Tr.out (m := [(iv y110.1)]) [] (zL rfl zP) (fun W hW => ⟨w, (Ay110_0, cy110_0), leB, rfl, hgy110_0, hW.pick (ks := [0, 1]) (by decide) (zK rfl (zK rfl za))⟩)

theorem F_plot_machine__set__f0_11_ok {w : Bs} (p0 : zo) (Ap0_0 : Option Addr) (cp0_0 : Nat) (hp0_0 : Sl w.R w.W zh Ap0_0 cp0_0 p0.p.Tools) (Ap0_1 : Option Addr) (cp0_1 : Nat) (hp0_1 : Sl w.R w.W zG Ap0_1 cp0_1 p0.p.Steps) (Ap0_2 : Option Addr) (cp0_2 : Nat) (hp0_2 : Sl w.R w.W zAA Ap0_2 cp0_2 p0.tools) (Ap0_3 : Option Addr) (cp0_3 : Nat) (hp0_3 : Sl w.R w.W zH Ap0_3 cp0_3 p0.image) (bp0 : Nat) (p1 : zJ) (r : (Int × Int × Int × Bool × Int)) (H : F_plot_machine__set__f0_11 p0 p1 = some r) (hE : HF w w.W (LEn [bx bp0 #[(iv p0.p.Unit), (.slice Ap0_0 (p0.p.Tools).length cp0_0), (.slice Ap0_1 (p0.p.Steps).length cp0_1), (.slice Ap0_2 (p0.tools).length cp0_2), (.slice Ap0_3 (p0.image).length cp0_3), (.bool p0.clear), (iv p0.tool), (iv p0.place.X), (iv p0.place.Y), (.bool p0.placed), (iv p0.off), (iv p0.on)] 77])) : Calls Tryz.prog 104 [(.pointer (some ⟨bp0, 0, none⟩)), (.agg #[(iv p1.X), (iv p1.Y)]), (.pointer (some ⟨bp0, 11, none⟩))].toArray w.W fun e W' => ∃ u : Unit, e = .returned (iv r.1) ∧ (True) ∧ HF w W' (LEn [bx bp0 #[(iv p0.p.Unit), (.slice Ap0_0 (p0.p.Tools).length cp0_0), (.slice Ap0_1 (p0.p.Steps).length cp0_1), (.slice Ap0_2 (p0.tools).length cp0_2), (.slice Ap0_3 (p0.image).length cp0_3), (.bool p0.clear), (iv p0.tool), (iv r.2.1), (iv r.2.2.1), (.bool r.2.2.2.1), (iv p0.off), (iv r.2.2.2.2)] 77]) := by
 unfold F_plot_machine__set__f0_11 at H
 have leB := Bs.Le.refl w
 refine Tr.enter (n := 32) Tryz.func104 rfl rfl rfl hE ?_
 refine Tr.sr ?_
 refine Tr.box 1 (cs := [(iv p1.X), (iv p1.Y)]) (wn rfl) rfl rfl rfl fun b100 => ?_
 refine Tr.asg rfl rfl ?_
 refine Tr.nil (Tr.zA ?_)
 refine Tr.seq ?_
 refine Tr.sr ?_
 refine Tr.va rfl (fun _ _ h1 h2 => zQ (cs := [(iv p1.X), (iv p1.Y)]) ag_43 sz_43 (h1.ev rfl) (zO.take (rdb h2 (vs := [(iv p1.X), (iv p1.Y)]) (k := 1) rfl 0) 2) rfl) ?_
 obtain ⟨y101, hy101, H⟩ := bnd H
 refine Tr.call0 (r := (.bool y101)) (wn rfl) rfl Tryz.call123 (zF rfl zN) (fun W hW => F_shape_IsPoint_ok p1 y101 hy101 (HF.start _)) ?_
 refine Tr.va rfl (fun _ _ h1 h2 => run_not (h1.ev rfl)) ?_
 refine Tr.nil (Tr.zA ?_)
 refine Tr.cond rfl H (fun H => ?_) (fun H => ?_)
 ·refine Tr.sr ?_
  refine Tr.asg rfl rfl ?_
  refine Tr.nil (Tr.zA ?_)
  refine Tr.ret (Tr.zU ?_)
  obtain rfl := Option.some.inj H
  exact Tr.out (m := [(iv 1)]) [] (zL rfl zP) (fun W hW => ⟨(), rfl, trivial, HF.lowE leB (hW.pick (ks := [0]) (by decide) (zK rfl za)) ⟨bx_any _ _ _, trivial⟩⟩)
 ·refine Tr.skip (Tr.zA ?_)
  have leJ104 := Bs.Le.refl w
  refine Tr.cutJ (σ := Int) (fun w s => F_plot_machine__set__f0_11_J1 p1 s = some r) (fun s => [(0, (.pointer (some ⟨bp0, 0, none⟩))), (4, (.pointer (some ⟨b100, 0, none⟩)))]) (fun s => [(0, bx bp0 #[(iv p0.p.Unit), (.slice Ap0_0 (p0.p.Tools).length cp0_0), (.slice Ap0_1 (p0.p.Steps).length cp0_1), (.slice Ap0_2 (p0.tools).length cp0_2), (.slice Ap0_3 (p0.image).length cp0_3), (.bool p0.clear), (iv p0.tool), (iv p0.place.X), (iv p0.place.Y), (.bool p0.placed), (iv p0.off), (iv s)] 77), (1, bx b100 #[(iv p1.X), (iv p1.Y)] 43)]) ?_ ?_
  ·refine Tr.sr ?_
   refine Tr.mv rfl rfl ?_
   refine Tr.va rfl (fun _ _ h1 h2 => zg (h1.ev rfl)) ?_
   refine Tr.va rfl (fun _ _ h1 h2 => zB fo_77_6 (h1.ev rfl)) ?_
   refine Tr.va rfl (fun _ _ h1 h2 => zC ag_4 (h1.ev rfl) (rdb h2 (vs := [(iv p0.p.Unit), (.slice Ap0_0 (p0.p.Tools).length cp0_0), (.slice Ap0_1 (p0.p.Steps).length cp0_1), (.slice Ap0_2 (p0.tools).length cp0_2), (.slice Ap0_3 (p0.image).length cp0_3), (.bool p0.clear), (iv p0.tool), (iv p0.place.X), (iv p0.place.Y), (.bool p0.placed), (iv p0.off), (iv p0.on)]) (k := 0) rfl 9) rfl) ?_
   refine Tr.nil (Tr.zA ?_)
   refine Tr.cond rfl H (fun H => ?_) (fun H => ?_)
   ·refine Tr.drawTail 9 (by kernel_rfl) (by kernel_rfl) ?_
    refine Tq.mv rfl rfl ?_
    refine Tq.va rfl (fun _ _ h1 h2 => zg (h1.ev rfl)) ?_
    refine Tq.va rfl (fun _ _ h1 h2 => zC ag_3 (h1.ev rfl) (rdb h2 (vs := [(iv p0.p.Unit), (.slice Ap0_0 (p0.p.Tools).length cp0_0), (.slice Ap0_1 (p0.p.Steps).length cp0_1), (.slice Ap0_2 (p0.tools).length cp0_2), (.slice Ap0_3 (p0.image).length cp0_3), (.bool p0.clear), (iv p0.tool), (iv p0.place.X), (iv p0.place.Y), (.bool p0.placed), (iv p0.off), (iv p0.on)]) (k := 0) rfl 11) rfl) ?_
    refine Tq.mv rfl rfl ?_
    refine Tq.va rfl (fun _ _ h1 h2 => zg (h1.ev rfl)) ?_
    refine Tq.va rfl (fun _ _ h1 h2 => zB fo_77_5 (h1.ev rfl)) ?_
    refine Tq.va rfl (fun _ _ h1 h2 => zQ (cs := [(iv p0.place.X), (iv p0.place.Y)]) ag_43 sz_43 (h1.ev rfl) (zO.take (rdb h2 (vs := [(iv p0.p.Unit), (.slice Ap0_0 (p0.p.Tools).length cp0_0), (.slice Ap0_1 (p0.p.Steps).length cp0_1), (.slice Ap0_2 (p0.tools).length cp0_2), (.slice Ap0_3 (p0.image).length cp0_3), (.bool p0.clear), (iv p0.tool), (iv p0.place.X), (iv p0.place.Y), (.bool p0.placed), (iv p0.off), (iv p0.on)]) (k := 0) rfl 7) 2) rfl) ?_
    refine Tq.va rfl (fun _ _ h1 h2 => zQ (cs := [(iv p1.X), (iv p1.Y)]) ag_43 sz_43 (h1.ev rfl) (zO.take (rdb h2 (vs := [(iv p1.X), (iv p1.Y)]) (k := 1) rfl 0) 2) rfl) ?_
    obtain ⟨y106, hy106, H⟩ := bnd H
    refine Tq.call0 (r := (iv y106)) (wn rfl) rfl Tryz.call124 (zF rfl (zF rfl zN)) (fun W hW => F_plot_far_ok p0.place p1 y106 hy106 (HF.start _)) ?_
    refine Tq.nil ?_
    refine Tr.va rfl (fun _ _ h1 h2 => zm (h1.ev rfl) (h1.ev rfl)) ?_
    refine Tr.va rfl (fun _ _ h1 h2 => zg (h1.ev rfl)) ?_
    refine Tr.store 0 (cs := [(iv (w64 (p0.on + y106)))]) [(iv p0.p.Unit), (.slice Ap0_0 (p0.p.Tools).length cp0_0), (.slice Ap0_1 (p0.p.Steps).length cp0_1), (.slice Ap0_2 (p0.tools).length cp0_2), (.slice Ap0_3 (p0.image).length cp0_3), (.bool p0.clear), (iv p0.tool), (iv p0.place.X), (iv p0.place.Y), (.bool p0.placed), (iv p0.off), (iv (w64 (p0.on + y106)))] (wn rfl) rfl rfl rfl rfl sz_3 rfl rfl rfl ?_
    refine Tr.nil ?_
    exact Tr.zW leJ104 (w64 (p0.on + y106)) H (.cons rfl (.cons rfl .nil)) (.cons rfl (.cons rfl .nil))
   ·refine Tr.skip ?_
    exact Tr.zW leJ104 p0.on H (.cons rfl (.cons rfl .nil)) (.cons rfl (.cons rfl .nil))
  ·intro w x103 hlJ105 hs
   have H := hs
   replace H : F_plot_machine__set__f0_11_J1 p1 x103 = some r := H
   replace hp0_0 := hp0_0.leR hlJ105
   replace hp0_1 := hp0_1.leR hlJ105
   replace hp0_2 := hp0_2.leR hlJ105
   replace hp0_3 := hp0_3.leR hlJ105
   replace leB := leB.trans hlJ105
   unfold F_plot_machine__set__f0_11_J1 at H
   show Tr _ _ (LF [(0, (.pointer (some ⟨bp0, 0, none⟩))), (4, (.pointer (some ⟨b100, 0, none⟩)))]) (LE [(0, bx bp0 #[(iv p0.p.Unit), (.slice Ap0_0 (p0.p.Tools).length cp0_0), (.slice Ap0_1 (p0.p.Steps).length cp0_1), (.slice Ap0_2 (p0.tools).length cp0_2), (.slice Ap0_3 (p0.image).length cp0_3), (.bool p0.clear), (iv p0.tool), (iv p0.place.X), (iv p0.place.Y), (.bool p0.placed), (iv p0.off), (iv x103)] 77), (1, bx b100 #[(iv p1.X), (iv p1.Y)] 43)]) _
   refine Tr.sr ?_
   refine Tr.mv rfl rfl ?_
   refine Tr.mv rfl rfl ?_
   refine Tr.va rfl (fun _ _ h1 h2 => zQ (cs := [(iv p1.X), (iv p1.Y)]) ag_43 sz_43 (h1.ev rfl) (zO.take (rdb h2 (vs := [(iv p1.X), (iv p1.Y)]) (k := 1) rfl 0) 2) rfl) ?_
   refine Tr.va rfl (fun _ _ h1 h2 => zg (h1.ev rfl)) ?_
   refine Tr.va rfl (fun _ _ h1 h2 => zB fo_77_5 (h1.ev rfl)) ?_
   refine Tr.store 0 (cs := [(iv p1.X), (iv p1.Y)]) [(iv p0.p.Unit), (.slice Ap0_0 (p0.p.Tools).length cp0_0), (.slice Ap0_1 (p0.p.Steps).length cp0_1), (.slice Ap0_2 (p0.tools).length cp0_2), (.slice Ap0_3 (p0.image).length cp0_3), (.bool p0.clear), (iv p0.tool), (iv p1.X), (iv p1.Y), (.bool p0.placed), (iv p0.off), (iv x103)] (wn rfl) rfl rfl rfl rfl sz_43 rfl rfl rfl ?_
   refine Tr.va rfl (fun _ _ h1 h2 => zg (h1.ev rfl)) ?_
   refine Tr.va rfl (fun _ _ h1 h2 => zB fo_77_6 (h1.ev rfl)) ?_
   refine Tr.store 0 (cs := [(.bool true)]) [(iv p0.p.Unit), (.slice Ap0_0 (p0.p.Tools).length cp0_0), (.slice Ap0_1 (p0.p.Steps).length cp0_1), (.slice Ap0_2 (p0.tools).length cp0_2), (.slice Ap0_3 (p0.image).length cp0_3), (.bool p0.clear), (iv p0.tool), (iv p1.X), (iv p1.Y), (.bool true), (iv p0.off), (iv x103)] (wn rfl) rfl rfl rfl rfl sz_4 rfl rfl rfl ?_
   refine Tr.nil (Tr.zA ?_)
   refine Tr.sr ?_
   refine Tr.asg rfl rfl ?_
   refine Tr.nil (Tr.zA ?_)
   refine Tr.ret ?_
   obtain rfl := Option.some.inj H
   exact Tr.out (m := [(iv 0)]) [] (zL rfl zP) (fun W hW => ⟨(), rfl, trivial, HF.lowE leB (hW.pick (ks := [0]) (by decide) (zK rfl za)) ⟨bx_any _ _ _, trivial⟩⟩)

theorem F_plot_machine__line_ok (N : Nat) {w : Bs} (p0 : zo) (Ap0_0 : Option Addr) (cp0_0 : Nat) (hp0_0 : Sl w.R w.W zh Ap0_0 cp0_0 p0.p.Tools) (Ap0_1 : Option Addr) (cp0_1 : Nat) (hp0_1 : Sl w.R w.W zG Ap0_1 cp0_1 p0.p.Steps) (Ap0_2 : Option Addr) (cp0_2 : Nat) (hp0_2 : Sl w.R w.W zAA Ap0_2 cp0_2 p0.tools) (Ap0_3 : Option Addr) (cp0_3 : Nat) (bp0 : Nat) (p1 : zJ) (r : (Int × Int × Int × Bool × Int × (List zS))) (H : F_plot_machine__line N p0 p1 = some r) (hE : HF w w.W (LEn [bx bp0 #[(iv p0.p.Unit), (.slice Ap0_0 (p0.p.Tools).length cp0_0), (.slice Ap0_1 (p0.p.Steps).length cp0_1), (.slice Ap0_2 (p0.tools).length cp0_2), (.slice Ap0_3 (p0.image).length cp0_3), (.bool p0.clear), (iv p0.tool), (iv p0.place.X), (iv p0.place.Y), (.bool p0.placed), (iv p0.off), (iv p0.on)] 77, ow Ap0_3 cp0_3 107 zH p0.image])) : Calls Tryz.prog 106 [(.pointer (some ⟨bp0, 0, none⟩)), (.agg #[(iv p1.X), (iv p1.Y)])].toArray w.W fun e W' => ∃ (w' : Bs) (u : (Option Addr × Nat)), w.Le w' ∧ e = .returned (iv r.1) ∧ (SlF u.1 (r.2.2.2.2.2).length u.2) ∧ HF w' W' (LEn [bx bp0 #[(iv p0.p.Unit), (.slice Ap0_0 (p0.p.Tools).length cp0_0), (.slice Ap0_1 (p0.p.Steps).length cp0_1), (.slice Ap0_2 (p0.tools).length cp0_2), (.slice u.1 (r.2.2.2.2.2).length u.2), (.bool p0.clear), (iv p0.tool), (iv r.2.1), (iv r.2.2.1), (.bool r.2.2.2.1), (iv p0.off), (iv r.2.2.2.2.1)] 77, ow u.1 u.2 107 zH r.2.2.2.2.2]) := by
 unfold F_plot_machine__line at H
 have hfhp0_3 := (hE.sl (k := 1) rfl).form
 have leB := Bs.Le.refl w
 refine Tr.enter (n := 65) Tryz.func106 rfl rfl rfl hE ?_
 refine Tr.sr ?_
 refine Tr.box 2 (cs := [(iv p1.X), (iv p1.Y)]) (wn rfl) rfl rfl rfl fun b100 => ?_
 refine Tr.asg rfl rfl ?_
 refine Tr.nil (Tr.zA ?_)
 refine Tr.seq ?_
 refine Tr.sr ?_
 refine Tr.mv rfl rfl ?_
 refine Tr.va rfl (fun _ _ h1 h2 => zg (h1.ev rfl)) ?_
 refine Tr.va rfl (fun _ _ h1 h2 => zB fo_77_4 (h1.ev rfl)) ?_
 refine Tr.va rfl (fun _ _ h1 h2 => zC ag_3 (h1.ev rfl) (rdb h2 (vs := [(iv p0.p.Unit), (.slice Ap0_0 (p0.p.Tools).length cp0_0), (.slice Ap0_1 (p0.p.Steps).length cp0_1), (.slice Ap0_2 (p0.tools).length cp0_2), (.slice Ap0_3 (p0.image).length cp0_3), (.bool p0.clear), (iv p0.tool), (iv p0.place.X), (iv p0.place.Y), (.bool p0.placed), (iv p0.off), (iv p0.on)]) (k := 0) rfl 6) rfl) ?_
 refine Tr.va rfl (fun _ _ h1 h2 => zn (h1.ev rfl) (h1.ev rfl)) ?_
 refine Tr.mv rfl rfl ?_
 refine Tr.mid0 6 [(0, (.pointer (some ⟨bp0, 0, none⟩))), (3, (.pointer (some ⟨b100, 0, none⟩))), (18, (.bool ((decide (p0.tool < 0)) || (!p0.placed))))] [(0, bx bp0 #[(iv p0.p.Unit), (.slice Ap0_0 (p0.p.Tools).length cp0_0), (.slice Ap0_1 (p0.p.Steps).length cp0_1), (.slice Ap0_2 (p0.tools).length cp0_2), (.slice Ap0_3 (p0.image).length cp0_3), (.bool p0.clear), (iv p0.tool), (iv p0.place.X), (iv p0.place.Y), (.bool p0.placed), (iv p0.off), (iv p0.on)] 77), (1, ow Ap0_3 cp0_3 107 zH p0.image), (2, bx b100 #[(iv p1.X), (iv p1.Y)] 43)] ?_ ?_
 ·cases hg112 : (decide (p0.tool < 0))
  ·refine Tr.val (wg rfl rfl rfl) rfl (fun _ _ h1 h2 => run_move (h1.ev rfl)) ?_
   refine Tr.val (wg rfl rfl rfl) rfl (fun _ _ h1 h2 => zg (h1.ev rfl)) ?_
   refine Tr.val (wg rfl rfl rfl) rfl (fun _ _ h1 h2 => zB fo_77_6 (h1.ev rfl)) ?_
   refine Tr.val (wg rfl rfl rfl) rfl (fun _ _ h1 h2 => zC ag_4 (h1.ev rfl) (rdb h2 (vs := [(iv p0.p.Unit), (.slice Ap0_0 (p0.p.Tools).length cp0_0), (.slice Ap0_1 (p0.p.Steps).length cp0_1), (.slice Ap0_2 (p0.tools).length cp0_2), (.slice Ap0_3 (p0.image).length cp0_3), (.bool p0.clear), (iv p0.tool), (iv p0.place.X), (iv p0.place.Y), (.bool p0.placed), (iv p0.off), (iv p0.on)]) (k := 0) rfl 9) rfl) ?_
   refine Tr.val (wg rfl rfl rfl) rfl (fun _ _ h1 h2 => run_not (h1.ev rfl)) ?_
   refine Tr.va rfl (fun _ _ h1 h2 => ze (h1.ev rfl) (h1.ev rfl)) ?_
   exact Tr.nil (Tr.fin0 (.cons rfl (.cons rfl (.cons rfl .nil))) (.cons rfl (.cons rfl (.cons rfl .nil))))
  ·refine Tr.pass rfl rfl rfl rfl rfl (by decide) ?_
   refine Tr.pass rfl rfl rfl rfl rfl (by decide) ?_
   refine Tr.pass rfl rfl rfl rfl rfl (by decide) ?_
   refine Tr.pass rfl rfl rfl rfl rfl (by decide) ?_
   refine Tr.pass rfl rfl rfl rfl rfl (by decide) ?_
   refine Tr.va rfl (fun _ _ h1 h2 => zb (h1.ev rfl) (h1.ev rfl)) ?_
   exact Tr.nil (Tr.fin0 (.cons rfl (.cons rfl (.cons rfl .nil))) (.cons rfl (.cons rfl (.cons rfl .nil))))
 ·show Tr _ _ (LF [(0, (.pointer (some ⟨bp0, 0, none⟩))), (3, (.pointer (some ⟨b100, 0, none⟩))), (18, (.bool ((decide (p0.tool < 0)) || (!p0.placed))))]) (LE [(0, bx bp0 #[(iv p0.p.Unit), (.slice Ap0_0 (p0.p.Tools).length cp0_0), (.slice Ap0_1 (p0.p.Steps).length cp0_1), (.slice Ap0_2 (p0.tools).length cp0_2), (.slice Ap0_3 (p0.image).length cp0_3), (.bool p0.clear), (iv p0.tool), (iv p0.place.X), (iv p0.place.Y), (.bool p0.placed), (iv p0.off), (iv p0.on)] 77), (1, ow Ap0_3 cp0_3 107 zH p0.image), (2, bx b100 #[(iv p1.X), (iv p1.Y)] 43)]) _
  refine Tr.nil (Tr.zA ?_)
  refine Tr.cond rfl H (fun H => ?_) (fun H => ?_)
  ·refine Tr.sr ?_
   refine Tr.asg rfl rfl ?_
   refine Tr.nil (Tr.zA ?_)
   refine Tr.ret (Tr.zU ?_)
   obtain rfl := Option.some.inj H
   exact Tr.out (m := [(iv 11)]) [] (zL rfl zP) (fun W hW => ⟨w, (Ap0_3, cp0_3), leB, rfl, hfhp0_3, hW.pick (ks := [0, 1]) (by decide) (zK rfl (zK rfl za))⟩)
  ·refine Tr.skip (Tr.zA ?_)
   refine Tr.seq ?_
   refine Tr.seq ?_
   refine Tr.draw (by kernel_rfl) (by kernel_rfl) ?_
   refine Tq.va rfl (fun _ _ h1 h2 => zB fo_43_0 (h1.ev rfl)) ?_
   refine Tq.va rfl (fun _ _ h1 h2 => zC ag_3 (h1.ev rfl) (rdb h2 (vs := [(iv p1.X), (iv p1.Y)]) (k := 2) rfl 0) rfl) ?_
   refine Tq.mv rfl rfl ?_
   refine Tq.va rfl (fun _ _ h1 h2 => zg (h1.ev rfl)) ?_
   refine Tq.va rfl (fun _ _ h1 h2 => zB fo_77_5 (h1.ev rfl)) ?_
   refine Tq.va rfl (fun _ _ h1 h2 => zB fo_43_0 (h1.ev rfl)) ?_
   refine Tq.va rfl (fun _ _ h1 h2 => zC ag_3 (h1.ev rfl) (rdb h2 (vs := [(iv p0.p.Unit), (.slice Ap0_0 (p0.p.Tools).length cp0_0), (.slice Ap0_1 (p0.p.Steps).length cp0_1), (.slice Ap0_2 (p0.tools).length cp0_2), (.slice Ap0_3 (p0.image).length cp0_3), (.bool p0.clear), (iv p0.tool), (iv p0.place.X), (iv p0.place.Y), (.bool p0.placed), (iv p0.off), (iv p0.on)]) (k := 0) rfl 7) rfl) ?_
   refine Tq.va rfl (fun _ _ h1 h2 => run_neq (h1.ev rfl) (h1.ev rfl)) ?_
   refine Tq.mv rfl rfl ?_
   refine Tq.mid 9 [(0, (.pointer (some ⟨bp0, 0, none⟩))), (3, (.pointer (some ⟨b100, 0, none⟩))), (36, (.bool ((p1.X != p0.place.X) && (p1.Y != p0.place.Y))))] ?_ ?_
   ·cases hg112 : (p1.X != p0.place.X)
    ·refine Tq.pass rfl rfl rfl rfl rfl (by decide) ?_
     refine Tq.pass rfl rfl rfl rfl rfl (by decide) ?_
     refine Tq.pass rfl rfl rfl rfl rfl (by decide) ?_
     refine Tq.pass rfl rfl rfl rfl rfl (by decide) ?_
     refine Tq.pass rfl rfl rfl rfl rfl (by decide) ?_
     refine Tq.pass rfl rfl rfl rfl rfl (by decide) ?_
     refine Tq.pass rfl rfl rfl rfl rfl (by decide) ?_
     refine Tq.pass rfl rfl rfl rfl rfl (by decide) ?_
     refine Tq.va rfl (fun _ _ h1 h2 => ze (h1.ev rfl) (h1.ev rfl)) ?_
     exact Tq.fin (.cons rfl (.cons rfl (.cons rfl .nil)))
    ·refine Tq.val (wg rfl rfl rfl) rfl (fun _ _ h1 h2 => zB fo_43_1 (h1.ev rfl)) ?_
     refine Tq.val (wg rfl rfl rfl) rfl (fun _ _ h1 h2 => zC ag_3 (h1.ev rfl) (rdb h2 (vs := [(iv p1.X), (iv p1.Y)]) (k := 2) rfl 1) rfl) ?_
     refine Tq.val (wg rfl rfl rfl) rfl (fun _ _ h1 h2 => run_move (h1.ev rfl)) ?_
     refine Tq.val (wg rfl rfl rfl) rfl (fun _ _ h1 h2 => zg (h1.ev rfl)) ?_
     refine Tq.val (wg rfl rfl rfl) rfl (fun _ _ h1 h2 => zB fo_77_5 (h1.ev rfl)) ?_
     refine Tq.val (wg rfl rfl rfl) rfl (fun _ _ h1 h2 => zB fo_43_1 (h1.ev rfl)) ?_
     refine Tq.val (wg rfl rfl rfl) rfl (fun _ _ h1 h2 => zC ag_3 (h1.ev rfl) (rdb h2 (vs := [(iv p0.p.Unit), (.slice Ap0_0 (p0.p.Tools).length cp0_0), (.slice Ap0_1 (p0.p.Steps).length cp0_1), (.slice Ap0_2 (p0.tools).length cp0_2), (.slice Ap0_3 (p0.image).length cp0_3), (.bool p0.clear), (iv p0.tool), (iv p0.place.X), (iv p0.place.Y), (.bool p0.placed), (iv p0.off), (iv p0.on)]) (k := 0) rfl 8) rfl) ?_
     refine Tq.val (wg rfl rfl rfl) rfl (fun _ _ h1 h2 => run_neq (h1.ev rfl) (h1.ev rfl)) ?_
     refine Tq.va rfl (fun _ _ h1 h2 => zb (h1.ev rfl) (h1.ev rfl)) ?_
     exact Tq.fin (.cons rfl (.cons rfl (.cons rfl .nil)))
   ·refine Tq.nil (Tr.zA ?_)
    refine Tr.cond rfl H (fun H => ?_) (fun H => ?_)
    ·refine Tr.sr ?_
     refine Tr.asg rfl rfl ?_
     refine Tr.nil (Tr.zA ?_)
     refine Tr.ret (Tr.zU ?_)
     obtain rfl := Option.some.inj H
     exact Tr.out (m := [(iv 3)]) [] (zL rfl zP) (fun W hW => ⟨w, (Ap0_3, cp0_3), leB, rfl, hfhp0_3, hW.pick (ks := [0, 1]) (by decide) (zK rfl (zK rfl za))⟩)
    ·refine Tr.skip (Tr.zA ?_)
     refine Tr.sr ?_
     refine Tr.mv rfl rfl ?_
     refine Tr.va rfl (fun _ _ h1 h2 => zg (h1.ev rfl)) ?_
     refine Tr.va rfl (fun _ _ h1 h2 => zB fo_77_5 (h1.ev rfl)) ?_
     refine Tr.va rfl (fun _ _ h1 h2 => zQ (cs := [(iv p0.place.X), (iv p0.place.Y)]) ag_43 sz_43 (h1.ev rfl) (zO.take (rdb h2 (vs := [(iv p0.p.Unit), (.slice Ap0_0 (p0.p.Tools).length cp0_0), (.slice Ap0_1 (p0.p.Steps).length cp0_1), (.slice Ap0_2 (p0.tools).length cp0_2), (.slice Ap0_3 (p0.image).length cp0_3), (.bool p0.clear), (iv p0.tool), (iv p0.place.X), (iv p0.place.Y), (.bool p0.placed), (iv p0.off), (iv p0.on)]) (k := 0) rfl 7) 2) rfl) ?_
     refine Tr.alloc 3 (wn rfl) rfl ze_43 fun b101 => ?_
     refine Tr.store 3 (cs := [(iv p0.place.X), (iv p0.place.Y)]) [(iv p0.place.X), (iv p0.place.Y)] (wn rfl) rfl rfl rfl rfl sz_43 rfl rfl rfl ?_
     refine Tr.nil (Tr.zA ?_)
     refine Tr.seq ?_
     refine Tr.seq ?_
     refine Tr.drawTail 5 (by kernel_rfl) (by kernel_rfl) ?_
     refine Tq.mv rfl rfl ?_
     refine Tq.va rfl (fun _ _ h1 h2 => zQ (cs := [(iv p1.X), (iv p1.Y)]) ag_43 sz_43 (h1.ev rfl) (zO.take (rdb h2 (vs := [(iv p1.X), (iv p1.Y)]) (k := 2) rfl 0) 2) rfl) ?_
     refine Tq.mv rfl rfl ?_
     refine Tq.va rfl (fun _ _ h1 h2 => zg (h1.ev rfl)) ?_
     refine Tq.va rfl (fun _ _ h1 h2 => zB fo_77_8 (h1.ev rfl)) ?_
     refine Tq.nil ?_
     obtain ⟨y102, hy102, H⟩ := bnd H
     refine Tr.callM [0] [bx bp0 #[(iv p0.p.Unit), (.slice Ap0_0 (p0.p.Tools).length cp0_0), (.slice Ap0_1 (p0.p.Steps).length cp0_1), (.slice Ap0_2 (p0.tools).length cp0_2), (.slice Ap0_3 (p0.image).length cp0_3), (.bool p0.clear), (iv p0.tool), (iv p0.place.X), (iv p0.place.Y), (.bool p0.placed), (iv p0.off), (iv p0.on)] 77] (U := Unit) (fun u => (iv y102.1)) (fun u => True) (fun u => [bx bp0 #[(iv p0.p.Unit), (.slice Ap0_0 (p0.p.Tools).length cp0_0), (.slice Ap0_1 (p0.p.Steps).length cp0_1), (.slice Ap0_2 (p0.tools).length cp0_2), (.slice Ap0_3 (p0.image).length cp0_3), (.bool p0.clear), (iv p0.tool), (iv y102.2.1), (iv y102.2.2.1), (.bool y102.2.2.2.1), (iv p0.off), (iv y102.2.2.2.2)] 77]) rfl (zK rfl za) (fun _ => rfl) (wn rfl) rfl Tryz.call104 (zF rfl (zF rfl (zF rfl zN))) (fun W hW hp hE => F_plot_machine__set__f0_11_ok p0 Ap0_0 cp0_0 (hp0_0.ext (hW.extS hp)) Ap0_1 cp0_1 (hp0_1.ext (hW.extS hp)) Ap0_2 cp0_2 (hp0_2.ext (hW.extS hp)) Ap0_3 cp0_3 (hW.slS (k := 1) rfl hp rfl) bp0 p1 y102 hy102 hE) ?_
     intro u hu
     show Tr _ _ (uf _ 46 (iv y102.1)) (up _ 0 (bx bp0 #[(iv p0.p.Unit), (.slice Ap0_0 (p0.p.Tools).length cp0_0), (.slice Ap0_1 (p0.p.Steps).length cp0_1), (.slice Ap0_2 (p0.tools).length cp0_2), (.slice Ap0_3 (p0.image).length cp0_3), (.bool p0.clear), (iv p0.tool), (iv y102.2.1), (iv y102.2.2.1), (.bool y102.2.2.2.1), (iv p0.off), (iv y102.2.2.2.2)] 77)) _
     refine Tr.asg rfl rfl ?_
     refine Tr.nil (Tr.zA ?_)
     refine Tr.sr ?_
     refine Tr.mv rfl rfl ?_
     refine Tr.va rfl (fun _ _ h1 h2 => run_neq (h1.ev rfl) (h1.ev rfl)) ?_
     refine Tr.nil (Tr.zA ?_)
     refine Tr.cond rfl H (fun H => ?_) (fun H => ?_)
     ·refine Tr.sr ?_
      refine Tr.mv rfl rfl ?_
      refine Tr.asg rfl rfl ?_
      refine Tr.nil (Tr.zA ?_)
      refine Tr.ret (Tr.zU ?_)
      obtain rfl := Option.some.inj H
      exact Tr.out (m := [(iv y102.1)]) [] (zL rfl zP) (fun W hW => ⟨w, (Ap0_3, cp0_3), leB, rfl, hfhp0_3, hW.pick (ks := [0, 1]) (by decide) (zK rfl (zK rfl za))⟩)
     ·refine Tr.skip (Tr.zA ?_)
      refine Tr.seq ?_
      refine Tr.drawC 14 [] [] (by kernel_rfl) (by kernel_rfl) fun sz104 hlosz104 hEsz104 => ?_
      refine Dr.quiet 0 [(50, (.pointer (some ⟨bp0, 0, none⟩)))] (by kernel_rfl) rfl rfl (by kernel_rfl) ?_ rfl rfl ?_
      ·refine Tq.mv rfl rfl ?_
       exact Tq.fin (.cons rfl .nil)
      refine Dr.quiet 1 [(51, (.pointer (some ⟨bp0, 0, none⟩)))] (by kernel_rfl) rfl rfl (by kernel_rfl) ?_ rfl rfl ?_
      ·refine Tq.mv rfl rfl ?_
       exact Tq.fin (.cons rfl .nil)
      refine Dr.quiet 2 [(52, (.pointer (some ⟨bp0, 0, none⟩)))] (by kernel_rfl) rfl rfl (by kernel_rfl) ?_ rfl rfl ?_
      ·refine Tq.va rfl (fun _ _ h1 h2 => zg (h1.ev rfl)) ?_
       exact Tq.fin (.cons rfl .nil)
      refine Dr.quiet 3 [(53, (.pointer (some ⟨bp0, 3, none⟩)))] (by kernel_rfl) rfl rfl (by kernel_rfl) ?_ rfl rfl ?_
      ·refine Tq.va rfl (fun _ _ h1 h2 => zB fo_77_1 (h1.ev rfl)) ?_
       exact Tq.fin (.cons rfl .nil)
      refine Dr.quiet 4 [(54, (.slice Ap0_2 (p0.tools).length cp0_2))] (by kernel_rfl) rfl rfl (by kernel_rfl) ?_ rfl rfl ?_
      ·refine Tq.va rfl (fun _ _ h1 h2 => zC ag_75 (h1.ev rfl) (rdb h2 (vs := [(iv p0.p.Unit), (.slice Ap0_0 (p0.p.Tools).length cp0_0), (.slice Ap0_1 (p0.p.Steps).length cp0_1), (.slice Ap0_2 (p0.tools).length cp0_2), (.slice Ap0_3 (p0.image).length cp0_3), (.bool p0.clear), (iv p0.tool), (iv y102.2.1), (iv y102.2.2.1), (.bool y102.2.2.2.1), (iv p0.off), (iv y102.2.2.2.2)]) (k := 0) rfl 3) rfl) ?_
       exact Tq.fin (.cons rfl .nil)
      refine Dr.quiet 5 [(55, (.pointer (some ⟨bp0, 0, none⟩)))] (by kernel_rfl) rfl rfl (by kernel_rfl) ?_ rfl rfl ?_
      ·refine Tq.mv rfl rfl ?_
       exact Tq.fin (.cons rfl .nil)
      refine Dr.quiet 6 [(56, (.pointer (some ⟨bp0, 0, none⟩)))] (by kernel_rfl) rfl rfl (by kernel_rfl) ?_ rfl rfl ?_
      ·refine Tq.va rfl (fun _ _ h1 h2 => zg (h1.ev rfl)) ?_
       exact Tq.fin (.cons rfl .nil)
      refine Dr.quiet 7 [(57, (.pointer (some ⟨bp0, 6, none⟩)))] (by kernel_rfl) rfl rfl (by kernel_rfl) ?_ rfl rfl ?_
      ·refine Tq.va rfl (fun _ _ h1 h2 => zB fo_77_4 (h1.ev rfl)) ?_
       exact Tq.fin (.cons rfl .nil)
      refine Dr.quiet 8 [(58, (iv p0.tool))] (by kernel_rfl) rfl rfl (by kernel_rfl) ?_ rfl rfl ?_
      ·refine Tq.va rfl (fun _ _ h1 h2 => zC ag_3 (h1.ev rfl) (rdb h2 (vs := [(iv p0.p.Unit), (.slice Ap0_0 (p0.p.Tools).length cp0_0), (.slice Ap0_1 (p0.p.Steps).length cp0_1), (.slice Ap0_2 (p0.tools).length cp0_2), (.slice Ap0_3 (p0.image).length cp0_3), (.bool p0.clear), (iv p0.tool), (iv y102.2.1), (iv y102.2.2.1), (.bool y102.2.2.2.1), (iv p0.off), (iv y102.2.2.2.2)]) (k := 0) rfl 6) rfl) ?_
       exact Tq.fin (.cons rfl .nil)
      obtain ⟨x105, hx105, H⟩ := bnd H
      obtain ⟨hx1050, hx1051, hx1052⟩ := zq hx105
      obtain ⟨u106, hRu106, hoku106, hcu106⟩ := (hp0_2).el hx1052
      obtain ⟨Au106_0, cu106_0⟩ := u106
      have hoku106_0 := hoku106
      refine Dr.quiet 9 [(59, (.pointer (some ⟨adB Ap0_2, adO Ap0_2 + (p0.tool).toNat * 1, none⟩)))] (by kernel_rfl) rfl rfl (by kernel_rfl) ?_ rfl rfl ?_
      ·replace hoku106_0 : Sl w.R w.W zH Au106_0 cu106_0 x105 := hoku106_0
       refine Tq.va rfl (fun _ _ h1 h2 => zI el_75 (h1.ev rfl) hp0_2.form (h1.ev rfl) hx1050 hx1051) ?_
       exact Tq.fin (.cons rfl .nil)
      refine Dr.quiet 10 [(60, (.slice Au106_0 (x105).length cu106_0))] (by kernel_rfl) rfl rfl (by kernel_rfl) ?_ rfl rfl ?_
      ·refine Tq.va rfl (fun _ _ h1 h2 => zC ag_66 (h1.ev rfl) (rdR hRu106 hcu106 h2) rfl) ?_
       exact Tq.fin (.cons rfl .nil)
      refine Dr.quiet 11 [(61, (.agg #[(iv p0.place.X), (iv p0.place.Y)]))] (by kernel_rfl) rfl rfl (by kernel_rfl) ?_ rfl rfl ?_
      ·refine Tq.va rfl (fun _ _ h1 h2 => zQ (cs := [(iv p0.place.X), (iv p0.place.Y)]) ag_43 sz_43 (h1.ev rfl) (zO.take (rdb h2 (vs := [(iv p0.place.X), (iv p0.place.Y)]) (k := 3) rfl 0) 2) rfl) ?_
       exact Tq.fin (.cons rfl .nil)
      refine Dr.quiet 12 [(62, (.agg #[(iv p1.X), (iv p1.Y)]))] (by kernel_rfl) rfl rfl (by kernel_rfl) ?_ rfl rfl ?_
      ·refine Tq.va rfl (fun _ _ h1 h2 => zQ (cs := [(iv p1.X), (iv p1.Y)]) ag_43 sz_43 (h1.ev rfl) (zO.take (rdb h2 (vs := [(iv p1.X), (iv p1.Y)]) (k := 2) rfl 0) 2) rfl) ?_
       exact Tq.fin (.cons rfl .nil)
      obtain ⟨y107, hy107, H⟩ := bnd H
      refine Dr.one 13 (by kernel_rfl) ?_
      refine St.callG 13 [4] [emp] (U := (Option Addr × Nat)) (fun u => (.slice u.1 (y107).length u.2)) (fun O W u => SlF u.1 (y107).length u.2) (fun u => [ow u.1 u.2 107 zH y107]) rfl (zK rfl za) (fun _ => rfl) (insS_no rfl) rfl (wn rfl) rfl Tryz.call126 (zF rfl (zF rfl (zF rfl zN))) (fun W hW hp hE => F_plot_swept_ok N x105 Au106_0 cu106_0 (hoku106_0.ext (hW.extS hp)) p0.place p1 y107 hy107 hE) ?_
      intro w u le108 hu hsy107
      obtain ⟨Ay107_0, cy107_0⟩ := u
      have gy107_0 := hu
      replace hp0_0 := hp0_0.leR le108
      replace hp0_1 := hp0_1.leR le108
      replace hp0_2 := hp0_2.leR le108
      replace hcu106 := le108.ext.cells hRu106 hcu106
      replace hRu106 := le108.r _ hRu106
      replace hoku106_0 := hoku106_0.leR le108
      replace leB := leB.trans le108
      have hgy107_0 : SlF Ay107_0 (y107).length cy107_0 := gy107_0
      show Dr _ _ _ _ _ _ _ _ _ (uf _ 63 (.slice Ay107_0 (y107).length cy107_0)) (up _ 4 (ow Ay107_0 cy107_0 107 zH y107))
      refine Dr.tail (by kernel_rfl) ?_
      refine Tr.freeze 4 rfl fun w le110 hz109 => ?_
      replace hp0_0 := hp0_0.leR le110
      replace hp0_1 := hp0_1.leR le110
      replace hp0_2 := hp0_2.leR le110
      replace hcu106 := le110.ext.cells hRu106 hcu106
      replace hRu106 := le110.r _ hRu106
      replace hoku106_0 := hoku106_0.leR le110
      replace leB := leB.trans le110
      obtain ⟨y111, hy111, H⟩ := bnd H
      refine Tr.callG [0, 1] [bx bp0 #[(iv p0.p.Unit), (.slice Ap0_0 (p0.p.Tools).length cp0_0), (.slice Ap0_1 (p0.p.Steps).length cp0_1), (.slice Ap0_2 (p0.tools).length cp0_2), (.slice Ap0_3 (p0.image).length cp0_3), (.bool p0.clear), (iv p0.tool), (iv y102.2.1), (iv y102.2.2.1), (.bool y102.2.2.2.1), (iv p0.off), (iv y102.2.2.2.2)] 77, ow Ap0_3 cp0_3 107 zH p0.image] (U := (Option Addr × Nat)) (fun u => (iv y111.1)) (fun O W u => SlF u.1 (y111.2).length u.2) (fun u => [bx bp0 #[(iv p0.p.Unit), (.slice Ap0_0 (p0.p.Tools).length cp0_0), (.slice Ap0_1 (p0.p.Steps).length cp0_1), (.slice Ap0_2 (p0.tools).length cp0_2), (.slice u.1 (y111.2).length u.2), (.bool p0.clear), (iv p0.tool), (iv y102.2.1), (iv y102.2.2.1), (.bool y102.2.2.2.1), (iv p0.off), (iv y102.2.2.2.2)] 77, ow u.1 u.2 107 zH y111.2]) rfl (zK rfl (zK rfl za)) (fun _ => rfl) (wn rfl) rfl Tryz.call125 (zF rfl (zF rfl zN)) (fun W hW hp hE => F_plot_machine__draw_ok N (zo.mk p0.p p0.tools p0.image p0.clear p0.tool (zJ.mk y102.2.1 y102.2.2.1) y102.2.2.2.1 p0.off y102.2.2.2.2) Ap0_0 cp0_0 (hp0_0.ext (hW.extS hp)) Ap0_1 cp0_1 (hp0_1.ext (hW.extS hp)) Ap0_2 cp0_2 (hp0_2.ext (hW.extS hp)) Ap0_3 cp0_3 bp0 y107 Ay107_0 cy107_0 (hz109.extO (hW.extS hp)) y111 hy111 hE) ?_
      intro w u le112 hu
      obtain ⟨Ay111_0, cy111_0⟩ := u
      have gy111_0 := hu
      replace hp0_0 := hp0_0.leR le112
      replace hp0_1 := hp0_1.leR le112
      replace hp0_2 := hp0_2.leR le112
      replace hcu106 := le112.ext.cells hRu106 hcu106
      replace hRu106 := le112.r _ hRu106
      replace hoku106_0 := hoku106_0.leR le112
      replace hz109 := hz109.le le112
      replace leB := leB.trans le112
      have hgy111_0 : SlF Ay111_0 (y111.2).length cy111_0 := gy111_0 --@phi
      show Tr _ _ (uf _ 64 (iv y111.1)) (up (up _ 1 (ow Ay111_0 cy111_0 107 zH y111.2)) 0 (bx bp0 #[(iv p0.p.Unit), (.slice Ap0_0 (p0.p.Tools).length cp0_0), (.slice Ap0_1 (p0.p.Steps).length cp0_1), (.slice Ap0_2 (p0.tools).length cp0_2), (.slice Ay111_0 (y111.2).length cy111_0), (.bool p0.clear), (iv p0.tool), (iv y102.2.1), (iv y102.2.2.1), (.bool y102.2.2.2.1), (iv p0.off), (iv y102.2.2.2.2)] 77)) _
      refine Tr.asg rfl rfl ?_
      refine Tr.nil (Tr.zA ?_)
      refine Tr.ret ?_
      obtain rfl := Option.some.inj H
      exact Tr.out (m := [(iv y111.1)]) [] (zL rfl zP) (fun W hW => ⟨w, (Ay111_0, cy111_0), leB, rfl, hgy111_0, hW.pick (ks := [0, 1]) (by decide) (zK rfl (zK rfl za))⟩)

theorem F_shape_Around_1_ok {w : Bs} (p0 : zR) (p1 : zR) (r : Int) (H : F_shape_Around_1 p0 p1 = some r) (hE : HF w w.W E0) : Calls Tryz.prog 157 [(.agg #[(iv p0.X0), (iv p0.Y0), (iv p0.X1), (iv p0.Y1)]), (.agg #[(iv p1.X0), (iv p1.Y0), (iv p1.X1), (iv p1.Y1)])].toArray w.W fun e W' => e = .returned (iv r) ∧ HF w W' E0 := by
 unfold F_shape_Around_1 at H
 have leB := Bs.Le.refl w
 refine Tr.enter (n := 10) Tryz.func157 rfl rfl rfl hE ?_
 refine Tr.sr ?_
 refine Tr.box 1 (cs := [(iv p0.X0), (iv p0.Y0), (iv p0.X1), (iv p0.Y1)]) (wn rfl) rfl rfl rfl fun b100 => ?_
 refine Tr.box 2 (cs := [(iv p1.X0), (iv p1.Y0), (iv p1.X1), (iv p1.Y1)]) (wn rfl) rfl rfl rfl fun b101 => ?_
 refine Tr.asg rfl rfl ?_
 refine Tr.nil (Tr.zA ?_)
 refine Tr.sr ?_
 refine Tr.va rfl (fun _ _ h1 h2 => zB fo_36_0 (h1.ev rfl)) ?_
 refine Tr.va rfl (fun _ _ h1 h2 => zC ag_3 (h1.ev rfl) (rdb h2 (vs := [(iv p0.X0), (iv p0.Y0), (iv p0.X1), (iv p0.Y1)]) (k := 1) rfl 0) rfl) ?_
 refine Tr.va rfl (fun _ _ h1 h2 => zB fo_36_0 (h1.ev rfl)) ?_
 refine Tr.va rfl (fun _ _ h1 h2 => zC ag_3 (h1.ev rfl) (rdb h2 (vs := [(iv p1.X0), (iv p1.Y0), (iv p1.X1), (iv p1.Y1)]) (k := 2) rfl 0) rfl) ?_
 refine Tr.va rfl (fun _ _ h1 h2 => run_sub (h1.ev rfl) (h1.ev rfl)) ?_
 refine Tr.asg rfl rfl ?_
 refine Tr.nil (Tr.zA ?_)
 refine Tr.ret ?_
 obtain rfl := Option.some.inj H
 exact Tr.out (m := [(iv (w64 (p0.X0 - p1.X0)))]) [] (zL rfl zP) (fun W hW => ⟨rfl, hW.low leB⟩)

theorem F_shape_Around_ok (N : Nat) {w : Bs} (p0 : (List (List zJ))) (Ap0_0 : Option Addr) (cp0_0 : Nat) (hp0_0 : Sl w.R w.W fl_LTPoint Ap0_0 cp0_0 p0) (r : (List zS)) (H : F_shape_Around N p0 = some r) (hE : HF w w.W (LEn [emp])) : Calls Tryz.prog 127 [(.slice Ap0_0 (p0).length cp0_0)].toArray w.W fun e W' => ∃ (w' : Bs) (u : (Option Addr × Nat)), w.Le w' ∧ e = .returned (.slice u.1 (r).length u.2) ∧ (SlF u.1 (r).length u.2) ∧ HF w' W' (LEn [ow u.1 u.2 107 zH r]) := by
 unfold F_shape_Around at H
 have leB := Bs.Le.refl w
 refine Tr.enter (n := 138) Tryz.func127 rfl rfl rfl hE ?_
 refine Tr.sr ?_
 refine Tr.asg rfl rfl ?_
 refine Tr.nilOwn 1 107 zH ?_
 show Tr _ _ (uf _ 2 (.slice none (([] : List zS)).length 0)) _ _
 refine Tr.nil (Tr.zA ?_)
 refine Tr.sr ?_
 refine Tr.asg rfl rfl ?_
 refine Tr.nilOwn 2 3 zX ?_
 show Tr _ _ (uf _ 3 (.slice none (([] : List Int)).length 0)) _ _
 refine Tr.nil (Tr.zA ?_)
 refine Tr.sr ?_
 refine Tr.asg rfl rfl ?_
 refine Tr.nilOwn 3 36 zM ?_
 show Tr _ _ (uf _ 4 (.slice none (([] : List zR)).length 0)) _ _
 refine Tr.nil (Tr.zA ?_)
 refine Tr.seq ?_
 refine Tr.sr ?_
 refine Tr.mv rfl rfl ?_
 refine Tr.va rfl (fun _ _ h1 h2 => zl un_205 (h1.ev rfl)) ?_
 refine Tr.mv rfl rfl ?_
 refine Tr.nil (Tr.zA ?_)
 refine Tr.block ?_
 refine Tr.loop (σ := (List (List zJ)) × Nat × (List Int) × (List zR) × (Option Addr) × Nat × (Option Addr) × Nat) (fun m w s => m = s.1.length + 1 ∧ s.1 = List.drop s.2.1 p0 ∧ s.2.1 ≤ p0.length ∧ F_shape_Around_L3 N s.1 s.2.1 s.2.2.1 s.2.2.2.1 = some r ∧ SlF s.2.2.2.2.1 (s.2.2.1).length s.2.2.2.2.2.1 ∧ SlF s.2.2.2.2.2.2.1 (s.2.2.2.1).length s.2.2.2.2.2.2.2) (fun s => [(3, (.slice s.2.2.2.2.1 (s.2.2.1).length s.2.2.2.2.2.1)), (4, (.slice s.2.2.2.2.2.2.1 (s.2.2.2.1).length s.2.2.2.2.2.2.2)), (16, (.slice Ap0_0 (p0).length cp0_0)), (17, (iv (p0.length : Int))), (18, (iv (s.2.1 : Int)))]) (fun s => [(2, ow s.2.2.2.2.1 s.2.2.2.2.2.1 3 zX s.2.2.1), (3, ow s.2.2.2.2.2.2.1 s.2.2.2.2.2.2.2 36 zM s.2.2.2.1)]) (p0.length + 1) (p0, 0, ([] : List Int), ([] : List zR), none, 0, none, 0) ⟨rfl, rfl, Nat.zero_le _, H, slf_nil, slf_nil⟩ (.cons rfl (.cons rfl (.cons rfl (.cons rfl (.cons rfl .nil))))) (.cons rfl (.cons rfl .nil)) (fun _ _ h => absurd h.1 (by simp)) ?_
 intro w leL3 m s hs
 obtain ⟨restL3, iL3, l187, l188, Al187, cl187, Al188, cl188⟩ := s
 obtain ⟨hmL3, hdL3, hiL3, H, hl187, hl188⟩ := hs
 replace hdL3 : restL3 = List.drop iL3 p0 := hdL3
 replace H : F_shape_Around_L3 N restL3 iL3 l187 l188 = some r := H
 replace hmL3 : m + 1 = restL3.length + 1 := hmL3
 replace hp0_0 := hp0_0.leR leL3
 replace leB := leB.trans leL3
 replace hl187 : SlF Al187 (l187).length cl187 := hl187
 replace hl188 : SlF Al188 (l188).length cl188 := hl188
 obtain rfl : m = restL3.length := by omega
 clear hmL3
 show Tr _ _ (LF [(3, (.slice Al187 (l187).length cl187)), (4, (.slice Al188 (l188).length cl188)), (16, (.slice Ap0_0 (p0).length cp0_0)), (17, (iv (p0.length : Int))), (18, (iv (iL3 : Int)))]) (LE [(2, ow Al187 cl187 3 zX l187), (3, ow Al188 cl188 36 zM l188)]) _
 cases restL3 with
 | nil =>
  rw [F_shape_Around_L3.eq_1] at H
  refine Tr.sr ?_
  refine Tr.va rfl (fun _ _ h1 h2 => zn (h1.ev rfl) (h1.ev rfl)) ?_
  refine Tr.nil (Tr.zA ?_)
  refine Tr.seq ?_
  refine Tr.condF rfl (range_nil hdL3) ?_
  refine Tr.exit (Tr.zV (Tr.zV (Tr.zw (Tr.zA ?_))))
  refine Tr.sr ?_
  refine Tr.mv rfl rfl ?_
  obtain ⟨y189, hy189, H⟩ := bnd H
  refine Tr.callM [2] [ow Al187 cl187 3 zX l187] (U := Unit) (fun u => (.tuple #[])) (fun u => (y189).length = (l187).length) (fun u => [ow Al187 cl187 3 zX y189]) rfl (zK rfl za) (fun _ => rfl) (wn rfl) rfl Tryz.call83 (zF rfl zN) (fun W hW hp hE => F_slices_Sort_int_ok l187 Al187 cl187 y189 hy189 hE) ?_
  intro u hu
  have gky189_0 := hu
  have hgky189_0 : (y189).length = (l187).length := gky189_0 --@phi
  have hfky189_0 : SlF Al187 (y189).length cl187 := by rw [hgky189_0]; exact hl187
  show Tr _ _ (uf _ 66 (.tuple #[])) (up _ 2 (ow Al187 cl187 3 zX y189)) _
  refine Tr.sel (lf := [(3, (.slice Al187 (y189).length cl187)), (4, (.slice Al188 (l188).length cl188)), (16, (.slice Ap0_0 (p0).length cp0_0)), (17, (iv (p0.length : Int))), (18, (iv (iL3 : Int))), (19, (.bool (decide ((iL3 : Int) < (p0.length : Int))))), (65, (.slice Al187 (y189).length cl187)), (66, (.tuple #[]))]) (le := [(2, ow Al187 cl187 3 zX y189), (3, ow Al188 cl188 36 zM l188)]) (.cons (slenV rfl (by rw [hgky189_0])) (.cons rfl (.cons rfl (.cons rfl (.cons rfl (.cons rfl (.cons (slenV rfl (by rw [hgky189_0])) (.cons rfl .nil)))))))) (.cons rfl (.cons rfl .nil)) ?_
  refine Tr.nil (Tr.zA ?_)
  refine Tr.sr ?_
  refine Tr.mv rfl rfl ?_
  obtain ⟨y191, hy191, H⟩ := bnd H
  refine Tr.callM [2] [ow Al187 cl187 3 zX y189] (U := (Option Addr × Nat)) (fun u => (.slice u.1 (y191).length u.2)) (fun u => SlF u.1 (y191).length u.2) (fun u => [ow u.1 u.2 3 zX y191]) rfl (zK rfl za) (fun _ => rfl) (wn rfl) rfl Tryz.call84 (zF rfl zN) (fun W hW hp hE => F_slices_Compact_int_ok y189 Al187 cl187 y191 hy191 hE) ?_
  intro u hu
  obtain ⟨Ay191_0, cy191_0⟩ := u
  have gy191_0 := hu
  have hgy191_0 : SlF Ay191_0 (y191).length cy191_0 := gy191_0 --@phi
  show Tr _ _ (uf _ 68 (.slice Ay191_0 (y191).length cy191_0)) (up _ 2 (ow Ay191_0 cy191_0 3 zX y191)) _
  refine Tr.asg rfl rfl ?_
  refine Tr.nil (Tr.zA ?_)
  refine Tr.sr ?_
  refine Tr.mv rfl rfl ?_
  obtain ⟨y193, hy193, H⟩ := bnd H
  refine Tr.callM [3] [ow Al188 cl188 36 zM l188] (U := Unit) (fun u => (.tuple #[])) (fun u => (y193).length = (l188).length) (fun u => [ow Al188 cl188 36 zM y193]) rfl (zK rfl za) (fun _ => rfl) (wn rfl) rfl Tryz.call81 (zF rfl (zF rfl zN)) (fun W hW hp hE => F_slices_SortFunc_TRect_ok l188 Al188 cl188 (fun z0 z1 => F_shape_Around_1 z0 z1) 157 [] Tryz.call157 (fun w' he z0 z1 y hy => F_shape_Around_1_ok z0 z1 y hy (HF.start _)) y193 hy193 hE) ?_
  intro u hu
  have gky193_0 := hu
  have hgky193_0 : (y193).length = (l188).length := gky193_0 --@phi
  have hfky193_0 : SlF Al188 (y193).length cl188 := by rw [hgky193_0]; exact hl188
  show Tr _ _ (uf _ 70 (.tuple #[])) (up _ 3 (ow Al188 cl188 36 zM y193)) _
  refine Tr.sel (lf := [(3, (.slice Ay191_0 (y191).length cy191_0)), (4, (.slice Al188 (y193).length cl188)), (16, (.slice Ap0_0 (p0).length cp0_0)), (17, (iv (p0.length : Int))), (18, (iv (iL3 : Int))), (19, (.bool (decide ((iL3 : Int) < (p0.length : Int))))), (66, (.tuple #[])), (68, (.slice Ay191_0 (y191).length cy191_0)), (69, (.slice Al188 (y193).length cl188)), (70, (.tuple #[]))]) (le := [(2, ow Ay191_0 cy191_0 3 zX y191), (3, ow Al188 cl188 36 zM y193)]) (.cons rfl (.cons (slenV rfl (by rw [hgky193_0])) (.cons rfl (.cons rfl (.cons rfl (.cons rfl (.cons rfl (.cons rfl (.cons (slenV rfl (by rw [hgky193_0])) (.cons rfl .nil)))))))))) (.cons rfl (.cons rfl .nil)) ?_
  refine Tr.nil (Tr.zA ?_)
  refine Tr.sr ?_
  refine Tr.asg rfl rfl ?_
  refine Tr.nilOwn 28 107 zH ?_
  show Tr _ _ (uf _ 10 (.slice none (([] : List zS)).length 0)) _ _
  refine Tr.nil (Tr.zA ?_)
  refine Tr.seq ?_
  refine Tr.sr ?_
  refine Tr.asg rfl rfl ?_
  refine Tr.nil (Tr.zA ?_)
  refine Tr.block ?_
  refine Tr.loop (σ := (List zS) × Int × (Option Addr) × Nat) (fun m w s => F_shape_Around_L6 y191 y193 m s.1 s.2.1 = some r ∧ SlF s.2.2.1 (s.1).length s.2.2.2) (fun s => [(3, (.slice Ay191_0 (y191).length cy191_0)), (4, (.slice Al188 (y193).length cl188)), (10, (.slice s.2.2.1 (s.1).length s.2.2.2)), (11, (iv s.2.1))]) (fun s => [(2, ow Ay191_0 cy191_0 3 zX y191), (3, ow Al188 cl188 36 zM y193), (28, ow s.2.2.1 s.2.2.2 107 zH s.1)]) N (([] : List zS), 0, none, 0) ⟨H, slf_nil⟩ (.cons rfl (.cons rfl (.cons rfl (.cons rfl .nil)))) (.cons rfl (.cons rfl (.cons rfl .nil))) (fun _ _ h => noSome (h.1)) ?_
  intro w leL6 mL6 s hs
  obtain ⟨l297, x298, Al297, cl297⟩ := s
  obtain ⟨H, hl297⟩ := hs
  replace H : F_shape_Around_L6 y191 y193 (mL6 + 1) l297 x298 = some r := H
  replace leB := leB.trans leL6
  replace leL3 := leL3.trans leL6
  replace hl297 : SlF Al297 (l297).length cl297 := hl297
  rw [F_shape_Around_L6.eq_2] at H
  show Tr _ _ (LF [(3, (.slice Ay191_0 (y191).length cy191_0)), (4, (.slice Al188 (y193).length cl188)), (10, (.slice Al297 (l297).length cl297)), (11, (iv x298))]) (LE [(2, ow Ay191_0 cy191_0 3 zX y191), (3, ow Al188 cl188 36 zM y193), (28, ow Al297 cl297 107 zH l297)]) _
  refine Tr.seq ?_
  refine Tr.sr ?_
  refine Tr.mv rfl rfl ?_
  refine Tr.va rfl (fun _ _ h1 h2 => zm (h1.ev rfl) (h1.ev rfl)) ?_
  refine Tr.mv rfl rfl ?_
  refine Tr.va rfl (fun _ _ h1 h2 => zl un_38 (h1.ev rfl)) ?_
  refine Tr.va rfl (fun _ _ h1 h2 => zn (h1.ev rfl) (h1.ev rfl)) ?_
  refine Tr.nil (Tr.zA ?_)
  refine Tr.cond rfl H (fun H => ?_) (fun H => ?_)
  ·refine Tr.skip (Tr.zA ?_)
   refine Tr.seq ?_
   refine Tr.block ?_
   refine Tr.sr ?_
   refine Tr.asg rfl rfl ?_
   refine Tr.nilOwn 43 3 zX ?_
   show Tr _ _ (uf _ 12 (.slice none (([] : List Int)).length 0)) _ _
   refine Tr.nil (Tr.zA ?_)
   refine Tr.seq ?_
   refine Tr.sr ?_
   refine Tr.mv rfl rfl ?_
   refine Tr.va rfl (fun _ _ h1 h2 => zl un_31 (h1.ev rfl)) ?_
   refine Tr.mv rfl rfl ?_
   refine Tr.nil (Tr.zA ?_)
   refine Tr.block ?_
   refine Tr.loop (σ := (List zR) × Nat × (List Int) × (Option Addr) × Nat) (fun m w s => m = s.1.length + 1 ∧ s.1 = List.drop s.2.1 y193 ∧ s.2.1 ≤ y193.length ∧ F_shape_Around_L7 y191 l297 x298 (F_shape_Around_L6 y191 y193 mL6) s.1 s.2.1 s.2.2.1 = some r ∧ SlF s.2.2.2.1 (s.2.2.1).length s.2.2.2.2) (fun s => [(3, (.slice Ay191_0 (y191).length cy191_0)), (4, (.slice Al188 (y193).length cl188)), (10, (.slice Al297 (l297).length cl297)), (11, (iv x298)), (12, (.slice s.2.2.2.1 (s.2.2.1).length s.2.2.2.2)), (78, (.slice Al188 (y193).length cl188)), (79, (iv (y193.length : Int))), (80, (iv (s.2.1 : Int)))]) (fun s => [(2, ow Ay191_0 cy191_0 3 zX y191), (3, ow Al188 cl188 36 zM y193), (28, ow Al297 cl297 107 zH l297), (43, ow s.2.2.2.1 s.2.2.2.2 3 zX s.2.2.1)]) (y193.length + 1) (y193, 0, ([] : List Int), none, 0) ⟨rfl, rfl, Nat.zero_le _, H, slf_nil⟩ (.cons rfl (.cons rfl (.cons rfl (.cons rfl (.cons rfl (.cons rfl (.cons rfl (.cons rfl .nil)))))))) (.cons rfl (.cons rfl (.cons rfl (.cons rfl .nil)))) (fun _ _ h => absurd h.1 (by simp)) ?_
   intro w leL7 m s hs
   obtain ⟨restL7, iL7, l329, Al329, cl329⟩ := s
   obtain ⟨hmL7, hdL7, hiL7, H, hl329⟩ := hs
   replace hdL7 : restL7 = List.drop iL7 y193 := hdL7
   replace H : F_shape_Around_L7 y191 l297 x298 (F_shape_Around_L6 y191 y193 mL6) restL7 iL7 l329 = some r := H
   replace hmL7 : m + 1 = restL7.length + 1 := hmL7
   replace leB := leB.trans leL7
   replace leL3 := leL3.trans leL7
   replace leL6 := leL6.trans leL7
   replace hl329 : SlF Al329 (l329).length cl329 := hl329
   obtain rfl : m = restL7.length := by omega
   clear hmL7
   show Tr _ _ (LF [(3, (.slice Ay191_0 (y191).length cy191_0)), (4, (.slice Al188 (y193).length cl188)), (10, (.slice Al297 (l297).length cl297)), (11, (iv x298)), (12, (.slice Al329 (l329).length cl329)), (78, (.slice Al188 (y193).length cl188)), (79, (iv (y193.length : Int))), (80, (iv (iL7 : Int)))]) (LE [(2, ow Ay191_0 cy191_0 3 zX y191), (3, ow Al188 cl188 36 zM y193), (28, ow Al297 cl297 107 zH l297), (43, ow Al329 cl329 3 zX l329)]) _
   cases restL7 with
   | nil =>
    rw [F_shape_Around_L7.eq_1] at H
    refine Tr.sr ?_
    refine Tr.va rfl (fun _ _ h1 h2 => zn (h1.ev rfl) (h1.ev rfl)) ?_
    refine Tr.nil (Tr.zA ?_)
    refine Tr.seq ?_
    refine Tr.condF rfl (range_nil hdL7) ?_
    refine Tr.exit (Tr.zV (Tr.zV (Tr.zw (Tr.zA ?_))))
    refine Tr.drawTail 12 (by kernel_rfl) (by kernel_rfl) ?_
    refine Tq.mv rfl rfl ?_
    refine Tq.mv rfl rfl ?_
    refine Tq.mv rfl rfl ?_
    obtain ⟨x330, hx330, H⟩ := bnd H
    obtain ⟨hx3300, hx3301, hx3302⟩ := zq hx330
    refine Tq.va rfl (fun _ _ h1 h2 => zI el_38 (h1.ev rfl) hgy191_0 (h1.ev rfl) hx3300 hx3301) ?_
    refine Tq.va rfl (fun _ _ h1 h2 => zC ag_3 (h1.ev rfl) (rdo ef_i64 (k := 2) h2 rfl hx3302) rfl) ?_
    refine Tq.mv rfl rfl ?_
    refine Tq.mv rfl rfl ?_
    refine Tq.va rfl (fun _ _ h1 h2 => zm (h1.ev rfl) (h1.ev rfl)) ?_
    obtain ⟨x331, hx331, H⟩ := bnd H
    obtain ⟨hx3310, hx3311, hx3312⟩ := zq hx331
    refine Tq.va rfl (fun _ _ h1 h2 => zI el_38 (h1.ev rfl) hgy191_0 (h1.ev rfl) hx3310 hx3311) ?_
    refine Tq.va rfl (fun _ _ h1 h2 => zC ag_3 (h1.ev rfl) (rdo ef_i64 (k := 2) h2 rfl hx3312) rfl) ?_
    refine Tq.mv rfl rfl ?_
    refine Tq.build (vs := [(0, (iv x330)), (1, (iv x331)), (2, (.slice Al329 (l329).length cl329))]) (cs := [(iv x330), (iv x331), (.slice Al329 (l329).length cl329)]) (wn rfl) rfl (zY rfl (zY rfl (zY rfl evs_nil))) (by kernel_rfl) ?_
    refine Tq.nil ?_
    refine Tr.freeze 43 rfl fun w le333 hz332 => ?_
    replace leB := leB.trans le333
    replace leL3 := leL3.trans le333
    replace leL6 := leL6.trans le333
    replace leL7 := leL7.trans le333
    obtain ⟨y334, hy334, H⟩ := bnd H
    refine Tr.callG [28] [ow Al297 cl297 107 zH l297] (U := (Option Addr × Nat)) (fun u => (.slice u.1 (y334).length u.2)) (fun O W u => SlF u.1 (y334).length u.2) (fun u => [ow u.1 u.2 107 zH y334]) rfl (zK rfl za) (fun _ => rfl) (wn rfl) rfl Tryz.call87 (zF rfl (zF rfl zN)) (fun W hW hp hE => F_shape_Set__push_ok l297 Al297 cl297 (zS.mk x330 x331 l329) Al329 cl329 (hz332.extO (hW.extS hp)) y334 hy334 hE) ?_
    intro w u le335 hu
    obtain ⟨Ay334_0, cy334_0⟩ := u
    have gy334_0 := hu
    replace hz332 := hz332.le le335
    replace leB := leB.trans le335
    replace leL3 := leL3.trans le335
    replace leL6 := leL6.trans le335
    replace leL7 := leL7.trans le335
    have hgy334_0 : SlF Ay334_0 (y334).length cy334_0 := gy334_0 --@phi
    show Tr _ _ (uf _ 136 (.slice Ay334_0 (y334).length cy334_0)) (up _ 28 (ow Ay334_0 cy334_0 107 zH y334)) _
    refine Tr.asg rfl rfl ?_
    refine Tr.nil (Tr.zT (Tr.zA ?_))
    refine Tr.region ?_
    refine Tr.mv rfl rfl ?_
    refine Tr.va rfl (fun _ _ h1 h2 => zm (h1.ev rfl) (h1.ev rfl)) ?_
    refine Tr.asg rfl rfl ?_
    refine Tr.nil ?_
    exact Tr.zW leL6 (y334, (w64 (x298 + 1)), Ay334_0, cy334_0) ⟨H, hgy334_0⟩ (.cons rfl (.cons rfl (.cons rfl (.cons rfl .nil)))) (.cons rfl (.cons rfl (.cons rfl .nil)))
   | cons xL7 restL7 =>
    rw [F_shape_Around_L7.eq_2] at H
    refine Tr.sr ?_
    refine Tr.va rfl (fun _ _ h1 h2 => zn (h1.ev rfl) (h1.ev rfl)) ?_
    refine Tr.nil (Tr.zA ?_)
    refine Tr.seq ?_
    refine Tr.condT rfl (range_on hdL7) ?_
    refine Tr.skip (Tr.zA ?_)
    refine Tr.seq ?_
    refine Tr.block ?_
    refine Tr.sr ?_
    refine Tr.va rfl (fun _ _ h1 h2 => zI el_31 (h1.ev rfl) hfky193_0 (h1.ev rfl) (Int.natCast_nonneg _) (zf hdL7)) ?_
    refine Tr.va rfl (fun _ _ h1 h2 => zQ (cs := [(iv xL7.X0), (iv xL7.Y0), (iv xL7.X1), (iv xL7.Y1)]) ag_36 sz_36 (h1.ev rfl) (zO.take (rdo ef_TRect (k := 3) h2 rfl (range_at hdL7)) 4) rfl) ?_
    refine Tr.alloc 48 (wn rfl) rfl ze_36 fun b336 => ?_
    refine Tr.store 48 (cs := [(iv xL7.X0), (iv xL7.Y0), (iv xL7.X1), (iv xL7.Y1)]) [(iv xL7.X0), (iv xL7.Y0), (iv xL7.X1), (iv xL7.Y1)] (wn rfl) rfl rfl rfl rfl sz_36 rfl rfl rfl ?_
    refine Tr.nil (Tr.zA ?_)
    refine Tr.seq ?_
    refine Tr.seq ?_
    refine Tr.draw (by kernel_rfl) (by kernel_rfl) ?_
    refine Tq.va rfl (fun _ _ h1 h2 => zB fo_36_1 (h1.ev rfl)) ?_
    refine Tq.va rfl (fun _ _ h1 h2 => zC ag_3 (h1.ev rfl) (rdb h2 (vs := [(iv xL7.X0), (iv xL7.Y0), (iv xL7.X1), (iv xL7.Y1)]) (k := 48) rfl 1) rfl) ?_
    refine Tq.mv rfl rfl ?_
    refine Tq.mv rfl rfl ?_
    obtain ⟨x337, hx337, H⟩ := bnd H
    obtain ⟨hx3370, hx3371, hx3372⟩ := zq hx337
    refine Tq.va rfl (fun _ _ h1 h2 => zI el_38 (h1.ev rfl) hgy191_0 (h1.ev rfl) hx3370 hx3371) ?_
    refine Tq.va rfl (fun _ _ h1 h2 => zC ag_3 (h1.ev rfl) (rdo ef_i64 (k := 2) h2 rfl hx3372) rfl) ?_
    refine Tq.va rfl (fun _ _ h1 h2 => run_gtr (h1.ev rfl) (h1.ev rfl)) ?_
    refine Tq.mv rfl rfl ?_
    obtain ⟨g339, hg339, H⟩ := bnd H
    refine Tq.mid 8 [(3, (.slice Ay191_0 (y191).length cy191_0)), (4, (.slice Al188 (y193).length cl188)), (10, (.slice Al297 (l297).length cl297)), (11, (iv x298)), (12, (.slice Al329 (l329).length cl329)), (14, (.pointer (some ⟨b336, 0, none⟩))), (78, (.slice Al188 (y193).length cl188)), (79, (iv (y193.length : Int))), (80, (iv (iL7 : Int))), (99, (.bool g339))] ?_ ?_
    ·cases hg346 : (decide (x337 < xL7.Y0))
     ·rw [hg346] at hg339
      rw [if_neg (by decide)] at hg339
      have H := hg339
      refine Tq.val (wg rfl rfl rfl) rfl (fun _ _ h1 h2 => zB fo_36_3 (h1.ev rfl)) ?_
      refine Tq.val (wg rfl rfl rfl) rfl (fun _ _ h1 h2 => zC ag_3 (h1.ev rfl) (rdb h2 (vs := [(iv xL7.X0), (iv xL7.Y0), (iv xL7.X1), (iv xL7.Y1)]) (k := 48) rfl 3) rfl) ?_
      refine Tq.val (wg rfl rfl rfl) rfl (fun _ _ h1 h2 => run_move (h1.ev rfl)) ?_
      refine Tq.val (wg rfl rfl rfl) rfl (fun _ _ h1 h2 => run_move (h1.ev rfl)) ?_
      obtain ⟨x340, hx340, H⟩ := bnd H
      obtain ⟨hx3400, hx3401, hx3402⟩ := zq hx340
      refine Tq.val (wg rfl rfl rfl) rfl (fun _ _ h1 h2 => zI el_38 (h1.ev rfl) hgy191_0 (h1.ev rfl) hx3400 hx3401) ?_
      refine Tq.val (wg rfl rfl rfl) rfl (fun _ _ h1 h2 => zC ag_3 (h1.ev rfl) (rdo ef_i64 (k := 2) h2 rfl hx3402) rfl) ?_
      refine Tq.val (wg rfl rfl rfl) rfl (fun _ _ h1 h2 => run_leq (h1.ev rfl) (h1.ev rfl)) ?_
      refine Tq.va rfl (fun _ _ h1 h2 => ze (h1.ev rfl) (h1.ev rfl)) ?_
      obtain rfl := Option.some.inj H
      exact Tq.fin (.cons rfl (.cons rfl (.cons rfl (.cons rfl (.cons rfl (.cons rfl (.cons rfl (.cons rfl (.cons rfl (.cons rfl .nil))))))))))
     ·rw [hg346] at hg339
      rw [if_pos rfl] at hg339
      have H := hg339
      obtain rfl := Option.some.inj H
      refine Tq.pass rfl rfl rfl rfl rfl (by decide) ?_
      refine Tq.pass rfl rfl rfl rfl rfl (by decide) ?_
      refine Tq.pass rfl rfl rfl rfl rfl (by decide) ?_
      refine Tq.pass rfl rfl rfl rfl rfl (by decide) ?_
      refine Tq.pass rfl rfl rfl rfl rfl (by decide) ?_
      refine Tq.pass rfl rfl rfl rfl rfl (by decide) ?_
      refine Tq.pass rfl rfl rfl rfl rfl (by decide) ?_
      refine Tq.va rfl (fun _ _ h1 h2 => zb (h1.ev rfl) (h1.ev rfl)) ?_
      exact Tq.fin (.cons rfl (.cons rfl (.cons rfl (.cons rfl (.cons rfl (.cons rfl (.cons rfl (.cons rfl (.cons rfl (.cons rfl .nil))))))))))
    ·refine Tq.nil (Tr.zA ?_)
     refine Tr.cond rfl H (fun H => ?_) (fun H => ?_)
     ·refine Tr.exit (Tr.zV (Tr.zw (Tr.zA ?_)))
      refine Tr.region ?_
      refine Tr.va rfl (fun _ _ h1 h2 => zm (h1.ev rfl) (h1.ev rfl)) ?_
      refine Tr.mv rfl rfl ?_
      refine Tr.nil ?_
      exact Tr.zW leL7 (restL7, (iL7 + 1), l329, Al329, cl329) ⟨rfl, zAI hdL7, zf hdL7, H, hl329⟩ (.cons rfl (.cons rfl (.cons rfl (.cons rfl (.cons rfl (.cons rfl (.cons rfl (.cons (congrArg (fun z => some (Value.int .i64 z)) (zAH hdL7 hfky193_0)) .nil)))))))) (.cons rfl (.cons rfl (.cons rfl (.cons rfl .nil))))
     ·refine Tr.skip (Tr.zA ?_)
      refine Tr.sr ?_
      refine Tr.mv rfl rfl ?_
      refine Tr.va rfl (fun _ _ h1 h2 => zl un_38 (h1.ev rfl)) ?_
      refine Tr.asg rfl rfl ?_
      refine Tr.nil (Tr.zA ?_)
      refine Tr.seq ?_
      refine Tr.draw (by kernel_rfl) (by kernel_rfl) ?_
      refine Tq.mv rfl rfl ?_
      refine Tq.va rfl (fun _ _ h1 h2 => run_gtr (h1.ev rfl) (h1.ev rfl)) ?_
      refine Tq.mv rfl rfl ?_
      obtain ⟨g342, hg342, H⟩ := bnd H
      refine Tq.mid 9 [(3, (.slice Ay191_0 (y191).length cy191_0)), (4, (.slice Al188 (y193).length cl188)), (10, (.slice Al297 (l297).length cl297)), (11, (iv x298)), (12, (.slice Al329 (l329).length cl329)), (14, (.pointer (some ⟨b336, 0, none⟩))), (15, (iv (l329.length : Int))), (78, (.slice Al188 (y193).length cl188)), (79, (iv (y193.length : Int))), (80, (iv (iL7 : Int))), (113, (.bool g342))] ?_ ?_
      ·cases hg346 : (decide (0 < (l329.length : Int)))
       ·rw [hg346] at hg342
        rw [if_neg (by decide)] at hg342
        have H := hg342
        obtain rfl := Option.some.inj H
        refine Tq.pass rfl rfl rfl rfl rfl (by decide) ?_
        refine Tq.pass rfl rfl rfl rfl rfl (by decide) ?_
        refine Tq.pass rfl rfl rfl rfl rfl (by decide) ?_
        refine Tq.pass rfl rfl rfl rfl rfl (by decide) ?_
        refine Tq.pass rfl rfl rfl rfl rfl (by decide) ?_
        refine Tq.pass rfl rfl rfl rfl rfl (by decide) ?_
        refine Tq.pass rfl rfl rfl rfl rfl (by decide) ?_
        refine Tq.pass rfl rfl rfl rfl rfl (by decide) ?_
        refine Tq.va rfl (fun _ _ h1 h2 => ze (h1.ev rfl) (h1.ev rfl)) ?_
        exact Tq.fin (.cons rfl (.cons rfl (.cons rfl (.cons rfl (.cons rfl (.cons rfl (.cons rfl (.cons rfl (.cons rfl (.cons rfl (.cons rfl .nil)))))))))))
       ·rw [hg346] at hg342
        rw [if_pos rfl] at hg342
        have H := hg342
        refine Tq.val (wg rfl rfl rfl) rfl (fun _ _ h1 h2 => run_move (h1.ev rfl)) ?_
        refine Tq.val (wg rfl rfl rfl) rfl (fun _ _ h1 h2 => run_move (h1.ev rfl)) ?_
        refine Tq.val (wg rfl rfl rfl) rfl (fun _ _ h1 h2 => run_sub (h1.ev rfl) (h1.ev rfl)) ?_
        obtain ⟨x343, hx343, H⟩ := bnd H
        obtain ⟨hx3430, hx3431, hx3432⟩ := zq hx343
        refine Tq.val (wg rfl rfl rfl) rfl (fun _ _ h1 h2 => zI el_38 (h1.ev rfl) hl329 (h1.ev rfl) hx3430 hx3431) ?_
        refine Tq.val (wg rfl rfl rfl) rfl (fun _ _ h1 h2 => zC ag_3 (h1.ev rfl) (rdo ef_i64 (k := 43) h2 rfl hx3432) rfl) ?_
        refine Tq.val (wg rfl rfl rfl) rfl (fun _ _ h1 h2 => zB fo_36_0 (h1.ev rfl)) ?_
        refine Tq.val (wg rfl rfl rfl) rfl (fun _ _ h1 h2 => zC ag_3 (h1.ev rfl) (rdb h2 (vs := [(iv xL7.X0), (iv xL7.Y0), (iv xL7.X1), (iv xL7.Y1)]) (k := 48) rfl 0) rfl) ?_
        refine Tq.val (wg rfl rfl rfl) rfl (fun _ _ h1 h2 => run_eql (h1.ev rfl) (h1.ev rfl)) ?_
        refine Tq.va rfl (fun _ _ h1 h2 => zb (h1.ev rfl) (h1.ev rfl)) ?_
        obtain rfl := Option.some.inj H
        exact Tq.fin (.cons rfl (.cons rfl (.cons rfl (.cons rfl (.cons rfl (.cons rfl (.cons rfl (.cons rfl (.cons rfl (.cons rfl (.cons rfl .nil)))))))))))
      ·refine Tq.nil (Tr.zA ?_)
       refine Tr.cond rfl H (fun H => ?_) (fun H => ?_)
       ·refine Tr.region ?_
        refine Tr.mv rfl rfl ?_
        refine Tr.mv rfl rfl ?_
        refine Tr.va rfl (fun _ _ h1 h2 => run_sub (h1.ev rfl) (h1.ev rfl)) ?_
        obtain ⟨l344, hl344, H⟩ := bnd H
        refine Tr.va rfl (fun _ _ h1 h2 => run_pre el_38 (h1.ev rfl) hl329 (h1.ev rfl) hl344) ?_
        refine Tr.asg rfl rfl ?_
        refine Tr.nil (Tr.zT (Tr.zA ?_))
        refine Tr.region ?_
        refine Tr.va rfl (fun _ _ h1 h2 => zm (h1.ev rfl) (h1.ev rfl)) ?_
        refine Tr.mv rfl rfl ?_
        refine Tr.nil ?_
        refine Tr.shrinkP 43 hl344 rfl ?_
        exact Tr.zW leL7 (restL7, (iL7 + 1), l344, Al329, cl329) ⟨rfl, zAI hdL7, zf hdL7, H, (pre_form hl329 hl344)⟩ (.cons rfl (.cons rfl (.cons rfl (.cons rfl (.cons rfl (.cons rfl (.cons rfl (.cons (congrArg (fun z => some (Value.int .i64 z)) (zAH hdL7 hfky193_0)) .nil)))))))) (.cons rfl (.cons rfl (.cons rfl (.cons rfl .nil))))
       ·refine Tr.region ?_
        refine Tr.mv rfl rfl ?_
        refine Tr.va rfl (fun _ _ h1 h2 => zB fo_36_0 (h1.ev rfl)) ?_
        refine Tr.va rfl (fun _ _ h1 h2 => zC ag_3 (h1.ev rfl) (rdb h2 (vs := [(iv xL7.X0), (iv xL7.Y0), (iv xL7.X1), (iv xL7.Y1)]) (k := 48) rfl 0) rfl) ?_
        refine Tr.buildSlice 49 (e := 3) (vs := [(0, (iv xL7.X0))]) (cs := [(iv xL7.X0)]) (wn rfl) rfl (zY rfl evs_nil) (by kernel_rfl) fun b345 => ?_
        obtain ⟨l346, hl346, H⟩ := bnd H
        refine Tr.append 43 (t := zX) (l := l329) (l2 := [xL7.X0]) (wn rfl) rfl rfl rfl rfl (fun W hW => ⟨[[(iv xL7.X0)]], (.cons ⟨(), trivial, rfl⟩ .nil), rdb hW (vs := [(iv xL7.X0)]) (k := 49) rfl 0⟩) un_38 sz_3 zl_3 (by decide) by_3 rfl hl346 fun Al346 cl346 hAl346 => ?_
        refine Tr.asg rfl rfl ?_
        refine Tr.nil (Tr.zT (Tr.zA ?_))
        refine Tr.region ?_
        refine Tr.va rfl (fun _ _ h1 h2 => zm (h1.ev rfl) (h1.ev rfl)) ?_
        refine Tr.mv rfl rfl ?_
        refine Tr.nil ?_
        exact Tr.zW leL7 (restL7, (iL7 + 1), l346, Al346, cl346) ⟨rfl, zAI hdL7, zf hdL7, H, hAl346⟩ (.cons rfl (.cons rfl (.cons rfl (.cons rfl (.cons rfl (.cons rfl (.cons rfl (.cons (congrArg (fun z => some (Value.int .i64 z)) (zAH hdL7 hfky193_0)) .nil)))))))) (.cons rfl (.cons rfl (.cons rfl (.cons rfl .nil))))
  ·refine Tr.exit (Tr.zV (Tr.zV (Tr.zw (Tr.zA ?_))))
   refine Tr.sr ?_
   refine Tr.mv rfl rfl ?_
   refine Tr.asg rfl rfl ?_
   refine Tr.nil (Tr.zA ?_)
   refine Tr.ret ?_
   obtain rfl := Option.some.inj H
   exact Tr.out (m := [(.slice Al297 (l297).length cl297)]) [] (zL rfl zP) (fun W hW => ⟨w, (Al297, cl297), leB, rfl, hl297, hW.pick (ks := [28]) (by decide) (zK rfl za)⟩)
 | cons xL3 restL3 =>
  rw [F_shape_Around_L3.eq_2] at H
  refine Tr.sr ?_
  refine Tr.va rfl (fun _ _ h1 h2 => zn (h1.ev rfl) (h1.ev rfl)) ?_
  refine Tr.nil (Tr.zA ?_)
  refine Tr.seq ?_
  refine Tr.condT rfl (range_on hdL3) ?_
  refine Tr.skip (Tr.zA ?_)
  refine Tr.seq ?_
  refine Tr.block ?_
  refine Tr.sr ?_
  obtain ⟨u347, hRu347, hoku347, hcu347⟩ := (hp0_0).el (range_at hdL3)
  obtain ⟨Au347_0, cu347_0⟩ := u347
  have hoku347_0 := hoku347
  replace hoku347_0 : Sl w.R w.W zAK Au347_0 cu347_0 xL3 := hoku347_0
  refine Tr.va rfl (fun _ _ h1 h2 => zI el_205 (h1.ev rfl) hp0_0.form (h1.ev rfl) (Int.natCast_nonneg _) (zf hdL3)) ?_
  refine Tr.va rfl (fun _ _ h1 h2 => zC ag_44 (h1.ev rfl) (rdR hRu347 hcu347 h2) rfl) ?_
  refine Tr.asg rfl rfl ?_
  refine Tr.nil (Tr.zA ?_)
  refine Tr.sr ?_
  refine Tr.mv rfl rfl ?_
  refine Tr.va rfl (fun _ _ h1 h2 => zl un_44 (h1.ev rfl)) ?_
  refine Tr.mv rfl rfl ?_
  refine Tr.nil (Tr.zA ?_)
  refine Tr.block ?_
  refine Tr.loop (σ := (List zJ) × Nat × (List Int) × (List zR) × (Option Addr) × Nat × (Option Addr) × Nat) (fun m w s => m = s.1.length + 1 ∧ s.1 = List.drop s.2.1 xL3 ∧ s.2.1 ≤ xL3.length ∧ F_shape_Around_L8 (F_shape_Around_L3 N restL3 (iL3 + 1)) xL3 s.1 s.2.1 s.2.2.1 s.2.2.2.1 = some r ∧ SlF s.2.2.2.2.1 (s.2.2.1).length s.2.2.2.2.2.1 ∧ SlF s.2.2.2.2.2.2.1 (s.2.2.2.1).length s.2.2.2.2.2.2.2) (fun s => [(3, (.slice s.2.2.2.2.1 (s.2.2.1).length s.2.2.2.2.2.1)), (4, (.slice s.2.2.2.2.2.2.1 (s.2.2.2.1).length s.2.2.2.2.2.2.2)), (6, (.slice Au347_0 (xL3).length cu347_0)), (16, (.slice Ap0_0 (p0).length cp0_0)), (17, (iv (p0.length : Int))), (18, (iv (iL3 : Int))), (22, (.slice Au347_0 (xL3).length cu347_0)), (23, (iv (xL3.length : Int))), (24, (iv (s.2.1 : Int)))]) (fun s => [(2, ow s.2.2.2.2.1 s.2.2.2.2.2.1 3 zX s.2.2.1), (3, ow s.2.2.2.2.2.2.1 s.2.2.2.2.2.2.2 36 zM s.2.2.2.1)]) (xL3.length + 1) (xL3, 0, l187, l188, Al187, cl187, Al188, cl188) ⟨rfl, rfl, Nat.zero_le _, H, hl187, hl188⟩ (.cons rfl (.cons rfl (.cons rfl (.cons rfl (.cons rfl (.cons rfl (.cons rfl (.cons rfl (.cons rfl .nil))))))))) (.cons rfl (.cons rfl .nil)) (fun _ _ h => absurd h.1 (by simp)) ?_
  intro w leL8 m s hs
  obtain ⟨restL8, iL8, l375, l376, Al375, cl375, Al376, cl376⟩ := s
  obtain ⟨hmL8, hdL8, hiL8, H, hl375, hl376⟩ := hs
  replace hdL8 : restL8 = List.drop iL8 xL3 := hdL8
  replace H : F_shape_Around_L8 (F_shape_Around_L3 N restL3 (iL3 + 1)) xL3 restL8 iL8 l375 l376 = some r := H
  replace hmL8 : m + 1 = restL8.length + 1 := hmL8
  replace hoku347_0 := hoku347_0.leR leL8
  replace hp0_0 := hp0_0.leR leL8
  replace leB := leB.trans leL8
  replace leL3 := leL3.trans leL8
  replace hl375 : SlF Al375 (l375).length cl375 := hl375
  replace hl376 : SlF Al376 (l376).length cl376 := hl376
  obtain rfl : m = restL8.length := by omega
  clear hmL8
  show Tr _ _ (LF [(3, (.slice Al375 (l375).length cl375)), (4, (.slice Al376 (l376).length cl376)), (6, (.slice Au347_0 (xL3).length cu347_0)), (16, (.slice Ap0_0 (p0).length cp0_0)), (17, (iv (p0.length : Int))), (18, (iv (iL3 : Int))), (22, (.slice Au347_0 (xL3).length cu347_0)), (23, (iv (xL3.length : Int))), (24, (iv (iL8 : Int)))]) (LE [(2, ow Al375 cl375 3 zX l375), (3, ow Al376 cl376 36 zM l376)]) _
  cases restL8 with
  | nil =>
   rw [F_shape_Around_L8.eq_1] at H
   refine Tr.sr ?_
   refine Tr.va rfl (fun _ _ h1 h2 => zn (h1.ev rfl) (h1.ev rfl)) ?_
   refine Tr.nil (Tr.zA ?_)
   refine Tr.seq ?_
   refine Tr.condF rfl (range_nil hdL8) ?_
   refine Tr.exit (Tr.zV (Tr.zV (Tr.zw (Tr.zT (Tr.zA ?_)))))
   refine Tr.region ?_
   refine Tr.va rfl (fun _ _ h1 h2 => zm (h1.ev rfl) (h1.ev rfl)) ?_
   refine Tr.mv rfl rfl ?_
   refine Tr.nil ?_
   exact Tr.zW leL3 (restL3, (iL3 + 1), l375, l376, Al375, cl375, Al376, cl376) ⟨rfl, zAI hdL3, zf hdL3, H, hl375, hl376⟩ (.cons rfl (.cons rfl (.cons rfl (.cons rfl (.cons (congrArg (fun z => some (Value.int .i64 z)) (zAH hdL3 hp0_0.form)) .nil))))) (.cons rfl (.cons rfl .nil))
  | cons xL8 restL8 =>
   rw [F_shape_Around_L8.eq_2] at H
   refine Tr.sr ?_
   refine Tr.va rfl (fun _ _ h1 h2 => zn (h1.ev rfl) (h1.ev rfl)) ?_
   refine Tr.nil (Tr.zA ?_)
   refine Tr.seq ?_
   refine Tr.condT rfl (range_on hdL8) ?_
   refine Tr.skip (Tr.zA ?_)
   refine Tr.seq ?_
   refine Tr.block ?_
   refine Tr.sr ?_
   refine Tr.mv rfl rfl ?_
   refine Tr.va rfl (fun _ _ h1 h2 => zI el_44 (h1.ev rfl) hoku347_0.form (h1.ev rfl) (Int.natCast_nonneg _) (zf hdL8)) ?_
   refine Tr.va rfl (fun _ _ h1 h2 => zQ (cs := [(iv xL8.X), (iv xL8.Y)]) ag_43 sz_43 (h1.ev rfl) (zO.take (rdF ef_TPoint hoku347_0 (range_at hdL8) h2) 2) rfl) ?_
   refine Tr.alloc 58 (wn rfl) rfl ze_43 fun b377 => ?_
   refine Tr.asg rfl rfl ?_
   refine Tr.store 58 (cs := [(iv xL8.X), (iv xL8.Y)]) [(iv xL8.X), (iv xL8.Y)] (wn rfl) rfl rfl rfl rfl sz_43 rfl rfl rfl ?_
   refine Tr.nil (Tr.zA ?_)
   refine Tr.sr ?_
   refine Tr.mv rfl rfl ?_
   refine Tr.mv rfl rfl ?_
   refine Tr.va rfl (fun _ _ h1 h2 => zm (h1.ev rfl) (h1.ev rfl)) ?_
   refine Tr.mv rfl rfl ?_
   refine Tr.va rfl (fun _ _ h1 h2 => zl un_44 (h1.ev rfl)) ?_
   obtain ⟨q378, hq378, H⟩ := bnd H
   refine Tr.va rfl (fun _ _ h1 h2 => run_md (h1.ev rfl) (h1.ev rfl) hq378) ?_
   obtain ⟨x379, hx379, H⟩ := bnd H
   obtain ⟨hx3790, hx3791, hx3792⟩ := zq hx379
   refine Tr.va rfl (fun _ _ h1 h2 => zI el_44 (h1.ev rfl) hoku347_0.form (h1.ev rfl) hx3790 hx3791) ?_
   refine Tr.va rfl (fun _ _ h1 h2 => zQ (cs := [(iv x379.X), (iv x379.Y)]) ag_43 sz_43 (h1.ev rfl) (zO.take (rdF ef_TPoint hoku347_0 hx3792 h2) 2) rfl) ?_
   refine Tr.alloc 59 (wn rfl) rfl ze_43 fun b380 => ?_
   refine Tr.store 59 (cs := [(iv x379.X), (iv x379.Y)]) [(iv x379.X), (iv x379.Y)] (wn rfl) rfl rfl rfl rfl sz_43 rfl rfl rfl ?_
   refine Tr.nil (Tr.zA ?_)
   refine Tr.sr ?_
   refine Tr.mv rfl rfl ?_
   refine Tr.va rfl (fun _ _ h1 h2 => zB fo_43_1 (h1.ev rfl)) ?_
   refine Tr.va rfl (fun _ _ h1 h2 => zC ag_3 (h1.ev rfl) (rdb h2 (vs := [(iv xL8.X), (iv xL8.Y)]) (k := 58) rfl 1) rfl) ?_
   refine Tr.buildSlice 60 (e := 3) (vs := [(0, (iv xL8.Y))]) (cs := [(iv xL8.Y)]) (wn rfl) rfl (zY rfl evs_nil) (by kernel_rfl) fun b381 => ?_
   obtain ⟨l382, hl382, H⟩ := bnd H
   refine Tr.append 2 (t := zX) (l := l375) (l2 := [xL8.Y]) (wn rfl) rfl rfl rfl rfl (fun W hW => ⟨[[(iv xL8.Y)]], (.cons ⟨(), trivial, rfl⟩ .nil), rdb hW (vs := [(iv xL8.Y)]) (k := 60) rfl 0⟩) un_38 sz_3 zl_3 (by decide) by_3 rfl hl382 fun Al382 cl382 hAl382 => ?_
   refine Tr.asg rfl rfl ?_
   refine Tr.nil (Tr.zA ?_)
   refine Tr.sr ?_
   refine Tr.va rfl (fun _ _ h1 h2 => zB fo_43_0 (h1.ev rfl)) ?_
   refine Tr.va rfl (fun _ _ h1 h2 => zC ag_3 (h1.ev rfl) (rdb h2 (vs := [(iv xL8.X), (iv xL8.Y)]) (k := 58) rfl 0) rfl) ?_
   refine Tr.va rfl (fun _ _ h1 h2 => zB fo_43_0 (h1.ev rfl)) ?_
   refine Tr.va rfl (fun _ _ h1 h2 => zC ag_3 (h1.ev rfl) (rdb h2 (vs := [(iv x379.X), (iv x379.Y)]) (k := 59) rfl 0) rfl) ?_
   refine Tr.va rfl (fun _ _ h1 h2 => run_eql (h1.ev rfl) (h1.ev rfl)) ?_
   refine Tr.nil (Tr.zA ?_)
   refine Tr.cond rfl H (fun H => ?_) (fun H => ?_)
   ·refine Tr.region ?_
    refine Tr.mv rfl rfl ?_
    refine Tr.va rfl (fun _ _ h1 h2 => zB fo_43_0 (h1.ev rfl)) ?_
    refine Tr.va rfl (fun _ _ h1 h2 => zC ag_3 (h1.ev rfl) (rdb h2 (vs := [(iv xL8.X), (iv xL8.Y)]) (k := 58) rfl 0) rfl) ?_
    refine Tr.va rfl (fun _ _ h1 h2 => zB fo_43_1 (h1.ev rfl)) ?_
    refine Tr.va rfl (fun _ _ h1 h2 => zC ag_3 (h1.ev rfl) (rdb h2 (vs := [(iv xL8.X), (iv xL8.Y)]) (k := 58) rfl 1) rfl) ?_
    refine Tr.va rfl (fun _ _ h1 h2 => zB fo_43_1 (h1.ev rfl)) ?_
    refine Tr.va rfl (fun _ _ h1 h2 => zC ag_3 (h1.ev rfl) (rdb h2 (vs := [(iv x379.X), (iv x379.Y)]) (k := 59) rfl 1) rfl) ?_
    refine Tr.va rfl (fun _ _ h1 h2 => run_min (h1.ev rfl) (h1.ev rfl) _) ?_
    refine Tr.va rfl (fun _ _ h1 h2 => zB fo_43_1 (h1.ev rfl)) ?_
    refine Tr.va rfl (fun _ _ h1 h2 => zC ag_3 (h1.ev rfl) (rdb h2 (vs := [(iv xL8.X), (iv xL8.Y)]) (k := 58) rfl 1) rfl) ?_
    refine Tr.va rfl (fun _ _ h1 h2 => zB fo_43_1 (h1.ev rfl)) ?_
    refine Tr.va rfl (fun _ _ h1 h2 => zC ag_3 (h1.ev rfl) (rdb h2 (vs := [(iv x379.X), (iv x379.Y)]) (k := 59) rfl 1) rfl) ?_
    refine Tr.va rfl (fun _ _ h1 h2 => run_max (h1.ev rfl) (h1.ev rfl) _) ?_
    refine Tr.build (vs := [(0, (iv xL8.X)), (1, (iv (min xL8.Y x379.Y))), (3, (iv (max xL8.Y x379.Y)))]) (cs := [(iv xL8.X), (iv (min xL8.Y x379.Y)), (iv 0), (iv (max xL8.Y x379.Y))]) (wn rfl) rfl (zY rfl (zY rfl (zY rfl evs_nil))) (by kernel_rfl) ?_
    refine Tr.buildSlice 61 (e := 36) (vs := [(0, (.agg #[(iv xL8.X), (iv (min xL8.Y x379.Y)), (iv 0), (iv (max xL8.Y x379.Y))]))]) (cs := [(iv xL8.X), (iv (min xL8.Y x379.Y)), (iv 0), (iv (max xL8.Y x379.Y))]) (wn rfl) rfl (zY rfl evs_nil) (by kernel_rfl) fun b383 => ?_
    obtain ⟨l384, hl384, H⟩ := bnd H
    refine Tr.append 3 (t := zM) (l := l376) (l2 := [(zR.mk xL8.X (min xL8.Y x379.Y) 0 (max xL8.Y x379.Y))]) (wn rfl) rfl rfl rfl rfl (fun W hW => ⟨[[(iv xL8.X), (iv (min xL8.Y x379.Y)), (iv 0), (iv (max xL8.Y x379.Y))]], (.cons ⟨(), trivial, rfl⟩ .nil), rdb hW (vs := [(iv xL8.X), (iv (min xL8.Y x379.Y)), (iv 0), (iv (max xL8.Y x379.Y))]) (k := 61) rfl 0⟩) un_31 sz_36 zl_36 (by decide) by_36 rfl hl384 fun Al384 cl384 hAl384 => ?_
    refine Tr.asg rfl rfl ?_
    refine Tr.nil (Tr.zT (Tr.zA ?_))
    refine Tr.region ?_
    refine Tr.va rfl (fun _ _ h1 h2 => zm (h1.ev rfl) (h1.ev rfl)) ?_
    refine Tr.mv rfl rfl ?_
    refine Tr.nil ?_
    exact Tr.zW leL8 (restL8, (iL8 + 1), l382, l384, Al382, cl382, Al384, cl384) ⟨rfl, zAI hdL8, zf hdL8, H, hAl382, hAl384⟩ (.cons rfl (.cons rfl (.cons rfl (.cons rfl (.cons rfl (.cons rfl (.cons rfl (.cons rfl (.cons (congrArg (fun z => some (Value.int .i64 z)) (zAH hdL8 hoku347_0.form)) .nil))))))))) (.cons rfl (.cons rfl .nil))
   ·refine Tr.skip (Tr.zT (Tr.zA ?_))
    refine Tr.region ?_
    refine Tr.va rfl (fun _ _ h1 h2 => zm (h1.ev rfl) (h1.ev rfl)) ?_
    refine Tr.mv rfl rfl ?_
    refine Tr.nil ?_
    exact Tr.zW leL8 (restL8, (iL8 + 1), l382, l376, Al382, cl382, Al376, cl376) ⟨rfl, zAI hdL8, zf hdL8, H, hAl382, hl376⟩ (.cons rfl (.cons rfl (.cons rfl (.cons rfl (.cons rfl (.cons rfl (.cons rfl (.cons rfl (.cons (congrArg (fun z => some (Value.int .i64 z)) (zAH hdL8 hoku347_0.form)) .nil))))))))) (.cons rfl (.cons rfl .nil))

theorem F_plot_machine__area_1_ok {w : Bs} (p0 : zJ) (r : Bool) (H : F_plot_machine__area_1 p0 = some r) (hE : HF w w.W E0) : Calls Tryz.prog 128 [(.agg #[(iv p0.X), (iv p0.Y)])].toArray w.W fun e W' => e = .returned (.bool r) ∧ HF w W' E0 := by
 unfold F_plot_machine__area_1 at H
 have leB := Bs.Le.refl w
 refine Tr.enter (n := 6) Tryz.func128 rfl rfl rfl hE ?_
 refine Tr.sr ?_
 refine Tr.box 1 (cs := [(iv p0.X), (iv p0.Y)]) (wn rfl) rfl rfl rfl fun b100 => ?_
 refine Tr.asg rfl rfl ?_
 refine Tr.nil (Tr.zA ?_)
 refine Tr.sr ?_
 refine Tr.va rfl (fun _ _ h1 h2 => zQ (cs := [(iv p0.X), (iv p0.Y)]) ag_43 sz_43 (h1.ev rfl) (zO.take (rdb h2 (vs := [(iv p0.X), (iv p0.Y)]) (k := 1) rfl 0) 2) rfl) ?_
 obtain ⟨y101, hy101, H⟩ := bnd H
 refine Tr.call0 (r := (.bool y101)) (wn rfl) rfl Tryz.call123 (zF rfl zN) (fun W hW => F_shape_IsPoint_ok p0 y101 hy101 (HF.start _)) ?_
 refine Tr.va rfl (fun _ _ h1 h2 => run_not (h1.ev rfl)) ?_
 refine Tr.asg rfl rfl ?_
 refine Tr.nil (Tr.zA ?_)
 refine Tr.ret ?_
 obtain rfl := Option.some.inj H
 exact Tr.out (m := [(.bool (!y101))]) [] (zL rfl zP) (fun W hW => ⟨rfl, hW.low leB⟩)

theorem F_plot_machine__area_ok (N : Nat) {w : Bs} (p0 : zo) (Ap0_0 : Option Addr) (cp0_0 : Nat) (hp0_0 : Sl w.R w.W zh Ap0_0 cp0_0 p0.p.Tools) (Ap0_1 : Option Addr) (cp0_1 : Nat) (hp0_1 : Sl w.R w.W zG Ap0_1 cp0_1 p0.p.Steps) (Ap0_2 : Option Addr) (cp0_2 : Nat) (hp0_2 : Sl w.R w.W zAA Ap0_2 cp0_2 p0.tools) (Ap0_3 : Option Addr) (cp0_3 : Nat) (bp0 : Nat) (p1 : (List zJ)) (Ap1_0 : Option Addr) (cp1_0 : Nat) (hp1_0 : Sl w.R w.W zAK Ap1_0 cp1_0 p1) (p2 : zJ) (r : (Int × (List zS))) (H : F_plot_machine__area N p0 p1 p2 = some r) (hE : HF w w.W (LEn [bx bp0 #[(iv p0.p.Unit), (.slice Ap0_0 (p0.p.Tools).length cp0_0), (.slice Ap0_1 (p0.p.Steps).length cp0_1), (.slice Ap0_2 (p0.tools).length cp0_2), (.slice Ap0_3 (p0.image).length cp0_3), (.bool p0.clear), (iv p0.tool), (iv p0.place.X), (iv p0.place.Y), (.bool p0.placed), (iv p0.off), (iv p0.on)] 77, ow Ap0_3 cp0_3 107 zH p0.image])) : Calls Tryz.prog 107 [(.pointer (some ⟨bp0, 0, none⟩)), (.slice Ap1_0 (p1).length cp1_0), (.agg #[(iv p2.X), (iv p2.Y)])].toArray w.W fun e W' => ∃ (w' : Bs) (u : (Option Addr × Nat)), w.Le w' ∧ e = .returned (iv r.1) ∧ (SlF u.1 (r.2).length u.2) ∧ HF w' W' (LEn [bx bp0 #[(iv p0.p.Unit), (.slice Ap0_0 (p0.p.Tools).length cp0_0), (.slice Ap0_1 (p0.p.Steps).length cp0_1), (.slice Ap0_2 (p0.tools).length cp0_2), (.slice u.1 (r.2).length u.2), (.bool p0.clear), (iv p0.tool), (iv p0.place.X), (iv p0.place.Y), (.bool p0.placed), (iv p0.off), (iv p0.on)] 77, ow u.1 u.2 107 zH r.2]) := by
 unfold F_plot_machine__area at H
 have hfhp0_3 := (hE.sl (k := 1) rfl).form
 have leB := Bs.Le.refl w
 refine Tr.enter (n := 36) Tryz.func107 rfl rfl rfl hE ?_
 refine Tr.sr ?_
 refine Tr.box 2 (cs := [(iv p2.X), (iv p2.Y)]) (wn rfl) rfl rfl rfl fun b100 => ?_
 refine Tr.asg rfl rfl ?_
 refine Tr.nil (Tr.zA ?_)
 refine Tr.sr ?_
 refine Tr.asg rfl rfl ?_
 refine Tr.nilOwn 3 43 zAK ?_
 show Tr _ _ (uf _ 7 (.slice none (([] : List zJ)).length 0)) _ _
 refine Tr.nil (Tr.zA ?_)
 refine Tr.seq ?_
 refine Tr.sr ?_
 refine Tr.mv rfl rfl ?_
 refine Tr.va rfl (fun _ _ h1 h2 => zl un_44 (h1.ev rfl)) ?_
 refine Tr.mv rfl rfl ?_
 refine Tr.nil (Tr.zA ?_)
 refine Tr.block ?_
 refine Tr.loop (σ := (List zJ) × Nat × (List zJ) × (Option Addr) × Nat) (fun m w s => m = s.1.length + 1 ∧ s.1 = List.drop s.2.1 p1 ∧ s.2.1 ≤ p1.length ∧ zAO N p0 p2 s.1 s.2.1 s.2.2.1 = some r ∧ SlF s.2.2.2.1 (s.2.2.1).length s.2.2.2.2) (fun s => [(0, (.pointer (some ⟨bp0, 0, none⟩))), (5, (.pointer (some ⟨b100, 0, none⟩))), (7, (.slice s.2.2.2.1 (s.2.2.1).length s.2.2.2.2)), (11, (.slice Ap1_0 (p1).length cp1_0)), (12, (iv (p1.length : Int))), (13, (iv (s.2.1 : Int)))]) (fun s => [(0, bx bp0 #[(iv p0.p.Unit), (.slice Ap0_0 (p0.p.Tools).length cp0_0), (.slice Ap0_1 (p0.p.Steps).length cp0_1), (.slice Ap0_2 (p0.tools).length cp0_2), (.slice Ap0_3 (p0.image).length cp0_3), (.bool p0.clear), (iv p0.tool), (iv p0.place.X), (iv p0.place.Y), (.bool p0.placed), (iv p0.off), (iv p0.on)] 77), (1, ow Ap0_3 cp0_3 107 zH p0.image), (2, bx b100 #[(iv p2.X), (iv p2.Y)] 43), (3, ow s.2.2.2.1 s.2.2.2.2 43 zAK s.2.2.1)]) (p1.length + 1) (p1, 0, ([] : List zJ), none, 0) ⟨rfl, rfl, Nat.zero_le _, H, slf_nil⟩ (.cons rfl (.cons rfl (.cons rfl (.cons rfl (.cons rfl (.cons rfl .nil)))))) (.cons rfl (.cons rfl (.cons rfl (.cons rfl .nil)))) (fun _ _ h => absurd h.1 (by simp)) ?_
 intro w leL1 m s hs
 obtain ⟨restL1, iL1, l117, Al117, cl117⟩ := s
 obtain ⟨hmL1, hdL1, hiL1, H, hl117⟩ := hs
 replace hdL1 : restL1 = List.drop iL1 p1 := hdL1
 replace H : zAO N p0 p2 restL1 iL1 l117 = some r := H
 replace hmL1 : m + 1 = restL1.length + 1 := hmL1
 replace hp0_0 := hp0_0.leR leL1
 replace hp0_1 := hp0_1.leR leL1
 replace hp0_2 := hp0_2.leR leL1
 replace hp1_0 := hp1_0.leR leL1
 replace leB := leB.trans leL1
 replace hl117 : SlF Al117 (l117).length cl117 := hl117
 obtain rfl : m = restL1.length := by omega
 clear hmL1
 show Tr _ _ (LF [(0, (.pointer (some ⟨bp0, 0, none⟩))), (5, (.pointer (some ⟨b100, 0, none⟩))), (7, (.slice Al117 (l117).length cl117)), (11, (.slice Ap1_0 (p1).length cp1_0)), (12, (iv (p1.length : Int))), (13, (iv (iL1 : Int)))]) (LE [(0, bx bp0 #[(iv p0.p.Unit), (.slice Ap0_0 (p0.p.Tools).length cp0_0), (.slice Ap0_1 (p0.p.Steps).length cp0_1), (.slice Ap0_2 (p0.tools).length cp0_2), (.slice Ap0_3 (p0.image).length cp0_3), (.bool p0.clear), (iv p0.tool), (iv p0.place.X), (iv p0.place.Y), (.bool p0.placed), (iv p0.off), (iv p0.on)] 77), (1, ow Ap0_3 cp0_3 107 zH p0.image), (2, bx b100 #[(iv p2.X), (iv p2.Y)] 43), (3, ow Al117 cl117 43 zAK l117)]) _
 cases restL1 with
 | nil =>
  rw [zAO.eq_1] at H
  refine Tr.sr ?_
  refine Tr.va rfl (fun _ _ h1 h2 => zn (h1.ev rfl) (h1.ev rfl)) ?_
  refine Tr.nil (Tr.zA ?_)
  refine Tr.seq ?_
  refine Tr.condF rfl (range_nil hdL1) ?_
  refine Tr.exit (Tr.zV (Tr.zV (Tr.zw (Tr.zA ?_))))
  refine Tr.sr ?_
  refine Tr.mv rfl rfl ?_
  refine Tr.freeze 3 rfl fun w le119 hz118 => ?_
  replace hp0_0 := hp0_0.leR le119
  replace hp0_1 := hp0_1.leR le119
  replace hp0_2 := hp0_2.leR le119
  replace hp1_0 := hp1_0.leR le119
  replace leB := leB.trans le119
  replace leL1 := leL1.trans le119
  refine Tr.buildSlice 8 (e := 44) (vs := [(0, (.slice Al117 (l117).length cl117))]) (cs := [(.slice Al117 (l117).length cl117)]) (wn rfl) rfl (zY rfl evs_nil) (by kernel_rfl) fun b120 => ?_
  refine Tr.own 8 fl_LTPoint [l117] (css := [[(.slice Al117 (l117).length cl117)]]) rfl (.cons ⟨(Al117, cl117), hz118, rfl⟩ .nil) rfl (by decide) (lit_max rfl) ?_
  obtain ⟨y121, hy121, H⟩ := bnd H
  refine Tr.callG [9] [emp] (U := (Option Addr × Nat)) (fun u => (.slice u.1 (y121).length u.2)) (fun O W u => SlF u.1 (y121).length u.2) (fun u => [ow u.1 u.2 107 zH y121]) rfl (zK rfl za) (fun _ => rfl) (wn rfl) rfl Tryz.call127 (zF rfl zN) (fun W hW hp hE => F_shape_Around_ok N [l117] (some ⟨b120, 0, none⟩) 1 (hW.slS (k := 8) rfl hp rfl) y121 hy121 hE) ?_
  intro w u le122 hu
  obtain ⟨Ay121_0, cy121_0⟩ := u
  have gy121_0 := hu
  replace hp0_0 := hp0_0.leR le122
  replace hp0_1 := hp0_1.leR le122
  replace hp0_2 := hp0_2.leR le122
  replace hz118 := hz118.le le122
  replace hp1_0 := hp1_0.leR le122
  replace leB := leB.trans le122
  replace leL1 := leL1.trans le122
  have hgy121_0 : SlF Ay121_0 (y121).length cy121_0 := gy121_0 --@phi
  show Tr _ _ (uf _ 27 (.slice Ay121_0 (y121).length cy121_0)) (up _ 9 (ow Ay121_0 cy121_0 107 zH y121)) _
  refine Tr.asg rfl rfl ?_
  refine Tr.nil (Tr.zA ?_)
  refine Tr.seq ?_
  refine Tr.sr ?_
  refine Tr.mv rfl rfl ?_
  obtain ⟨y123, hy123, H⟩ := bnd H
  refine Tr.call0 (r := (iv y123)) (wn rfl) rfl Tryz.call89 (zF rfl zN) (fun W hW => F_shape_Set__Many_ok y121 Ay121_0 cy121_0 (hW.slCall (k := 9) rfl) y123 hy123 (HF.start _)) ?_
  refine Tr.va rfl (fun _ _ h1 h2 => run_gtr (h1.ev rfl) (h1.ev rfl)) ?_
  refine Tr.nil (Tr.zA ?_)
  refine Tr.cond rfl H (fun H => ?_) (fun H => ?_)
  ·refine Tr.sr ?_
   refine Tr.asg rfl rfl ?_
   refine Tr.nil (Tr.zA ?_)
   refine Tr.ret (Tr.zU ?_)
   obtain rfl := Option.some.inj H
   exact Tr.out (m := [(iv 2)]) [] (zL rfl zP) (fun W hW => ⟨w, (Ap0_3, cp0_3), leB, rfl, hfhp0_3, hW.pick (ks := [0, 1]) (by decide) (zK rfl (zK rfl za))⟩)
  ·refine Tr.skip (Tr.zA ?_)
   refine Tr.seq ?_
   refine Tr.sr ?_
   refine Tr.mv rfl rfl ?_
   obtain ⟨y124, hy124, H⟩ := bnd H
   refine Tr.call0 (r := (.bool y124)) (wn rfl) rfl Tryz.call98 (zF rfl (zF rfl zN)) (fun W hW => F_slices_ContainsFunc_Point_ok l117 Al117 cl117 (hz118.rl.ext hW.extAll) (fun z0 => F_plot_machine__area_1 z0) 128 [] Tryz.call128 (fun w' he z0 y hy => F_plot_machine__area_1_ok z0 y hy (HF.start _)) y124 hy124 (HF.start _)) ?_
   refine Tr.nil (Tr.zA ?_)
   refine Tr.cond rfl H (fun H => ?_) (fun H => ?_)
   ·refine Tr.sr ?_
    refine Tr.asg rfl rfl ?_
    refine Tr.nil (Tr.zA ?_)
    refine Tr.ret (Tr.zU ?_)
    obtain rfl := Option.some.inj H
    exact Tr.out (m := [(iv 1)]) [] (zL rfl zP) (fun W hW => ⟨w, (Ap0_3, cp0_3), leB, rfl, hfhp0_3, hW.pick (ks := [0, 1]) (by decide) (zK rfl (zK rfl za))⟩)
   ·refine Tr.skip (Tr.zA ?_)
    refine Tr.sr ?_
    refine Tr.mv rfl rfl ?_
    refine Tr.mv rfl rfl ?_
    refine Tr.freeze 9 rfl fun w le126 hz125 => ?_
    replace hp0_0 := hp0_0.leR le126
    replace hp0_1 := hp0_1.leR le126
    replace hp0_2 := hp0_2.leR le126
    replace hz118 := hz118.le le126
    replace hp1_0 := hp1_0.leR le126
    replace leB := leB.trans le126
    replace leL1 := leL1.trans le126
    obtain ⟨y127, hy127, H⟩ := bnd H
    refine Tr.callG [0, 1] [bx bp0 #[(iv p0.p.Unit), (.slice Ap0_0 (p0.p.Tools).length cp0_0), (.slice Ap0_1 (p0.p.Steps).length cp0_1), (.slice Ap0_2 (p0.tools).length cp0_2), (.slice Ap0_3 (p0.image).length cp0_3), (.bool p0.clear), (iv p0.tool), (iv p0.place.X), (iv p0.place.Y), (.bool p0.placed), (iv p0.off), (iv p0.on)] 77, ow Ap0_3 cp0_3 107 zH p0.image] (U := (Option Addr × Nat)) (fun u => (iv y127.1)) (fun O W u => SlF u.1 (y127.2).length u.2) (fun u => [bx bp0 #[(iv p0.p.Unit), (.slice Ap0_0 (p0.p.Tools).length cp0_0), (.slice Ap0_1 (p0.p.Steps).length cp0_1), (.slice Ap0_2 (p0.tools).length cp0_2), (.slice u.1 (y127.2).length u.2), (.bool p0.clear), (iv p0.tool), (iv p0.place.X), (iv p0.place.Y), (.bool p0.placed), (iv p0.off), (iv p0.on)] 77, ow u.1 u.2 107 zH y127.2]) rfl (zK rfl (zK rfl za)) (fun _ => rfl) (wn rfl) rfl Tryz.call125 (zF rfl (zF rfl zN)) (fun W hW hp hE => F_plot_machine__draw_ok N p0 Ap0_0 cp0_0 (hp0_0.ext (hW.extS hp)) Ap0_1 cp0_1 (hp0_1.ext (hW.extS hp)) Ap0_2 cp0_2 (hp0_2.ext (hW.extS hp)) Ap0_3 cp0_3 bp0 y121 Ay121_0 cy121_0 (hz125.extO (hW.extS hp)) y127 hy127 hE) ?_
    intro w u le128 hu
    obtain ⟨Ay127_0, cy127_0⟩ := u
    have gy127_0 := hu
    replace hp0_0 := hp0_0.leR le128
    replace hp0_1 := hp0_1.leR le128
    replace hp0_2 := hp0_2.leR le128
    replace hz118 := hz118.le le128
    replace hp1_0 := hp1_0.leR le128
    replace hz125 := hz125.le le128
    replace leB := leB.trans le128
    replace leL1 := leL1.trans le128
    have hgy127_0 : SlF Ay127_0 (y127.2).length cy127_0 := gy127_0 --@phi
    show Tr _ _ (uf _ 35 (iv y127.1)) (up (up _ 1 (ow Ay127_0 cy127_0 107 zH y127.2)) 0 (bx bp0 #[(iv p0.p.Unit), (.slice Ap0_0 (p0.p.Tools).length cp0_0), (.slice Ap0_1 (p0.p.Steps).length cp0_1), (.slice Ap0_2 (p0.tools).length cp0_2), (.slice Ay127_0 (y127.2).length cy127_0), (.bool p0.clear), (iv p0.tool), (iv p0.place.X), (iv p0.place.Y), (.bool p0.placed), (iv p0.off), (iv p0.on)] 77)) _
    refine Tr.asg rfl rfl ?_
    refine Tr.nil (Tr.zA ?_)
    refine Tr.ret ?_
    obtain rfl := Option.some.inj H
    exact Tr.out (m := [(iv y127.1)]) [] (zL rfl zP) (fun W hW => ⟨w, (Ay127_0, cy127_0), leB, rfl, hgy127_0, hW.pick (ks := [0, 1]) (by decide) (zK rfl (zK rfl za))⟩)
 | cons xL1 restL1 =>
  rw [zAO.eq_2] at H
  refine Tr.sr ?_
  refine Tr.va rfl (fun _ _ h1 h2 => zn (h1.ev rfl) (h1.ev rfl)) ?_
  refine Tr.nil (Tr.zA ?_)
  refine Tr.seq ?_
  refine Tr.condT rfl (range_on hdL1) ?_
  refine Tr.skip (Tr.zA ?_)
  refine Tr.seq ?_
  refine Tr.block ?_
  refine Tr.sr ?_
  refine Tr.va rfl (fun _ _ h1 h2 => zI el_44 (h1.ev rfl) hp1_0.form (h1.ev rfl) (Int.natCast_nonneg _) (zf hdL1)) ?_
  refine Tr.va rfl (fun _ _ h1 h2 => zQ (cs := [(iv xL1.X), (iv xL1.Y)]) ag_43 sz_43 (h1.ev rfl) (zO.take (rdF ef_TPoint hp1_0 (range_at hdL1) h2) 2) rfl) ?_
  refine Tr.alloc 10 (wn rfl) rfl ze_43 fun b129 => ?_
  refine Tr.store 10 (cs := [(iv xL1.X), (iv xL1.Y)]) [(iv xL1.X), (iv xL1.Y)] (wn rfl) rfl rfl rfl rfl sz_43 rfl rfl rfl ?_
  refine Tr.nil (Tr.zA ?_)
  refine Tr.region ?_
  refine Tr.mv rfl rfl ?_
  refine Tr.mv rfl rfl ?_
  refine Tr.va rfl (fun _ _ h1 h2 => zQ (cs := [(iv xL1.X), (iv xL1.Y)]) ag_43 sz_43 (h1.ev rfl) (zO.take (rdb h2 (vs := [(iv xL1.X), (iv xL1.Y)]) (k := 10) rfl 0) 2) rfl) ?_
  refine Tr.va rfl (fun _ _ h1 h2 => zQ (cs := [(iv p2.X), (iv p2.Y)]) ag_43 sz_43 (h1.ev rfl) (zO.take (rdb h2 (vs := [(iv p2.X), (iv p2.Y)]) (k := 2) rfl 0) 2) rfl) ?_
  obtain ⟨y130, hy130, H⟩ := bnd H
  refine Tr.call0 (r := (.agg #[(iv y130.X), (iv y130.Y)])) (wn rfl) rfl Tryz.call103 (zF rfl (zF rfl (zF rfl zN))) (fun W hW => F_plot_machine__moved_ok p0 Ap0_0 cp0_0 (hp0_0.ext hW.extAll) Ap0_1 cp0_1 (hp0_1.ext hW.extAll) Ap0_2 cp0_2 (hp0_2.ext hW.extAll) Ap0_3 cp0_3 (hW.slCall (k := 1) rfl) bp0 (hW.capR (k := 0) rfl) (hW.capC (k := 0) rfl) xL1 p2 y130 hy130 (HF.start _)) ?_
  refine Tr.buildSlice 11 (e := 43) (vs := [(0, (.agg #[(iv y130.X), (iv y130.Y)]))]) (cs := [(iv y130.X), (iv y130.Y)]) (wn rfl) rfl (zY rfl evs_nil) (by kernel_rfl) fun b131 => ?_
  obtain ⟨l132, hl132, H⟩ := bnd H
  refine Tr.append 3 (t := zAK) (l := l117) (l2 := [y130]) (wn rfl) rfl rfl rfl rfl (fun W hW => ⟨[[(iv y130.X), (iv y130.Y)]], (.cons ⟨(), trivial, rfl⟩ .nil), rdb hW (vs := [(iv y130.X), (iv y130.Y)]) (k := 11) rfl 0⟩) un_44 sz_43 zl_43 (by decide) by_43 rfl hl132 fun Al132 cl132 hAl132 => ?_
  refine Tr.asg rfl rfl ?_
  refine Tr.nil (Tr.zT (Tr.zA ?_))
  refine Tr.region ?_
  refine Tr.va rfl (fun _ _ h1 h2 => zm (h1.ev rfl) (h1.ev rfl)) ?_
  refine Tr.mv rfl rfl ?_
  refine Tr.nil ?_
  exact Tr.zW leL1 (restL1, (iL1 + 1), l132, Al132, cl132) ⟨rfl, zAI hdL1, zf hdL1, H, hAl132⟩ (.cons rfl (.cons rfl (.cons rfl (.cons rfl (.cons rfl (.cons (congrArg (fun z => some (Value.int .i64 z)) (zAH hdL1 hp1_0.form)) .nil)))))) (.cons rfl (.cons rfl (.cons rfl (.cons rfl .nil))))

theorem F_plot_machine__step_ok (rec : zo → (List zD) → zJ → Option (Int × Bool × Int × Int × Int × Bool × Int × Int × (List zS))) (hrec : ∀ {w : Bs} (p0 : zo) (Ap0_0 : Option Addr) (cp0_0 : Nat) (hp0_0 : Sl w.R w.W zh Ap0_0 cp0_0 p0.p.Tools) (Ap0_1 : Option Addr) (cp0_1 : Nat) (hp0_1 : Sl w.R w.W zG Ap0_1 cp0_1 p0.p.Steps) (Ap0_2 : Option Addr) (cp0_2 : Nat) (hp0_2 : Sl w.R w.W zAA Ap0_2 cp0_2 p0.tools) (Ap0_3 : Option Addr) (cp0_3 : Nat) (bp0 : Nat) (p1 : (List zD)) (Ap1_0 : Option Addr) (cp1_0 : Nat) (hp1_0 : Sl w.R w.W zG Ap1_0 cp1_0 p1) (p2 : zJ) (r : (Int × Bool × Int × Int × Int × Bool × Int × Int × (List zS))) (H : rec p0 p1 p2 = some r) (hE : HF w w.W (LEn [bx bp0 #[(iv p0.p.Unit), (.slice Ap0_0 (p0.p.Tools).length cp0_0), (.slice Ap0_1 (p0.p.Steps).length cp0_1), (.slice Ap0_2 (p0.tools).length cp0_2), (.slice Ap0_3 (p0.image).length cp0_3), (.bool p0.clear), (iv p0.tool), (iv p0.place.X), (iv p0.place.Y), (.bool p0.placed), (iv p0.off), (iv p0.on)] 77, ow Ap0_3 cp0_3 107 zH p0.image])), Calls Tryz.prog 56 [(.pointer (some ⟨bp0, 0, none⟩)), (.slice Ap1_0 (p1).length cp1_0), (.agg #[(iv p2.X), (iv p2.Y)])].toArray w.W fun e W' => ∃ (w' : Bs) (u : (Option Addr × Nat)), w.Le w' ∧ e = .returned (iv r.1) ∧ (SlF u.1 (r.2.2.2.2.2.2.2.2).length u.2) ∧ HF w' W' (LEn [bx bp0 #[(iv p0.p.Unit), (.slice Ap0_0 (p0.p.Tools).length cp0_0), (.slice Ap0_1 (p0.p.Steps).length cp0_1), (.slice Ap0_2 (p0.tools).length cp0_2), (.slice u.1 (r.2.2.2.2.2.2.2.2).length u.2), (.bool r.2.1), (iv r.2.2.1), (iv r.2.2.2.1), (iv r.2.2.2.2.1), (.bool r.2.2.2.2.2.1), (iv r.2.2.2.2.2.2.1), (iv r.2.2.2.2.2.2.2.1)] 77, ow u.1 u.2 107 zH r.2.2.2.2.2.2.2.2])) (N : Nat) {w : Bs} (p0 : zo) (Ap0_0 : Option Addr) (cp0_0 : Nat) (hp0_0 : Sl w.R w.W zh Ap0_0 cp0_0 p0.p.Tools) (Ap0_1 : Option Addr) (cp0_1 : Nat) (hp0_1 : Sl w.R w.W zG Ap0_1 cp0_1 p0.p.Steps) (Ap0_2 : Option Addr) (cp0_2 : Nat) (hp0_2 : Sl w.R w.W zAA Ap0_2 cp0_2 p0.tools) (Ap0_3 : Option Addr) (cp0_3 : Nat) (bp0 : Nat) (p1 : zD) (Ap1_0 : Option Addr) (cp1_0 : Nat) (hp1_0 : Sl w.R w.W zAK Ap1_0 cp1_0 p1.Points) (Ap1_1 : Option Addr) (cp1_1 : Nat) (hp1_1 : Sl w.R w.W zG Ap1_1 cp1_1 p1.Steps) (p2 : zJ) (r : (Int × Bool × Int × Int × Int × Bool × Int × Int × (List zS))) (H : F_plot_machine__step rec N p0 p1 p2 = some r) (hE : HF w w.W (LEn [bx bp0 #[(iv p0.p.Unit), (.slice Ap0_0 (p0.p.Tools).length cp0_0), (.slice Ap0_1 (p0.p.Steps).length cp0_1), (.slice Ap0_2 (p0.tools).length cp0_2), (.slice Ap0_3 (p0.image).length cp0_3), (.bool p0.clear), (iv p0.tool), (iv p0.place.X), (iv p0.place.Y), (.bool p0.placed), (iv p0.off), (iv p0.on)] 77, ow Ap0_3 cp0_3 107 zH p0.image])) : Calls Tryz.prog 78 [(.pointer (some ⟨bp0, 0, none⟩)), (.agg #[(iv p1.Kind), (sv p1.Name), (iv p1.At.X), (iv p1.At.Y), (.slice Ap1_0 (p1.Points).length cp1_0), (iv p1.NX), (iv p1.NY), (.slice Ap1_1 (p1.Steps).length cp1_1)]), (.agg #[(iv p2.X), (iv p2.Y)])].toArray w.W fun e W' => ∃ (w' : Bs) (u : (Option Addr × Nat)), w.Le w' ∧ e = .returned (iv r.1) ∧ (SlF u.1 (r.2.2.2.2.2.2.2.2).length u.2) ∧ HF w' W' (LEn [bx bp0 #[(iv p0.p.Unit), (.slice Ap0_0 (p0.p.Tools).length cp0_0), (.slice Ap0_1 (p0.p.Steps).length cp0_1), (.slice Ap0_2 (p0.tools).length cp0_2), (.slice u.1 (r.2.2.2.2.2.2.2.2).length u.2), (.bool r.2.1), (iv r.2.2.1), (iv r.2.2.2.1), (iv r.2.2.2.2.1), (.bool r.2.2.2.2.2.1), (iv r.2.2.2.2.2.2.1), (iv r.2.2.2.2.2.2.2.1)] 77, ow u.1 u.2 107 zH r.2.2.2.2.2.2.2.2]) := by
 unfold F_plot_machine__step at H
 have hfhp0_3 := (hE.sl (k := 1) rfl).form
 have leB := Bs.Le.refl w
 refine Tr.enter (n := 116) Tryz.func78 rfl rfl rfl hE ?_
 refine Tr.sr ?_
 refine Tr.box 2 (cs := [(iv p1.Kind), (sv p1.Name), (iv p1.At.X), (iv p1.At.Y), (.slice Ap1_0 (p1.Points).length cp1_0), (iv p1.NX), (iv p1.NY), (.slice Ap1_1 (p1.Steps).length cp1_1)]) (wn rfl) rfl rfl rfl fun b100 => ?_
 refine Tr.box 3 (cs := [(iv p2.X), (iv p2.Y)]) (wn rfl) rfl rfl rfl fun b101 => ?_
 refine Tr.asg rfl rfl ?_
 refine Tr.nil (Tr.zA ?_)
 refine Tr.sr ?_
 refine Tr.mv rfl rfl ?_
 refine Tr.va rfl (fun _ _ h1 h2 => zB fo_46_2 (h1.ev rfl)) ?_
 refine Tr.va rfl (fun _ _ h1 h2 => zQ (cs := [(iv p1.At.X), (iv p1.At.Y)]) ag_43 sz_43 (h1.ev rfl) (zO.take (rdb h2 (vs := [(iv p1.Kind), (sv p1.Name), (iv p1.At.X), (iv p1.At.Y), (.slice Ap1_0 (p1.Points).length cp1_0), (iv p1.NX), (iv p1.NY), (.slice Ap1_1 (p1.Steps).length cp1_1)]) (k := 2) rfl 2) 2) rfl) ?_
 refine Tr.va rfl (fun _ _ h1 h2 => zQ (cs := [(iv p2.X), (iv p2.Y)]) ag_43 sz_43 (h1.ev rfl) (zO.take (rdb h2 (vs := [(iv p2.X), (iv p2.Y)]) (k := 3) rfl 0) 2) rfl) ?_
 obtain ⟨y102, hy102, H⟩ := bnd H
 refine Tr.call0 (r := (.agg #[(iv y102.X), (iv y102.Y)])) (wn rfl) rfl Tryz.call103 (zF rfl (zF rfl (zF rfl zN))) (fun W hW => F_plot_machine__moved_ok p0 Ap0_0 cp0_0 (hp0_0.ext hW.extAll) Ap0_1 cp0_1 (hp0_1.ext hW.extAll) Ap0_2 cp0_2 (hp0_2.ext hW.extAll) Ap0_3 cp0_3 (hW.slCall (k := 1) rfl) bp0 (hW.capR (k := 0) rfl) (hW.capC (k := 0) rfl) p1.At p2 y102 hy102 (HF.start _)) ?_
 refine Tr.alloc 4 (wn rfl) rfl ze_43 fun b103 => ?_
 refine Tr.store 4 (cs := [(iv y102.X), (iv y102.Y)]) [(iv y102.X), (iv y102.Y)] (wn rfl) rfl rfl rfl rfl sz_43 rfl rfl rfl ?_
 refine Tr.nil (Tr.zA ?_)
 have leJ295 := Bs.Le.refl w
 refine Tr.cutJ (σ := (List zS) × Bool × Int × Int × Int × Bool × Int × Int × (Option Addr) × Nat) (fun w s => zAN s.1 s.2.1 s.2.2.1 s.2.2.2.1 s.2.2.2.2.1 s.2.2.2.2.2.1 s.2.2.2.2.2.2.1 s.2.2.2.2.2.2.2.1 = some r ∧ SlF s.2.2.2.2.2.2.2.2.1 (s.1).length s.2.2.2.2.2.2.2.2.2) (fun s => []) (fun s => [(0, bx bp0 #[(iv p0.p.Unit), (.slice Ap0_0 (p0.p.Tools).length cp0_0), (.slice Ap0_1 (p0.p.Steps).length cp0_1), (.slice Ap0_2 (p0.tools).length cp0_2), (.slice s.2.2.2.2.2.2.2.2.1 (s.1).length s.2.2.2.2.2.2.2.2.2), (.bool s.2.1), (iv s.2.2.1), (iv s.2.2.2.1), (iv s.2.2.2.2.1), (.bool s.2.2.2.2.2.1), (iv s.2.2.2.2.2.2.1), (iv s.2.2.2.2.2.2.2.1)] 77), (1, ow s.2.2.2.2.2.2.2.2.1 s.2.2.2.2.2.2.2.2.2 107 zH s.1)]) ?_ ?_
 ·refine Tr.sr ?_
  refine Tr.va rfl (fun _ _ h1 h2 => zB fo_46_0 (h1.ev rfl)) ?_
  refine Tr.va rfl (fun _ _ h1 h2 => zC ag_3 (h1.ev rfl) (rdb h2 (vs := [(iv p1.Kind), (sv p1.Name), (iv p1.At.X), (iv p1.At.Y), (.slice Ap1_0 (p1.Points).length cp1_0), (iv p1.NX), (iv p1.NY), (.slice Ap1_1 (p1.Steps).length cp1_1)]) (k := 2) rfl 0) rfl) ?_
  refine Tr.nil (Tr.zA ?_)
  refine Tr.block ?_
  have leJ298 := Bs.Le.refl w
  refine Tr.cutJ (σ := Bool) (fun w s => F_plot_machine__step_J11 N p0 p1 p2 rec y102 s = some r) (fun s => [(0, (.pointer (some ⟨bp0, 0, none⟩))), (4, (.pointer (some ⟨b100, 0, none⟩))), (5, (.pointer (some ⟨b101, 0, none⟩))), (7, (.pointer (some ⟨b103, 0, none⟩))), (18, (iv p1.Kind)), (19, (.bool s))]) (fun s => [(0, bx bp0 #[(iv p0.p.Unit), (.slice Ap0_0 (p0.p.Tools).length cp0_0), (.slice Ap0_1 (p0.p.Steps).length cp0_1), (.slice Ap0_2 (p0.tools).length cp0_2), (.slice Ap0_3 (p0.image).length cp0_3), (.bool p0.clear), (iv p0.tool), (iv p0.place.X), (iv p0.place.Y), (.bool p0.placed), (iv p0.off), (iv p0.on)] 77), (1, ow Ap0_3 cp0_3 107 zH p0.image), (2, bx b100 #[(iv p1.Kind), (sv p1.Name), (iv p1.At.X), (iv p1.At.Y), (.slice Ap1_0 (p1.Points).length cp1_0), (iv p1.NX), (iv p1.NY), (.slice Ap1_1 (p1.Steps).length cp1_1)] 46), (3, bx b101 #[(iv p2.X), (iv p2.Y)] 43), (4, bx b103 #[(iv y102.X), (iv y102.Y)] 43)]) ?_ ?_
  ·refine Tr.sr ?_
   refine Tr.va rfl (fun _ _ h1 h2 => run_eql (h1.ev rfl) (h1.ev rfl)) ?_
   refine Tr.asg rfl rfl ?_
   refine Tr.nil (Tr.zA ?_)
   refine Tr.cond rfl H (fun H => ?_) (fun H => ?_)
   ·refine Tr.skip ?_
    exact Tr.zW leJ298 (p1.Kind == 1) H (.cons rfl (.cons rfl (.cons rfl (.cons rfl (.cons rfl (.cons rfl .nil)))))) (.cons rfl (.cons rfl (.cons rfl (.cons rfl (.cons rfl .nil)))))
   ·refine Tr.region ?_
    refine Tr.va rfl (fun _ _ h1 h2 => run_eql (h1.ev rfl) (h1.ev rfl)) ?_
    refine Tr.asg rfl rfl ?_
    refine Tr.nil ?_
    exact Tr.zW leJ298 (p1.Kind == 2) H (.cons rfl (.cons rfl (.cons rfl (.cons rfl (.cons rfl (.cons rfl .nil)))))) (.cons rfl (.cons rfl (.cons rfl (.cons rfl (.cons rfl .nil)))))
  ·intro w x297 hlJ299 hs
   have H := hs
   replace H : F_plot_machine__step_J11 N p0 p1 p2 rec y102 x297 = some r := H
   replace hp0_0 := hp0_0.leR hlJ299
   replace hp0_1 := hp0_1.leR hlJ299
   replace hp0_2 := hp0_2.leR hlJ299
   replace hp1_0 := hp1_0.leR hlJ299
   replace hp1_1 := hp1_1.leR hlJ299
   replace leB := leB.trans hlJ299
   replace leJ295 := leJ295.trans hlJ299
   unfold F_plot_machine__step_J11 at H
   show Tr _ _ (LF [(0, (.pointer (some ⟨bp0, 0, none⟩))), (4, (.pointer (some ⟨b100, 0, none⟩))), (5, (.pointer (some ⟨b101, 0, none⟩))), (7, (.pointer (some ⟨b103, 0, none⟩))), (18, (iv p1.Kind)), (19, (.bool x297))]) (LE [(0, bx bp0 #[(iv p0.p.Unit), (.slice Ap0_0 (p0.p.Tools).length cp0_0), (.slice Ap0_1 (p0.p.Steps).length cp0_1), (.slice Ap0_2 (p0.tools).length cp0_2), (.slice Ap0_3 (p0.image).length cp0_3), (.bool p0.clear), (iv p0.tool), (iv p0.place.X), (iv p0.place.Y), (.bool p0.placed), (iv p0.off), (iv p0.on)] 77), (1, ow Ap0_3 cp0_3 107 zH p0.image), (2, bx b100 #[(iv p1.Kind), (sv p1.Name), (iv p1.At.X), (iv p1.At.Y), (.slice Ap1_0 (p1.Points).length cp1_0), (iv p1.NX), (iv p1.NY), (.slice Ap1_1 (p1.Steps).length cp1_1)] 46), (3, bx b101 #[(iv p2.X), (iv p2.Y)] 43), (4, bx b103 #[(iv y102.X), (iv y102.Y)] 43)]) _
   refine Tr.cond rfl H (fun H => ?_) (fun H => ?_)
   ·refine Tr.region ?_
    refine Tr.mv rfl rfl ?_
    refine Tr.va rfl (fun _ _ h1 h2 => zB fo_46_0 (h1.ev rfl)) ?_
    refine Tr.va rfl (fun _ _ h1 h2 => zC ag_3 (h1.ev rfl) (rdb h2 (vs := [(iv p1.Kind), (sv p1.Name), (iv p1.At.X), (iv p1.At.Y), (.slice Ap1_0 (p1.Points).length cp1_0), (iv p1.NX), (iv p1.NY), (.slice Ap1_1 (p1.Steps).length cp1_1)]) (k := 2) rfl 0) rfl) ?_
    refine Tr.va rfl (fun _ _ h1 h2 => run_eql (h1.ev rfl) (h1.ev rfl)) ?_
    refine Tr.va rfl (fun _ _ h1 h2 => zg (h1.ev rfl)) ?_
    refine Tr.va rfl (fun _ _ h1 h2 => zB fo_77_3 (h1.ev rfl)) ?_
    refine Tr.store 0 (cs := [(.bool (p1.Kind == 2))]) [(iv p0.p.Unit), (.slice Ap0_0 (p0.p.Tools).length cp0_0), (.slice Ap0_1 (p0.p.Steps).length cp0_1), (.slice Ap0_2 (p0.tools).length cp0_2), (.slice Ap0_3 (p0.image).length cp0_3), (.bool (p1.Kind == 2)), (iv p0.tool), (iv p0.place.X), (iv p0.place.Y), (.bool p0.placed), (iv p0.off), (iv p0.on)] (wn rfl) rfl rfl rfl rfl sz_4 rfl rfl rfl ?_
    refine Tr.nil (Tr.zT ?_)
    exact Tr.zW leJ295 (p0.image, (p1.Kind == 2), p0.tool, p0.place.X, p0.place.Y, p0.placed, p0.off, p0.on, Ap0_3, cp0_3) ⟨H, hfhp0_3⟩ .nil (.cons rfl (.cons rfl .nil))
   ·refine Tr.sr ?_
    refine Tr.va rfl (fun _ _ h1 h2 => run_eql (h1.ev rfl) (h1.ev rfl)) ?_
    refine Tr.asg rfl rfl ?_
    refine Tr.nil (Tr.zA ?_)
    refine Tr.cond rfl H (fun H => ?_) (fun H => ?_)
    ·refine Tr.drawTail 8 (by kernel_rfl) (by kernel_rfl) ?_
     refine Tq.mv rfl rfl ?_
     refine Tq.mv rfl rfl ?_
     refine Tq.va rfl (fun _ _ h1 h2 => zg (h1.ev rfl)) ?_
     refine Tq.va rfl (fun _ _ h1 h2 => zB fo_77_0 (h1.ev rfl)) ?_
     refine Tq.va rfl (fun _ _ h1 h2 => zQ (cs := [(iv p0.p.Unit), (.slice Ap0_0 (p0.p.Tools).length cp0_0), (.slice Ap0_1 (p0.p.Steps).length cp0_1)]) ag_25 sz_25 (h1.ev rfl) (zO.take (rdb h2 (vs := [(iv p0.p.Unit), (.slice Ap0_0 (p0.p.Tools).length cp0_0), (.slice Ap0_1 (p0.p.Steps).length cp0_1), (.slice Ap0_2 (p0.tools).length cp0_2), (.slice Ap0_3 (p0.image).length cp0_3), (.bool p0.clear), (iv p0.tool), (iv p0.place.X), (iv p0.place.Y), (.bool p0.placed), (iv p0.off), (iv p0.on)]) (k := 0) rfl 0) 3) rfl) ?_
     refine Tq.va rfl (fun _ _ h1 h2 => zB fo_46_1 (h1.ev rfl)) ?_
     refine Tq.va rfl (fun _ _ h1 h2 => zC ag_9 (h1.ev rfl) (rdb h2 (vs := [(iv p1.Kind), (sv p1.Name), (iv p1.At.X), (iv p1.At.Y), (.slice Ap1_0 (p1.Points).length cp1_0), (iv p1.NX), (iv p1.NY), (.slice Ap1_1 (p1.Steps).length cp1_1)]) (k := 2) rfl 1) rfl) ?_
     obtain ⟨y300, hy300, H⟩ := bnd H
     refine Tq.call0 (r := (iv y300)) (wn rfl) rfl Tryz.call96 (zF rfl (zF rfl zN)) (fun W hW => F_plot_toolAt_ok p0.p Ap0_0 cp0_0 (hp0_0.ext hW.extAll) Ap0_1 cp0_1 (hp0_1.ext hW.extAll) p1.Name y300 hy300 (HF.start _)) ?_
     refine Tq.nil ?_
     refine Tr.va rfl (fun _ _ h1 h2 => zg (h1.ev rfl)) ?_
     refine Tr.va rfl (fun _ _ h1 h2 => zB fo_77_4 (h1.ev rfl)) ?_
     refine Tr.store 0 (cs := [(iv y300)]) [(iv p0.p.Unit), (.slice Ap0_0 (p0.p.Tools).length cp0_0), (.slice Ap0_1 (p0.p.Steps).length cp0_1), (.slice Ap0_2 (p0.tools).length cp0_2), (.slice Ap0_3 (p0.image).length cp0_3), (.bool p0.clear), (iv y300), (iv p0.place.X), (iv p0.place.Y), (.bool p0.placed), (iv p0.off), (iv p0.on)] (wn rfl) rfl rfl rfl rfl sz_3 rfl rfl rfl ?_
     refine Tr.nil (Tr.zT ?_)
     exact Tr.zW leJ295 (p0.image, p0.clear, y300, p0.place.X, p0.place.Y, p0.placed, p0.off, p0.on, Ap0_3, cp0_3) ⟨H, hfhp0_3⟩ .nil (.cons rfl (.cons rfl .nil))
    ·refine Tr.sr ?_
     refine Tr.va rfl (fun _ _ h1 h2 => run_eql (h1.ev rfl) (h1.ev rfl)) ?_
     refine Tr.asg rfl rfl ?_
     refine Tr.nil (Tr.zA ?_)
     refine Tr.cond rfl H (fun H => ?_) (fun H => ?_)
     ·refine Tr.seq ?_
      refine Tr.drawTail 5 (by kernel_rfl) (by kernel_rfl) ?_
      refine Tq.mv rfl rfl ?_
      refine Tq.va rfl (fun _ _ h1 h2 => zQ (cs := [(iv y102.X), (iv y102.Y)]) ag_43 sz_43 (h1.ev rfl) (zO.take (rdb h2 (vs := [(iv y102.X), (iv y102.Y)]) (k := 4) rfl 0) 2) rfl) ?_
      refine Tq.mv rfl rfl ?_
      refine Tq.va rfl (fun _ _ h1 h2 => zg (h1.ev rfl)) ?_
      refine Tq.va rfl (fun _ _ h1 h2 => zB fo_77_7 (h1.ev rfl)) ?_
      refine Tq.nil ?_
      obtain ⟨y301, hy301, H⟩ := bnd H
      refine Tr.callM [0] [bx bp0 #[(iv p0.p.Unit), (.slice Ap0_0 (p0.p.Tools).length cp0_0), (.slice Ap0_1 (p0.p.Steps).length cp0_1), (.slice Ap0_2 (p0.tools).length cp0_2), (.slice Ap0_3 (p0.image).length cp0_3), (.bool p0.clear), (iv p0.tool), (iv p0.place.X), (iv p0.place.Y), (.bool p0.placed), (iv p0.off), (iv p0.on)] 77] (U := Unit) (fun u => (iv y301.1)) (fun u => True) (fun u => [bx bp0 #[(iv p0.p.Unit), (.slice Ap0_0 (p0.p.Tools).length cp0_0), (.slice Ap0_1 (p0.p.Steps).length cp0_1), (.slice Ap0_2 (p0.tools).length cp0_2), (.slice Ap0_3 (p0.image).length cp0_3), (.bool p0.clear), (iv p0.tool), (iv y301.2.1), (iv y301.2.2.1), (.bool y301.2.2.2.1), (iv y301.2.2.2.2), (iv p0.on)] 77]) rfl (zK rfl za) (fun _ => rfl) (wn rfl) rfl Tryz.call104 (zF rfl (zF rfl (zF rfl zN))) (fun W hW hp hE => F_plot_machine__set__f0_10_ok p0 Ap0_0 cp0_0 (hp0_0.ext (hW.extS hp)) Ap0_1 cp0_1 (hp0_1.ext (hW.extS hp)) Ap0_2 cp0_2 (hp0_2.ext (hW.extS hp)) Ap0_3 cp0_3 (hW.slS (k := 1) rfl hp rfl) bp0 y102 y301 hy301 hE) ?_
      intro u hu
      show Tr _ _ (uf _ 47 (iv y301.1)) (up _ 0 (bx bp0 #[(iv p0.p.Unit), (.slice Ap0_0 (p0.p.Tools).length cp0_0), (.slice Ap0_1 (p0.p.Steps).length cp0_1), (.slice Ap0_2 (p0.tools).length cp0_2), (.slice Ap0_3 (p0.image).length cp0_3), (.bool p0.clear), (iv p0.tool), (iv y301.2.1), (iv y301.2.2.1), (.bool y301.2.2.2.1), (iv y301.2.2.2.2), (iv p0.on)] 77)) _
      refine Tr.asg rfl rfl ?_
      refine Tr.nil (Tr.zA ?_)
      refine Tr.ret (Tr.zt (Tr.zU ?_))
      obtain rfl := Option.some.inj H
      exact Tr.out (m := [(iv y301.1)]) [] (zL rfl zP) (fun W hW => ⟨w, (Ap0_3, cp0_3), leB, rfl, hfhp0_3, hW.pick (ks := [0, 1]) (by decide) (zK rfl (zK rfl za))⟩)
     ·refine Tr.sr ?_
      refine Tr.va rfl (fun _ _ h1 h2 => run_eql (h1.ev rfl) (h1.ev rfl)) ?_
      refine Tr.asg rfl rfl ?_
      refine Tr.nil (Tr.zA ?_)
      refine Tr.cond rfl H (fun H => ?_) (fun H => ?_)
      ·refine Tr.sr ?_
       refine Tr.mv rfl rfl ?_
       refine Tr.va rfl (fun _ _ h1 h2 => zQ (cs := [(iv y102.X), (iv y102.Y)]) ag_43 sz_43 (h1.ev rfl) (zO.take (rdb h2 (vs := [(iv y102.X), (iv y102.Y)]) (k := 4) rfl 0) 2) rfl) ?_
       obtain ⟨y303, hy303, H⟩ := bnd H
       refine Tr.callG [0, 1] [bx bp0 #[(iv p0.p.Unit), (.slice Ap0_0 (p0.p.Tools).length cp0_0), (.slice Ap0_1 (p0.p.Steps).length cp0_1), (.slice Ap0_2 (p0.tools).length cp0_2), (.slice Ap0_3 (p0.image).length cp0_3), (.bool p0.clear), (iv p0.tool), (iv p0.place.X), (iv p0.place.Y), (.bool p0.placed), (iv p0.off), (iv p0.on)] 77, ow Ap0_3 cp0_3 107 zH p0.image] (U := (Option Addr × Nat)) (fun u => (iv y303.1)) (fun O W u => SlF u.1 (y303.2.2.2.2.2).length u.2) (fun u => [bx bp0 #[(iv p0.p.Unit), (.slice Ap0_0 (p0.p.Tools).length cp0_0), (.slice Ap0_1 (p0.p.Steps).length cp0_1), (.slice Ap0_2 (p0.tools).length cp0_2), (.slice u.1 (y303.2.2.2.2.2).length u.2), (.bool p0.clear), (iv p0.tool), (iv y303.2.1), (iv y303.2.2.1), (.bool y303.2.2.2.1), (iv y303.2.2.2.2.1), (iv p0.on)] 77, ow u.1 u.2 107 zH y303.2.2.2.2.2]) rfl (zK rfl (zK rfl za)) (fun _ => rfl) (wn rfl) rfl Tryz.call105 (zF rfl (zF rfl zN)) (fun W hW hp hE => F_plot_machine__flash_ok N p0 Ap0_0 cp0_0 (hp0_0.ext (hW.extS hp)) Ap0_1 cp0_1 (hp0_1.ext (hW.extS hp)) Ap0_2 cp0_2 (hp0_2.ext (hW.extS hp)) Ap0_3 cp0_3 bp0 y102 y303 hy303 hE) ?_
       intro w u le304 hu
       obtain ⟨Ay303_0, cy303_0⟩ := u
       have gy303_0 := hu
       replace hp0_0 := hp0_0.leR le304
       replace hp0_1 := hp0_1.leR le304
       replace hp0_2 := hp0_2.leR le304
       replace hp1_0 := hp1_0.leR le304
       replace hp1_1 := hp1_1.leR le304
       replace leB := leB.trans le304
       replace leJ295 := leJ295.trans le304
       have hgy303_0 : SlF Ay303_0 (y303.2.2.2.2.2).length cy303_0 := gy303_0 --@phi
       show Tr _ _ (uf _ 52 (iv y303.1)) (up (up _ 1 (ow Ay303_0 cy303_0 107 zH y303.2.2.2.2.2)) 0 (bx bp0 #[(iv p0.p.Unit), (.slice Ap0_0 (p0.p.Tools).length cp0_0), (.slice Ap0_1 (p0.p.Steps).length cp0_1), (.slice Ap0_2 (p0.tools).length cp0_2), (.slice Ay303_0 (y303.2.2.2.2.2).length cy303_0), (.bool p0.clear), (iv p0.tool), (iv y303.2.1), (iv y303.2.2.1), (.bool y303.2.2.2.1), (iv y303.2.2.2.2.1), (iv p0.on)] 77)) _
       refine Tr.asg rfl rfl ?_
       refine Tr.nil (Tr.zA ?_)
       refine Tr.ret (Tr.zt (Tr.zU ?_))
       obtain rfl := Option.some.inj H
       exact Tr.out (m := [(iv y303.1)]) [] (zL rfl zP) (fun W hW => ⟨w, (Ay303_0, cy303_0), leB, rfl, hgy303_0, hW.pick (ks := [0, 1]) (by decide) (zK rfl (zK rfl za))⟩)
      ·refine Tr.sr ?_
       refine Tr.va rfl (fun _ _ h1 h2 => run_eql (h1.ev rfl) (h1.ev rfl)) ?_
       refine Tr.asg rfl rfl ?_
       refine Tr.nil (Tr.zA ?_)
       refine Tr.cond rfl H (fun H => ?_) (fun H => ?_)
       ·refine Tr.sr ?_
        refine Tr.mv rfl rfl ?_
        refine Tr.va rfl (fun _ _ h1 h2 => zQ (cs := [(iv y102.X), (iv y102.Y)]) ag_43 sz_43 (h1.ev rfl) (zO.take (rdb h2 (vs := [(iv y102.X), (iv y102.Y)]) (k := 4) rfl 0) 2) rfl) ?_
        obtain ⟨y305, hy305, H⟩ := bnd H
        refine Tr.callG [0, 1] [bx bp0 #[(iv p0.p.Unit), (.slice Ap0_0 (p0.p.Tools).length cp0_0), (.slice Ap0_1 (p0.p.Steps).length cp0_1), (.slice Ap0_2 (p0.tools).length cp0_2), (.slice Ap0_3 (p0.image).length cp0_3), (.bool p0.clear), (iv p0.tool), (iv p0.place.X), (iv p0.place.Y), (.bool p0.placed), (iv p0.off), (iv p0.on)] 77, ow Ap0_3 cp0_3 107 zH p0.image] (U := (Option Addr × Nat)) (fun u => (iv y305.1)) (fun O W u => SlF u.1 (y305.2.2.2.2.2).length u.2) (fun u => [bx bp0 #[(iv p0.p.Unit), (.slice Ap0_0 (p0.p.Tools).length cp0_0), (.slice Ap0_1 (p0.p.Steps).length cp0_1), (.slice Ap0_2 (p0.tools).length cp0_2), (.slice u.1 (y305.2.2.2.2.2).length u.2), (.bool p0.clear), (iv p0.tool), (iv y305.2.1), (iv y305.2.2.1), (.bool y305.2.2.2.1), (iv p0.off), (iv y305.2.2.2.2.1)] 77, ow u.1 u.2 107 zH y305.2.2.2.2.2]) rfl (zK rfl (zK rfl za)) (fun _ => rfl) (wn rfl) rfl Tryz.call106 (zF rfl (zF rfl zN)) (fun W hW hp hE => F_plot_machine__line_ok N p0 Ap0_0 cp0_0 (hp0_0.ext (hW.extS hp)) Ap0_1 cp0_1 (hp0_1.ext (hW.extS hp)) Ap0_2 cp0_2 (hp0_2.ext (hW.extS hp)) Ap0_3 cp0_3 bp0 y102 y305 hy305 hE) ?_
        intro w u le306 hu
        obtain ⟨Ay305_0, cy305_0⟩ := u
        have gy305_0 := hu
        replace hp0_0 := hp0_0.leR le306
        replace hp0_1 := hp0_1.leR le306
        replace hp0_2 := hp0_2.leR le306
        replace hp1_0 := hp1_0.leR le306
        replace hp1_1 := hp1_1.leR le306
        replace leB := leB.trans le306
        replace leJ295 := leJ295.trans le306
        have hgy305_0 : SlF Ay305_0 (y305.2.2.2.2.2).length cy305_0 := gy305_0 --@phi
        show Tr _ _ (uf _ 57 (iv y305.1)) (up (up _ 1 (ow Ay305_0 cy305_0 107 zH y305.2.2.2.2.2)) 0 (bx bp0 #[(iv p0.p.Unit), (.slice Ap0_0 (p0.p.Tools).length cp0_0), (.slice Ap0_1 (p0.p.Steps).length cp0_1), (.slice Ap0_2 (p0.tools).length cp0_2), (.slice Ay305_0 (y305.2.2.2.2.2).length cy305_0), (.bool p0.clear), (iv p0.tool), (iv y305.2.1), (iv y305.2.2.1), (.bool y305.2.2.2.1), (iv p0.off), (iv y305.2.2.2.2.1)] 77)) _
        refine Tr.asg rfl rfl ?_
        refine Tr.nil (Tr.zA ?_)
        refine Tr.ret (Tr.zt (Tr.zU ?_))
        obtain rfl := Option.some.inj H
        exact Tr.out (m := [(iv y305.1)]) [] (zL rfl zP) (fun W hW => ⟨w, (Ay305_0, cy305_0), leB, rfl, hgy305_0, hW.pick (ks := [0, 1]) (by decide) (zK rfl (zK rfl za))⟩)
       ·refine Tr.sr ?_
        refine Tr.va rfl (fun _ _ h1 h2 => run_eql (h1.ev rfl) (h1.ev rfl)) ?_
        refine Tr.asg rfl rfl ?_
        refine Tr.nil (Tr.zA ?_)
        refine Tr.cond rfl H (fun H => ?_) (fun H => ?_)
        ·refine Tr.sr ?_
         refine Tr.mv rfl rfl ?_
         refine Tr.va rfl (fun _ _ h1 h2 => zB fo_46_3 (h1.ev rfl)) ?_
         refine Tr.va rfl (fun _ _ h1 h2 => zC ag_44 (h1.ev rfl) (rdb h2 (vs := [(iv p1.Kind), (sv p1.Name), (iv p1.At.X), (iv p1.At.Y), (.slice Ap1_0 (p1.Points).length cp1_0), (iv p1.NX), (iv p1.NY), (.slice Ap1_1 (p1.Steps).length cp1_1)]) (k := 2) rfl 4) rfl) ?_
         refine Tr.va rfl (fun _ _ h1 h2 => zQ (cs := [(iv p2.X), (iv p2.Y)]) ag_43 sz_43 (h1.ev rfl) (zO.take (rdb h2 (vs := [(iv p2.X), (iv p2.Y)]) (k := 3) rfl 0) 2) rfl) ?_
         obtain ⟨y307, hy307, H⟩ := bnd H
         refine Tr.callG [0, 1] [bx bp0 #[(iv p0.p.Unit), (.slice Ap0_0 (p0.p.Tools).length cp0_0), (.slice Ap0_1 (p0.p.Steps).length cp0_1), (.slice Ap0_2 (p0.tools).length cp0_2), (.slice Ap0_3 (p0.image).length cp0_3), (.bool p0.clear), (iv p0.tool), (iv p0.place.X), (iv p0.place.Y), (.bool p0.placed), (iv p0.off), (iv p0.on)] 77, ow Ap0_3 cp0_3 107 zH p0.image] (U := (Option Addr × Nat)) (fun u => (iv y307.1)) (fun O W u => SlF u.1 (y307.2).length u.2) (fun u => [bx bp0 #[(iv p0.p.Unit), (.slice Ap0_0 (p0.p.Tools).length cp0_0), (.slice Ap0_1 (p0.p.Steps).length cp0_1), (.slice Ap0_2 (p0.tools).length cp0_2), (.slice u.1 (y307.2).length u.2), (.bool p0.clear), (iv p0.tool), (iv p0.place.X), (iv p0.place.Y), (.bool p0.placed), (iv p0.off), (iv p0.on)] 77, ow u.1 u.2 107 zH y307.2]) rfl (zK rfl (zK rfl za)) (fun _ => rfl) (wn rfl) rfl Tryz.call107 (zF rfl (zF rfl (zF rfl zN))) (fun W hW hp hE => F_plot_machine__area_ok N p0 Ap0_0 cp0_0 (hp0_0.ext (hW.extS hp)) Ap0_1 cp0_1 (hp0_1.ext (hW.extS hp)) Ap0_2 cp0_2 (hp0_2.ext (hW.extS hp)) Ap0_3 cp0_3 bp0 p1.Points Ap1_0 cp1_0 (hp1_0.ext (hW.extS hp)) p2 y307 hy307 hE) ?_
         intro w u le308 hu
         obtain ⟨Ay307_0, cy307_0⟩ := u
         have gy307_0 := hu
         replace hp0_0 := hp0_0.leR le308
         replace hp0_1 := hp0_1.leR le308
         replace hp0_2 := hp0_2.leR le308
         replace hp1_0 := hp1_0.leR le308
         replace hp1_1 := hp1_1.leR le308
         replace leB := leB.trans le308
         replace leJ295 := leJ295.trans le308
         have hgy307_0 : SlF Ay307_0 (y307.2).length cy307_0 := gy307_0 --@phi
         show Tr _ _ (uf _ 64 (iv y307.1)) (up (up _ 1 (ow Ay307_0 cy307_0 107 zH y307.2)) 0 (bx bp0 #[(iv p0.p.Unit), (.slice Ap0_0 (p0.p.Tools).length cp0_0), (.slice Ap0_1 (p0.p.Steps).length cp0_1), (.slice Ap0_2 (p0.tools).length cp0_2), (.slice Ay307_0 (y307.2).length cy307_0), (.bool p0.clear), (iv p0.tool), (iv p0.place.X), (iv p0.place.Y), (.bool p0.placed), (iv p0.off), (iv p0.on)] 77)) _
         refine Tr.asg rfl rfl ?_
         refine Tr.nil (Tr.zA ?_)
         refine Tr.ret (Tr.zt (Tr.zU ?_))
         obtain rfl := Option.some.inj H
         exact Tr.out (m := [(iv y307.1)]) [] (zL rfl zP) (fun W hW => ⟨w, (Ay307_0, cy307_0), leB, rfl, hgy307_0, hW.pick (ks := [0, 1]) (by decide) (zK rfl (zK rfl za))⟩)
        ·refine Tr.sr ?_
         refine Tr.va rfl (fun _ _ h1 h2 => run_eql (h1.ev rfl) (h1.ev rfl)) ?_
         refine Tr.asg rfl rfl ?_
         refine Tr.nil (Tr.zA ?_)
         refine Tr.cond rfl H (fun H => ?_) (fun H => ?_)
         ·refine Tr.sr ?_
          refine Tr.va rfl (fun _ _ h1 h2 => zB fo_46_5 (h1.ev rfl)) ?_
          refine Tr.va rfl (fun _ _ h1 h2 => zC ag_3 (h1.ev rfl) (rdb h2 (vs := [(iv p1.Kind), (sv p1.Name), (iv p1.At.X), (iv p1.At.Y), (.slice Ap1_0 (p1.Points).length cp1_0), (iv p1.NX), (iv p1.NY), (.slice Ap1_1 (p1.Steps).length cp1_1)]) (k := 2) rfl 6) rfl) ?_
          refine Tr.mv rfl rfl ?_
          refine Tr.nil (Tr.zA ?_)
          refine Tr.block ?_
          refine Tr.loop (σ := (List zS) × Bool × Int × Int × Int × Bool × Int × Int × Int × (Option Addr) × Nat) (fun m w s => zAE N p0 p1 p2 rec m s.1 s.2.1 s.2.2.1 s.2.2.2.1 s.2.2.2.2.1 s.2.2.2.2.2.1 s.2.2.2.2.2.2.1 s.2.2.2.2.2.2.2.1 s.2.2.2.2.2.2.2.2.1 = some r ∧ SlF s.2.2.2.2.2.2.2.2.2.1 (s.1).length s.2.2.2.2.2.2.2.2.2.2) (fun s => [(0, (.pointer (some ⟨bp0, 0, none⟩))), (4, (.pointer (some ⟨b100, 0, none⟩))), (5, (.pointer (some ⟨b101, 0, none⟩))), (68, (iv p1.NY)), (69, (iv s.2.2.2.2.2.2.2.2.1))]) (fun s => [(0, bx bp0 #[(iv p0.p.Unit), (.slice Ap0_0 (p0.p.Tools).length cp0_0), (.slice Ap0_1 (p0.p.Steps).length cp0_1), (.slice Ap0_2 (p0.tools).length cp0_2), (.slice s.2.2.2.2.2.2.2.2.2.1 (s.1).length s.2.2.2.2.2.2.2.2.2.2), (.bool s.2.1), (iv s.2.2.1), (iv s.2.2.2.1), (iv s.2.2.2.2.1), (.bool s.2.2.2.2.2.1), (iv s.2.2.2.2.2.2.1), (iv s.2.2.2.2.2.2.2.1)] 77), (1, ow s.2.2.2.2.2.2.2.2.2.1 s.2.2.2.2.2.2.2.2.2.2 107 zH s.1), (2, bx b100 #[(iv p1.Kind), (sv p1.Name), (iv p1.At.X), (iv p1.At.Y), (.slice Ap1_0 (p1.Points).length cp1_0), (iv p1.NX), (iv p1.NY), (.slice Ap1_1 (p1.Steps).length cp1_1)] 46), (3, bx b101 #[(iv p2.X), (iv p2.Y)] 43)]) N (p0.image, p0.clear, p0.tool, p0.place.X, p0.place.Y, p0.placed, p0.off, p0.on, 0, Ap0_3, cp0_3) ⟨H, hfhp0_3⟩ (.cons rfl (.cons rfl (.cons rfl (.cons rfl (.cons rfl .nil))))) (.cons rfl (.cons rfl (.cons rfl (.cons rfl .nil)))) (fun _ _ h => noSome (h.1)) ?_
          intro w leL9 mL9 s hs
          obtain ⟨l426, x427, x428, x429, x430, x431, x432, x433, x434, Al426, cl426⟩ := s
          obtain ⟨H, hl426⟩ := hs
          replace H : zAE N p0 p1 p2 rec (mL9 + 1) l426 x427 x428 x429 x430 x431 x432 x433 x434 = some r := H
          replace hp0_0 := hp0_0.leR leL9
          replace hp0_1 := hp0_1.leR leL9
          replace hp0_2 := hp0_2.leR leL9
          replace hp1_0 := hp1_0.leR leL9
          replace hp1_1 := hp1_1.leR leL9
          replace leB := leB.trans leL9
          replace leJ295 := leJ295.trans leL9
          replace hl426 : SlF Al426 (l426).length cl426 := hl426
          rw [zAE.eq_2] at H
          show Tr _ _ (LF [(0, (.pointer (some ⟨bp0, 0, none⟩))), (4, (.pointer (some ⟨b100, 0, none⟩))), (5, (.pointer (some ⟨b101, 0, none⟩))), (68, (iv p1.NY)), (69, (iv x434))]) (LE [(0, bx bp0 #[(iv p0.p.Unit), (.slice Ap0_0 (p0.p.Tools).length cp0_0), (.slice Ap0_1 (p0.p.Steps).length cp0_1), (.slice Ap0_2 (p0.tools).length cp0_2), (.slice Al426 (l426).length cl426), (.bool x427), (iv x428), (iv x429), (iv x430), (.bool x431), (iv x432), (iv x433)] 77), (1, ow Al426 cl426 107 zH l426), (2, bx b100 #[(iv p1.Kind), (sv p1.Name), (iv p1.At.X), (iv p1.At.Y), (.slice Ap1_0 (p1.Points).length cp1_0), (iv p1.NX), (iv p1.NY), (.slice Ap1_1 (p1.Steps).length cp1_1)] 46), (3, bx b101 #[(iv p2.X), (iv p2.Y)] 43)]) _
          refine Tr.sr ?_
          refine Tr.va rfl (fun _ _ h1 h2 => zn (h1.ev rfl) (h1.ev rfl)) ?_
          refine Tr.nil (Tr.zA ?_)
          refine Tr.seq ?_
          refine Tr.cond rfl H (fun H => ?_) (fun H => ?_)
          ·refine Tr.skip (Tr.zA ?_)
           refine Tr.seq ?_
           refine Tr.block ?_
           refine Tr.sr ?_
           refine Tr.mv rfl rfl ?_
           refine Tr.asg rfl rfl ?_
           refine Tr.nil (Tr.zA ?_)
           refine Tr.sr ?_
           refine Tr.va rfl (fun _ _ h1 h2 => zB fo_46_4 (h1.ev rfl)) ?_
           refine Tr.va rfl (fun _ _ h1 h2 => zC ag_3 (h1.ev rfl) (rdb h2 (vs := [(iv p1.Kind), (sv p1.Name), (iv p1.At.X), (iv p1.At.Y), (.slice Ap1_0 (p1.Points).length cp1_0), (iv p1.NX), (iv p1.NY), (.slice Ap1_1 (p1.Steps).length cp1_1)]) (k := 2) rfl 5) rfl) ?_
           refine Tr.mv rfl rfl ?_
           refine Tr.nil (Tr.zA ?_)
           refine Tr.block ?_
           refine Tr.loop (σ := (List zS) × Bool × Int × Int × Int × Bool × Int × Int × Int × (Option Addr) × Nat) (fun m w s => F_plot_machine__step_L10 p0 p1 p2 rec x434 (zAE N p0 p1 p2 rec mL9) m s.1 s.2.1 s.2.2.1 s.2.2.2.1 s.2.2.2.2.1 s.2.2.2.2.2.1 s.2.2.2.2.2.2.1 s.2.2.2.2.2.2.2.1 s.2.2.2.2.2.2.2.2.1 = some r ∧ SlF s.2.2.2.2.2.2.2.2.2.1 (s.1).length s.2.2.2.2.2.2.2.2.2.2) (fun s => [(0, (.pointer (some ⟨bp0, 0, none⟩))), (4, (.pointer (some ⟨b100, 0, none⟩))), (5, (.pointer (some ⟨b101, 0, none⟩))), (8, (iv x434)), (68, (iv p1.NY)), (69, (iv x434)), (73, (iv p1.NX)), (74, (iv s.2.2.2.2.2.2.2.2.1))]) (fun s => [(0, bx bp0 #[(iv p0.p.Unit), (.slice Ap0_0 (p0.p.Tools).length cp0_0), (.slice Ap0_1 (p0.p.Steps).length cp0_1), (.slice Ap0_2 (p0.tools).length cp0_2), (.slice s.2.2.2.2.2.2.2.2.2.1 (s.1).length s.2.2.2.2.2.2.2.2.2.2), (.bool s.2.1), (iv s.2.2.1), (iv s.2.2.2.1), (iv s.2.2.2.2.1), (.bool s.2.2.2.2.2.1), (iv s.2.2.2.2.2.2.1), (iv s.2.2.2.2.2.2.2.1)] 77), (1, ow s.2.2.2.2.2.2.2.2.2.1 s.2.2.2.2.2.2.2.2.2.2 107 zH s.1), (2, bx b100 #[(iv p1.Kind), (sv p1.Name), (iv p1.At.X), (iv p1.At.Y), (.slice Ap1_0 (p1.Points).length cp1_0), (iv p1.NX), (iv p1.NY), (.slice Ap1_1 (p1.Steps).length cp1_1)] 46), (3, bx b101 #[(iv p2.X), (iv p2.Y)] 43)]) N (l426, x427, x428, x429, x430, x431, x432, x433, 0, Al426, cl426) ⟨H, hl426⟩ (.cons rfl (.cons rfl (.cons rfl (.cons rfl (.cons rfl (.cons rfl (.cons rfl (.cons rfl .nil)))))))) (.cons rfl (.cons rfl (.cons rfl (.cons rfl .nil)))) (fun _ _ h => noSome (h.1)) ?_
           intro w leL10 mL10 s hs
           obtain ⟨l468, x469, x470, x471, x472, x473, x474, x475, x476, Al468, cl468⟩ := s
           obtain ⟨H, hl468⟩ := hs
           replace H : F_plot_machine__step_L10 p0 p1 p2 rec x434 (zAE N p0 p1 p2 rec mL9) (mL10 + 1) l468 x469 x470 x471 x472 x473 x474 x475 x476 = some r := H
           replace hp0_0 := hp0_0.leR leL10
           replace hp0_1 := hp0_1.leR leL10
           replace hp0_2 := hp0_2.leR leL10
           replace hp1_0 := hp1_0.leR leL10
           replace hp1_1 := hp1_1.leR leL10
           replace leB := leB.trans leL10
           replace leJ295 := leJ295.trans leL10
           replace leL9 := leL9.trans leL10
           replace hl468 : SlF Al468 (l468).length cl468 := hl468
           rw [F_plot_machine__step_L10.eq_2] at H
           show Tr _ _ (LF [(0, (.pointer (some ⟨bp0, 0, none⟩))), (4, (.pointer (some ⟨b100, 0, none⟩))), (5, (.pointer (some ⟨b101, 0, none⟩))), (8, (iv x434)), (68, (iv p1.NY)), (69, (iv x434)), (73, (iv p1.NX)), (74, (iv x476))]) (LE [(0, bx bp0 #[(iv p0.p.Unit), (.slice Ap0_0 (p0.p.Tools).length cp0_0), (.slice Ap0_1 (p0.p.Steps).length cp0_1), (.slice Ap0_2 (p0.tools).length cp0_2), (.slice Al468 (l468).length cl468), (.bool x469), (iv x470), (iv x471), (iv x472), (.bool x473), (iv x474), (iv x475)] 77), (1, ow Al468 cl468 107 zH l468), (2, bx b100 #[(iv p1.Kind), (sv p1.Name), (iv p1.At.X), (iv p1.At.Y), (.slice Ap1_0 (p1.Points).length cp1_0), (iv p1.NX), (iv p1.NY), (.slice Ap1_1 (p1.Steps).length cp1_1)] 46), (3, bx b101 #[(iv p2.X), (iv p2.Y)] 43)]) _
           refine Tr.sr ?_
           refine Tr.va rfl (fun _ _ h1 h2 => zn (h1.ev rfl) (h1.ev rfl)) ?_
           refine Tr.nil (Tr.zA ?_)
           refine Tr.seq ?_
           refine Tr.cond rfl H (fun H => ?_) (fun H => ?_)
           ·refine Tr.skip (Tr.zA ?_)
            refine Tr.seq ?_
            refine Tr.block ?_
            refine Tr.sr ?_
            refine Tr.mv rfl rfl ?_
            refine Tr.asg rfl rfl ?_
            refine Tr.nil (Tr.zA ?_)
            refine Tr.seq ?_
            refine Tr.drawF 30 [(29, .makeFunc (.func 0) #[] #[])] [(29, ⟨10, 22, (.func (.func 0) #[] #[]), fun b => .pointer (some ⟨b, 0, none⟩), fun b => bx b #[(iv 0), (iv 0)] 43⟩)] [(0, (.pointer (some ⟨bp0, 0, none⟩))), (4, (.pointer (some ⟨b100, 0, none⟩))), (5, (.pointer (some ⟨b101, 0, none⟩))), (8, (iv x434)), (9, (iv x476)), (10, (.func (.func 0) #[] #[])), (68, (iv p1.NY)), (69, (iv x434)), (73, (iv p1.NX)), (74, (iv x476)), (75, (.bool (decide (x476 < p1.NX)))), (76, (iv x476)), (77, (.pointer (some ⟨b101, 0, none⟩))), (78, (iv p2.X)), (79, (iv x476)), (80, (.pointer (some ⟨b100, 2, none⟩))), (81, (.pointer (some ⟨b100, 2, none⟩))), (82, (iv p1.At.X)), (83, (iv (w64 (x476 * p1.At.X)))), (84, (.pointer (some ⟨bp0, 0, none⟩))), (85, (.pointer (some ⟨bp0, 0, none⟩))), (86, (.pointer (some ⟨bp0, 0, none⟩))), (87, (.pointer (some ⟨bp0, 0, none⟩))), (88, (iv p0.p.Unit)), (89, (iv (w64 ((w64 (x476 * p1.At.X)) * p0.p.Unit)))), (90, (iv (w64 (p2.X + (w64 ((w64 (x476 * p1.At.X)) * p0.p.Unit)))))), (91, (.pointer (some ⟨b101, 1, none⟩))), (92, (iv p2.Y)), (93, (iv x434)), (94, (.pointer (some ⟨b100, 2, none⟩))), (95, (.pointer (some ⟨b100, 3, none⟩))), (96, (iv p1.At.Y)), (97, (iv (w64 (x434 * p1.At.Y)))), (98, (.pointer (some ⟨bp0, 0, none⟩))), (99, (.pointer (some ⟨bp0, 0, none⟩))), (100, (.pointer (some ⟨bp0, 0, none⟩))), (101, (.pointer (some ⟨bp0, 0, none⟩))), (102, (iv p0.p.Unit)), (103, (iv (w64 ((w64 (x434 * p1.At.Y)) * p0.p.Unit)))), (104, (iv (w64 (p2.Y + (w64 ((w64 (x434 * p1.At.Y)) * p0.p.Unit)))))), (105, (.agg #[(iv (w64 (p2.X + (w64 ((w64 (x476 * p1.At.X)) * p0.p.Unit))))), (iv (w64 (p2.Y + (w64 ((w64 (x434 * p1.At.Y)) * p0.p.Unit)))))]))] (by kernel_rfl) (by kernel_rfl) (by kernel_rfl) (by kernel_rfl) (by kernel_rfl) (by kernel_rfl) (by kernel_rfl) (fall_cons (fr_alloc rfl rfl ze_43) fall_nil) (fall_cons rfl fall_nil) (fall_cons rfl fall_nil) ?_ ?_
            ·refine Tq.va rfl (fun _ _ h1 h2 => zB fo_43_0 (h1.ev rfl)) ?_
             refine Tq.va rfl (fun _ _ h1 h2 => zC ag_3 (h1.ev rfl) (rdb h2 (vs := [(iv p2.X), (iv p2.Y)]) (k := 3) rfl 0) rfl) ?_
             refine Tq.mv rfl rfl ?_
             refine Tq.va rfl (fun _ _ h1 h2 => zB fo_46_2 (h1.ev rfl)) ?_
             refine Tq.va rfl (fun _ _ h1 h2 => zB fo_43_0 (h1.ev rfl)) ?_
             refine Tq.va rfl (fun _ _ h1 h2 => zC ag_3 (h1.ev rfl) (rdb h2 (vs := [(iv p1.Kind), (sv p1.Name), (iv p1.At.X), (iv p1.At.Y), (.slice Ap1_0 (p1.Points).length cp1_0), (iv p1.NX), (iv p1.NY), (.slice Ap1_1 (p1.Steps).length cp1_1)]) (k := 2) rfl 2) rfl) ?_
             refine Tq.va rfl (fun _ _ h1 h2 => run_mul (h1.ev rfl) (h1.ev rfl)) ?_
             refine Tq.mv rfl rfl ?_
             refine Tq.va rfl (fun _ _ h1 h2 => zg (h1.ev rfl)) ?_
             refine Tq.va rfl (fun _ _ h1 h2 => zB fo_77_0 (h1.ev rfl)) ?_
             refine Tq.va rfl (fun _ _ h1 h2 => zB fo_25_0 (h1.ev rfl)) ?_
             refine Tq.va rfl (fun _ _ h1 h2 => zC ag_3 (h1.ev rfl) (rdb h2 (vs := [(iv p0.p.Unit), (.slice Ap0_0 (p0.p.Tools).length cp0_0), (.slice Ap0_1 (p0.p.Steps).length cp0_1), (.slice Ap0_2 (p0.tools).length cp0_2), (.slice Al468 (l468).length cl468), (.bool x469), (iv x470), (iv x471), (iv x472), (.bool x473), (iv x474), (iv x475)]) (k := 0) rfl 0) rfl) ?_
             refine Tq.va rfl (fun _ _ h1 h2 => run_mul (h1.ev rfl) (h1.ev rfl)) ?_
             refine Tq.va rfl (fun _ _ h1 h2 => zm (h1.ev rfl) (h1.ev rfl)) ?_
             refine Tq.va rfl (fun _ _ h1 h2 => zB fo_43_1 (h1.ev rfl)) ?_
             refine Tq.va rfl (fun _ _ h1 h2 => zC ag_3 (h1.ev rfl) (rdb h2 (vs := [(iv p2.X), (iv p2.Y)]) (k := 3) rfl 1) rfl) ?_
             refine Tq.mv rfl rfl ?_
             refine Tq.va rfl (fun _ _ h1 h2 => zB fo_46_2 (h1.ev rfl)) ?_
             refine Tq.va rfl (fun _ _ h1 h2 => zB fo_43_1 (h1.ev rfl)) ?_
             refine Tq.va rfl (fun _ _ h1 h2 => zC ag_3 (h1.ev rfl) (rdb h2 (vs := [(iv p1.Kind), (sv p1.Name), (iv p1.At.X), (iv p1.At.Y), (.slice Ap1_0 (p1.Points).length cp1_0), (iv p1.NX), (iv p1.NY), (.slice Ap1_1 (p1.Steps).length cp1_1)]) (k := 2) rfl 3) rfl) ?_
             refine Tq.va rfl (fun _ _ h1 h2 => run_mul (h1.ev rfl) (h1.ev rfl)) ?_
             refine Tq.mv rfl rfl ?_
             refine Tq.va rfl (fun _ _ h1 h2 => zg (h1.ev rfl)) ?_
             refine Tq.va rfl (fun _ _ h1 h2 => zB fo_77_0 (h1.ev rfl)) ?_
             refine Tq.va rfl (fun _ _ h1 h2 => zB fo_25_0 (h1.ev rfl)) ?_
             refine Tq.va rfl (fun _ _ h1 h2 => zC ag_3 (h1.ev rfl) (rdb h2 (vs := [(iv p0.p.Unit), (.slice Ap0_0 (p0.p.Tools).length cp0_0), (.slice Ap0_1 (p0.p.Steps).length cp0_1), (.slice Ap0_2 (p0.tools).length cp0_2), (.slice Al468 (l468).length cl468), (.bool x469), (iv x470), (iv x471), (iv x472), (.bool x473), (iv x474), (iv x475)]) (k := 0) rfl 0) rfl) ?_
             refine Tq.va rfl (fun _ _ h1 h2 => run_mul (h1.ev rfl) (h1.ev rfl)) ?_
             refine Tq.va rfl (fun _ _ h1 h2 => zm (h1.ev rfl) (h1.ev rfl)) ?_
             refine Tq.build (vs := [(0, (iv (w64 (p2.X + (w64 ((w64 (x476 * p1.At.X)) * p0.p.Unit)))))), (1, (iv (w64 (p2.Y + (w64 ((w64 (x434 * p1.At.Y)) * p0.p.Unit))))))]) (cs := [(iv (w64 (p2.X + (w64 ((w64 (x476 * p1.At.X)) * p0.p.Unit))))), (iv (w64 (p2.Y + (w64 ((w64 (x434 * p1.At.Y)) * p0.p.Unit)))))]) (wn rfl) rfl (zY rfl (zY rfl evs_nil)) (by kernel_rfl) ?_
             refine Tq.mkFunc (vs := []) (wn rfl) rfl zN ?_
             exact Tq.fin (.cons rfl (.cons rfl (.cons rfl (.cons rfl (.cons rfl (.cons rfl (.cons rfl (.cons rfl (.cons rfl (.cons rfl (.cons rfl (.cons rfl (.cons rfl (.cons rfl (.cons rfl (.cons rfl (.cons rfl (.cons rfl (.cons rfl (.cons rfl (.cons rfl (.cons rfl (.cons rfl (.cons rfl (.cons rfl (.cons rfl (.cons rfl (.cons rfl (.cons rfl (.cons rfl (.cons rfl (.cons rfl (.cons rfl (.cons rfl (.cons rfl (.cons rfl (.cons rfl (.cons rfl (.cons rfl (.cons rfl (.cons rfl .nil)))))))))))))))))))))))))))))))))))))))))
            ·intro bs477
             refine Tr.sel (lf := [(0, (.pointer (some ⟨bp0, 0, none⟩))), (4, (.pointer (some ⟨b100, 0, none⟩))), (5, (.pointer (some ⟨b101, 0, none⟩))), (8, (iv x434)), (10, (.pointer (some ⟨(bs477 29), 0, none⟩))), (68, (iv p1.NY)), (69, (iv x434)), (73, (iv p1.NX)), (74, (iv x476)), (105, (.agg #[(iv (w64 (p2.X + (w64 ((w64 (x476 * p1.At.X)) * p0.p.Unit))))), (iv (w64 (p2.Y + (w64 ((w64 (x434 * p1.At.Y)) * p0.p.Unit)))))]))]) (le := [(0, bx bp0 #[(iv p0.p.Unit), (.slice Ap0_0 (p0.p.Tools).length cp0_0), (.slice Ap0_1 (p0.p.Steps).length cp0_1), (.slice Ap0_2 (p0.tools).length cp0_2), (.slice Al468 (l468).length cl468), (.bool x469), (iv x470), (iv x471), (iv x472), (.bool x473), (iv x474), (iv x475)] 77), (1, ow Al468 cl468 107 zH l468), (2, bx b100 #[(iv p1.Kind), (sv p1.Name), (iv p1.At.X), (iv p1.At.Y), (.slice Ap1_0 (p1.Points).length cp1_0), (iv p1.NX), (iv p1.NY), (.slice Ap1_1 (p1.Steps).length cp1_1)] 46), (3, bx b101 #[(iv p2.X), (iv p2.Y)] 43), (22, bx (bs477 29) #[(iv 0), (iv 0)] 43)]) (.cons rfl (.cons rfl (.cons rfl (.cons rfl (.cons rfl (.cons rfl (.cons rfl (.cons rfl (.cons rfl (.cons rfl .nil)))))))))) (.cons rfl (.cons rfl (.cons rfl (.cons rfl (.cons rfl .nil))))) ?_
             refine Tr.store 22 (cs := [(iv (w64 (p2.X + (w64 ((w64 (x476 * p1.At.X)) * p0.p.Unit))))), (iv (w64 (p2.Y + (w64 ((w64 (x434 * p1.At.Y)) * p0.p.Unit)))))]) [(iv (w64 (p2.X + (w64 ((w64 (x476 * p1.At.X)) * p0.p.Unit))))), (iv (w64 (p2.Y + (w64 ((w64 (x434 * p1.At.Y)) * p0.p.Unit)))))] (wn rfl) rfl rfl rfl rfl sz_43 rfl rfl rfl ?_
             refine Tr.nil (Tr.zA ?_)
             refine Tr.sr ?_
             refine Tr.mv rfl rfl ?_
             refine Tr.va rfl (fun _ _ h1 h2 => zB fo_46_6 (h1.ev rfl)) ?_
             refine Tr.va rfl (fun _ _ h1 h2 => zC ag_23 (h1.ev rfl) (rdb h2 (vs := [(iv p1.Kind), (sv p1.Name), (iv p1.At.X), (iv p1.At.Y), (.slice Ap1_0 (p1.Points).length cp1_0), (iv p1.NX), (iv p1.NY), (.slice Ap1_1 (p1.Steps).length cp1_1)]) (k := 2) rfl 7) rfl) ?_
             refine Tr.va rfl (fun _ _ h1 h2 => zQ (cs := [(iv (w64 (p2.X + (w64 ((w64 (x476 * p1.At.X)) * p0.p.Unit))))), (iv (w64 (p2.Y + (w64 ((w64 (x434 * p1.At.Y)) * p0.p.Unit)))))]) ag_43 sz_43 (h1.ev rfl) (zO.take (rdb h2 (vs := [(iv (w64 (p2.X + (w64 ((w64 (x476 * p1.At.X)) * p0.p.Unit))))), (iv (w64 (p2.Y + (w64 ((w64 (x434 * p1.At.Y)) * p0.p.Unit)))))]) (k := 22) rfl 0) 2) rfl) ?_
             obtain ⟨y478, hy478, H⟩ := bnd H
             refine Tr.callG [0, 1] [bx bp0 #[(iv p0.p.Unit), (.slice Ap0_0 (p0.p.Tools).length cp0_0), (.slice Ap0_1 (p0.p.Steps).length cp0_1), (.slice Ap0_2 (p0.tools).length cp0_2), (.slice Al468 (l468).length cl468), (.bool x469), (iv x470), (iv x471), (iv x472), (.bool x473), (iv x474), (iv x475)] 77, ow Al468 cl468 107 zH l468] (U := (Option Addr × Nat)) (fun u => (iv y478.1)) (fun O W u => SlF u.1 (y478.2.2.2.2.2.2.2.2).length u.2) (fun u => [bx bp0 #[(iv p0.p.Unit), (.slice Ap0_0 (p0.p.Tools).length cp0_0), (.slice Ap0_1 (p0.p.Steps).length cp0_1), (.slice Ap0_2 (p0.tools).length cp0_2), (.slice u.1 (y478.2.2.2.2.2.2.2.2).length u.2), (.bool y478.2.1), (iv y478.2.2.1), (iv y478.2.2.2.1), (iv y478.2.2.2.2.1), (.bool y478.2.2.2.2.2.1), (iv y478.2.2.2.2.2.2.1), (iv y478.2.2.2.2.2.2.2.1)] 77, ow u.1 u.2 107 zH y478.2.2.2.2.2.2.2.2]) rfl (zK rfl (zK rfl za)) (fun _ => rfl) (wn rfl) rfl Tryz.call56 (zF rfl (zF rfl (zF rfl zN))) (fun W hW hp hE => hrec (zo.mk p0.p p0.tools l468 x469 x470 (zJ.mk x471 x472) x473 x474 x475) Ap0_0 cp0_0 (hp0_0.ext (hW.extS hp)) Ap0_1 cp0_1 (hp0_1.ext (hW.extS hp)) Ap0_2 cp0_2 (hp0_2.ext (hW.extS hp)) Al468 cl468 bp0 p1.Steps Ap1_1 cp1_1 (hp1_1.ext (hW.extS hp)) (zJ.mk (w64 (p2.X + (w64 ((w64 (x476 * p1.At.X)) * p0.p.Unit)))) (w64 (p2.Y + (w64 ((w64 (x434 * p1.At.Y)) * p0.p.Unit))))) y478 hy478 hE) ?_
             intro w u le479 hu
             obtain ⟨Ay478_0, cy478_0⟩ := u
             have gy478_0 := hu
             replace hp0_0 := hp0_0.leR le479
             replace hp0_1 := hp0_1.leR le479
             replace hp0_2 := hp0_2.leR le479
             replace hp1_0 := hp1_0.leR le479
             replace hp1_1 := hp1_1.leR le479
             replace leB := leB.trans le479
             replace leJ295 := leJ295.trans le479
             replace leL9 := leL9.trans le479
             replace leL10 := leL10.trans le479
             have hgy478_0 : SlF Ay478_0 (y478.2.2.2.2.2.2.2.2).length cy478_0 := gy478_0 --@phi
             show Tr _ _ (uf _ 110 (iv y478.1)) (up (up _ 1 (ow Ay478_0 cy478_0 107 zH y478.2.2.2.2.2.2.2.2)) 0 (bx bp0 #[(iv p0.p.Unit), (.slice Ap0_0 (p0.p.Tools).length cp0_0), (.slice Ap0_1 (p0.p.Steps).length cp0_1), (.slice Ap0_2 (p0.tools).length cp0_2), (.slice Ay478_0 (y478.2.2.2.2.2.2.2.2).length cy478_0), (.bool y478.2.1), (iv y478.2.2.1), (iv y478.2.2.2.1), (iv y478.2.2.2.2.1), (.bool y478.2.2.2.2.2.1), (iv y478.2.2.2.2.2.2.1), (iv y478.2.2.2.2.2.2.2.1)] 77)) _
             refine Tr.asg rfl rfl ?_
             refine Tr.nil (Tr.zA ?_)
             refine Tr.sr ?_
             refine Tr.mv rfl rfl ?_
             refine Tr.va rfl (fun _ _ h1 h2 => run_neq (h1.ev rfl) (h1.ev rfl)) ?_
             refine Tr.nil (Tr.zA ?_)
             refine Tr.cond rfl H (fun H => ?_) (fun H => ?_)
             ·refine Tr.sr ?_
              refine Tr.mv rfl rfl ?_
              refine Tr.asg rfl rfl ?_
              refine Tr.nil (Tr.zA ?_)
              refine Tr.ret (Tr.zt (Tr.zU (Tr.zU (Tr.zt (Tr.zt (Tr.zU (Tr.zU (Tr.zt (Tr.zt (Tr.zU ?_))))))))))
              obtain rfl := Option.some.inj H
              exact Tr.out (m := [(iv y478.1)]) [] (zL rfl zP) (fun W hW => ⟨w, (Ay478_0, cy478_0), leB, rfl, hgy478_0, hW.pick (ks := [0, 1]) (by decide) (zK rfl (zK rfl za))⟩)
             ·refine Tr.skip (Tr.zT (Tr.zA ?_))
              refine Tr.region ?_
              refine Tr.va rfl (fun _ _ h1 h2 => zm (h1.ev rfl) (h1.ev rfl)) ?_
              refine Tr.mv rfl rfl ?_
              refine Tr.nil ?_
              exact Tr.zW leL10 (y478.2.2.2.2.2.2.2.2, y478.2.1, y478.2.2.1, y478.2.2.2.1, y478.2.2.2.2.1, y478.2.2.2.2.2.1, y478.2.2.2.2.2.2.1, y478.2.2.2.2.2.2.2.1, (w64 (x476 + 1)), Ay478_0, cy478_0) ⟨H, hgy478_0⟩ (.cons rfl (.cons rfl (.cons rfl (.cons rfl (.cons rfl (.cons rfl (.cons rfl (.cons rfl .nil)))))))) (.cons rfl (.cons rfl (.cons rfl (.cons rfl .nil))))
           ·refine Tr.exit (Tr.zV (Tr.zV (Tr.zw (Tr.zT (Tr.zA ?_)))))
            refine Tr.region ?_
            refine Tr.va rfl (fun _ _ h1 h2 => zm (h1.ev rfl) (h1.ev rfl)) ?_
            refine Tr.mv rfl rfl ?_
            refine Tr.nil ?_
            exact Tr.zW leL9 (l468, x469, x470, x471, x472, x473, x474, x475, (w64 (x434 + 1)), Al468, cl468) ⟨H, hl468⟩ (.cons rfl (.cons rfl (.cons rfl (.cons rfl (.cons rfl .nil))))) (.cons rfl (.cons rfl (.cons rfl (.cons rfl .nil))))
          ·refine Tr.exit (Tr.zV (Tr.zV (Tr.zw (Tr.zT ?_))))
           exact Tr.zW leJ295 (l426, x427, x428, x429, x430, x431, x432, x433, Al426, cl426) ⟨H, hl426⟩ .nil (.cons rfl (.cons rfl .nil))
         ·refine Tr.skip (Tr.zT ?_)
          exact Tr.zW leJ295 (p0.image, p0.clear, p0.tool, p0.place.X, p0.place.Y, p0.placed, p0.off, p0.on, Ap0_3, cp0_3) ⟨H, hfhp0_3⟩ .nil (.cons rfl (.cons rfl .nil))
 ·intro w s hlJ296 hs
  obtain ⟨l287, x288, x289, x290, x291, x292, x293, x294, Al287, cl287⟩ := s
  obtain ⟨H, hl287⟩ := hs
  replace H : zAN l287 x288 x289 x290 x291 x292 x293 x294 = some r := H
  replace hp0_0 := hp0_0.leR hlJ296
  replace hp0_1 := hp0_1.leR hlJ296
  replace hp0_2 := hp0_2.leR hlJ296
  replace leB := leB.trans hlJ296
  replace hl287 : SlF Al287 (l287).length cl287 := hl287
  unfold zAN at H
  show Tr _ _ (LF []) (LE [(0, bx bp0 #[(iv p0.p.Unit), (.slice Ap0_0 (p0.p.Tools).length cp0_0), (.slice Ap0_1 (p0.p.Steps).length cp0_1), (.slice Ap0_2 (p0.tools).length cp0_2), (.slice Al287 (l287).length cl287), (.bool x288), (iv x289), (iv x290), (iv x291), (.bool x292), (iv x293), (iv x294)] 77), (1, ow Al287 cl287 107 zH l287)]) _
  refine Tr.sr ?_
  refine Tr.asg rfl rfl ?_
  refine Tr.nil (Tr.zA ?_)
  refine Tr.ret ?_
  obtain rfl := Option.some.inj H
  exact Tr.out (m := [(iv 0)]) [] (zL rfl zP) (fun W hW => ⟨w, (Al287, cl287), leB, rfl, hl287, hW.pick (ks := [0, 1]) (by decide) (zK rfl (zK rfl za))⟩)
theorem F_plot_machine__run_b_ok (N : Nat) (rec : zo → (List zD) → zJ → Option (Int × Bool × Int × Int × Int × Bool × Int × Int × (List zS))) (hrec : ∀ {w : Bs} (p0 : zo) (Ap0_0 : Option Addr) (cp0_0 : Nat) (hp0_0 : Sl w.R w.W zh Ap0_0 cp0_0 p0.p.Tools) (Ap0_1 : Option Addr) (cp0_1 : Nat) (hp0_1 : Sl w.R w.W zG Ap0_1 cp0_1 p0.p.Steps) (Ap0_2 : Option Addr) (cp0_2 : Nat) (hp0_2 : Sl w.R w.W zAA Ap0_2 cp0_2 p0.tools) (Ap0_3 : Option Addr) (cp0_3 : Nat) (bp0 : Nat) (p1 : (List zD)) (Ap1_0 : Option Addr) (cp1_0 : Nat) (hp1_0 : Sl w.R w.W zG Ap1_0 cp1_0 p1) (p2 : zJ) (r : (Int × Bool × Int × Int × Int × Bool × Int × Int × (List zS))) (H : rec p0 p1 p2 = some r) (hE : HF w w.W (LEn [bx bp0 #[(iv p0.p.Unit), (.slice Ap0_0 (p0.p.Tools).length cp0_0), (.slice Ap0_1 (p0.p.Steps).length cp0_1), (.slice Ap0_2 (p0.tools).length cp0_2), (.slice Ap0_3 (p0.image).length cp0_3), (.bool p0.clear), (iv p0.tool), (iv p0.place.X), (iv p0.place.Y), (.bool p0.placed), (iv p0.off), (iv p0.on)] 77, ow Ap0_3 cp0_3 107 zH p0.image])), Calls Tryz.prog 56 [(.pointer (some ⟨bp0, 0, none⟩)), (.slice Ap1_0 (p1).length cp1_0), (.agg #[(iv p2.X), (iv p2.Y)])].toArray w.W fun e W' => ∃ (w' : Bs) (u : (Option Addr × Nat)), w.Le w' ∧ e = .returned (iv r.1) ∧ (SlF u.1 (r.2.2.2.2.2.2.2.2).length u.2) ∧ HF w' W' (LEn [bx bp0 #[(iv p0.p.Unit), (.slice Ap0_0 (p0.p.Tools).length cp0_0), (.slice Ap0_1 (p0.p.Steps).length cp0_1), (.slice Ap0_2 (p0.tools).length cp0_2), (.slice u.1 (r.2.2.2.2.2.2.2.2).length u.2), (.bool r.2.1), (iv r.2.2.1), (iv r.2.2.2.1), (iv r.2.2.2.2.1), (.bool r.2.2.2.2.2.1), (iv r.2.2.2.2.2.2.1), (iv r.2.2.2.2.2.2.2.1)] 77, ow u.1 u.2 107 zH r.2.2.2.2.2.2.2.2])) {w : Bs} (p0 : zo) (Ap0_0 : Option Addr) (cp0_0 : Nat) (hp0_0 : Sl w.R w.W zh Ap0_0 cp0_0 p0.p.Tools) (Ap0_1 : Option Addr) (cp0_1 : Nat) (hp0_1 : Sl w.R w.W zG Ap0_1 cp0_1 p0.p.Steps) (Ap0_2 : Option Addr) (cp0_2 : Nat) (hp0_2 : Sl w.R w.W zAA Ap0_2 cp0_2 p0.tools) (Ap0_3 : Option Addr) (cp0_3 : Nat) (bp0 : Nat) (p1 : (List zD)) (Ap1_0 : Option Addr) (cp1_0 : Nat) (hp1_0 : Sl w.R w.W zG Ap1_0 cp1_0 p1) (p2 : zJ) (r : (Int × Bool × Int × Int × Int × Bool × Int × Int × (List zS))) (H : F_plot_machine__run_b N rec p0 p1 p2 = some r) (hE : HF w w.W (LEn [bx bp0 #[(iv p0.p.Unit), (.slice Ap0_0 (p0.p.Tools).length cp0_0), (.slice Ap0_1 (p0.p.Steps).length cp0_1), (.slice Ap0_2 (p0.tools).length cp0_2), (.slice Ap0_3 (p0.image).length cp0_3), (.bool p0.clear), (iv p0.tool), (iv p0.place.X), (iv p0.place.Y), (.bool p0.placed), (iv p0.off), (iv p0.on)] 77, ow Ap0_3 cp0_3 107 zH p0.image])) : Calls Tryz.prog 56 [(.pointer (some ⟨bp0, 0, none⟩)), (.slice Ap1_0 (p1).length cp1_0), (.agg #[(iv p2.X), (iv p2.Y)])].toArray w.W fun e W' => ∃ (w' : Bs) (u : (Option Addr × Nat)), w.Le w' ∧ e = .returned (iv r.1) ∧ (SlF u.1 (r.2.2.2.2.2.2.2.2).length u.2) ∧ HF w' W' (LEn [bx bp0 #[(iv p0.p.Unit), (.slice Ap0_0 (p0.p.Tools).length cp0_0), (.slice Ap0_1 (p0.p.Steps).length cp0_1), (.slice Ap0_2 (p0.tools).length cp0_2), (.slice u.1 (r.2.2.2.2.2.2.2.2).length u.2), (.bool r.2.1), (iv r.2.2.1), (iv r.2.2.2.1), (iv r.2.2.2.2.1), (.bool r.2.2.2.2.2.1), (iv r.2.2.2.2.2.2.1), (iv r.2.2.2.2.2.2.2.1)] 77, ow u.1 u.2 107 zH r.2.2.2.2.2.2.2.2]) := by
 unfold F_plot_machine__run_b at H
 have hfhp0_3 := (hE.sl (k := 1) rfl).form
 have leB := Bs.Le.refl w
 refine Tr.enter (n := 24) Tryz.func56 rfl rfl rfl hE ?_
 refine Tr.sr ?_
 refine Tr.box 2 (cs := [(iv p2.X), (iv p2.Y)]) (wn rfl) rfl rfl rfl fun b100 => ?_
 refine Tr.asg rfl rfl ?_
 refine Tr.nil (Tr.zA ?_)
 refine Tr.seq ?_
 refine Tr.sr ?_
 refine Tr.mv rfl rfl ?_
 refine Tr.va rfl (fun _ _ h1 h2 => zl un_23 (h1.ev rfl)) ?_
 refine Tr.mv rfl rfl ?_
 refine Tr.nil (Tr.zA ?_)
 refine Tr.block ?_
 refine Tr.loop (σ := (List zD) × Nat × (List zS) × Bool × Int × Int × Int × Bool × Int × Int × (Option Addr) × Nat) (fun m w s => m = s.1.length + 1 ∧ s.1 = List.drop s.2.1 p1 ∧ s.2.1 ≤ p1.length ∧ F_plot_machine__run_L1 N p0 p2 rec s.1 s.2.1 s.2.2.1 s.2.2.2.1 s.2.2.2.2.1 s.2.2.2.2.2.1 s.2.2.2.2.2.2.1 s.2.2.2.2.2.2.2.1 s.2.2.2.2.2.2.2.2.1 s.2.2.2.2.2.2.2.2.2.1 = some r ∧ SlF s.2.2.2.2.2.2.2.2.2.2.1 (s.2.2.1).length s.2.2.2.2.2.2.2.2.2.2.2) (fun s => [(0, (.pointer (some ⟨bp0, 0, none⟩))), (5, (.pointer (some ⟨b100, 0, none⟩))), (10, (.slice Ap1_0 (p1).length cp1_0)), (11, (iv (p1.length : Int))), (12, (iv (s.2.1 : Int)))]) (fun s => [(0, bx bp0 #[(iv p0.p.Unit), (.slice Ap0_0 (p0.p.Tools).length cp0_0), (.slice Ap0_1 (p0.p.Steps).length cp0_1), (.slice Ap0_2 (p0.tools).length cp0_2), (.slice s.2.2.2.2.2.2.2.2.2.2.1 (s.2.2.1).length s.2.2.2.2.2.2.2.2.2.2.2), (.bool s.2.2.2.1), (iv s.2.2.2.2.1), (iv s.2.2.2.2.2.1), (iv s.2.2.2.2.2.2.1), (.bool s.2.2.2.2.2.2.2.1), (iv s.2.2.2.2.2.2.2.2.1), (iv s.2.2.2.2.2.2.2.2.2.1)] 77), (1, ow s.2.2.2.2.2.2.2.2.2.2.1 s.2.2.2.2.2.2.2.2.2.2.2 107 zH s.2.2.1), (2, bx b100 #[(iv p2.X), (iv p2.Y)] 43)]) (p1.length + 1) (p1, 0, p0.image, p0.clear, p0.tool, p0.place.X, p0.place.Y, p0.placed, p0.off, p0.on, Ap0_3, cp0_3) ⟨rfl, rfl, Nat.zero_le _, H, hfhp0_3⟩ (.cons rfl (.cons rfl (.cons rfl (.cons rfl (.cons rfl .nil))))) (.cons rfl (.cons rfl (.cons rfl .nil))) (fun _ _ h => absurd h.1 (by simp)) ?_
 intro w leL1 m s hs
 obtain ⟨restL1, iL1, l138, x139, x140, x141, x142, x143, x144, x145, Al138, cl138⟩ := s
 obtain ⟨hmL1, hdL1, hiL1, H, hl138⟩ := hs
 replace hdL1 : restL1 = List.drop iL1 p1 := hdL1
 replace H : F_plot_machine__run_L1 N p0 p2 rec restL1 iL1 l138 x139 x140 x141 x142 x143 x144 x145 = some r := H
 replace hmL1 : m + 1 = restL1.length + 1 := hmL1
 replace hp0_0 := hp0_0.leR leL1
 replace hp0_1 := hp0_1.leR leL1
 replace hp0_2 := hp0_2.leR leL1
 replace hp1_0 := hp1_0.leR leL1
 replace leB := leB.trans leL1
 replace hl138 : SlF Al138 (l138).length cl138 := hl138
 obtain rfl : m = restL1.length := by omega
 clear hmL1
 show Tr _ _ (LF [(0, (.pointer (some ⟨bp0, 0, none⟩))), (5, (.pointer (some ⟨b100, 0, none⟩))), (10, (.slice Ap1_0 (p1).length cp1_0)), (11, (iv (p1.length : Int))), (12, (iv (iL1 : Int)))]) (LE [(0, bx bp0 #[(iv p0.p.Unit), (.slice Ap0_0 (p0.p.Tools).length cp0_0), (.slice Ap0_1 (p0.p.Steps).length cp0_1), (.slice Ap0_2 (p0.tools).length cp0_2), (.slice Al138 (l138).length cl138), (.bool x139), (iv x140), (iv x141), (iv x142), (.bool x143), (iv x144), (iv x145)] 77), (1, ow Al138 cl138 107 zH l138), (2, bx b100 #[(iv p2.X), (iv p2.Y)] 43)]) _
 cases restL1 with
 | nil =>
  rw [F_plot_machine__run_L1.eq_1] at H
  refine Tr.sr ?_
  refine Tr.va rfl (fun _ _ h1 h2 => zn (h1.ev rfl) (h1.ev rfl)) ?_
  refine Tr.nil (Tr.zA ?_)
  refine Tr.seq ?_
  refine Tr.condF rfl (range_nil hdL1) ?_
  refine Tr.exit (Tr.zV (Tr.zV (Tr.zw (Tr.zA ?_))))
  refine Tr.sr ?_
  refine Tr.asg rfl rfl ?_
  refine Tr.nil (Tr.zA ?_)
  refine Tr.ret ?_
  obtain rfl := Option.some.inj H
  exact Tr.out (m := [(iv 0)]) [] (zL rfl zP) (fun W hW => ⟨w, (Al138, cl138), leB, rfl, hl138, hW.pick (ks := [0, 1]) (by decide) (zK rfl (zK rfl za))⟩)
 | cons xL1 restL1 =>
  rw [F_plot_machine__run_L1.eq_2] at H
  refine Tr.sr ?_
  refine Tr.va rfl (fun _ _ h1 h2 => zn (h1.ev rfl) (h1.ev rfl)) ?_
  refine Tr.nil (Tr.zA ?_)
  refine Tr.seq ?_
  refine Tr.condT rfl (range_on hdL1) ?_
  refine Tr.skip (Tr.zA ?_)
  refine Tr.seq ?_
  refine Tr.block ?_
  refine Tr.sr ?_
  obtain ⟨u146, hRu146, hoku146, hcu146⟩ := (hp1_0).el (range_at hdL1)
  obtain ⟨⟨Au146_0, cu146_0⟩, ⟨Au146_1, cu146_1⟩⟩ := u146
  obtain ⟨hoku146_0, hoku146_1⟩ := TPlotStep_ok.1 hoku146
  replace hoku146_0 : Sl w.R w.W zAK Au146_0 cu146_0 xL1.Points := hoku146_0
  replace hoku146_1 : Sl w.R w.W zG Au146_1 cu146_1 xL1.Steps := hoku146_1
  refine Tr.va rfl (fun _ _ h1 h2 => zI el_23 (h1.ev rfl) hp1_0.form (h1.ev rfl) (Int.natCast_nonneg _) (zf hdL1)) ?_
  refine Tr.va rfl (fun _ _ h1 h2 => zQ (cs := [(iv xL1.Kind), (sv xL1.Name), (iv xL1.At.X), (iv xL1.At.Y), (.slice Au146_0 (xL1.Points).length cu146_0), (iv xL1.NX), (iv xL1.NY), (.slice Au146_1 (xL1.Steps).length cu146_1)]) ag_46 sz_46 (h1.ev rfl) (zO.take (rdR hRu146 hcu146 h2) 8) rfl) ?_
  refine Tr.alloc 5 (wn rfl) rfl ze_46 fun b147 => ?_
  refine Tr.store 5 (cs := [(iv xL1.Kind), (sv xL1.Name), (iv xL1.At.X), (iv xL1.At.Y), (.slice Au146_0 (xL1.Points).length cu146_0), (iv xL1.NX), (iv xL1.NY), (.slice Au146_1 (xL1.Steps).length cu146_1)]) [(iv xL1.Kind), (sv xL1.Name), (iv xL1.At.X), (iv xL1.At.Y), (.slice Au146_0 (xL1.Points).length cu146_0), (iv xL1.NX), (iv xL1.NY), (.slice Au146_1 (xL1.Steps).length cu146_1)] (wn rfl) rfl rfl rfl rfl sz_46 rfl rfl rfl ?_
  refine Tr.nil (Tr.zA ?_)
  refine Tr.sr ?_
  refine Tr.mv rfl rfl ?_
  refine Tr.va rfl (fun _ _ h1 h2 => zQ (cs := [(iv xL1.Kind), (sv xL1.Name), (iv xL1.At.X), (iv xL1.At.Y), (.slice Au146_0 (xL1.Points).length cu146_0), (iv xL1.NX), (iv xL1.NY), (.slice Au146_1 (xL1.Steps).length cu146_1)]) ag_46 sz_46 (h1.ev rfl) (zO.take (rdb h2 (vs := [(iv xL1.Kind), (sv xL1.Name), (iv xL1.At.X), (iv xL1.At.Y), (.slice Au146_0 (xL1.Points).length cu146_0), (iv xL1.NX), (iv xL1.NY), (.slice Au146_1 (xL1.Steps).length cu146_1)]) (k := 5) rfl 0) 8) rfl) ?_
  refine Tr.va rfl (fun _ _ h1 h2 => zQ (cs := [(iv p2.X), (iv p2.Y)]) ag_43 sz_43 (h1.ev rfl) (zO.take (rdb h2 (vs := [(iv p2.X), (iv p2.Y)]) (k := 2) rfl 0) 2) rfl) ?_
  obtain ⟨y148, hy148, H⟩ := bnd H
  refine Tr.callG [0, 1] [bx bp0 #[(iv p0.p.Unit), (.slice Ap0_0 (p0.p.Tools).length cp0_0), (.slice Ap0_1 (p0.p.Steps).length cp0_1), (.slice Ap0_2 (p0.tools).length cp0_2), (.slice Al138 (l138).length cl138), (.bool x139), (iv x140), (iv x141), (iv x142), (.bool x143), (iv x144), (iv x145)] 77, ow Al138 cl138 107 zH l138] (U := (Option Addr × Nat)) (fun u => (iv y148.1)) (fun O W u => SlF u.1 (y148.2.2.2.2.2.2.2.2).length u.2) (fun u => [bx bp0 #[(iv p0.p.Unit), (.slice Ap0_0 (p0.p.Tools).length cp0_0), (.slice Ap0_1 (p0.p.Steps).length cp0_1), (.slice Ap0_2 (p0.tools).length cp0_2), (.slice u.1 (y148.2.2.2.2.2.2.2.2).length u.2), (.bool y148.2.1), (iv y148.2.2.1), (iv y148.2.2.2.1), (iv y148.2.2.2.2.1), (.bool y148.2.2.2.2.2.1), (iv y148.2.2.2.2.2.2.1), (iv y148.2.2.2.2.2.2.2.1)] 77, ow u.1 u.2 107 zH y148.2.2.2.2.2.2.2.2]) rfl (zK rfl (zK rfl za)) (fun _ => rfl) (wn rfl) rfl Tryz.call78 (zF rfl (zF rfl (zF rfl zN))) (fun W hW hp hE => F_plot_machine__step_ok rec hrec N (zo.mk p0.p p0.tools l138 x139 x140 (zJ.mk x141 x142) x143 x144 x145) Ap0_0 cp0_0 (hp0_0.ext (hW.extS hp)) Ap0_1 cp0_1 (hp0_1.ext (hW.extS hp)) Ap0_2 cp0_2 (hp0_2.ext (hW.extS hp)) Al138 cl138 bp0 xL1 Au146_0 cu146_0 (hoku146_0.ext (hW.extS hp)) Au146_1 cu146_1 (hoku146_1.ext (hW.extS hp)) p2 y148 hy148 hE) ?_
  intro w u le149 hu
  obtain ⟨Ay148_0, cy148_0⟩ := u
  have gy148_0 := hu
  replace hp0_0 := hp0_0.leR le149
  replace hp0_1 := hp0_1.leR le149
  replace hp0_2 := hp0_2.leR le149
  replace hp1_0 := hp1_0.leR le149
  replace hcu146 := le149.ext.cells hRu146 hcu146
  replace hRu146 := le149.r _ hRu146
  replace hoku146_0 := hoku146_0.leR le149
  replace hoku146_1 := hoku146_1.leR le149
  replace leB := leB.trans le149
  replace leL1 := leL1.trans le149
  have hgy148_0 : SlF Ay148_0 (y148.2.2.2.2.2.2.2.2).length cy148_0 := gy148_0 --@phi
  show Tr _ _ (uf _ 19 (iv y148.1)) (up (up _ 1 (ow Ay148_0 cy148_0 107 zH y148.2.2.2.2.2.2.2.2)) 0 (bx bp0 #[(iv p0.p.Unit), (.slice Ap0_0 (p0.p.Tools).length cp0_0), (.slice Ap0_1 (p0.p.Steps).length cp0_1), (.slice Ap0_2 (p0.tools).length cp0_2), (.slice Ay148_0 (y148.2.2.2.2.2.2.2.2).length cy148_0), (.bool y148.2.1), (iv y148.2.2.1), (iv y148.2.2.2.1), (iv y148.2.2.2.2.1), (.bool y148.2.2.2.2.2.1), (iv y148.2.2.2.2.2.2.1), (iv y148.2.2.2.2.2.2.2.1)] 77)) _
  refine Tr.asg rfl rfl ?_
  refine Tr.nil (Tr.zA ?_)
  refine Tr.sr ?_
  refine Tr.mv rfl rfl ?_
  refine Tr.va rfl (fun _ _ h1 h2 => run_neq (h1.ev rfl) (h1.ev rfl)) ?_
  refine Tr.nil (Tr.zA ?_)
  refine Tr.cond rfl H (fun H => ?_) (fun H => ?_)
  ·refine Tr.sr ?_
   refine Tr.mv rfl rfl ?_
   refine Tr.asg rfl rfl ?_
   refine Tr.nil (Tr.zA ?_)
   refine Tr.ret (Tr.zt (Tr.zU (Tr.zU (Tr.zt (Tr.zU ?_)))))
   obtain rfl := Option.some.inj H
   exact Tr.out (m := [(iv y148.1)]) [] (zL rfl zP) (fun W hW => ⟨w, (Ay148_0, cy148_0), leB, rfl, hgy148_0, hW.pick (ks := [0, 1]) (by decide) (zK rfl (zK rfl za))⟩)
  ·refine Tr.skip (Tr.zT (Tr.zA ?_))
   refine Tr.region ?_
   refine Tr.va rfl (fun _ _ h1 h2 => zm (h1.ev rfl) (h1.ev rfl)) ?_
   refine Tr.mv rfl rfl ?_
   refine Tr.nil ?_
   exact Tr.zW leL1 (restL1, (iL1 + 1), y148.2.2.2.2.2.2.2.2, y148.2.1, y148.2.2.1, y148.2.2.2.1, y148.2.2.2.2.1, y148.2.2.2.2.2.1, y148.2.2.2.2.2.2.1, y148.2.2.2.2.2.2.2.1, Ay148_0, cy148_0) ⟨rfl, zAI hdL1, zf hdL1, H, hgy148_0⟩ (.cons rfl (.cons rfl (.cons rfl (.cons rfl (.cons (congrArg (fun z => some (Value.int .i64 z)) (zAH hdL1 hp1_0.form)) .nil))))) (.cons rfl (.cons rfl (.cons rfl .nil)))
theorem F_plot_machine__run_ok : ∀ (N : Nat) {w : Bs} (p0 : zo) (Ap0_0 : Option Addr) (cp0_0 : Nat) (hp0_0 : Sl w.R w.W zh Ap0_0 cp0_0 p0.p.Tools) (Ap0_1 : Option Addr) (cp0_1 : Nat) (hp0_1 : Sl w.R w.W zG Ap0_1 cp0_1 p0.p.Steps) (Ap0_2 : Option Addr) (cp0_2 : Nat) (hp0_2 : Sl w.R w.W zAA Ap0_2 cp0_2 p0.tools) (Ap0_3 : Option Addr) (cp0_3 : Nat) (bp0 : Nat) (p1 : (List zD)) (Ap1_0 : Option Addr) (cp1_0 : Nat) (hp1_0 : Sl w.R w.W zG Ap1_0 cp1_0 p1) (p2 : zJ) (r : (Int × Bool × Int × Int × Int × Bool × Int × Int × (List zS))) (H : F_plot_machine__run N p0 p1 p2 = some r) (hE : HF w w.W (LEn [bx bp0 #[(iv p0.p.Unit), (.slice Ap0_0 (p0.p.Tools).length cp0_0), (.slice Ap0_1 (p0.p.Steps).length cp0_1), (.slice Ap0_2 (p0.tools).length cp0_2), (.slice Ap0_3 (p0.image).length cp0_3), (.bool p0.clear), (iv p0.tool), (iv p0.place.X), (iv p0.place.Y), (.bool p0.placed), (iv p0.off), (iv p0.on)] 77, ow Ap0_3 cp0_3 107 zH p0.image])), Calls Tryz.prog 56 [(.pointer (some ⟨bp0, 0, none⟩)), (.slice Ap1_0 (p1).length cp1_0), (.agg #[(iv p2.X), (iv p2.Y)])].toArray w.W fun e W' => ∃ (w' : Bs) (u : (Option Addr × Nat)), w.Le w' ∧ e = .returned (iv r.1) ∧ (SlF u.1 (r.2.2.2.2.2.2.2.2).length u.2) ∧ HF w' W' (LEn [bx bp0 #[(iv p0.p.Unit), (.slice Ap0_0 (p0.p.Tools).length cp0_0), (.slice Ap0_1 (p0.p.Steps).length cp0_1), (.slice Ap0_2 (p0.tools).length cp0_2), (.slice u.1 (r.2.2.2.2.2.2.2.2).length u.2), (.bool r.2.1), (iv r.2.2.1), (iv r.2.2.2.1), (iv r.2.2.2.2.1), (.bool r.2.2.2.2.2.1), (iv r.2.2.2.2.2.2.1), (iv r.2.2.2.2.2.2.2.1)] 77, ow u.1 u.2 107 zH r.2.2.2.2.2.2.2.2])
 | 0 => by intros; rename_i H _; cases H
 | N + 1 => F_plot_machine__run_b_ok N (F_plot_machine__run N) (F_plot_machine__run_ok N)

theorem F_plot_drawn_ok (N : Nat) {w : Bs} (p0 : TPlot) (Ap0_0 : Option Addr) (cp0_0 : Nat) (hp0_0 : Sl w.O w.W zh Ap0_0 cp0_0 p0.Tools) (Ap0_1 : Option Addr) (cp0_1 : Nat) (hp0_1 : Sl w.O w.W zG Ap0_1 cp0_1 p0.Steps) (r : (zo × Int)) (H : F_plot_drawn N p0 = some r) (hE : HF w w.W (LEn [emp, emp, emp])) : Calls Tryz.prog 32 [(.agg #[(iv p0.Unit), (.slice Ap0_0 (p0.Tools).length cp0_0), (.slice Ap0_1 (p0.Steps).length cp0_1)])].toArray w.W fun e W' => ∃ (w' : Bs) (u : (Option Addr × Nat) × (Option Addr × Nat) × (Option Addr × Nat) × (Option Addr × Nat) × (Option Addr × Nat)), w.Le w' ∧ e = .returned (.tuple #[(.pointer (some ⟨u.2.2.2.2.2, 0, none⟩)), (iv r.2)]) ∧ (Sl w'.O w'.W zh u.1.1 u.1.2 r.1.p.Tools ∧ Sl w'.O w'.W zG u.2.1.1 u.2.1.2 r.1.p.Steps ∧ SlF u.2.2.1.1 (r.1.tools).length u.2.2.1.2 ∧ SlF u.2.2.2.1.1 (r.1.image).length u.2.2.2.1.2 ∧ True) ∧ HF w' W' (LEn [ow u.2.2.1.1 u.2.2.1.2 66 zAA r.1.tools, ow u.2.2.2.1.1 u.2.2.2.1.2 107 zH r.1.image, bx u.2.2.2.2.2 #[(iv r.1.p.Unit), (.slice u.1.1 (r.1.p.Tools).length u.1.2), (.slice u.2.1.1 (r.1.p.Steps).length u.2.1.2), (.slice u.2.2.1.1 (r.1.tools).length u.2.2.1.2), (.slice u.2.2.2.1.1 (r.1.image).length u.2.2.2.1.2), (.bool r.1.clear), (iv r.1.tool), (iv r.1.place.X), (iv r.1.place.Y), (.bool r.1.placed), (iv r.1.off), (iv r.1.on)] 77]) := by
 unfold F_plot_drawn at H
 have leB := Bs.Le.refl w
 refine Tr.enter (n := 13) Tryz.func32 rfl rfl rfl hE ?_
 refine Tr.sr ?_
 refine Tr.box 1 (cs := [(iv p0.Unit), (.slice Ap0_0 (p0.Tools).length cp0_0), (.slice Ap0_1 (p0.Steps).length cp0_1)]) (wn rfl) rfl rfl rfl fun b100 => ?_
 refine Tr.asg rfl rfl ?_
 refine Tr.asg rfl rfl ?_
 refine Tr.nil (Tr.zA ?_)
 refine Tr.sr ?_
 refine Tr.va rfl (fun _ _ h1 h2 => zQ (cs := [(iv p0.Unit), (.slice Ap0_0 (p0.Tools).length cp0_0), (.slice Ap0_1 (p0.Steps).length cp0_1)]) ag_25 sz_25 (h1.ev rfl) (zO.take (rdb h2 (vs := [(iv p0.Unit), (.slice Ap0_0 (p0.Tools).length cp0_0), (.slice Ap0_1 (p0.Steps).length cp0_1)]) (k := 1) rfl 0) 3) rfl) ?_
 obtain ⟨y101, hy101, H⟩ := bnd H
 refine Tr.callG [2, 3, 4] [emp, emp, emp] (U := (Option Addr × Nat) × (Option Addr × Nat) × (Option Addr × Nat) × (Option Addr × Nat) × (Option Addr × Nat)) (fun u => (.pointer (some ⟨u.2.2.2.2.2, 0, none⟩))) (fun O W u => Sl O W zh u.1.1 u.1.2 y101.p.Tools ∧ Sl O W zG u.2.1.1 u.2.1.2 y101.p.Steps ∧ SlF u.2.2.1.1 (y101.tools).length u.2.2.1.2 ∧ SlF u.2.2.2.1.1 (y101.image).length u.2.2.2.1.2 ∧ True) (fun u => [ow u.2.2.1.1 u.2.2.1.2 66 zAA y101.tools, ow u.2.2.2.1.1 u.2.2.2.1.2 107 zH y101.image, bx u.2.2.2.2.2 #[(iv y101.p.Unit), (.slice u.1.1 (y101.p.Tools).length u.1.2), (.slice u.2.1.1 (y101.p.Steps).length u.2.1.2), (.slice u.2.2.1.1 (y101.tools).length u.2.2.1.2), (.slice u.2.2.2.1.1 (y101.image).length u.2.2.2.1.2), (.bool y101.clear), (iv y101.tool), (iv y101.place.X), (iv y101.place.Y), (.bool y101.placed), (iv y101.off), (iv y101.on)] 77]) rfl (zK rfl (zK rfl (zK rfl za))) (fun _ => rfl) (wn rfl) rfl Tryz.call55 (zF rfl zN) (fun W hW hp hE => F_plot_newMachine_ok N p0 Ap0_0 cp0_0 (hp0_0.extO (hW.extS hp)) Ap0_1 cp0_1 (hp0_1.extO (hW.extS hp)) y101 hy101 hE) ?_
 intro w u le102 hu
 obtain ⟨⟨Ay101_0, cy101_0⟩, ⟨Ay101_1, cy101_1⟩, ⟨Ay101_2, cy101_2⟩, ⟨Ay101_3, cy101_3⟩, ⟨Ay101_4, cy101_4⟩⟩ := u
 obtain ⟨gy101_0, gy101_1, gy101_2, gy101_3, gy101_4⟩ := hu
 replace hp0_0 := hp0_0.le le102
 replace hp0_1 := hp0_1.le le102
 replace leB := leB.trans le102
 have hgy101_0 : Sl w.O w.W zh Ay101_0 cy101_0 y101.p.Tools := gy101_0 --@phi
 have hgy101_1 : Sl w.O w.W zG Ay101_1 cy101_1 y101.p.Steps := gy101_1 --@phi
 have hgy101_2 : SlF Ay101_2 (y101.tools).length cy101_2 := gy101_2 --@phi
 have hgy101_3 : SlF Ay101_3 (y101.image).length cy101_3 := gy101_3 --@phi
 have hgy101_4 : True := gy101_4 --@phi
 show Tr _ _ (uf _ 6 (.pointer (some ⟨cy101_4, 0, none⟩))) (up (up (up _ 4 (bx cy101_4 #[(iv y101.p.Unit), (.slice Ay101_0 (y101.p.Tools).length cy101_0), (.slice Ay101_1 (y101.p.Steps).length cy101_1), (.slice Ay101_2 (y101.tools).length cy101_2), (.slice Ay101_3 (y101.image).length cy101_3), (.bool y101.clear), (iv y101.tool), (iv y101.place.X), (iv y101.place.Y), (.bool y101.placed), (iv y101.off), (iv y101.on)] 77)) 3 (ow Ay101_3 cy101_3 107 zH y101.image)) 2 (ow Ay101_2 cy101_2 66 zAA y101.tools)) _
 refine Tr.asg rfl rfl ?_
 refine Tr.nil (Tr.zA ?_)
 refine Tr.sr ?_
 refine Tr.mv rfl rfl ?_
 refine Tr.mv rfl rfl ?_
 refine Tr.va rfl (fun _ _ h1 h2 => zB fo_25_2 (h1.ev rfl)) ?_
 refine Tr.va rfl (fun _ _ h1 h2 => zC ag_23 (h1.ev rfl) (rdb h2 (vs := [(iv p0.Unit), (.slice Ap0_0 (p0.Tools).length cp0_0), (.slice Ap0_1 (p0.Steps).length cp0_1)]) (k := 1) rfl 2) rfl) ?_
 refine Tr.build (vs := []) (cs := [(iv 0), (iv 0)]) (wn rfl) rfl evs_nil (by kernel_rfl) ?_
 obtain ⟨y103, hy103, H⟩ := bnd H
 refine Tr.callG [4, 3] [bx cy101_4 #[(iv y101.p.Unit), (.slice Ay101_0 (y101.p.Tools).length cy101_0), (.slice Ay101_1 (y101.p.Steps).length cy101_1), (.slice Ay101_2 (y101.tools).length cy101_2), (.slice Ay101_3 (y101.image).length cy101_3), (.bool y101.clear), (iv y101.tool), (iv y101.place.X), (iv y101.place.Y), (.bool y101.placed), (iv y101.off), (iv y101.on)] 77, ow Ay101_3 cy101_3 107 zH y101.image] (U := (Option Addr × Nat)) (fun u => (iv y103.1)) (fun O W u => SlF u.1 (y103.2.2.2.2.2.2.2.2).length u.2) (fun u => [bx cy101_4 #[(iv y101.p.Unit), (.slice Ay101_0 (y101.p.Tools).length cy101_0), (.slice Ay101_1 (y101.p.Steps).length cy101_1), (.slice Ay101_2 (y101.tools).length cy101_2), (.slice u.1 (y103.2.2.2.2.2.2.2.2).length u.2), (.bool y103.2.1), (iv y103.2.2.1), (iv y103.2.2.2.1), (iv y103.2.2.2.2.1), (.bool y103.2.2.2.2.2.1), (iv y103.2.2.2.2.2.2.1), (iv y103.2.2.2.2.2.2.2.1)] 77, ow u.1 u.2 107 zH y103.2.2.2.2.2.2.2.2]) rfl (zK rfl (zK rfl za)) (fun _ => rfl) (wn rfl) rfl Tryz.call56 (zF rfl (zF rfl (zF rfl zN))) (fun W hW hp hE => F_plot_machine__run_ok N y101 Ay101_0 cy101_0 (hgy101_0.rl.ext (hW.extS hp)) Ay101_1 cy101_1 (hgy101_1.rl.ext (hW.extS hp)) Ay101_2 cy101_2 (hW.slS (k := 2) rfl hp rfl) Ay101_3 cy101_3 cy101_4 p0.Steps Ap0_1 cp0_1 (hp0_1.rl.ext (hW.extS hp)) (zJ.mk 0 0) y103 hy103 hE) ?_
 intro w u le104 hu
 obtain ⟨Ay103_0, cy103_0⟩ := u
 have gy103_0 := hu
 replace hp0_0 := hp0_0.le le104
 replace hp0_1 := hp0_1.le le104
 replace hgy101_0 := hgy101_0.le le104
 replace hgy101_1 := hgy101_1.le le104
 replace leB := leB.trans le104
 have hgy103_0 : SlF Ay103_0 (y103.2.2.2.2.2.2.2.2).length cy103_0 := gy103_0 --@phi
 show Tr _ _ (uf _ 12 (iv y103.1)) (up (up _ 3 (ow Ay103_0 cy103_0 107 zH y103.2.2.2.2.2.2.2.2)) 4 (bx cy101_4 #[(iv y101.p.Unit), (.slice Ay101_0 (y101.p.Tools).length cy101_0), (.slice Ay101_1 (y101.p.Steps).length cy101_1), (.slice Ay101_2 (y101.tools).length cy101_2), (.slice Ay103_0 (y103.2.2.2.2.2.2.2.2).length cy103_0), (.bool y103.2.1), (iv y103.2.2.1), (iv y103.2.2.2.1), (iv y103.2.2.2.2.1), (.bool y103.2.2.2.2.2.1), (iv y103.2.2.2.2.2.2.1), (iv y103.2.2.2.2.2.2.2.1)] 77)) _
 refine Tr.asg rfl rfl ?_
 refine Tr.asg rfl rfl ?_
 refine Tr.nil (Tr.zA ?_)
 refine Tr.ret ?_
 obtain rfl := Option.some.inj H
 exact Tr.out (m := [(.pointer (some ⟨cy101_4, 0, none⟩)), (iv y103.1)]) [] (zL rfl (zL rfl zP)) (fun W hW => ⟨w, ((Ay101_0, cy101_0), (Ay101_1, cy101_1), (Ay101_2, cy101_2), (Ay103_0, cy103_0), (none, cy101_4)), leB, rfl, ⟨hgy101_0, hgy101_1, hgy101_2, hgy103_0, trivial⟩, hW.pick (ks := [2, 3, 4]) (by decide) (zK rfl (zK rfl (zK rfl za)))⟩)

theorem F_plot_ImageOf_ok (N : Nat) {w : Bs} (p0 : TPlot) (Ap0_0 : Option Addr) (cp0_0 : Nat) (hp0_0 : Sl w.O w.W zh Ap0_0 cp0_0 p0.Tools) (Ap0_1 : Option Addr) (cp0_1 : Nat) (hp0_1 : Sl w.O w.W zG Ap0_1 cp0_1 p0.Steps) (r : ((List zS) × Int)) (H : F_plot_ImageOf N p0 = some r) (hE : HF w w.W (LEn [emp])) : Calls Tryz.prog 28 [(.agg #[(iv p0.Unit), (.slice Ap0_0 (p0.Tools).length cp0_0), (.slice Ap0_1 (p0.Steps).length cp0_1)])].toArray w.W fun e W' => ∃ (w' : Bs) (u : (Option Addr × Nat)), w.Le w' ∧ e = .returned (.tuple #[(.slice u.1 (r.1).length u.2), (iv r.2)]) ∧ (SlF u.1 (r.1).length u.2) ∧ HF w' W' (LEn [ow u.1 u.2 107 zH r.1]) := by
 unfold F_plot_ImageOf at H
 have leB := Bs.Le.refl w
 refine Tr.enter (n := 24) Tryz.func28 rfl rfl rfl hE ?_
 refine Tr.sr ?_
 refine Tr.box 1 (cs := [(iv p0.Unit), (.slice Ap0_0 (p0.Tools).length cp0_0), (.slice Ap0_1 (p0.Steps).length cp0_1)]) (wn rfl) rfl rfl rfl fun b100 => ?_
 refine Tr.asg rfl rfl ?_
 refine Tr.nilOwn 2 107 zH ?_
 show Tr _ _ (uf _ 2 (.slice none (([] : List zS)).length 0)) _ _
 refine Tr.asg rfl rfl ?_
 refine Tr.nil (Tr.zA ?_)
 refine Tr.seq ?_
 refine Tr.sr ?_
 refine Tr.va rfl (fun _ _ h1 h2 => zQ (cs := [(iv p0.Unit), (.slice Ap0_0 (p0.Tools).length cp0_0), (.slice Ap0_1 (p0.Steps).length cp0_1)]) ag_25 sz_25 (h1.ev rfl) (zO.take (rdb h2 (vs := [(iv p0.Unit), (.slice Ap0_0 (p0.Tools).length cp0_0), (.slice Ap0_1 (p0.Steps).length cp0_1)]) (k := 1) rfl 0) 3) rfl) ?_
 obtain ⟨y101, hy101, H⟩ := bnd H
 refine Tr.call0 (r := (iv y101)) (wn rfl) rfl Tryz.call21 (zF rfl zN) (fun W hW => F_plot_CheckPlot_ok N p0 Ap0_0 cp0_0 (hp0_0.rl.ext hW.extAll) Ap0_1 cp0_1 (hp0_1.rl.ext hW.extAll) y101 hy101 (HF.start _)) ?_
 refine Tr.asg rfl rfl ?_
 refine Tr.nil (Tr.zA ?_)
 refine Tr.sr ?_
 refine Tr.mv rfl rfl ?_
 refine Tr.va rfl (fun _ _ h1 h2 => run_neq (h1.ev rfl) (h1.ev rfl)) ?_
 refine Tr.nil (Tr.zA ?_)
 refine Tr.cond rfl H (fun H => ?_) (fun H => ?_)
 ·refine Tr.sr ?_
  refine Tr.mv rfl rfl ?_
  refine Tr.asg rfl rfl ?_
  refine Tr.nilOwn 3 107 zH ?_
  show Tr _ _ (uf _ 2 (.slice none (([] : List zS)).length 0)) _ _
  refine Tr.asg rfl rfl ?_
  refine Tr.nil (Tr.zA ?_)
  refine Tr.ret (Tr.zU ?_)
  obtain rfl := Option.some.inj H
  exact Tr.out (m := [(.slice none (([] : List zS)).length 0), (iv y101)]) [] (zL rfl (zL rfl zP)) (fun W hW => ⟨w, (none, 0), leB, rfl, slf_nil, hW.pick (ks := [3]) (by decide) (zK rfl za)⟩)
 ·refine Tr.skip (Tr.zA ?_)
  refine Tr.sr ?_
  refine Tr.va rfl (fun _ _ h1 h2 => zQ (cs := [(iv p0.Unit), (.slice Ap0_0 (p0.Tools).length cp0_0), (.slice Ap0_1 (p0.Steps).length cp0_1)]) ag_25 sz_25 (h1.ev rfl) (zO.take (rdb h2 (vs := [(iv p0.Unit), (.slice Ap0_0 (p0.Tools).length cp0_0), (.slice Ap0_1 (p0.Steps).length cp0_1)]) (k := 1) rfl 0) 3) rfl) ?_
  obtain ⟨y102, hy102, H⟩ := bnd H
  refine Tr.callG [4, 5, 6] [emp, emp, emp] (U := (Option Addr × Nat) × (Option Addr × Nat) × (Option Addr × Nat) × (Option Addr × Nat) × (Option Addr × Nat)) (fun u => (.tuple #[(.pointer (some ⟨u.2.2.2.2.2, 0, none⟩)), (iv y102.2)])) (fun O W u => Sl O W zh u.1.1 u.1.2 y102.1.p.Tools ∧ Sl O W zG u.2.1.1 u.2.1.2 y102.1.p.Steps ∧ SlF u.2.2.1.1 (y102.1.tools).length u.2.2.1.2 ∧ SlF u.2.2.2.1.1 (y102.1.image).length u.2.2.2.1.2 ∧ True) (fun u => [ow u.2.2.1.1 u.2.2.1.2 66 zAA y102.1.tools, ow u.2.2.2.1.1 u.2.2.2.1.2 107 zH y102.1.image, bx u.2.2.2.2.2 #[(iv y102.1.p.Unit), (.slice u.1.1 (y102.1.p.Tools).length u.1.2), (.slice u.2.1.1 (y102.1.p.Steps).length u.2.1.2), (.slice u.2.2.1.1 (y102.1.tools).length u.2.2.1.2), (.slice u.2.2.2.1.1 (y102.1.image).length u.2.2.2.1.2), (.bool y102.1.clear), (iv y102.1.tool), (iv y102.1.place.X), (iv y102.1.place.Y), (.bool y102.1.placed), (iv y102.1.off), (iv y102.1.on)] 77]) rfl (zK rfl (zK rfl (zK rfl za))) (fun _ => rfl) (wn rfl) rfl Tryz.call32 (zF rfl zN) (fun W hW hp hE => F_plot_drawn_ok N p0 Ap0_0 cp0_0 (hp0_0.extO (hW.extS hp)) Ap0_1 cp0_1 (hp0_1.extO (hW.extS hp)) y102 hy102 hE) ?_
  intro w u le103 hu
  obtain ⟨⟨Ay102_0, cy102_0⟩, ⟨Ay102_1, cy102_1⟩, ⟨Ay102_2, cy102_2⟩, ⟨Ay102_3, cy102_3⟩, ⟨Ay102_4, cy102_4⟩⟩ := u
  obtain ⟨gy102_0, gy102_1, gy102_2, gy102_3, gy102_4⟩ := hu
  replace hp0_0 := hp0_0.le le103
  replace hp0_1 := hp0_1.le le103
  replace leB := leB.trans le103
  have hgy102_0 : Sl w.O w.W zh Ay102_0 cy102_0 y102.1.p.Tools := gy102_0 --@phi
  have hgy102_1 : Sl w.O w.W zG Ay102_1 cy102_1 y102.1.p.Steps := gy102_1 --@phi
  have hgy102_2 : SlF Ay102_2 (y102.1.tools).length cy102_2 := gy102_2 --@phi
  have hgy102_3 : SlF Ay102_3 (y102.1.image).length cy102_3 := gy102_3 --@phi
  have hgy102_4 : True := gy102_4 --@phi
  show Tr _ _ (uf _ 14 (.tuple #[(.pointer (some ⟨cy102_4, 0, none⟩)), (iv y102.2)])) (up (up (up _ 6 (bx cy102_4 #[(iv y102.1.p.Unit), (.slice Ay102_0 (y102.1.p.Tools).length cy102_0), (.slice Ay102_1 (y102.1.p.Steps).length cy102_1), (.slice Ay102_2 (y102.1.tools).length cy102_2), (.slice Ay102_3 (y102.1.image).length cy102_3), (.bool y102.1.clear), (iv y102.1.tool), (iv y102.1.place.X), (iv y102.1.place.Y), (.bool y102.1.placed), (iv y102.1.off), (iv y102.1.on)] 77)) 5 (ow Ay102_3 cy102_3 107 zH y102.1.image)) 4 (ow Ay102_2 cy102_2 66 zAA y102.1.tools)) _
  refine Tr.mv rfl rfl ?_
  refine Tr.va rfl (fun _ _ h1 h2 => run_extract (h1.ev rfl) rfl) ?_
  refine Tr.va rfl (fun _ _ h1 h2 => run_extract (h1.ev rfl) rfl) ?_
  refine Tr.asg rfl rfl ?_
  refine Tr.asg rfl rfl ?_
  refine Tr.nil (Tr.zA ?_)
  refine Tr.seq ?_
  refine Tr.sr ?_
  refine Tr.mv rfl rfl ?_
  refine Tr.va rfl (fun _ _ h1 h2 => run_neq (h1.ev rfl) (h1.ev rfl)) ?_
  refine Tr.nil (Tr.zA ?_)
  refine Tr.cond rfl H (fun H => ?_) (fun H => ?_)
  ·refine Tr.sr ?_
   refine Tr.mv rfl rfl ?_
   refine Tr.asg rfl rfl ?_
   refine Tr.nilOwn 7 107 zH ?_
   show Tr _ _ (uf _ 2 (.slice none (([] : List zS)).length 0)) _ _
   refine Tr.asg rfl rfl ?_
   refine Tr.nil (Tr.zA ?_)
   refine Tr.ret (Tr.zU ?_)
   obtain rfl := Option.some.inj H
   exact Tr.out (m := [(.slice none (([] : List zS)).length 0), (iv y102.2)]) [] (zL rfl (zL rfl zP)) (fun W hW => ⟨w, (none, 0), leB, rfl, slf_nil, hW.pick (ks := [7]) (by decide) (zK rfl za)⟩)
  ·refine Tr.skip (Tr.zA ?_)
   refine Tr.sr ?_
   refine Tr.mv rfl rfl ?_
   refine Tr.va rfl (fun _ _ h1 h2 => zg (h1.ev rfl)) ?_
   refine Tr.va rfl (fun _ _ h1 h2 => zB fo_77_2 (h1.ev rfl)) ?_
   refine Tr.va rfl (fun _ _ h1 h2 => zC ag_66 (h1.ev rfl) (rdb h2 (vs := [(iv y102.1.p.Unit), (.slice Ay102_0 (y102.1.p.Tools).length cy102_0), (.slice Ay102_1 (y102.1.p.Steps).length cy102_1), (.slice Ay102_2 (y102.1.tools).length cy102_2), (.slice Ay102_3 (y102.1.image).length cy102_3), (.bool y102.1.clear), (iv y102.1.tool), (iv y102.1.place.X), (iv y102.1.place.Y), (.bool y102.1.placed), (iv y102.1.off), (iv y102.1.on)]) (k := 6) rfl 4) rfl) ?_
   refine Tr.asg rfl rfl ?_
   refine Tr.asg rfl rfl ?_
   refine Tr.nil (Tr.zA ?_)
   refine Tr.ret ?_
   obtain rfl := Option.some.inj H
   exact Tr.out (m := [(.slice Ay102_3 (y102.1.image).length cy102_3), (iv 0)]) [] (zL rfl (zL rfl zP)) (fun W hW => ⟨w, (Ay102_3, cy102_3), leB, rfl, hgy102_3, hW.pick (ks := [5]) (by decide) (zK rfl za)⟩)

theorem F_plot_Image_ok (N : Nat) {w : Bs} (p0 : TPlot) (Ap0_0 : Option Addr) (cp0_0 : Nat) (hp0_0 : Sl w.O w.W zh Ap0_0 cp0_0 p0.Tools) (Ap0_1 : Option Addr) (cp0_1 : Nat) (hp0_1 : Sl w.O w.W zG Ap0_1 cp0_1 p0.Steps) (r : ((List zR) × Int)) (H : F_plot_Image N p0 = some r) (hE : HF w w.W (LEn [emp])) : Calls Tryz.prog 10 [(.agg #[(iv p0.Unit), (.slice Ap0_0 (p0.Tools).length cp0_0), (.slice Ap0_1 (p0.Steps).length cp0_1)])].toArray w.W fun e W' => ∃ u : (Option Addr × Nat), e = .returned (.tuple #[(.slice u.1 (r.1).length u.2), (iv r.2)]) ∧ (SlF u.1 (r.1).length u.2) ∧ HF w W' (LEn [ow u.1 u.2 36 zM r.1]) := by
 unfold F_plot_Image at H
 have leB := Bs.Le.refl w
 refine Tr.enter (n := 14) Tryz.func10 rfl rfl rfl hE ?_
 refine Tr.sr ?_
 refine Tr.box 1 (cs := [(iv p0.Unit), (.slice Ap0_0 (p0.Tools).length cp0_0), (.slice Ap0_1 (p0.Steps).length cp0_1)]) (wn rfl) rfl rfl rfl fun b100 => ?_
 refine Tr.asg rfl rfl ?_
 refine Tr.nilOwn 2 36 zM ?_
 show Tr _ _ (uf _ 2 (.slice none (([] : List zR)).length 0)) _ _
 refine Tr.asg rfl rfl ?_
 refine Tr.nil (Tr.zA ?_)
 refine Tr.sr ?_
 refine Tr.va rfl (fun _ _ h1 h2 => zQ (cs := [(iv p0.Unit), (.slice Ap0_0 (p0.Tools).length cp0_0), (.slice Ap0_1 (p0.Steps).length cp0_1)]) ag_25 sz_25 (h1.ev rfl) (zO.take (rdb h2 (vs := [(iv p0.Unit), (.slice Ap0_0 (p0.Tools).length cp0_0), (.slice Ap0_1 (p0.Steps).length cp0_1)]) (k := 1) rfl 0) 3) rfl) ?_
 obtain ⟨y101, hy101, H⟩ := bnd H
 refine Tr.callG [3] [emp] (U := (Option Addr × Nat)) (fun u => (.tuple #[(.slice u.1 (y101.1).length u.2), (iv y101.2)])) (fun O W u => SlF u.1 (y101.1).length u.2) (fun u => [ow u.1 u.2 107 zH y101.1]) rfl (zK rfl za) (fun _ => rfl) (wn rfl) rfl Tryz.call28 (zF rfl zN) (fun W hW hp hE => F_plot_ImageOf_ok N p0 Ap0_0 cp0_0 (hp0_0.extO (hW.extS hp)) Ap0_1 cp0_1 (hp0_1.extO (hW.extS hp)) y101 hy101 hE) ?_
 intro w u le102 hu
 obtain ⟨Ay101_0, cy101_0⟩ := u
 have gy101_0 := hu
 replace hp0_0 := hp0_0.le le102
 replace hp0_1 := hp0_1.le le102
 replace leB := leB.trans le102
 have hgy101_0 : SlF Ay101_0 (y101.1).length cy101_0 := gy101_0 --@phi
 show Tr _ _ (uf _ 8 (.tuple #[(.slice Ay101_0 (y101.1).length cy101_0), (iv y101.2)])) (up _ 3 (ow Ay101_0 cy101_0 107 zH y101.1)) _
 refine Tr.mv rfl rfl ?_
 refine Tr.va rfl (fun _ _ h1 h2 => run_extract (h1.ev rfl) rfl) ?_
 refine Tr.va rfl (fun _ _ h1 h2 => run_extract (h1.ev rfl) rfl) ?_
 refine Tr.asg rfl rfl ?_
 refine Tr.asg rfl rfl ?_
 refine Tr.nil (Tr.zA ?_)
 refine Tr.sr ?_
 refine Tr.mv rfl rfl ?_
 obtain ⟨y103, hy103, H⟩ := bnd H
 refine Tr.callM [4] [emp] (U := (Option Addr × Nat)) (fun u => (.slice u.1 (y103).length u.2)) (fun u => SlF u.1 (y103).length u.2) (fun u => [ow u.1 u.2 36 zM y103]) rfl (zK rfl za) (fun _ => rfl) (wn rfl) rfl Tryz.call29 (zF rfl zN) (fun W hW hp hE => F_shape_Set__Rects_ok N y101.1 Ay101_0 cy101_0 (hW.slS (k := 3) rfl hp rfl) y103 hy103 hE) ?_
 intro u hu
 obtain ⟨Ay103_0, cy103_0⟩ := u
 have gy103_0 := hu
 have hgy103_0 : SlF Ay103_0 (y103).length cy103_0 := gy103_0 --@phi
 show Tr _ _ (uf _ 12 (.slice Ay103_0 (y103).length cy103_0)) (up _ 4 (ow Ay103_0 cy103_0 36 zM y103)) _
 refine Tr.mv rfl rfl ?_
 refine Tr.asg rfl rfl ?_
 refine Tr.asg rfl rfl ?_
 refine Tr.nil (Tr.zA ?_)
 refine Tr.ret ?_
 obtain rfl := Option.some.inj H
 exact Tr.out (m := [(.slice Ay103_0 (y103).length cy103_0), (iv y101.2)]) [] (zL rfl (zL rfl zP)) (fun W hW => ⟨(Ay103_0, cy103_0), rfl, hgy103_0, HF.lowE leB (hW.pick (ks := [4]) (by decide) (zK rfl za)) ⟨ow_any _ _ _ _ tr_TRect, trivial⟩⟩)

theorem F_plot_draws_ok {w : Bs} (p0 : Int) (r : Bool) (H : F_plot_draws p0 = some r) (hE : HF w w.W E0) : Calls Tryz.prog 52 [(iv p0)].toArray w.W fun e W' => e = .returned (.bool r) ∧ HF w W' E0 := by
 unfold F_plot_draws at H
 have leB := Bs.Le.refl w
 refine Tr.enter (n := 17) Tryz.func52 rfl rfl rfl hE ?_
 refine Tr.sr ?_
 refine Tr.asg rfl rfl ?_
 refine Tr.nil (Tr.zA ?_)
 refine Tr.sr ?_
 refine Tr.mv rfl rfl ?_
 refine Tr.va rfl (fun _ _ h1 h2 => run_eql (h1.ev rfl) (h1.ev rfl)) ?_
 refine Tr.mv rfl rfl ?_
 refine Tr.mid0 3 [(0, (iv p0)), (8, (.bool ((p0 == 5) || (p0 == 6))))] [] ?_ ?_
 ·cases hg99 : (p0 == 5)
  ·refine Tr.val (wg rfl rfl rfl) rfl (fun _ _ h1 h2 => run_move (h1.ev rfl)) ?_
   refine Tr.val (wg rfl rfl rfl) rfl (fun _ _ h1 h2 => run_eql (h1.ev rfl) (h1.ev rfl)) ?_
   refine Tr.va rfl (fun _ _ h1 h2 => ze (h1.ev rfl) (h1.ev rfl)) ?_
   exact Tr.nil (Tr.fin0 (.cons rfl (.cons rfl .nil)) .nil)
  ·refine Tr.pass rfl rfl rfl rfl rfl (by decide) ?_
   refine Tr.pass rfl rfl rfl rfl rfl (by decide) ?_
   refine Tr.va rfl (fun _ _ h1 h2 => zb (h1.ev rfl) (h1.ev rfl)) ?_
   exact Tr.nil (Tr.fin0 (.cons rfl (.cons rfl .nil)) .nil)
 ·show Tr _ _ (LF [(0, (iv p0)), (8, (.bool ((p0 == 5) || (p0 == 6))))]) (LE []) _
  refine Tr.mv rfl rfl ?_
  refine Tr.mid0 3 [(0, (iv p0)), (12, (.bool (((p0 == 5) || (p0 == 6)) || (p0 == 7))))] [] ?_ ?_
  ·cases hg99 : ((p0 == 5) || (p0 == 6))
   ·refine Tr.val (wg rfl rfl rfl) rfl (fun _ _ h1 h2 => run_move (h1.ev rfl)) ?_
    refine Tr.val (wg rfl rfl rfl) rfl (fun _ _ h1 h2 => run_eql (h1.ev rfl) (h1.ev rfl)) ?_
    refine Tr.va rfl (fun _ _ h1 h2 => ze (h1.ev rfl) (h1.ev rfl)) ?_
    exact Tr.nil (Tr.fin0 (.cons rfl (.cons rfl .nil)) .nil)
   ·refine Tr.pass rfl rfl rfl rfl rfl (by decide) ?_
    refine Tr.pass rfl rfl rfl rfl rfl (by decide) ?_
    refine Tr.va rfl (fun _ _ h1 h2 => zb (h1.ev rfl) (h1.ev rfl)) ?_
    exact Tr.nil (Tr.fin0 (.cons rfl (.cons rfl .nil)) .nil)
  ·show Tr _ _ (LF [(0, (iv p0)), (12, (.bool (((p0 == 5) || (p0 == 6)) || (p0 == 7))))]) (LE []) _
   refine Tr.mv rfl rfl ?_
   refine Tr.mid0 3 [(16, (.bool ((((p0 == 5) || (p0 == 6)) || (p0 == 7)) || (p0 == 8))))] [] ?_ ?_
   ·cases hg99 : (((p0 == 5) || (p0 == 6)) || (p0 == 7))
    ·refine Tr.val (wg rfl rfl rfl) rfl (fun _ _ h1 h2 => run_move (h1.ev rfl)) ?_
     refine Tr.val (wg rfl rfl rfl) rfl (fun _ _ h1 h2 => run_eql (h1.ev rfl) (h1.ev rfl)) ?_
     refine Tr.va rfl (fun _ _ h1 h2 => ze (h1.ev rfl) (h1.ev rfl)) ?_
     exact Tr.nil (Tr.fin0 (.cons rfl .nil) .nil)
    ·refine Tr.pass rfl rfl rfl rfl rfl (by decide) ?_
     refine Tr.pass rfl rfl rfl rfl rfl (by decide) ?_
     refine Tr.va rfl (fun _ _ h1 h2 => zb (h1.ev rfl) (h1.ev rfl)) ?_
     exact Tr.nil (Tr.fin0 (.cons rfl .nil) .nil)
   ·show Tr _ _ (LF [(16, (.bool ((((p0 == 5) || (p0 == 6)) || (p0 == 7)) || (p0 == 8))))]) (LE []) _
    refine Tr.asg rfl rfl ?_
    refine Tr.nil (Tr.zA ?_)
    refine Tr.ret ?_
    obtain rfl := Option.some.inj H
    exact Tr.out (m := [(.bool ((((p0 == 5) || (p0 == 6)) || (p0 == 7)) || (p0 == 8)))]) [] (zL rfl zP) (fun W hW => ⟨rfl, hW.low leB⟩)

theorem F_slices_IndexFunc_PlotStep__drawsAny_ok (rec : zD → Option Bool) (hrec : ∀ {w : Bs} (p0 : zD) (Ap0_0 : Option Addr) (cp0_0 : Nat) (hp0_0 : Sl w.R w.W zAK Ap0_0 cp0_0 p0.Points) (Ap0_1 : Option Addr) (cp0_1 : Nat) (hp0_1 : Sl w.R w.W zG Ap0_1 cp0_1 p0.Steps) (r : Bool) (H : rec p0 = some r) (hE : HF w w.W E0), Calls Tryz.prog 30 [(.agg #[(iv p0.Kind), (sv p0.Name), (iv p0.At.X), (iv p0.At.Y), (.slice Ap0_0 (p0.Points).length cp0_0), (iv p0.NX), (iv p0.NY), (.slice Ap0_1 (p0.Steps).length cp0_1)])].toArray w.W fun e W' => e = .returned (.bool r) ∧ HF w W' E0) {w : Bs} (p0 : (List zD)) (Ap0_0 : Option Addr) (cp0_0 : Nat) (hp0_0 : Sl w.R w.W zG Ap0_0 cp0_0 p0) (r : Int) (H : F_slices_IndexFunc_PlotStep__drawsAny rec p0 = some r) (hE : HF w w.W E0) : Calls Tryz.prog 77 [(.slice Ap0_0 (p0).length cp0_0), (.func (.func 30) #[] #[])].toArray w.W fun e W' => e = .returned (iv r) ∧ HF w W' E0 := by
 unfold F_slices_IndexFunc_PlotStep__drawsAny at H
 have leB := Bs.Le.refl w
 refine Tr.enter (n := 19) Tryz.func77 rfl rfl rfl hE ?_
 refine Tr.sr ?_
 refine Tr.asg rfl rfl ?_
 refine Tr.nil (Tr.zA ?_)
 refine Tr.seq ?_
 refine Tr.sr ?_
 refine Tr.mv rfl rfl ?_
 refine Tr.va rfl (fun _ _ h1 h2 => zl un_23 (h1.ev rfl)) ?_
 refine Tr.mv rfl rfl ?_
 refine Tr.nil (Tr.zA ?_)
 refine Tr.block ?_
 refine Tr.loop (σ := (List zD) × Nat) (fun m w s => m = s.1.length + 1 ∧ s.1 = List.drop s.2 p0 ∧ s.2 ≤ p0.length ∧ zk rec s.1 s.2 = some r) (fun s => [(0, (.slice Ap0_0 (p0).length cp0_0)), (1, (.func (.func 30) #[] #[])), (7, (iv (p0.length : Int))), (8, (iv (s.2 : Int)))]) (fun s => []) (p0.length + 1) (p0, 0) ⟨rfl, rfl, Nat.zero_le _, H⟩ (.cons rfl (.cons rfl (.cons rfl (.cons rfl .nil)))) .nil (fun _ _ h => absurd h.1 (by simp)) ?_
 intro w leL1 m s hs
 obtain ⟨restL1, iL1⟩ := s
 obtain ⟨hmL1, hdL1, hiL1, H⟩ := hs
 replace hdL1 : restL1 = List.drop iL1 p0 := hdL1
 replace H : zk rec restL1 iL1 = some r := H
 replace hmL1 : m + 1 = restL1.length + 1 := hmL1
 replace hp0_0 := hp0_0.leR leL1
 replace leB := leB.trans leL1
 obtain rfl : m = restL1.length := by omega
 clear hmL1
 show Tr _ _ (LF [(0, (.slice Ap0_0 (p0).length cp0_0)), (1, (.func (.func 30) #[] #[])), (7, (iv (p0.length : Int))), (8, (iv (iL1 : Int)))]) (LE []) _
 cases restL1 with
 | nil =>
  rw [zk.eq_1] at H
  refine Tr.sr ?_
  refine Tr.va rfl (fun _ _ h1 h2 => zn (h1.ev rfl) (h1.ev rfl)) ?_
  refine Tr.nil (Tr.zA ?_)
  refine Tr.seq ?_
  refine Tr.condF rfl (range_nil hdL1) ?_
  refine Tr.exit (Tr.zV (Tr.zV (Tr.zw (Tr.zA ?_))))
  refine Tr.sr ?_
  refine Tr.asg rfl rfl ?_
  refine Tr.nil (Tr.zA ?_)
  refine Tr.ret ?_
  obtain rfl := Option.some.inj H
  exact Tr.out (m := [(iv (-1))]) [] (zL rfl zP) (fun W hW => ⟨rfl, hW.low leB⟩)
 | cons xL1 restL1 =>
  rw [zk.eq_2] at H
  refine Tr.sr ?_
  refine Tr.va rfl (fun _ _ h1 h2 => zn (h1.ev rfl) (h1.ev rfl)) ?_
  refine Tr.nil (Tr.zA ?_)
  refine Tr.seq ?_
  refine Tr.condT rfl (range_on hdL1) ?_
  refine Tr.skip (Tr.zA ?_)
  refine Tr.seq ?_
  refine Tr.block ?_
  refine Tr.sr ?_
  refine Tr.mv rfl rfl ?_
  refine Tr.asg rfl rfl ?_
  refine Tr.nil (Tr.zA ?_)
  refine Tr.sr ?_
  refine Tr.mv rfl rfl ?_
  refine Tr.mv rfl rfl ?_
  refine Tr.mv rfl rfl ?_
  obtain ⟨u104, hRu104, hoku104, hcu104⟩ := (hp0_0).el (range_at hdL1)
  obtain ⟨⟨Au104_0, cu104_0⟩, ⟨Au104_1, cu104_1⟩⟩ := u104
  obtain ⟨hoku104_0, hoku104_1⟩ := TPlotStep_ok.1 hoku104
  replace hoku104_0 : Sl w.R w.W zAK Au104_0 cu104_0 xL1.Points := hoku104_0
  replace hoku104_1 : Sl w.R w.W zG Au104_1 cu104_1 xL1.Steps := hoku104_1
  refine Tr.va rfl (fun _ _ h1 h2 => zI el_23 (h1.ev rfl) hp0_0.form (h1.ev rfl) (Int.natCast_nonneg _) (zf hdL1)) ?_
  refine Tr.va rfl (fun _ _ h1 h2 => zQ (cs := [(iv xL1.Kind), (sv xL1.Name), (iv xL1.At.X), (iv xL1.At.Y), (.slice Au104_0 (xL1.Points).length cu104_0), (iv xL1.NX), (iv xL1.NY), (.slice Au104_1 (xL1.Steps).length cu104_1)]) ag_46 sz_46 (h1.ev rfl) (zO.take (rdR hRu104 hcu104 h2) 8) rfl) ?_
  obtain ⟨y105, hy105, H⟩ := bnd H
  refine Tr.callF (r := (.bool y105)) (wn rfl) rfl rfl Tryz.call30 (zF rfl zN) (fun W hW => hrec xL1 Au104_0 cu104_0 (hoku104_0.ext hW.extAll) Au104_1 cu104_1 (hoku104_1.ext hW.extAll) y105 hy105 (HF.start _)) ?_
  refine Tr.nil (Tr.zA ?_)
  refine Tr.cond rfl H (fun H => ?_) (fun H => ?_)
  ·refine Tr.sr ?_
   refine Tr.mv rfl rfl ?_
   refine Tr.asg rfl rfl ?_
   refine Tr.nil (Tr.zA ?_)
   refine Tr.ret (Tr.zt (Tr.zU (Tr.zU (Tr.zt (Tr.zU ?_)))))
   obtain rfl := Option.some.inj H
   exact Tr.out (m := [(iv (iL1 : Int))]) [] (zL rfl zP) (fun W hW => ⟨rfl, hW.low leB⟩)
  ·refine Tr.skip (Tr.zT (Tr.zA ?_))
   refine Tr.region ?_
   refine Tr.va rfl (fun _ _ h1 h2 => zm (h1.ev rfl) (h1.ev rfl)) ?_
   refine Tr.mv rfl rfl ?_
   refine Tr.nil ?_
   exact Tr.zW leL1 (restL1, (iL1 + 1)) ⟨rfl, zAI hdL1, zf hdL1, H⟩ (.cons rfl (.cons rfl (.cons rfl (.cons (congrArg (fun z => some (Value.int .i64 z)) (zAH hdL1 hp0_0.form)) .nil)))) .nil
theorem F_slices_ContainsFunc_PlotStep__drawsAny_ok (rec : zD → Option Bool) (hrec : ∀ {w : Bs} (p0 : zD) (Ap0_0 : Option Addr) (cp0_0 : Nat) (hp0_0 : Sl w.R w.W zAK Ap0_0 cp0_0 p0.Points) (Ap0_1 : Option Addr) (cp0_1 : Nat) (hp0_1 : Sl w.R w.W zG Ap0_1 cp0_1 p0.Steps) (r : Bool) (H : rec p0 = some r) (hE : HF w w.W E0), Calls Tryz.prog 30 [(.agg #[(iv p0.Kind), (sv p0.Name), (iv p0.At.X), (iv p0.At.Y), (.slice Ap0_0 (p0.Points).length cp0_0), (iv p0.NX), (iv p0.NY), (.slice Ap0_1 (p0.Steps).length cp0_1)])].toArray w.W fun e W' => e = .returned (.bool r) ∧ HF w W' E0) {w : Bs} (p0 : (List zD)) (Ap0_0 : Option Addr) (cp0_0 : Nat) (hp0_0 : Sl w.R w.W zG Ap0_0 cp0_0 p0) (r : Bool) (H : zAL rec p0 = some r) (hE : HF w w.W E0) : Calls Tryz.prog 53 [(.slice Ap0_0 (p0).length cp0_0), (.func (.func 30) #[] #[])].toArray w.W fun e W' => e = .returned (.bool r) ∧ HF w W' E0 := by
 unfold zAL at H
 have leB := Bs.Le.refl w
 refine Tr.enter (n := 9) Tryz.func53 rfl rfl rfl hE ?_
 refine Tr.sr ?_
 refine Tr.asg rfl rfl ?_
 refine Tr.nil (Tr.zA ?_)
 refine Tr.sr ?_
 refine Tr.mv rfl rfl ?_
 refine Tr.mv rfl rfl ?_
 obtain ⟨y100, hy100, H⟩ := bnd H
 refine Tr.call0 (r := (iv y100)) (wn rfl) rfl Tryz.call77 (zF rfl (zF rfl zN)) (fun W hW => F_slices_IndexFunc_PlotStep__drawsAny_ok rec hrec p0 Ap0_0 cp0_0 (hp0_0.ext hW.extAll) y100 hy100 (HF.start _)) ?_
 refine Tr.va rfl (fun _ _ h1 h2 => run_geq (h1.ev rfl) (h1.ev rfl)) ?_
 refine Tr.asg rfl rfl ?_
 refine Tr.nil (Tr.zA ?_)
 refine Tr.ret ?_
 obtain rfl := Option.some.inj H
 exact Tr.out (m := [(.bool (decide (0 ≤ y100)))]) [] (zL rfl zP) (fun W hW => ⟨rfl, hW.low leB⟩)
theorem F_plot_drawsAny_b_ok (N : Nat) (rec : zD → Option Bool) (hrec : ∀ {w : Bs} (p0 : zD) (Ap0_0 : Option Addr) (cp0_0 : Nat) (hp0_0 : Sl w.R w.W zAK Ap0_0 cp0_0 p0.Points) (Ap0_1 : Option Addr) (cp0_1 : Nat) (hp0_1 : Sl w.R w.W zG Ap0_1 cp0_1 p0.Steps) (r : Bool) (H : rec p0 = some r) (hE : HF w w.W E0), Calls Tryz.prog 30 [(.agg #[(iv p0.Kind), (sv p0.Name), (iv p0.At.X), (iv p0.At.Y), (.slice Ap0_0 (p0.Points).length cp0_0), (iv p0.NX), (iv p0.NY), (.slice Ap0_1 (p0.Steps).length cp0_1)])].toArray w.W fun e W' => e = .returned (.bool r) ∧ HF w W' E0) {w : Bs} (p0 : zD) (Ap0_0 : Option Addr) (cp0_0 : Nat) (hp0_0 : Sl w.R w.W zAK Ap0_0 cp0_0 p0.Points) (Ap0_1 : Option Addr) (cp0_1 : Nat) (hp0_1 : Sl w.R w.W zG Ap0_1 cp0_1 p0.Steps) (r : Bool) (H : F_plot_drawsAny_b N rec p0 = some r) (hE : HF w w.W E0) : Calls Tryz.prog 30 [(.agg #[(iv p0.Kind), (sv p0.Name), (iv p0.At.X), (iv p0.At.Y), (.slice Ap0_0 (p0.Points).length cp0_0), (iv p0.NX), (iv p0.NY), (.slice Ap0_1 (p0.Steps).length cp0_1)])].toArray w.W fun e W' => e = .returned (.bool r) ∧ HF w W' E0 := by
 unfold F_plot_drawsAny_b at H
 have leB := Bs.Le.refl w
 refine Tr.enter (n := 16) Tryz.func30 rfl rfl rfl hE ?_
 refine Tr.sr ?_
 refine Tr.box 1 (cs := [(iv p0.Kind), (sv p0.Name), (iv p0.At.X), (iv p0.At.Y), (.slice Ap0_0 (p0.Points).length cp0_0), (iv p0.NX), (iv p0.NY), (.slice Ap0_1 (p0.Steps).length cp0_1)]) (wn rfl) rfl rfl rfl fun b100 => ?_
 refine Tr.asg rfl rfl ?_
 refine Tr.nil (Tr.zA ?_)
 refine Tr.sr ?_
 refine Tr.va rfl (fun _ _ h1 h2 => zB fo_46_0 (h1.ev rfl)) ?_
 refine Tr.va rfl (fun _ _ h1 h2 => zC ag_3 (h1.ev rfl) (rdb h2 (vs := [(iv p0.Kind), (sv p0.Name), (iv p0.At.X), (iv p0.At.Y), (.slice Ap0_0 (p0.Points).length cp0_0), (iv p0.NX), (iv p0.NY), (.slice Ap0_1 (p0.Steps).length cp0_1)]) (k := 1) rfl 0) rfl) ?_
 obtain ⟨y101, hy101, H⟩ := bnd H
 refine Tr.call0 (r := (.bool y101)) (wn rfl) rfl Tryz.call52 (zF rfl zN) (fun W hW => F_plot_draws_ok p0.Kind y101 hy101 (HF.start _)) ?_
 refine Tr.mv rfl rfl ?_
 obtain ⟨g105, hg105, H⟩ := bnd H
 refine Tr.mid0 9 [(15, (.bool g105))] [(1, bx b100 #[(iv p0.Kind), (sv p0.Name), (iv p0.At.X), (iv p0.At.Y), (.slice Ap0_0 (p0.Points).length cp0_0), (iv p0.NX), (iv p0.NY), (.slice Ap0_1 (p0.Steps).length cp0_1)] 46)] ?_ ?_
 ·cases hg108 : y101
  ·rw [hg108] at hg105
   rw [if_neg (by decide)] at hg105
   have H := hg105
   obtain rfl := Option.some.inj H
   refine Tr.pass rfl rfl rfl rfl rfl (by decide) ?_
   refine Tr.pass rfl rfl rfl rfl rfl (by decide) ?_
   refine Tr.pass rfl rfl rfl rfl rfl (by decide) ?_
   refine Tr.pass rfl rfl rfl rfl rfl (by decide) ?_
   refine Tr.passU rfl rfl rfl rfl (by decide) ?_
   refine Tr.passU rfl rfl rfl rfl (by decide) ?_
   refine Tr.passU rfl rfl rfl rfl (by decide) ?_
   refine Tr.pass rfl rfl rfl rfl rfl (by decide) ?_
   refine Tr.va rfl (fun _ _ h1 h2 => ze (h1.ev rfl) (h1.ev rfl)) ?_
   exact Tr.nil (Tr.fin0 (.cons rfl .nil) (.cons rfl .nil))
  ·rw [hg108] at hg105
   rw [if_pos rfl] at hg105
   have H := hg105
   refine Tr.val (wg rfl rfl rfl) rfl (fun _ _ h1 h2 => zB fo_46_0 (h1.ev rfl)) ?_
   refine Tr.val (wg rfl rfl rfl) rfl (fun _ _ h1 h2 => zC ag_3 (h1.ev rfl) (rdb h2 (vs := [(iv p0.Kind), (sv p0.Name), (iv p0.At.X), (iv p0.At.Y), (.slice Ap0_0 (p0.Points).length cp0_0), (iv p0.NX), (iv p0.NY), (.slice Ap0_1 (p0.Steps).length cp0_1)]) (k := 1) rfl 0) rfl) ?_
   refine Tr.val (wg rfl rfl rfl) rfl (fun _ _ h1 h2 => run_neq (h1.ev rfl) (h1.ev rfl)) ?_
   refine Tr.val (wg rfl rfl rfl) rfl (fun _ _ h1 h2 => run_move (h1.ev rfl)) ?_
   obtain ⟨g107, hg107, H⟩ := bnd H
   refine Tr.mid0 4 [(6, (.bool true)), (14, (.bool g107))] [(1, bx b100 #[(iv p0.Kind), (sv p0.Name), (iv p0.At.X), (iv p0.At.Y), (.slice Ap0_0 (p0.Points).length cp0_0), (iv p0.NX), (iv p0.NY), (.slice Ap0_1 (p0.Steps).length cp0_1)] 46)] ?_ ?_
   ·cases hg108 : (p0.Kind != 8)
    ·rw [hg108] at hg107
     rw [if_neg (by decide)] at hg107
     have H := hg107
     refine Tr.val (wg rfl rfl rfl) rfl (fun _ _ h1 h2 => zB fo_46_6 (h1.ev rfl)) ?_
     refine Tr.val (wg rfl rfl rfl) rfl (fun _ _ h1 h2 => zC ag_23 (h1.ev rfl) (rdb h2 (vs := [(iv p0.Kind), (sv p0.Name), (iv p0.At.X), (iv p0.At.Y), (.slice Ap0_0 (p0.Points).length cp0_0), (iv p0.NX), (iv p0.NY), (.slice Ap0_1 (p0.Steps).length cp0_1)]) (k := 1) rfl 7) rfl) ?_
     obtain ⟨y108, hy108, H⟩ := bnd H
     refine Tr.call0 (r := (.bool y108)) (wg rfl rfl rfl) rfl Tryz.call53 (zF rfl (zF rfl zN)) (fun W hW => F_slices_ContainsFunc_PlotStep__drawsAny_ok rec hrec p0.Steps Ap0_1 cp0_1 (hp0_1.ext hW.extAll) y108 hy108 (HF.start _)) ?_
     refine Tr.val (wg rfl rfl rfl) rfl (fun _ _ h1 h2 => ze (h1.ev rfl) (h1.ev rfl)) ?_
     obtain rfl := Option.some.inj H
     exact Tr.nil (Tr.fin0 (.cons rfl (.cons rfl .nil)) (.cons rfl .nil))
    ·rw [hg108] at hg107
     rw [if_pos rfl] at hg107
     have H := hg107
     obtain rfl := Option.some.inj H
     refine Tr.pass rfl rfl rfl rfl rfl (by decide) ?_
     refine Tr.pass rfl rfl rfl rfl rfl (by decide) ?_
     refine Tr.pass rfl rfl rfl rfl rfl (by decide) ?_
     refine Tr.val (wg rfl rfl rfl) rfl (fun _ _ h1 h2 => zb (h1.ev rfl) (h1.ev rfl)) ?_
     exact Tr.nil (Tr.fin0 (.cons rfl (.cons rfl .nil)) (.cons rfl .nil))
   ·show Tr _ _ (LF [(6, (.bool true)), (14, (.bool g107))]) (LE [(1, bx b100 #[(iv p0.Kind), (sv p0.Name), (iv p0.At.X), (iv p0.At.Y), (.slice Ap0_0 (p0.Points).length cp0_0), (iv p0.NX), (iv p0.NY), (.slice Ap0_1 (p0.Steps).length cp0_1)] 46)]) _
    refine Tr.va rfl (fun _ _ h1 h2 => zb (h1.ev rfl) (h1.ev rfl)) ?_
    obtain rfl := Option.some.inj H
    exact Tr.nil (Tr.fin0 (.cons rfl .nil) (.cons rfl .nil))
 ·show Tr _ _ (LF [(15, (.bool g105))]) (LE [(1, bx b100 #[(iv p0.Kind), (sv p0.Name), (iv p0.At.X), (iv p0.At.Y), (.slice Ap0_0 (p0.Points).length cp0_0), (iv p0.NX), (iv p0.NY), (.slice Ap0_1 (p0.Steps).length cp0_1)] 46)]) _
  refine Tr.asg rfl rfl ?_
  refine Tr.nil (Tr.zA ?_)
  refine Tr.ret ?_
  obtain rfl := Option.some.inj H
  exact Tr.out (m := [(.bool g105)]) [] (zL rfl zP) (fun W hW => ⟨rfl, hW.low leB⟩)
theorem F_plot_drawsAny_ok : ∀ (N : Nat) {w : Bs} (p0 : zD) (Ap0_0 : Option Addr) (cp0_0 : Nat) (hp0_0 : Sl w.R w.W zAK Ap0_0 cp0_0 p0.Points) (Ap0_1 : Option Addr) (cp0_1 : Nat) (hp0_1 : Sl w.R w.W zG Ap0_1 cp0_1 p0.Steps) (r : Bool) (H : F_plot_drawsAny N p0 = some r) (hE : HF w w.W E0), Calls Tryz.prog 30 [(.agg #[(iv p0.Kind), (sv p0.Name), (iv p0.At.X), (iv p0.At.Y), (.slice Ap0_0 (p0.Points).length cp0_0), (iv p0.NX), (iv p0.NY), (.slice Ap0_1 (p0.Steps).length cp0_1)])].toArray w.W fun e W' => e = .returned (.bool r) ∧ HF w W' E0
 | 0 => by intros; rename_i H _; cases H
 | N + 1 => F_plot_drawsAny_b_ok N (F_plot_drawsAny N) (F_plot_drawsAny_ok N)

theorem F_slices_Grow_TPlotStep_ok {w : Bs} (p1 : Int) (r : (List zD)) (H : grN p1 = some r) (hE : HF w w.W (LEn [emp])) : Calls Tryz.prog 54 [(.slice none 0 0), (iv p1)].toArray w.W fun e W' => ∃ u : (Option Addr × Nat), e = .returned (.slice u.1 (r).length u.2) ∧ (SlF u.1 (r).length u.2) ∧ HF w W' (LEn [ow u.1 u.2 46 zG r]) :=
 growN_rule (ρ := Tryz.grow54_ren) Tryz.grow54 rfl sz_46 zl_46 (by decide) by_46 rfl H hE

theorem F_slices_Concat_PlotStep_ok {w : Bs} (p0 : (List (List zD))) (Ap0_0 : Option Addr) (cp0_0 : Nat) (hp0_0 : Sl w.O w.W fl_LTPlotStep Ap0_0 cp0_0 p0) (r : (List zD)) (H : F_slices_Concat_PlotStep p0 = some r) (hE : HF w w.W (LEn [emp])) : Calls Tryz.prog 31 [(.slice Ap0_0 (p0).length cp0_0)].toArray w.W fun e W' => ∃ (w' : Bs) (u : (Option Addr × Nat)), w.Le w' ∧ e = .returned (.slice u.1 (r).length u.2) ∧ (SlF u.1 (r).length u.2) ∧ HF w' W' (LEn [ow u.1 u.2 46 zG r]) := by
 unfold F_slices_Concat_PlotStep at H
 have leB := Bs.Le.refl w
 refine Tr.enter (n := 36) Tryz.func31 rfl rfl rfl hE ?_
 refine Tr.sr ?_
 refine Tr.asg rfl rfl ?_
 refine Tr.nilOwn 1 46 zG ?_
 show Tr _ _ (uf _ 2 (.slice none (([] : List zD)).length 0)) _ _
 refine Tr.nil (Tr.zA ?_)
 refine Tr.sr ?_
 refine Tr.asg rfl rfl ?_
 refine Tr.nil (Tr.zA ?_)
 refine Tr.seq ?_
 refine Tr.sr ?_
 refine Tr.mv rfl rfl ?_
 refine Tr.va rfl (fun _ _ h1 h2 => zl un_110 (h1.ev rfl)) ?_
 refine Tr.mv rfl rfl ?_
 refine Tr.nil (Tr.zA ?_)
 refine Tr.block ?_
 refine Tr.loop (σ := (List (List zD)) × Nat × Int) (fun m w s => m = s.1.length + 1 ∧ s.1 = List.drop s.2.1 p0 ∧ s.2.1 ≤ p0.length ∧ zAC p0 s.1 s.2.1 s.2.2 = some r) (fun s => [(0, (.slice Ap0_0 (p0).length cp0_0)), (3, (iv s.2.2)), (9, (.slice Ap0_0 (p0).length cp0_0)), (10, (iv (p0.length : Int))), (11, (iv (s.2.1 : Int)))]) (fun s => []) (p0.length + 1) (p0, 0, 0) ⟨rfl, rfl, Nat.zero_le _, H⟩ (.cons rfl (.cons rfl (.cons rfl (.cons rfl (.cons rfl .nil))))) .nil (fun _ _ h => absurd h.1 (by simp)) ?_
 intro w leL1 m s hs
 obtain ⟨restL1, iL1, x110⟩ := s
 obtain ⟨hmL1, hdL1, hiL1, H⟩ := hs
 replace hdL1 : restL1 = List.drop iL1 p0 := hdL1
 replace H : zAC p0 restL1 iL1 x110 = some r := H
 replace hmL1 : m + 1 = restL1.length + 1 := hmL1
 replace hp0_0 := hp0_0.le leL1
 replace leB := leB.trans leL1
 obtain rfl : m = restL1.length := by omega
 clear hmL1
 show Tr _ _ (LF [(0, (.slice Ap0_0 (p0).length cp0_0)), (3, (iv x110)), (9, (.slice Ap0_0 (p0).length cp0_0)), (10, (iv (p0.length : Int))), (11, (iv (iL1 : Int)))]) (LE []) _
 cases restL1 with
 | nil =>
  rw [zAC.eq_1] at H
  refine Tr.sr ?_
  refine Tr.va rfl (fun _ _ h1 h2 => zn (h1.ev rfl) (h1.ev rfl)) ?_
  refine Tr.nil (Tr.zA ?_)
  refine Tr.seq ?_
  refine Tr.condF rfl (range_nil hdL1) ?_
  refine Tr.exit (Tr.zV (Tr.zV (Tr.zw (Tr.zA ?_))))
  refine Tr.sr ?_
  refine Tr.mv rfl rfl ?_
  obtain ⟨y111, hy111, H⟩ := bnd H
  refine Tr.callM [2] [emp] (U := (Option Addr × Nat)) (fun u => (.slice u.1 (y111).length u.2)) (fun u => SlF u.1 (y111).length u.2) (fun u => [ow u.1 u.2 46 zG y111]) rfl (zK rfl za) (fun _ => rfl) (wn rfl) rfl Tryz.call54 (zF rfl (zF rfl zN)) (fun W hW hp hE => F_slices_Grow_TPlotStep_ok x110 y111 hy111 hE) ?_
  intro u hu
  obtain ⟨Ay111_0, cy111_0⟩ := u
  have gy111_0 := hu
  have hgy111_0 : SlF Ay111_0 (y111).length cy111_0 := gy111_0 --@phi
  show Tr _ _ (uf _ 24 (.slice Ay111_0 (y111).length cy111_0)) (up _ 2 (ow Ay111_0 cy111_0 46 zG y111)) _
  refine Tr.asg rfl rfl ?_
  refine Tr.nil (Tr.zA ?_)
  refine Tr.seq ?_
  refine Tr.sr ?_
  refine Tr.mv rfl rfl ?_
  refine Tr.va rfl (fun _ _ h1 h2 => zl un_110 (h1.ev rfl)) ?_
  refine Tr.mv rfl rfl ?_
  refine Tr.nil (Tr.zA ?_)
  refine Tr.block ?_
  refine Tr.loop (σ := (List (List zD)) × Nat × (List zD) × (Option Addr) × Nat) (fun m w s => m = s.1.length + 1 ∧ s.1 = List.drop s.2.1 p0 ∧ s.2.1 ≤ p0.length ∧ zAQ s.1 s.2.1 s.2.2.1 = some r ∧ SlF s.2.2.2.1 (s.2.2.1).length s.2.2.2.2) (fun s => [(6, (.slice s.2.2.2.1 (s.2.2.1).length s.2.2.2.2)), (25, (.slice Ap0_0 (p0).length cp0_0)), (26, (iv (p0.length : Int))), (27, (iv (s.2.1 : Int)))]) (fun s => [(2, ow s.2.2.2.1 s.2.2.2.2 46 zG s.2.2.1)]) (p0.length + 1) (p0, 0, y111, Ay111_0, cy111_0) ⟨rfl, rfl, Nat.zero_le _, H, hgy111_0⟩ (.cons rfl (.cons rfl (.cons rfl (.cons rfl .nil)))) (.cons rfl .nil) (fun _ _ h => absurd h.1 (by simp)) ?_
  intro w leL2 m s hs
  obtain ⟨restL2, iL2, l125, Al125, cl125⟩ := s
  obtain ⟨hmL2, hdL2, hiL2, H, hl125⟩ := hs
  replace hdL2 : restL2 = List.drop iL2 p0 := hdL2
  replace H : zAQ restL2 iL2 l125 = some r := H
  replace hmL2 : m + 1 = restL2.length + 1 := hmL2
  replace hp0_0 := hp0_0.le leL2
  replace leB := leB.trans leL2
  replace leL1 := leL1.trans leL2
  replace hl125 : SlF Al125 (l125).length cl125 := hl125
  obtain rfl : m = restL2.length := by omega
  clear hmL2
  show Tr _ _ (LF [(6, (.slice Al125 (l125).length cl125)), (25, (.slice Ap0_0 (p0).length cp0_0)), (26, (iv (p0.length : Int))), (27, (iv (iL2 : Int)))]) (LE [(2, ow Al125 cl125 46 zG l125)]) _
  cases restL2 with
  | nil =>
   rw [zAQ.eq_1] at H
   refine Tr.sr ?_
   refine Tr.va rfl (fun _ _ h1 h2 => zn (h1.ev rfl) (h1.ev rfl)) ?_
   refine Tr.nil (Tr.zA ?_)
   refine Tr.seq ?_
   refine Tr.condF rfl (range_nil hdL2) ?_
   refine Tr.exit (Tr.zV (Tr.zV (Tr.zw (Tr.zA ?_))))
   refine Tr.sr ?_
   refine Tr.mv rfl rfl ?_
   refine Tr.asg rfl rfl ?_
   refine Tr.nil (Tr.zA ?_)
   refine Tr.ret ?_
   obtain rfl := Option.some.inj H
   exact Tr.out (m := [(.slice Al125 (l125).length cl125)]) [] (zL rfl zP) (fun W hW => ⟨w, (Al125, cl125), leB, rfl, hl125, hW.pick (ks := [2]) (by decide) (zK rfl za)⟩)
  | cons xL2 restL2 =>
   rw [zAQ.eq_2] at H
   refine Tr.sr ?_
   refine Tr.va rfl (fun _ _ h1 h2 => zn (h1.ev rfl) (h1.ev rfl)) ?_
   refine Tr.nil (Tr.zA ?_)
   refine Tr.seq ?_
   refine Tr.condT rfl (range_on hdL2) ?_
   refine Tr.skip (Tr.zA ?_)
   refine Tr.seq ?_
   refine Tr.block ?_
   refine Tr.sr ?_
   obtain ⟨u126, hRu126, hoku126, hcu126⟩ := (hp0_0).el (range_at hdL2)
   obtain ⟨Au126_0, cu126_0⟩ := u126
   have hoku126_0 := hoku126
   replace hoku126_0 : Sl w.O w.W zG Au126_0 cu126_0 xL2 := hoku126_0
   replace hRu126 : w.R (adB Ap0_0) := Or.inl hRu126
   refine Tr.va rfl (fun _ _ h1 h2 => zI el_110 (h1.ev rfl) hp0_0.form (h1.ev rfl) (Int.natCast_nonneg _) (zf hdL2)) ?_
   refine Tr.va rfl (fun _ _ h1 h2 => zC ag_23 (h1.ev rfl) (rdR hRu126 hcu126 h2) rfl) ?_
   refine Tr.asg rfl rfl ?_
   refine Tr.nil (Tr.zA ?_)
   refine Tr.region ?_
   refine Tr.mv rfl rfl ?_
   refine Tr.mv rfl rfl ?_
   obtain ⟨l127, hl127, H⟩ := bnd H
   refine Tr.appendS 2 (t := zG) (l := l125) (l2 := xL2) (wn rfl) rfl rfl rfl rfl (apO hoku126_0) un_23 sz_46 zl_46 (by decide) by_46 rfl hl127 fun Al127 cl127 hAl127 => ?_
   refine Tr.asg rfl rfl ?_
   refine Tr.nil (Tr.zT (Tr.zA ?_))
   refine Tr.region ?_
   refine Tr.va rfl (fun _ _ h1 h2 => zm (h1.ev rfl) (h1.ev rfl)) ?_
   refine Tr.mv rfl rfl ?_
   refine Tr.nil ?_
   exact Tr.zW leL2 (restL2, (iL2 + 1), l127, Al127, cl127) ⟨rfl, zAI hdL2, zf hdL2, H, hAl127⟩ (.cons rfl (.cons rfl (.cons rfl (.cons (congrArg (fun z => some (Value.int .i64 z)) (zAH hdL2 hp0_0.form)) .nil)))) (.cons rfl .nil)
 | cons xL1 restL1 =>
  rw [zAC.eq_2] at H
  refine Tr.sr ?_
  refine Tr.va rfl (fun _ _ h1 h2 => zn (h1.ev rfl) (h1.ev rfl)) ?_
  refine Tr.nil (Tr.zA ?_)
  refine Tr.seq ?_
  refine Tr.condT rfl (range_on hdL1) ?_
  refine Tr.skip (Tr.zA ?_)
  refine Tr.seq ?_
  refine Tr.block ?_
  refine Tr.sr ?_
  obtain ⟨u128, hRu128, hoku128, hcu128⟩ := (hp0_0).el (range_at hdL1)
  obtain ⟨Au128_0, cu128_0⟩ := u128
  have hoku128_0 := hoku128
  replace hoku128_0 : Sl w.O w.W zG Au128_0 cu128_0 xL1 := hoku128_0
  replace hRu128 : w.R (adB Ap0_0) := Or.inl hRu128
  refine Tr.va rfl (fun _ _ h1 h2 => zI el_110 (h1.ev rfl) hp0_0.form (h1.ev rfl) (Int.natCast_nonneg _) (zf hdL1)) ?_
  refine Tr.va rfl (fun _ _ h1 h2 => zC ag_23 (h1.ev rfl) (rdR hRu128 hcu128 h2) rfl) ?_
  refine Tr.asg rfl rfl ?_
  refine Tr.nil (Tr.zA ?_)
  refine Tr.sr ?_
  refine Tr.mv rfl rfl ?_
  refine Tr.mv rfl rfl ?_
  refine Tr.va rfl (fun _ _ h1 h2 => zl un_23 (h1.ev rfl)) ?_
  refine Tr.va rfl (fun _ _ h1 h2 => zm (h1.ev rfl) (h1.ev rfl)) ?_
  refine Tr.asg rfl rfl ?_
  refine Tr.nil (Tr.zA ?_)
  refine Tr.sr ?_
  refine Tr.mv rfl rfl ?_
  refine Tr.va rfl (fun _ _ h1 h2 => zn (h1.ev rfl) (h1.ev rfl)) ?_
  refine Tr.nil (Tr.zA ?_)
  refine Tr.cond rfl H (fun H => ?_) (fun H => ?_)
  ·cases H
  ·refine Tr.skip (Tr.zT (Tr.zA ?_))
   refine Tr.region ?_
   refine Tr.va rfl (fun _ _ h1 h2 => zm (h1.ev rfl) (h1.ev rfl)) ?_
   refine Tr.mv rfl rfl ?_
   refine Tr.nil ?_
   exact Tr.zW leL1 (restL1, (iL1 + 1), (w64 (x110 + (xL1.length : Int)))) ⟨rfl, zAI hdL1, zf hdL1, H⟩ (.cons rfl (.cons rfl (.cons rfl (.cons rfl (.cons (congrArg (fun z => some (Value.int .i64 z)) (zAH hdL1 hp0_0.form)) .nil))))) .nil

end Go.Proofs.YtoageaoknnnfbaaGreatDoor
