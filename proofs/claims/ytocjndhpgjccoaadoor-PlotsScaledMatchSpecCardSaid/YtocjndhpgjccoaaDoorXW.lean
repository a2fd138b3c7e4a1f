/- The walks: each function computes its plain function. -/
import Derived.Test.YtocjndhpgjccoaaDoorXWc
namespace Go.Proofs.YtocjndhpgjccoaaDoor
open Go.RowKit
set_option maxRecDepth 100000
set_option maxHeartbeats 1000000
theorem F_plot_writeSteps_b_ok (N : Nat) (rec : ByteArray → (List TPlotStep) → Option ByteArray) (hrec : ∀ {w : Bs} (p0 : ByteArray) (Ap0_0 : Option Addr) (cp0_0 : Nat) (bp0 : Nat) (p1 : (List TPlotStep)) (Ap1_0 : Option Addr) (cp1_0 : Nat) (hp1_0 : Sl w.R w.W fl_TPlotStep Ap1_0 cp1_0 p1) (r : ByteArray) (H : rec p0 p1 = some r) (hE : HF w w.W (LEn [sb 47 5 bp0 Ap0_0 cp0_0 p0])), Calls Tryd.prog 21 [(.pointer (some ⟨bp0, 0, none⟩)), (.slice Ap1_0 (p1).length cp1_0)].toArray w.W fun e W' => ∃ u : (Option Addr × Nat), e = .returned (.tuple #[]) ∧ (True) ∧ HF w W' (LEn [sb 47 5 bp0 u.1 u.2 r])) {w : Bs} (p0 : ByteArray) (Ap0_0 : Option Addr) (cp0_0 : Nat) (bp0 : Nat) (p1 : (List TPlotStep)) (Ap1_0 : Option Addr) (cp1_0 : Nat) (hp1_0 : Sl w.R w.W fl_TPlotStep Ap1_0 cp1_0 p1) (r : ByteArray) (H : F_plot_writeSteps_b N rec p0 p1 = some r) (hE : HF w w.W (LEn [sb 47 5 bp0 Ap0_0 cp0_0 p0])) : Calls Tryd.prog 21 [(.pointer (some ⟨bp0, 0, none⟩)), (.slice Ap1_0 (p1).length cp1_0)].toArray w.W fun e W' => ∃ u : (Option Addr × Nat), e = .returned (.tuple #[]) ∧ (True) ∧ HF w W' (LEn [sb 47 5 bp0 u.1 u.2 r]) := by
 unfold F_plot_writeSteps_b at H
 have leB := Bs.Le.refl w
 refine Tr.enter (n := 91) Tryd.func21 rfl rfl rfl hE ?_
 refine Tr.sr ?_
 refine Tr.mv rfl rfl ?_
 refine Tr.va rfl (fun _ _ h1 h2 => run_len un_23 (h1.ev rfl)) ?_
 refine Tr.mv rfl rfl ?_
 refine Tr.nil (Tr.normThen ?_)
 refine Tr.block ?_
 refine Tr.loop (σ := (List TPlotStep) × Nat × ByteArray × (Option Addr) × Nat) (fun m w s => m = s.1.length + 1 ∧ s.1 = List.drop s.2.1 p1 ∧ s.2.1 ≤ p1.length ∧ F_plot_writeSteps_L1 rec s.1 s.2.1 s.2.2.1 = some r) (fun s => [(0, (.pointer (some ⟨bp0, 0, none⟩))), (6, (.slice Ap1_0 (p1).length cp1_0)), (7, (.int .i64 (p1.length : Int))), (8, (.int .i64 (s.2.1 : Int)))]) (fun s => [(0, sb 47 5 bp0 s.2.2.2.1 s.2.2.2.2 s.2.2.1)]) (p1.length + 1) (p1, 0, p0, Ap0_0, cp0_0) ⟨rfl, rfl, Nat.zero_le _, H⟩ (.cons rfl (.cons rfl (.cons rfl (.cons rfl .nil)))) (.cons rfl .nil) (fun _ _ h => absurd h.1 (by simp)) ?_
 intro w leF_plot_writeSteps_L1 m s hs
 obtain ⟨restF_plot_writeSteps_L1, iF_plot_writeSteps_L1, m194, Am194, cm194⟩ := s
 obtain ⟨hmF_plot_writeSteps_L1, hdF_plot_writeSteps_L1, hiF_plot_writeSteps_L1, H⟩ := hs
 replace hdF_plot_writeSteps_L1 : restF_plot_writeSteps_L1 = List.drop iF_plot_writeSteps_L1 p1 := hdF_plot_writeSteps_L1
 replace H : F_plot_writeSteps_L1 rec restF_plot_writeSteps_L1 iF_plot_writeSteps_L1 m194 = some r := H
 replace hmF_plot_writeSteps_L1 : m + 1 = restF_plot_writeSteps_L1.length + 1 := hmF_plot_writeSteps_L1
 replace hp1_0 := hp1_0.leR leF_plot_writeSteps_L1
 replace leB := leB.trans leF_plot_writeSteps_L1
 obtain rfl : m = restF_plot_writeSteps_L1.length := by omega
 clear hmF_plot_writeSteps_L1
 show Tr _ _ (LF [(0, (.pointer (some ⟨bp0, 0, none⟩))), (6, (.slice Ap1_0 (p1).length cp1_0)), (7, (.int .i64 (p1.length : Int))), (8, (.int .i64 (iF_plot_writeSteps_L1 : Int)))]) (LE [(0, sb 47 5 bp0 Am194 cm194 m194)]) _
 cases restF_plot_writeSteps_L1 with
 | nil =>
  rw [F_plot_writeSteps_L1.eq_1] at H
  refine Tr.sr ?_
  refine Tr.va rfl (fun _ _ h1 h2 => run_lss (h1.ev rfl) (h1.ev rfl)) ?_
  refine Tr.nil (Tr.normThen ?_)
  refine Tr.seq ?_
  refine Tr.condF rfl (range_nil hdF_plot_writeSteps_L1) ?_
  refine Tr.exit (Tr.exitThen (Tr.exitThen (Tr.exitBlock (Tr.offEnd ?_))))
  obtain rfl := Option.some.inj H
  exact Tr.out (m := []) [] res_nil (fun W hW => ⟨(Am194, cm194), rfl, trivial, HF.lowE leB (hW.pick (ks := [0]) (by decide) (pk_cons rfl pk_nil)) ⟨sb_any, trivial⟩⟩)
 | cons xF_plot_writeSteps_L1 restF_plot_writeSteps_L1 =>
  rw [F_plot_writeSteps_L1.eq_2] at H
  refine Tr.sr ?_
  refine Tr.va rfl (fun _ _ h1 h2 => run_lss (h1.ev rfl) (h1.ev rfl)) ?_
  refine Tr.nil (Tr.normThen ?_)
  refine Tr.seq ?_
  refine Tr.condT rfl (range_on hdF_plot_writeSteps_L1) ?_
  refine Tr.skip (Tr.normThen ?_)
  refine Tr.seq ?_
  refine Tr.block ?_
  refine Tr.sr ?_
  obtain ⟨u195, hRu195, hoku195, hcu195⟩ := (hp1_0).el (range_at hdF_plot_writeSteps_L1)
  obtain ⟨⟨Au195_0, cu195_0⟩, ⟨Au195_1, cu195_1⟩⟩ := u195
  obtain ⟨hoku195_0, hoku195_1⟩ := TPlotStep_ok.1 hoku195
  replace hoku195_0 : Sl w.R w.W fl_TPoint Au195_0 cu195_0 xF_plot_writeSteps_L1.Points := hoku195_0
  replace hoku195_1 : Sl w.R w.W fl_TPlotStep Au195_1 cu195_1 xF_plot_writeSteps_L1.Steps := hoku195_1
  refine Tr.va rfl (fun _ _ h1 h2 => run_indexAddr el_23 (h1.ev rfl) hp1_0.form (h1.ev rfl) (Int.natCast_nonneg _) (range_lt hdF_plot_writeSteps_L1)) ?_
  refine Tr.va rfl (fun _ _ h1 h2 => run_loadN (cs := [(.int .i64 xF_plot_writeSteps_L1.Kind), (.string xF_plot_writeSteps_L1.Name), (.int .i64 xF_plot_writeSteps_L1.At.X), (.int .i64 xF_plot_writeSteps_L1.At.Y), (.slice Au195_0 (xF_plot_writeSteps_L1.Points).length cu195_0), (.int .i64 xF_plot_writeSteps_L1.NX), (.int .i64 xF_plot_writeSteps_L1.NY), (.slice Au195_1 (xF_plot_writeSteps_L1.Steps).length cu195_1)]) ag_84 sz_84 (h1.ev rfl) (CellsAt.take (rdR hRu195 hcu195 h2) 8) rfl) ?_
  refine Tr.alloc 11 (wn rfl) rfl ze_84 fun b196 => ?_
  refine Tr.store 11 (cs := [(.int .i64 xF_plot_writeSteps_L1.Kind), (.string xF_plot_writeSteps_L1.Name), (.int .i64 xF_plot_writeSteps_L1.At.X), (.int .i64 xF_plot_writeSteps_L1.At.Y), (.slice Au195_0 (xF_plot_writeSteps_L1.Points).length cu195_0), (.int .i64 xF_plot_writeSteps_L1.NX), (.int .i64 xF_plot_writeSteps_L1.NY), (.slice Au195_1 (xF_plot_writeSteps_L1.Steps).length cu195_1)]) [(.int .i64 xF_plot_writeSteps_L1.Kind), (.string xF_plot_writeSteps_L1.Name), (.int .i64 xF_plot_writeSteps_L1.At.X), (.int .i64 xF_plot_writeSteps_L1.At.Y), (.slice Au195_0 (xF_plot_writeSteps_L1.Points).length cu195_0), (.int .i64 xF_plot_writeSteps_L1.NX), (.int .i64 xF_plot_writeSteps_L1.NY), (.slice Au195_1 (xF_plot_writeSteps_L1.Steps).length cu195_1)] (wn rfl) rfl rfl rfl rfl sz_84 rfl rfl rfl ?_
  refine Tr.nil (Tr.normThen ?_)
  refine Tr.sr ?_
  refine Tr.va rfl (fun _ _ h1 h2 => run_fieldAddr fo_84_0 (h1.ev rfl)) ?_
  refine Tr.va rfl (fun _ _ h1 h2 => run_load1 ag_3 (h1.ev rfl) (rdb h2 (vs := [(.int .i64 xF_plot_writeSteps_L1.Kind), (.string xF_plot_writeSteps_L1.Name), (.int .i64 xF_plot_writeSteps_L1.At.X), (.int .i64 xF_plot_writeSteps_L1.At.Y), (.slice Au195_0 (xF_plot_writeSteps_L1.Points).length cu195_0), (.int .i64 xF_plot_writeSteps_L1.NX), (.int .i64 xF_plot_writeSteps_L1.NY), (.slice Au195_1 (xF_plot_writeSteps_L1.Steps).length cu195_1)]) (k := 11) rfl 0) rfl) ?_
  refine Tr.nil (Tr.normThen ?_)
  refine Tr.block ?_
  refine Tr.sr ?_
  refine Tr.va rfl (fun _ _ h1 h2 => run_eql (h1.ev rfl) (h1.ev rfl)) ?_
  refine Tr.asg rfl rfl ?_
  refine Tr.nil (Tr.normThen ?_)
  refine Tr.cond rfl H (fun H => ?_) (fun H => ?_)
  ·refine Tr.region ?_
   refine Tr.mv rfl rfl ?_
   obtain ⟨y197, hy197, H⟩ := bnd H
   refine Tr.callM [0] [sb 47 5 bp0 Am194 cm194 m194] (U := (Option Addr × Nat)) (fun u => (.tuple #[(.int .i64 (((⟨#[100, 97, 114, 107, 10]⟩) : ByteArray).size : Int)), .nilIface])) (fun u => True) (fun u => [sb 47 5 bp0 u.1 u.2 y197]) rfl (pk_cons rfl pk_nil) (fun _ => rfl) (wn rfl) rfl Tryd.call18 (evl_cons rfl (evl_cons rfl evl_nil)) (fun W hW hp hE => F_strings_Builder_WriteString_ok m194 Am194 cm194 bp0 (⟨#[100, 97, 114, 107, 10]⟩) y197 hy197 hE) ?_
   intro u hu
   obtain ⟨Ay197_0, cy197_0⟩ := u
   have gy197_0 := hu
   have hgy197_0 : True := gy197_0 --@phi
   show Tr _ _ (uf _ 17 (.tuple #[(.int .i64 (((⟨#[100, 97, 114, 107, 10]⟩) : ByteArray).size : Int)), .nilIface])) (up _ 0 (sb 47 5 bp0 Ay197_0 cy197_0 y197)) _
   refine Tr.nil (Tr.normBlock (Tr.normBlock (Tr.normThen ?_)))
   refine Tr.region ?_
   refine Tr.va rfl (fun _ _ h1 h2 => run_add (h1.ev rfl) (h1.ev rfl)) ?_
   refine Tr.mv rfl rfl ?_
   refine Tr.nil ?_
   exact Tr.backThen leF_plot_writeSteps_L1 (restF_plot_writeSteps_L1, (iF_plot_writeSteps_L1 + 1), y197, Ay197_0, cy197_0) ⟨rfl, range_tl hdF_plot_writeSteps_L1, range_lt hdF_plot_writeSteps_L1, H⟩ (.cons rfl (.cons rfl (.cons rfl (.cons (congrArg (fun z => some (Value.int .i64 z)) (range_up hdF_plot_writeSteps_L1 hp1_0.form)) .nil)))) (.cons rfl .nil)
  ·refine Tr.sr ?_
   refine Tr.va rfl (fun _ _ h1 h2 => run_eql (h1.ev rfl) (h1.ev rfl)) ?_
   refine Tr.asg rfl rfl ?_
   refine Tr.nil (Tr.normThen ?_)
   refine Tr.cond rfl H (fun H => ?_) (fun H => ?_)
   ·refine Tr.region ?_
    refine Tr.mv rfl rfl ?_
    obtain ⟨y199, hy199, H⟩ := bnd H
    refine Tr.callM [0] [sb 47 5 bp0 Am194 cm194 m194] (U := (Option Addr × Nat)) (fun u => (.tuple #[(.int .i64 (((⟨#[99, 108, 101, 97, 114, 10]⟩) : ByteArray).size : Int)), .nilIface])) (fun u => True) (fun u => [sb 47 5 bp0 u.1 u.2 y199]) rfl (pk_cons rfl pk_nil) (fun _ => rfl) (wn rfl) rfl Tryd.call18 (evl_cons rfl (evl_cons rfl evl_nil)) (fun W hW hp hE => F_strings_Builder_WriteString_ok m194 Am194 cm194 bp0 (⟨#[99, 108, 101, 97, 114, 10]⟩) y199 hy199 hE) ?_
    intro u hu
    obtain ⟨Ay199_0, cy199_0⟩ := u
    have gy199_0 := hu
    have hgy199_0 : True := gy199_0 --@phi
    show Tr _ _ (uf _ 21 (.tuple #[(.int .i64 (((⟨#[99, 108, 101, 97, 114, 10]⟩) : ByteArray).size : Int)), .nilIface])) (up _ 0 (sb 47 5 bp0 Ay199_0 cy199_0 y199)) _
    refine Tr.nil (Tr.normBlock (Tr.normBlock (Tr.normThen ?_)))
    refine Tr.region ?_
    refine Tr.va rfl (fun _ _ h1 h2 => run_add (h1.ev rfl) (h1.ev rfl)) ?_
    refine Tr.mv rfl rfl ?_
    refine Tr.nil ?_
    exact Tr.backThen leF_plot_writeSteps_L1 (restF_plot_writeSteps_L1, (iF_plot_writeSteps_L1 + 1), y199, Ay199_0, cy199_0) ⟨rfl, range_tl hdF_plot_writeSteps_L1, range_lt hdF_plot_writeSteps_L1, H⟩ (.cons rfl (.cons rfl (.cons rfl (.cons (congrArg (fun z => some (Value.int .i64 z)) (range_up hdF_plot_writeSteps_L1 hp1_0.form)) .nil)))) (.cons rfl .nil)
   ·refine Tr.sr ?_
    refine Tr.va rfl (fun _ _ h1 h2 => run_eql (h1.ev rfl) (h1.ev rfl)) ?_
    refine Tr.asg rfl rfl ?_
    refine Tr.nil (Tr.normThen ?_)
    refine Tr.cond rfl H (fun H => ?_) (fun H => ?_)
    ·refine Tr.region ?_
     refine Tr.mv rfl rfl ?_
     refine Tr.va rfl (fun _ _ h1 h2 => run_fieldAddr fo_84_1 (h1.ev rfl)) ?_
     refine Tr.va rfl (fun _ _ h1 h2 => run_load1 ag_9 (h1.ev rfl) (rdb h2 (vs := [(.int .i64 xF_plot_writeSteps_L1.Kind), (.string xF_plot_writeSteps_L1.Name), (.int .i64 xF_plot_writeSteps_L1.At.X), (.int .i64 xF_plot_writeSteps_L1.At.Y), (.slice Au195_0 (xF_plot_writeSteps_L1.Points).length cu195_0), (.int .i64 xF_plot_writeSteps_L1.NX), (.int .i64 xF_plot_writeSteps_L1.NY), (.slice Au195_1 (xF_plot_writeSteps_L1.Steps).length cu195_1)]) (k := 11) rfl 1) rfl) ?_
     obtain ⟨t201, ht201, H⟩ := bnd H
     refine Tr.va rfl (fun _ _ h1 h2 => run_catS (h1.ev rfl) (h1.ev rfl) ht201) ?_
     obtain ⟨t202, ht202, H⟩ := bnd H
     refine Tr.va rfl (fun _ _ h1 h2 => run_catS (h1.ev rfl) (h1.ev rfl) ht202) ?_
     obtain ⟨y203, hy203, H⟩ := bnd H
     refine Tr.callM [0] [sb 47 5 bp0 Am194 cm194 m194] (U := (Option Addr × Nat)) (fun u => (.tuple #[(.int .i64 ((t202 : ByteArray).size : Int)), .nilIface])) (fun u => True) (fun u => [sb 47 5 bp0 u.1 u.2 y203]) rfl (pk_cons rfl pk_nil) (fun _ => rfl) (wn rfl) rfl Tryd.call18 (evl_cons rfl (evl_cons rfl evl_nil)) (fun W hW hp hE => F_strings_Builder_WriteString_ok m194 Am194 cm194 bp0 t202 y203 hy203 hE) ?_
     intro u hu
     obtain ⟨Ay203_0, cy203_0⟩ := u
     have gy203_0 := hu
     have hgy203_0 : True := gy203_0 --@phi
     show Tr _ _ (uf _ 29 (.tuple #[(.int .i64 ((t202 : ByteArray).size : Int)), .nilIface])) (up _ 0 (sb 47 5 bp0 Ay203_0 cy203_0 y203)) _
     refine Tr.nil (Tr.normBlock (Tr.normBlock (Tr.normThen ?_)))
     refine Tr.region ?_
     refine Tr.va rfl (fun _ _ h1 h2 => run_add (h1.ev rfl) (h1.ev rfl)) ?_
     refine Tr.mv rfl rfl ?_
     refine Tr.nil ?_
     exact Tr.backThen leF_plot_writeSteps_L1 (restF_plot_writeSteps_L1, (iF_plot_writeSteps_L1 + 1), y203, Ay203_0, cy203_0) ⟨rfl, range_tl hdF_plot_writeSteps_L1, range_lt hdF_plot_writeSteps_L1, H⟩ (.cons rfl (.cons rfl (.cons rfl (.cons (congrArg (fun z => some (Value.int .i64 z)) (range_up hdF_plot_writeSteps_L1 hp1_0.form)) .nil)))) (.cons rfl .nil)
    ·refine Tr.sr ?_
     refine Tr.va rfl (fun _ _ h1 h2 => run_eql (h1.ev rfl) (h1.ev rfl)) ?_
     refine Tr.asg rfl rfl ?_
     refine Tr.nil (Tr.normThen ?_)
     refine Tr.cond rfl H (fun H => ?_) (fun H => ?_)
     ·refine Tr.region ?_
      refine Tr.mv rfl rfl ?_
      refine Tr.va rfl (fun _ _ h1 h2 => run_fieldAddr fo_84_2 (h1.ev rfl)) ?_
      refine Tr.va rfl (fun _ _ h1 h2 => run_loadN (cs := [(.int .i64 xF_plot_writeSteps_L1.At.X), (.int .i64 xF_plot_writeSteps_L1.At.Y)]) ag_37 sz_37 (h1.ev rfl) (CellsAt.take (rdb h2 (vs := [(.int .i64 xF_plot_writeSteps_L1.Kind), (.string xF_plot_writeSteps_L1.Name), (.int .i64 xF_plot_writeSteps_L1.At.X), (.int .i64 xF_plot_writeSteps_L1.At.Y), (.slice Au195_0 (xF_plot_writeSteps_L1.Points).length cu195_0), (.int .i64 xF_plot_writeSteps_L1.NX), (.int .i64 xF_plot_writeSteps_L1.NY), (.slice Au195_1 (xF_plot_writeSteps_L1.Steps).length cu195_1)]) (k := 11) rfl 2) 2) rfl) ?_
      refine Tr.buildSlice 12 (e := 37) (vs := [(0, (.agg #[(.int .i64 xF_plot_writeSteps_L1.At.X), (.int .i64 xF_plot_writeSteps_L1.At.Y)]))]) (cs := [(.int .i64 xF_plot_writeSteps_L1.At.X), (.int .i64 xF_plot_writeSteps_L1.At.Y)]) (wn rfl) rfl (evs_cons rfl evs_nil) (by kernel_rfl) fun b205 => ?_
      refine Tr.own 12 fl_TPoint [xF_plot_writeSteps_L1.At] (css := [[(.int .i64 xF_plot_writeSteps_L1.At.X), (.int .i64 xF_plot_writeSteps_L1.At.Y)]]) rfl (.cons ⟨(), trivial, rfl⟩ .nil) rfl (by decide) (lit_max rfl) ?_
      obtain ⟨y206, hy206, H⟩ := bnd H
      refine Tr.call0 (r := (.string y206)) (wn rfl) rfl Tryd.call20 (evl_cons rfl evl_nil) (fun W hW => F_plot_points_ok [xF_plot_writeSteps_L1.At] (some ⟨b205, 0, none⟩) 1 (hW.slCall (k := 12) rfl) y206 hy206 (HF.start _)) ?_
      obtain ⟨t207, ht207, H⟩ := bnd H
      refine Tr.va rfl (fun _ _ h1 h2 => run_catS (h1.ev rfl) (h1.ev rfl) ht207) ?_
      obtain ⟨t208, ht208, H⟩ := bnd H
      refine Tr.va rfl (fun _ _ h1 h2 => run_catS (h1.ev rfl) (h1.ev rfl) ht208) ?_
      obtain ⟨y209, hy209, H⟩ := bnd H
      refine Tr.callM [0] [sb 47 5 bp0 Am194 cm194 m194] (U := (Option Addr × Nat)) (fun u => (.tuple #[(.int .i64 ((t208 : ByteArray).size : Int)), .nilIface])) (fun u => True) (fun u => [sb 47 5 bp0 u.1 u.2 y209]) rfl (pk_cons rfl pk_nil) (fun _ => rfl) (wn rfl) rfl Tryd.call18 (evl_cons rfl (evl_cons rfl evl_nil)) (fun W hW hp hE => F_strings_Builder_WriteString_ok m194 Am194 cm194 bp0 t208 y209 hy209 hE) ?_
      intro u hu
      obtain ⟨Ay209_0, cy209_0⟩ := u
      have gy209_0 := hu
      have hgy209_0 : True := gy209_0 --@phi
      show Tr _ _ (uf _ 39 (.tuple #[(.int .i64 ((t208 : ByteArray).size : Int)), .nilIface])) (up _ 0 (sb 47 5 bp0 Ay209_0 cy209_0 y209)) _
      refine Tr.nil (Tr.normBlock (Tr.normBlock (Tr.normThen ?_)))
      refine Tr.region ?_
      refine Tr.va rfl (fun _ _ h1 h2 => run_add (h1.ev rfl) (h1.ev rfl)) ?_
      refine Tr.mv rfl rfl ?_
      refine Tr.nil ?_
      exact Tr.backThen leF_plot_writeSteps_L1 (restF_plot_writeSteps_L1, (iF_plot_writeSteps_L1 + 1), y209, Ay209_0, cy209_0) ⟨rfl, range_tl hdF_plot_writeSteps_L1, range_lt hdF_plot_writeSteps_L1, H⟩ (.cons rfl (.cons rfl (.cons rfl (.cons (congrArg (fun z => some (Value.int .i64 z)) (range_up hdF_plot_writeSteps_L1 hp1_0.form)) .nil)))) (.cons rfl .nil)
     ·refine Tr.sr ?_
      refine Tr.va rfl (fun _ _ h1 h2 => run_eql (h1.ev rfl) (h1.ev rfl)) ?_
      refine Tr.asg rfl rfl ?_
      refine Tr.nil (Tr.normThen ?_)
      refine Tr.cond rfl H (fun H => ?_) (fun H => ?_)
      ·refine Tr.region ?_
       refine Tr.mv rfl rfl ?_
       refine Tr.va rfl (fun _ _ h1 h2 => run_fieldAddr fo_84_2 (h1.ev rfl)) ?_
       refine Tr.va rfl (fun _ _ h1 h2 => run_loadN (cs := [(.int .i64 xF_plot_writeSteps_L1.At.X), (.int .i64 xF_plot_writeSteps_L1.At.Y)]) ag_37 sz_37 (h1.ev rfl) (CellsAt.take (rdb h2 (vs := [(.int .i64 xF_plot_writeSteps_L1.Kind), (.string xF_plot_writeSteps_L1.Name), (.int .i64 xF_plot_writeSteps_L1.At.X), (.int .i64 xF_plot_writeSteps_L1.At.Y), (.slice Au195_0 (xF_plot_writeSteps_L1.Points).length cu195_0), (.int .i64 xF_plot_writeSteps_L1.NX), (.int .i64 xF_plot_writeSteps_L1.NY), (.slice Au195_1 (xF_plot_writeSteps_L1.Steps).length cu195_1)]) (k := 11) rfl 2) 2) rfl) ?_
       refine Tr.buildSlice 13 (e := 37) (vs := [(0, (.agg #[(.int .i64 xF_plot_writeSteps_L1.At.X), (.int .i64 xF_plot_writeSteps_L1.At.Y)]))]) (cs := [(.int .i64 xF_plot_writeSteps_L1.At.X), (.int .i64 xF_plot_writeSteps_L1.At.Y)]) (wn rfl) rfl (evs_cons rfl evs_nil) (by kernel_rfl) fun b211 => ?_
       refine Tr.own 13 fl_TPoint [xF_plot_writeSteps_L1.At] (css := [[(.int .i64 xF_plot_writeSteps_L1.At.X), (.int .i64 xF_plot_writeSteps_L1.At.Y)]]) rfl (.cons ⟨(), trivial, rfl⟩ .nil) rfl (by decide) (lit_max rfl) ?_
       obtain ⟨y212, hy212, H⟩ := bnd H
       refine Tr.call0 (r := (.string y212)) (wn rfl) rfl Tryd.call20 (evl_cons rfl evl_nil) (fun W hW => F_plot_points_ok [xF_plot_writeSteps_L1.At] (some ⟨b211, 0, none⟩) 1 (hW.slCall (k := 13) rfl) y212 hy212 (HF.start _)) ?_
       obtain ⟨t213, ht213, H⟩ := bnd H
       refine Tr.va rfl (fun _ _ h1 h2 => run_catS (h1.ev rfl) (h1.ev rfl) ht213) ?_
       obtain ⟨t214, ht214, H⟩ := bnd H
       refine Tr.va rfl (fun _ _ h1 h2 => run_catS (h1.ev rfl) (h1.ev rfl) ht214) ?_
       obtain ⟨y215, hy215, H⟩ := bnd H
       refine Tr.callM [0] [sb 47 5 bp0 Am194 cm194 m194] (U := (Option Addr × Nat)) (fun u => (.tuple #[(.int .i64 ((t214 : ByteArray).size : Int)), .nilIface])) (fun u => True) (fun u => [sb 47 5 bp0 u.1 u.2 y215]) rfl (pk_cons rfl pk_nil) (fun _ => rfl) (wn rfl) rfl Tryd.call18 (evl_cons rfl (evl_cons rfl evl_nil)) (fun W hW hp hE => F_strings_Builder_WriteString_ok m194 Am194 cm194 bp0 t214 y215 hy215 hE) ?_
       intro u hu
       obtain ⟨Ay215_0, cy215_0⟩ := u
       have gy215_0 := hu
       have hgy215_0 : True := gy215_0 --@phi
       show Tr _ _ (uf _ 49 (.tuple #[(.int .i64 ((t214 : ByteArray).size : Int)), .nilIface])) (up _ 0 (sb 47 5 bp0 Ay215_0 cy215_0 y215)) _
       refine Tr.nil (Tr.normBlock (Tr.normBlock (Tr.normThen ?_)))
       refine Tr.region ?_
       refine Tr.va rfl (fun _ _ h1 h2 => run_add (h1.ev rfl) (h1.ev rfl)) ?_
       refine Tr.mv rfl rfl ?_
       refine Tr.nil ?_
       exact Tr.backThen leF_plot_writeSteps_L1 (restF_plot_writeSteps_L1, (iF_plot_writeSteps_L1 + 1), y215, Ay215_0, cy215_0) ⟨rfl, range_tl hdF_plot_writeSteps_L1, range_lt hdF_plot_writeSteps_L1, H⟩ (.cons rfl (.cons rfl (.cons rfl (.cons (congrArg (fun z => some (Value.int .i64 z)) (range_up hdF_plot_writeSteps_L1 hp1_0.form)) .nil)))) (.cons rfl .nil)
      ·refine Tr.sr ?_
       refine Tr.va rfl (fun _ _ h1 h2 => run_eql (h1.ev rfl) (h1.ev rfl)) ?_
       refine Tr.asg rfl rfl ?_
       refine Tr.nil (Tr.normThen ?_)
       refine Tr.cond rfl H (fun H => ?_) (fun H => ?_)
       ·refine Tr.region ?_
        refine Tr.mv rfl rfl ?_
        refine Tr.va rfl (fun _ _ h1 h2 => run_fieldAddr fo_84_2 (h1.ev rfl)) ?_
        refine Tr.va rfl (fun _ _ h1 h2 => run_loadN (cs := [(.int .i64 xF_plot_writeSteps_L1.At.X), (.int .i64 xF_plot_writeSteps_L1.At.Y)]) ag_37 sz_37 (h1.ev rfl) (CellsAt.take (rdb h2 (vs := [(.int .i64 xF_plot_writeSteps_L1.Kind), (.string xF_plot_writeSteps_L1.Name), (.int .i64 xF_plot_writeSteps_L1.At.X), (.int .i64 xF_plot_writeSteps_L1.At.Y), (.slice Au195_0 (xF_plot_writeSteps_L1.Points).length cu195_0), (.int .i64 xF_plot_writeSteps_L1.NX), (.int .i64 xF_plot_writeSteps_L1.NY), (.slice Au195_1 (xF_plot_writeSteps_L1.Steps).length cu195_1)]) (k := 11) rfl 2) 2) rfl) ?_
        refine Tr.buildSlice 14 (e := 37) (vs := [(0, (.agg #[(.int .i64 xF_plot_writeSteps_L1.At.X), (.int .i64 xF_plot_writeSteps_L1.At.Y)]))]) (cs := [(.int .i64 xF_plot_writeSteps_L1.At.X), (.int .i64 xF_plot_writeSteps_L1.At.Y)]) (wn rfl) rfl (evs_cons rfl evs_nil) (by kernel_rfl) fun b217 => ?_
        refine Tr.own 14 fl_TPoint [xF_plot_writeSteps_L1.At] (css := [[(.int .i64 xF_plot_writeSteps_L1.At.X), (.int .i64 xF_plot_writeSteps_L1.At.Y)]]) rfl (.cons ⟨(), trivial, rfl⟩ .nil) rfl (by decide) (lit_max rfl) ?_
        obtain ⟨y218, hy218, H⟩ := bnd H
        refine Tr.call0 (r := (.string y218)) (wn rfl) rfl Tryd.call20 (evl_cons rfl evl_nil) (fun W hW => F_plot_points_ok [xF_plot_writeSteps_L1.At] (some ⟨b217, 0, none⟩) 1 (hW.slCall (k := 14) rfl) y218 hy218 (HF.start _)) ?_
        obtain ⟨t219, ht219, H⟩ := bnd H
        refine Tr.va rfl (fun _ _ h1 h2 => run_catS (h1.ev rfl) (h1.ev rfl) ht219) ?_
        obtain ⟨t220, ht220, H⟩ := bnd H
        refine Tr.va rfl (fun _ _ h1 h2 => run_catS (h1.ev rfl) (h1.ev rfl) ht220) ?_
        obtain ⟨y221, hy221, H⟩ := bnd H
        refine Tr.callM [0] [sb 47 5 bp0 Am194 cm194 m194] (U := (Option Addr × Nat)) (fun u => (.tuple #[(.int .i64 ((t220 : ByteArray).size : Int)), .nilIface])) (fun u => True) (fun u => [sb 47 5 bp0 u.1 u.2 y221]) rfl (pk_cons rfl pk_nil) (fun _ => rfl) (wn rfl) rfl Tryd.call18 (evl_cons rfl (evl_cons rfl evl_nil)) (fun W hW hp hE => F_strings_Builder_WriteString_ok m194 Am194 cm194 bp0 t220 y221 hy221 hE) ?_
        intro u hu
        obtain ⟨Ay221_0, cy221_0⟩ := u
        have gy221_0 := hu
        have hgy221_0 : True := gy221_0 --@phi
        show Tr _ _ (uf _ 59 (.tuple #[(.int .i64 ((t220 : ByteArray).size : Int)), .nilIface])) (up _ 0 (sb 47 5 bp0 Ay221_0 cy221_0 y221)) _
        refine Tr.nil (Tr.normBlock (Tr.normBlock (Tr.normThen ?_)))
        refine Tr.region ?_
        refine Tr.va rfl (fun _ _ h1 h2 => run_add (h1.ev rfl) (h1.ev rfl)) ?_
        refine Tr.mv rfl rfl ?_
        refine Tr.nil ?_
        exact Tr.backThen leF_plot_writeSteps_L1 (restF_plot_writeSteps_L1, (iF_plot_writeSteps_L1 + 1), y221, Ay221_0, cy221_0) ⟨rfl, range_tl hdF_plot_writeSteps_L1, range_lt hdF_plot_writeSteps_L1, H⟩ (.cons rfl (.cons rfl (.cons rfl (.cons (congrArg (fun z => some (Value.int .i64 z)) (range_up hdF_plot_writeSteps_L1 hp1_0.form)) .nil)))) (.cons rfl .nil)
       ·refine Tr.sr ?_
        refine Tr.va rfl (fun _ _ h1 h2 => run_eql (h1.ev rfl) (h1.ev rfl)) ?_
        refine Tr.asg rfl rfl ?_
        refine Tr.nil (Tr.normThen ?_)
        refine Tr.cond rfl H (fun H => ?_) (fun H => ?_)
        ·refine Tr.region ?_
         refine Tr.mv rfl rfl ?_
         refine Tr.va rfl (fun _ _ h1 h2 => run_fieldAddr fo_84_3 (h1.ev rfl)) ?_
         refine Tr.va rfl (fun _ _ h1 h2 => run_load1 ag_82 (h1.ev rfl) (rdb h2 (vs := [(.int .i64 xF_plot_writeSteps_L1.Kind), (.string xF_plot_writeSteps_L1.Name), (.int .i64 xF_plot_writeSteps_L1.At.X), (.int .i64 xF_plot_writeSteps_L1.At.Y), (.slice Au195_0 (xF_plot_writeSteps_L1.Points).length cu195_0), (.int .i64 xF_plot_writeSteps_L1.NX), (.int .i64 xF_plot_writeSteps_L1.NY), (.slice Au195_1 (xF_plot_writeSteps_L1.Steps).length cu195_1)]) (k := 11) rfl 4) rfl) ?_
         obtain ⟨y223, hy223, H⟩ := bnd H
         refine Tr.call0 (r := (.string y223)) (wn rfl) rfl Tryd.call20 (evl_cons rfl evl_nil) (fun W hW => F_plot_points_ok xF_plot_writeSteps_L1.Points Au195_0 cu195_0 (hoku195_0.ext hW.extAll) y223 hy223 (HF.start _)) ?_
         obtain ⟨t224, ht224, H⟩ := bnd H
         refine Tr.va rfl (fun _ _ h1 h2 => run_catS (h1.ev rfl) (h1.ev rfl) ht224) ?_
         obtain ⟨t225, ht225, H⟩ := bnd H
         refine Tr.va rfl (fun _ _ h1 h2 => run_catS (h1.ev rfl) (h1.ev rfl) ht225) ?_
         obtain ⟨y226, hy226, H⟩ := bnd H
         refine Tr.callM [0] [sb 47 5 bp0 Am194 cm194 m194] (U := (Option Addr × Nat)) (fun u => (.tuple #[(.int .i64 ((t225 : ByteArray).size : Int)), .nilIface])) (fun u => True) (fun u => [sb 47 5 bp0 u.1 u.2 y226]) rfl (pk_cons rfl pk_nil) (fun _ => rfl) (wn rfl) rfl Tryd.call18 (evl_cons rfl (evl_cons rfl evl_nil)) (fun W hW hp hE => F_strings_Builder_WriteString_ok m194 Am194 cm194 bp0 t225 y226 hy226 hE) ?_
         intro u hu
         obtain ⟨Ay226_0, cy226_0⟩ := u
         have gy226_0 := hu
         have hgy226_0 : True := gy226_0 --@phi
         show Tr _ _ (uf _ 68 (.tuple #[(.int .i64 ((t225 : ByteArray).size : Int)), .nilIface])) (up _ 0 (sb 47 5 bp0 Ay226_0 cy226_0 y226)) _
         refine Tr.nil (Tr.normBlock (Tr.normBlock (Tr.normThen ?_)))
         refine Tr.region ?_
         refine Tr.va rfl (fun _ _ h1 h2 => run_add (h1.ev rfl) (h1.ev rfl)) ?_
         refine Tr.mv rfl rfl ?_
         refine Tr.nil ?_
         exact Tr.backThen leF_plot_writeSteps_L1 (restF_plot_writeSteps_L1, (iF_plot_writeSteps_L1 + 1), y226, Ay226_0, cy226_0) ⟨rfl, range_tl hdF_plot_writeSteps_L1, range_lt hdF_plot_writeSteps_L1, H⟩ (.cons rfl (.cons rfl (.cons rfl (.cons (congrArg (fun z => some (Value.int .i64 z)) (range_up hdF_plot_writeSteps_L1 hp1_0.form)) .nil)))) (.cons rfl .nil)
        ·refine Tr.sr ?_
         refine Tr.va rfl (fun _ _ h1 h2 => run_eql (h1.ev rfl) (h1.ev rfl)) ?_
         refine Tr.asg rfl rfl ?_
         refine Tr.nil (Tr.normThen ?_)
         refine Tr.cond rfl H (fun H => ?_) (fun H => ?_)
         ·refine Tr.sr ?_
          refine Tr.mv rfl rfl ?_
          refine Tr.va rfl (fun _ _ h1 h2 => run_fieldAddr fo_84_4 (h1.ev rfl)) ?_
          refine Tr.va rfl (fun _ _ h1 h2 => run_load1 ag_3 (h1.ev rfl) (rdb h2 (vs := [(.int .i64 xF_plot_writeSteps_L1.Kind), (.string xF_plot_writeSteps_L1.Name), (.int .i64 xF_plot_writeSteps_L1.At.X), (.int .i64 xF_plot_writeSteps_L1.At.Y), (.slice Au195_0 (xF_plot_writeSteps_L1.Points).length cu195_0), (.int .i64 xF_plot_writeSteps_L1.NX), (.int .i64 xF_plot_writeSteps_L1.NY), (.slice Au195_1 (xF_plot_writeSteps_L1.Steps).length cu195_1)]) (k := 11) rfl 5) rfl) ?_
          refine Tr.va rfl (fun _ _ h1 h2 => run_fieldAddr fo_84_5 (h1.ev rfl)) ?_
          refine Tr.va rfl (fun _ _ h1 h2 => run_load1 ag_3 (h1.ev rfl) (rdb h2 (vs := [(.int .i64 xF_plot_writeSteps_L1.Kind), (.string xF_plot_writeSteps_L1.Name), (.int .i64 xF_plot_writeSteps_L1.At.X), (.int .i64 xF_plot_writeSteps_L1.At.Y), (.slice Au195_0 (xF_plot_writeSteps_L1.Points).length cu195_0), (.int .i64 xF_plot_writeSteps_L1.NX), (.int .i64 xF_plot_writeSteps_L1.NY), (.slice Au195_1 (xF_plot_writeSteps_L1.Steps).length cu195_1)]) (k := 11) rfl 6) rfl) ?_
          refine Tr.build (vs := [(0, (.int .i64 xF_plot_writeSteps_L1.NX)), (1, (.int .i64 xF_plot_writeSteps_L1.NY))]) (cs := [(.int .i64 xF_plot_writeSteps_L1.NX), (.int .i64 xF_plot_writeSteps_L1.NY)]) (wn rfl) rfl (evs_cons rfl (evs_cons rfl evs_nil)) (by kernel_rfl) ?_
          refine Tr.va rfl (fun _ _ h1 h2 => run_fieldAddr fo_84_2 (h1.ev rfl)) ?_
          refine Tr.va rfl (fun _ _ h1 h2 => run_loadN (cs := [(.int .i64 xF_plot_writeSteps_L1.At.X), (.int .i64 xF_plot_writeSteps_L1.At.Y)]) ag_37 sz_37 (h1.ev rfl) (CellsAt.take (rdb h2 (vs := [(.int .i64 xF_plot_writeSteps_L1.Kind), (.string xF_plot_writeSteps_L1.Name), (.int .i64 xF_plot_writeSteps_L1.At.X), (.int .i64 xF_plot_writeSteps_L1.At.Y), (.slice Au195_0 (xF_plot_writeSteps_L1.Points).length cu195_0), (.int .i64 xF_plot_writeSteps_L1.NX), (.int .i64 xF_plot_writeSteps_L1.NY), (.slice Au195_1 (xF_plot_writeSteps_L1.Steps).length cu195_1)]) (k := 11) rfl 2) 2) rfl) ?_
          refine Tr.buildSlice 15 (e := 37) (vs := [(0, (.agg #[(.int .i64 xF_plot_writeSteps_L1.NX), (.int .i64 xF_plot_writeSteps_L1.NY)])), (1, (.agg #[(.int .i64 xF_plot_writeSteps_L1.At.X), (.int .i64 xF_plot_writeSteps_L1.At.Y)]))]) (cs := [(.int .i64 xF_plot_writeSteps_L1.NX), (.int .i64 xF_plot_writeSteps_L1.NY), (.int .i64 xF_plot_writeSteps_L1.At.X), (.int .i64 xF_plot_writeSteps_L1.At.Y)]) (wn rfl) rfl (evs_cons rfl (evs_cons rfl evs_nil)) (by kernel_rfl) fun b228 => ?_
          refine Tr.own 15 fl_TPoint [(TPoint.mk xF_plot_writeSteps_L1.NX xF_plot_writeSteps_L1.NY), xF_plot_writeSteps_L1.At] (css := [[(.int .i64 xF_plot_writeSteps_L1.NX), (.int .i64 xF_plot_writeSteps_L1.NY)], [(.int .i64 xF_plot_writeSteps_L1.At.X), (.int .i64 xF_plot_writeSteps_L1.At.Y)]]) rfl (.cons ⟨(), trivial, rfl⟩ (.cons ⟨(), trivial, rfl⟩ .nil)) rfl (by decide) (lit_max rfl) ?_
          obtain ⟨y229, hy229, H⟩ := bnd H
          refine Tr.call0 (r := (.string y229)) (wn rfl) rfl Tryd.call20 (evl_cons rfl evl_nil) (fun W hW => F_plot_points_ok [(TPoint.mk xF_plot_writeSteps_L1.NX xF_plot_writeSteps_L1.NY), xF_plot_writeSteps_L1.At] (some ⟨b228, 0, none⟩) 2 (hW.slCall (k := 15) rfl) y229 hy229 (HF.start _)) ?_
          obtain ⟨t230, ht230, H⟩ := bnd H
          refine Tr.va rfl (fun _ _ h1 h2 => run_catS (h1.ev rfl) (h1.ev rfl) ht230) ?_
          obtain ⟨t231, ht231, H⟩ := bnd H
          refine Tr.va rfl (fun _ _ h1 h2 => run_catS (h1.ev rfl) (h1.ev rfl) ht231) ?_
          obtain ⟨y232, hy232, H⟩ := bnd H
          refine Tr.callM [0] [sb 47 5 bp0 Am194 cm194 m194] (U := (Option Addr × Nat)) (fun u => (.tuple #[(.int .i64 ((t231 : ByteArray).size : Int)), .nilIface])) (fun u => True) (fun u => [sb 47 5 bp0 u.1 u.2 y232]) rfl (pk_cons rfl pk_nil) (fun _ => rfl) (wn rfl) rfl Tryd.call18 (evl_cons rfl (evl_cons rfl evl_nil)) (fun W hW hp hE => F_strings_Builder_WriteString_ok m194 Am194 cm194 bp0 t231 y232 hy232 hE) ?_
          intro u hu
          obtain ⟨Ay232_0, cy232_0⟩ := u
          have gy232_0 := hu
          have hgy232_0 : True := gy232_0 --@phi
          show Tr _ _ (uf _ 83 (.tuple #[(.int .i64 ((t231 : ByteArray).size : Int)), .nilIface])) (up _ 0 (sb 47 5 bp0 Ay232_0 cy232_0 y232)) _
          refine Tr.nil (Tr.normThen ?_)
          refine Tr.sr ?_
          refine Tr.mv rfl rfl ?_
          refine Tr.va rfl (fun _ _ h1 h2 => run_fieldAddr fo_84_6 (h1.ev rfl)) ?_
          refine Tr.va rfl (fun _ _ h1 h2 => run_load1 ag_23 (h1.ev rfl) (rdb h2 (vs := [(.int .i64 xF_plot_writeSteps_L1.Kind), (.string xF_plot_writeSteps_L1.Name), (.int .i64 xF_plot_writeSteps_L1.At.X), (.int .i64 xF_plot_writeSteps_L1.At.Y), (.slice Au195_0 (xF_plot_writeSteps_L1.Points).length cu195_0), (.int .i64 xF_plot_writeSteps_L1.NX), (.int .i64 xF_plot_writeSteps_L1.NY), (.slice Au195_1 (xF_plot_writeSteps_L1.Steps).length cu195_1)]) (k := 11) rfl 7) rfl) ?_
          obtain ⟨y234, hy234, H⟩ := bnd H
          refine Tr.callM [0] [sb 47 5 bp0 Ay232_0 cy232_0 y232] (U := (Option Addr × Nat)) (fun u => (.tuple #[])) (fun u => True) (fun u => [sb 47 5 bp0 u.1 u.2 y234]) rfl (pk_cons rfl pk_nil) (fun _ => rfl) (wn rfl) rfl Tryd.call21 (evl_cons rfl (evl_cons rfl evl_nil)) (fun W hW hp hE => hrec y232 Ay232_0 cy232_0 bp0 xF_plot_writeSteps_L1.Steps Au195_1 cu195_1 (hoku195_1.ext (hW.extS hp)) y234 hy234 hE) ?_
          intro u hu
          obtain ⟨Ay234_0, cy234_0⟩ := u
          have gy234_0 := hu
          have hgy234_0 : True := gy234_0 --@phi
          show Tr _ _ (uf _ 87 (.tuple #[])) (up _ 0 (sb 47 5 bp0 Ay234_0 cy234_0 y234)) _
          refine Tr.nil (Tr.normThen ?_)
          refine Tr.region ?_
          refine Tr.mv rfl rfl ?_
          obtain ⟨y236, hy236, H⟩ := bnd H
          refine Tr.callM [0] [sb 47 5 bp0 Ay234_0 cy234_0 y234] (U := (Option Addr × Nat)) (fun u => (.tuple #[(.int .i64 (((⟨#[100, 111, 110, 101, 10]⟩) : ByteArray).size : Int)), .nilIface])) (fun u => True) (fun u => [sb 47 5 bp0 u.1 u.2 y236]) rfl (pk_cons rfl pk_nil) (fun _ => rfl) (wn rfl) rfl Tryd.call18 (evl_cons rfl (evl_cons rfl evl_nil)) (fun W hW hp hE => F_strings_Builder_WriteString_ok y234 Ay234_0 cy234_0 bp0 (⟨#[100, 111, 110, 101, 10]⟩) y236 hy236 hE) ?_
          intro u hu
          obtain ⟨Ay236_0, cy236_0⟩ := u
          have gy236_0 := hu
          have hgy236_0 : True := gy236_0 --@phi
          show Tr _ _ (uf _ 89 (.tuple #[(.int .i64 (((⟨#[100, 111, 110, 101, 10]⟩) : ByteArray).size : Int)), .nilIface])) (up _ 0 (sb 47 5 bp0 Ay236_0 cy236_0 y236)) _
          refine Tr.nil (Tr.normBlock (Tr.normBlock (Tr.normThen ?_)))
          refine Tr.region ?_
          refine Tr.va rfl (fun _ _ h1 h2 => run_add (h1.ev rfl) (h1.ev rfl)) ?_
          refine Tr.mv rfl rfl ?_
          refine Tr.nil ?_
          exact Tr.backThen leF_plot_writeSteps_L1 (restF_plot_writeSteps_L1, (iF_plot_writeSteps_L1 + 1), y236, Ay236_0, cy236_0) ⟨rfl, range_tl hdF_plot_writeSteps_L1, range_lt hdF_plot_writeSteps_L1, H⟩ (.cons rfl (.cons rfl (.cons rfl (.cons (congrArg (fun z => some (Value.int .i64 z)) (range_up hdF_plot_writeSteps_L1 hp1_0.form)) .nil)))) (.cons rfl .nil)
         ·refine Tr.skip (Tr.normBlock (Tr.normBlock (Tr.normThen ?_)))
          refine Tr.region ?_
          refine Tr.va rfl (fun _ _ h1 h2 => run_add (h1.ev rfl) (h1.ev rfl)) ?_
          refine Tr.mv rfl rfl ?_
          refine Tr.nil ?_
          exact Tr.backThen leF_plot_writeSteps_L1 (restF_plot_writeSteps_L1, (iF_plot_writeSteps_L1 + 1), m194, Am194, cm194) ⟨rfl, range_tl hdF_plot_writeSteps_L1, range_lt hdF_plot_writeSteps_L1, H⟩ (.cons rfl (.cons rfl (.cons rfl (.cons (congrArg (fun z => some (Value.int .i64 z)) (range_up hdF_plot_writeSteps_L1 hp1_0.form)) .nil)))) (.cons rfl .nil)
theorem F_plot_writeSteps_ok : ∀ (N : Nat) {w : Bs} (p0 : ByteArray) (Ap0_0 : Option Addr) (cp0_0 : Nat) (bp0 : Nat) (p1 : (List TPlotStep)) (Ap1_0 : Option Addr) (cp1_0 : Nat) (hp1_0 : Sl w.R w.W fl_TPlotStep Ap1_0 cp1_0 p1) (r : ByteArray) (H : F_plot_writeSteps N p0 p1 = some r) (hE : HF w w.W (LEn [sb 47 5 bp0 Ap0_0 cp0_0 p0])), Calls Tryd.prog 21 [(.pointer (some ⟨bp0, 0, none⟩)), (.slice Ap1_0 (p1).length cp1_0)].toArray w.W fun e W' => ∃ u : (Option Addr × Nat), e = .returned (.tuple #[]) ∧ (True) ∧ HF w W' (LEn [sb 47 5 bp0 u.1 u.2 r])
 | 0 => by intros; rename_i H _; cases H
 | N + 1 => F_plot_writeSteps_b_ok N (F_plot_writeSteps N) (F_plot_writeSteps_ok N)

theorem F_strings_Builder_Len_ok {w : Bs} (p0 : ByteArray) (Ap0_0 : Option Addr) (cp0_0 : Nat) (bp0 : Nat) (r : (Int × ByteArray)) (H : sbL p0 = some r) (hE : HF w w.W (LEn [sb 47 5 bp0 Ap0_0 cp0_0 p0])) : Calls Tryd.prog 22 [(.pointer (some ⟨bp0, 0, none⟩))].toArray w.W fun e W' => ∃ u : (Option Addr × Nat), e = .returned (.int .i64 r.1) ∧ (True) ∧ HF w W' (LEn [sb 47 5 bp0 u.1 u.2 r.2]) :=
 sb_len (ρ := Tryd.bld22_ren) Tryd.bld22 H hE

end Go.Proofs.YtocjndhpgjccoaaDoor
namespace Go.Proofs
open Go.Shelf
def Tryd.bld23_ren : Go.Shelf.Ren := ⟨fun | 169 => 23 | n => n, fun | 5 => 5 | 37 => 45 | 70 => 44 | 72 => 47 | 127 => 96 | n => n, fun n => n⟩
theorem Tryd.bld23 : Go.Proofs.Lays.n169 Tryd.prog Tryd.bld23_ren := {
 mixed := by kernel_rfl
 f169 := Tryd.func23.trans (congrArg some (by kernel_rfl))
 t0 := Tryd.underlying0
 a0 := Tryd.isAgg0
 z0 := Tryd.sizeOf0
 v0 := Tryd.zeroValue0
 t3 := Tryd.underlying3
 a3 := Tryd.isAgg3
 z3 := Tryd.sizeOf3
 v3 := Tryd.zeroValue3
 t9 := Tryd.underlying9
 a9 := Tryd.isAgg9
 z9 := Tryd.sizeOf9
 v9 := Tryd.zeroValue9
 t37 := Tryd.underlying45
 a37 := Tryd.isAgg45
 z37 := Tryd.sizeOf45
 v37 := Tryd.zeroValue45
 t70 := Tryd.underlying44
 a70 := Tryd.isAgg44
 z70 := Tryd.sizeOf44
 v70 := Tryd.zeroValue44
 t72 := Tryd.underlying47
 a72 := Tryd.isAgg47
 z72 := Tryd.sizeOf47
 v72 := Tryd.zeroValue47
 t127 := Tryd.underlying96
 a127 := Tryd.isAgg96
 z127 := Tryd.sizeOf96
 v127 := Tryd.zeroValue96
}
end Go.Proofs
namespace Go.Proofs.YtocjndhpgjccoaaDoor
open Go.RowKit
theorem bX23 : Builder.Extra Tryd.prog Tryd.bld23_ren where
 sizeBuilder := by kernel_rfl
 liesBuilder := by kernel_rfl
 t5 := Tryd.underlying5
 a5 := Tryd.isAgg5
 z5 := Tryd.sizeOf5
 v5 := Tryd.zeroValue5
 infoByte := by kernel_rfl
 cellsByte := by kernel_rfl
 sizeByte := by kernel_rfl
 neB5 := by decide
theorem F_strings_Builder_String_ok {w : Bs} (p0 : ByteArray) (Ap0_0 : Option Addr) (cp0_0 : Nat) (bp0 : Nat) (r : (ByteArray × ByteArray)) (H : sbS p0 = some r) (hE : HF w w.W (LEn [sb 47 5 bp0 Ap0_0 cp0_0 p0])) : Calls Tryd.prog 23 [(.pointer (some ⟨bp0, 0, none⟩))].toArray w.W fun e W' => ∃ u : (Option Addr × Nat), e = .returned (.string r.1) ∧ (True) ∧ HF w W' (LEn [sb 47 5 bp0 u.1 u.2 r.2]) :=
 sb_string (ρ := Tryd.bld23_ren) Tryd.bld23 bX23 H hE

theorem F_plot_Text_ok (N : Nat) {w : Bs} (p0 : TPlot) (Ap0_0 : Option Addr) (cp0_0 : Nat) (hp0_0 : Sl w.R w.W fl_TPlotTool Ap0_0 cp0_0 p0.Tools) (Ap0_1 : Option Addr) (cp0_1 : Nat) (hp0_1 : Sl w.R w.W fl_TPlotStep Ap0_1 cp0_1 p0.Steps) (r : (ByteArray × Int)) (H : F_plot_Text N p0 = some r) (hE : HF w w.W E0) : Calls Tryd.prog 6 [(.agg #[(.int .i64 p0.Unit), (.slice Ap0_0 (p0.Tools).length cp0_0), (.slice Ap0_1 (p0.Steps).length cp0_1)])].toArray w.W fun e W' => e = .returned (.tuple #[(.string r.1), (.int .i64 r.2)]) ∧ HF w W' E0 := by
 unfold F_plot_Text at H
 have leB := Bs.Le.refl w
 refine Tr.enter (n := 61) Tryd.func6 rfl rfl rfl hE ?_
 refine Tr.sr ?_
 refine Tr.box 1 (cs := [(.int .i64 p0.Unit), (.slice Ap0_0 (p0.Tools).length cp0_0), (.slice Ap0_1 (p0.Steps).length cp0_1)]) (wn rfl) rfl rfl rfl fun b100 => ?_
 refine Tr.asg rfl rfl ?_
 refine Tr.asg rfl rfl ?_
 refine Tr.nil (Tr.normThen ?_)
 refine Tr.seq ?_
 refine Tr.sr ?_
 refine Tr.va rfl (fun _ _ h1 h2 => run_loadN (cs := [(.int .i64 p0.Unit), (.slice Ap0_0 (p0.Tools).length cp0_0), (.slice Ap0_1 (p0.Steps).length cp0_1)]) ag_25 sz_25 (h1.ev rfl) (CellsAt.take (rdb h2 (vs := [(.int .i64 p0.Unit), (.slice Ap0_0 (p0.Tools).length cp0_0), (.slice Ap0_1 (p0.Steps).length cp0_1)]) (k := 1) rfl 0) 3) rfl) ?_
 obtain ⟨y101, hy101, H⟩ := bnd H
 refine Tr.call0 (r := (.int .i64 y101)) (wn rfl) rfl Tryd.call8 (evl_cons rfl evl_nil) (fun W hW => F_plot_CheckPlot_ok N p0 Ap0_0 cp0_0 (hp0_0.ext hW.extAll) Ap0_1 cp0_1 (hp0_1.ext hW.extAll) y101 hy101 (HF.start _)) ?_
 refine Tr.asg rfl rfl ?_
 refine Tr.nil (Tr.normThen ?_)
 refine Tr.sr ?_
 refine Tr.mv rfl rfl ?_
 refine Tr.va rfl (fun _ _ h1 h2 => run_neq (h1.ev rfl) (h1.ev rfl)) ?_
 refine Tr.nil (Tr.normThen ?_)
 refine Tr.cond rfl H (fun H => ?_) (fun H => ?_)
 ·refine Tr.sr ?_
  refine Tr.mv rfl rfl ?_
  refine Tr.asg rfl rfl ?_
  refine Tr.asg rfl rfl ?_
  refine Tr.nil (Tr.normThen ?_)
  refine Tr.ret (Tr.retThen ?_)
  obtain rfl := Option.some.inj H
  exact Tr.out (m := [(.string ByteArray.empty), (.int .i64 y101)]) [] (res_tmp rfl (res_tmp rfl res_nil)) (fun W hW => ⟨rfl, hW.low leB⟩)
 ·refine Tr.skip (Tr.normThen ?_)
  refine Tr.sr ?_
  refine Tr.sbNew (e := 5) 2 (wn rfl) rfl zb_47 fun b102 => ?_
  refine Tr.nil (Tr.normThen ?_)
  refine Tr.sr ?_
  refine Tr.va rfl (fun _ _ h1 h2 => run_fieldAddr fo_25_0 (h1.ev rfl)) ?_
  refine Tr.va rfl (fun _ _ h1 h2 => run_load1 ag_3 (h1.ev rfl) (rdb h2 (vs := [(.int .i64 p0.Unit), (.slice Ap0_0 (p0.Tools).length cp0_0), (.slice Ap0_1 (p0.Steps).length cp0_1)]) (k := 1) rfl 0) rfl) ?_
  obtain ⟨y103, hy103, H⟩ := bnd H
  refine Tr.call0 (r := (.string y103)) (wn rfl) rfl Tryd.call19 (evl_cons rfl evl_nil) (fun W hW => F_strconv_Itoa_ok p0.Unit y103 hy103 (HF.start _)) ?_
  obtain ⟨t104, ht104, H⟩ := bnd H
  refine Tr.va rfl (fun _ _ h1 h2 => run_catS (h1.ev rfl) (h1.ev rfl) ht104) ?_
  obtain ⟨t105, ht105, H⟩ := bnd H
  refine Tr.va rfl (fun _ _ h1 h2 => run_catS (h1.ev rfl) (h1.ev rfl) ht105) ?_
  obtain ⟨y106, hy106, H⟩ := bnd H
  refine Tr.callM [2] [sb 47 5 b102 none 0 ByteArray.empty] (U := (Option Addr × Nat)) (fun u => (.tuple #[(.int .i64 ((t105 : ByteArray).size : Int)), .nilIface])) (fun u => True) (fun u => [sb 47 5 b102 u.1 u.2 y106]) rfl (pk_cons rfl pk_nil) (fun _ => rfl) (wn rfl) rfl Tryd.call18 (evl_cons rfl (evl_cons rfl evl_nil)) (fun W hW hp hE => F_strings_Builder_WriteString_ok ByteArray.empty none 0 b102 t105 y106 hy106 hE) ?_
  intro u hu
  obtain ⟨Ay106_0, cy106_0⟩ := u
  have gy106_0 := hu
  have hgy106_0 : True := gy106_0 --@phi
  show Tr _ _ (uf _ 20 (.tuple #[(.int .i64 ((t105 : ByteArray).size : Int)), .nilIface])) (up _ 2 (sb 47 5 b102 Ay106_0 cy106_0 y106)) _
  refine Tr.nil (Tr.normThen ?_)
  refine Tr.seq ?_
  refine Tr.sr ?_
  refine Tr.va rfl (fun _ _ h1 h2 => run_fieldAddr fo_25_1 (h1.ev rfl)) ?_
  refine Tr.va rfl (fun _ _ h1 h2 => run_load1 ag_22 (h1.ev rfl) (rdb h2 (vs := [(.int .i64 p0.Unit), (.slice Ap0_0 (p0.Tools).length cp0_0), (.slice Ap0_1 (p0.Steps).length cp0_1)]) (k := 1) rfl 1) rfl) ?_
  refine Tr.va rfl (fun _ _ h1 h2 => run_len un_22 (h1.ev rfl)) ?_
  refine Tr.mv rfl rfl ?_
  refine Tr.nil (Tr.normThen ?_)
  refine Tr.block ?_
  refine Tr.loop (σ := (List TPlotTool) × Nat × ByteArray × (Option Addr) × Nat) (fun m w s => m = s.1.length + 1 ∧ s.1 = List.drop s.2.1 p0.Tools ∧ s.2.1 ≤ p0.Tools.length ∧ F_plot_Text_L3 N p0 s.1 s.2.1 s.2.2.1 = some r) (fun s => [(1, (.pointer (some ⟨b100, 0, none⟩))), (5, (.pointer (some ⟨b102, 0, none⟩))), (22, (.slice Ap0_0 (p0.Tools).length cp0_0)), (23, (.int .i64 (p0.Tools.length : Int))), (24, (.int .i64 (s.2.1 : Int)))]) (fun s => [(1, bx b100 #[(.int .i64 p0.Unit), (.slice Ap0_0 (p0.Tools).length cp0_0), (.slice Ap0_1 (p0.Steps).length cp0_1)] 25), (2, sb 47 5 b102 s.2.2.2.1 s.2.2.2.2 s.2.2.1)]) (p0.Tools.length + 1) (p0.Tools, 0, y106, Ay106_0, cy106_0) ⟨rfl, rfl, Nat.zero_le _, H⟩ (.cons rfl (.cons rfl (.cons rfl (.cons rfl (.cons rfl .nil))))) (.cons rfl (.cons rfl .nil)) (fun _ _ h => absurd h.1 (by simp)) ?_
  intro w leF_plot_Text_L3 m s hs
  obtain ⟨restF_plot_Text_L3, iF_plot_Text_L3, m178, Am178, cm178⟩ := s
  obtain ⟨hmF_plot_Text_L3, hdF_plot_Text_L3, hiF_plot_Text_L3, H⟩ := hs
  replace hdF_plot_Text_L3 : restF_plot_Text_L3 = List.drop iF_plot_Text_L3 p0.Tools := hdF_plot_Text_L3
  replace H : F_plot_Text_L3 N p0 restF_plot_Text_L3 iF_plot_Text_L3 m178 = some r := H
  replace hmF_plot_Text_L3 : m + 1 = restF_plot_Text_L3.length + 1 := hmF_plot_Text_L3
  replace hp0_0 := hp0_0.leR leF_plot_Text_L3
  replace hp0_1 := hp0_1.leR leF_plot_Text_L3
  replace leB := leB.trans leF_plot_Text_L3
  obtain rfl : m = restF_plot_Text_L3.length := by omega
  clear hmF_plot_Text_L3
  show Tr _ _ (LF [(1, (.pointer (some ⟨b100, 0, none⟩))), (5, (.pointer (some ⟨b102, 0, none⟩))), (22, (.slice Ap0_0 (p0.Tools).length cp0_0)), (23, (.int .i64 (p0.Tools.length : Int))), (24, (.int .i64 (iF_plot_Text_L3 : Int)))]) (LE [(1, bx b100 #[(.int .i64 p0.Unit), (.slice Ap0_0 (p0.Tools).length cp0_0), (.slice Ap0_1 (p0.Steps).length cp0_1)] 25), (2, sb 47 5 b102 Am178 cm178 m178)]) _
  cases restF_plot_Text_L3 with
  | nil =>
   rw [F_plot_Text_L3.eq_1] at H
   refine Tr.sr ?_
   refine Tr.va rfl (fun _ _ h1 h2 => run_lss (h1.ev rfl) (h1.ev rfl)) ?_
   refine Tr.nil (Tr.normThen ?_)
   refine Tr.seq ?_
   refine Tr.condF rfl (range_nil hdF_plot_Text_L3) ?_
   refine Tr.exit (Tr.exitThen (Tr.exitThen (Tr.exitBlock (Tr.normThen ?_))))
   refine Tr.sr ?_
   refine Tr.va rfl (fun _ _ h1 h2 => run_fieldAddr fo_25_2 (h1.ev rfl)) ?_
   refine Tr.va rfl (fun _ _ h1 h2 => run_load1 ag_23 (h1.ev rfl) (rdb h2 (vs := [(.int .i64 p0.Unit), (.slice Ap0_0 (p0.Tools).length cp0_0), (.slice Ap0_1 (p0.Steps).length cp0_1)]) (k := 1) rfl 2) rfl) ?_
   obtain ⟨y179, hy179, H⟩ := bnd H
   refine Tr.callM [2] [sb 47 5 b102 Am178 cm178 m178] (U := (Option Addr × Nat)) (fun u => (.tuple #[])) (fun u => True) (fun u => [sb 47 5 b102 u.1 u.2 y179]) rfl (pk_cons rfl pk_nil) (fun _ => rfl) (wn rfl) rfl Tryd.call21 (evl_cons rfl (evl_cons rfl evl_nil)) (fun W hW hp hE => F_plot_writeSteps_ok N m178 Am178 cm178 b102 p0.Steps Ap0_1 cp0_1 (hp0_1.ext (hW.extS hp)) y179 hy179 hE) ?_
   intro u hu
   obtain ⟨Ay179_0, cy179_0⟩ := u
   have gy179_0 := hu
   have hgy179_0 : True := gy179_0 --@phi
   show Tr _ _ (uf _ 57 (.tuple #[])) (up _ 2 (sb 47 5 b102 Ay179_0 cy179_0 y179)) _
   refine Tr.nil (Tr.normThen ?_)
   refine Tr.seq ?_
   refine Tr.sr ?_
   obtain ⟨y181, hy181, H⟩ := bnd H
   refine Tr.callM [2] [sb 47 5 b102 Ay179_0 cy179_0 y179] (U := (Option Addr × Nat)) (fun u => (.int .i64 y181.1)) (fun u => True) (fun u => [sb 47 5 b102 u.1 u.2 y181.2]) rfl (pk_cons rfl pk_nil) (fun _ => rfl) (wn rfl) rfl Tryd.call22 (evl_cons rfl evl_nil) (fun W hW hp hE => F_strings_Builder_Len_ok y179 Ay179_0 cy179_0 b102 y181 hy181 hE) ?_
   intro u hu
   obtain ⟨Ay181_0, cy181_0⟩ := u
   have gy181_0 := hu
   have hgy181_0 : True := gy181_0 --@phi
   show Tr _ _ (uf _ 58 (.int .i64 y181.1)) (up _ 2 (sb 47 5 b102 Ay181_0 cy181_0 y181.2)) _
   refine Tr.va rfl (fun _ _ h1 h2 => run_gtr (h1.ev rfl) (h1.ev rfl)) ?_
   refine Tr.nil (Tr.normThen ?_)
   refine Tr.cond rfl H (fun H => ?_) (fun H => ?_)
   ·refine Tr.sr ?_
    refine Tr.asg rfl rfl ?_
    refine Tr.asg rfl rfl ?_
    refine Tr.nil (Tr.normThen ?_)
    refine Tr.ret (Tr.retThen ?_)
    obtain rfl := Option.some.inj H
    exact Tr.out (m := [(.string ByteArray.empty), (.int .i64 2)]) [] (res_tmp rfl (res_tmp rfl res_nil)) (fun W hW => ⟨rfl, hW.low leB⟩)
   ·refine Tr.skip (Tr.normThen ?_)
    refine Tr.sr ?_
    obtain ⟨y183, hy183, H⟩ := bnd H
    refine Tr.callM [2] [sb 47 5 b102 Ay181_0 cy181_0 y181.2] (U := (Option Addr × Nat)) (fun u => (.string y183.1)) (fun u => True) (fun u => [sb 47 5 b102 u.1 u.2 y183.2]) rfl (pk_cons rfl pk_nil) (fun _ => rfl) (wn rfl) rfl Tryd.call23 (evl_cons rfl evl_nil) (fun W hW hp hE => F_strings_Builder_String_ok y181.2 Ay181_0 cy181_0 b102 y183 hy183 hE) ?_
    intro u hu
    obtain ⟨Ay183_0, cy183_0⟩ := u
    have gy183_0 := hu
    have hgy183_0 : True := gy183_0 --@phi
    show Tr _ _ (uf _ 60 (.string y183.1)) (up _ 2 (sb 47 5 b102 Ay183_0 cy183_0 y183.2)) _
    refine Tr.asg rfl rfl ?_
    refine Tr.asg rfl rfl ?_
    refine Tr.nil (Tr.normThen ?_)
    refine Tr.ret ?_
    obtain rfl := Option.some.inj H
    exact Tr.out (m := [(.string y183.1), (.int .i64 0)]) [] (res_tmp rfl (res_tmp rfl res_nil)) (fun W hW => ⟨rfl, hW.low leB⟩)
  | cons xF_plot_Text_L3 restF_plot_Text_L3 =>
   rw [F_plot_Text_L3.eq_2] at H
   refine Tr.sr ?_
   refine Tr.va rfl (fun _ _ h1 h2 => run_lss (h1.ev rfl) (h1.ev rfl)) ?_
   refine Tr.nil (Tr.normThen ?_)
   refine Tr.seq ?_
   refine Tr.condT rfl (range_on hdF_plot_Text_L3) ?_
   refine Tr.skip (Tr.normThen ?_)
   refine Tr.seq ?_
   refine Tr.block ?_
   refine Tr.sr ?_
   obtain ⟨u185, hRu185, hoku185, hcu185⟩ := (hp0_0).el (range_at hdF_plot_Text_L3)
   obtain ⟨Au185_0, cu185_0⟩ := u185
   have hoku185_0 := hoku185
   replace hoku185_0 : Sl w.R w.W fl_TRect Au185_0 cu185_0 xF_plot_Text_L3.Rects := hoku185_0
   refine Tr.va rfl (fun _ _ h1 h2 => run_indexAddr el_22 (h1.ev rfl) hp0_0.form (h1.ev rfl) (Int.natCast_nonneg _) (range_lt hdF_plot_Text_L3)) ?_
   refine Tr.va rfl (fun _ _ h1 h2 => run_loadN (cs := [(.string xF_plot_Text_L3.Name), (.slice Au185_0 (xF_plot_Text_L3.Rects).length cu185_0)]) ag_55 sz_55 (h1.ev rfl) (CellsAt.take (rdR hRu185 hcu185 h2) 2) rfl) ?_
   refine Tr.alloc 17 (wn rfl) rfl ze_55 fun b186 => ?_
   refine Tr.store 17 (cs := [(.string xF_plot_Text_L3.Name), (.slice Au185_0 (xF_plot_Text_L3.Rects).length cu185_0)]) [(.string xF_plot_Text_L3.Name), (.slice Au185_0 (xF_plot_Text_L3.Rects).length cu185_0)] (wn rfl) rfl rfl rfl rfl sz_55 rfl rfl rfl ?_
   refine Tr.nil (Tr.normThen ?_)
   refine Tr.sr ?_
   refine Tr.va rfl (fun _ _ h1 h2 => run_fieldAddr fo_55_0 (h1.ev rfl)) ?_
   refine Tr.va rfl (fun _ _ h1 h2 => run_load1 ag_9 (h1.ev rfl) (rdb h2 (vs := [(.string xF_plot_Text_L3.Name), (.slice Au185_0 (xF_plot_Text_L3.Rects).length cu185_0)]) (k := 17) rfl 0) rfl) ?_
   obtain ⟨t187, ht187, H⟩ := bnd H
   refine Tr.va rfl (fun _ _ h1 h2 => run_catS (h1.ev rfl) (h1.ev rfl) ht187) ?_
   obtain ⟨y188, hy188, H⟩ := bnd H
   refine Tr.callM [2] [sb 47 5 b102 Am178 cm178 m178] (U := (Option Addr × Nat)) (fun u => (.tuple #[(.int .i64 ((t187 : ByteArray).size : Int)), .nilIface])) (fun u => True) (fun u => [sb 47 5 b102 u.1 u.2 y188]) rfl (pk_cons rfl pk_nil) (fun _ => rfl) (wn rfl) rfl Tryd.call18 (evl_cons rfl (evl_cons rfl evl_nil)) (fun W hW hp hE => F_strings_Builder_WriteString_ok m178 Am178 cm178 b102 t187 y188 hy188 hE) ?_
   intro u hu
   obtain ⟨Ay188_0, cy188_0⟩ := u
   have gy188_0 := hu
   have hgy188_0 : True := gy188_0 --@phi
   show Tr _ _ (uf _ 31 (.tuple #[(.int .i64 ((t187 : ByteArray).size : Int)), .nilIface])) (up _ 2 (sb 47 5 b102 Ay188_0 cy188_0 y188)) _
   refine Tr.nil (Tr.normThen ?_)
   refine Tr.seq ?_
   refine Tr.sr ?_
   refine Tr.va rfl (fun _ _ h1 h2 => run_fieldAddr fo_55_1 (h1.ev rfl)) ?_
   refine Tr.va rfl (fun _ _ h1 h2 => run_load1 ag_53 (h1.ev rfl) (rdb h2 (vs := [(.string xF_plot_Text_L3.Name), (.slice Au185_0 (xF_plot_Text_L3.Rects).length cu185_0)]) (k := 17) rfl 1) rfl) ?_
   refine Tr.va rfl (fun _ _ h1 h2 => run_len un_53 (h1.ev rfl)) ?_
   refine Tr.mv rfl rfl ?_
   refine Tr.nil (Tr.normThen ?_)
   refine Tr.block ?_
   refine Tr.loop (σ := (List TRect) × Nat × ByteArray × (Option Addr) × Nat) (fun m w s => m = s.1.length + 1 ∧ s.1 = List.drop s.2.1 xF_plot_Text_L3.Rects ∧ s.2.1 ≤ xF_plot_Text_L3.Rects.length ∧ F_plot_Text_L4 (F_plot_Text_L3 N p0 restF_plot_Text_L3 (iF_plot_Text_L3 + 1)) s.1 s.2.1 s.2.2.1 = some r) (fun s => [(1, (.pointer (some ⟨b100, 0, none⟩))), (5, (.pointer (some ⟨b102, 0, none⟩))), (22, (.slice Ap0_0 (p0.Tools).length cp0_0)), (23, (.int .i64 (p0.Tools.length : Int))), (24, (.int .i64 (iF_plot_Text_L3 : Int))), (33, (.slice Au185_0 (xF_plot_Text_L3.Rects).length cu185_0)), (34, (.int .i64 (xF_plot_Text_L3.Rects.length : Int))), (35, (.int .i64 (s.2.1 : Int)))]) (fun s => [(1, bx b100 #[(.int .i64 p0.Unit), (.slice Ap0_0 (p0.Tools).length cp0_0), (.slice Ap0_1 (p0.Steps).length cp0_1)] 25), (2, sb 47 5 b102 s.2.2.2.1 s.2.2.2.2 s.2.2.1)]) (xF_plot_Text_L3.Rects.length + 1) (xF_plot_Text_L3.Rects, 0, y188, Ay188_0, cy188_0) ⟨rfl, rfl, Nat.zero_le _, H⟩ (.cons rfl (.cons rfl (.cons rfl (.cons rfl (.cons rfl (.cons rfl (.cons rfl (.cons rfl .nil)))))))) (.cons rfl (.cons rfl .nil)) (fun _ _ h => absurd h.1 (by simp)) ?_
   intro w leF_plot_Text_L4 m s hs
   obtain ⟨restF_plot_Text_L4, iF_plot_Text_L4, m208, Am208, cm208⟩ := s
   obtain ⟨hmF_plot_Text_L4, hdF_plot_Text_L4, hiF_plot_Text_L4, H⟩ := hs
   replace hdF_plot_Text_L4 : restF_plot_Text_L4 = List.drop iF_plot_Text_L4 xF_plot_Text_L3.Rects := hdF_plot_Text_L4
   replace H : F_plot_Text_L4 (F_plot_Text_L3 N p0 restF_plot_Text_L3 (iF_plot_Text_L3 + 1)) restF_plot_Text_L4 iF_plot_Text_L4 m208 = some r := H
   replace hmF_plot_Text_L4 : m + 1 = restF_plot_Text_L4.length + 1 := hmF_plot_Text_L4
   replace hp0_0 := hp0_0.leR leF_plot_Text_L4
   replace hp0_1 := hp0_1.leR leF_plot_Text_L4
   replace hoku185_0 := hoku185_0.leR leF_plot_Text_L4
   replace leB := leB.trans leF_plot_Text_L4
   replace leF_plot_Text_L3 := leF_plot_Text_L3.trans leF_plot_Text_L4
   obtain rfl : m = restF_plot_Text_L4.length := by omega
   clear hmF_plot_Text_L4
   show Tr _ _ (LF [(1, (.pointer (some ⟨b100, 0, none⟩))), (5, (.pointer (some ⟨b102, 0, none⟩))), (22, (.slice Ap0_0 (p0.Tools).length cp0_0)), (23, (.int .i64 (p0.Tools.length : Int))), (24, (.int .i64 (iF_plot_Text_L3 : Int))), (33, (.slice Au185_0 (xF_plot_Text_L3.Rects).length cu185_0)), (34, (.int .i64 (xF_plot_Text_L3.Rects.length : Int))), (35, (.int .i64 (iF_plot_Text_L4 : Int)))]) (LE [(1, bx b100 #[(.int .i64 p0.Unit), (.slice Ap0_0 (p0.Tools).length cp0_0), (.slice Ap0_1 (p0.Steps).length cp0_1)] 25), (2, sb 47 5 b102 Am208 cm208 m208)]) _
   cases restF_plot_Text_L4 with
   | nil =>
    rw [F_plot_Text_L4.eq_1] at H
    refine Tr.sr ?_
    refine Tr.va rfl (fun _ _ h1 h2 => run_lss (h1.ev rfl) (h1.ev rfl)) ?_
    refine Tr.nil (Tr.normThen ?_)
    refine Tr.seq ?_
    refine Tr.condF rfl (range_nil hdF_plot_Text_L4) ?_
    refine Tr.exit (Tr.exitThen (Tr.exitThen (Tr.exitBlock (Tr.normThen ?_))))
    refine Tr.region ?_
    obtain ⟨y209, hy209, H⟩ := bnd H
    refine Tr.callM [2] [sb 47 5 b102 Am208 cm208 m208] (U := (Option Addr × Nat)) (fun u => (.tuple #[(.int .i64 (((⟨#[10]⟩) : ByteArray).size : Int)), .nilIface])) (fun u => True) (fun u => [sb 47 5 b102 u.1 u.2 y209]) rfl (pk_cons rfl pk_nil) (fun _ => rfl) (wn rfl) rfl Tryd.call18 (evl_cons rfl (evl_cons rfl evl_nil)) (fun W hW hp hE => F_strings_Builder_WriteString_ok m208 Am208 cm208 b102 (⟨#[10]⟩) y209 hy209 hE) ?_
    intro u hu
    obtain ⟨Ay209_0, cy209_0⟩ := u
    have gy209_0 := hu
    have hgy209_0 : True := gy209_0 --@phi
    show Tr _ _ (uf _ 53 (.tuple #[(.int .i64 (((⟨#[10]⟩) : ByteArray).size : Int)), .nilIface])) (up _ 2 (sb 47 5 b102 Ay209_0 cy209_0 y209)) _
    refine Tr.nil (Tr.normBlock (Tr.normThen ?_))
    refine Tr.region ?_
    refine Tr.va rfl (fun _ _ h1 h2 => run_add (h1.ev rfl) (h1.ev rfl)) ?_
    refine Tr.mv rfl rfl ?_
    refine Tr.nil ?_
    exact Tr.backThen leF_plot_Text_L3 (restF_plot_Text_L3, (iF_plot_Text_L3 + 1), y209, Ay209_0, cy209_0) ⟨rfl, range_tl hdF_plot_Text_L3, range_lt hdF_plot_Text_L3, H⟩ (.cons rfl (.cons rfl (.cons rfl (.cons rfl (.cons (congrArg (fun z => some (Value.int .i64 z)) (range_up hdF_plot_Text_L3 hp0_0.form)) .nil))))) (.cons rfl (.cons rfl .nil))
   | cons xF_plot_Text_L4 restF_plot_Text_L4 =>
    rw [F_plot_Text_L4.eq_2] at H
    refine Tr.sr ?_
    refine Tr.va rfl (fun _ _ h1 h2 => run_lss (h1.ev rfl) (h1.ev rfl)) ?_
    refine Tr.nil (Tr.normThen ?_)
    refine Tr.seq ?_
    refine Tr.condT rfl (range_on hdF_plot_Text_L4) ?_
    refine Tr.skip (Tr.normThen ?_)
    refine Tr.seq ?_
    refine Tr.block ?_
    refine Tr.sr ?_
    refine Tr.va rfl (fun _ _ h1 h2 => run_indexAddr el_53 (h1.ev rfl) hoku185_0.form (h1.ev rfl) (Int.natCast_nonneg _) (range_lt hdF_plot_Text_L4)) ?_
    refine Tr.va rfl (fun _ _ h1 h2 => run_loadN (cs := [(.int .i64 xF_plot_Text_L4.X0), (.int .i64 xF_plot_Text_L4.Y0), (.int .i64 xF_plot_Text_L4.X1), (.int .i64 xF_plot_Text_L4.Y1)]) ag_57 sz_57 (h1.ev rfl) (CellsAt.take (rdF ef_TRect hoku185_0 (range_at hdF_plot_Text_L4) h2) 4) rfl) ?_
    refine Tr.alloc 22 (wn rfl) rfl ze_57 fun b211 => ?_
    refine Tr.store 22 (cs := [(.int .i64 xF_plot_Text_L4.X0), (.int .i64 xF_plot_Text_L4.Y0), (.int .i64 xF_plot_Text_L4.X1), (.int .i64 xF_plot_Text_L4.Y1)]) [(.int .i64 xF_plot_Text_L4.X0), (.int .i64 xF_plot_Text_L4.Y0), (.int .i64 xF_plot_Text_L4.X1), (.int .i64 xF_plot_Text_L4.Y1)] (wn rfl) rfl rfl rfl rfl sz_57 rfl rfl rfl ?_
    refine Tr.nil (Tr.normThen ?_)
    refine Tr.region ?_
    refine Tr.va rfl (fun _ _ h1 h2 => run_fieldAddr fo_57_0 (h1.ev rfl)) ?_
    refine Tr.va rfl (fun _ _ h1 h2 => run_load1 ag_3 (h1.ev rfl) (rdb h2 (vs := [(.int .i64 xF_plot_Text_L4.X0), (.int .i64 xF_plot_Text_L4.Y0), (.int .i64 xF_plot_Text_L4.X1), (.int .i64 xF_plot_Text_L4.Y1)]) (k := 22) rfl 0) rfl) ?_
    refine Tr.va rfl (fun _ _ h1 h2 => run_fieldAddr fo_57_1 (h1.ev rfl)) ?_
    refine Tr.va rfl (fun _ _ h1 h2 => run_load1 ag_3 (h1.ev rfl) (rdb h2 (vs := [(.int .i64 xF_plot_Text_L4.X0), (.int .i64 xF_plot_Text_L4.Y0), (.int .i64 xF_plot_Text_L4.X1), (.int .i64 xF_plot_Text_L4.Y1)]) (k := 22) rfl 1) rfl) ?_
    refine Tr.build (vs := [(0, (.int .i64 xF_plot_Text_L4.X0)), (1, (.int .i64 xF_plot_Text_L4.Y0))]) (cs := [(.int .i64 xF_plot_Text_L4.X0), (.int .i64 xF_plot_Text_L4.Y0)]) (wn rfl) rfl (evs_cons rfl (evs_cons rfl evs_nil)) (by kernel_rfl) ?_
    refine Tr.va rfl (fun _ _ h1 h2 => run_fieldAddr fo_57_2 (h1.ev rfl)) ?_
    refine Tr.va rfl (fun _ _ h1 h2 => run_load1 ag_3 (h1.ev rfl) (rdb h2 (vs := [(.int .i64 xF_plot_Text_L4.X0), (.int .i64 xF_plot_Text_L4.Y0), (.int .i64 xF_plot_Text_L4.X1), (.int .i64 xF_plot_Text_L4.Y1)]) (k := 22) rfl 2) rfl) ?_
    refine Tr.va rfl (fun _ _ h1 h2 => run_fieldAddr fo_57_3 (h1.ev rfl)) ?_
    refine Tr.va rfl (fun _ _ h1 h2 => run_load1 ag_3 (h1.ev rfl) (rdb h2 (vs := [(.int .i64 xF_plot_Text_L4.X0), (.int .i64 xF_plot_Text_L4.Y0), (.int .i64 xF_plot_Text_L4.X1), (.int .i64 xF_plot_Text_L4.Y1)]) (k := 22) rfl 3) rfl) ?_
    refine Tr.build (vs := [(0, (.int .i64 xF_plot_Text_L4.X1)), (1, (.int .i64 xF_plot_Text_L4.Y1))]) (cs := [(.int .i64 xF_plot_Text_L4.X1), (.int .i64 xF_plot_Text_L4.Y1)]) (wn rfl) rfl (evs_cons rfl (evs_cons rfl evs_nil)) (by kernel_rfl) ?_
    refine Tr.buildSlice 23 (e := 37) (vs := [(0, (.agg #[(.int .i64 xF_plot_Text_L4.X0), (.int .i64 xF_plot_Text_L4.Y0)])), (1, (.agg #[(.int .i64 xF_plot_Text_L4.X1), (.int .i64 xF_plot_Text_L4.Y1)]))]) (cs := [(.int .i64 xF_plot_Text_L4.X0), (.int .i64 xF_plot_Text_L4.Y0), (.int .i64 xF_plot_Text_L4.X1), (.int .i64 xF_plot_Text_L4.Y1)]) (wn rfl) rfl (evs_cons rfl (evs_cons rfl evs_nil)) (by kernel_rfl) fun b212 => ?_
    refine Tr.own 23 fl_TPoint [(TPoint.mk xF_plot_Text_L4.X0 xF_plot_Text_L4.Y0), (TPoint.mk xF_plot_Text_L4.X1 xF_plot_Text_L4.Y1)] (css := [[(.int .i64 xF_plot_Text_L4.X0), (.int .i64 xF_plot_Text_L4.Y0)], [(.int .i64 xF_plot_Text_L4.X1), (.int .i64 xF_plot_Text_L4.Y1)]]) rfl (.cons ⟨(), trivial, rfl⟩ (.cons ⟨(), trivial, rfl⟩ .nil)) rfl (by decide) (lit_max rfl) ?_
    obtain ⟨y213, hy213, H⟩ := bnd H
    refine Tr.call0 (r := (.string y213)) (wn rfl) rfl Tryd.call20 (evl_cons rfl evl_nil) (fun W hW => F_plot_points_ok [(TPoint.mk xF_plot_Text_L4.X0 xF_plot_Text_L4.Y0), (TPoint.mk xF_plot_Text_L4.X1 xF_plot_Text_L4.Y1)] (some ⟨b212, 0, none⟩) 2 (hW.slCall (k := 23) rfl) y213 hy213 (HF.start _)) ?_
    obtain ⟨y214, hy214, H⟩ := bnd H
    refine Tr.callM [2] [sb 47 5 b102 Am208 cm208 m208] (U := (Option Addr × Nat)) (fun u => (.tuple #[(.int .i64 ((y213 : ByteArray).size : Int)), .nilIface])) (fun u => True) (fun u => [sb 47 5 b102 u.1 u.2 y214]) rfl (pk_cons rfl pk_nil) (fun _ => rfl) (wn rfl) rfl Tryd.call18 (evl_cons rfl (evl_cons rfl evl_nil)) (fun W hW hp hE => F_strings_Builder_WriteString_ok m208 Am208 cm208 b102 y213 y214 hy214 hE) ?_
    intro u hu
    obtain ⟨Ay214_0, cy214_0⟩ := u
    have gy214_0 := hu
    have hgy214_0 : True := gy214_0 --@phi
    show Tr _ _ (uf _ 51 (.tuple #[(.int .i64 ((y213 : ByteArray).size : Int)), .nilIface])) (up _ 2 (sb 47 5 b102 Ay214_0 cy214_0 y214)) _
    refine Tr.nil (Tr.normBlock (Tr.normThen ?_))
    refine Tr.region ?_
    refine Tr.va rfl (fun _ _ h1 h2 => run_add (h1.ev rfl) (h1.ev rfl)) ?_
    refine Tr.mv rfl rfl ?_
    refine Tr.nil ?_
    exact Tr.backThen leF_plot_Text_L4 (restF_plot_Text_L4, (iF_plot_Text_L4 + 1), y214, Ay214_0, cy214_0) ⟨rfl, range_tl hdF_plot_Text_L4, range_lt hdF_plot_Text_L4, H⟩ (.cons rfl (.cons rfl (.cons rfl (.cons rfl (.cons rfl (.cons rfl (.cons rfl (.cons (congrArg (fun z => some (Value.int .i64 z)) (range_up hdF_plot_Text_L4 hoku185_0.form)) .nil)))))))) (.cons rfl (.cons rfl .nil))

theorem F_etchhouselaw3_awake_ok (N : Nat) {w : Bs}  (r : Bool) (H : F_etchhouselaw3_awake N = some r) (hE : HF w w.W E0) : Calls Tryd.prog 10 [].toArray w.W fun e W' => e = .returned (.bool r) ∧ HF w W' E0 := by
 unfold F_etchhouselaw3_awake at H
 have leB := Bs.Le.refl w
 refine Tr.enter (n := 14) Tryd.func10 rfl rfl rfl hE ?_
 refine Tr.sr ?_
 refine Tr.asg rfl rfl ?_
 refine Tr.nil (Tr.normThen ?_)
 refine Tr.sr ?_
 refine Tr.build (vs := [(0, (.int .i64 7))]) (cs := [(.int .i64 7), (.slice none 0 0), (.slice none 0 0)]) (wn rfl) rfl (evs_cons rfl evs_nil) (by kernel_rfl) ?_
 obtain ⟨y100, hy100, H⟩ := bnd H
 refine Tr.call0 (r := (.tuple #[(.string y100.1), (.int .i64 y100.2)])) (wn rfl) rfl Tryd.call6 (evl_cons rfl evl_nil) (fun W hW => F_plot_Text_ok N (TPlot.mk 7 [] []) none 0 (Sl.nil _ _ _) none 0 (Sl.nil _ _ _) y100 hy100 (HF.start _)) ?_
 refine Tr.mv rfl rfl ?_
 refine Tr.va rfl (fun _ _ h1 h2 => run_extract (h1.ev rfl) rfl) ?_
 refine Tr.va rfl (fun _ _ h1 h2 => run_extract (h1.ev rfl) rfl) ?_
 refine Tr.asg rfl rfl ?_
 refine Tr.asg rfl rfl ?_
 refine Tr.nil (Tr.normThen ?_)
 refine Tr.sr ?_
 refine Tr.mv rfl rfl ?_
 refine Tr.va rfl (fun _ _ h1 h2 => run_eql (h1.ev rfl) (h1.ev rfl)) ?_
 refine Tr.mv rfl rfl ?_
 refine Tr.mid0 3 [(13, (.bool ((y100.2 == 0) && (sEq y100.1 (⟨#[117, 110, 105, 116, 32, 55, 10]⟩)))))] [] ?_ ?_
 ·cases hg100 : (y100.2 == 0)
  ·refine Tr.pass rfl rfl rfl rfl rfl (by decide) ?_
   refine Tr.pass rfl rfl rfl rfl rfl (by decide) ?_
   refine Tr.va rfl (fun _ _ h1 h2 => run_pickF (h1.ev rfl) (h1.ev rfl)) ?_
   exact Tr.nil (Tr.fin0 (.cons rfl .nil) .nil)
  ·refine Tr.val (wg rfl rfl rfl) rfl (fun _ _ h1 h2 => run_move (h1.ev rfl)) ?_
   refine Tr.val (wg rfl rfl rfl) rfl (fun _ _ h1 h2 => run_eqlS (h1.ev rfl) (h1.ev rfl)) ?_
   refine Tr.va rfl (fun _ _ h1 h2 => run_pickT (h1.ev rfl) (h1.ev rfl)) ?_
   exact Tr.nil (Tr.fin0 (.cons rfl .nil) .nil)
 ·show Tr _ _ (LF [(13, (.bool ((y100.2 == 0) && (sEq y100.1 (⟨#[117, 110, 105, 116, 32, 55, 10]⟩)))))]) (LE []) _
  refine Tr.asg rfl rfl ?_
  refine Tr.nil (Tr.normThen ?_)
  refine Tr.ret ?_
  obtain rfl := Option.some.inj H
  exact Tr.out (m := [(.bool ((y100.2 == 0) && (sEq y100.1 (⟨#[117, 110, 105, 116, 32, 55, 10]⟩))))]) [] (res_tmp rfl res_nil) (fun W hW => ⟨rfl, hW.low leB⟩)

theorem F_etchhouselaw3_PlotsScaledMatchSpec_ok (N : Nat) {w : Bs} (p0 : TPlot) (Ap0_0 : Option Addr) (cp0_0 : Nat) (hp0_0 : Sl w.O w.W fl_TPlotTool Ap0_0 cp0_0 p0.Tools) (Ap0_1 : Option Addr) (cp0_1 : Nat) (hp0_1 : Sl w.O w.W fl_TPlotStep Ap0_1 cp0_1 p0.Steps) (p1 : Int) (r : Bool) (H : F_etchhouselaw3_PlotsScaledMatchSpec N p0 p1 = some r) (hE : HF w w.W E0) : Calls Tryd.prog 4 [(.agg #[(.int .i64 p0.Unit), (.slice Ap0_0 (p0.Tools).length cp0_0), (.slice Ap0_1 (p0.Steps).length cp0_1)]), (.int .i64 p1)].toArray w.W fun e W' => e = .returned (.bool r) ∧ HF w W' E0 := by
 unfold F_etchhouselaw3_PlotsScaledMatchSpec at H
 have leB := Bs.Le.refl w
 refine Tr.enter (n := 41) Tryd.func4 rfl rfl rfl hE ?_
 refine Tr.sr ?_
 refine Tr.box 1 (cs := [(.int .i64 p0.Unit), (.slice Ap0_0 (p0.Tools).length cp0_0), (.slice Ap0_1 (p0.Steps).length cp0_1)]) (wn rfl) rfl rfl rfl fun b100 => ?_
 refine Tr.asg rfl rfl ?_
 refine Tr.nil (Tr.normThen ?_)
 refine Tr.sr ?_
 refine Tr.va rfl (fun _ _ h1 h2 => run_loadN (cs := [(.int .i64 p0.Unit), (.slice Ap0_0 (p0.Tools).length cp0_0), (.slice Ap0_1 (p0.Steps).length cp0_1)]) ag_25 sz_25 (h1.ev rfl) (CellsAt.take (rdb h2 (vs := [(.int .i64 p0.Unit), (.slice Ap0_0 (p0.Tools).length cp0_0), (.slice Ap0_1 (p0.Steps).length cp0_1)]) (k := 1) rfl 0) 3) rfl) ?_
 refine Tr.mv rfl rfl ?_
 obtain ⟨y101, hy101, H⟩ := bnd H
 refine Tr.callG [] [] (U := (Option Addr × Nat) × (Option Addr × Nat)) (fun u => (.tuple #[(.agg #[(.int .i64 y101.1.Unit), (.slice u.1.1 (y101.1.Tools).length u.1.2), (.slice u.2.1 (y101.1.Steps).length u.2.2)]), (.bool y101.2.1), (.int .i64 y101.2.2)])) (fun O W u => Sl O W fl_TPlotTool u.1.1 u.1.2 y101.1.Tools ∧ Sl O W fl_TPlotStep u.2.1 u.2.2 y101.1.Steps) (fun u => []) rfl pk_nil (fun _ => rfl) (wn rfl) rfl Tryd.call11 (evl_cons rfl (evl_cons rfl evl_nil)) (fun W hW hp hE => F_plot_Scaled_ok N p0 Ap0_0 cp0_0 (hp0_0.extO (hW.extS hp)) Ap0_1 cp0_1 (hp0_1.extO (hW.extS hp)) p1 y101 hy101 hE) ?_
 intro w u le102 hu
 obtain ⟨⟨Ay101_0, cy101_0⟩, ⟨Ay101_1, cy101_1⟩⟩ := u
 obtain ⟨gy101_0, gy101_1⟩ := hu
 replace hp0_0 := hp0_0.le le102
 replace hp0_1 := hp0_1.le le102
 replace leB := leB.trans le102
 have hgy101_0 : Sl w.O w.W fl_TPlotTool Ay101_0 cy101_0 y101.1.Tools := gy101_0 --@phi
 have hgy101_1 : Sl w.O w.W fl_TPlotStep Ay101_1 cy101_1 y101.1.Steps := gy101_1 --@phi
 show Tr _ _ (uf _ 14 (.tuple #[(.agg #[(.int .i64 y101.1.Unit), (.slice Ay101_0 (y101.1.Tools).length cy101_0), (.slice Ay101_1 (y101.1.Steps).length cy101_1)]), (.bool y101.2.1), (.int .i64 y101.2.2)])) (_) _
 refine Tr.mv rfl rfl ?_
 refine Tr.va rfl (fun _ _ h1 h2 => run_extract (h1.ev rfl) rfl) ?_
 refine Tr.va rfl (fun _ _ h1 h2 => run_extract (h1.ev rfl) rfl) ?_
 refine Tr.va rfl (fun _ _ h1 h2 => run_extract (h1.ev rfl) rfl) ?_
 refine Tr.alloc 2 (wn rfl) rfl ze_25 fun b103 => ?_
 refine Tr.store 2 (cs := [(.int .i64 y101.1.Unit), (.slice Ay101_0 (y101.1.Tools).length cy101_0), (.slice Ay101_1 (y101.1.Steps).length cy101_1)]) [(.int .i64 y101.1.Unit), (.slice Ay101_0 (y101.1.Tools).length cy101_0), (.slice Ay101_1 (y101.1.Steps).length cy101_1)] (wn rfl) rfl rfl rfl rfl sz_25 rfl rfl rfl ?_
 refine Tr.asg rfl rfl ?_
 refine Tr.asg rfl rfl ?_
 refine Tr.nil (Tr.normThen ?_)
 refine Tr.sr ?_
 refine Tr.va rfl (fun _ _ h1 h2 => run_loadN (cs := [(.int .i64 p0.Unit), (.slice Ap0_0 (p0.Tools).length cp0_0), (.slice Ap0_1 (p0.Steps).length cp0_1)]) ag_25 sz_25 (h1.ev rfl) (CellsAt.take (rdb h2 (vs := [(.int .i64 p0.Unit), (.slice Ap0_0 (p0.Tools).length cp0_0), (.slice Ap0_1 (p0.Steps).length cp0_1)]) (k := 1) rfl 0) 3) rfl) ?_
 refine Tr.mv rfl rfl ?_
 obtain ⟨y104, hy104, H⟩ := bnd H
 refine Tr.callG [3, 4] [emp, emp] (U := (Option Addr × Nat) × (Option Addr × Nat)) (fun u => (.tuple #[(.agg #[(.int .i64 y104.1.Unit), (.slice u.1.1 (y104.1.Tools).length u.1.2), (.slice u.2.1 (y104.1.Steps).length u.2.2)]), (.bool y104.2.1), (.int .i64 y104.2.2)])) (fun O W u => SlF u.1.1 (y104.1.Tools).length u.1.2 ∧ SlF u.2.1 (y104.1.Steps).length u.2.2) (fun u => [ow u.1.1 u.1.2 55 fl_TPlotTool y104.1.Tools, ow u.2.1 u.2.2 84 fl_TPlotStep y104.1.Steps]) rfl (pk_cons rfl (pk_cons rfl pk_nil)) (fun _ => rfl) (wn rfl) rfl Tryd.call12 (evl_cons rfl (evl_cons rfl evl_nil)) (fun W hW hp hE => F_etchhouseref3_Scaled_ok N p0 Ap0_0 cp0_0 (hp0_0.rl.ext (hW.extS hp)) Ap0_1 cp0_1 (hp0_1.rl.ext (hW.extS hp)) p1 y104 hy104 hE) ?_
 intro w u le105 hu
 obtain ⟨⟨Ay104_0, cy104_0⟩, ⟨Ay104_1, cy104_1⟩⟩ := u
 obtain ⟨gy104_0, gy104_1⟩ := hu
 replace hp0_0 := hp0_0.le le105
 replace hp0_1 := hp0_1.le le105
 replace hgy101_0 := hgy101_0.le le105
 replace hgy101_1 := hgy101_1.le le105
 replace leB := leB.trans le105
 have hgy104_0 : SlF Ay104_0 (y104.1.Tools).length cy104_0 := gy104_0 --@phi
 have hgy104_1 : SlF Ay104_1 (y104.1.Steps).length cy104_1 := gy104_1 --@phi
 show Tr _ _ (uf _ 21 (.tuple #[(.agg #[(.int .i64 y104.1.Unit), (.slice Ay104_0 (y104.1.Tools).length cy104_0), (.slice Ay104_1 (y104.1.Steps).length cy104_1)]), (.bool y104.2.1), (.int .i64 y104.2.2)])) (up (up _ 4 (ow Ay104_1 cy104_1 84 fl_TPlotStep y104.1.Steps)) 3 (ow Ay104_0 cy104_0 55 fl_TPlotTool y104.1.Tools)) _
 refine Tr.mv rfl rfl ?_
 refine Tr.va rfl (fun _ _ h1 h2 => run_extract (h1.ev rfl) rfl) ?_
 refine Tr.va rfl (fun _ _ h1 h2 => run_extract (h1.ev rfl) rfl) ?_
 refine Tr.va rfl (fun _ _ h1 h2 => run_extract (h1.ev rfl) rfl) ?_
 refine Tr.alloc 5 (wn rfl) rfl ze_25 fun b106 => ?_
 refine Tr.store 5 (cs := [(.int .i64 y104.1.Unit), (.slice Ay104_0 (y104.1.Tools).length cy104_0), (.slice Ay104_1 (y104.1.Steps).length cy104_1)]) [(.int .i64 y104.1.Unit), (.slice Ay104_0 (y104.1.Tools).length cy104_0), (.slice Ay104_1 (y104.1.Steps).length cy104_1)] (wn rfl) rfl rfl rfl rfl sz_25 rfl rfl rfl ?_
 refine Tr.asg rfl rfl ?_
 refine Tr.asg rfl rfl ?_
 refine Tr.nil (Tr.normThen ?_)
 refine Tr.sr ?_
 refine Tr.va rfl (fun _ _ h1 h2 => run_loadN (cs := [(.int .i64 y101.1.Unit), (.slice Ay101_0 (y101.1.Tools).length cy101_0), (.slice Ay101_1 (y101.1.Steps).length cy101_1)]) ag_25 sz_25 (h1.ev rfl) (CellsAt.take (rdb h2 (vs := [(.int .i64 y101.1.Unit), (.slice Ay101_0 (y101.1.Tools).length cy101_0), (.slice Ay101_1 (y101.1.Steps).length cy101_1)]) (k := 2) rfl 0) 3) rfl) ?_
 refine Tr.va rfl (fun _ _ h1 h2 => run_loadN (cs := [(.int .i64 y104.1.Unit), (.slice Ay104_0 (y104.1.Tools).length cy104_0), (.slice Ay104_1 (y104.1.Steps).length cy104_1)]) ag_25 sz_25 (h1.ev rfl) (CellsAt.take (rdb h2 (vs := [(.int .i64 y104.1.Unit), (.slice Ay104_0 (y104.1.Tools).length cy104_0), (.slice Ay104_1 (y104.1.Steps).length cy104_1)]) (k := 5) rfl 0) 3) rfl) ?_
 obtain ⟨y107, hy107, H⟩ := bnd H
 refine Tr.call0 (r := (.bool y107)) (wn rfl) rfl Tryd.call13 (evl_cons rfl (evl_cons rfl evl_nil)) (fun W hW => F_etchhouseref3_SamePlot_ok N y101.1 Ay101_0 cy101_0 (hgy101_0.rl.ext hW.extAll) Ay101_1 cy101_1 (hgy101_1.rl.ext hW.extAll) y104.1 Ay104_0 cy104_0 (hW.slCall (k := 3) rfl) Ay104_1 cy104_1 (hW.slCall (k := 4) rfl) y107 hy107 (HF.start _)) ?_
 refine Tr.mv rfl rfl ?_
 refine Tr.mid0 4 [(7, (.int .i64 y101.2.2)), (10, (.int .i64 y104.2.2)), (32, (.bool (y107 && (y101.2.1 == y104.2.1))))] [(1, bx b100 #[(.int .i64 p0.Unit), (.slice Ap0_0 (p0.Tools).length cp0_0), (.slice Ap0_1 (p0.Steps).length cp0_1)] 25), (2, bx b103 #[(.int .i64 y101.1.Unit), (.slice Ay101_0 (y101.1.Tools).length cy101_0), (.slice Ay101_1 (y101.1.Steps).length cy101_1)] 25), (3, ow Ay104_0 cy104_0 55 fl_TPlotTool y104.1.Tools), (4, ow Ay104_1 cy104_1 84 fl_TPlotStep y104.1.Steps), (5, bx b106 #[(.int .i64 y104.1.Unit), (.slice Ay104_0 (y104.1.Tools).length cy104_0), (.slice Ay104_1 (y104.1.Steps).length cy104_1)] 25)] ?_ ?_
 ·cases hg110 : y107
  ·refine Tr.pass rfl rfl rfl rfl rfl (by decide) ?_
   refine Tr.pass rfl rfl rfl rfl rfl (by decide) ?_
   refine Tr.pass rfl rfl rfl rfl rfl (by decide) ?_
   refine Tr.va rfl (fun _ _ h1 h2 => run_pickF (h1.ev rfl) (h1.ev rfl)) ?_
   exact Tr.nil (Tr.fin0 (.cons rfl (.cons rfl (.cons rfl .nil))) (.cons rfl (.cons rfl (.cons rfl (.cons rfl (.cons rfl .nil))))))
  ·refine Tr.val (wg rfl rfl rfl) rfl (fun _ _ h1 h2 => run_move (h1.ev rfl)) ?_
   refine Tr.val (wg rfl rfl rfl) rfl (fun _ _ h1 h2 => run_move (h1.ev rfl)) ?_
   refine Tr.val (wg rfl rfl rfl) rfl (fun _ _ h1 h2 => run_eqlB un_4 (h1.ev rfl) (h1.ev rfl)) ?_
   refine Tr.va rfl (fun _ _ h1 h2 => run_pickT (h1.ev rfl) (h1.ev rfl)) ?_
   exact Tr.nil (Tr.fin0 (.cons rfl (.cons rfl (.cons rfl .nil))) (.cons rfl (.cons rfl (.cons rfl (.cons rfl (.cons rfl .nil))))))
 ·show Tr _ _ (LF [(7, (.int .i64 y101.2.2)), (10, (.int .i64 y104.2.2)), (32, (.bool (y107 && (y101.2.1 == y104.2.1))))]) (LE [(1, bx b100 #[(.int .i64 p0.Unit), (.slice Ap0_0 (p0.Tools).length cp0_0), (.slice Ap0_1 (p0.Steps).length cp0_1)] 25), (2, bx b103 #[(.int .i64 y101.1.Unit), (.slice Ay101_0 (y101.1.Tools).length cy101_0), (.slice Ay101_1 (y101.1.Steps).length cy101_1)] 25), (3, ow Ay104_0 cy104_0 55 fl_TPlotTool y104.1.Tools), (4, ow Ay104_1 cy104_1 84 fl_TPlotStep y104.1.Steps), (5, bx b106 #[(.int .i64 y104.1.Unit), (.slice Ay104_0 (y104.1.Tools).length cy104_0), (.slice Ay104_1 (y104.1.Steps).length cy104_1)] 25)]) _
  refine Tr.mv rfl rfl ?_
  refine Tr.mid0 4 [(37, (.bool ((y107 && (y101.2.1 == y104.2.1)) && (y101.2.2 == y104.2.2))))] [(1, bx b100 #[(.int .i64 p0.Unit), (.slice Ap0_0 (p0.Tools).length cp0_0), (.slice Ap0_1 (p0.Steps).length cp0_1)] 25), (2, bx b103 #[(.int .i64 y101.1.Unit), (.slice Ay101_0 (y101.1.Tools).length cy101_0), (.slice Ay101_1 (y101.1.Steps).length cy101_1)] 25), (3, ow Ay104_0 cy104_0 55 fl_TPlotTool y104.1.Tools), (4, ow Ay104_1 cy104_1 84 fl_TPlotStep y104.1.Steps), (5, bx b106 #[(.int .i64 y104.1.Unit), (.slice Ay104_0 (y104.1.Tools).length cy104_0), (.slice Ay104_1 (y104.1.Steps).length cy104_1)] 25)] ?_ ?_
  ·cases hg110 : (y107 && (y101.2.1 == y104.2.1))
   ·refine Tr.pass rfl rfl rfl rfl rfl (by decide) ?_
    refine Tr.pass rfl rfl rfl rfl rfl (by decide) ?_
    refine Tr.pass rfl rfl rfl rfl rfl (by decide) ?_
    refine Tr.va rfl (fun _ _ h1 h2 => run_pickF (h1.ev rfl) (h1.ev rfl)) ?_
    exact Tr.nil (Tr.fin0 (.cons rfl .nil) (.cons rfl (.cons rfl (.cons rfl (.cons rfl (.cons rfl .nil))))))
   ·refine Tr.val (wg rfl rfl rfl) rfl (fun _ _ h1 h2 => run_move (h1.ev rfl)) ?_
    refine Tr.val (wg rfl rfl rfl) rfl (fun _ _ h1 h2 => run_move (h1.ev rfl)) ?_
    refine Tr.val (wg rfl rfl rfl) rfl (fun _ _ h1 h2 => run_eql (h1.ev rfl) (h1.ev rfl)) ?_
    refine Tr.va rfl (fun _ _ h1 h2 => run_pickT (h1.ev rfl) (h1.ev rfl)) ?_
    exact Tr.nil (Tr.fin0 (.cons rfl .nil) (.cons rfl (.cons rfl (.cons rfl (.cons rfl (.cons rfl .nil))))))
  ·show Tr _ _ (LF [(37, (.bool ((y107 && (y101.2.1 == y104.2.1)) && (y101.2.2 == y104.2.2))))]) (LE [(1, bx b100 #[(.int .i64 p0.Unit), (.slice Ap0_0 (p0.Tools).length cp0_0), (.slice Ap0_1 (p0.Steps).length cp0_1)] 25), (2, bx b103 #[(.int .i64 y101.1.Unit), (.slice Ay101_0 (y101.1.Tools).length cy101_0), (.slice Ay101_1 (y101.1.Steps).length cy101_1)] 25), (3, ow Ay104_0 cy104_0 55 fl_TPlotTool y104.1.Tools), (4, ow Ay104_1 cy104_1 84 fl_TPlotStep y104.1.Steps), (5, bx b106 #[(.int .i64 y104.1.Unit), (.slice Ay104_0 (y104.1.Tools).length cy104_0), (.slice Ay104_1 (y104.1.Steps).length cy104_1)] 25)]) _
   refine Tr.mv rfl rfl ?_
   obtain ⟨g109, hg109, H⟩ := bnd H
   refine Tr.mid0 2 [(40, (.bool g109))] [(1, bx b100 #[(.int .i64 p0.Unit), (.slice Ap0_0 (p0.Tools).length cp0_0), (.slice Ap0_1 (p0.Steps).length cp0_1)] 25), (2, bx b103 #[(.int .i64 y101.1.Unit), (.slice Ay101_0 (y101.1.Tools).length cy101_0), (.slice Ay101_1 (y101.1.Steps).length cy101_1)] 25), (3, ow Ay104_0 cy104_0 55 fl_TPlotTool y104.1.Tools), (4, ow Ay104_1 cy104_1 84 fl_TPlotStep y104.1.Steps), (5, bx b106 #[(.int .i64 y104.1.Unit), (.slice Ay104_0 (y104.1.Tools).length cy104_0), (.slice Ay104_1 (y104.1.Steps).length cy104_1)] 25)] ?_ ?_
   ·cases hg110 : ((y107 && (y101.2.1 == y104.2.1)) && (y101.2.2 == y104.2.2))
    ·rw [hg110] at hg109
     rw [if_neg (by decide)] at hg109
     have H := hg109
     obtain rfl := Option.some.inj H
     refine Tr.pass rfl rfl rfl rfl rfl (by decide) ?_
     refine Tr.va rfl (fun _ _ h1 h2 => run_pickF (h1.ev rfl) (h1.ev rfl)) ?_
     exact Tr.nil (Tr.fin0 (.cons rfl .nil) (.cons rfl (.cons rfl (.cons rfl (.cons rfl (.cons rfl .nil))))))
    ·rw [hg110] at hg109
     rw [if_pos rfl] at hg109
     have H := hg109
     obtain ⟨y110, hy110, H⟩ := bnd H
     refine Tr.call0 (r := (.bool y110)) (wg rfl rfl rfl) rfl Tryd.call10 evl_nil (fun W hW => F_etchhouselaw3_awake_ok N y110 hy110 (HF.start _)) ?_
     refine Tr.va rfl (fun _ _ h1 h2 => run_pickT (h1.ev rfl) (h1.ev rfl)) ?_
     obtain rfl := Option.some.inj H
     exact Tr.nil (Tr.fin0 (.cons rfl .nil) (.cons rfl (.cons rfl (.cons rfl (.cons rfl (.cons rfl .nil))))))
   ·show Tr _ _ (LF [(40, (.bool g109))]) (LE [(1, bx b100 #[(.int .i64 p0.Unit), (.slice Ap0_0 (p0.Tools).length cp0_0), (.slice Ap0_1 (p0.Steps).length cp0_1)] 25), (2, bx b103 #[(.int .i64 y101.1.Unit), (.slice Ay101_0 (y101.1.Tools).length cy101_0), (.slice Ay101_1 (y101.1.Steps).length cy101_1)] 25), (3, ow Ay104_0 cy104_0 55 fl_TPlotTool y104.1.Tools), (4, ow Ay104_1 cy104_1 84 fl_TPlotStep y104.1.Steps), (5, bx b106 #[(.int .i64 y104.1.Unit), (.slice Ay104_0 (y104.1.Tools).length cy104_0), (.slice Ay104_1 (y104.1.Steps).length cy104_1)] 25)]) _
    refine Tr.asg rfl rfl ?_
    refine Tr.nil (Tr.normThen ?_)
    refine Tr.ret ?_
    obtain rfl := Option.some.inj H
    exact Tr.out (m := [(.bool g109)]) [] (res_tmp rfl res_nil) (fun W hW => ⟨rfl, hW.low leB⟩)

end Go.Proofs.YtocjndhpgjccoaaDoor
