/- The walks: each function computes its plain function. -/
import Derived.Test.YtoageaoknnnfbaaGreatDoorXWc
namespace Go.Proofs.YtoageaoknnnfbaaGreatDoor
open Go.RowKit
set_option maxRecDepth 100000
set_option maxHeartbeats 1000000
theorem F_slices_Equal_Rect_ok {w : Bs} (p0 : (List zR)) (Ap0_0 : Option Addr) (cp0_0 : Nat) (hp0_0 : Sl w.R w.W zM Ap0_0 cp0_0 p0) (p1 : (List zR)) (Ap1_0 : Option Addr) (cp1_0 : Nat) (hp1_0 : Sl w.R w.W zM Ap1_0 cp1_0 p1) (r : Bool) (H : F_slices_Equal_Rect p0 p1 = some r) (hE : HF w w.W E0) : Calls Tryz.prog 11 [(.slice Ap0_0 (p0).length cp0_0), (.slice Ap1_0 (p1).length cp1_0)].toArray w.W fun e W' => e = .returned (.bool r) ∧ HF w W' E0 := by
 unfold F_slices_Equal_Rect at H
 have leB := Bs.Le.refl w
 refine Tr.enter (n := 26) Tryz.func11 rfl rfl rfl hE ?_
 refine Tr.sr ?_
 refine Tr.asg rfl rfl ?_
 refine Tr.nil (Tr.zA ?_)
 refine Tr.seq ?_
 refine Tr.sr ?_
 refine Tr.mv rfl rfl ?_
 refine Tr.va rfl (fun _ _ h1 h2 => zl un_31 (h1.ev rfl)) ?_
 refine Tr.mv rfl rfl ?_
 refine Tr.va rfl (fun _ _ h1 h2 => zl un_31 (h1.ev rfl)) ?_
 refine Tr.va rfl (fun _ _ h1 h2 => run_neq (h1.ev rfl) (h1.ev rfl)) ?_
 refine Tr.nil (Tr.zA ?_)
 refine Tr.cond rfl H (fun H => ?_) (fun H => ?_)
 ·refine Tr.sr ?_
  refine Tr.asg rfl rfl ?_
  refine Tr.nil (Tr.zA ?_)
  refine Tr.ret (Tr.zU ?_)
  obtain rfl := Option.some.inj H
  exact Tr.out (m := [(.bool false)]) [] (zL rfl zP) (fun W hW => ⟨rfl, hW.low leB⟩)
 ·refine Tr.skip (Tr.zA ?_)
  refine Tr.seq ?_
  refine Tr.sr ?_
  refine Tr.mv rfl rfl ?_
  refine Tr.va rfl (fun _ _ h1 h2 => zl un_31 (h1.ev rfl)) ?_
  refine Tr.mv rfl rfl ?_
  refine Tr.nil (Tr.zA ?_)
  refine Tr.block ?_
  refine Tr.loop (σ := (List zR) × Nat) (fun m w s => m = s.1.length + 1 ∧ s.1 = List.drop s.2 p0 ∧ s.2 ≤ p0.length ∧ F_slices_Equal_Rect_L1 p1 s.1 s.2 = some r) (fun s => [(0, (.slice Ap0_0 (p0).length cp0_0)), (1, (.slice Ap1_0 (p1).length cp1_0)), (12, (iv (p0.length : Int))), (13, (iv (s.2 : Int)))]) (fun s => []) (p0.length + 1) (p0, 0) ⟨rfl, rfl, Nat.zero_le _, H⟩ (.cons rfl (.cons rfl (.cons rfl (.cons rfl .nil)))) .nil (fun _ _ h => absurd h.1 (by simp)) ?_
  intro w leL1 m s hs
  obtain ⟨restL1, iL1⟩ := s
  obtain ⟨hmL1, hdL1, hiL1, H⟩ := hs
  replace hdL1 : restL1 = List.drop iL1 p0 := hdL1
  replace H : F_slices_Equal_Rect_L1 p1 restL1 iL1 = some r := H
  replace hmL1 : m + 1 = restL1.length + 1 := hmL1
  replace hp0_0 := hp0_0.leR leL1
  replace hp1_0 := hp1_0.leR leL1
  replace leB := leB.trans leL1
  obtain rfl : m = restL1.length := by omega
  clear hmL1
  show Tr _ _ (LF [(0, (.slice Ap0_0 (p0).length cp0_0)), (1, (.slice Ap1_0 (p1).length cp1_0)), (12, (iv (p0.length : Int))), (13, (iv (iL1 : Int)))]) (LE []) _
  cases restL1 with
  | nil =>
   rw [F_slices_Equal_Rect_L1.eq_1] at H
   refine Tr.sr ?_
   refine Tr.va rfl (fun _ _ h1 h2 => zn (h1.ev rfl) (h1.ev rfl)) ?_
   refine Tr.nil (Tr.zA ?_)
   refine Tr.seq ?_
   refine Tr.condF rfl (range_nil hdL1) ?_
   refine Tr.exit (Tr.zV (Tr.zV (Tr.zw (Tr.zA ?_))))
   refine Tr.sr ?_
   refine Tr.asg rfl rfl ?_
   refine Tr.nil (Tr.zA ?_)
   refine Tr.ret ?_
   obtain rfl := Option.some.inj H
   exact Tr.out (m := [(.bool true)]) [] (zL rfl zP) (fun W hW => ⟨rfl, hW.low leB⟩)
  | cons xL1 restL1 =>
   rw [F_slices_Equal_Rect_L1.eq_2] at H
   refine Tr.sr ?_
   refine Tr.va rfl (fun _ _ h1 h2 => zn (h1.ev rfl) (h1.ev rfl)) ?_
   refine Tr.nil (Tr.zA ?_)
   refine Tr.seq ?_
   refine Tr.condT rfl (range_on hdL1) ?_
   refine Tr.skip (Tr.zA ?_)
   refine Tr.seq ?_
   refine Tr.block ?_
   refine Tr.sr ?_
   refine Tr.mv rfl rfl ?_
   refine Tr.asg rfl rfl ?_
   refine Tr.nil (Tr.zA ?_)
   refine Tr.seq ?_
   refine Tr.draw (by kernel_rfl) (by kernel_rfl) ?_
   refine Tq.mv rfl rfl ?_
   refine Tq.mv rfl rfl ?_
   refine Tq.va rfl (fun _ _ h1 h2 => zI el_31 (h1.ev rfl) hp0_0.form (h1.ev rfl) (Int.natCast_nonneg _) (zf hdL1)) ?_
   refine Tq.va rfl (fun _ _ h1 h2 => zQ (cs := [(iv xL1.X0), (iv xL1.Y0), (iv xL1.X1), (iv xL1.Y1)]) ag_36 sz_36 (h1.ev rfl) (zO.take (rdF ef_TRect hp0_0 (range_at hdL1) h2) 4) rfl) ?_
   refine Tq.mv rfl rfl ?_
   refine Tq.mv rfl rfl ?_
   obtain ⟨x103, hx103, H⟩ := bnd H
   obtain ⟨hx1030, hx1031, hx1032⟩ := zq hx103
   refine Tq.va rfl (fun _ _ h1 h2 => zI el_31 (h1.ev rfl) hp1_0.form (h1.ev rfl) hx1030 hx1031) ?_
   refine Tq.va rfl (fun _ _ h1 h2 => zQ (cs := [(iv x103.X0), (iv x103.Y0), (iv x103.X1), (iv x103.Y1)]) ag_36 sz_36 (h1.ev rfl) (zO.take (rdF ef_TRect hp1_0 hx1032 h2) 4) rfl) ?_
   refine Tq.va rfl (fun _ _ h1 h2 => run_neq_36 xL1 x103 (h1.ev rfl) (h1.ev rfl)) ?_
   refine Tq.nil (Tr.zA ?_)
   refine Tr.cond rfl H (fun H => ?_) (fun H => ?_)
   ·refine Tr.sr ?_
    refine Tr.asg rfl rfl ?_
    refine Tr.nil (Tr.zA ?_)
    refine Tr.ret (Tr.zt (Tr.zU (Tr.zU (Tr.zt (Tr.zU ?_)))))
    obtain rfl := Option.some.inj H
    exact Tr.out (m := [(.bool false)]) [] (zL rfl zP) (fun W hW => ⟨rfl, hW.low leB⟩)
   ·refine Tr.skip (Tr.zT (Tr.zA ?_))
    refine Tr.region ?_
    refine Tr.va rfl (fun _ _ h1 h2 => zm (h1.ev rfl) (h1.ev rfl)) ?_
    refine Tr.mv rfl rfl ?_
    refine Tr.nil ?_
    exact Tr.zW leL1 (restL1, (iL1 + 1)) ⟨rfl, zAI hdL1, zf hdL1, H⟩ (.cons rfl (.cons rfl (.cons rfl (.cons (congrArg (fun z => some (Value.int .i64 z)) (zAH hdL1 hp0_0.form)) .nil)))) .nil

theorem F_plot_Needless_ok (N : Nat) {w : Bs} (p0 : TPlot) (Ap0_0 : Option Addr) (cp0_0 : Nat) (hp0_0 : Sl w.O w.W zh Ap0_0 cp0_0 p0.Tools) (Ap0_1 : Option Addr) (cp0_1 : Nat) (hp0_1 : Sl w.O w.W zG Ap0_1 cp0_1 p0.Steps) (r : ((List Int) × Int)) (H : F_plot_Needless N p0 = some r) (hE : HF w w.W (LEn [emp])) : Calls Tryz.prog 12 [(.agg #[(iv p0.Unit), (.slice Ap0_0 (p0.Tools).length cp0_0), (.slice Ap0_1 (p0.Steps).length cp0_1)])].toArray w.W fun e W' => ∃ u : (Option Addr × Nat), e = .returned (.tuple #[(.slice u.1 (r.1).length u.2), (iv r.2)]) ∧ (SlF u.1 (r.1).length u.2) ∧ HF w W' (LEn [ow u.1 u.2 3 zX r.1]) := by
 unfold F_plot_Needless at H
 have leB := Bs.Le.refl w
 refine Tr.enter (n := 69) Tryz.func12 rfl rfl rfl hE ?_
 refine Tr.sr ?_
 refine Tr.box 1 (cs := [(iv p0.Unit), (.slice Ap0_0 (p0.Tools).length cp0_0), (.slice Ap0_1 (p0.Steps).length cp0_1)]) (wn rfl) rfl rfl rfl fun b100 => ?_
 refine Tr.asg rfl rfl ?_
 refine Tr.nilOwn 2 3 zX ?_
 show Tr _ _ (uf _ 2 (.slice none (([] : List Int)).length 0)) _ _
 refine Tr.asg rfl rfl ?_
 refine Tr.nil (Tr.zA ?_)
 refine Tr.sr ?_
 refine Tr.va rfl (fun _ _ h1 h2 => zQ (cs := [(iv p0.Unit), (.slice Ap0_0 (p0.Tools).length cp0_0), (.slice Ap0_1 (p0.Steps).length cp0_1)]) ag_25 sz_25 (h1.ev rfl) (zO.take (rdb h2 (vs := [(iv p0.Unit), (.slice Ap0_0 (p0.Tools).length cp0_0), (.slice Ap0_1 (p0.Steps).length cp0_1)]) (k := 1) rfl 0) 3) rfl) ?_
 obtain ⟨y101, hy101, H⟩ := bnd H
 refine Tr.callM [3] [emp] (U := (Option Addr × Nat)) (fun u => (.tuple #[(.slice u.1 (y101.1).length u.2), (iv y101.2)])) (fun u => SlF u.1 (y101.1).length u.2) (fun u => [ow u.1 u.2 36 zM y101.1]) rfl (zK rfl za) (fun _ => rfl) (wn rfl) rfl Tryz.call10 (zF rfl zN) (fun W hW hp hE => F_plot_Image_ok N p0 Ap0_0 cp0_0 (hp0_0.extO (hW.extS hp)) Ap0_1 cp0_1 (hp0_1.extO (hW.extS hp)) y101 hy101 hE) ?_
 intro u hu
 obtain ⟨Ay101_0, cy101_0⟩ := u
 have gy101_0 := hu
 have hgy101_0 : SlF Ay101_0 (y101.1).length cy101_0 := gy101_0 --@phi
 show Tr _ _ (uf _ 14 (.tuple #[(.slice Ay101_0 (y101.1).length cy101_0), (iv y101.2)])) (up _ 3 (ow Ay101_0 cy101_0 36 zM y101.1)) _
 refine Tr.mv rfl rfl ?_
 refine Tr.va rfl (fun _ _ h1 h2 => run_extract (h1.ev rfl) rfl) ?_
 refine Tr.va rfl (fun _ _ h1 h2 => run_extract (h1.ev rfl) rfl) ?_
 refine Tr.asg rfl rfl ?_
 refine Tr.asg rfl rfl ?_
 refine Tr.nil (Tr.zA ?_)
 refine Tr.seq ?_
 refine Tr.sr ?_
 refine Tr.mv rfl rfl ?_
 refine Tr.va rfl (fun _ _ h1 h2 => run_neq (h1.ev rfl) (h1.ev rfl)) ?_
 refine Tr.nil (Tr.zA ?_)
 refine Tr.cond rfl H (fun H => ?_) (fun H => ?_)
 ·refine Tr.sr ?_
  refine Tr.mv rfl rfl ?_
  refine Tr.asg rfl rfl ?_
  refine Tr.nilOwn 4 3 zX ?_
  show Tr _ _ (uf _ 2 (.slice none (([] : List Int)).length 0)) _ _
  refine Tr.asg rfl rfl ?_
  refine Tr.nil (Tr.zA ?_)
  refine Tr.ret (Tr.zU ?_)
  obtain rfl := Option.some.inj H
  exact Tr.out (m := [(.slice none (([] : List Int)).length 0), (iv y101.2)]) [] (zL rfl (zL rfl zP)) (fun W hW => ⟨(none, 0), rfl, slf_nil, HF.lowE leB (hW.pick (ks := [4]) (by decide) (zK rfl za)) ⟨ow_any _ _ _ _ tr_i64, trivial⟩⟩)
 ·refine Tr.skip (Tr.zA ?_)
  refine Tr.sr ?_
  refine Tr.asg rfl rfl ?_
  refine Tr.nilOwn 5 3 zX ?_
  show Tr _ _ (uf _ 6 (.slice none (([] : List Int)).length 0)) _ _
  refine Tr.nil (Tr.zA ?_)
  refine Tr.seq ?_
  refine Tr.sr ?_
  refine Tr.va rfl (fun _ _ h1 h2 => zB fo_25_2 (h1.ev rfl)) ?_
  refine Tr.va rfl (fun _ _ h1 h2 => zC ag_23 (h1.ev rfl) (rdb h2 (vs := [(iv p0.Unit), (.slice Ap0_0 (p0.Tools).length cp0_0), (.slice Ap0_1 (p0.Steps).length cp0_1)]) (k := 1) rfl 2) rfl) ?_
  refine Tr.va rfl (fun _ _ h1 h2 => zl un_23 (h1.ev rfl)) ?_
  refine Tr.mv rfl rfl ?_
  refine Tr.nil (Tr.zA ?_)
  refine Tr.block ?_
  refine Tr.loop (σ := (List zD) × Nat × (List Int) × (Option Addr) × Nat) (fun m w s => m = s.1.length + 1 ∧ s.1 = List.drop s.2.1 p0.Steps ∧ s.2.1 ≤ p0.Steps.length ∧ F_plot_Needless_L1 N p0 y101 s.1 s.2.1 s.2.2.1 = some r ∧ SlF s.2.2.2.1 (s.2.2.1).length s.2.2.2.2) (fun s => [(1, (.pointer (some ⟨b100, 0, none⟩))), (4, (.slice Ay101_0 (y101.1).length cy101_0)), (6, (.slice s.2.2.2.1 (s.2.2.1).length s.2.2.2.2)), (21, (.slice Ap0_1 (p0.Steps).length cp0_1)), (22, (iv (p0.Steps.length : Int))), (23, (iv (s.2.1 : Int)))]) (fun s => [(1, bx b100 #[(iv p0.Unit), (.slice Ap0_0 (p0.Tools).length cp0_0), (.slice Ap0_1 (p0.Steps).length cp0_1)] 25), (3, ow Ay101_0 cy101_0 36 zM y101.1), (5, ow s.2.2.2.1 s.2.2.2.2 3 zX s.2.2.1)]) (p0.Steps.length + 1) (p0.Steps, 0, ([] : List Int), none, 0) ⟨rfl, rfl, Nat.zero_le _, H, slf_nil⟩ (.cons rfl (.cons rfl (.cons rfl (.cons rfl (.cons rfl (.cons rfl .nil)))))) (.cons rfl (.cons rfl (.cons rfl .nil))) (fun _ _ h => absurd h.1 (by simp)) ?_
  intro w leL1 m s hs
  obtain ⟨restL1, iL1, l163, Al163, cl163⟩ := s
  obtain ⟨hmL1, hdL1, hiL1, H, hl163⟩ := hs
  replace hdL1 : restL1 = List.drop iL1 p0.Steps := hdL1
  replace H : F_plot_Needless_L1 N p0 y101 restL1 iL1 l163 = some r := H
  replace hmL1 : m + 1 = restL1.length + 1 := hmL1
  replace hp0_0 := hp0_0.le leL1
  replace hp0_1 := hp0_1.le leL1
  replace leB := leB.trans leL1
  replace hl163 : SlF Al163 (l163).length cl163 := hl163
  obtain rfl : m = restL1.length := by omega
  clear hmL1
  show Tr _ _ (LF [(1, (.pointer (some ⟨b100, 0, none⟩))), (4, (.slice Ay101_0 (y101.1).length cy101_0)), (6, (.slice Al163 (l163).length cl163)), (21, (.slice Ap0_1 (p0.Steps).length cp0_1)), (22, (iv (p0.Steps.length : Int))), (23, (iv (iL1 : Int)))]) (LE [(1, bx b100 #[(iv p0.Unit), (.slice Ap0_0 (p0.Tools).length cp0_0), (.slice Ap0_1 (p0.Steps).length cp0_1)] 25), (3, ow Ay101_0 cy101_0 36 zM y101.1), (5, ow Al163 cl163 3 zX l163)]) _
  cases restL1 with
  | nil =>
   rw [F_plot_Needless_L1.eq_1] at H
   refine Tr.sr ?_
   refine Tr.va rfl (fun _ _ h1 h2 => zn (h1.ev rfl) (h1.ev rfl)) ?_
   refine Tr.nil (Tr.zA ?_)
   refine Tr.seq ?_
   refine Tr.condF rfl (range_nil hdL1) ?_
   refine Tr.exit (Tr.zV (Tr.zV (Tr.zw (Tr.zA ?_))))
   refine Tr.sr ?_
   refine Tr.mv rfl rfl ?_
   refine Tr.asg rfl rfl ?_
   refine Tr.asg rfl rfl ?_
   refine Tr.nil (Tr.zA ?_)
   refine Tr.ret ?_
   obtain rfl := Option.some.inj H
   exact Tr.out (m := [(.slice Al163 (l163).length cl163), (iv 0)]) [] (zL rfl (zL rfl zP)) (fun W hW => ⟨(Al163, cl163), rfl, hl163, HF.lowE leB (hW.pick (ks := [5]) (by decide) (zK rfl za)) ⟨ow_any _ _ _ _ tr_i64, trivial⟩⟩)
  | cons xL1 restL1 =>
   rw [F_plot_Needless_L1.eq_2] at H
   refine Tr.sr ?_
   refine Tr.va rfl (fun _ _ h1 h2 => zn (h1.ev rfl) (h1.ev rfl)) ?_
   refine Tr.nil (Tr.zA ?_)
   refine Tr.seq ?_
   refine Tr.condT rfl (range_on hdL1) ?_
   refine Tr.skip (Tr.zA ?_)
   refine Tr.seq ?_
   refine Tr.block ?_
   refine Tr.sr ?_
   refine Tr.mv rfl rfl ?_
   obtain ⟨u164, hRu164, hoku164, hcu164⟩ := (hp0_1).el (range_at hdL1)
   obtain ⟨⟨Au164_0, cu164_0⟩, ⟨Au164_1, cu164_1⟩⟩ := u164
   obtain ⟨hoku164_0, hoku164_1⟩ := TPlotStep_ok.1 hoku164
   replace hoku164_0 : Sl w.O w.W zAK Au164_0 cu164_0 xL1.Points := hoku164_0
   replace hoku164_1 : Sl w.O w.W zG Au164_1 cu164_1 xL1.Steps := hoku164_1
   replace hRu164 : w.R (adB Ap0_1) := Or.inl hRu164
   refine Tr.va rfl (fun _ _ h1 h2 => zI el_23 (h1.ev rfl) hp0_1.form (h1.ev rfl) (Int.natCast_nonneg _) (zf hdL1)) ?_
   refine Tr.va rfl (fun _ _ h1 h2 => zQ (cs := [(iv xL1.Kind), (sv xL1.Name), (iv xL1.At.X), (iv xL1.At.Y), (.slice Au164_0 (xL1.Points).length cu164_0), (iv xL1.NX), (iv xL1.NY), (.slice Au164_1 (xL1.Steps).length cu164_1)]) ag_46 sz_46 (h1.ev rfl) (zO.take (rdR hRu164 hcu164 h2) 8) rfl) ?_
   refine Tr.alloc 26 (wn rfl) rfl ze_46 fun b165 => ?_
   refine Tr.asg rfl rfl ?_
   refine Tr.store 26 (cs := [(iv xL1.Kind), (sv xL1.Name), (iv xL1.At.X), (iv xL1.At.Y), (.slice Au164_0 (xL1.Points).length cu164_0), (iv xL1.NX), (iv xL1.NY), (.slice Au164_1 (xL1.Steps).length cu164_1)]) [(iv xL1.Kind), (sv xL1.Name), (iv xL1.At.X), (iv xL1.At.Y), (.slice Au164_0 (xL1.Points).length cu164_0), (iv xL1.NX), (iv xL1.NY), (.slice Au164_1 (xL1.Steps).length cu164_1)] (wn rfl) rfl rfl rfl rfl sz_46 rfl rfl rfl ?_
   refine Tr.nil (Tr.zA ?_)
   refine Tr.seq ?_
   refine Tr.sr ?_
   refine Tr.va rfl (fun _ _ h1 h2 => zQ (cs := [(iv xL1.Kind), (sv xL1.Name), (iv xL1.At.X), (iv xL1.At.Y), (.slice Au164_0 (xL1.Points).length cu164_0), (iv xL1.NX), (iv xL1.NY), (.slice Au164_1 (xL1.Steps).length cu164_1)]) ag_46 sz_46 (h1.ev rfl) (zO.take (rdb h2 (vs := [(iv xL1.Kind), (sv xL1.Name), (iv xL1.At.X), (iv xL1.At.Y), (.slice Au164_0 (xL1.Points).length cu164_0), (iv xL1.NX), (iv xL1.NY), (.slice Au164_1 (xL1.Steps).length cu164_1)]) (k := 26) rfl 0) 8) rfl) ?_
   obtain ⟨y166, hy166, H⟩ := bnd H
   refine Tr.call0 (r := (.bool y166)) (wn rfl) rfl Tryz.call30 (zF rfl zN) (fun W hW => F_plot_drawsAny_ok N xL1 Au164_0 cu164_0 (hoku164_0.rl.ext hW.extAll) Au164_1 cu164_1 (hoku164_1.rl.ext hW.extAll) y166 hy166 (HF.start _)) ?_
   refine Tr.va rfl (fun _ _ h1 h2 => run_not (h1.ev rfl)) ?_
   refine Tr.nil (Tr.zA ?_)
   refine Tr.cond rfl H (fun H => ?_) (fun H => ?_)
   ·refine Tr.exit (Tr.zV (Tr.zw (Tr.zA ?_)))
    refine Tr.region ?_
    refine Tr.va rfl (fun _ _ h1 h2 => zm (h1.ev rfl) (h1.ev rfl)) ?_
    refine Tr.mv rfl rfl ?_
    refine Tr.nil ?_
    exact Tr.zW leL1 (restL1, (iL1 + 1), l163, Al163, cl163) ⟨rfl, zAI hdL1, zf hdL1, H, hl163⟩ (.cons rfl (.cons rfl (.cons rfl (.cons rfl (.cons rfl (.cons (congrArg (fun z => some (Value.int .i64 z)) (zAH hdL1 hp0_1.form)) .nil)))))) (.cons rfl (.cons rfl (.cons rfl .nil)))
   ·refine Tr.skip (Tr.zA ?_)
    refine Tr.seq ?_
    refine Tr.drawC 17 [] [] (by kernel_rfl) (by kernel_rfl) fun sz167 hlosz167 hEsz167 => ?_
    refine Dr.quiet 0 [(31, (.pointer (some ⟨b100, 0, none⟩)))] (by kernel_rfl) rfl rfl (by kernel_rfl) ?_ rfl rfl ?_
    ·refine Tq.va rfl (fun _ _ h1 h2 => zB fo_25_0 (h1.ev rfl)) ?_
     exact Tq.fin (.cons rfl .nil)
    refine Dr.quiet 1 [(32, (iv p0.Unit))] (by kernel_rfl) rfl rfl (by kernel_rfl) ?_ rfl rfl ?_
    ·refine Tq.va rfl (fun _ _ h1 h2 => zC ag_3 (h1.ev rfl) (rdb h2 (vs := [(iv p0.Unit), (.slice Ap0_0 (p0.Tools).length cp0_0), (.slice Ap0_1 (p0.Steps).length cp0_1)]) (k := 1) rfl 0) rfl) ?_
     exact Tq.fin (.cons rfl .nil)
    refine Dr.quiet 2 [(33, (.pointer (some ⟨b100, 1, none⟩)))] (by kernel_rfl) rfl rfl (by kernel_rfl) ?_ rfl rfl ?_
    ·refine Tq.va rfl (fun _ _ h1 h2 => zB fo_25_1 (h1.ev rfl)) ?_
     exact Tq.fin (.cons rfl .nil)
    refine Dr.quiet 3 [(34, (.slice Ap0_0 (p0.Tools).length cp0_0))] (by kernel_rfl) rfl rfl (by kernel_rfl) ?_ rfl rfl ?_
    ·refine Tq.va rfl (fun _ _ h1 h2 => zC ag_22 (h1.ev rfl) (rdb h2 (vs := [(iv p0.Unit), (.slice Ap0_0 (p0.Tools).length cp0_0), (.slice Ap0_1 (p0.Steps).length cp0_1)]) (k := 1) rfl 1) rfl) ?_
     exact Tq.fin (.cons rfl .nil)
    refine Dr.quiet 4 [(35, (.pointer (some ⟨b100, 2, none⟩)))] (by kernel_rfl) rfl rfl (by kernel_rfl) ?_ rfl rfl ?_
    ·refine Tq.va rfl (fun _ _ h1 h2 => zB fo_25_2 (h1.ev rfl)) ?_
     exact Tq.fin (.cons rfl .nil)
    refine Dr.quiet 5 [(36, (.slice Ap0_1 (p0.Steps).length cp0_1))] (by kernel_rfl) rfl rfl (by kernel_rfl) ?_ rfl rfl ?_
    ·refine Tq.va rfl (fun _ _ h1 h2 => zC ag_23 (h1.ev rfl) (rdb h2 (vs := [(iv p0.Unit), (.slice Ap0_0 (p0.Tools).length cp0_0), (.slice Ap0_1 (p0.Steps).length cp0_1)]) (k := 1) rfl 2) rfl) ?_
     exact Tq.fin (.cons rfl .nil)
    refine Dr.quiet 6 [(37, (iv (iL1 : Int)))] (by kernel_rfl) rfl rfl (by kernel_rfl) ?_ rfl rfl ?_
    ·refine Tq.mv rfl rfl ?_
     exact Tq.fin (.cons rfl .nil)
    obtain ⟨l168, hl168, H⟩ := bnd H
    refine Dr.quiet 7 [(38, (.slice Ap0_1 (l168).length cp0_1))] (by kernel_rfl) rfl rfl (by kernel_rfl) ?_ rfl rfl ?_
    ·refine Tq.va rfl (fun _ _ h1 h2 => run_pre el_23 (h1.ev rfl) hp0_1.form (h1.ev rfl) hl168) ?_
     exact Tq.fin (.cons rfl .nil)
    refine Dr.quiet 8 [(39, (.pointer (some ⟨b100, 2, none⟩)))] (by kernel_rfl) rfl rfl (by kernel_rfl) ?_ rfl rfl ?_
    ·refine Tq.va rfl (fun _ _ h1 h2 => zB fo_25_2 (h1.ev rfl)) ?_
     exact Tq.fin (.cons rfl .nil)
    refine Dr.quiet 9 [(40, (.slice Ap0_1 (p0.Steps).length cp0_1))] (by kernel_rfl) rfl rfl (by kernel_rfl) ?_ rfl rfl ?_
    ·refine Tq.va rfl (fun _ _ h1 h2 => zC ag_23 (h1.ev rfl) (rdb h2 (vs := [(iv p0.Unit), (.slice Ap0_0 (p0.Tools).length cp0_0), (.slice Ap0_1 (p0.Steps).length cp0_1)]) (k := 1) rfl 2) rfl) ?_
     exact Tq.fin (.cons rfl .nil)
    refine Dr.quiet 10 [(41, (iv (iL1 : Int)))] (by kernel_rfl) rfl rfl (by kernel_rfl) ?_ rfl rfl ?_
    ·refine Tq.mv rfl rfl ?_
     exact Tq.fin (.cons rfl .nil)
    refine Dr.quiet 11 [(42, (iv (w64 ((iL1 : Int) + 1))))] (by kernel_rfl) rfl rfl (by kernel_rfl) ?_ rfl rfl ?_
    ·refine Tq.va rfl (fun _ _ h1 h2 => zm (h1.ev rfl) (h1.ev rfl)) ?_
     exact Tq.fin (.cons rfl .nil)
    obtain ⟨l169, hl169, H⟩ := bnd H
    refine Dr.quiet 12 [(43, (.slice (cutA Ap0_1 (w64 ((iL1 : Int) + 1)).toNat 8 cp0_1) (l169).length (cp0_1 - (w64 ((iL1 : Int) + 1)).toNat)))] (by kernel_rfl) rfl rfl (by kernel_rfl) ?_ rfl rfl ?_
    ·refine Tq.va rfl (fun _ _ h1 h2 => run_cutL el_23 (h1.ev rfl) hp0_1.form (h1.ev rfl) hl169) ?_
     exact Tq.fin (.cons rfl .nil)
    obtain ⟨y173, hy173, H⟩ := bnd H
    refine Dr.cutG (U := Nat × Option Addr × Nat × Nat) [13, 14, 15, 16] 0 (fun w u => sz167 ≤ u.1 ∧ Sl w.O w.W fl_LTPlotStep (some ⟨u.1, 0, none⟩) 2 [l168, l169] ∧ SlF u.2.1 (y173).length u.2.2.1 ∧ (∀ b, insS [ow u.2.1 u.2.2.1 46 zG y173] b → sz167 ≤ b ∨ insS [emp] b) ∧ sz167 ≤ u.2.2.2) (fun u => [(1, (.pointer (some ⟨b100, 0, none⟩))), (4, (.slice Ay101_0 (y101.1).length cy101_0)), (6, (.slice Al163 (l163).length cl163)), (7, (iv (iL1 : Int))), (8, (.pointer (some ⟨b165, 0, none⟩))), (9, (.pointer (some ⟨u.2.2.2, 0, none⟩))), (21, (.slice Ap0_1 (p0.Steps).length cp0_1)), (22, (iv (p0.Steps.length : Int))), (23, (iv (iL1 : Int))), (24, (.bool (decide ((iL1 : Int) < (p0.Steps.length : Int))))), (25, (iv (iL1 : Int))), (26, (.pointer (some ⟨adB Ap0_1, adO Ap0_1 + ((iL1 : Int)).toNat * 8, none⟩))), (27, (.agg #[(iv xL1.Kind), (sv xL1.Name), (iv xL1.At.X), (iv xL1.At.Y), (.slice Au164_0 (xL1.Points).length cu164_0), (iv xL1.NX), (iv xL1.NY), (.slice Au164_1 (xL1.Steps).length cu164_1)])), (28, (.agg #[(iv xL1.Kind), (sv xL1.Name), (iv xL1.At.X), (iv xL1.At.Y), (.slice Au164_0 (xL1.Points).length cu164_0), (iv xL1.NX), (iv xL1.NY), (.slice Au164_1 (xL1.Steps).length cu164_1)])), (29, (.bool y166)), (30, (.bool (!y166))), (31, (.pointer (some ⟨b100, 0, none⟩))), (32, (iv p0.Unit)), (33, (.pointer (some ⟨b100, 1, none⟩))), (34, (.slice Ap0_0 (p0.Tools).length cp0_0)), (35, (.pointer (some ⟨b100, 2, none⟩))), (36, (.slice Ap0_1 (p0.Steps).length cp0_1)), (37, (iv (iL1 : Int))), (38, (.slice Ap0_1 (l168).length cp0_1)), (39, (.pointer (some ⟨b100, 2, none⟩))), (40, (.slice Ap0_1 (p0.Steps).length cp0_1)), (41, (iv (iL1 : Int))), (42, (iv (w64 ((iL1 : Int) + 1)))), (43, (.slice (cutA Ap0_1 (w64 ((iL1 : Int) + 1)).toNat 8 cp0_1) (l169).length (cp0_1 - (w64 ((iL1 : Int) + 1)).toNat))), (44, (.slice (some ⟨u.1, 0, none⟩) 2 2)), (45, (.slice u.2.1 (y173).length u.2.2.1)), (46, (.agg #[(iv p0.Unit), (.slice Ap0_0 (p0.Tools).length cp0_0), (.slice u.2.1 (y173).length u.2.2.1)]))]) (fun u => [(1, bx b100 #[(iv p0.Unit), (.slice Ap0_0 (p0.Tools).length cp0_0), (.slice Ap0_1 (p0.Steps).length cp0_1)] 25), (3, ow Ay101_0 cy101_0 36 zM y101.1), (5, ow Al163 cl163 3 zX l163), (26, bx b165 #[(iv xL1.Kind), (sv xL1.Name), (iv xL1.At.X), (iv xL1.At.Y), (.slice Au164_0 (xL1.Points).length cu164_0), (iv xL1.NX), (iv xL1.NY), (.slice Au164_1 (xL1.Steps).length cu164_1)] 46), (28, ow u.2.1 u.2.2.1 46 zG y173), (29, bx u.2.2.2 #[(iv 0), (.slice none 0 0), (.slice none 0 0)] 25)]) ?_ ?_
    ·intro hC
     refine Dr.pair 13 16 (by kernel_rfl) ?_ ?_
     ·refine St.buildSlice 13 27 (e := 23) (vs := [(0, (.slice Ap0_1 (l168).length cp0_1)), (1, (.slice (cutA Ap0_1 (w64 ((iL1 : Int) + 1)).toNat 8 cp0_1) (l169).length (cp0_1 - (w64 ((iL1 : Int) + 1)).toNat)))]) (cs := [(.slice Ap0_1 (l168).length cp0_1), (.slice (cutA Ap0_1 (w64 ((iL1 : Int) + 1)).toNat 8 cp0_1) (l169).length (cp0_1 - (w64 ((iL1 : Int) + 1)).toNat))]) rfl (wn rfl) rfl (zY rfl (zY rfl evs_nil)) (by kernel_rfl) fun b170 hb170 => ?_
      refine Dr.own 27 fl_LTPlotStep [l168, l169] (css := [[(.slice Ap0_1 (l168).length cp0_1)], [(.slice (cutA Ap0_1 (w64 ((iL1 : Int) + 1)).toNat 8 cp0_1) (l169).length (cp0_1 - (w64 ((iL1 : Int) + 1)).toNat))]]) rfl (.cons ⟨(Ap0_1, cp0_1), (Sl.pre hp0_1 hl168), rfl⟩ (.cons ⟨((cutA Ap0_1 (w64 ((iL1 : Int) + 1)).toNat 8 cp0_1), (cp0_1 - (w64 ((iL1 : Int) + 1)).toNat)), (Sl.cut hp0_1 hl169), rfl⟩ .nil)) rfl (by decide) (lit_max rfl) ?_
      refine Dr.pair 14 16 (by kernel_rfl) ?_ ?_
      ·refine St.freeze 27 rfl fun w le172 hz171 => ?_
       replace hp0_0 := hp0_0.le le172
       replace hp0_1 := hp0_1.le le172
       replace hcu164 := le172.ext.cells hRu164 hcu164
       replace hRu164 := le172.r _ hRu164
       replace hoku164_0 := hoku164_0.le le172
       replace hoku164_1 := hoku164_1.le le172
       replace leB := leB.trans le172
       replace leL1 := leL1.trans le172
       refine St.callG 14 [28] [emp] (U := (Option Addr × Nat)) (fun u => (.slice u.1 (y173).length u.2)) (fun O W u => SlF u.1 (y173).length u.2) (fun u => [ow u.1 u.2 46 zG y173]) rfl (zK rfl za) (fun _ => rfl) (insS_no rfl) rfl (wn rfl) rfl Tryz.call31 (zF rfl zN) (fun W hW hp hE => F_slices_Concat_PlotStep_ok [l168, l169] (some ⟨b170, 0, none⟩) 2 (hz171.extO (hW.extS hp)) y173 hy173 hE) ?_
       intro w u le174 hu hsy173
       obtain ⟨Ay173_0, cy173_0⟩ := u
       have gy173_0 := hu
       replace hp0_0 := hp0_0.le le174
       replace hp0_1 := hp0_1.le le174
       replace hcu164 := le174.ext.cells hRu164 hcu164
       replace hRu164 := le174.r _ hRu164
       replace hoku164_0 := hoku164_0.le le174
       replace hoku164_1 := hoku164_1.le le174
       replace hz171 := hz171.le le174
       replace leB := leB.trans le174
       replace leL1 := leL1.trans le174
       have hgy173_0 : SlF Ay173_0 (y173).length cy173_0 := gy173_0
       show Dr _ _ _ _ _ _ _ _ _ (uf _ 45 (.slice Ay173_0 (y173).length cy173_0)) (up _ 28 (ow Ay173_0 cy173_0 46 zG y173))
       refine Dr.quiet 15 [(46, (.agg #[(iv p0.Unit), (.slice Ap0_0 (p0.Tools).length cp0_0), (.slice Ay173_0 (y173).length cy173_0)]))] (by kernel_rfl) rfl rfl (by kernel_rfl) ?_ rfl rfl ?_
       ·refine Tq.build (vs := [(0, (iv p0.Unit)), (1, (.slice Ap0_0 (p0.Tools).length cp0_0)), (2, (.slice Ay173_0 (y173).length cy173_0))]) (cs := [(iv p0.Unit), (.slice Ap0_0 (p0.Tools).length cp0_0), (.slice Ay173_0 (y173).length cy173_0)]) (wn rfl) rfl (zY rfl (zY rfl (zY rfl evs_nil))) (by kernel_rfl) ?_
        exact Tq.fin (.cons rfl .nil)
       refine Dr.one 16 (by kernel_rfl) ?_
       refine St.alloc 16 29 rfl (wn rfl) rfl ze_25 fun b175 hb175 => ?_
       exact (hC w ⟨b170, Ay173_0, cy173_0, b175⟩ (le172.trans le174) ⟨hb170, hz171, hgy173_0, hsy173, hb175⟩).use (by kernel_rfl) (.cons rfl (.cons rfl (.cons rfl (.cons rfl (.cons rfl (.cons rfl (.cons rfl (.cons rfl (.cons rfl (.cons rfl (.cons rfl (.cons rfl (.cons rfl (.cons rfl (.cons rfl (.cons rfl (.cons rfl (.cons rfl (.cons rfl (.cons rfl (.cons rfl (.cons rfl (.cons rfl (.cons rfl (.cons rfl (.cons rfl (.cons rfl (.cons rfl (.cons rfl (.cons rfl (.cons rfl (.cons rfl .nil)))))))))))))))))))))))))))))))) (.cons rfl (.cons rfl (.cons rfl (.cons rfl (.cons rfl (.cons rfl .nil))))))
      ·refine St.alloc 16 29 rfl (wn rfl) rfl ze_25 fun b175 hb175 => ?_
       refine Dr.one 14 (by kernel_rfl) ?_
       refine St.freeze 27 rfl fun w le172 hz171 => ?_
       replace hp0_0 := hp0_0.le le172
       replace hp0_1 := hp0_1.le le172
       replace hcu164 := le172.ext.cells hRu164 hcu164
       replace hRu164 := le172.r _ hRu164
       replace hoku164_0 := hoku164_0.le le172
       replace hoku164_1 := hoku164_1.le le172
       replace leB := leB.trans le172
       replace leL1 := leL1.trans le172
       refine St.callG 14 [28] [emp] (U := (Option Addr × Nat)) (fun u => (.slice u.1 (y173).length u.2)) (fun O W u => SlF u.1 (y173).length u.2) (fun u => [ow u.1 u.2 46 zG y173]) rfl (zK rfl za) (fun _ => rfl) (insS_no rfl) rfl (wn rfl) rfl Tryz.call31 (zF rfl zN) (fun W hW hp hE => F_slices_Concat_PlotStep_ok [l168, l169] (some ⟨b170, 0, none⟩) 2 (hz171.extO (hW.extS hp)) y173 hy173 hE) ?_
       intro w u le174 hu hsy173
       obtain ⟨Ay173_0, cy173_0⟩ := u
       have gy173_0 := hu
       replace hp0_0 := hp0_0.le le174
       replace hp0_1 := hp0_1.le le174
       replace hcu164 := le174.ext.cells hRu164 hcu164
       replace hRu164 := le174.r _ hRu164
       replace hoku164_0 := hoku164_0.le le174
       replace hoku164_1 := hoku164_1.le le174
       replace hz171 := hz171.le le174
       replace leB := leB.trans le174
       replace leL1 := leL1.trans le174
       have hgy173_0 : SlF Ay173_0 (y173).length cy173_0 := gy173_0
       show Dr _ _ _ _ _ _ _ _ _ (uf _ 45 (.slice Ay173_0 (y173).length cy173_0)) (up _ 28 (ow Ay173_0 cy173_0 46 zG y173))
       refine Dr.quiet 15 [(46, (.agg #[(iv p0.Unit), (.slice Ap0_0 (p0.Tools).length cp0_0), (.slice Ay173_0 (y173).length cy173_0)]))] (by kernel_rfl) rfl rfl (by kernel_rfl) ?_ rfl rfl ?_
       ·refine Tq.build (vs := [(0, (iv p0.Unit)), (1, (.slice Ap0_0 (p0.Tools).length cp0_0)), (2, (.slice Ay173_0 (y173).length cy173_0))]) (cs := [(iv p0.Unit), (.slice Ap0_0 (p0.Tools).length cp0_0), (.slice Ay173_0 (y173).length cy173_0)]) (wn rfl) rfl (zY rfl (zY rfl (zY rfl evs_nil))) (by kernel_rfl) ?_
        exact Tq.fin (.cons rfl .nil)
       exact (hC w ⟨b170, Ay173_0, cy173_0, b175⟩ (le172.trans le174) ⟨hb170, hz171, hgy173_0, hsy173, hb175⟩).use (by kernel_rfl) (.cons rfl (.cons rfl (.cons rfl (.cons rfl (.cons rfl (.cons rfl (.cons rfl (.cons rfl (.cons rfl (.cons rfl (.cons rfl (.cons rfl (.cons rfl (.cons rfl (.cons rfl (.cons rfl (.cons rfl (.cons rfl (.cons rfl (.cons rfl (.cons rfl (.cons rfl (.cons rfl (.cons rfl (.cons rfl (.cons rfl (.cons rfl (.cons rfl (.cons rfl (.cons rfl (.cons rfl (.cons rfl .nil)))))))))))))))))))))))))))))))) (.cons rfl (.cons rfl (.cons rfl (.cons rfl (.cons rfl (.cons rfl .nil))))))
     ·refine St.alloc 16 29 rfl (wn rfl) rfl ze_25 fun b175 hb175 => ?_
      refine Dr.one 13 (by kernel_rfl) ?_
      refine St.buildSlice 13 27 (e := 23) (vs := [(0, (.slice Ap0_1 (l168).length cp0_1)), (1, (.slice (cutA Ap0_1 (w64 ((iL1 : Int) + 1)).toNat 8 cp0_1) (l169).length (cp0_1 - (w64 ((iL1 : Int) + 1)).toNat)))]) (cs := [(.slice Ap0_1 (l168).length cp0_1), (.slice (cutA Ap0_1 (w64 ((iL1 : Int) + 1)).toNat 8 cp0_1) (l169).length (cp0_1 - (w64 ((iL1 : Int) + 1)).toNat))]) rfl (wn rfl) rfl (zY rfl (zY rfl evs_nil)) (by kernel_rfl) fun b170 hb170 => ?_
      refine Dr.own 27 fl_LTPlotStep [l168, l169] (css := [[(.slice Ap0_1 (l168).length cp0_1)], [(.slice (cutA Ap0_1 (w64 ((iL1 : Int) + 1)).toNat 8 cp0_1) (l169).length (cp0_1 - (w64 ((iL1 : Int) + 1)).toNat))]]) rfl (.cons ⟨(Ap0_1, cp0_1), (Sl.pre hp0_1 hl168), rfl⟩ (.cons ⟨((cutA Ap0_1 (w64 ((iL1 : Int) + 1)).toNat 8 cp0_1), (cp0_1 - (w64 ((iL1 : Int) + 1)).toNat)), (Sl.cut hp0_1 hl169), rfl⟩ .nil)) rfl (by decide) (lit_max rfl) ?_
      refine Dr.one 14 (by kernel_rfl) ?_
      refine St.freeze 27 rfl fun w le172 hz171 => ?_
      replace hp0_0 := hp0_0.le le172
      replace hp0_1 := hp0_1.le le172
      replace hcu164 := le172.ext.cells hRu164 hcu164
      replace hRu164 := le172.r _ hRu164
      replace hoku164_0 := hoku164_0.le le172
      replace hoku164_1 := hoku164_1.le le172
      replace leB := leB.trans le172
      replace leL1 := leL1.trans le172
      refine St.callG 14 [28] [emp] (U := (Option Addr × Nat)) (fun u => (.slice u.1 (y173).length u.2)) (fun O W u => SlF u.1 (y173).length u.2) (fun u => [ow u.1 u.2 46 zG y173]) rfl (zK rfl za) (fun _ => rfl) (insS_no rfl) rfl (wn rfl) rfl Tryz.call31 (zF rfl zN) (fun W hW hp hE => F_slices_Concat_PlotStep_ok [l168, l169] (some ⟨b170, 0, none⟩) 2 (hz171.extO (hW.extS hp)) y173 hy173 hE) ?_
      intro w u le174 hu hsy173
      obtain ⟨Ay173_0, cy173_0⟩ := u
      have gy173_0 := hu
      replace hp0_0 := hp0_0.le le174
      replace hp0_1 := hp0_1.le le174
      replace hcu164 := le174.ext.cells hRu164 hcu164
      replace hRu164 := le174.r _ hRu164
      replace hoku164_0 := hoku164_0.le le174
      replace hoku164_1 := hoku164_1.le le174
      replace hz171 := hz171.le le174
      replace leB := leB.trans le174
      replace leL1 := leL1.trans le174
      have hgy173_0 : SlF Ay173_0 (y173).length cy173_0 := gy173_0
      show Dr _ _ _ _ _ _ _ _ _ (uf _ 45 (.slice Ay173_0 (y173).length cy173_0)) (up _ 28 (ow Ay173_0 cy173_0 46 zG y173))
      refine Dr.quiet 15 [(46, (.agg #[(iv p0.Unit), (.slice Ap0_0 (p0.Tools).length cp0_0), (.slice Ay173_0 (y173).length cy173_0)]))] (by kernel_rfl) rfl rfl (by kernel_rfl) ?_ rfl rfl ?_
      ·refine Tq.build (vs := [(0, (iv p0.Unit)), (1, (.slice Ap0_0 (p0.Tools).length cp0_0)), (2, (.slice Ay173_0 (y173).length cy173_0))]) (cs := [(iv p0.Unit), (.slice Ap0_0 (p0.Tools).length cp0_0), (.slice Ay173_0 (y173).length cy173_0)]) (wn rfl) rfl (zY rfl (zY rfl (zY rfl evs_nil))) (by kernel_rfl) ?_
       exact Tq.fin (.cons rfl .nil)
      exact (hC w ⟨b170, Ay173_0, cy173_0, b175⟩ (le172.trans le174) ⟨hb170, hz171, hgy173_0, hsy173, hb175⟩).use (by kernel_rfl) (.cons rfl (.cons rfl (.cons rfl (.cons rfl (.cons rfl (.cons rfl (.cons rfl (.cons rfl (.cons rfl (.cons rfl (.cons rfl (.cons rfl (.cons rfl (.cons rfl (.cons rfl (.cons rfl (.cons rfl (.cons rfl (.cons rfl (.cons rfl (.cons rfl (.cons rfl (.cons rfl (.cons rfl (.cons rfl (.cons rfl (.cons rfl (.cons rfl (.cons rfl (.cons rfl (.cons rfl (.cons rfl .nil)))))))))))))))))))))))))))))))) (.cons rfl (.cons rfl (.cons rfl (.cons rfl (.cons rfl (.cons rfl .nil))))))
    intro w u le189 hu
    obtain ⟨b170, Ay173_0, cy173_0, b175⟩ := u
    obtain ⟨hb170, hz171, hgy173_0, hsy173, hb175⟩ := hu
    replace hb170 : sz167 ≤ b170 := hb170
    replace hz171 : Sl w.O w.W fl_LTPlotStep (some ⟨b170, 0, none⟩) 2 [l168, l169] := hz171
    replace hgy173_0 : SlF Ay173_0 (y173).length cy173_0 := hgy173_0
    replace hsy173 : (∀ b, insS [ow Ay173_0 cy173_0 46 zG y173] b → sz167 ≤ b ∨ insS [emp] b) := hsy173
    replace hb175 : sz167 ≤ b175 := hb175
    replace hp0_0 := hp0_0.le le189
    replace hp0_1 := hp0_1.le le189
    replace hcu164 := le189.ext.cells hRu164 hcu164
    replace hRu164 := le189.r _ hRu164
    replace hoku164_0 := hoku164_0.le le189
    replace hoku164_1 := hoku164_1.le le189
    replace leB := leB.trans le189
    replace leL1 := leL1.trans le189
    show Dr _ _ _ _ _ _ _ _ _ (LF [(1, (.pointer (some ⟨b100, 0, none⟩))), (4, (.slice Ay101_0 (y101.1).length cy101_0)), (6, (.slice Al163 (l163).length cl163)), (7, (iv (iL1 : Int))), (8, (.pointer (some ⟨b165, 0, none⟩))), (9, (.pointer (some ⟨b175, 0, none⟩))), (21, (.slice Ap0_1 (p0.Steps).length cp0_1)), (22, (iv (p0.Steps.length : Int))), (23, (iv (iL1 : Int))), (24, (.bool (decide ((iL1 : Int) < (p0.Steps.length : Int))))), (25, (iv (iL1 : Int))), (26, (.pointer (some ⟨adB Ap0_1, adO Ap0_1 + ((iL1 : Int)).toNat * 8, none⟩))), (27, (.agg #[(iv xL1.Kind), (sv xL1.Name), (iv xL1.At.X), (iv xL1.At.Y), (.slice Au164_0 (xL1.Points).length cu164_0), (iv xL1.NX), (iv xL1.NY), (.slice Au164_1 (xL1.Steps).length cu164_1)])), (28, (.agg #[(iv xL1.Kind), (sv xL1.Name), (iv xL1.At.X), (iv xL1.At.Y), (.slice Au164_0 (xL1.Points).length cu164_0), (iv xL1.NX), (iv xL1.NY), (.slice Au164_1 (xL1.Steps).length cu164_1)])), (29, (.bool y166)), (30, (.bool (!y166))), (31, (.pointer (some ⟨b100, 0, none⟩))), (32, (iv p0.Unit)), (33, (.pointer (some ⟨b100, 1, none⟩))), (34, (.slice Ap0_0 (p0.Tools).length cp0_0)), (35, (.pointer (some ⟨b100, 2, none⟩))), (36, (.slice Ap0_1 (p0.Steps).length cp0_1)), (37, (iv (iL1 : Int))), (38, (.slice Ap0_1 (l168).length cp0_1)), (39, (.pointer (some ⟨b100, 2, none⟩))), (40, (.slice Ap0_1 (p0.Steps).length cp0_1)), (41, (iv (iL1 : Int))), (42, (iv (w64 ((iL1 : Int) + 1)))), (43, (.slice (cutA Ap0_1 (w64 ((iL1 : Int) + 1)).toNat 8 cp0_1) (l169).length (cp0_1 - (w64 ((iL1 : Int) + 1)).toNat))), (44, (.slice (some ⟨b170, 0, none⟩) 2 2)), (45, (.slice Ay173_0 (y173).length cy173_0)), (46, (.agg #[(iv p0.Unit), (.slice Ap0_0 (p0.Tools).length cp0_0), (.slice Ay173_0 (y173).length cy173_0)]))]) (LE [(1, bx b100 #[(iv p0.Unit), (.slice Ap0_0 (p0.Tools).length cp0_0), (.slice Ap0_1 (p0.Steps).length cp0_1)] 25), (3, ow Ay101_0 cy101_0 36 zM y101.1), (5, ow Al163 cl163 3 zX l163), (26, bx b165 #[(iv xL1.Kind), (sv xL1.Name), (iv xL1.At.X), (iv xL1.At.Y), (.slice Au164_0 (xL1.Points).length cu164_0), (iv xL1.NX), (iv xL1.NY), (.slice Au164_1 (xL1.Steps).length cu164_1)] 46), (28, ow Ay173_0 cy173_0 46 zG y173), (29, bx b175 #[(iv 0), (.slice none 0 0), (.slice none 0 0)] 25)])
    refine Dr.tail (by kernel_rfl) ?_
    refine Tr.store 29 (cs := [(iv p0.Unit), (.slice Ap0_0 (p0.Tools).length cp0_0), (.slice Ay173_0 (y173).length cy173_0)]) [(iv p0.Unit), (.slice Ap0_0 (p0.Tools).length cp0_0), (.slice Ay173_0 (y173).length cy173_0)] (wn rfl) rfl rfl rfl rfl sz_25 rfl rfl rfl ?_
    refine Tr.nil (Tr.zA ?_)
    refine Tr.sr ?_
    refine Tr.va rfl (fun _ _ h1 h2 => zQ (cs := [(iv p0.Unit), (.slice Ap0_0 (p0.Tools).length cp0_0), (.slice Ay173_0 (y173).length cy173_0)]) ag_25 sz_25 (h1.ev rfl) (zO.take (rdb h2 (vs := [(iv p0.Unit), (.slice Ap0_0 (p0.Tools).length cp0_0), (.slice Ay173_0 (y173).length cy173_0)]) (k := 29) rfl 0) 3) rfl) ?_
    refine Tr.freeze 28 rfl fun w le177 hz176 => ?_
    replace hp0_0 := hp0_0.le le177
    replace hp0_1 := hp0_1.le le177
    replace hcu164 := le177.ext.cells hRu164 hcu164
    replace hRu164 := le177.r _ hRu164
    replace hoku164_0 := hoku164_0.le le177
    replace hoku164_1 := hoku164_1.le le177
    replace hz171 := hz171.le le177
    replace leB := leB.trans le177
    replace leL1 := leL1.trans le177
    obtain ⟨y178, hy178, H⟩ := bnd H
    refine Tr.callG [30, 31, 32] [emp, emp, emp] (U := (Option Addr × Nat) × (Option Addr × Nat) × (Option Addr × Nat) × (Option Addr × Nat) × (Option Addr × Nat)) (fun u => (.tuple #[(.pointer (some ⟨u.2.2.2.2.2, 0, none⟩)), (iv y178.2)])) (fun O W u => Sl O W zh u.1.1 u.1.2 y178.1.p.Tools ∧ Sl O W zG u.2.1.1 u.2.1.2 y178.1.p.Steps ∧ SlF u.2.2.1.1 (y178.1.tools).length u.2.2.1.2 ∧ SlF u.2.2.2.1.1 (y178.1.image).length u.2.2.2.1.2 ∧ True) (fun u => [ow u.2.2.1.1 u.2.2.1.2 66 zAA y178.1.tools, ow u.2.2.2.1.1 u.2.2.2.1.2 107 zH y178.1.image, bx u.2.2.2.2.2 #[(iv y178.1.p.Unit), (.slice u.1.1 (y178.1.p.Tools).length u.1.2), (.slice u.2.1.1 (y178.1.p.Steps).length u.2.1.2), (.slice u.2.2.1.1 (y178.1.tools).length u.2.2.1.2), (.slice u.2.2.2.1.1 (y178.1.image).length u.2.2.2.1.2), (.bool y178.1.clear), (iv y178.1.tool), (iv y178.1.place.X), (iv y178.1.place.Y), (.bool y178.1.placed), (iv y178.1.off), (iv y178.1.on)] 77]) rfl (zK rfl (zK rfl (zK rfl za))) (fun _ => rfl) (wn rfl) rfl Tryz.call32 (zF rfl zN) (fun W hW hp hE => F_plot_drawn_ok N (TPlot.mk p0.Unit p0.Tools y173) Ap0_0 cp0_0 (hp0_0.extO (hW.extS hp)) Ay173_0 cy173_0 (hz176.extO (hW.extS hp)) y178 hy178 hE) ?_
    intro w u le179 hu
    obtain ⟨⟨Ay178_0, cy178_0⟩, ⟨Ay178_1, cy178_1⟩, ⟨Ay178_2, cy178_2⟩, ⟨Ay178_3, cy178_3⟩, ⟨Ay178_4, cy178_4⟩⟩ := u
    obtain ⟨gy178_0, gy178_1, gy178_2, gy178_3, gy178_4⟩ := hu
    replace hp0_0 := hp0_0.le le179
    replace hp0_1 := hp0_1.le le179
    replace hcu164 := le179.ext.cells hRu164 hcu164
    replace hRu164 := le179.r _ hRu164
    replace hoku164_0 := hoku164_0.le le179
    replace hoku164_1 := hoku164_1.le le179
    replace hz171 := hz171.le le179
    replace hz176 := hz176.le le179
    replace leB := leB.trans le179
    replace leL1 := leL1.trans le179
    have hgy178_0 : Sl w.O w.W zh Ay178_0 cy178_0 y178.1.p.Tools := gy178_0 --@phi
    have hgy178_1 : Sl w.O w.W zG Ay178_1 cy178_1 y178.1.p.Steps := gy178_1 --@phi
    have hgy178_2 : SlF Ay178_2 (y178.1.tools).length cy178_2 := gy178_2 --@phi
    have hgy178_3 : SlF Ay178_3 (y178.1.image).length cy178_3 := gy178_3 --@phi
    have hgy178_4 : True := gy178_4 --@phi
    show Tr _ _ (uf _ 49 (.tuple #[(.pointer (some ⟨cy178_4, 0, none⟩)), (iv y178.2)])) (up (up (up _ 32 (bx cy178_4 #[(iv y178.1.p.Unit), (.slice Ay178_0 (y178.1.p.Tools).length cy178_0), (.slice Ay178_1 (y178.1.p.Steps).length cy178_1), (.slice Ay178_2 (y178.1.tools).length cy178_2), (.slice Ay178_3 (y178.1.image).length cy178_3), (.bool y178.1.clear), (iv y178.1.tool), (iv y178.1.place.X), (iv y178.1.place.Y), (.bool y178.1.placed), (iv y178.1.off), (iv y178.1.on)] 77)) 31 (ow Ay178_3 cy178_3 107 zH y178.1.image)) 30 (ow Ay178_2 cy178_2 66 zAA y178.1.tools)) _
    refine Tr.mv rfl rfl ?_
    refine Tr.va rfl (fun _ _ h1 h2 => run_extract (h1.ev rfl) rfl) ?_
    refine Tr.va rfl (fun _ _ h1 h2 => run_extract (h1.ev rfl) rfl) ?_
    refine Tr.asg rfl rfl ?_
    refine Tr.asg rfl rfl ?_
    refine Tr.nil (Tr.zA ?_)
    refine Tr.sr ?_
    refine Tr.mv rfl rfl ?_
    refine Tr.va rfl (fun _ _ h1 h2 => run_eql (h1.ev rfl) (h1.ev rfl)) ?_
    refine Tr.mv rfl rfl ?_
    obtain ⟨g183, hg183, H⟩ := bnd H
    refine Tr.mid0 8 [(1, (.pointer (some ⟨b100, 0, none⟩))), (4, (.slice Ay101_0 (y101.1).length cy101_0)), (6, (.slice Al163 (l163).length cl163)), (7, (iv (iL1 : Int))), (21, (.slice Ap0_1 (p0.Steps).length cp0_1)), (22, (iv (p0.Steps.length : Int))), (23, (iv (iL1 : Int))), (62, (.bool g183))] [(1, bx b100 #[(iv p0.Unit), (.slice Ap0_0 (p0.Tools).length cp0_0), (.slice Ap0_1 (p0.Steps).length cp0_1)] 25), (3, ow Ay101_0 cy101_0 36 zM y101.1), (5, ow Al163 cl163 3 zX l163), (26, bx b165 #[(iv xL1.Kind), (sv xL1.Name), (iv xL1.At.X), (iv xL1.At.Y), (.slice Au164_0 (xL1.Points).length cu164_0), (iv xL1.NX), (iv xL1.NY), (.slice Au164_1 (xL1.Steps).length cu164_1)] 46), (29, bx b175 #[(iv p0.Unit), (.slice Ap0_0 (p0.Tools).length cp0_0), (.slice Ay173_0 (y173).length cy173_0)] 25), (30, ow Ay178_2 cy178_2 66 zAA y178.1.tools), (31, ow Ay178_3 cy178_3 107 zH y178.1.image), (32, bx cy178_4 #[(iv y178.1.p.Unit), (.slice Ay178_0 (y178.1.p.Tools).length cy178_0), (.slice Ay178_1 (y178.1.p.Steps).length cy178_1), (.slice Ay178_2 (y178.1.tools).length cy178_2), (.slice Ay178_3 (y178.1.image).length cy178_3), (.bool y178.1.clear), (iv y178.1.tool), (iv y178.1.place.X), (iv y178.1.place.Y), (.bool y178.1.placed), (iv y178.1.off), (iv y178.1.on)] 77)] ?_ ?_
    ·cases hg188 : (y178.2 == 0)
     ·rw [hg188] at hg183
      rw [if_neg (by decide)] at hg183
      have H := hg183
      obtain rfl := Option.some.inj H
      refine Tr.pass rfl rfl rfl rfl rfl (by decide) ?_
      refine Tr.pass rfl rfl rfl rfl rfl (by decide) ?_
      refine Tr.pass rfl rfl rfl rfl rfl (by decide) ?_
      refine Tr.pass rfl rfl rfl rfl rfl (by decide) ?_
      refine Tr.pass rfl rfl rfl rfl rfl (by decide) ?_
      refine Tr.pass rfl rfl rfl rfl rfl (by decide) ?_
      refine Tr.pass rfl rfl rfl rfl rfl (by decide) ?_
      refine Tr.va rfl (fun _ _ h1 h2 => ze (h1.ev rfl) (h1.ev rfl)) ?_
      exact Tr.nil (Tr.fin0 (.cons rfl (.cons rfl (.cons rfl (.cons rfl (.cons rfl (.cons rfl (.cons rfl (.cons rfl .nil)))))))) (.cons rfl (.cons rfl (.cons rfl (.cons rfl (.cons rfl (.cons rfl (.cons rfl (.cons rfl .nil)))))))))
     ·rw [hg188] at hg183
      rw [if_pos rfl] at hg183
      have H := hg183
      refine Tr.val (wg rfl rfl rfl) rfl (fun _ _ h1 h2 => run_move (h1.ev rfl)) ?_
      refine Tr.val (wg rfl rfl rfl) rfl (fun _ _ h1 h2 => zg (h1.ev rfl)) ?_
      refine Tr.val (wg rfl rfl rfl) rfl (fun _ _ h1 h2 => zB fo_77_2 (h1.ev rfl)) ?_
      refine Tr.val (wg rfl rfl rfl) rfl (fun _ _ h1 h2 => zC ag_66 (h1.ev rfl) (rdb h2 (vs := [(iv y178.1.p.Unit), (.slice Ay178_0 (y178.1.p.Tools).length cy178_0), (.slice Ay178_1 (y178.1.p.Steps).length cy178_1), (.slice Ay178_2 (y178.1.tools).length cy178_2), (.slice Ay178_3 (y178.1.image).length cy178_3), (.bool y178.1.clear), (iv y178.1.tool), (iv y178.1.place.X), (iv y178.1.place.Y), (.bool y178.1.placed), (iv y178.1.off), (iv y178.1.on)]) (k := 32) rfl 4) rfl) ?_
      obtain ⟨y184, hy184, H⟩ := bnd H
      refine Tr.callM [34] [emp] (U := (Option Addr × Nat)) (fun u => (.slice u.1 (y184).length u.2)) (fun u => SlF u.1 (y184).length u.2) (fun u => [ow u.1 u.2 36 zM y184]) rfl (zK rfl za) (fun _ => rfl) (wg rfl rfl rfl) rfl Tryz.call29 (zF rfl zN) (fun W hW hp hE => F_shape_Set__Rects_ok N y178.1.image Ay178_3 cy178_3 (hW.slS (k := 31) rfl hp rfl) y184 hy184 hE) ?_
      intro u hu
      obtain ⟨Ay184_0, cy184_0⟩ := u
      have gy184_0 := hu
      have hgy184_0 : SlF Ay184_0 (y184).length cy184_0 := gy184_0 --@phi
      show Tr _ _ (uf _ 59 (.slice Ay184_0 (y184).length cy184_0)) (up _ 34 (ow Ay184_0 cy184_0 36 zM y184)) _
      refine Tr.val (wg rfl rfl rfl) rfl (fun _ _ h1 h2 => run_move (h1.ev rfl)) ?_
      obtain ⟨y186, hy186, H⟩ := bnd H
      refine Tr.call0 (r := (.bool y186)) (wg rfl rfl rfl) rfl Tryz.call11 (zF rfl (zF rfl zN)) (fun W hW => F_slices_Equal_Rect_ok y184 Ay184_0 cy184_0 (hW.slCall (k := 34) rfl) y101.1 Ay101_0 cy101_0 (hW.slCall (k := 3) rfl) y186 hy186 (HF.start _)) ?_
      refine Tr.va rfl (fun _ _ h1 h2 => zb (h1.ev rfl) (h1.ev rfl)) ?_
      obtain rfl := Option.some.inj H
      exact Tr.nil (Tr.fin0 (.cons rfl (.cons rfl (.cons rfl (.cons rfl (.cons rfl (.cons rfl (.cons rfl (.cons rfl .nil)))))))) (.cons rfl (.cons rfl (.cons rfl (.cons rfl (.cons rfl (.cons rfl (.cons rfl (.cons rfl .nil)))))))))
    ·show Tr _ _ (LF [(1, (.pointer (some ⟨b100, 0, none⟩))), (4, (.slice Ay101_0 (y101.1).length cy101_0)), (6, (.slice Al163 (l163).length cl163)), (7, (iv (iL1 : Int))), (21, (.slice Ap0_1 (p0.Steps).length cp0_1)), (22, (iv (p0.Steps.length : Int))), (23, (iv (iL1 : Int))), (62, (.bool g183))]) (LE [(1, bx b100 #[(iv p0.Unit), (.slice Ap0_0 (p0.Tools).length cp0_0), (.slice Ap0_1 (p0.Steps).length cp0_1)] 25), (3, ow Ay101_0 cy101_0 36 zM y101.1), (5, ow Al163 cl163 3 zX l163), (26, bx b165 #[(iv xL1.Kind), (sv xL1.Name), (iv xL1.At.X), (iv xL1.At.Y), (.slice Au164_0 (xL1.Points).length cu164_0), (iv xL1.NX), (iv xL1.NY), (.slice Au164_1 (xL1.Steps).length cu164_1)] 46), (29, bx b175 #[(iv p0.Unit), (.slice Ap0_0 (p0.Tools).length cp0_0), (.slice Ay173_0 (y173).length cy173_0)] 25), (30, ow Ay178_2 cy178_2 66 zAA y178.1.tools), (31, ow Ay178_3 cy178_3 107 zH y178.1.image), (32, bx cy178_4 #[(iv y178.1.p.Unit), (.slice Ay178_0 (y178.1.p.Tools).length cy178_0), (.slice Ay178_1 (y178.1.p.Steps).length cy178_1), (.slice Ay178_2 (y178.1.tools).length cy178_2), (.slice Ay178_3 (y178.1.image).length cy178_3), (.bool y178.1.clear), (iv y178.1.tool), (iv y178.1.place.X), (iv y178.1.place.Y), (.bool y178.1.placed), (iv y178.1.off), (iv y178.1.on)] 77)]) _
     refine Tr.nil (Tr.zA ?_)
     refine Tr.cond rfl H (fun H => ?_) (fun H => ?_)
     ·refine Tr.region ?_
      refine Tr.mv rfl rfl ?_
      refine Tr.mv rfl rfl ?_
      refine Tr.buildSlice 35 (e := 3) (vs := [(0, (iv (iL1 : Int)))]) (cs := [(iv (iL1 : Int))]) (wn rfl) rfl (zY rfl evs_nil) (by kernel_rfl) fun b187 => ?_
      obtain ⟨l188, hl188, H⟩ := bnd H
      refine Tr.append 5 (t := zX) (l := l163) (l2 := [(iL1 : Int)]) (wn rfl) rfl rfl rfl rfl (fun W hW => ⟨[[(iv (iL1 : Int))]], (.cons ⟨(), trivial, rfl⟩ .nil), rdb hW (vs := [(iv (iL1 : Int))]) (k := 35) rfl 0⟩) un_38 sz_3 zl_3 (by decide) by_3 rfl hl188 fun Al188 cl188 hAl188 => ?_
      refine Tr.asg rfl rfl ?_
      refine Tr.nil (Tr.zT (Tr.zA ?_))
      refine Tr.region ?_
      refine Tr.va rfl (fun _ _ h1 h2 => zm (h1.ev rfl) (h1.ev rfl)) ?_
      refine Tr.mv rfl rfl ?_
      refine Tr.nil ?_
      exact Tr.zW leL1 (restL1, (iL1 + 1), l188, Al188, cl188) ⟨rfl, zAI hdL1, zf hdL1, H, hAl188⟩ (.cons rfl (.cons rfl (.cons rfl (.cons rfl (.cons rfl (.cons (congrArg (fun z => some (Value.int .i64 z)) (zAH hdL1 hp0_1.form)) .nil)))))) (.cons rfl (.cons rfl (.cons rfl .nil)))
     ·refine Tr.skip (Tr.zT (Tr.zA ?_))
      refine Tr.region ?_
      refine Tr.va rfl (fun _ _ h1 h2 => zm (h1.ev rfl) (h1.ev rfl)) ?_
      refine Tr.mv rfl rfl ?_
      refine Tr.nil ?_
      exact Tr.zW leL1 (restL1, (iL1 + 1), l163, Al163, cl163) ⟨rfl, zAI hdL1, zf hdL1, H, hl163⟩ (.cons rfl (.cons rfl (.cons rfl (.cons rfl (.cons rfl (.cons (congrArg (fun z => some (Value.int .i64 z)) (zAH hdL1 hp0_1.form)) .nil)))))) (.cons rfl (.cons rfl (.cons rfl .nil)))

theorem F_strconv_Itoa_ok {w : Bs} (p0 : Int) (r : ByteArray) (H : itoaS p0 = some r) (hE : HF w w.W E0) : Calls Tryz.prog 46 [(iv p0)].toArray w.W fun e W' => e = .returned (sv r) ∧ HF w W' E0 :=
 itoaS_rule (ρ := Tryz.itoa46_ren) Tryz.itoa46 H hE

end Go.Proofs.YtoageaoknnnfbaaGreatDoor
namespace Go.Proofs
open Go.Shelf
def Tryz.bld45_ren : Go.Shelf.Ren := ⟨fun | 166 => 45 | 240 => 75 | 276 => 101 | n => n, fun | 5 => 5 | 37 => 93 | 70 => 92 | 72 => 95 | 75 => 97 | 80 => 104 | 164 => 157 | n => n, fun n => n⟩
theorem Tryz.bld45 : Go.Proofs.Lays.n166 Tryz.prog Tryz.bld45_ren := {
 mixed := by kernel_rfl
 f166 := Tryz.func45.trans (congrArg some (by kernel_rfl))
 f240 := Tryz.func75.trans (congrArg some (by kernel_rfl))
 f276 := Tryz.func101.trans (congrArg some (by kernel_rfl))
 t0 := Tryz.underlying0
 a0 := Tryz.isAgg0
 z0 := Tryz.sizeOf0
 v0 := Tryz.zeroValue0
 t3 := Tryz.underlying3
 a3 := Tryz.isAgg3
 z3 := Tryz.sizeOf3
 v3 := Tryz.zeroValue3
 t4 := Tryz.underlying4
 a4 := Tryz.isAgg4
 z4 := Tryz.sizeOf4
 v4 := Tryz.zeroValue4
 t9 := Tryz.underlying9
 a9 := Tryz.isAgg9
 z9 := Tryz.sizeOf9
 v9 := Tryz.zeroValue9
 t20 := Tryz.underlying20
 a20 := Tryz.isAgg20
 z20 := Tryz.sizeOf20
 v20 := Tryz.zeroValue20
 t37 := Tryz.underlying93
 a37 := Tryz.isAgg93
 z37 := Tryz.sizeOf93
 v37 := Tryz.zeroValue93
 t70 := Tryz.underlying92
 a70 := Tryz.isAgg92
 z70 := Tryz.sizeOf92
 v70 := Tryz.zeroValue92
 t72 := Tryz.underlying95
 a72 := Tryz.isAgg95
 z72 := Tryz.sizeOf95
 v72 := Tryz.zeroValue95
 t75 := Tryz.underlying97
 a75 := Tryz.isAgg97
 z75 := Tryz.sizeOf97
 v75 := Tryz.zeroValue97
 t164 := Tryz.underlying157
 a164 := Tryz.isAgg157
 z164 := Tryz.sizeOf157
 v164 := Tryz.zeroValue157
}
end Go.Proofs
namespace Go.Proofs.YtoageaoknnnfbaaGreatDoor
open Go.RowKit
theorem bX45 : Builder.Extra Tryz.prog Tryz.bld45_ren where
 sizeBuilder := by kernel_rfl
 liesBuilder := by kernel_rfl
 t5 := Tryz.underlying5
 a5 := Tryz.isAgg5
 z5 := Tryz.sizeOf5
 v5 := Tryz.zeroValue5
 infoByte := by kernel_rfl
 cellsByte := by kernel_rfl
 sizeByte := by kernel_rfl
 neB5 := by decide
theorem zZ {w : Bs} (p0 : ByteArray) (Ap0_0 : Option Addr) (cp0_0 : Nat) (bp0 : Nat) (p1 : ByteArray) (r : ByteArray) (H : sbW p0 p1 = some r) (hE : HF w w.W (LEn [sb 95 5 bp0 Ap0_0 cp0_0 p0])) : Calls Tryz.prog 45 [(.pointer (some ⟨bp0, 0, none⟩)), .string p1].toArray w.W fun e W' => ∃ u : (Option Addr × Nat), e = .returned (.tuple #[.int .i64 p1.size, .nilIface]) ∧ (True) ∧ HF w W' (LEn [sb 95 5 bp0 u.1 u.2 r]) :=
 sb_write (ρ := Tryz.bld45_ren) Tryz.bld45 bX45 H hE

theorem F_plot_points_ok {w : Bs} (p0 : (List zJ)) (Ap0_0 : Option Addr) (cp0_0 : Nat) (hp0_0 : Sl w.R w.W zAK Ap0_0 cp0_0 p0) (r : ByteArray) (H : F_plot_points p0 = some r) (hE : HF w w.W E0) : Calls Tryz.prog 47 [(.slice Ap0_0 (p0).length cp0_0)].toArray w.W fun e W' => e = .returned (sv r) ∧ HF w W' E0 := by
 unfold F_plot_points at H
 have leB := Bs.Le.refl w
 refine Tr.enter (n := 25) Tryz.func47 rfl rfl rfl hE ?_
 refine Tr.sr ?_
 refine Tr.asg rfl rfl ?_
 refine Tr.nil (Tr.zA ?_)
 refine Tr.sr ?_
 refine Tr.asg rfl rfl ?_
 refine Tr.nil (Tr.zA ?_)
 refine Tr.seq ?_
 refine Tr.sr ?_
 refine Tr.mv rfl rfl ?_
 refine Tr.va rfl (fun _ _ h1 h2 => zl un_44 (h1.ev rfl)) ?_
 refine Tr.mv rfl rfl ?_
 refine Tr.nil (Tr.zA ?_)
 refine Tr.block ?_
 refine Tr.loop (σ := (List zJ) × Nat × ByteArray) (fun m w s => m = s.1.length + 1 ∧ s.1 = List.drop s.2.1 p0 ∧ s.2.1 ≤ p0.length ∧ F_plot_points_L1 s.1 s.2.1 s.2.2 = some r) (fun s => [(3, (sv s.2.2)), (6, (.slice Ap0_0 (p0).length cp0_0)), (7, (iv (p0.length : Int))), (8, (iv (s.2.1 : Int)))]) (fun s => []) (p0.length + 1) (p0, 0, ByteArray.empty) ⟨rfl, rfl, Nat.zero_le _, H⟩ (.cons rfl (.cons rfl (.cons rfl (.cons rfl .nil)))) .nil (fun _ _ h => absurd h.1 (by simp)) ?_
 intro w leL1 m s hs
 obtain ⟨restL1, iL1, x122⟩ := s
 obtain ⟨hmL1, hdL1, hiL1, H⟩ := hs
 replace hdL1 : restL1 = List.drop iL1 p0 := hdL1
 replace H : F_plot_points_L1 restL1 iL1 x122 = some r := H
 replace hmL1 : m + 1 = restL1.length + 1 := hmL1
 replace hp0_0 := hp0_0.leR leL1
 replace leB := leB.trans leL1
 obtain rfl : m = restL1.length := by omega
 clear hmL1
 show Tr _ _ (LF [(3, (sv x122)), (6, (.slice Ap0_0 (p0).length cp0_0)), (7, (iv (p0.length : Int))), (8, (iv (iL1 : Int)))]) (LE []) _
 cases restL1 with
 | nil =>
  rw [F_plot_points_L1.eq_1] at H
  refine Tr.sr ?_
  refine Tr.va rfl (fun _ _ h1 h2 => zn (h1.ev rfl) (h1.ev rfl)) ?_
  refine Tr.nil (Tr.zA ?_)
  refine Tr.seq ?_
  refine Tr.condF rfl (range_nil hdL1) ?_
  refine Tr.exit (Tr.zV (Tr.zV (Tr.zw (Tr.zA ?_))))
  refine Tr.sr ?_
  refine Tr.mv rfl rfl ?_
  refine Tr.asg rfl rfl ?_
  refine Tr.nil (Tr.zA ?_)
  refine Tr.ret ?_
  obtain rfl := Option.some.inj H
  exact Tr.out (m := [(sv x122)]) [] (zL rfl zP) (fun W hW => ⟨rfl, hW.low leB⟩)
 | cons xL1 restL1 =>
  rw [F_plot_points_L1.eq_2] at H
  refine Tr.sr ?_
  refine Tr.va rfl (fun _ _ h1 h2 => zn (h1.ev rfl) (h1.ev rfl)) ?_
  refine Tr.nil (Tr.zA ?_)
  refine Tr.seq ?_
  refine Tr.condT rfl (range_on hdL1) ?_
  refine Tr.skip (Tr.zA ?_)
  refine Tr.seq ?_
  refine Tr.block ?_
  refine Tr.sr ?_
  refine Tr.va rfl (fun _ _ h1 h2 => zI el_44 (h1.ev rfl) hp0_0.form (h1.ev rfl) (Int.natCast_nonneg _) (zf hdL1)) ?_
  refine Tr.va rfl (fun _ _ h1 h2 => zQ (cs := [(iv xL1.X), (iv xL1.Y)]) ag_43 sz_43 (h1.ev rfl) (zO.take (rdF ef_TPoint hp0_0 (range_at hdL1) h2) 2) rfl) ?_
  refine Tr.alloc 3 (wn rfl) rfl ze_43 fun b123 => ?_
  refine Tr.store 3 (cs := [(iv xL1.X), (iv xL1.Y)]) [(iv xL1.X), (iv xL1.Y)] (wn rfl) rfl rfl rfl rfl sz_43 rfl rfl rfl ?_
  refine Tr.nil (Tr.zA ?_)
  refine Tr.draw (by kernel_rfl) (by kernel_rfl) ?_
  refine Tq.mv rfl rfl ?_
  refine Tq.va rfl (fun _ _ h1 h2 => zB fo_43_0 (h1.ev rfl)) ?_
  refine Tq.va rfl (fun _ _ h1 h2 => zC ag_3 (h1.ev rfl) (rdb h2 (vs := [(iv xL1.X), (iv xL1.Y)]) (k := 3) rfl 0) rfl) ?_
  obtain ⟨y124, hy124, H⟩ := bnd H
  refine Tq.call0 (r := (sv y124)) (wn rfl) rfl Tryz.call46 (zF rfl zN) (fun W hW => F_strconv_Itoa_ok xL1.X y124 hy124 (HF.start _)) ?_
  obtain ⟨t125, ht125, H⟩ := bnd H
  refine Tq.va rfl (fun _ _ h1 h2 => run_catS (h1.ev rfl) (h1.ev rfl) ht125) ?_
  obtain ⟨t126, ht126, H⟩ := bnd H
  refine Tq.va rfl (fun _ _ h1 h2 => run_catS (h1.ev rfl) (h1.ev rfl) ht126) ?_
  refine Tq.va rfl (fun _ _ h1 h2 => zB fo_43_1 (h1.ev rfl)) ?_
  refine Tq.va rfl (fun _ _ h1 h2 => zC ag_3 (h1.ev rfl) (rdb h2 (vs := [(iv xL1.X), (iv xL1.Y)]) (k := 3) rfl 1) rfl) ?_
  obtain ⟨y127, hy127, H⟩ := bnd H
  refine Tq.call0 (r := (sv y127)) (wn rfl) rfl Tryz.call46 (zF rfl zN) (fun W hW => F_strconv_Itoa_ok xL1.Y y127 hy127 (HF.start _)) ?_
  obtain ⟨t128, ht128, H⟩ := bnd H
  refine Tq.va rfl (fun _ _ h1 h2 => run_catS (h1.ev rfl) (h1.ev rfl) ht128) ?_
  obtain ⟨t129, ht129, H⟩ := bnd H
  refine Tq.va rfl (fun _ _ h1 h2 => run_catS (h1.ev rfl) (h1.ev rfl) ht129) ?_
  refine Tq.asg rfl rfl ?_
  refine Tq.nil (Tr.zT (Tr.zA ?_))
  refine Tr.region ?_
  refine Tr.va rfl (fun _ _ h1 h2 => zm (h1.ev rfl) (h1.ev rfl)) ?_
  refine Tr.mv rfl rfl ?_
  refine Tr.nil ?_
  exact Tr.zW leL1 (restL1, (iL1 + 1), t129) ⟨rfl, zAI hdL1, zf hdL1, H⟩ (.cons rfl (.cons rfl (.cons rfl (.cons (congrArg (fun z => some (Value.int .i64 z)) (zAH hdL1 hp0_0.form)) .nil)))) .nil

theorem F_plot_writeSteps_b_ok (N : Nat) (rec : ByteArray → (List zD) → Option ByteArray) (hrec : ∀ {w : Bs} (p0 : ByteArray) (Ap0_0 : Option Addr) (cp0_0 : Nat) (bp0 : Nat) (p1 : (List zD)) (Ap1_0 : Option Addr) (cp1_0 : Nat) (hp1_0 : Sl w.R w.W zG Ap1_0 cp1_0 p1) (r : ByteArray) (H : rec p0 p1 = some r) (hE : HF w w.W (LEn [sb 95 5 bp0 Ap0_0 cp0_0 p0])), Calls Tryz.prog 48 [(.pointer (some ⟨bp0, 0, none⟩)), (.slice Ap1_0 (p1).length cp1_0)].toArray w.W fun e W' => ∃ u : (Option Addr × Nat), e = .returned (.tuple #[]) ∧ (True) ∧ HF w W' (LEn [sb 95 5 bp0 u.1 u.2 r])) {w : Bs} (p0 : ByteArray) (Ap0_0 : Option Addr) (cp0_0 : Nat) (bp0 : Nat) (p1 : (List zD)) (Ap1_0 : Option Addr) (cp1_0 : Nat) (hp1_0 : Sl w.R w.W zG Ap1_0 cp1_0 p1) (r : ByteArray) (H : F_plot_writeSteps_b N rec p0 p1 = some r) (hE : HF w w.W (LEn [sb 95 5 bp0 Ap0_0 cp0_0 p0])) : Calls Tryz.prog 48 [(.pointer (some ⟨bp0, 0, none⟩)), (.slice Ap1_0 (p1).length cp1_0)].toArray w.W fun e W' => ∃ u : (Option Addr × Nat), e = .returned (.tuple #[]) ∧ (True) ∧ HF w W' (LEn [sb 95 5 bp0 u.1 u.2 r]) := by
 unfold F_plot_writeSteps_b at H
 have leB := Bs.Le.refl w
 refine Tr.enter (n := 91) Tryz.func48 rfl rfl rfl hE ?_
 refine Tr.sr ?_
 refine Tr.mv rfl rfl ?_
 refine Tr.va rfl (fun _ _ h1 h2 => zl un_23 (h1.ev rfl)) ?_
 refine Tr.mv rfl rfl ?_
 refine Tr.nil (Tr.zA ?_)
 refine Tr.block ?_
 refine Tr.loop (σ := (List zD) × Nat × ByteArray × (Option Addr) × Nat) (fun m w s => m = s.1.length + 1 ∧ s.1 = List.drop s.2.1 p1 ∧ s.2.1 ≤ p1.length ∧ zy rec s.1 s.2.1 s.2.2.1 = some r) (fun s => [(0, (.pointer (some ⟨bp0, 0, none⟩))), (6, (.slice Ap1_0 (p1).length cp1_0)), (7, (iv (p1.length : Int))), (8, (iv (s.2.1 : Int)))]) (fun s => [(0, sb 95 5 bp0 s.2.2.2.1 s.2.2.2.2 s.2.2.1)]) (p1.length + 1) (p1, 0, p0, Ap0_0, cp0_0) ⟨rfl, rfl, Nat.zero_le _, H⟩ (.cons rfl (.cons rfl (.cons rfl (.cons rfl .nil)))) (.cons rfl .nil) (fun _ _ h => absurd h.1 (by simp)) ?_
 intro w leL1 m s hs
 obtain ⟨restL1, iL1, m194, Am194, cm194⟩ := s
 obtain ⟨hmL1, hdL1, hiL1, H⟩ := hs
 replace hdL1 : restL1 = List.drop iL1 p1 := hdL1
 replace H : zy rec restL1 iL1 m194 = some r := H
 replace hmL1 : m + 1 = restL1.length + 1 := hmL1
 replace hp1_0 := hp1_0.leR leL1
 replace leB := leB.trans leL1
 obtain rfl : m = restL1.length := by omega
 clear hmL1
 show Tr _ _ (LF [(0, (.pointer (some ⟨bp0, 0, none⟩))), (6, (.slice Ap1_0 (p1).length cp1_0)), (7, (iv (p1.length : Int))), (8, (iv (iL1 : Int)))]) (LE [(0, sb 95 5 bp0 Am194 cm194 m194)]) _
 cases restL1 with
 | nil =>
  rw [zy.eq_1] at H
  refine Tr.sr ?_
  refine Tr.va rfl (fun _ _ h1 h2 => zn (h1.ev rfl) (h1.ev rfl)) ?_
  refine Tr.nil (Tr.zA ?_)
  refine Tr.seq ?_
  refine Tr.condF rfl (range_nil hdL1) ?_
  refine Tr.exit (Tr.zV (Tr.zV (Tr.zw (Tr.offEnd ?_))))
  obtain rfl := Option.some.inj H
  exact Tr.out (m := []) [] zP (fun W hW => ⟨(Am194, cm194), rfl, trivial, HF.lowE leB (hW.pick (ks := [0]) (by decide) (zK rfl za)) ⟨sb_any, trivial⟩⟩)
 | cons xL1 restL1 =>
  rw [zy.eq_2] at H
  refine Tr.sr ?_
  refine Tr.va rfl (fun _ _ h1 h2 => zn (h1.ev rfl) (h1.ev rfl)) ?_
  refine Tr.nil (Tr.zA ?_)
  refine Tr.seq ?_
  refine Tr.condT rfl (range_on hdL1) ?_
  refine Tr.skip (Tr.zA ?_)
  refine Tr.seq ?_
  refine Tr.block ?_
  refine Tr.sr ?_
  obtain ⟨u195, hRu195, hoku195, hcu195⟩ := (hp1_0).el (range_at hdL1)
  obtain ⟨⟨Au195_0, cu195_0⟩, ⟨Au195_1, cu195_1⟩⟩ := u195
  obtain ⟨hoku195_0, hoku195_1⟩ := TPlotStep_ok.1 hoku195
  replace hoku195_0 : Sl w.R w.W zAK Au195_0 cu195_0 xL1.Points := hoku195_0
  replace hoku195_1 : Sl w.R w.W zG Au195_1 cu195_1 xL1.Steps := hoku195_1
  refine Tr.va rfl (fun _ _ h1 h2 => zI el_23 (h1.ev rfl) hp1_0.form (h1.ev rfl) (Int.natCast_nonneg _) (zf hdL1)) ?_
  refine Tr.va rfl (fun _ _ h1 h2 => zQ (cs := [(iv xL1.Kind), (sv xL1.Name), (iv xL1.At.X), (iv xL1.At.Y), (.slice Au195_0 (xL1.Points).length cu195_0), (iv xL1.NX), (iv xL1.NY), (.slice Au195_1 (xL1.Steps).length cu195_1)]) ag_46 sz_46 (h1.ev rfl) (zO.take (rdR hRu195 hcu195 h2) 8) rfl) ?_
  refine Tr.alloc 11 (wn rfl) rfl ze_46 fun b196 => ?_
  refine Tr.store 11 (cs := [(iv xL1.Kind), (sv xL1.Name), (iv xL1.At.X), (iv xL1.At.Y), (.slice Au195_0 (xL1.Points).length cu195_0), (iv xL1.NX), (iv xL1.NY), (.slice Au195_1 (xL1.Steps).length cu195_1)]) [(iv xL1.Kind), (sv xL1.Name), (iv xL1.At.X), (iv xL1.At.Y), (.slice Au195_0 (xL1.Points).length cu195_0), (iv xL1.NX), (iv xL1.NY), (.slice Au195_1 (xL1.Steps).length cu195_1)] (wn rfl) rfl rfl rfl rfl sz_46 rfl rfl rfl ?_
  refine Tr.nil (Tr.zA ?_)
  refine Tr.sr ?_
  refine Tr.va rfl (fun _ _ h1 h2 => zB fo_46_0 (h1.ev rfl)) ?_
  refine Tr.va rfl (fun _ _ h1 h2 => zC ag_3 (h1.ev rfl) (rdb h2 (vs := [(iv xL1.Kind), (sv xL1.Name), (iv xL1.At.X), (iv xL1.At.Y), (.slice Au195_0 (xL1.Points).length cu195_0), (iv xL1.NX), (iv xL1.NY), (.slice Au195_1 (xL1.Steps).length cu195_1)]) (k := 11) rfl 0) rfl) ?_
  refine Tr.nil (Tr.zA ?_)
  refine Tr.block ?_
  refine Tr.sr ?_
  refine Tr.va rfl (fun _ _ h1 h2 => run_eql (h1.ev rfl) (h1.ev rfl)) ?_
  refine Tr.asg rfl rfl ?_
  refine Tr.nil (Tr.zA ?_)
  refine Tr.cond rfl H (fun H => ?_) (fun H => ?_)
  ·refine Tr.region ?_
   refine Tr.mv rfl rfl ?_
   obtain ⟨y197, hy197, H⟩ := bnd H
   refine Tr.callM [0] [sb 95 5 bp0 Am194 cm194 m194] (U := (Option Addr × Nat)) (fun u => (.tuple #[(iv (((⟨#[100, 97, 114, 107, 10]⟩) : ByteArray).size : Int)), .nilIface])) (fun u => True) (fun u => [sb 95 5 bp0 u.1 u.2 y197]) rfl (zK rfl za) (fun _ => rfl) (wn rfl) rfl Tryz.call45 (zF rfl (zF rfl zN)) (fun W hW hp hE => zZ m194 Am194 cm194 bp0 (⟨#[100, 97, 114, 107, 10]⟩) y197 hy197 hE) ?_
   intro u hu
   obtain ⟨Ay197_0, cy197_0⟩ := u
   have gy197_0 := hu
   have hgy197_0 : True := gy197_0 --@phi
   show Tr _ _ (uf _ 17 (.tuple #[(iv (((⟨#[100, 97, 114, 107, 10]⟩) : ByteArray).size : Int)), .nilIface])) (up _ 0 (sb 95 5 bp0 Ay197_0 cy197_0 y197)) _
   refine Tr.nil (Tr.zT (Tr.zT (Tr.zA ?_)))
   refine Tr.region ?_
   refine Tr.va rfl (fun _ _ h1 h2 => zm (h1.ev rfl) (h1.ev rfl)) ?_
   refine Tr.mv rfl rfl ?_
   refine Tr.nil ?_
   exact Tr.zW leL1 (restL1, (iL1 + 1), y197, Ay197_0, cy197_0) ⟨rfl, zAI hdL1, zf hdL1, H⟩ (.cons rfl (.cons rfl (.cons rfl (.cons (congrArg (fun z => some (Value.int .i64 z)) (zAH hdL1 hp1_0.form)) .nil)))) (.cons rfl .nil)
  ·refine Tr.sr ?_
   refine Tr.va rfl (fun _ _ h1 h2 => run_eql (h1.ev rfl) (h1.ev rfl)) ?_
   refine Tr.asg rfl rfl ?_
   refine Tr.nil (Tr.zA ?_)
   refine Tr.cond rfl H (fun H => ?_) (fun H => ?_)
   ·refine Tr.region ?_
    refine Tr.mv rfl rfl ?_
    obtain ⟨y199, hy199, H⟩ := bnd H
    refine Tr.callM [0] [sb 95 5 bp0 Am194 cm194 m194] (U := (Option Addr × Nat)) (fun u => (.tuple #[(iv (((⟨#[99, 108, 101, 97, 114, 10]⟩) : ByteArray).size : Int)), .nilIface])) (fun u => True) (fun u => [sb 95 5 bp0 u.1 u.2 y199]) rfl (zK rfl za) (fun _ => rfl) (wn rfl) rfl Tryz.call45 (zF rfl (zF rfl zN)) (fun W hW hp hE => zZ m194 Am194 cm194 bp0 (⟨#[99, 108, 101, 97, 114, 10]⟩) y199 hy199 hE) ?_
    intro u hu
    obtain ⟨Ay199_0, cy199_0⟩ := u
    have gy199_0 := hu
    have hgy199_0 : True := gy199_0 --@phi
    show Tr _ _ (uf _ 21 (.tuple #[(iv (((⟨#[99, 108, 101, 97, 114, 10]⟩) : ByteArray).size : Int)), .nilIface])) (up _ 0 (sb 95 5 bp0 Ay199_0 cy199_0 y199)) _
    refine Tr.nil (Tr.zT (Tr.zT (Tr.zA ?_)))
    refine Tr.region ?_
    refine Tr.va rfl (fun _ _ h1 h2 => zm (h1.ev rfl) (h1.ev rfl)) ?_
    refine Tr.mv rfl rfl ?_
    refine Tr.nil ?_
    exact Tr.zW leL1 (restL1, (iL1 + 1), y199, Ay199_0, cy199_0) ⟨rfl, zAI hdL1, zf hdL1, H⟩ (.cons rfl (.cons rfl (.cons rfl (.cons (congrArg (fun z => some (Value.int .i64 z)) (zAH hdL1 hp1_0.form)) .nil)))) (.cons rfl .nil)
   ·refine Tr.sr ?_
    refine Tr.va rfl (fun _ _ h1 h2 => run_eql (h1.ev rfl) (h1.ev rfl)) ?_
    refine Tr.asg rfl rfl ?_
    refine Tr.nil (Tr.zA ?_)
    refine Tr.cond rfl H (fun H => ?_) (fun H => ?_)
    ·refine Tr.region ?_
     refine Tr.mv rfl rfl ?_
     refine Tr.va rfl (fun _ _ h1 h2 => zB fo_46_1 (h1.ev rfl)) ?_
     refine Tr.va rfl (fun _ _ h1 h2 => zC ag_9 (h1.ev rfl) (rdb h2 (vs := [(iv xL1.Kind), (sv xL1.Name), (iv xL1.At.X), (iv xL1.At.Y), (.slice Au195_0 (xL1.Points).length cu195_0), (iv xL1.NX), (iv xL1.NY), (.slice Au195_1 (xL1.Steps).length cu195_1)]) (k := 11) rfl 1) rfl) ?_
     obtain ⟨t201, ht201, H⟩ := bnd H
     refine Tr.va rfl (fun _ _ h1 h2 => run_catS (h1.ev rfl) (h1.ev rfl) ht201) ?_
     obtain ⟨t202, ht202, H⟩ := bnd H
     refine Tr.va rfl (fun _ _ h1 h2 => run_catS (h1.ev rfl) (h1.ev rfl) ht202) ?_
     obtain ⟨y203, hy203, H⟩ := bnd H
     refine Tr.callM [0] [sb 95 5 bp0 Am194 cm194 m194] (U := (Option Addr × Nat)) (fun u => (.tuple #[(iv ((t202 : ByteArray).size : Int)), .nilIface])) (fun u => True) (fun u => [sb 95 5 bp0 u.1 u.2 y203]) rfl (zK rfl za) (fun _ => rfl) (wn rfl) rfl Tryz.call45 (zF rfl (zF rfl zN)) (fun W hW hp hE => zZ m194 Am194 cm194 bp0 t202 y203 hy203 hE) ?_
     intro u hu
     obtain ⟨Ay203_0, cy203_0⟩ := u
     have gy203_0 := hu
     have hgy203_0 : True := gy203_0 --@phi
     show Tr _ _ (uf _ 29 (.tuple #[(iv ((t202 : ByteArray).size : Int)), .nilIface])) (up _ 0 (sb 95 5 bp0 Ay203_0 cy203_0 y203)) _
     refine Tr.nil (Tr.zT (Tr.zT (Tr.zA ?_)))
     refine Tr.region ?_
     refine Tr.va rfl (fun _ _ h1 h2 => zm (h1.ev rfl) (h1.ev rfl)) ?_
     refine Tr.mv rfl rfl ?_
     refine Tr.nil ?_
     exact Tr.zW leL1 (restL1, (iL1 + 1), y203, Ay203_0, cy203_0) ⟨rfl, zAI hdL1, zf hdL1, H⟩ (.cons rfl (.cons rfl (.cons rfl (.cons (congrArg (fun z => some (Value.int .i64 z)) (zAH hdL1 hp1_0.form)) .nil)))) (.cons rfl .nil)
    ·refine Tr.sr ?_
     refine Tr.va rfl (fun _ _ h1 h2 => run_eql (h1.ev rfl) (h1.ev rfl)) ?_
     refine Tr.asg rfl rfl ?_
     refine Tr.nil (Tr.zA ?_)
     refine Tr.cond rfl H (fun H => ?_) (fun H => ?_)
     ·refine Tr.region ?_
      refine Tr.mv rfl rfl ?_
      refine Tr.va rfl (fun _ _ h1 h2 => zB fo_46_2 (h1.ev rfl)) ?_
      refine Tr.va rfl (fun _ _ h1 h2 => zQ (cs := [(iv xL1.At.X), (iv xL1.At.Y)]) ag_43 sz_43 (h1.ev rfl) (zO.take (rdb h2 (vs := [(iv xL1.Kind), (sv xL1.Name), (iv xL1.At.X), (iv xL1.At.Y), (.slice Au195_0 (xL1.Points).length cu195_0), (iv xL1.NX), (iv xL1.NY), (.slice Au195_1 (xL1.Steps).length cu195_1)]) (k := 11) rfl 2) 2) rfl) ?_
      refine Tr.buildSlice 12 (e := 43) (vs := [(0, (.agg #[(iv xL1.At.X), (iv xL1.At.Y)]))]) (cs := [(iv xL1.At.X), (iv xL1.At.Y)]) (wn rfl) rfl (zY rfl evs_nil) (by kernel_rfl) fun b205 => ?_
      refine Tr.own 12 zAK [xL1.At] (css := [[(iv xL1.At.X), (iv xL1.At.Y)]]) rfl (.cons ⟨(), trivial, rfl⟩ .nil) rfl (by decide) (lit_max rfl) ?_
      obtain ⟨y206, hy206, H⟩ := bnd H
      refine Tr.call0 (r := (sv y206)) (wn rfl) rfl Tryz.call47 (zF rfl zN) (fun W hW => F_plot_points_ok [xL1.At] (some ⟨b205, 0, none⟩) 1 (hW.slCall (k := 12) rfl) y206 hy206 (HF.start _)) ?_
      obtain ⟨t207, ht207, H⟩ := bnd H
      refine Tr.va rfl (fun _ _ h1 h2 => run_catS (h1.ev rfl) (h1.ev rfl) ht207) ?_
      obtain ⟨t208, ht208, H⟩ := bnd H
      refine Tr.va rfl (fun _ _ h1 h2 => run_catS (h1.ev rfl) (h1.ev rfl) ht208) ?_
      obtain ⟨y209, hy209, H⟩ := bnd H
      refine Tr.callM [0] [sb 95 5 bp0 Am194 cm194 m194] (U := (Option Addr × Nat)) (fun u => (.tuple #[(iv ((t208 : ByteArray).size : Int)), .nilIface])) (fun u => True) (fun u => [sb 95 5 bp0 u.1 u.2 y209]) rfl (zK rfl za) (fun _ => rfl) (wn rfl) rfl Tryz.call45 (zF rfl (zF rfl zN)) (fun W hW hp hE => zZ m194 Am194 cm194 bp0 t208 y209 hy209 hE) ?_
      intro u hu
      obtain ⟨Ay209_0, cy209_0⟩ := u
      have gy209_0 := hu
      have hgy209_0 : True := gy209_0 --@phi
      show Tr _ _ (uf _ 39 (.tuple #[(iv ((t208 : ByteArray).size : Int)), .nilIface])) (up _ 0 (sb 95 5 bp0 Ay209_0 cy209_0 y209)) _
      refine Tr.nil (Tr.zT (Tr.zT (Tr.zA ?_)))
      refine Tr.region ?_
      refine Tr.va rfl (fun _ _ h1 h2 => zm (h1.ev rfl) (h1.ev rfl)) ?_
      refine Tr.mv rfl rfl ?_
      refine Tr.nil ?_
      exact Tr.zW leL1 (restL1, (iL1 + 1), y209, Ay209_0, cy209_0) ⟨rfl, zAI hdL1, zf hdL1, H⟩ (.cons rfl (.cons rfl (.cons rfl (.cons (congrArg (fun z => some (Value.int .i64 z)) (zAH hdL1 hp1_0.form)) .nil)))) (.cons rfl .nil)
     ·refine Tr.sr ?_
      refine Tr.va rfl (fun _ _ h1 h2 => run_eql (h1.ev rfl) (h1.ev rfl)) ?_
      refine Tr.asg rfl rfl ?_
      refine Tr.nil (Tr.zA ?_)
      refine Tr.cond rfl H (fun H => ?_) (fun H => ?_)
      ·refine Tr.region ?_
       refine Tr.mv rfl rfl ?_
       refine Tr.va rfl (fun _ _ h1 h2 => zB fo_46_2 (h1.ev rfl)) ?_
       refine Tr.va rfl (fun _ _ h1 h2 => zQ (cs := [(iv xL1.At.X), (iv xL1.At.Y)]) ag_43 sz_43 (h1.ev rfl) (zO.take (rdb h2 (vs := [(iv xL1.Kind), (sv xL1.Name), (iv xL1.At.X), (iv xL1.At.Y), (.slice Au195_0 (xL1.Points).length cu195_0), (iv xL1.NX), (iv xL1.NY), (.slice Au195_1 (xL1.Steps).length cu195_1)]) (k := 11) rfl 2) 2) rfl) ?_
       refine Tr.buildSlice 13 (e := 43) (vs := [(0, (.agg #[(iv xL1.At.X), (iv xL1.At.Y)]))]) (cs := [(iv xL1.At.X), (iv xL1.At.Y)]) (wn rfl) rfl (zY rfl evs_nil) (by kernel_rfl) fun b211 => ?_
       refine Tr.own 13 zAK [xL1.At] (css := [[(iv xL1.At.X), (iv xL1.At.Y)]]) rfl (.cons ⟨(), trivial, rfl⟩ .nil) rfl (by decide) (lit_max rfl) ?_
       obtain ⟨y212, hy212, H⟩ := bnd H
       refine Tr.call0 (r := (sv y212)) (wn rfl) rfl Tryz.call47 (zF rfl zN) (fun W hW => F_plot_points_ok [xL1.At] (some ⟨b211, 0, none⟩) 1 (hW.slCall (k := 13) rfl) y212 hy212 (HF.start _)) ?_
       obtain ⟨t213, ht213, H⟩ := bnd H
       refine Tr.va rfl (fun _ _ h1 h2 => run_catS (h1.ev rfl) (h1.ev rfl) ht213) ?_
       obtain ⟨t214, ht214, H⟩ := bnd H
       refine Tr.va rfl (fun _ _ h1 h2 => run_catS (h1.ev rfl) (h1.ev rfl) ht214) ?_
       obtain ⟨y215, hy215, H⟩ := bnd H
       refine Tr.callM [0] [sb 95 5 bp0 Am194 cm194 m194] (U := (Option Addr × Nat)) (fun u => (.tuple #[(iv ((t214 : ByteArray).size : Int)), .nilIface])) (fun u => True) (fun u => [sb 95 5 bp0 u.1 u.2 y215]) rfl (zK rfl za) (fun _ => rfl) (wn rfl) rfl Tryz.call45 (zF rfl (zF rfl zN)) (fun W hW hp hE => zZ m194 Am194 cm194 bp0 t214 y215 hy215 hE) ?_
       intro u hu
       obtain ⟨Ay215_0, cy215_0⟩ := u
       have gy215_0 := hu
       have hgy215_0 : True := gy215_0 --@phi
       show Tr _ _ (uf _ 49 (.tuple #[(iv ((t214 : ByteArray).size : Int)), .nilIface])) (up _ 0 (sb 95 5 bp0 Ay215_0 cy215_0 y215)) _
       refine Tr.nil (Tr.zT (Tr.zT (Tr.zA ?_)))
       refine Tr.region ?_
       refine Tr.va rfl (fun _ _ h1 h2 => zm (h1.ev rfl) (h1.ev rfl)) ?_
       refine Tr.mv rfl rfl ?_
       refine Tr.nil ?_
       exact Tr.zW leL1 (restL1, (iL1 + 1), y215, Ay215_0, cy215_0) ⟨rfl, zAI hdL1, zf hdL1, H⟩ (.cons rfl (.cons rfl (.cons rfl (.cons (congrArg (fun z => some (Value.int .i64 z)) (zAH hdL1 hp1_0.form)) .nil)))) (.cons rfl .nil)
      ·refine Tr.sr ?_
       refine Tr.va rfl (fun _ _ h1 h2 => run_eql (h1.ev rfl) (h1.ev rfl)) ?_
       refine Tr.asg rfl rfl ?_
       refine Tr.nil (Tr.zA ?_)
       refine Tr.cond rfl H (fun H => ?_) (fun H => ?_)
       ·refine Tr.region ?_
        refine Tr.mv rfl rfl ?_
        refine Tr.va rfl (fun _ _ h1 h2 => zB fo_46_2 (h1.ev rfl)) ?_
        refine Tr.va rfl (fun _ _ h1 h2 => zQ (cs := [(iv xL1.At.X), (iv xL1.At.Y)]) ag_43 sz_43 (h1.ev rfl) (zO.take (rdb h2 (vs := [(iv xL1.Kind), (sv xL1.Name), (iv xL1.At.X), (iv xL1.At.Y), (.slice Au195_0 (xL1.Points).length cu195_0), (iv xL1.NX), (iv xL1.NY), (.slice Au195_1 (xL1.Steps).length cu195_1)]) (k := 11) rfl 2) 2) rfl) ?_
        refine Tr.buildSlice 14 (e := 43) (vs := [(0, (.agg #[(iv xL1.At.X), (iv xL1.At.Y)]))]) (cs := [(iv xL1.At.X), (iv xL1.At.Y)]) (wn rfl) rfl (zY rfl evs_nil) (by kernel_rfl) fun b217 => ?_
        refine Tr.own 14 zAK [xL1.At] (css := [[(iv xL1.At.X), (iv xL1.At.Y)]]) rfl (.cons ⟨(), trivial, rfl⟩ .nil) rfl (by decide) (lit_max rfl) ?_
        obtain ⟨y218, hy218, H⟩ := bnd H
        refine Tr.call0 (r := (sv y218)) (wn rfl) rfl Tryz.call47 (zF rfl zN) (fun W hW => F_plot_points_ok [xL1.At] (some ⟨b217, 0, none⟩) 1 (hW.slCall (k := 14) rfl) y218 hy218 (HF.start _)) ?_
        obtain ⟨t219, ht219, H⟩ := bnd H
        refine Tr.va rfl (fun _ _ h1 h2 => run_catS (h1.ev rfl) (h1.ev rfl) ht219) ?_
        obtain ⟨t220, ht220, H⟩ := bnd H
        refine Tr.va rfl (fun _ _ h1 h2 => run_catS (h1.ev rfl) (h1.ev rfl) ht220) ?_
        obtain ⟨y221, hy221, H⟩ := bnd H
        refine Tr.callM [0] [sb 95 5 bp0 Am194 cm194 m194] (U := (Option Addr × Nat)) (fun u => (.tuple #[(iv ((t220 : ByteArray).size : Int)), .nilIface])) (fun u => True) (fun u => [sb 95 5 bp0 u.1 u.2 y221]) rfl (zK rfl za) (fun _ => rfl) (wn rfl) rfl Tryz.call45 (zF rfl (zF rfl zN)) (fun W hW hp hE => zZ m194 Am194 cm194 bp0 t220 y221 hy221 hE) ?_
        intro u hu
        obtain ⟨Ay221_0, cy221_0⟩ := u
        have gy221_0 := hu
        have hgy221_0 : True := gy221_0 --@phi
        show Tr _ _ (uf _ 59 (.tuple #[(iv ((t220 : ByteArray).size : Int)), .nilIface])) (up _ 0 (sb 95 5 bp0 Ay221_0 cy221_0 y221)) _
        refine Tr.nil (Tr.zT (Tr.zT (Tr.zA ?_)))
        refine Tr.region ?_
        refine Tr.va rfl (fun _ _ h1 h2 => zm (h1.ev rfl) (h1.ev rfl)) ?_
        refine Tr.mv rfl rfl ?_
        refine Tr.nil ?_
        exact Tr.zW leL1 (restL1, (iL1 + 1), y221, Ay221_0, cy221_0) ⟨rfl, zAI hdL1, zf hdL1, H⟩ (.cons rfl (.cons rfl (.cons rfl (.cons (congrArg (fun z => some (Value.int .i64 z)) (zAH hdL1 hp1_0.form)) .nil)))) (.cons rfl .nil)
       ·refine Tr.sr ?_
        refine Tr.va rfl (fun _ _ h1 h2 => run_eql (h1.ev rfl) (h1.ev rfl)) ?_
        refine Tr.asg rfl rfl ?_
        refine Tr.nil (Tr.zA ?_)
        refine Tr.cond rfl H (fun H => ?_) (fun H => ?_)
        ·refine Tr.region ?_
         refine Tr.mv rfl rfl ?_
         refine Tr.va rfl (fun _ _ h1 h2 => zB fo_46_3 (h1.ev rfl)) ?_
         refine Tr.va rfl (fun _ _ h1 h2 => zC ag_44 (h1.ev rfl) (rdb h2 (vs := [(iv xL1.Kind), (sv xL1.Name), (iv xL1.At.X), (iv xL1.At.Y), (.slice Au195_0 (xL1.Points).length cu195_0), (iv xL1.NX), (iv xL1.NY), (.slice Au195_1 (xL1.Steps).length cu195_1)]) (k := 11) rfl 4) rfl) ?_
         obtain ⟨y223, hy223, H⟩ := bnd H
         refine Tr.call0 (r := (sv y223)) (wn rfl) rfl Tryz.call47 (zF rfl zN) (fun W hW => F_plot_points_ok xL1.Points Au195_0 cu195_0 (hoku195_0.ext hW.extAll) y223 hy223 (HF.start _)) ?_
         obtain ⟨t224, ht224, H⟩ := bnd H
         refine Tr.va rfl (fun _ _ h1 h2 => run_catS (h1.ev rfl) (h1.ev rfl) ht224) ?_
         obtain ⟨t225, ht225, H⟩ := bnd H
         refine Tr.va rfl (fun _ _ h1 h2 => run_catS (h1.ev rfl) (h1.ev rfl) ht225) ?_
         obtain ⟨y226, hy226, H⟩ := bnd H
         refine Tr.callM [0] [sb 95 5 bp0 Am194 cm194 m194] (U := (Option Addr × Nat)) (fun u => (.tuple #[(iv ((t225 : ByteArray).size : Int)), .nilIface])) (fun u => True) (fun u => [sb 95 5 bp0 u.1 u.2 y226]) rfl (zK rfl za) (fun _ => rfl) (wn rfl) rfl Tryz.call45 (zF rfl (zF rfl zN)) (fun W hW hp hE => zZ m194 Am194 cm194 bp0 t225 y226 hy226 hE) ?_
         intro u hu
         obtain ⟨Ay226_0, cy226_0⟩ := u
         have gy226_0 := hu
         have hgy226_0 : True := gy226_0 --@phi
         show Tr _ _ (uf _ 68 (.tuple #[(iv ((t225 : ByteArray).size : Int)), .nilIface])) (up _ 0 (sb 95 5 bp0 Ay226_0 cy226_0 y226)) _
         refine Tr.nil (Tr.zT (Tr.zT (Tr.zA ?_)))
         refine Tr.region ?_
         refine Tr.va rfl (fun _ _ h1 h2 => zm (h1.ev rfl) (h1.ev rfl)) ?_
         refine Tr.mv rfl rfl ?_
         refine Tr.nil ?_
         exact Tr.zW leL1 (restL1, (iL1 + 1), y226, Ay226_0, cy226_0) ⟨rfl, zAI hdL1, zf hdL1, H⟩ (.cons rfl (.cons rfl (.cons rfl (.cons (congrArg (fun z => some (Value.int .i64 z)) (zAH hdL1 hp1_0.form)) .nil)))) (.cons rfl .nil)
        ·refine Tr.sr ?_
         refine Tr.va rfl (fun _ _ h1 h2 => run_eql (h1.ev rfl) (h1.ev rfl)) ?_
         refine Tr.asg rfl rfl ?_
         refine Tr.nil (Tr.zA ?_)
         refine Tr.cond rfl H (fun H => ?_) (fun H => ?_)
         ·refine Tr.sr ?_
          refine Tr.mv rfl rfl ?_
          refine Tr.va rfl (fun _ _ h1 h2 => zB fo_46_4 (h1.ev rfl)) ?_
          refine Tr.va rfl (fun _ _ h1 h2 => zC ag_3 (h1.ev rfl) (rdb h2 (vs := [(iv xL1.Kind), (sv xL1.Name), (iv xL1.At.X), (iv xL1.At.Y), (.slice Au195_0 (xL1.Points).length cu195_0), (iv xL1.NX), (iv xL1.NY), (.slice Au195_1 (xL1.Steps).length cu195_1)]) (k := 11) rfl 5) rfl) ?_
          refine Tr.va rfl (fun _ _ h1 h2 => zB fo_46_5 (h1.ev rfl)) ?_
          refine Tr.va rfl (fun _ _ h1 h2 => zC ag_3 (h1.ev rfl) (rdb h2 (vs := [(iv xL1.Kind), (sv xL1.Name), (iv xL1.At.X), (iv xL1.At.Y), (.slice Au195_0 (xL1.Points).length cu195_0), (iv xL1.NX), (iv xL1.NY), (.slice Au195_1 (xL1.Steps).length cu195_1)]) (k := 11) rfl 6) rfl) ?_
          refine Tr.build (vs := [(0, (iv xL1.NX)), (1, (iv xL1.NY))]) (cs := [(iv xL1.NX), (iv xL1.NY)]) (wn rfl) rfl (zY rfl (zY rfl evs_nil)) (by kernel_rfl) ?_
          refine Tr.va rfl (fun _ _ h1 h2 => zB fo_46_2 (h1.ev rfl)) ?_
          refine Tr.va rfl (fun _ _ h1 h2 => zQ (cs := [(iv xL1.At.X), (iv xL1.At.Y)]) ag_43 sz_43 (h1.ev rfl) (zO.take (rdb h2 (vs := [(iv xL1.Kind), (sv xL1.Name), (iv xL1.At.X), (iv xL1.At.Y), (.slice Au195_0 (xL1.Points).length cu195_0), (iv xL1.NX), (iv xL1.NY), (.slice Au195_1 (xL1.Steps).length cu195_1)]) (k := 11) rfl 2) 2) rfl) ?_
          refine Tr.buildSlice 15 (e := 43) (vs := [(0, (.agg #[(iv xL1.NX), (iv xL1.NY)])), (1, (.agg #[(iv xL1.At.X), (iv xL1.At.Y)]))]) (cs := [(iv xL1.NX), (iv xL1.NY), (iv xL1.At.X), (iv xL1.At.Y)]) (wn rfl) rfl (zY rfl (zY rfl evs_nil)) (by kernel_rfl) fun b228 => ?_
          refine Tr.own 15 zAK [(zJ.mk xL1.NX xL1.NY), xL1.At] (css := [[(iv xL1.NX), (iv xL1.NY)], [(iv xL1.At.X), (iv xL1.At.Y)]]) rfl (.cons ⟨(), trivial, rfl⟩ (.cons ⟨(), trivial, rfl⟩ .nil)) rfl (by decide) (lit_max rfl) ?_
          obtain ⟨y229, hy229, H⟩ := bnd H
          refine Tr.call0 (r := (sv y229)) (wn rfl) rfl Tryz.call47 (zF rfl zN) (fun W hW => F_plot_points_ok [(zJ.mk xL1.NX xL1.NY), xL1.At] (some ⟨b228, 0, none⟩) 2 (hW.slCall (k := 15) rfl) y229 hy229 (HF.start _)) ?_
          obtain ⟨t230, ht230, H⟩ := bnd H
          refine Tr.va rfl (fun _ _ h1 h2 => run_catS (h1.ev rfl) (h1.ev rfl) ht230) ?_
          obtain ⟨t231, ht231, H⟩ := bnd H
          refine Tr.va rfl (fun _ _ h1 h2 => run_catS (h1.ev rfl) (h1.ev rfl) ht231) ?_
          obtain ⟨y232, hy232, H⟩ := bnd H
          refine Tr.callM [0] [sb 95 5 bp0 Am194 cm194 m194] (U := (Option Addr × Nat)) (fun u => (.tuple #[(iv ((t231 : ByteArray).size : Int)), .nilIface])) (fun u => True) (fun u => [sb 95 5 bp0 u.1 u.2 y232]) rfl (zK rfl za) (fun _ => rfl) (wn rfl) rfl Tryz.call45 (zF rfl (zF rfl zN)) (fun W hW hp hE => zZ m194 Am194 cm194 bp0 t231 y232 hy232 hE) ?_
          intro u hu
          obtain ⟨Ay232_0, cy232_0⟩ := u
          have gy232_0 := hu
          have hgy232_0 : True := gy232_0 --@phi
          show Tr _ _ (uf _ 83 (.tuple #[(iv ((t231 : ByteArray).size : Int)), .nilIface])) (up _ 0 (sb 95 5 bp0 Ay232_0 cy232_0 y232)) _
          refine Tr.nil (Tr.zA ?_)
          refine Tr.sr ?_
          refine Tr.mv rfl rfl ?_
          refine Tr.va rfl (fun _ _ h1 h2 => zB fo_46_6 (h1.ev rfl)) ?_
          refine Tr.va rfl (fun _ _ h1 h2 => zC ag_23 (h1.ev rfl) (rdb h2 (vs := [(iv xL1.Kind), (sv xL1.Name), (iv xL1.At.X), (iv xL1.At.Y), (.slice Au195_0 (xL1.Points).length cu195_0), (iv xL1.NX), (iv xL1.NY), (.slice Au195_1 (xL1.Steps).length cu195_1)]) (k := 11) rfl 7) rfl) ?_
          obtain ⟨y234, hy234, H⟩ := bnd H
          refine Tr.callM [0] [sb 95 5 bp0 Ay232_0 cy232_0 y232] (U := (Option Addr × Nat)) (fun u => (.tuple #[])) (fun u => True) (fun u => [sb 95 5 bp0 u.1 u.2 y234]) rfl (zK rfl za) (fun _ => rfl) (wn rfl) rfl Tryz.call48 (zF rfl (zF rfl zN)) (fun W hW hp hE => hrec y232 Ay232_0 cy232_0 bp0 xL1.Steps Au195_1 cu195_1 (hoku195_1.ext (hW.extS hp)) y234 hy234 hE) ?_
          intro u hu
          obtain ⟨Ay234_0, cy234_0⟩ := u
          have gy234_0 := hu
          have hgy234_0 : True := gy234_0 --@phi
          show Tr _ _ (uf _ 87 (.tuple #[])) (up _ 0 (sb 95 5 bp0 Ay234_0 cy234_0 y234)) _
          refine Tr.nil (Tr.zA ?_)
          refine Tr.region ?_
          refine Tr.mv rfl rfl ?_
          obtain ⟨y236, hy236, H⟩ := bnd H
          refine Tr.callM [0] [sb 95 5 bp0 Ay234_0 cy234_0 y234] (U := (Option Addr × Nat)) (fun u => (.tuple #[(iv (((⟨#[100, 111, 110, 101, 10]⟩) : ByteArray).size : Int)), .nilIface])) (fun u => True) (fun u => [sb 95 5 bp0 u.1 u.2 y236]) rfl (zK rfl za) (fun _ => rfl) (wn rfl) rfl Tryz.call45 (zF rfl (zF rfl zN)) (fun W hW hp hE => zZ y234 Ay234_0 cy234_0 bp0 (⟨#[100, 111, 110, 101, 10]⟩) y236 hy236 hE) ?_
          intro u hu
          obtain ⟨Ay236_0, cy236_0⟩ := u
          have gy236_0 := hu
          have hgy236_0 : True := gy236_0 --@phi
          show Tr _ _ (uf _ 89 (.tuple #[(iv (((⟨#[100, 111, 110, 101, 10]⟩) : ByteArray).size : Int)), .nilIface])) (up _ 0 (sb 95 5 bp0 Ay236_0 cy236_0 y236)) _
          refine Tr.nil (Tr.zT (Tr.zT (Tr.zA ?_)))
          refine Tr.region ?_
          refine Tr.va rfl (fun _ _ h1 h2 => zm (h1.ev rfl) (h1.ev rfl)) ?_
          refine Tr.mv rfl rfl ?_
          refine Tr.nil ?_
          exact Tr.zW leL1 (restL1, (iL1 + 1), y236, Ay236_0, cy236_0) ⟨rfl, zAI hdL1, zf hdL1, H⟩ (.cons rfl (.cons rfl (.cons rfl (.cons (congrArg (fun z => some (Value.int .i64 z)) (zAH hdL1 hp1_0.form)) .nil)))) (.cons rfl .nil)
         ·refine Tr.skip (Tr.zT (Tr.zT (Tr.zA ?_)))
          refine Tr.region ?_
          refine Tr.va rfl (fun _ _ h1 h2 => zm (h1.ev rfl) (h1.ev rfl)) ?_
          refine Tr.mv rfl rfl ?_
          refine Tr.nil ?_
          exact Tr.zW leL1 (restL1, (iL1 + 1), m194, Am194, cm194) ⟨rfl, zAI hdL1, zf hdL1, H⟩ (.cons rfl (.cons rfl (.cons rfl (.cons (congrArg (fun z => some (Value.int .i64 z)) (zAH hdL1 hp1_0.form)) .nil)))) (.cons rfl .nil)
theorem F_plot_writeSteps_ok : ∀ (N : Nat) {w : Bs} (p0 : ByteArray) (Ap0_0 : Option Addr) (cp0_0 : Nat) (bp0 : Nat) (p1 : (List zD)) (Ap1_0 : Option Addr) (cp1_0 : Nat) (hp1_0 : Sl w.R w.W zG Ap1_0 cp1_0 p1) (r : ByteArray) (H : F_plot_writeSteps N p0 p1 = some r) (hE : HF w w.W (LEn [sb 95 5 bp0 Ap0_0 cp0_0 p0])), Calls Tryz.prog 48 [(.pointer (some ⟨bp0, 0, none⟩)), (.slice Ap1_0 (p1).length cp1_0)].toArray w.W fun e W' => ∃ u : (Option Addr × Nat), e = .returned (.tuple #[]) ∧ (True) ∧ HF w W' (LEn [sb 95 5 bp0 u.1 u.2 r])
 | 0 => by intros; rename_i H _; cases H
 | N + 1 => F_plot_writeSteps_b_ok N (F_plot_writeSteps N) (F_plot_writeSteps_ok N)

theorem F_strings_Builder_Len_ok {w : Bs} (p0 : ByteArray) (Ap0_0 : Option Addr) (cp0_0 : Nat) (bp0 : Nat) (r : (Int × ByteArray)) (H : sbL p0 = some r) (hE : HF w w.W (LEn [sb 95 5 bp0 Ap0_0 cp0_0 p0])) : Calls Tryz.prog 49 [(.pointer (some ⟨bp0, 0, none⟩))].toArray w.W fun e W' => ∃ u : (Option Addr × Nat), e = .returned (iv r.1) ∧ (True) ∧ HF w W' (LEn [sb 95 5 bp0 u.1 u.2 r.2]) :=
 sb_len (ρ := Tryz.bld49_ren) Tryz.bld49 H hE

end Go.Proofs.YtoageaoknnnfbaaGreatDoor
namespace Go.Proofs
open Go.Shelf
def Tryz.bld50_ren : Go.Shelf.Ren := ⟨fun | 169 => 50 | n => n, fun | 5 => 5 | 37 => 93 | 70 => 92 | 72 => 95 | 127 => 132 | n => n, fun n => n⟩
theorem Tryz.bld50 : Go.Proofs.Lays.n169 Tryz.prog Tryz.bld50_ren := {
 mixed := by kernel_rfl
 f169 := Tryz.func50.trans (congrArg some (by kernel_rfl))
 t0 := Tryz.underlying0
 a0 := Tryz.isAgg0
 z0 := Tryz.sizeOf0
 v0 := Tryz.zeroValue0
 t3 := Tryz.underlying3
 a3 := Tryz.isAgg3
 z3 := Tryz.sizeOf3
 v3 := Tryz.zeroValue3
 t9 := Tryz.underlying9
 a9 := Tryz.isAgg9
 z9 := Tryz.sizeOf9
 v9 := Tryz.zeroValue9
 t37 := Tryz.underlying93
 a37 := Tryz.isAgg93
 z37 := Tryz.sizeOf93
 v37 := Tryz.zeroValue93
 t70 := Tryz.underlying92
 a70 := Tryz.isAgg92
 z70 := Tryz.sizeOf92
 v70 := Tryz.zeroValue92
 t72 := Tryz.underlying95
 a72 := Tryz.isAgg95
 z72 := Tryz.sizeOf95
 v72 := Tryz.zeroValue95
 t127 := Tryz.underlying132
 a127 := Tryz.isAgg132
 z127 := Tryz.sizeOf132
 v127 := Tryz.zeroValue132
}
end Go.Proofs
namespace Go.Proofs.YtoageaoknnnfbaaGreatDoor
open Go.RowKit
theorem bX50 : Builder.Extra Tryz.prog Tryz.bld50_ren where
 sizeBuilder := by kernel_rfl
 liesBuilder := by kernel_rfl
 t5 := Tryz.underlying5
 a5 := Tryz.isAgg5
 z5 := Tryz.sizeOf5
 v5 := Tryz.zeroValue5
 infoByte := by kernel_rfl
 cellsByte := by kernel_rfl
 sizeByte := by kernel_rfl
 neB5 := by decide
theorem F_strings_Builder_String_ok {w : Bs} (p0 : ByteArray) (Ap0_0 : Option Addr) (cp0_0 : Nat) (bp0 : Nat) (r : (ByteArray × ByteArray)) (H : sbS p0 = some r) (hE : HF w w.W (LEn [sb 95 5 bp0 Ap0_0 cp0_0 p0])) : Calls Tryz.prog 50 [(.pointer (some ⟨bp0, 0, none⟩))].toArray w.W fun e W' => ∃ u : (Option Addr × Nat), e = .returned (sv r.1) ∧ (True) ∧ HF w W' (LEn [sb 95 5 bp0 u.1 u.2 r.2]) :=
 sb_string (ρ := Tryz.bld50_ren) Tryz.bld50 bX50 H hE

theorem F_plot_Text_ok (N : Nat) {w : Bs} (p0 : TPlot) (Ap0_0 : Option Addr) (cp0_0 : Nat) (hp0_0 : Sl w.R w.W zh Ap0_0 cp0_0 p0.Tools) (Ap0_1 : Option Addr) (cp0_1 : Nat) (hp0_1 : Sl w.R w.W zG Ap0_1 cp0_1 p0.Steps) (r : (ByteArray × Int)) (H : F_plot_Text N p0 = some r) (hE : HF w w.W E0) : Calls Tryz.prog 25 [(.agg #[(iv p0.Unit), (.slice Ap0_0 (p0.Tools).length cp0_0), (.slice Ap0_1 (p0.Steps).length cp0_1)])].toArray w.W fun e W' => e = .returned (.tuple #[(sv r.1), (iv r.2)]) ∧ HF w W' E0 := by
 unfold F_plot_Text at H
 have leB := Bs.Le.refl w
 refine Tr.enter (n := 61) Tryz.func25 rfl rfl rfl hE ?_
 refine Tr.sr ?_
 refine Tr.box 1 (cs := [(iv p0.Unit), (.slice Ap0_0 (p0.Tools).length cp0_0), (.slice Ap0_1 (p0.Steps).length cp0_1)]) (wn rfl) rfl rfl rfl fun b100 => ?_
 refine Tr.asg rfl rfl ?_
 refine Tr.asg rfl rfl ?_
 refine Tr.nil (Tr.zA ?_)
 refine Tr.seq ?_
 refine Tr.sr ?_
 refine Tr.va rfl (fun _ _ h1 h2 => zQ (cs := [(iv p0.Unit), (.slice Ap0_0 (p0.Tools).length cp0_0), (.slice Ap0_1 (p0.Steps).length cp0_1)]) ag_25 sz_25 (h1.ev rfl) (zO.take (rdb h2 (vs := [(iv p0.Unit), (.slice Ap0_0 (p0.Tools).length cp0_0), (.slice Ap0_1 (p0.Steps).length cp0_1)]) (k := 1) rfl 0) 3) rfl) ?_
 obtain ⟨y101, hy101, H⟩ := bnd H
 refine Tr.call0 (r := (iv y101)) (wn rfl) rfl Tryz.call21 (zF rfl zN) (fun W hW => F_plot_CheckPlot_ok N p0 Ap0_0 cp0_0 (hp0_0.ext hW.extAll) Ap0_1 cp0_1 (hp0_1.ext hW.extAll) y101 hy101 (HF.start _)) ?_
 refine Tr.asg rfl rfl ?_
 refine Tr.nil (Tr.zA ?_)
 refine Tr.sr ?_
 refine Tr.mv rfl rfl ?_
 refine Tr.va rfl (fun _ _ h1 h2 => run_neq (h1.ev rfl) (h1.ev rfl)) ?_
 refine Tr.nil (Tr.zA ?_)
 refine Tr.cond rfl H (fun H => ?_) (fun H => ?_)
 ·refine Tr.sr ?_
  refine Tr.mv rfl rfl ?_
  refine Tr.asg rfl rfl ?_
  refine Tr.asg rfl rfl ?_
  refine Tr.nil (Tr.zA ?_)
  refine Tr.ret (Tr.zU ?_)
  obtain rfl := Option.some.inj H
  exact Tr.out (m := [(sv ByteArray.empty), (iv y101)]) [] (zL rfl (zL rfl zP)) (fun W hW => ⟨rfl, hW.low leB⟩)
 ·refine Tr.skip (Tr.zA ?_)
  refine Tr.sr ?_
  refine Tr.sbNew (e := 5) 2 (wn rfl) rfl zb_95 fun b102 => ?_
  refine Tr.nil (Tr.zA ?_)
  refine Tr.sr ?_
  refine Tr.va rfl (fun _ _ h1 h2 => zB fo_25_0 (h1.ev rfl)) ?_
  refine Tr.va rfl (fun _ _ h1 h2 => zC ag_3 (h1.ev rfl) (rdb h2 (vs := [(iv p0.Unit), (.slice Ap0_0 (p0.Tools).length cp0_0), (.slice Ap0_1 (p0.Steps).length cp0_1)]) (k := 1) rfl 0) rfl) ?_
  obtain ⟨y103, hy103, H⟩ := bnd H
  refine Tr.call0 (r := (sv y103)) (wn rfl) rfl Tryz.call46 (zF rfl zN) (fun W hW => F_strconv_Itoa_ok p0.Unit y103 hy103 (HF.start _)) ?_
  obtain ⟨t104, ht104, H⟩ := bnd H
  refine Tr.va rfl (fun _ _ h1 h2 => run_catS (h1.ev rfl) (h1.ev rfl) ht104) ?_
  obtain ⟨t105, ht105, H⟩ := bnd H
  refine Tr.va rfl (fun _ _ h1 h2 => run_catS (h1.ev rfl) (h1.ev rfl) ht105) ?_
  obtain ⟨y106, hy106, H⟩ := bnd H
  refine Tr.callM [2] [sb 95 5 b102 none 0 ByteArray.empty] (U := (Option Addr × Nat)) (fun u => (.tuple #[(iv ((t105 : ByteArray).size : Int)), .nilIface])) (fun u => True) (fun u => [sb 95 5 b102 u.1 u.2 y106]) rfl (zK rfl za) (fun _ => rfl) (wn rfl) rfl Tryz.call45 (zF rfl (zF rfl zN)) (fun W hW hp hE => zZ ByteArray.empty none 0 b102 t105 y106 hy106 hE) ?_
  intro u hu
  obtain ⟨Ay106_0, cy106_0⟩ := u
  have gy106_0 := hu
  have hgy106_0 : True := gy106_0 --@phi
  show Tr _ _ (uf _ 20 (.tuple #[(iv ((t105 : ByteArray).size : Int)), .nilIface])) (up _ 2 (sb 95 5 b102 Ay106_0 cy106_0 y106)) _
  refine Tr.nil (Tr.zA ?_)
  refine Tr.seq ?_
  refine Tr.sr ?_
  refine Tr.va rfl (fun _ _ h1 h2 => zB fo_25_1 (h1.ev rfl)) ?_
  refine Tr.va rfl (fun _ _ h1 h2 => zC ag_22 (h1.ev rfl) (rdb h2 (vs := [(iv p0.Unit), (.slice Ap0_0 (p0.Tools).length cp0_0), (.slice Ap0_1 (p0.Steps).length cp0_1)]) (k := 1) rfl 1) rfl) ?_
  refine Tr.va rfl (fun _ _ h1 h2 => zl un_22 (h1.ev rfl)) ?_
  refine Tr.mv rfl rfl ?_
  refine Tr.nil (Tr.zA ?_)
  refine Tr.block ?_
  refine Tr.loop (σ := (List zAF) × Nat × ByteArray × (Option Addr) × Nat) (fun m w s => m = s.1.length + 1 ∧ s.1 = List.drop s.2.1 p0.Tools ∧ s.2.1 ≤ p0.Tools.length ∧ F_plot_Text_L3 N p0 s.1 s.2.1 s.2.2.1 = some r) (fun s => [(1, (.pointer (some ⟨b100, 0, none⟩))), (5, (.pointer (some ⟨b102, 0, none⟩))), (22, (.slice Ap0_0 (p0.Tools).length cp0_0)), (23, (iv (p0.Tools.length : Int))), (24, (iv (s.2.1 : Int)))]) (fun s => [(1, bx b100 #[(iv p0.Unit), (.slice Ap0_0 (p0.Tools).length cp0_0), (.slice Ap0_1 (p0.Steps).length cp0_1)] 25), (2, sb 95 5 b102 s.2.2.2.1 s.2.2.2.2 s.2.2.1)]) (p0.Tools.length + 1) (p0.Tools, 0, y106, Ay106_0, cy106_0) ⟨rfl, rfl, Nat.zero_le _, H⟩ (.cons rfl (.cons rfl (.cons rfl (.cons rfl (.cons rfl .nil))))) (.cons rfl (.cons rfl .nil)) (fun _ _ h => absurd h.1 (by simp)) ?_
  intro w leL3 m s hs
  obtain ⟨restL3, iL3, m178, Am178, cm178⟩ := s
  obtain ⟨hmL3, hdL3, hiL3, H⟩ := hs
  replace hdL3 : restL3 = List.drop iL3 p0.Tools := hdL3
  replace H : F_plot_Text_L3 N p0 restL3 iL3 m178 = some r := H
  replace hmL3 : m + 1 = restL3.length + 1 := hmL3
  replace hp0_0 := hp0_0.leR leL3
  replace hp0_1 := hp0_1.leR leL3
  replace leB := leB.trans leL3
  obtain rfl : m = restL3.length := by omega
  clear hmL3
  show Tr _ _ (LF [(1, (.pointer (some ⟨b100, 0, none⟩))), (5, (.pointer (some ⟨b102, 0, none⟩))), (22, (.slice Ap0_0 (p0.Tools).length cp0_0)), (23, (iv (p0.Tools.length : Int))), (24, (iv (iL3 : Int)))]) (LE [(1, bx b100 #[(iv p0.Unit), (.slice Ap0_0 (p0.Tools).length cp0_0), (.slice Ap0_1 (p0.Steps).length cp0_1)] 25), (2, sb 95 5 b102 Am178 cm178 m178)]) _
  cases restL3 with
  | nil =>
   rw [F_plot_Text_L3.eq_1] at H
   refine Tr.sr ?_
   refine Tr.va rfl (fun _ _ h1 h2 => zn (h1.ev rfl) (h1.ev rfl)) ?_
   refine Tr.nil (Tr.zA ?_)
   refine Tr.seq ?_
   refine Tr.condF rfl (range_nil hdL3) ?_
   refine Tr.exit (Tr.zV (Tr.zV (Tr.zw (Tr.zA ?_))))
   refine Tr.sr ?_
   refine Tr.va rfl (fun _ _ h1 h2 => zB fo_25_2 (h1.ev rfl)) ?_
   refine Tr.va rfl (fun _ _ h1 h2 => zC ag_23 (h1.ev rfl) (rdb h2 (vs := [(iv p0.Unit), (.slice Ap0_0 (p0.Tools).length cp0_0), (.slice Ap0_1 (p0.Steps).length cp0_1)]) (k := 1) rfl 2) rfl) ?_
   obtain ⟨y179, hy179, H⟩ := bnd H
   refine Tr.callM [2] [sb 95 5 b102 Am178 cm178 m178] (U := (Option Addr × Nat)) (fun u => (.tuple #[])) (fun u => True) (fun u => [sb 95 5 b102 u.1 u.2 y179]) rfl (zK rfl za) (fun _ => rfl) (wn rfl) rfl Tryz.call48 (zF rfl (zF rfl zN)) (fun W hW hp hE => F_plot_writeSteps_ok N m178 Am178 cm178 b102 p0.Steps Ap0_1 cp0_1 (hp0_1.ext (hW.extS hp)) y179 hy179 hE) ?_
   intro u hu
   obtain ⟨Ay179_0, cy179_0⟩ := u
   have gy179_0 := hu
   have hgy179_0 : True := gy179_0 --@phi
   show Tr _ _ (uf _ 57 (.tuple #[])) (up _ 2 (sb 95 5 b102 Ay179_0 cy179_0 y179)) _
   refine Tr.nil (Tr.zA ?_)
   refine Tr.seq ?_
   refine Tr.sr ?_
   obtain ⟨y181, hy181, H⟩ := bnd H
   refine Tr.callM [2] [sb 95 5 b102 Ay179_0 cy179_0 y179] (U := (Option Addr × Nat)) (fun u => (iv y181.1)) (fun u => True) (fun u => [sb 95 5 b102 u.1 u.2 y181.2]) rfl (zK rfl za) (fun _ => rfl) (wn rfl) rfl Tryz.call49 (zF rfl zN) (fun W hW hp hE => F_strings_Builder_Len_ok y179 Ay179_0 cy179_0 b102 y181 hy181 hE) ?_
   intro u hu
   obtain ⟨Ay181_0, cy181_0⟩ := u
   have gy181_0 := hu
   have hgy181_0 : True := gy181_0 --@phi
   show Tr _ _ (uf _ 58 (iv y181.1)) (up _ 2 (sb 95 5 b102 Ay181_0 cy181_0 y181.2)) _
   refine Tr.va rfl (fun _ _ h1 h2 => run_gtr (h1.ev rfl) (h1.ev rfl)) ?_
   refine Tr.nil (Tr.zA ?_)
   refine Tr.cond rfl H (fun H => ?_) (fun H => ?_)
   ·refine Tr.sr ?_
    refine Tr.asg rfl rfl ?_
    refine Tr.asg rfl rfl ?_
    refine Tr.nil (Tr.zA ?_)
    refine Tr.ret (Tr.zU ?_)
    obtain rfl := Option.some.inj H
    exact Tr.out (m := [(sv ByteArray.empty), (iv 2)]) [] (zL rfl (zL rfl zP)) (fun W hW => ⟨rfl, hW.low leB⟩)
   ·refine Tr.skip (Tr.zA ?_)
    refine Tr.sr ?_
    obtain ⟨y183, hy183, H⟩ := bnd H
    refine Tr.callM [2] [sb 95 5 b102 Ay181_0 cy181_0 y181.2] (U := (Option Addr × Nat)) (fun u => (sv y183.1)) (fun u => True) (fun u => [sb 95 5 b102 u.1 u.2 y183.2]) rfl (zK rfl za) (fun _ => rfl) (wn rfl) rfl Tryz.call50 (zF rfl zN) (fun W hW hp hE => F_strings_Builder_String_ok y181.2 Ay181_0 cy181_0 b102 y183 hy183 hE) ?_
    intro u hu
    obtain ⟨Ay183_0, cy183_0⟩ := u
    have gy183_0 := hu
    have hgy183_0 : True := gy183_0 --@phi
    show Tr _ _ (uf _ 60 (sv y183.1)) (up _ 2 (sb 95 5 b102 Ay183_0 cy183_0 y183.2)) _
    refine Tr.asg rfl rfl ?_
    refine Tr.asg rfl rfl ?_
    refine Tr.nil (Tr.zA ?_)
    refine Tr.ret ?_
    obtain rfl := Option.some.inj H
    exact Tr.out (m := [(sv y183.1), (iv 0)]) [] (zL rfl (zL rfl zP)) (fun W hW => ⟨rfl, hW.low leB⟩)
  | cons xL3 restL3 =>
   rw [F_plot_Text_L3.eq_2] at H
   refine Tr.sr ?_
   refine Tr.va rfl (fun _ _ h1 h2 => zn (h1.ev rfl) (h1.ev rfl)) ?_
   refine Tr.nil (Tr.zA ?_)
   refine Tr.seq ?_
   refine Tr.condT rfl (range_on hdL3) ?_
   refine Tr.skip (Tr.zA ?_)
   refine Tr.seq ?_
   refine Tr.block ?_
   refine Tr.sr ?_
   obtain ⟨u185, hRu185, hoku185, hcu185⟩ := (hp0_0).el (range_at hdL3)
   obtain ⟨Au185_0, cu185_0⟩ := u185
   have hoku185_0 := hoku185
   replace hoku185_0 : Sl w.R w.W zM Au185_0 cu185_0 xL3.Rects := hoku185_0
   refine Tr.va rfl (fun _ _ h1 h2 => zI el_22 (h1.ev rfl) hp0_0.form (h1.ev rfl) (Int.natCast_nonneg _) (zf hdL3)) ?_
   refine Tr.va rfl (fun _ _ h1 h2 => zQ (cs := [(sv xL3.Name), (.slice Au185_0 (xL3.Rects).length cu185_0)]) ag_64 sz_64 (h1.ev rfl) (zO.take (rdR hRu185 hcu185 h2) 2) rfl) ?_
   refine Tr.alloc 17 (wn rfl) rfl ze_64 fun b186 => ?_
   refine Tr.store 17 (cs := [(sv xL3.Name), (.slice Au185_0 (xL3.Rects).length cu185_0)]) [(sv xL3.Name), (.slice Au185_0 (xL3.Rects).length cu185_0)] (wn rfl) rfl rfl rfl rfl sz_64 rfl rfl rfl ?_
   refine Tr.nil (Tr.zA ?_)
   refine Tr.sr ?_
   refine Tr.va rfl (fun _ _ h1 h2 => zB fo_64_0 (h1.ev rfl)) ?_
   refine Tr.va rfl (fun _ _ h1 h2 => zC ag_9 (h1.ev rfl) (rdb h2 (vs := [(sv xL3.Name), (.slice Au185_0 (xL3.Rects).length cu185_0)]) (k := 17) rfl 0) rfl) ?_
   obtain ⟨t187, ht187, H⟩ := bnd H
   refine Tr.va rfl (fun _ _ h1 h2 => run_catS (h1.ev rfl) (h1.ev rfl) ht187) ?_
   obtain ⟨y188, hy188, H⟩ := bnd H
   refine Tr.callM [2] [sb 95 5 b102 Am178 cm178 m178] (U := (Option Addr × Nat)) (fun u => (.tuple #[(iv ((t187 : ByteArray).size : Int)), .nilIface])) (fun u => True) (fun u => [sb 95 5 b102 u.1 u.2 y188]) rfl (zK rfl za) (fun _ => rfl) (wn rfl) rfl Tryz.call45 (zF rfl (zF rfl zN)) (fun W hW hp hE => zZ m178 Am178 cm178 b102 t187 y188 hy188 hE) ?_
   intro u hu
   obtain ⟨Ay188_0, cy188_0⟩ := u
   have gy188_0 := hu
   have hgy188_0 : True := gy188_0 --@phi
   show Tr _ _ (uf _ 31 (.tuple #[(iv ((t187 : ByteArray).size : Int)), .nilIface])) (up _ 2 (sb 95 5 b102 Ay188_0 cy188_0 y188)) _
   refine Tr.nil (Tr.zA ?_)
   refine Tr.seq ?_
   refine Tr.sr ?_
   refine Tr.va rfl (fun _ _ h1 h2 => zB fo_64_1 (h1.ev rfl)) ?_
   refine Tr.va rfl (fun _ _ h1 h2 => zC ag_31 (h1.ev rfl) (rdb h2 (vs := [(sv xL3.Name), (.slice Au185_0 (xL3.Rects).length cu185_0)]) (k := 17) rfl 1) rfl) ?_
   refine Tr.va rfl (fun _ _ h1 h2 => zl un_31 (h1.ev rfl)) ?_
   refine Tr.mv rfl rfl ?_
   refine Tr.nil (Tr.zA ?_)
   refine Tr.block ?_
   refine Tr.loop (σ := (List zR) × Nat × ByteArray × (Option Addr) × Nat) (fun m w s => m = s.1.length + 1 ∧ s.1 = List.drop s.2.1 xL3.Rects ∧ s.2.1 ≤ xL3.Rects.length ∧ F_plot_Text_L4 (F_plot_Text_L3 N p0 restL3 (iL3 + 1)) s.1 s.2.1 s.2.2.1 = some r) (fun s => [(1, (.pointer (some ⟨b100, 0, none⟩))), (5, (.pointer (some ⟨b102, 0, none⟩))), (22, (.slice Ap0_0 (p0.Tools).length cp0_0)), (23, (iv (p0.Tools.length : Int))), (24, (iv (iL3 : Int))), (33, (.slice Au185_0 (xL3.Rects).length cu185_0)), (34, (iv (xL3.Rects.length : Int))), (35, (iv (s.2.1 : Int)))]) (fun s => [(1, bx b100 #[(iv p0.Unit), (.slice Ap0_0 (p0.Tools).length cp0_0), (.slice Ap0_1 (p0.Steps).length cp0_1)] 25), (2, sb 95 5 b102 s.2.2.2.1 s.2.2.2.2 s.2.2.1)]) (xL3.Rects.length + 1) (xL3.Rects, 0, y188, Ay188_0, cy188_0) ⟨rfl, rfl, Nat.zero_le _, H⟩ (.cons rfl (.cons rfl (.cons rfl (.cons rfl (.cons rfl (.cons rfl (.cons rfl (.cons rfl .nil)))))))) (.cons rfl (.cons rfl .nil)) (fun _ _ h => absurd h.1 (by simp)) ?_
   intro w leL4 m s hs
   obtain ⟨restL4, iL4, m208, Am208, cm208⟩ := s
   obtain ⟨hmL4, hdL4, hiL4, H⟩ := hs
   replace hdL4 : restL4 = List.drop iL4 xL3.Rects := hdL4
   replace H : F_plot_Text_L4 (F_plot_Text_L3 N p0 restL3 (iL3 + 1)) restL4 iL4 m208 = some r := H
   replace hmL4 : m + 1 = restL4.length + 1 := hmL4
   replace hp0_0 := hp0_0.leR leL4
   replace hp0_1 := hp0_1.leR leL4
   replace hoku185_0 := hoku185_0.leR leL4
   replace leB := leB.trans leL4
   replace leL3 := leL3.trans leL4
   obtain rfl : m = restL4.length := by omega
   clear hmL4
   show Tr _ _ (LF [(1, (.pointer (some ⟨b100, 0, none⟩))), (5, (.pointer (some ⟨b102, 0, none⟩))), (22, (.slice Ap0_0 (p0.Tools).length cp0_0)), (23, (iv (p0.Tools.length : Int))), (24, (iv (iL3 : Int))), (33, (.slice Au185_0 (xL3.Rects).length cu185_0)), (34, (iv (xL3.Rects.length : Int))), (35, (iv (iL4 : Int)))]) (LE [(1, bx b100 #[(iv p0.Unit), (.slice Ap0_0 (p0.Tools).length cp0_0), (.slice Ap0_1 (p0.Steps).length cp0_1)] 25), (2, sb 95 5 b102 Am208 cm208 m208)]) _
   cases restL4 with
   | nil =>
    rw [F_plot_Text_L4.eq_1] at H
    refine Tr.sr ?_
    refine Tr.va rfl (fun _ _ h1 h2 => zn (h1.ev rfl) (h1.ev rfl)) ?_
    refine Tr.nil (Tr.zA ?_)
    refine Tr.seq ?_
    refine Tr.condF rfl (range_nil hdL4) ?_
    refine Tr.exit (Tr.zV (Tr.zV (Tr.zw (Tr.zA ?_))))
    refine Tr.region ?_
    obtain ⟨y209, hy209, H⟩ := bnd H
    refine Tr.callM [2] [sb 95 5 b102 Am208 cm208 m208] (U := (Option Addr × Nat)) (fun u => (.tuple #[(iv (((⟨#[10]⟩) : ByteArray).size : Int)), .nilIface])) (fun u => True) (fun u => [sb 95 5 b102 u.1 u.2 y209]) rfl (zK rfl za) (fun _ => rfl) (wn rfl) rfl Tryz.call45 (zF rfl (zF rfl zN)) (fun W hW hp hE => zZ m208 Am208 cm208 b102 (⟨#[10]⟩) y209 hy209 hE) ?_
    intro u hu
    obtain ⟨Ay209_0, cy209_0⟩ := u
    have gy209_0 := hu
    have hgy209_0 : True := gy209_0 --@phi
    show Tr _ _ (uf _ 53 (.tuple #[(iv (((⟨#[10]⟩) : ByteArray).size : Int)), .nilIface])) (up _ 2 (sb 95 5 b102 Ay209_0 cy209_0 y209)) _
    refine Tr.nil (Tr.zT (Tr.zA ?_))
    refine Tr.region ?_
    refine Tr.va rfl (fun _ _ h1 h2 => zm (h1.ev rfl) (h1.ev rfl)) ?_
    refine Tr.mv rfl rfl ?_
    refine Tr.nil ?_
    exact Tr.zW leL3 (restL3, (iL3 + 1), y209, Ay209_0, cy209_0) ⟨rfl, zAI hdL3, zf hdL3, H⟩ (.cons rfl (.cons rfl (.cons rfl (.cons rfl (.cons (congrArg (fun z => some (Value.int .i64 z)) (zAH hdL3 hp0_0.form)) .nil))))) (.cons rfl (.cons rfl .nil))
   | cons xL4 restL4 =>
    rw [F_plot_Text_L4.eq_2] at H
    refine Tr.sr ?_
    refine Tr.va rfl (fun _ _ h1 h2 => zn (h1.ev rfl) (h1.ev rfl)) ?_
    refine Tr.nil (Tr.zA ?_)
    refine Tr.seq ?_
    refine Tr.condT rfl (range_on hdL4) ?_
    refine Tr.skip (Tr.zA ?_)
    refine Tr.seq ?_
    refine Tr.block ?_
    refine Tr.sr ?_
    refine Tr.va rfl (fun _ _ h1 h2 => zI el_31 (h1.ev rfl) hoku185_0.form (h1.ev rfl) (Int.natCast_nonneg _) (zf hdL4)) ?_
    refine Tr.va rfl (fun _ _ h1 h2 => zQ (cs := [(iv xL4.X0), (iv xL4.Y0), (iv xL4.X1), (iv xL4.Y1)]) ag_36 sz_36 (h1.ev rfl) (zO.take (rdF ef_TRect hoku185_0 (range_at hdL4) h2) 4) rfl) ?_
    refine Tr.alloc 22 (wn rfl) rfl ze_36 fun b211 => ?_
    refine Tr.store 22 (cs := [(iv xL4.X0), (iv xL4.Y0), (iv xL4.X1), (iv xL4.Y1)]) [(iv xL4.X0), (iv xL4.Y0), (iv xL4.X1), (iv xL4.Y1)] (wn rfl) rfl rfl rfl rfl sz_36 rfl rfl rfl ?_
    refine Tr.nil (Tr.zA ?_)
    refine Tr.region ?_
    refine Tr.va rfl (fun _ _ h1 h2 => zB fo_36_0 (h1.ev rfl)) ?_
    refine Tr.va rfl (fun _ _ h1 h2 => zC ag_3 (h1.ev rfl) (rdb h2 (vs := [(iv xL4.X0), (iv xL4.Y0), (iv xL4.X1), (iv xL4.Y1)]) (k := 22) rfl 0) rfl) ?_
    refine Tr.va rfl (fun _ _ h1 h2 => zB fo_36_1 (h1.ev rfl)) ?_
    refine Tr.va rfl (fun _ _ h1 h2 => zC ag_3 (h1.ev rfl) (rdb h2 (vs := [(iv xL4.X0), (iv xL4.Y0), (iv xL4.X1), (iv xL4.Y1)]) (k := 22) rfl 1) rfl) ?_
    refine Tr.build (vs := [(0, (iv xL4.X0)), (1, (iv xL4.Y0))]) (cs := [(iv xL4.X0), (iv xL4.Y0)]) (wn rfl) rfl (zY rfl (zY rfl evs_nil)) (by kernel_rfl) ?_
    refine Tr.va rfl (fun _ _ h1 h2 => zB fo_36_2 (h1.ev rfl)) ?_
    refine Tr.va rfl (fun _ _ h1 h2 => zC ag_3 (h1.ev rfl) (rdb h2 (vs := [(iv xL4.X0), (iv xL4.Y0), (iv xL4.X1), (iv xL4.Y1)]) (k := 22) rfl 2) rfl) ?_
    refine Tr.va rfl (fun _ _ h1 h2 => zB fo_36_3 (h1.ev rfl)) ?_
    refine Tr.va rfl (fun _ _ h1 h2 => zC ag_3 (h1.ev rfl) (rdb h2 (vs := [(iv xL4.X0), (iv xL4.Y0), (iv xL4.X1), (iv xL4.Y1)]) (k := 22) rfl 3) rfl) ?_
    refine Tr.build (vs := [(0, (iv xL4.X1)), (1, (iv xL4.Y1))]) (cs := [(iv xL4.X1), (iv xL4.Y1)]) (wn rfl) rfl (zY rfl (zY rfl evs_nil)) (by kernel_rfl) ?_
    refine Tr.buildSlice 23 (e := 43) (vs := [(0, (.agg #[(iv xL4.X0), (iv xL4.Y0)])), (1, (.agg #[(iv xL4.X1), (iv xL4.Y1)]))]) (cs := [(iv xL4.X0), (iv xL4.Y0), (iv xL4.X1), (iv xL4.Y1)]) (wn rfl) rfl (zY rfl (zY rfl evs_nil)) (by kernel_rfl) fun b212 => ?_
    refine Tr.own 23 zAK [(zJ.mk xL4.X0 xL4.Y0), (zJ.mk xL4.X1 xL4.Y1)] (css := [[(iv xL4.X0), (iv xL4.Y0)], [(iv xL4.X1), (iv xL4.Y1)]]) rfl (.cons ⟨(), trivial, rfl⟩ (.cons ⟨(), trivial, rfl⟩ .nil)) rfl (by decide) (lit_max rfl) ?_
    obtain ⟨y213, hy213, H⟩ := bnd H
    refine Tr.call0 (r := (sv y213)) (wn rfl) rfl Tryz.call47 (zF rfl zN) (fun W hW => F_plot_points_ok [(zJ.mk xL4.X0 xL4.Y0), (zJ.mk xL4.X1 xL4.Y1)] (some ⟨b212, 0, none⟩) 2 (hW.slCall (k := 23) rfl) y213 hy213 (HF.start _)) ?_
    obtain ⟨y214, hy214, H⟩ := bnd H
    refine Tr.callM [2] [sb 95 5 b102 Am208 cm208 m208] (U := (Option Addr × Nat)) (fun u => (.tuple #[(iv ((y213 : ByteArray).size : Int)), .nilIface])) (fun u => True) (fun u => [sb 95 5 b102 u.1 u.2 y214]) rfl (zK rfl za) (fun _ => rfl) (wn rfl) rfl Tryz.call45 (zF rfl (zF rfl zN)) (fun W hW hp hE => zZ m208 Am208 cm208 b102 y213 y214 hy214 hE) ?_
    intro u hu
    obtain ⟨Ay214_0, cy214_0⟩ := u
    have gy214_0 := hu
    have hgy214_0 : True := gy214_0 --@phi
    show Tr _ _ (uf _ 51 (.tuple #[(iv ((y213 : ByteArray).size : Int)), .nilIface])) (up _ 2 (sb 95 5 b102 Ay214_0 cy214_0 y214)) _
    refine Tr.nil (Tr.zT (Tr.zA ?_))
    refine Tr.region ?_
    refine Tr.va rfl (fun _ _ h1 h2 => zm (h1.ev rfl) (h1.ev rfl)) ?_
    refine Tr.mv rfl rfl ?_
    refine Tr.nil ?_
    exact Tr.zW leL4 (restL4, (iL4 + 1), y214, Ay214_0, cy214_0) ⟨rfl, zAI hdL4, zf hdL4, H⟩ (.cons rfl (.cons rfl (.cons rfl (.cons rfl (.cons rfl (.cons rfl (.cons rfl (.cons (congrArg (fun z => some (Value.int .i64 z)) (zAH hdL4 hoku185_0.form)) .nil)))))))) (.cons rfl (.cons rfl .nil))

theorem F_etchhouselaw3_awake_ok (N : Nat) {w : Bs}  (r : Bool) (H : F_etchhouselaw3_awake N = some r) (hE : HF w w.W E0) : Calls Tryz.prog 8 [].toArray w.W fun e W' => e = .returned (.bool r) ∧ HF w W' E0 := by
 unfold F_etchhouselaw3_awake at H
 have leB := Bs.Le.refl w
 refine Tr.enter (n := 14) Tryz.func8 rfl rfl rfl hE ?_
 refine Tr.sr ?_
 refine Tr.asg rfl rfl ?_
 refine Tr.nil (Tr.zA ?_)
 refine Tr.sr ?_
 refine Tr.build (vs := [(0, (iv 7))]) (cs := [(iv 7), (.slice none 0 0), (.slice none 0 0)]) (wn rfl) rfl (zY rfl evs_nil) (by kernel_rfl) ?_
 obtain ⟨y100, hy100, H⟩ := bnd H
 refine Tr.call0 (r := (.tuple #[(sv y100.1), (iv y100.2)])) (wn rfl) rfl Tryz.call25 (zF rfl zN) (fun W hW => F_plot_Text_ok N (TPlot.mk 7 [] []) none 0 (Sl.nil _ _ _) none 0 (Sl.nil _ _ _) y100 hy100 (HF.start _)) ?_
 refine Tr.mv rfl rfl ?_
 refine Tr.va rfl (fun _ _ h1 h2 => run_extract (h1.ev rfl) rfl) ?_
 refine Tr.va rfl (fun _ _ h1 h2 => run_extract (h1.ev rfl) rfl) ?_
 refine Tr.asg rfl rfl ?_
 refine Tr.asg rfl rfl ?_
 refine Tr.nil (Tr.zA ?_)
 refine Tr.sr ?_
 refine Tr.mv rfl rfl ?_
 refine Tr.va rfl (fun _ _ h1 h2 => run_eql (h1.ev rfl) (h1.ev rfl)) ?_
 refine Tr.mv rfl rfl ?_
 refine Tr.mid0 3 [(13, (.bool ((y100.2 == 0) && (sEq y100.1 (⟨#[117, 110, 105, 116, 32, 55, 10]⟩)))))] [] ?_ ?_
 ·cases hg100 : (y100.2 == 0)
  ·refine Tr.pass rfl rfl rfl rfl rfl (by decide) ?_
   refine Tr.pass rfl rfl rfl rfl rfl (by decide) ?_
   refine Tr.va rfl (fun _ _ h1 h2 => ze (h1.ev rfl) (h1.ev rfl)) ?_
   exact Tr.nil (Tr.fin0 (.cons rfl .nil) .nil)
  ·refine Tr.val (wg rfl rfl rfl) rfl (fun _ _ h1 h2 => run_move (h1.ev rfl)) ?_
   refine Tr.val (wg rfl rfl rfl) rfl (fun _ _ h1 h2 => run_eqlS (h1.ev rfl) (h1.ev rfl)) ?_
   refine Tr.va rfl (fun _ _ h1 h2 => zb (h1.ev rfl) (h1.ev rfl)) ?_
   exact Tr.nil (Tr.fin0 (.cons rfl .nil) .nil)
 ·show Tr _ _ (LF [(13, (.bool ((y100.2 == 0) && (sEq y100.1 (⟨#[117, 110, 105, 116, 32, 55, 10]⟩)))))]) (LE []) _
  refine Tr.asg rfl rfl ?_
  refine Tr.nil (Tr.zA ?_)
  refine Tr.ret ?_
  obtain rfl := Option.some.inj H
  exact Tr.out (m := [(.bool ((y100.2 == 0) && (sEq y100.1 (⟨#[117, 110, 105, 116, 32, 55, 10]⟩))))]) [] (zL rfl zP) (fun W hW => ⟨rfl, hW.low leB⟩)

theorem F_slices_Clone_PlotStep_ok {w : Bs} (p0 : (List zD)) (Ap0_0 : Option Addr) (cp0_0 : Nat) (hp0_0 : Sl w.O w.W zG Ap0_0 cp0_0 p0) (r : (List zD)) (H : F_slices_Clone_PlotStep p0 = some r) (hE : HF w w.W (LEn [emp])) : Calls Tryz.prog 14 [(.slice Ap0_0 (p0).length cp0_0)].toArray w.W fun e W' => ∃ (w' : Bs) (u : (Option Addr × Nat)), w.Le w' ∧ e = .returned (.slice u.1 (r).length u.2) ∧ (SlF u.1 (r).length u.2) ∧ HF w' W' (LEn [ow u.1 u.2 46 zG r]) := by
 unfold F_slices_Clone_PlotStep at H
 have leB := Bs.Le.refl w
 refine Tr.enter (n := 8) Tryz.func14 rfl rfl rfl hE ?_
 refine Tr.sr ?_
 refine Tr.asg rfl rfl ?_
 refine Tr.nilOwn 1 46 zG ?_
 show Tr _ _ (uf _ 2 (.slice none (([] : List zD)).length 0)) _ _
 refine Tr.nil (Tr.zA ?_)
 refine Tr.seq ?_
 refine Tr.sr ?_
 refine Tr.mv rfl rfl ?_
 refine Tr.va rfl (fun _ _ h1 h2 => run_eqlNil un_23 (h1.ev rfl) (h1.ev rfl)) ?_
 refine Tr.nil (Tr.zA ?_)
 cases Ap0_0 with
 | none =>
  have hl0 := slf_none hp0_0.form
  replace H : (some ([] : List zD)) = some r := by simpa [apd, hl0] using H
  refine Tr.condT rfl rfl ?_
  refine Tr.sr ?_
  refine Tr.asg rfl rfl ?_
  refine Tr.nilOwn 2 46 zG ?_
  show Tr _ _ (uf _ 2 (.slice none (([] : List zD)).length 0)) _ _
  refine Tr.nil (Tr.zA ?_)
  refine Tr.ret (Tr.zU ?_)
  obtain rfl := Option.some.inj H
  exact Tr.out (m := [(.slice none (([] : List zD)).length 0)]) [] (zL rfl zP) (fun W hW => ⟨w, (none, 0), leB, rfl, slf_nil, hW.pick (ks := [2]) (by decide) (zK rfl za)⟩)
 | some a102 =>
  refine Tr.condF rfl rfl ?_
  refine Tr.skip (Tr.zA ?_)
  refine Tr.sr ?_
  refine Tr.buildSlice 3 (e := 46) (vs := []) (cs := []) (wn rfl) rfl evs_nil (by kernel_rfl) fun b100 => ?_
  refine Tr.mv rfl rfl ?_
  refine Tr.own 3 zG ([] : List zD) (css := []) rfl .nil rfl (by decide) (lit_max rfl) ?_
  obtain ⟨l101, hl101, H⟩ := bnd H
  refine Tr.appendS 3 (t := zG) (l := ([] : List zD)) (l2 := p0) (wn rfl) rfl rfl rfl rfl (apO hp0_0) un_23 sz_46 zl_46 (by decide) by_46 rfl hl101 fun Al101 cl101 hAl101 => ?_
  refine Tr.asg rfl rfl ?_
  refine Tr.nil (Tr.zA ?_)
  refine Tr.ret ?_
  obtain rfl := Option.some.inj H
  exact Tr.out (m := [(.slice Al101 (l101).length cl101)]) [] (zL rfl zP) (fun W hW => ⟨w, (Al101, cl101), leB, rfl, hAl101, hW.pick (ks := [3]) (by decide) (zK rfl za)⟩)

theorem F_slices_Delete_PlotStep_ok {w : Bs} (p0 : (List zD)) (Ap0_0 : Option Addr) (cp0_0 : Nat) (p1 : Int) (p2 : Int) (r : (List zD)) (H : F_slices_Delete_PlotStep p0 p1 p2 = some r) (hE : HF w w.W (LEn [ow Ap0_0 cp0_0 46 zG p0])) : Calls Tryz.prog 13 [(.slice Ap0_0 (p0).length cp0_0), (iv p1), (iv p2)].toArray w.W fun e W' => ∃ (w' : Bs) (u : (Option Addr × Nat)), w.Le w' ∧ e = .returned (.slice u.1 (r).length u.2) ∧ (SlF u.1 (r).length u.2) ∧ HF w' W' (LEn [ow u.1 u.2 46 zG r]) := by
 unfold F_slices_Delete_PlotStep at H
 have hfhp0_0 := (hE.sl (k := 0) rfl).form
 have leB := Bs.Le.refl w
 refine Tr.enter (n := 33) Tryz.func13 rfl rfl rfl hE ?_
 refine Tr.sr ?_
 refine Tr.asg rfl rfl ?_
 refine Tr.nilOwn 1 46 zG ?_
 show Tr _ _ (uf _ 6 (.slice none (([] : List zD)).length 0)) _ _
 refine Tr.nil (Tr.zA ?_)
 refine Tr.sr ?_
 refine Tr.mv rfl rfl ?_
 refine Tr.mv rfl rfl ?_
 refine Tr.mv rfl rfl ?_
 refine Tr.mv rfl rfl ?_
 refine Tr.va rfl (fun _ _ h1 h2 => zl un_23 (h1.ev rfl)) ?_
 obtain ⟨l100, hl100, H⟩ := bnd H
 refine Tr.va rfl (fun _ _ h1 h2 => run_slice3 el_23 (h1.ev rfl) hfhp0_0 (h1.ev rfl) (h1.ev rfl) (h1.ev rfl) hl100) ?_
 refine Tr.nil (Tr.zA ?_)
 refine Tr.seq ?_
 refine Tr.sr ?_
 refine Tr.mv rfl rfl ?_
 refine Tr.mv rfl rfl ?_
 refine Tr.va rfl (fun _ _ h1 h2 => run_eql (h1.ev rfl) (h1.ev rfl)) ?_
 refine Tr.nil (Tr.zA ?_)
 refine Tr.cond rfl H (fun H => ?_) (fun H => ?_)
 ·refine Tr.sr ?_
  refine Tr.mv rfl rfl ?_
  refine Tr.asg rfl rfl ?_
  refine Tr.nil (Tr.zA ?_)
  refine Tr.ret (Tr.zU ?_)
  obtain rfl := Option.some.inj H
  exact Tr.out (m := [(.slice Ap0_0 (p0).length cp0_0)]) [] (zL rfl zP) (fun W hW => ⟨w, (Ap0_0, cp0_0), leB, rfl, hfhp0_0, hW.pick (ks := [0]) (by decide) (zK rfl za)⟩)
 ·refine Tr.skip (Tr.zA ?_)
  refine Tr.sr ?_
  refine Tr.mv rfl rfl ?_
  refine Tr.va rfl (fun _ _ h1 h2 => zl un_23 (h1.ev rfl)) ?_
  refine Tr.asg rfl rfl ?_
  refine Tr.nil (Tr.zA ?_)
  refine Tr.seq ?_
  refine Tr.drawTail 6 (by kernel_rfl) (by kernel_rfl) ?_
  refine Tq.mv rfl rfl ?_
  refine Tq.mv rfl rfl ?_
  obtain ⟨l101, hl101, H⟩ := bnd H
  refine Tq.va rfl (fun _ _ h1 h2 => run_pre el_23 (h1.ev rfl) hfhp0_0 (h1.ev rfl) hl101) ?_
  refine Tq.mv rfl rfl ?_
  refine Tq.mv rfl rfl ?_
  obtain ⟨l102, hl102, H⟩ := bnd H
  refine Tq.va rfl (fun _ _ h1 h2 => run_cutL el_23 (h1.ev rfl) hfhp0_0 (h1.ev rfl) hl102) ?_
  refine Tq.nil ?_
  obtain ⟨z103, hz103, H⟩ := bnd H
  have hjz103 := leO_some hz103
  have hnz103 := shf_len hl101 hl102 hjz103
  have hpz103 := shf_pre hl101 hl102 hjz103
  refine Tr.appendShift 0 (t := zG) (l := p0) (l1 := l101) (l2 := l102) (wn rfl) rfl rfl rfl rfl hl101 hl102 hjz103 un_23 sz_46 ?_
  have hfz103 : SlF Ap0_0 (shf l101 l102 p0).length cp0_0 := by rw [hnz103]; exact hfhp0_0
  have hsz103 := hnz103.trans rfl
  refine Tr.sel (lf := [(0, (.slice Ap0_0 ((shf l101 l102 p0)).length cp0_0)), (1, (iv p1)), (2, (iv p2)), (6, (.slice none (([] : List zD)).length 0)), (7, (iv (p0.length : Int))), (8, (.slice Ap0_0 ((shf l101 l102 p0)).length cp0_0)), (9, (iv p1)), (10, (iv p2)), (11, (.slice Ap0_0 ((shf l101 l102 p0)).length cp0_0)), (12, (iv (p0.length : Int))), (13, (.slice (cutA Ap0_0 p1.toNat 8 p0.length) l100.length (p0.length - p1.toNat))), (14, (iv p1)), (15, (iv p2)), (16, (.bool (p1 == p2))), (18, (.slice Ap0_0 ((shf l101 l102 p0)).length cp0_0)), (19, (iv (p0.length : Int))), (20, (.slice Ap0_0 ((shf l101 l102 p0)).length cp0_0)), (21, (iv p1)), (23, (.slice Ap0_0 ((shf l101 l102 p0)).length cp0_0)), (24, (iv p2)), (26, (.slice Ap0_0 ((l101 ++ l102)).length cp0_0))]) (le := [(0, ow Ap0_0 cp0_0 46 zG (shf l101 l102 p0)), (1, ow none 0 46 zG ([] : List zD))]) (.cons (slenV rfl (by rw [hnz103])) (.cons rfl (.cons rfl (.cons rfl (.cons rfl (.cons (slenV rfl (by rw [hnz103])) (.cons rfl (.cons rfl (.cons (slenV rfl (by rw [hnz103])) (.cons rfl (.cons rfl (.cons rfl (.cons rfl (.cons rfl (.cons (slenV rfl (by rw [hnz103])) (.cons rfl (.cons (slenV rfl (by rw [hnz103])) (.cons rfl (.cons (slenV rfl (by rw [hnz103])) (.cons rfl (.cons rfl .nil))))))))))))))))))))) (.cons rfl (.cons rfl .nil)) ?_
  refine Tr.asg rfl rfl ?_
  refine Tr.nil (Tr.zA ?_)
  refine Tr.sr ?_
  refine Tr.mv rfl rfl ?_
  refine Tr.mv rfl rfl ?_
  refine Tr.va rfl (fun _ _ h1 h2 => zl un_23 (h1.ev rfl)) ?_
  refine Tr.mv rfl rfl ?_
  obtain ⟨l104, hl104, H⟩ := bnd H
  refine Tr.va rfl (fun _ _ h1 h2 => run_cutP el_23 (h1.ev rfl) hfz103 (h1.ev rfl) (h1.ev rfl) hl104) ?_
  have hyhcl104 : cut (shf l101 l102 p0) ((l101 ++ l102).length : Int) ((shf l101 l102 p0)).length = some l104 := by rw [hsz103]; exact hl104
  have hnhcl104 := clr_len (zD.mk 0 (⟨#[]⟩) (zJ.mk 0 0) [] 0 0 []) hyhcl104
  refine Tr.clearCut 0 (lo := ((l101 ++ l102).length : Int)) (t := zG) (l := (shf l101 l102 p0)) (zD.mk 0 (⟨#[]⟩) (zJ.mk 0 0) [] 0 0 []) (wn rfl) rfl hyhcl104 rfl un_23 ze_46 ⟨((none, 0), (none, 0)), (TPlotStep_ok.2 ⟨(Sl.nil _ _ _), (Sl.nil _ _ _)⟩), rfl⟩ rfl rfl ?_
  have hfhcl104 : SlF Ap0_0 ((clr (shf l101 l102 p0) ((l101 ++ l102).length : Int) (l104).length (zD.mk 0 (⟨#[]⟩) (zJ.mk 0 0) [] 0 0 []))).length cp0_0 := by rw [hnhcl104]; exact hfz103
  have hphcl104_0 := clr_pre (z := (zD.mk 0 (⟨#[]⟩) (zJ.mk 0 0) [] 0 0 [])) hyhcl104 hpz103
  have hphcl104_26 := clr_pre (z := (zD.mk 0 (⟨#[]⟩) (zJ.mk 0 0) [] 0 0 [])) hyhcl104 hpz103
  have hphcl104_27 := clr_pre (z := (zD.mk 0 (⟨#[]⟩) (zJ.mk 0 0) [] 0 0 [])) hyhcl104 hpz103
  have hphcl104_28 := clr_pre (z := (zD.mk 0 (⟨#[]⟩) (zJ.mk 0 0) [] 0 0 [])) hyhcl104 hpz103
  have hshcl104 := hnhcl104.trans hsz103
  refine Tr.sel (lf := [(0, (.slice Ap0_0 ((l101 ++ l102)).length cp0_0)), (1, (iv p1)), (2, (iv p2)), (6, (.slice none (([] : List zD)).length 0)), (7, (iv (p0.length : Int))), (8, (.slice Ap0_0 ((clr (shf l101 l102 p0) ((l101 ++ l102).length : Int) (l104).length (zD.mk 0 (⟨#[]⟩) (zJ.mk 0 0) [] 0 0 []))).length cp0_0)), (9, (iv p1)), (10, (iv p2)), (11, (.slice Ap0_0 ((clr (shf l101 l102 p0) ((l101 ++ l102).length : Int) (l104).length (zD.mk 0 (⟨#[]⟩) (zJ.mk 0 0) [] 0 0 []))).length cp0_0)), (12, (iv (p0.length : Int))), (13, (.slice (cutA Ap0_0 p1.toNat 8 p0.length) l100.length (p0.length - p1.toNat))), (14, (iv p1)), (15, (iv p2)), (16, (.bool (p1 == p2))), (18, (.slice Ap0_0 ((clr (shf l101 l102 p0) ((l101 ++ l102).length : Int) (l104).length (zD.mk 0 (⟨#[]⟩) (zJ.mk 0 0) [] 0 0 []))).length cp0_0)), (19, (iv (p0.length : Int))), (20, (.slice Ap0_0 ((clr (shf l101 l102 p0) ((l101 ++ l102).length : Int) (l104).length (zD.mk 0 (⟨#[]⟩) (zJ.mk 0 0) [] 0 0 []))).length cp0_0)), (21, (iv p1)), (23, (.slice Ap0_0 ((clr (shf l101 l102 p0) ((l101 ++ l102).length : Int) (l104).length (zD.mk 0 (⟨#[]⟩) (zJ.mk 0 0) [] 0 0 []))).length cp0_0)), (24, (iv p2)), (26, (.slice Ap0_0 ((l101 ++ l102)).length cp0_0)), (27, (.slice Ap0_0 ((l101 ++ l102)).length cp0_0)), (28, (.slice Ap0_0 ((l101 ++ l102)).length cp0_0)), (29, (iv ((l101 ++ l102).length : Int))), (30, (iv (p0.length : Int)))]) (le := [(0, ow Ap0_0 cp0_0 46 zG (clr (shf l101 l102 p0) ((l101 ++ l102).length : Int) (l104).length (zD.mk 0 (⟨#[]⟩) (zJ.mk 0 0) [] 0 0 []))), (1, ow none 0 46 zG ([] : List zD))]) (.cons rfl (.cons rfl (.cons rfl (.cons rfl (.cons rfl (.cons (slenV rfl (by rw [hnhcl104])) (.cons rfl (.cons rfl (.cons (slenV rfl (by rw [hnhcl104])) (.cons rfl (.cons rfl (.cons rfl (.cons rfl (.cons rfl (.cons (slenV rfl (by rw [hnhcl104])) (.cons rfl (.cons (slenV rfl (by rw [hnhcl104])) (.cons rfl (.cons (slenV rfl (by rw [hnhcl104])) (.cons rfl (.cons rfl (.cons rfl (.cons rfl (.cons rfl (.cons rfl .nil))))))))))))))))))))))))) (.cons rfl (.cons rfl .nil)) ?_
  refine Tr.nil (Tr.zA ?_)
  refine Tr.sr ?_
  refine Tr.mv rfl rfl ?_
  refine Tr.asg rfl rfl ?_
  refine Tr.nil (Tr.zA ?_)
  refine Tr.ret ?_
  obtain rfl := Option.some.inj H
  refine Tr.shrinkP 0 hphcl104_0 rfl ?_
  exact Tr.out (m := [(.slice Ap0_0 ((l101 ++ l102)).length cp0_0)]) [] (zL rfl zP) (fun W hW => ⟨w, (Ap0_0, cp0_0), leB, rfl, (pre_form hfhcl104 hphcl104_0), hW.pick (ks := [0]) (by decide) (zK rfl za)⟩)

theorem F_plot_Same_ok (N : Nat) {w : Bs} (p0 : TPlot) (Ap0_0 : Option Addr) (cp0_0 : Nat) (hp0_0 : Sl w.O w.W zh Ap0_0 cp0_0 p0.Tools) (Ap0_1 : Option Addr) (cp0_1 : Nat) (hp0_1 : Sl w.O w.W zG Ap0_1 cp0_1 p0.Steps) (p1 : TPlot) (Ap1_0 : Option Addr) (cp1_0 : Nat) (hp1_0 : Sl w.O w.W zh Ap1_0 cp1_0 p1.Tools) (Ap1_1 : Option Addr) (cp1_1 : Nat) (hp1_1 : Sl w.O w.W zG Ap1_1 cp1_1 p1.Steps) (r : (Bool × Int)) (H : F_plot_Same N p0 p1 = some r) (hE : HF w w.W E0) : Calls Tryz.prog 15 [(.agg #[(iv p0.Unit), (.slice Ap0_0 (p0.Tools).length cp0_0), (.slice Ap0_1 (p0.Steps).length cp0_1)]), (.agg #[(iv p1.Unit), (.slice Ap1_0 (p1.Tools).length cp1_0), (.slice Ap1_1 (p1.Steps).length cp1_1)])].toArray w.W fun e W' => e = .returned (.tuple #[(.bool r.1), (iv r.2)]) ∧ HF w W' E0 := by
 unfold F_plot_Same at H
 have leB := Bs.Le.refl w
 refine Tr.enter (n := 40) Tryz.func15 rfl rfl rfl hE ?_
 refine Tr.sr ?_
 refine Tr.box 1 (cs := [(iv p0.Unit), (.slice Ap0_0 (p0.Tools).length cp0_0), (.slice Ap0_1 (p0.Steps).length cp0_1)]) (wn rfl) rfl rfl rfl fun b100 => ?_
 refine Tr.box 2 (cs := [(iv p1.Unit), (.slice Ap1_0 (p1.Tools).length cp1_0), (.slice Ap1_1 (p1.Steps).length cp1_1)]) (wn rfl) rfl rfl rfl fun b101 => ?_
 refine Tr.asg rfl rfl ?_
 refine Tr.asg rfl rfl ?_
 refine Tr.nil (Tr.zA ?_)
 refine Tr.seq ?_
 refine Tr.sr ?_
 refine Tr.va rfl (fun _ _ h1 h2 => zQ (cs := [(iv p0.Unit), (.slice Ap0_0 (p0.Tools).length cp0_0), (.slice Ap0_1 (p0.Steps).length cp0_1)]) ag_25 sz_25 (h1.ev rfl) (zO.take (rdb h2 (vs := [(iv p0.Unit), (.slice Ap0_0 (p0.Tools).length cp0_0), (.slice Ap0_1 (p0.Steps).length cp0_1)]) (k := 1) rfl 0) 3) rfl) ?_
 obtain ⟨y102, hy102, H⟩ := bnd H
 refine Tr.call0 (r := (iv y102)) (wn rfl) rfl Tryz.call21 (zF rfl zN) (fun W hW => F_plot_CheckPlot_ok N p0 Ap0_0 cp0_0 (hp0_0.rl.ext hW.extAll) Ap0_1 cp0_1 (hp0_1.rl.ext hW.extAll) y102 hy102 (HF.start _)) ?_
 refine Tr.asg rfl rfl ?_
 refine Tr.nil (Tr.zA ?_)
 refine Tr.sr ?_
 refine Tr.mv rfl rfl ?_
 refine Tr.va rfl (fun _ _ h1 h2 => run_neq (h1.ev rfl) (h1.ev rfl)) ?_
 refine Tr.nil (Tr.zA ?_)
 refine Tr.cond rfl H (fun H => ?_) (fun H => ?_)
 ·refine Tr.sr ?_
  refine Tr.mv rfl rfl ?_
  refine Tr.asg rfl rfl ?_
  refine Tr.asg rfl rfl ?_
  refine Tr.nil (Tr.zA ?_)
  refine Tr.ret (Tr.zU ?_)
  obtain rfl := Option.some.inj H
  exact Tr.out (m := [(.bool false), (iv y102)]) [] (zL rfl (zL rfl zP)) (fun W hW => ⟨rfl, hW.low leB⟩)
 ·refine Tr.skip (Tr.zA ?_)
  refine Tr.seq ?_
  refine Tr.sr ?_
  refine Tr.va rfl (fun _ _ h1 h2 => zQ (cs := [(iv p1.Unit), (.slice Ap1_0 (p1.Tools).length cp1_0), (.slice Ap1_1 (p1.Steps).length cp1_1)]) ag_25 sz_25 (h1.ev rfl) (zO.take (rdb h2 (vs := [(iv p1.Unit), (.slice Ap1_0 (p1.Tools).length cp1_0), (.slice Ap1_1 (p1.Steps).length cp1_1)]) (k := 2) rfl 0) 3) rfl) ?_
  obtain ⟨y103, hy103, H⟩ := bnd H
  refine Tr.call0 (r := (iv y103)) (wn rfl) rfl Tryz.call21 (zF rfl zN) (fun W hW => F_plot_CheckPlot_ok N p1 Ap1_0 cp1_0 (hp1_0.rl.ext hW.extAll) Ap1_1 cp1_1 (hp1_1.rl.ext hW.extAll) y103 hy103 (HF.start _)) ?_
  refine Tr.asg rfl rfl ?_
  refine Tr.nil (Tr.zA ?_)
  refine Tr.sr ?_
  refine Tr.mv rfl rfl ?_
  refine Tr.va rfl (fun _ _ h1 h2 => run_neq (h1.ev rfl) (h1.ev rfl)) ?_
  refine Tr.nil (Tr.zA ?_)
  refine Tr.cond rfl H (fun H => ?_) (fun H => ?_)
  ·refine Tr.sr ?_
   refine Tr.mv rfl rfl ?_
   refine Tr.asg rfl rfl ?_
   refine Tr.asg rfl rfl ?_
   refine Tr.nil (Tr.zA ?_)
   refine Tr.ret (Tr.zU ?_)
   obtain rfl := Option.some.inj H
   exact Tr.out (m := [(.bool false), (iv y103)]) [] (zL rfl (zL rfl zP)) (fun W hW => ⟨rfl, hW.low leB⟩)
  ·refine Tr.skip (Tr.zA ?_)
   refine Tr.sr ?_
   refine Tr.va rfl (fun _ _ h1 h2 => zQ (cs := [(iv p0.Unit), (.slice Ap0_0 (p0.Tools).length cp0_0), (.slice Ap0_1 (p0.Steps).length cp0_1)]) ag_25 sz_25 (h1.ev rfl) (zO.take (rdb h2 (vs := [(iv p0.Unit), (.slice Ap0_0 (p0.Tools).length cp0_0), (.slice Ap0_1 (p0.Steps).length cp0_1)]) (k := 1) rfl 0) 3) rfl) ?_
   obtain ⟨y104, hy104, H⟩ := bnd H
   refine Tr.callM [3] [emp] (U := (Option Addr × Nat)) (fun u => (.tuple #[(.slice u.1 (y104.1).length u.2), (iv y104.2)])) (fun u => SlF u.1 (y104.1).length u.2) (fun u => [ow u.1 u.2 36 zM y104.1]) rfl (zK rfl za) (fun _ => rfl) (wn rfl) rfl Tryz.call10 (zF rfl zN) (fun W hW hp hE => F_plot_Image_ok N p0 Ap0_0 cp0_0 (hp0_0.extO (hW.extS hp)) Ap0_1 cp0_1 (hp0_1.extO (hW.extS hp)) y104 hy104 hE) ?_
   intro u hu
   obtain ⟨Ay104_0, cy104_0⟩ := u
   have gy104_0 := hu
   have hgy104_0 : SlF Ay104_0 (y104.1).length cy104_0 := gy104_0 --@phi
   show Tr _ _ (uf _ 23 (.tuple #[(.slice Ay104_0 (y104.1).length cy104_0), (iv y104.2)])) (up _ 3 (ow Ay104_0 cy104_0 36 zM y104.1)) _
   refine Tr.mv rfl rfl ?_
   refine Tr.va rfl (fun _ _ h1 h2 => run_extract (h1.ev rfl) rfl) ?_
   refine Tr.va rfl (fun _ _ h1 h2 => run_extract (h1.ev rfl) rfl) ?_
   refine Tr.asg rfl rfl ?_
   refine Tr.asg rfl rfl ?_
   refine Tr.nil (Tr.zA ?_)
   refine Tr.seq ?_
   refine Tr.sr ?_
   refine Tr.mv rfl rfl ?_
   refine Tr.va rfl (fun _ _ h1 h2 => run_neq (h1.ev rfl) (h1.ev rfl)) ?_
   refine Tr.nil (Tr.zA ?_)
   refine Tr.cond rfl H (fun H => ?_) (fun H => ?_)
   ·refine Tr.sr ?_
    refine Tr.mv rfl rfl ?_
    refine Tr.asg rfl rfl ?_
    refine Tr.asg rfl rfl ?_
    refine Tr.nil (Tr.zA ?_)
    refine Tr.ret (Tr.zU ?_)
    obtain rfl := Option.some.inj H
    exact Tr.out (m := [(.bool false), (iv y104.2)]) [] (zL rfl (zL rfl zP)) (fun W hW => ⟨rfl, hW.low leB⟩)
   ·refine Tr.skip (Tr.zA ?_)
    refine Tr.sr ?_
    refine Tr.va rfl (fun _ _ h1 h2 => zQ (cs := [(iv p1.Unit), (.slice Ap1_0 (p1.Tools).length cp1_0), (.slice Ap1_1 (p1.Steps).length cp1_1)]) ag_25 sz_25 (h1.ev rfl) (zO.take (rdb h2 (vs := [(iv p1.Unit), (.slice Ap1_0 (p1.Tools).length cp1_0), (.slice Ap1_1 (p1.Steps).length cp1_1)]) (k := 2) rfl 0) 3) rfl) ?_
    obtain ⟨y106, hy106, H⟩ := bnd H
    refine Tr.callM [4] [emp] (U := (Option Addr × Nat)) (fun u => (.tuple #[(.slice u.1 (y106.1).length u.2), (iv y106.2)])) (fun u => SlF u.1 (y106.1).length u.2) (fun u => [ow u.1 u.2 36 zM y106.1]) rfl (zK rfl za) (fun _ => rfl) (wn rfl) rfl Tryz.call10 (zF rfl zN) (fun W hW hp hE => F_plot_Image_ok N p1 Ap1_0 cp1_0 (hp1_0.extO (hW.extS hp)) Ap1_1 cp1_1 (hp1_1.extO (hW.extS hp)) y106 hy106 hE) ?_
    intro u hu
    obtain ⟨Ay106_0, cy106_0⟩ := u
    have gy106_0 := hu
    have hgy106_0 : SlF Ay106_0 (y106.1).length cy106_0 := gy106_0 --@phi
    show Tr _ _ (uf _ 31 (.tuple #[(.slice Ay106_0 (y106.1).length cy106_0), (iv y106.2)])) (up _ 4 (ow Ay106_0 cy106_0 36 zM y106.1)) _
    refine Tr.mv rfl rfl ?_
    refine Tr.va rfl (fun _ _ h1 h2 => run_extract (h1.ev rfl) rfl) ?_
    refine Tr.va rfl (fun _ _ h1 h2 => run_extract (h1.ev rfl) rfl) ?_
    refine Tr.asg rfl rfl ?_
    refine Tr.asg rfl rfl ?_
    refine Tr.nil (Tr.zA ?_)
    refine Tr.seq ?_
    refine Tr.sr ?_
    refine Tr.mv rfl rfl ?_
    refine Tr.va rfl (fun _ _ h1 h2 => run_neq (h1.ev rfl) (h1.ev rfl)) ?_
    refine Tr.nil (Tr.zA ?_)
    refine Tr.cond rfl H (fun H => ?_) (fun H => ?_)
    ·refine Tr.sr ?_
     refine Tr.mv rfl rfl ?_
     refine Tr.asg rfl rfl ?_
     refine Tr.asg rfl rfl ?_
     refine Tr.nil (Tr.zA ?_)
     refine Tr.ret (Tr.zU ?_)
     obtain rfl := Option.some.inj H
     exact Tr.out (m := [(.bool false), (iv y106.2)]) [] (zL rfl (zL rfl zP)) (fun W hW => ⟨rfl, hW.low leB⟩)
    ·refine Tr.skip (Tr.zA ?_)
     refine Tr.sr ?_
     refine Tr.mv rfl rfl ?_
     refine Tr.mv rfl rfl ?_
     obtain ⟨y108, hy108, H⟩ := bnd H
     refine Tr.call0 (r := (.bool y108)) (wn rfl) rfl Tryz.call11 (zF rfl (zF rfl zN)) (fun W hW => F_slices_Equal_Rect_ok y104.1 Ay104_0 cy104_0 (hW.slCall (k := 3) rfl) y106.1 Ay106_0 cy106_0 (hW.slCall (k := 4) rfl) y108 hy108 (HF.start _)) ?_
     refine Tr.asg rfl rfl ?_
     refine Tr.asg rfl rfl ?_
     refine Tr.nil (Tr.zA ?_)
     refine Tr.ret ?_
     obtain rfl := Option.some.inj H
     exact Tr.out (m := [(.bool y108), (iv 0)]) [] (zL rfl (zL rfl zP)) (fun W hW => ⟨rfl, hW.low leB⟩)

theorem F_etchhouselaw3_PlotsNeedlessCanGo_ok (N : Nat) {w : Bs} (p0 : TPlot) (Ap0_0 : Option Addr) (cp0_0 : Nat) (hp0_0 : Sl w.O w.W zh Ap0_0 cp0_0 p0.Tools) (Ap0_1 : Option Addr) (cp0_1 : Nat) (hp0_1 : Sl w.O w.W zG Ap0_1 cp0_1 p0.Steps) (p1 : Int) (r : Bool) (H : F_etchhouselaw3_PlotsNeedlessCanGo N p0 p1 = some r) (hE : HF w w.W E0) : Calls Tryz.prog 4 [(.agg #[(iv p0.Unit), (.slice Ap0_0 (p0.Tools).length cp0_0), (.slice Ap0_1 (p0.Steps).length cp0_1)]), (iv p1)].toArray w.W fun e W' => e = .returned (.bool r) ∧ HF w W' E0 := by
 unfold F_etchhouselaw3_PlotsNeedlessCanGo at H
 have leB := Bs.Le.refl w
 refine Tr.enter (n := 80) Tryz.func4 rfl rfl rfl hE ?_
 refine Tr.sr ?_
 refine Tr.box 1 (cs := [(iv p0.Unit), (.slice Ap0_0 (p0.Tools).length cp0_0), (.slice Ap0_1 (p0.Steps).length cp0_1)]) (wn rfl) rfl rfl rfl fun b100 => ?_
 refine Tr.asg rfl rfl ?_
 refine Tr.nil (Tr.zA ?_)
 refine Tr.sr ?_
 refine Tr.va rfl (fun _ _ h1 h2 => zQ (cs := [(iv p0.Unit), (.slice Ap0_0 (p0.Tools).length cp0_0), (.slice Ap0_1 (p0.Steps).length cp0_1)]) ag_25 sz_25 (h1.ev rfl) (zO.take (rdb h2 (vs := [(iv p0.Unit), (.slice Ap0_0 (p0.Tools).length cp0_0), (.slice Ap0_1 (p0.Steps).length cp0_1)]) (k := 1) rfl 0) 3) rfl) ?_
 obtain ⟨y101, hy101, H⟩ := bnd H
 refine Tr.callM [2] [emp] (U := (Option Addr × Nat)) (fun u => (.tuple #[(.slice u.1 (y101.1).length u.2), (iv y101.2)])) (fun u => SlF u.1 (y101.1).length u.2) (fun u => [ow u.1 u.2 3 zX y101.1]) rfl (zK rfl za) (fun _ => rfl) (wn rfl) rfl Tryz.call12 (zF rfl zN) (fun W hW hp hE => F_plot_Needless_ok N p0 Ap0_0 cp0_0 (hp0_0.extO (hW.extS hp)) Ap0_1 cp0_1 (hp0_1.extO (hW.extS hp)) y101 hy101 hE) ?_
 intro u hu
 obtain ⟨Ay101_0, cy101_0⟩ := u
 have gy101_0 := hu
 have hgy101_0 : SlF Ay101_0 (y101.1).length cy101_0 := gy101_0 --@phi
 show Tr _ _ (uf _ 11 (.tuple #[(.slice Ay101_0 (y101.1).length cy101_0), (iv y101.2)])) (up _ 2 (ow Ay101_0 cy101_0 3 zX y101.1)) _
 refine Tr.mv rfl rfl ?_
 refine Tr.va rfl (fun _ _ h1 h2 => run_extract (h1.ev rfl) rfl) ?_
 refine Tr.va rfl (fun _ _ h1 h2 => run_extract (h1.ev rfl) rfl) ?_
 refine Tr.asg rfl rfl ?_
 refine Tr.asg rfl rfl ?_
 refine Tr.nil (Tr.zA ?_)
 refine Tr.seq ?_
 refine Tr.sr ?_
 refine Tr.mv rfl rfl ?_
 refine Tr.va rfl (fun _ _ h1 h2 => run_neq (h1.ev rfl) (h1.ev rfl)) ?_
 refine Tr.mv rfl rfl ?_
 refine Tr.mid0 3 [(1, (iv p1)), (2, (.pointer (some ⟨b100, 0, none⟩))), (5, (.slice Ay101_0 (y101.1).length cy101_0)), (6, (iv y101.2)), (19, (.bool ((y101.2 != 0) || (decide (p1 < 0)))))] [(1, bx b100 #[(iv p0.Unit), (.slice Ap0_0 (p0.Tools).length cp0_0), (.slice Ap0_1 (p0.Steps).length cp0_1)] 25), (2, ow Ay101_0 cy101_0 3 zX y101.1)] ?_ ?_
 ·cases hg123 : (y101.2 != 0)
  ·refine Tr.val (wg rfl rfl rfl) rfl (fun _ _ h1 h2 => run_move (h1.ev rfl)) ?_
   refine Tr.val (wg rfl rfl rfl) rfl (fun _ _ h1 h2 => zn (h1.ev rfl) (h1.ev rfl)) ?_
   refine Tr.va rfl (fun _ _ h1 h2 => ze (h1.ev rfl) (h1.ev rfl)) ?_
   exact Tr.nil (Tr.fin0 (.cons rfl (.cons rfl (.cons rfl (.cons rfl (.cons rfl .nil))))) (.cons rfl (.cons rfl .nil)))
  ·refine Tr.pass rfl rfl rfl rfl rfl (by decide) ?_
   refine Tr.pass rfl rfl rfl rfl rfl (by decide) ?_
   refine Tr.va rfl (fun _ _ h1 h2 => zb (h1.ev rfl) (h1.ev rfl)) ?_
   exact Tr.nil (Tr.fin0 (.cons rfl (.cons rfl (.cons rfl (.cons rfl (.cons rfl .nil))))) (.cons rfl (.cons rfl .nil)))
 ·show Tr _ _ (LF [(1, (iv p1)), (2, (.pointer (some ⟨b100, 0, none⟩))), (5, (.slice Ay101_0 (y101.1).length cy101_0)), (6, (iv y101.2)), (19, (.bool ((y101.2 != 0) || (decide (p1 < 0)))))]) (LE [(1, bx b100 #[(iv p0.Unit), (.slice Ap0_0 (p0.Tools).length cp0_0), (.slice Ap0_1 (p0.Steps).length cp0_1)] 25), (2, ow Ay101_0 cy101_0 3 zX y101.1)]) _
  refine Tr.mv rfl rfl ?_
  refine Tr.mid0 5 [(1, (iv p1)), (2, (.pointer (some ⟨b100, 0, none⟩))), (5, (.slice Ay101_0 (y101.1).length cy101_0)), (6, (iv y101.2)), (25, (.bool (((y101.2 != 0) || (decide (p1 < 0))) || (decide ((y101.1.length : Int) ≤ p1)))))] [(1, bx b100 #[(iv p0.Unit), (.slice Ap0_0 (p0.Tools).length cp0_0), (.slice Ap0_1 (p0.Steps).length cp0_1)] 25), (2, ow Ay101_0 cy101_0 3 zX y101.1)] ?_ ?_
  ·cases hg123 : ((y101.2 != 0) || (decide (p1 < 0)))
   ·refine Tr.val (wg rfl rfl rfl) rfl (fun _ _ h1 h2 => run_move (h1.ev rfl)) ?_
    refine Tr.val (wg rfl rfl rfl) rfl (fun _ _ h1 h2 => run_move (h1.ev rfl)) ?_
    refine Tr.val (wg rfl rfl rfl) rfl (fun _ _ h1 h2 => zl un_38 (h1.ev rfl)) ?_
    refine Tr.val (wg rfl rfl rfl) rfl (fun _ _ h1 h2 => run_geq (h1.ev rfl) (h1.ev rfl)) ?_
    refine Tr.va rfl (fun _ _ h1 h2 => ze (h1.ev rfl) (h1.ev rfl)) ?_
    exact Tr.nil (Tr.fin0 (.cons rfl (.cons rfl (.cons rfl (.cons rfl (.cons rfl .nil))))) (.cons rfl (.cons rfl .nil)))
   ·refine Tr.pass rfl rfl rfl rfl rfl (by decide) ?_
    refine Tr.pass rfl rfl rfl rfl rfl (by decide) ?_
    refine Tr.pass rfl rfl rfl rfl rfl (by decide) ?_
    refine Tr.pass rfl rfl rfl rfl rfl (by decide) ?_
    refine Tr.va rfl (fun _ _ h1 h2 => zb (h1.ev rfl) (h1.ev rfl)) ?_
    exact Tr.nil (Tr.fin0 (.cons rfl (.cons rfl (.cons rfl (.cons rfl (.cons rfl .nil))))) (.cons rfl (.cons rfl .nil)))
  ·show Tr _ _ (LF [(1, (iv p1)), (2, (.pointer (some ⟨b100, 0, none⟩))), (5, (.slice Ay101_0 (y101.1).length cy101_0)), (6, (iv y101.2)), (25, (.bool (((y101.2 != 0) || (decide (p1 < 0))) || (decide ((y101.1.length : Int) ≤ p1)))))]) (LE [(1, bx b100 #[(iv p0.Unit), (.slice Ap0_0 (p0.Tools).length cp0_0), (.slice Ap0_1 (p0.Steps).length cp0_1)] 25), (2, ow Ay101_0 cy101_0 3 zX y101.1)]) _
   refine Tr.nil (Tr.zA ?_)
   refine Tr.cond rfl H (fun H => ?_) (fun H => ?_)
   ·refine Tr.sr ?_
    refine Tr.mv rfl rfl ?_
    refine Tr.va rfl (fun _ _ h1 h2 => run_eql (h1.ev rfl) (h1.ev rfl)) ?_
    refine Tr.mv rfl rfl ?_
    refine Tr.mid0 4 [(32, (.bool ((y101.2 == 0) || ((y101.1.length : Int) == 0))))] [(1, bx b100 #[(iv p0.Unit), (.slice Ap0_0 (p0.Tools).length cp0_0), (.slice Ap0_1 (p0.Steps).length cp0_1)] 25), (2, ow Ay101_0 cy101_0 3 zX y101.1)] ?_ ?_
    ·cases hg105 : (y101.2 == 0)
     ·refine Tr.val (wg rfl rfl rfl) rfl (fun _ _ h1 h2 => run_move (h1.ev rfl)) ?_
      refine Tr.val (wg rfl rfl rfl) rfl (fun _ _ h1 h2 => zl un_38 (h1.ev rfl)) ?_
      refine Tr.val (wg rfl rfl rfl) rfl (fun _ _ h1 h2 => run_eql (h1.ev rfl) (h1.ev rfl)) ?_
      refine Tr.va rfl (fun _ _ h1 h2 => ze (h1.ev rfl) (h1.ev rfl)) ?_
      exact Tr.nil (Tr.fin0 (.cons rfl .nil) (.cons rfl (.cons rfl .nil)))
     ·refine Tr.pass rfl rfl rfl rfl rfl (by decide) ?_
      refine Tr.pass rfl rfl rfl rfl rfl (by decide) ?_
      refine Tr.pass rfl rfl rfl rfl rfl (by decide) ?_
      refine Tr.va rfl (fun _ _ h1 h2 => zb (h1.ev rfl) (h1.ev rfl)) ?_
      exact Tr.nil (Tr.fin0 (.cons rfl .nil) (.cons rfl (.cons rfl .nil)))
    ·show Tr _ _ (LF [(32, (.bool ((y101.2 == 0) || ((y101.1.length : Int) == 0))))]) (LE [(1, bx b100 #[(iv p0.Unit), (.slice Ap0_0 (p0.Tools).length cp0_0), (.slice Ap0_1 (p0.Steps).length cp0_1)] 25), (2, ow Ay101_0 cy101_0 3 zX y101.1)]) _
     refine Tr.mv rfl rfl ?_
     obtain ⟨g104, hg104, H⟩ := bnd H
     refine Tr.mid0 2 [(35, (.bool g104))] [(1, bx b100 #[(iv p0.Unit), (.slice Ap0_0 (p0.Tools).length cp0_0), (.slice Ap0_1 (p0.Steps).length cp0_1)] 25), (2, ow Ay101_0 cy101_0 3 zX y101.1)] ?_ ?_
     ·cases hg105 : ((y101.2 == 0) || ((y101.1.length : Int) == 0))
      ·rw [hg105] at hg104
       rw [if_neg (by decide)] at hg104
       have H := hg104
       obtain rfl := Option.some.inj H
       refine Tr.pass rfl rfl rfl rfl rfl (by decide) ?_
       refine Tr.va rfl (fun _ _ h1 h2 => ze (h1.ev rfl) (h1.ev rfl)) ?_
       exact Tr.nil (Tr.fin0 (.cons rfl .nil) (.cons rfl (.cons rfl .nil)))
      ·rw [hg105] at hg104
       rw [if_pos rfl] at hg104
       have H := hg104
       obtain ⟨y105, hy105, H⟩ := bnd H
       refine Tr.call0 (r := (.bool y105)) (wg rfl rfl rfl) rfl Tryz.call8 zN (fun W hW => F_etchhouselaw3_awake_ok N y105 hy105 (HF.start _)) ?_
       refine Tr.va rfl (fun _ _ h1 h2 => zb (h1.ev rfl) (h1.ev rfl)) ?_
       obtain rfl := Option.some.inj H
       exact Tr.nil (Tr.fin0 (.cons rfl .nil) (.cons rfl (.cons rfl .nil)))
     ·show Tr _ _ (LF [(35, (.bool g104))]) (LE [(1, bx b100 #[(iv p0.Unit), (.slice Ap0_0 (p0.Tools).length cp0_0), (.slice Ap0_1 (p0.Steps).length cp0_1)] 25), (2, ow Ay101_0 cy101_0 3 zX y101.1)]) _
      refine Tr.asg rfl rfl ?_
      refine Tr.nil (Tr.zA ?_)
      refine Tr.ret (Tr.zU ?_)
      obtain rfl := Option.some.inj H
      exact Tr.out (m := [(.bool g104)]) [] (zL rfl zP) (fun W hW => ⟨rfl, hW.low leB⟩)
   ·refine Tr.skip (Tr.zA ?_)
    refine Tr.seq ?_
    refine Tr.seq ?_
    refine Tr.draw (by kernel_rfl) (by kernel_rfl) ?_
    refine Tq.mv rfl rfl ?_
    refine Tq.mv rfl rfl ?_
    obtain ⟨x106, hx106, H⟩ := bnd H
    obtain ⟨hx1060, hx1061, hx1062⟩ := zq hx106
    refine Tq.va rfl (fun _ _ h1 h2 => zI el_38 (h1.ev rfl) hgy101_0 (h1.ev rfl) hx1060 hx1061) ?_
    refine Tq.va rfl (fun _ _ h1 h2 => zC ag_3 (h1.ev rfl) (rdo ef_i64 (k := 2) h2 rfl hx1062) rfl) ?_
    refine Tq.va rfl (fun _ _ h1 h2 => zn (h1.ev rfl) (h1.ev rfl)) ?_
    refine Tq.mv rfl rfl ?_
    obtain ⟨g108, hg108, H⟩ := bnd H
    refine Tq.mid 9 [(1, (iv p1)), (2, (.pointer (some ⟨b100, 0, none⟩))), (5, (.slice Ay101_0 (y101.1).length cy101_0)), (50, (.bool g108))] ?_ ?_
    ·cases hg123 : (decide (x106 < 0))
     ·rw [hg123] at hg108
      rw [if_neg (by decide)] at hg108
      have H := hg108
      refine Tq.val (wg rfl rfl rfl) rfl (fun _ _ h1 h2 => run_move (h1.ev rfl)) ?_
      refine Tq.val (wg rfl rfl rfl) rfl (fun _ _ h1 h2 => run_move (h1.ev rfl)) ?_
      obtain ⟨x109, hx109, H⟩ := bnd H
      obtain ⟨hx1090, hx1091, hx1092⟩ := zq hx109
      refine Tq.val (wg rfl rfl rfl) rfl (fun _ _ h1 h2 => zI el_38 (h1.ev rfl) hgy101_0 (h1.ev rfl) hx1090 hx1091) ?_
      refine Tq.val (wg rfl rfl rfl) rfl (fun _ _ h1 h2 => zC ag_3 (h1.ev rfl) (rdo ef_i64 (k := 2) h2 rfl hx1092) rfl) ?_
      refine Tq.val (wg rfl rfl rfl) rfl (fun _ _ h1 h2 => zB fo_25_2 (h1.ev rfl)) ?_
      refine Tq.val (wg rfl rfl rfl) rfl (fun _ _ h1 h2 => zC ag_23 (h1.ev rfl) (rdb h2 (vs := [(iv p0.Unit), (.slice Ap0_0 (p0.Tools).length cp0_0), (.slice Ap0_1 (p0.Steps).length cp0_1)]) (k := 1) rfl 2) rfl) ?_
      refine Tq.val (wg rfl rfl rfl) rfl (fun _ _ h1 h2 => zl un_23 (h1.ev rfl)) ?_
      refine Tq.val (wg rfl rfl rfl) rfl (fun _ _ h1 h2 => run_geq (h1.ev rfl) (h1.ev rfl)) ?_
      refine Tq.va rfl (fun _ _ h1 h2 => ze (h1.ev rfl) (h1.ev rfl)) ?_
      obtain rfl := Option.some.inj H
      exact Tq.fin (.cons rfl (.cons rfl (.cons rfl (.cons rfl .nil))))
     ·rw [hg123] at hg108
      rw [if_pos rfl] at hg108
      have H := hg108
      obtain rfl := Option.some.inj H
      refine Tq.pass rfl rfl rfl rfl rfl (by decide) ?_
      refine Tq.pass rfl rfl rfl rfl rfl (by decide) ?_
      refine Tq.pass rfl rfl rfl rfl rfl (by decide) ?_
      refine Tq.pass rfl rfl rfl rfl rfl (by decide) ?_
      refine Tq.pass rfl rfl rfl rfl rfl (by decide) ?_
      refine Tq.pass rfl rfl rfl rfl rfl (by decide) ?_
      refine Tq.pass rfl rfl rfl rfl rfl (by decide) ?_
      refine Tq.pass rfl rfl rfl rfl rfl (by decide) ?_
      refine Tq.va rfl (fun _ _ h1 h2 => zb (h1.ev rfl) (h1.ev rfl)) ?_
      exact Tq.fin (.cons rfl (.cons rfl (.cons rfl (.cons rfl .nil))))
    ·refine Tq.nil (Tr.zA ?_)
     refine Tr.cond rfl H (fun H => ?_) (fun H => ?_)
     ·refine Tr.sr ?_
      refine Tr.asg rfl rfl ?_
      refine Tr.nil (Tr.zA ?_)
      refine Tr.ret (Tr.zU ?_)
      obtain rfl := Option.some.inj H
      exact Tr.out (m := [(.bool false)]) [] (zL rfl zP) (fun W hW => ⟨rfl, hW.low leB⟩)
     ·refine Tr.skip (Tr.zA ?_)
      refine Tr.sr ?_
      refine Tr.va rfl (fun _ _ h1 h2 => zQ (cs := [(iv p0.Unit), (.slice Ap0_0 (p0.Tools).length cp0_0), (.slice Ap0_1 (p0.Steps).length cp0_1)]) ag_25 sz_25 (h1.ev rfl) (zO.take (rdb h2 (vs := [(iv p0.Unit), (.slice Ap0_0 (p0.Tools).length cp0_0), (.slice Ap0_1 (p0.Steps).length cp0_1)]) (k := 1) rfl 0) 3) rfl) ?_
      refine Tr.alloc 3 (wn rfl) rfl ze_25 fun b110 => ?_
      refine Tr.store 3 (cs := [(iv p0.Unit), (.slice Ap0_0 (p0.Tools).length cp0_0), (.slice Ap0_1 (p0.Steps).length cp0_1)]) [(iv p0.Unit), (.slice Ap0_0 (p0.Tools).length cp0_0), (.slice Ap0_1 (p0.Steps).length cp0_1)] (wn rfl) rfl rfl rfl rfl sz_25 rfl rfl rfl ?_
      refine Tr.nil (Tr.zA ?_)
      refine Tr.seq ?_
      refine Tr.drawC 12 [] [] (by kernel_rfl) (by kernel_rfl) fun sz111 hlosz111 hEsz111 => ?_
      refine Dr.quiet 0 [(52, (.pointer (some ⟨b100, 2, none⟩)))] (by kernel_rfl) rfl rfl (by kernel_rfl) ?_ rfl rfl ?_
      ·refine Tq.va rfl (fun _ _ h1 h2 => zB fo_25_2 (h1.ev rfl)) ?_
       exact Tq.fin (.cons rfl .nil)
      refine Dr.quiet 1 [(53, (.slice Ap0_1 (p0.Steps).length cp0_1))] (by kernel_rfl) rfl rfl (by kernel_rfl) ?_ rfl rfl ?_
      ·refine Tq.va rfl (fun _ _ h1 h2 => zC ag_23 (h1.ev rfl) (rdb h2 (vs := [(iv p0.Unit), (.slice Ap0_0 (p0.Tools).length cp0_0), (.slice Ap0_1 (p0.Steps).length cp0_1)]) (k := 1) rfl 2) rfl) ?_
       exact Tq.fin (.cons rfl .nil)
      refine Dr.quiet 3 [(55, (.slice Ay101_0 (y101.1).length cy101_0))] (by kernel_rfl) rfl rfl (by kernel_rfl) ?_ rfl rfl ?_
      ·refine Tq.mv rfl rfl ?_
       exact Tq.fin (.cons rfl .nil)
      refine Dr.quiet 4 [(56, (iv p1))] (by kernel_rfl) rfl rfl (by kernel_rfl) ?_ rfl rfl ?_
      ·refine Tq.mv rfl rfl ?_
       exact Tq.fin (.cons rfl .nil)
      obtain ⟨x112, hx112, H⟩ := bnd H
      obtain ⟨hx1120, hx1121, hx1122⟩ := zq hx112
      refine Dr.quiet 5 [(57, (.pointer (some ⟨adB Ay101_0, adO Ay101_0 + (p1).toNat * 1, none⟩)))] (by kernel_rfl) rfl rfl (by kernel_rfl) ?_ rfl rfl ?_
      ·refine Tq.va rfl (fun _ _ h1 h2 => zI el_38 (h1.ev rfl) hgy101_0 (h1.ev rfl) hx1120 hx1121) ?_
       exact Tq.fin (.cons rfl .nil)
      refine Dr.quiet 6 [(58, (iv x112))] (by kernel_rfl) rfl rfl (by kernel_rfl) ?_ rfl rfl ?_
      ·refine Tq.va rfl (fun _ _ h1 h2 => zC ag_3 (h1.ev rfl) (rdo ef_i64 (k := 2) h2 rfl hx1122) rfl) ?_
       exact Tq.fin (.cons rfl .nil)
      refine Dr.quiet 7 [(59, (.slice Ay101_0 (y101.1).length cy101_0))] (by kernel_rfl) rfl rfl (by kernel_rfl) ?_ rfl rfl ?_
      ·refine Tq.mv rfl rfl ?_
       exact Tq.fin (.cons rfl .nil)
      refine Dr.quiet 8 [(60, (iv p1))] (by kernel_rfl) rfl rfl (by kernel_rfl) ?_ rfl rfl ?_
      ·refine Tq.mv rfl rfl ?_
       exact Tq.fin (.cons rfl .nil)
      obtain ⟨x113, hx113, H⟩ := bnd H
      obtain ⟨hx1130, hx1131, hx1132⟩ := zq hx113
      refine Dr.quiet 9 [(61, (.pointer (some ⟨adB Ay101_0, adO Ay101_0 + (p1).toNat * 1, none⟩)))] (by kernel_rfl) rfl rfl (by kernel_rfl) ?_ rfl rfl ?_
      ·refine Tq.va rfl (fun _ _ h1 h2 => zI el_38 (h1.ev rfl) hgy101_0 (h1.ev rfl) hx1130 hx1131) ?_
       exact Tq.fin (.cons rfl .nil)
      refine Dr.quiet 10 [(62, (iv x113))] (by kernel_rfl) rfl rfl (by kernel_rfl) ?_ rfl rfl ?_
      ·refine Tq.va rfl (fun _ _ h1 h2 => zC ag_3 (h1.ev rfl) (rdo ef_i64 (k := 2) h2 rfl hx1132) rfl) ?_
       exact Tq.fin (.cons rfl .nil)
      refine Dr.quiet 11 [(63, (iv (w64 (x113 + 1))))] (by kernel_rfl) rfl rfl (by kernel_rfl) ?_ rfl rfl ?_
      ·refine Tq.va rfl (fun _ _ h1 h2 => zm (h1.ev rfl) (h1.ev rfl)) ?_
       exact Tq.fin (.cons rfl .nil)
      obtain ⟨y114, hy114, H⟩ := bnd H
      refine Dr.one 2 (by kernel_rfl) ?_
      refine St.callG 2 [4] [emp] (U := (Option Addr × Nat)) (fun u => (.slice u.1 (y114).length u.2)) (fun O W u => SlF u.1 (y114).length u.2) (fun u => [ow u.1 u.2 46 zG y114]) rfl (zK rfl za) (fun _ => rfl) (insS_no rfl) rfl (wn rfl) rfl Tryz.call14 (zF rfl zN) (fun W hW hp hE => F_slices_Clone_PlotStep_ok p0.Steps Ap0_1 cp0_1 (hp0_1.extO (hW.extS hp)) y114 hy114 hE) ?_
      intro w u le115 hu hsy114
      obtain ⟨Ay114_0, cy114_0⟩ := u
      have gy114_0 := hu
      replace hp0_0 := hp0_0.le le115
      replace hp0_1 := hp0_1.le le115
      replace leB := leB.trans le115
      have hgy114_0 : SlF Ay114_0 (y114).length cy114_0 := gy114_0
      show Dr _ _ _ _ _ _ _ _ _ (uf _ 54 (.slice Ay114_0 (y114).length cy114_0)) (up _ 4 (ow Ay114_0 cy114_0 46 zG y114))
      refine Dr.tail (by kernel_rfl) ?_
      obtain ⟨y116, hy116, H⟩ := bnd H
      refine Tr.callG [4] [ow Ay114_0 cy114_0 46 zG y114] (U := (Option Addr × Nat)) (fun u => (.slice u.1 (y116).length u.2)) (fun O W u => SlF u.1 (y116).length u.2) (fun u => [ow u.1 u.2 46 zG y116]) rfl (zK rfl za) (fun _ => rfl) (wn rfl) rfl Tryz.call13 (zF rfl (zF rfl (zF rfl zN))) (fun W hW hp hE => F_slices_Delete_PlotStep_ok y114 Ay114_0 cy114_0 x112 (w64 (x113 + 1)) y116 hy116 hE) ?_
      intro w u le117 hu
      obtain ⟨Ay116_0, cy116_0⟩ := u
      have gy116_0 := hu
      replace hp0_0 := hp0_0.le le117
      replace hp0_1 := hp0_1.le le117
      replace leB := leB.trans le117
      have hgy116_0 : SlF Ay116_0 (y116).length cy116_0 := gy116_0 --@phi
      show Tr _ _ (uf _ 64 (.slice Ay116_0 (y116).length cy116_0)) (up _ 4 (ow Ay116_0 cy116_0 46 zG y116)) _
      refine Tr.va rfl (fun _ _ h1 h2 => zB fo_25_2 (h1.ev rfl)) ?_
      refine Tr.store 3 (cs := [(.slice Ay116_0 (y116).length cy116_0)]) [(iv p0.Unit), (.slice Ap0_0 (p0.Tools).length cp0_0), (.slice Ay116_0 (y116).length cy116_0)] (wn rfl) rfl rfl rfl rfl sz_23 rfl rfl rfl ?_
      refine Tr.nil (Tr.zA ?_)
      refine Tr.sr ?_
      refine Tr.va rfl (fun _ _ h1 h2 => zQ (cs := [(iv p0.Unit), (.slice Ap0_0 (p0.Tools).length cp0_0), (.slice Ap0_1 (p0.Steps).length cp0_1)]) ag_25 sz_25 (h1.ev rfl) (zO.take (rdb h2 (vs := [(iv p0.Unit), (.slice Ap0_0 (p0.Tools).length cp0_0), (.slice Ap0_1 (p0.Steps).length cp0_1)]) (k := 1) rfl 0) 3) rfl) ?_
      refine Tr.va rfl (fun _ _ h1 h2 => zQ (cs := [(iv p0.Unit), (.slice Ap0_0 (p0.Tools).length cp0_0), (.slice Ay116_0 (y116).length cy116_0)]) ag_25 sz_25 (h1.ev rfl) (zO.take (rdb h2 (vs := [(iv p0.Unit), (.slice Ap0_0 (p0.Tools).length cp0_0), (.slice Ay116_0 (y116).length cy116_0)]) (k := 3) rfl 0) 3) rfl) ?_
      refine Tr.freeze 4 rfl fun w le119 hz118 => ?_
      replace hp0_0 := hp0_0.le le119
      replace hp0_1 := hp0_1.le le119
      replace leB := leB.trans le119
      obtain ⟨y120, hy120, H⟩ := bnd H
      refine Tr.call0 (r := (.tuple #[(.bool y120.1), (iv y120.2)])) (wn rfl) rfl Tryz.call15 (zF rfl (zF rfl zN)) (fun W hW => F_plot_Same_ok N p0 Ap0_0 cp0_0 (hp0_0.extO hW.extAll) Ap0_1 cp0_1 (hp0_1.extO hW.extAll) (TPlot.mk p0.Unit p0.Tools y116) Ap0_0 cp0_0 (hp0_0.extO hW.extAll) Ay116_0 cy116_0 (hz118.extO hW.extAll) y120 hy120 (HF.start _)) ?_
      refine Tr.mv rfl rfl ?_
      refine Tr.va rfl (fun _ _ h1 h2 => run_extract (h1.ev rfl) rfl) ?_
      refine Tr.va rfl (fun _ _ h1 h2 => run_extract (h1.ev rfl) rfl) ?_
      refine Tr.asg rfl rfl ?_
      refine Tr.asg rfl rfl ?_
      refine Tr.nil (Tr.zA ?_)
      refine Tr.sr ?_
      refine Tr.mv rfl rfl ?_
      refine Tr.va rfl (fun _ _ h1 h2 => run_eql (h1.ev rfl) (h1.ev rfl)) ?_
      refine Tr.mv rfl rfl ?_
      refine Tr.mid0 2 [(76, (.bool ((y120.2 == 0) && y120.1)))] [(1, bx b100 #[(iv p0.Unit), (.slice Ap0_0 (p0.Tools).length cp0_0), (.slice Ap0_1 (p0.Steps).length cp0_1)] 25), (2, ow Ay101_0 cy101_0 3 zX y101.1), (3, bx b110 #[(iv p0.Unit), (.slice Ap0_0 (p0.Tools).length cp0_0), (.slice Ay116_0 (y116).length cy116_0)] 25)] ?_ ?_
      ·cases hg123 : (y120.2 == 0)
       ·refine Tr.pass rfl rfl rfl rfl rfl (by decide) ?_
        refine Tr.va rfl (fun _ _ h1 h2 => ze (h1.ev rfl) (h1.ev rfl)) ?_
        exact Tr.nil (Tr.fin0 (.cons rfl .nil) (.cons rfl (.cons rfl (.cons rfl .nil))))
       ·refine Tr.val (wg rfl rfl rfl) rfl (fun _ _ h1 h2 => run_move (h1.ev rfl)) ?_
        refine Tr.va rfl (fun _ _ h1 h2 => zb (h1.ev rfl) (h1.ev rfl)) ?_
        exact Tr.nil (Tr.fin0 (.cons rfl .nil) (.cons rfl (.cons rfl (.cons rfl .nil))))
      ·show Tr _ _ (LF [(76, (.bool ((y120.2 == 0) && y120.1)))]) (LE [(1, bx b100 #[(iv p0.Unit), (.slice Ap0_0 (p0.Tools).length cp0_0), (.slice Ap0_1 (p0.Steps).length cp0_1)] 25), (2, ow Ay101_0 cy101_0 3 zX y101.1), (3, bx b110 #[(iv p0.Unit), (.slice Ap0_0 (p0.Tools).length cp0_0), (.slice Ay116_0 (y116).length cy116_0)] 25)]) _
       refine Tr.mv rfl rfl ?_
       obtain ⟨g122, hg122, H⟩ := bnd H
       refine Tr.mid0 2 [(79, (.bool g122))] [(1, bx b100 #[(iv p0.Unit), (.slice Ap0_0 (p0.Tools).length cp0_0), (.slice Ap0_1 (p0.Steps).length cp0_1)] 25), (2, ow Ay101_0 cy101_0 3 zX y101.1), (3, bx b110 #[(iv p0.Unit), (.slice Ap0_0 (p0.Tools).length cp0_0), (.slice Ay116_0 (y116).length cy116_0)] 25)] ?_ ?_
       ·cases hg123 : ((y120.2 == 0) && y120.1)
        ·rw [hg123] at hg122
         rw [if_neg (by decide)] at hg122
         have H := hg122
         obtain rfl := Option.some.inj H
         refine Tr.pass rfl rfl rfl rfl rfl (by decide) ?_
         refine Tr.va rfl (fun _ _ h1 h2 => ze (h1.ev rfl) (h1.ev rfl)) ?_
         exact Tr.nil (Tr.fin0 (.cons rfl .nil) (.cons rfl (.cons rfl (.cons rfl .nil))))
        ·rw [hg123] at hg122
         rw [if_pos rfl] at hg122
         have H := hg122
         obtain ⟨y123, hy123, H⟩ := bnd H
         refine Tr.call0 (r := (.bool y123)) (wg rfl rfl rfl) rfl Tryz.call8 zN (fun W hW => F_etchhouselaw3_awake_ok N y123 hy123 (HF.start _)) ?_
         refine Tr.va rfl (fun _ _ h1 h2 => zb (h1.ev rfl) (h1.ev rfl)) ?_
         obtain rfl := Option.some.inj H
         exact Tr.nil (Tr.fin0 (.cons rfl .nil) (.cons rfl (.cons rfl (.cons rfl .nil))))
       ·show Tr _ _ (LF [(79, (.bool g122))]) (LE [(1, bx b100 #[(iv p0.Unit), (.slice Ap0_0 (p0.Tools).length cp0_0), (.slice Ap0_1 (p0.Steps).length cp0_1)] 25), (2, ow Ay101_0 cy101_0 3 zX y101.1), (3, bx b110 #[(iv p0.Unit), (.slice Ap0_0 (p0.Tools).length cp0_0), (.slice Ay116_0 (y116).length cy116_0)] 25)]) _
        refine Tr.asg rfl rfl ?_
        refine Tr.nil (Tr.zA ?_)
        refine Tr.ret ?_
        obtain rfl := Option.some.inj H
        exact Tr.out (m := [(.bool g122)]) [] (zL rfl zP) (fun W hW => ⟨rfl, hW.low leB⟩)

end Go.Proofs.YtoageaoknnnfbaaGreatDoor
