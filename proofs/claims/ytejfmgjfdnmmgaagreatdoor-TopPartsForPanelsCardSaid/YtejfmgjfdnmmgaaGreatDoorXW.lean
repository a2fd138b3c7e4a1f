/- The walks: each function computes its plain function. -/
import Derived.Test.YtejfmgjfdnmmgaaGreatDoorXWa
namespace Go.Proofs.YtejfmgjfdnmmgaaGreatDoor
open Go.RowKit
set_option maxRecDepth 100000
set_option maxHeartbeats 1000000
theorem F_shape_Set__push_ok {w : Bs} (p0 : (List TBand)) (Ap0_0 : Option Addr) (cp0_0 : Nat) (p1 : TBand) (Ap1_0 : Option Addr) (cp1_0 : Nat) (hp1_0 : Sl w.O w.W fl_i64 Ap1_0 cp1_0 p1.Xs) (r : (List TBand)) (H : F_shape_Set__push p0 p1 = some r) (hE : HF w w.W (LEn [ow Ap0_0 cp0_0 111 fl_TBand p0])) : Calls Tryz.prog 64 [(.slice Ap0_0 (p0).length cp0_0), (.agg #[(iv p1.Y0), (iv p1.Y1), (.slice Ap1_0 (p1.Xs).length cp1_0)])].toArray w.W fun e W' => ∃ (w' : Bs) (u : (Option Addr × Nat)), w.Le w' ∧ e = .returned (.slice u.1 (r).length u.2) ∧ (SlF u.1 (r).length u.2) ∧ HF w' W' (LEn [ow u.1 u.2 111 fl_TBand r]) := by
 unfold F_shape_Set__push at H
 have hfhp0_0 := (hE.sl (k := 0) rfl).form
 have leB := Bs.Le.refl w
 refine Tr.enter (n := 54) Tryz.func64 rfl rfl rfl hE ?_
 refine Tr.sr ?_
 refine Tr.box 1 (cs := [(iv p1.Y0), (iv p1.Y1), (.slice Ap1_0 (p1.Xs).length cp1_0)]) (wn rfl) rfl rfl rfl fun b100 => ?_
 refine Tr.asg rfl rfl ?_
 refine Tr.nilOwn 2 111 fl_TBand ?_
 show Tr _ _ (uf _ 4 (.slice none (([] : List TBand)).length 0)) _ _
 refine Tr.nil (Tr.normThen ?_)
 refine Tr.seq ?_
 refine Tr.sr ?_
 refine Tr.va rfl (fun _ _ h1 h2 => run_fieldAddr fo_111_2 (h1.ev rfl)) ?_
 refine Tr.va rfl (fun _ _ h1 h2 => run_load1 ag_104 (h1.ev rfl) (rdb h2 (vs := [(iv p1.Y0), (iv p1.Y1), (.slice Ap1_0 (p1.Xs).length cp1_0)]) (k := 1) rfl 2) rfl) ?_
 refine Tr.va rfl (fun _ _ h1 h2 => run_len un_104 (h1.ev rfl)) ?_
 refine Tr.va rfl (fun _ _ h1 h2 => run_eql (h1.ev rfl) (h1.ev rfl)) ?_
 refine Tr.mv rfl rfl ?_
 refine Tr.mid0 6 [(0, (.slice Ap0_0 (p0).length cp0_0)), (3, (.pointer (some ⟨b100, 0, none⟩))), (16, (.bool (((p1.Xs.length : Int) == 0) || (decide (p1.Y1 ≤ p1.Y0)))))] [(0, ow Ap0_0 cp0_0 111 fl_TBand p0), (1, bx b100 #[(iv p1.Y0), (iv p1.Y1), (.slice Ap1_0 (p1.Xs).length cp1_0)] 111), (2, ow none 0 111 fl_TBand ([] : List TBand))] ?_ ?_
 ·cases hg114 : ((p1.Xs.length : Int) == 0)
  ·refine Tr.val (wg rfl rfl rfl) rfl (fun _ _ h1 h2 => run_fieldAddr fo_111_1 (h1.ev rfl)) ?_
   refine Tr.val (wg rfl rfl rfl) rfl (fun _ _ h1 h2 => run_load1 ag_3 (h1.ev rfl) (rdb h2 (vs := [(iv p1.Y0), (iv p1.Y1), (.slice Ap1_0 (p1.Xs).length cp1_0)]) (k := 1) rfl 1) rfl) ?_
   refine Tr.val (wg rfl rfl rfl) rfl (fun _ _ h1 h2 => run_fieldAddr fo_111_0 (h1.ev rfl)) ?_
   refine Tr.val (wg rfl rfl rfl) rfl (fun _ _ h1 h2 => run_load1 ag_3 (h1.ev rfl) (rdb h2 (vs := [(iv p1.Y0), (iv p1.Y1), (.slice Ap1_0 (p1.Xs).length cp1_0)]) (k := 1) rfl 0) rfl) ?_
   refine Tr.val (wg rfl rfl rfl) rfl (fun _ _ h1 h2 => run_leq (h1.ev rfl) (h1.ev rfl)) ?_
   refine Tr.va rfl (fun _ _ h1 h2 => run_pickF (h1.ev rfl) (h1.ev rfl)) ?_
   exact Tr.nil (Tr.fin0 (.cons rfl (.cons rfl (.cons rfl .nil))) (.cons rfl (.cons rfl (.cons rfl .nil))))
  ·refine Tr.pass rfl rfl rfl rfl rfl (by decide) ?_
   refine Tr.pass rfl rfl rfl rfl rfl (by decide) ?_
   refine Tr.pass rfl rfl rfl rfl rfl (by decide) ?_
   refine Tr.pass rfl rfl rfl rfl rfl (by decide) ?_
   refine Tr.pass rfl rfl rfl rfl rfl (by decide) ?_
   refine Tr.va rfl (fun _ _ h1 h2 => run_pickT (h1.ev rfl) (h1.ev rfl)) ?_
   exact Tr.nil (Tr.fin0 (.cons rfl (.cons rfl (.cons rfl .nil))) (.cons rfl (.cons rfl (.cons rfl .nil))))
 ·show Tr _ _ (LF [(0, (.slice Ap0_0 (p0).length cp0_0)), (3, (.pointer (some ⟨b100, 0, none⟩))), (16, (.bool (((p1.Xs.length : Int) == 0) || (decide (p1.Y1 ≤ p1.Y0)))))]) (LE [(0, ow Ap0_0 cp0_0 111 fl_TBand p0), (1, bx b100 #[(iv p1.Y0), (iv p1.Y1), (.slice Ap1_0 (p1.Xs).length cp1_0)] 111), (2, ow none 0 111 fl_TBand ([] : List TBand))]) _
  refine Tr.nil (Tr.normThen ?_)
  refine Tr.cond rfl H (fun H => ?_) (fun H => ?_)
  ·refine Tr.sr ?_
   refine Tr.mv rfl rfl ?_
   refine Tr.asg rfl rfl ?_
   refine Tr.nil (Tr.normThen ?_)
   refine Tr.ret (Tr.retThen ?_)
   obtain rfl := Option.some.inj H
   exact Tr.out (m := [(.slice Ap0_0 (p0).length cp0_0)]) [] (res_tmp rfl res_nil) (fun W hW => ⟨w, (Ap0_0, cp0_0), leB, rfl, hfhp0_0, hW.pick (ks := [0]) (by decide) (pk_cons rfl pk_nil)⟩)
  ·refine Tr.skip (Tr.normThen ?_)
   refine Tr.seq ?_
   refine Tr.sr ?_
   refine Tr.mv rfl rfl ?_
   refine Tr.va rfl (fun _ _ h1 h2 => run_len un_84 (h1.ev rfl)) ?_
   refine Tr.va rfl (fun _ _ h1 h2 => run_sub (h1.ev rfl) (h1.ev rfl)) ?_
   refine Tr.asg rfl rfl ?_
   refine Tr.nil (Tr.normThen ?_)
   refine Tr.seq ?_
   refine Tr.draw (by kernel_rfl) (by kernel_rfl) ?_
   refine Tq.mv rfl rfl ?_
   refine Tq.va rfl (fun _ _ h1 h2 => run_geq (h1.ev rfl) (h1.ev rfl)) ?_
   refine Tq.mv rfl rfl ?_
   obtain ⟨g102, hg102, H⟩ := bnd H
   refine Tq.mid 9 [(0, (.slice Ap0_0 (p0).length cp0_0)), (3, (.pointer (some ⟨b100, 0, none⟩))), (5, (iv (w64 ((p0.length : Int) - 1)))), (32, (.bool g102))] ?_ ?_
   ·cases hg114 : (decide (0 ≤ (w64 ((p0.length : Int) - 1))))
    ·rw [hg114] at hg102
     rw [if_neg (by decide)] at hg102
     have H := hg102
     obtain rfl := Option.some.inj H
     refine Tq.pass rfl rfl rfl rfl rfl (by decide) ?_
     refine Tq.pass rfl rfl rfl rfl rfl (by decide) ?_
     refine Tq.pass rfl rfl rfl rfl rfl (by decide) ?_
     refine Tq.pass rfl rfl rfl rfl rfl (by decide) ?_
     refine Tq.pass rfl rfl rfl rfl rfl (by decide) ?_
     refine Tq.pass rfl rfl rfl rfl rfl (by decide) ?_
     refine Tq.pass rfl rfl rfl rfl rfl (by decide) ?_
     refine Tq.pass rfl rfl rfl rfl rfl (by decide) ?_
     refine Tq.va rfl (fun _ _ h1 h2 => run_pickF (h1.ev rfl) (h1.ev rfl)) ?_
     exact Tq.fin (.cons rfl (.cons rfl (.cons rfl (.cons rfl .nil))))
    ·rw [hg114] at hg102
     rw [if_pos rfl] at hg102
     have H := hg102
     refine Tq.val (wg rfl rfl rfl) rfl (fun _ _ h1 h2 => run_move (h1.ev rfl)) ?_
     refine Tq.val (wg rfl rfl rfl) rfl (fun _ _ h1 h2 => run_move (h1.ev rfl)) ?_
     obtain ⟨x103, hx103, H⟩ := bnd H
     obtain ⟨hx1030, hx1031, hx1032⟩ := idx_some hx103
     refine Tq.val (wg rfl rfl rfl) rfl (fun _ _ h1 h2 => run_indexAddr el_84 (h1.ev rfl) hfhp0_0 (h1.ev rfl) hx1030 hx1031) ?_
     refine Tq.val (wg rfl rfl rfl) rfl (fun _ _ h1 h2 => run_fieldAddr fo_111_1 (h1.ev rfl)) ?_
     refine Tq.val (wg rfl rfl rfl) rfl (fun _ _ h1 h2 => (HF.atN (k := 0) h2 rfl hx1032).elim fun u hu => run_load1 ag_3 (h1.ev rfl) (hu.2.drop 1) rfl) ?_
     refine Tq.val (wg rfl rfl rfl) rfl (fun _ _ h1 h2 => run_fieldAddr fo_111_0 (h1.ev rfl)) ?_
     refine Tq.val (wg rfl rfl rfl) rfl (fun _ _ h1 h2 => run_load1 ag_3 (h1.ev rfl) (rdb h2 (vs := [(iv p1.Y0), (iv p1.Y1), (.slice Ap1_0 (p1.Xs).length cp1_0)]) (k := 1) rfl 0) rfl) ?_
     refine Tq.val (wg rfl rfl rfl) rfl (fun _ _ h1 h2 => run_eql (h1.ev rfl) (h1.ev rfl)) ?_
     refine Tq.va rfl (fun _ _ h1 h2 => run_pickT (h1.ev rfl) (h1.ev rfl)) ?_
     obtain rfl := Option.some.inj H
     exact Tq.fin (.cons rfl (.cons rfl (.cons rfl (.cons rfl .nil))))
   ·refine Tq.mv rfl rfl ?_
    obtain ⟨g107, hg107, H⟩ := bnd H
    refine Tq.mid 9 [(0, (.slice Ap0_0 (p0).length cp0_0)), (3, (.pointer (some ⟨b100, 0, none⟩))), (5, (iv (w64 ((p0.length : Int) - 1)))), (42, (.bool g107))] ?_ ?_
    ·cases hg114 : g102
     ·rw [hg114] at hg107
      rw [if_neg (by decide)] at hg107
      have H := hg107
      obtain rfl := Option.some.inj H
      refine Tq.pass rfl rfl rfl rfl rfl (by decide) ?_
      refine Tq.pass rfl rfl rfl rfl rfl (by decide) ?_
      refine Tq.pass rfl rfl rfl rfl rfl (by decide) ?_
      refine Tq.pass rfl rfl rfl rfl rfl (by decide) ?_
      refine Tq.pass rfl rfl rfl rfl rfl (by decide) ?_
      refine Tq.pass rfl rfl rfl rfl rfl (by decide) ?_
      refine Tq.pass rfl rfl rfl rfl rfl (by decide) ?_
      refine Tq.pass rfl rfl rfl rfl rfl (by decide) ?_
      refine Tq.va rfl (fun _ _ h1 h2 => run_pickF (h1.ev rfl) (h1.ev rfl)) ?_
      exact Tq.fin (.cons rfl (.cons rfl (.cons rfl (.cons rfl .nil))))
     ·rw [hg114] at hg107
      rw [if_pos rfl] at hg107
      have H := hg107
      refine Tq.val (wg rfl rfl rfl) rfl (fun _ _ h1 h2 => run_move (h1.ev rfl)) ?_
      refine Tq.val (wg rfl rfl rfl) rfl (fun _ _ h1 h2 => run_move (h1.ev rfl)) ?_
      obtain ⟨x108, hx108, H⟩ := bnd H
      obtain ⟨hx1080, hx1081, hx1082⟩ := idx_some hx108
      refine Tq.val (wg rfl rfl rfl) rfl (fun _ _ h1 h2 => run_indexAddr el_84 (h1.ev rfl) hfhp0_0 (h1.ev rfl) hx1080 hx1081) ?_
      refine Tq.val (wg rfl rfl rfl) rfl (fun _ _ h1 h2 => run_fieldAddr fo_111_2 (h1.ev rfl)) ?_
      refine Tq.valE (U := (fl_TBand).Ad) (fun u => (fl_TBand).ok w.O w.W u x108) (fun u => (.slice u.1 (x108.Xs).length u.2)) (wg rfl rfl rfl) rfl (ldN (κ := 0) (t := fl_TBand) (V := fun u => (.slice u.1 (x108.Xs).length u.2)) rfl hx1082 (fun _ _ u h1 hc => run_load1 ag_104 (h1.ev rfl) (hc.drop 2) rfl)) ?_
      intro u109 hoku109
      obtain ⟨Au109_0, cu109_0⟩ := u109
      have hoku109_0 := hoku109
      replace hoku109_0 : Sl w.O w.W fl_i64 Au109_0 cu109_0 x108.Xs := hoku109_0
      show Tq _ _ _ _ (uf _ 38 (.slice Au109_0 (x108.Xs).length cu109_0)) _ _ _
      refine Tq.val (wg rfl rfl rfl) rfl (fun _ _ h1 h2 => run_fieldAddr fo_111_2 (h1.ev rfl)) ?_
      refine Tq.val (wg rfl rfl rfl) rfl (fun _ _ h1 h2 => run_load1 ag_104 (h1.ev rfl) (rdb h2 (vs := [(iv p1.Y0), (iv p1.Y1), (.slice Ap1_0 (p1.Xs).length cp1_0)]) (k := 1) rfl 2) rfl) ?_
      obtain ⟨y110, hy110, H⟩ := bnd H
      refine Tq.call0 (r := (.bool y110)) (wg rfl rfl rfl) rfl Tryz.call84 (evl_cons rfl (evl_cons rfl evl_nil)) (fun W hW => F_slices_Equal_int_ok x108.Xs Au109_0 cu109_0 (hoku109_0.rl.ext hW.extAll) p1.Xs Ap1_0 cp1_0 (hp1_0.rl.ext hW.extAll) y110 hy110 (HF.start _)) ?_
      refine Tq.va rfl (fun _ _ h1 h2 => run_pickT (h1.ev rfl) (h1.ev rfl)) ?_
      obtain rfl := Option.some.inj H
      exact Tq.fin (.cons rfl (.cons rfl (.cons rfl (.cons rfl .nil))))
    ·refine Tq.nil (Tr.normThen ?_)
     refine Tr.cond rfl H (fun H => ?_) (fun H => ?_)
     ·refine Tr.sr ?_
      refine Tr.mv rfl rfl ?_
      refine Tr.mv rfl rfl ?_
      refine Tr.va rfl (fun _ _ h1 h2 => run_fieldAddr fo_111_1 (h1.ev rfl)) ?_
      refine Tr.va rfl (fun _ _ h1 h2 => run_load1 ag_3 (h1.ev rfl) (rdb h2 (vs := [(iv p1.Y0), (iv p1.Y1), (.slice Ap1_0 (p1.Xs).length cp1_0)]) (k := 1) rfl 1) rfl) ?_
      obtain ⟨x111, hx111, H⟩ := bnd H
      obtain ⟨hx1110, hx1111, hx1112⟩ := idx_some hx111
      refine Tr.va rfl (fun _ _ h1 h2 => run_indexAddr el_84 (h1.ev rfl) hfhp0_0 (h1.ev rfl) hx1110 hx1111) ?_
      refine Tr.va rfl (fun _ _ h1 h2 => run_fieldAddr fo_111_1 (h1.ev rfl)) ?_
      obtain ⟨l112, hl112, H⟩ := bnd H
      have hnl112 := sets_len hl112
      refine Tr.storeEl 0 (t := fl_TBand) (l := p0) (i := (w64 ((p0.length : Int) - 1))) (fo := 1) (cs := [(iv p1.Y1)]) (TBand.mk x111.Y0 p1.Y1 x111.Xs) (wn rfl) rfl rfl rfl rfl rfl hx1112 sz_3 rfl (fun u hu => ⟨u, hu, rfl⟩) rfl hl112 ?_
      have hfl112 : SlF Ap0_0 (l112).length cp0_0 := by rw [hnl112]; exact hfhp0_0
      have hsl112 := hnl112.trans rfl
      refine Tr.sel (lf := [(0, (.slice Ap0_0 (l112).length cp0_0)), (3, (.pointer (some ⟨b100, 0, none⟩))), (5, (iv (w64 ((p0.length : Int) - 1)))), (42, (.bool g107)), (43, (.slice Ap0_0 (l112).length cp0_0)), (44, (iv (w64 ((p0.length : Int) - 1)))), (45, (.pointer (some ⟨b100, 1, none⟩))), (46, (iv p1.Y1))]) (le := [(0, ow Ap0_0 cp0_0 111 fl_TBand l112), (1, bx b100 #[(iv p1.Y0), (iv p1.Y1), (.slice Ap1_0 (p1.Xs).length cp1_0)] 111), (2, ow none 0 111 fl_TBand ([] : List TBand))]) (.cons (slenV rfl (by rw [hnl112])) (.cons rfl (.cons rfl (.cons rfl (.cons (slenV rfl (by rw [hnl112])) (.cons rfl (.cons rfl (.cons rfl .nil)))))))) (.cons rfl (.cons rfl (.cons rfl .nil))) ?_
      refine Tr.nil (Tr.normThen ?_)
      refine Tr.sr ?_
      refine Tr.mv rfl rfl ?_
      refine Tr.asg rfl rfl ?_
      refine Tr.nil (Tr.normThen ?_)
      refine Tr.ret (Tr.retThen ?_)
      obtain rfl := Option.some.inj H
      exact Tr.out (m := [(.slice Ap0_0 (l112).length cp0_0)]) [] (res_tmp rfl res_nil) (fun W hW => ⟨w, (Ap0_0, cp0_0), leB, rfl, hfl112, hW.pick (ks := [0]) (by decide) (pk_cons rfl pk_nil)⟩)
     ·refine Tr.skip (Tr.normThen ?_)
      refine Tr.sr ?_
      refine Tr.mv rfl rfl ?_
      refine Tr.va rfl (fun _ _ h1 h2 => run_loadN (cs := [(iv p1.Y0), (iv p1.Y1), (.slice Ap1_0 (p1.Xs).length cp1_0)]) ag_111 sz_111 (h1.ev rfl) (CellsAt.take (rdb h2 (vs := [(iv p1.Y0), (iv p1.Y1), (.slice Ap1_0 (p1.Xs).length cp1_0)]) (k := 1) rfl 0) 3) rfl) ?_
      refine Tr.buildSlice 3 (e := 111) (vs := [(0, (.agg #[(iv p1.Y0), (iv p1.Y1), (.slice Ap1_0 (p1.Xs).length cp1_0)]))]) (cs := [(iv p1.Y0), (iv p1.Y1), (.slice Ap1_0 (p1.Xs).length cp1_0)]) (wn rfl) rfl (evs_cons rfl evs_nil) (by kernel_rfl) fun b113 => ?_
      obtain ⟨l114, hl114, H⟩ := bnd H
      refine Tr.append 0 (t := fl_TBand) (l := p0) (l2 := [p1]) (wn rfl) rfl rfl rfl rfl (fun W hW => ⟨[[(iv p1.Y0), (iv p1.Y1), (.slice Ap1_0 (p1.Xs).length cp1_0)]], (.cons ⟨(Ap1_0, cp1_0), hp1_0, rfl⟩ .nil), rdb hW (vs := [(iv p1.Y0), (iv p1.Y1), (.slice Ap1_0 (p1.Xs).length cp1_0)]) (k := 3) rfl 0⟩) un_84 sz_111 zl_111 (by decide) by_111 rfl hl114 fun Al114 cl114 hAl114 => ?_
      refine Tr.asg rfl rfl ?_
      refine Tr.nil (Tr.normThen ?_)
      refine Tr.ret ?_
      obtain rfl := Option.some.inj H
      exact Tr.out (m := [(.slice Al114 (l114).length cl114)]) [] (res_tmp rfl res_nil) (fun W hW => ⟨w, (Al114, cl114), leB, rfl, hAl114, hW.pick (ks := [0]) (by decide) (pk_cons rfl pk_nil)⟩)

theorem F_shape_SetOf_ok (N : Nat) {w : Bs} (p0 : (List TRect)) (Ap0_0 : Option Addr) (cp0_0 : Nat) (hp0_0 : Sl w.R w.W fl_TRect Ap0_0 cp0_0 p0) (r : (List TBand)) (H : F_shape_SetOf N p0 = some r) (hE : HF w w.W (LEn [emp])) : Calls Tryz.prog 37 [(.slice Ap0_0 (p0).length cp0_0)].toArray w.W fun e W' => ∃ (w' : Bs) (u : (Option Addr × Nat)), w.Le w' ∧ e = .returned (.slice u.1 (r).length u.2) ∧ (SlF u.1 (r).length u.2) ∧ HF w' W' (LEn [ow u.1 u.2 111 fl_TBand r]) := by
 unfold F_shape_SetOf at H
 have leB := Bs.Le.refl w
 refine Tr.enter (n := 83) Tryz.func37 rfl rfl rfl hE ?_
 refine Tr.sr ?_
 refine Tr.asg rfl rfl ?_
 refine Tr.nilOwn 1 111 fl_TBand ?_
 show Tr _ _ (uf _ 2 (.slice none (([] : List TBand)).length 0)) _ _
 refine Tr.nil (Tr.normThen ?_)
 refine Tr.sr ?_
 refine Tr.mv rfl rfl ?_
 obtain ⟨y100, hy100, H⟩ := bnd H
 refine Tr.callM [2] [emp] (U := (Option Addr × Nat)) (fun u => (.slice u.1 (y100).length u.2)) (fun u => SlF u.1 (y100).length u.2) (fun u => [ow u.1 u.2 49 fl_TRect y100]) rfl (pk_cons rfl pk_nil) (fun _ => rfl) (wn rfl) rfl Tryz.call57 (evl_cons rfl evl_nil) (fun W hW hp hE => F_slices_Clone_Rect_ok p0 Ap0_0 cp0_0 (hp0_0.ext (hW.extS hp)) y100 hy100 hE) ?_
 intro u hu
 obtain ⟨Ay100_0, cy100_0⟩ := u
 have gy100_0 := hu
 have hgy100_0 : SlF Ay100_0 (y100).length cy100_0 := gy100_0 --@phi
 show Tr _ _ (uf _ 11 (.slice Ay100_0 (y100).length cy100_0)) (up _ 2 (ow Ay100_0 cy100_0 49 fl_TRect y100)) _
 refine Tr.asg rfl rfl ?_
 refine Tr.nil (Tr.normThen ?_)
 refine Tr.sr ?_
 refine Tr.mv rfl rfl ?_
 obtain ⟨y102, hy102, H⟩ := bnd H
 refine Tr.callM [2] [ow Ay100_0 cy100_0 49 fl_TRect y100] (U := Unit) (fun u => (.tuple #[])) (fun u => (y102).length = (y100).length) (fun u => [ow Ay100_0 cy100_0 49 fl_TRect y102]) rfl (pk_cons rfl pk_nil) (fun _ => rfl) (wn rfl) rfl Tryz.call58 (evl_cons rfl (evl_cons rfl evl_nil)) (fun W hW hp hE => F_slices_SortFunc_TRect_ok y100 Ay100_0 cy100_0 (fun z0 z1 => F_shape_SetOf_1 z0 z1) 59 [] Tryz.call59 (fun w' he z0 z1 y hy => F_shape_SetOf_1_ok z0 z1 y hy (HF.start _)) y102 hy102 hE) ?_
 intro u hu
 have gky102_0 := hu
 have hgky102_0 : (y102).length = (y100).length := gky102_0 --@phi
 have hfky102_0 : SlF Ay100_0 (y102).length cy100_0 := by rw [hgky102_0]; exact hgy100_0
 show Tr _ _ (uf _ 13 (.tuple #[])) (up _ 2 (ow Ay100_0 cy100_0 49 fl_TRect y102)) _
 refine Tr.sel (lf := [(0, (.slice Ay100_0 (y102).length cy100_0)), (2, (.slice none (([] : List TBand)).length 0)), (10, (.slice Ap0_0 (p0).length cp0_0)), (11, (.slice Ay100_0 (y102).length cy100_0)), (12, (.slice Ay100_0 (y102).length cy100_0)), (13, (.tuple #[]))]) (le := [(1, ow none 0 111 fl_TBand ([] : List TBand)), (2, ow Ay100_0 cy100_0 49 fl_TRect y102)]) (.cons (slenV rfl (by rw [hgky102_0])) (.cons rfl (.cons rfl (.cons (slenV rfl (by rw [hgky102_0])) (.cons (slenV rfl (by rw [hgky102_0])) (.cons rfl .nil)))))) (.cons rfl (.cons rfl .nil)) ?_
 refine Tr.nil (Tr.normThen ?_)
 refine Tr.sr ?_
 refine Tr.alloc 3 (wn rfl) rfl ze_104 fun b104 => ?_
 refine Tr.nil (Tr.normThen ?_)
 refine Tr.seq ?_
 refine Tr.sr ?_
 refine Tr.mv rfl rfl ?_
 refine Tr.va rfl (fun _ _ h1 h2 => run_len un_50 (h1.ev rfl)) ?_
 refine Tr.mv rfl rfl ?_
 refine Tr.nil (Tr.normThen ?_)
 refine Tr.block ?_
 refine Tr.nilOwn 12 3 fl_i64 ?_
 refine Tr.loop (σ := (List TRect) × Nat × (List Int) × (Option Addr) × Nat) (fun m w s => m = s.1.length + 1 ∧ s.1 = List.drop s.2.1 y102 ∧ s.2.1 ≤ y102.length ∧ F_shape_SetOf_L1 N y102 s.1 s.2.1 s.2.2.1 = some r ∧ SlF s.2.2.2.1 (s.2.2.1).length s.2.2.2.2) (fun s => [(0, (.slice Ay100_0 (y102).length cy100_0)), (3, (.pointer (some ⟨b104, 0, none⟩))), (14, (.slice Ay100_0 (y102).length cy100_0)), (15, (iv (y102.length : Int))), (16, (iv (s.2.1 : Int)))]) (fun s => [(2, ow Ay100_0 cy100_0 49 fl_TRect y102), (3, bx b104 #[(.slice s.2.2.2.1 (s.2.2.1).length s.2.2.2.2)] 104), (12, ow s.2.2.2.1 s.2.2.2.2 3 fl_i64 s.2.2.1)]) (y102.length + 1) (y102, 0, ([] : List Int), none, 0) ⟨rfl, rfl, Nat.zero_le _, H, slf_nil⟩ (.cons rfl (.cons rfl (.cons rfl (.cons rfl (.cons rfl .nil))))) (.cons rfl (.cons rfl (.cons rfl .nil))) (fun _ _ h => absurd h.1 (by simp)) ?_
 intro w leL1 m s hs
 obtain ⟨restL1, iL1, l119, Al119, cl119⟩ := s
 obtain ⟨hmL1, hdL1, hiL1, H, hl119⟩ := hs
 replace hdL1 : restL1 = List.drop iL1 y102 := hdL1
 replace H : F_shape_SetOf_L1 N y102 restL1 iL1 l119 = some r := H
 replace hmL1 : m + 1 = restL1.length + 1 := hmL1
 replace leB := leB.trans leL1
 replace hl119 : SlF Al119 (l119).length cl119 := hl119
 obtain rfl : m = restL1.length := by omega
 clear hmL1
 show Tr _ _ (LF [(0, (.slice Ay100_0 (y102).length cy100_0)), (3, (.pointer (some ⟨b104, 0, none⟩))), (14, (.slice Ay100_0 (y102).length cy100_0)), (15, (iv (y102.length : Int))), (16, (iv (iL1 : Int)))]) (LE [(2, ow Ay100_0 cy100_0 49 fl_TRect y102), (3, bx b104 #[(.slice Al119 (l119).length cl119)] 104), (12, ow Al119 cl119 3 fl_i64 l119)]) _
 cases restL1 with
 | nil =>
  rw [F_shape_SetOf_L1.eq_1] at H
  refine Tr.sr ?_
  refine Tr.va rfl (fun _ _ h1 h2 => run_lss (h1.ev rfl) (h1.ev rfl)) ?_
  refine Tr.nil (Tr.normThen ?_)
  refine Tr.seq ?_
  refine Tr.condF rfl (range_nil hdL1) ?_
  refine Tr.exit (Tr.exitThen (Tr.exitThen (Tr.exitBlock (Tr.normThen ?_))))
  refine Tr.sr ?_
  refine Tr.va rfl (fun _ _ h1 h2 => run_load1 ag_104 (h1.ev rfl) (rdb h2 (vs := [(.slice Al119 (l119).length cl119)]) (k := 3) rfl 0) rfl) ?_
  obtain ⟨y120, hy120, H⟩ := bnd H
  refine Tr.callM [12] [ow Al119 cl119 3 fl_i64 l119] (U := Unit) (fun u => (.tuple #[])) (fun u => (y120).length = (l119).length) (fun u => [ow Al119 cl119 3 fl_i64 y120]) rfl (pk_cons rfl pk_nil) (fun _ => rfl) (wn rfl) rfl Tryz.call60 (evl_cons rfl evl_nil) (fun W hW hp hE => F_slices_Sort_int_ok l119 Al119 cl119 y120 hy120 hE) ?_
  intro u hu
  have gky120_0 := hu
  have hgky120_0 : (y120).length = (l119).length := gky120_0 --@phi
  have hfky120_0 : SlF Al119 (y120).length cl119 := by rw [hgky120_0]; exact hl119
  show Tr _ _ (uf _ 29 (.tuple #[])) (up _ 12 (ow Al119 cl119 3 fl_i64 y120)) _
  refine Tr.sel (lf := [(0, (.slice Ay100_0 (y102).length cy100_0)), (3, (.pointer (some ⟨b104, 0, none⟩))), (14, (.slice Ay100_0 (y102).length cy100_0)), (15, (iv (y102.length : Int))), (16, (iv (iL1 : Int))), (17, (.bool (decide ((iL1 : Int) < (y102.length : Int))))), (28, (.slice Al119 (y120).length cl119)), (29, (.tuple #[]))]) (le := [(2, ow Ay100_0 cy100_0 49 fl_TRect y102), (3, bx b104 #[(.slice Al119 (y120).length cl119)] 104), (12, ow Al119 cl119 3 fl_i64 y120)]) (.cons rfl (.cons rfl (.cons rfl (.cons rfl (.cons rfl (.cons rfl (.cons (slenV rfl (by rw [hgky120_0])) (.cons rfl .nil)))))))) (.cons rfl (.cons (ebx rfl (by rw [hgky120_0])) (.cons rfl .nil))) ?_
  refine Tr.nil (Tr.normThen ?_)
  refine Tr.sr ?_
  refine Tr.va rfl (fun _ _ h1 h2 => run_load1 ag_104 (h1.ev rfl) (rdb h2 (vs := [(.slice Al119 (y120).length cl119)]) (k := 3) rfl 0) rfl) ?_
  obtain ⟨y122, hy122, H⟩ := bnd H
  refine Tr.callM [12] [ow Al119 cl119 3 fl_i64 y120] (U := (Option Addr × Nat)) (fun u => (.slice u.1 (y122).length u.2)) (fun u => SlF u.1 (y122).length u.2) (fun u => [ow u.1 u.2 3 fl_i64 y122]) rfl (pk_cons rfl pk_nil) (fun _ => rfl) (wn rfl) rfl Tryz.call61 (evl_cons rfl evl_nil) (fun W hW hp hE => F_slices_Compact_int_ok y120 Al119 cl119 y122 hy122 hE) ?_
  intro u hu
  obtain ⟨Ay122_0, cy122_0⟩ := u
  have gy122_0 := hu
  have hgy122_0 : SlF Ay122_0 (y122).length cy122_0 := gy122_0 --@phi
  show Tr _ _ (uf _ 31 (.slice Ay122_0 (y122).length cy122_0)) (up _ 12 (ow Ay122_0 cy122_0 3 fl_i64 y122)) _
  refine Tr.store 3 (cs := [(.slice Ay122_0 (y122).length cy122_0)]) [(.slice Ay122_0 (y122).length cy122_0)] (wn rfl) rfl rfl rfl rfl sz_104 rfl rfl rfl ?_
  refine Tr.nil (Tr.normThen ?_)
  refine Tr.sr ?_
  refine Tr.asg rfl rfl ?_
  refine Tr.nilOwn 13 111 fl_TBand ?_
  show Tr _ _ (uf _ 6 (.slice none (([] : List TBand)).length 0)) _ _
  refine Tr.nil (Tr.normThen ?_)
  refine Tr.sr ?_
  refine Tr.asg rfl rfl ?_
  refine Tr.nilOwn 14 49 fl_TRect ?_
  show Tr _ _ (uf _ 7 (.slice none (([] : List TRect)).length 0)) _ _
  refine Tr.nil (Tr.normThen ?_)
  refine Tr.sr ?_
  refine Tr.asg rfl rfl ?_
  refine Tr.nil (Tr.normThen ?_)
  refine Tr.seq ?_
  refine Tr.sr ?_
  refine Tr.alloc 15 (wn rfl) rfl ze_3 fun b124 => ?_
  refine Tr.store 15 (cs := [(iv 0)]) [(iv 0)] (wn rfl) rfl rfl rfl rfl sz_3 rfl rfl rfl ?_
  refine Tr.nil (Tr.normThen ?_)
  refine Tr.block ?_
  refine Tr.ren 15 29 rfl rfl rfl ?_
  refine Tr.loop (σ := Int × (List TBand) × (List TRect) × Int × Nat × (Option Addr) × Nat × (Option Addr) × Nat) (fun m w s => F_shape_SetOf_L4 N y102 y122 m s.1 s.2.1 s.2.2.1 s.2.2.2.1 = some r ∧ SlF s.2.2.2.2.2.1 (s.2.1).length s.2.2.2.2.2.2.1 ∧ SlF s.2.2.2.2.2.2.2.1 (s.2.2.1).length s.2.2.2.2.2.2.2.2) (fun s => [(0, (.slice Ay100_0 (y102).length cy100_0)), (3, (.pointer (some ⟨b104, 0, none⟩))), (6, (.slice s.2.2.2.2.2.1 (s.2.1).length s.2.2.2.2.2.2.1)), (7, (.slice s.2.2.2.2.2.2.2.1 (s.2.2.1).length s.2.2.2.2.2.2.2.2)), (8, (iv s.2.2.2.1)), (9, (.pointer (some ⟨s.2.2.2.2.1, 0, none⟩)))]) (fun s => [(2, ow Ay100_0 cy100_0 49 fl_TRect y102), (3, bx b104 #[(.slice Ay122_0 (y122).length cy122_0)] 104), (12, ow Ay122_0 cy122_0 3 fl_i64 y122), (13, ow s.2.2.2.2.2.1 s.2.2.2.2.2.2.1 111 fl_TBand s.2.1), (14, ow s.2.2.2.2.2.2.2.1 s.2.2.2.2.2.2.2.2 49 fl_TRect s.2.2.1), (29, bx s.2.2.2.2.1 #[(iv s.1)] 3)]) N (0, ([] : List TBand), ([] : List TRect), 0, b124, none, 0, none, 0) ⟨H, slf_nil, slf_nil⟩ (.cons rfl (.cons rfl (.cons rfl (.cons rfl (.cons rfl (.cons rfl .nil)))))) (.cons rfl (.cons rfl (.cons rfl (.cons rfl (.cons rfl (.cons rfl .nil)))))) (fun _ _ h => noSome (h.1)) ?_
  intro w leL4 mL4 s hs
  obtain ⟨x229, l230, l231, x232, bv227, Al230, cl230, Al231, cl231⟩ := s
  obtain ⟨H, hl230, hl231⟩ := hs
  replace H : F_shape_SetOf_L4 N y102 y122 (mL4 + 1) x229 l230 l231 x232 = some r := H
  replace leB := leB.trans leL4
  replace leL1 := leL1.trans leL4
  replace hl230 : SlF Al230 (l230).length cl230 := hl230
  replace hl231 : SlF Al231 (l231).length cl231 := hl231
  rw [F_shape_SetOf_L4.eq_2] at H
  show Tr _ _ (LF [(0, (.slice Ay100_0 (y102).length cy100_0)), (3, (.pointer (some ⟨b104, 0, none⟩))), (6, (.slice Al230 (l230).length cl230)), (7, (.slice Al231 (l231).length cl231)), (8, (iv x232)), (9, (.pointer (some ⟨bv227, 0, none⟩)))]) (LE [(2, ow Ay100_0 cy100_0 49 fl_TRect y102), (3, bx b104 #[(.slice Ay122_0 (y122).length cy122_0)] 104), (12, ow Ay122_0 cy122_0 3 fl_i64 y122), (13, ow Al230 cl230 111 fl_TBand l230), (14, ow Al231 cl231 49 fl_TRect l231), (29, bx bv227 #[(iv x229)] 3)]) _
  refine Tr.seq ?_
  refine Tr.sr ?_
  refine Tr.va rfl (fun _ _ h1 h2 => run_load1 ag_3 (h1.ev rfl) (rdb h2 (vs := [(iv x229)]) (k := 29) rfl 0) rfl) ?_
  refine Tr.va rfl (fun _ _ h1 h2 => run_add (h1.ev rfl) (h1.ev rfl)) ?_
  refine Tr.va rfl (fun _ _ h1 h2 => run_load1 ag_104 (h1.ev rfl) (rdb h2 (vs := [(.slice Ay122_0 (y122).length cy122_0)]) (k := 3) rfl 0) rfl) ?_
  refine Tr.va rfl (fun _ _ h1 h2 => run_len un_104 (h1.ev rfl)) ?_
  refine Tr.va rfl (fun _ _ h1 h2 => run_lss (h1.ev rfl) (h1.ev rfl)) ?_
  refine Tr.nil (Tr.normThen ?_)
  refine Tr.cond rfl H (fun H => ?_) (fun H => ?_)
  ·refine Tr.skip (Tr.normThen ?_)
   refine Tr.seq ?_
   refine Tr.block ?_
   refine Tr.sr ?_
   refine Tr.mv rfl rfl ?_
   refine Tr.mkFunc (vs := [(.pointer (some ⟨b104, 0, none⟩)), (.pointer (some ⟨bv227, 0, none⟩))]) (wn rfl) rfl (evl_cons rfl (evl_cons rfl evl_nil)) ?_
   obtain ⟨y233, hy233, H⟩ := bnd H
   refine Tr.callM [14] [ow Al231 cl231 49 fl_TRect l231] (U := (Option Addr × Nat)) (fun u => (.slice u.1 (y233).length u.2)) (fun u => SlF u.1 (y233).length u.2) (fun u => [ow u.1 u.2 49 fl_TRect y233]) rfl (pk_cons rfl pk_nil) (fun _ => rfl) (wn rfl) rfl Tryz.call62 (evl_cons rfl (evl_cons rfl evl_nil)) (fun W hW hp hE => F_slices_DeleteFunc_Rect_ok N l231 Al231 cl231 (fun z0 => F_shape_SetOf_2 z0 y122 x229) 63 [(.pointer (some ⟨b104, 0, none⟩)), (.pointer (some ⟨bv227, 0, none⟩))] Tryz.call63 (fun w' he z0 y hy => F_shape_SetOf_2_ok z0 y122 Ay122_0 cy122_0 ((hW.slS (k := 12) rfl hp rfl).ext he) b104 (he.r _ (hW.boxS (k := 3) rfl hp rfl)) (he.cells (hW.boxS (k := 3) rfl hp rfl) (hW.boxC (k := 3) rfl)) x229 bv227 (he.r _ (hW.boxS (k := 29) rfl hp rfl)) (he.cells (hW.boxS (k := 29) rfl hp rfl) (hW.boxC (k := 29) rfl)) y hy (HF.start _)) y233 hy233 hE) ?_
   intro u hu
   obtain ⟨Ay233_0, cy233_0⟩ := u
   have gy233_0 := hu
   have hgy233_0 : SlF Ay233_0 (y233).length cy233_0 := gy233_0 --@phi
   show Tr _ _ (uf _ 41 (.slice Ay233_0 (y233).length cy233_0)) (up _ 14 (ow Ay233_0 cy233_0 49 fl_TRect y233)) _
   refine Tr.asg rfl rfl ?_
   refine Tr.nil (Tr.normThen ?_)
   refine Tr.seq ?_
   refine Tr.block ?_
   refine Tr.loop (σ := (List TRect) × Int × (Option Addr) × Nat) (fun m w s => F_shape_SetOf_L5 y102 y122 x229 l230 (F_shape_SetOf_L4 N y102 y122 mL4) m s.1 s.2.1 = some r ∧ SlF s.2.2.1 (s.1).length s.2.2.2) (fun s => [(0, (.slice Ay100_0 (y102).length cy100_0)), (3, (.pointer (some ⟨b104, 0, none⟩))), (6, (.slice Al230 (l230).length cl230)), (7, (.slice s.2.2.1 (s.1).length s.2.2.2)), (8, (iv s.2.1)), (9, (.pointer (some ⟨bv227, 0, none⟩)))]) (fun s => [(2, ow Ay100_0 cy100_0 49 fl_TRect y102), (3, bx b104 #[(.slice Ay122_0 (y122).length cy122_0)] 104), (12, ow Ay122_0 cy122_0 3 fl_i64 y122), (13, ow Al230 cl230 111 fl_TBand l230), (14, ow s.2.2.1 s.2.2.2 49 fl_TRect s.1), (29, bx bv227 #[(iv x229)] 3)]) N (y233, x232, Ay233_0, cy233_0) ⟨H, hgy233_0⟩ (.cons rfl (.cons rfl (.cons rfl (.cons rfl (.cons rfl (.cons rfl .nil)))))) (.cons rfl (.cons rfl (.cons rfl (.cons rfl (.cons rfl (.cons rfl .nil)))))) (fun _ _ h => noSome (h.1)) ?_
   intro w leL5 mL5 s hs
   obtain ⟨l257, x258, Al257, cl257⟩ := s
   obtain ⟨H, hl257⟩ := hs
   replace H : F_shape_SetOf_L5 y102 y122 x229 l230 (F_shape_SetOf_L4 N y102 y122 mL4) (mL5 + 1) l257 x258 = some r := H
   replace leB := leB.trans leL5
   replace leL1 := leL1.trans leL5
   replace leL4 := leL4.trans leL5
   replace hl257 : SlF Al257 (l257).length cl257 := hl257
   rw [F_shape_SetOf_L5.eq_2] at H
   show Tr _ _ (LF [(0, (.slice Ay100_0 (y102).length cy100_0)), (3, (.pointer (some ⟨b104, 0, none⟩))), (6, (.slice Al230 (l230).length cl230)), (7, (.slice Al257 (l257).length cl257)), (8, (iv x258)), (9, (.pointer (some ⟨bv227, 0, none⟩)))]) (LE [(2, ow Ay100_0 cy100_0 49 fl_TRect y102), (3, bx b104 #[(.slice Ay122_0 (y122).length cy122_0)] 104), (12, ow Ay122_0 cy122_0 3 fl_i64 y122), (13, ow Al230 cl230 111 fl_TBand l230), (14, ow Al257 cl257 49 fl_TRect l257), (29, bx bv227 #[(iv x229)] 3)]) _
   refine Tr.seq ?_
   refine Tr.seq ?_
   refine Tr.draw (by kernel_rfl) (by kernel_rfl) ?_
   refine Tq.mv rfl rfl ?_
   refine Tq.mv rfl rfl ?_
   refine Tq.va rfl (fun _ _ h1 h2 => run_len un_50 (h1.ev rfl)) ?_
   refine Tq.va rfl (fun _ _ h1 h2 => run_lss (h1.ev rfl) (h1.ev rfl)) ?_
   refine Tq.mv rfl rfl ?_
   obtain ⟨g261, hg261, H⟩ := bnd H
   refine Tq.mid 11 [(0, (.slice Ay100_0 (y102).length cy100_0)), (3, (.pointer (some ⟨b104, 0, none⟩))), (6, (.slice Al230 (l230).length cl230)), (7, (.slice Al257 (l257).length cl257)), (8, (iv x258)), (9, (.pointer (some ⟨bv227, 0, none⟩))), (57, (.bool g261))] ?_ ?_
   ·cases hg276 : (decide (x258 < (y102.length : Int)))
    ·rw [hg276] at hg261
     rw [if_neg (by decide)] at hg261
     have H := hg261
     obtain rfl := Option.some.inj H
     refine Tq.pass rfl rfl rfl rfl rfl (by decide) ?_
     refine Tq.pass rfl rfl rfl rfl rfl (by decide) ?_
     refine Tq.pass rfl rfl rfl rfl rfl (by decide) ?_
     refine Tq.pass rfl rfl rfl rfl rfl (by decide) ?_
     refine Tq.pass rfl rfl rfl rfl rfl (by decide) ?_
     refine Tq.pass rfl rfl rfl rfl rfl (by decide) ?_
     refine Tq.pass rfl rfl rfl rfl rfl (by decide) ?_
     refine Tq.pass rfl rfl rfl rfl rfl (by decide) ?_
     refine Tq.pass rfl rfl rfl rfl rfl (by decide) ?_
     refine Tq.pass rfl rfl rfl rfl rfl (by decide) ?_
     refine Tq.va rfl (fun _ _ h1 h2 => run_pickF (h1.ev rfl) (h1.ev rfl)) ?_
     exact Tq.fin (.cons rfl (.cons rfl (.cons rfl (.cons rfl (.cons rfl (.cons rfl (.cons rfl .nil)))))))
    ·rw [hg276] at hg261
     rw [if_pos rfl] at hg261
     have H := hg261
     refine Tq.val (wg rfl rfl rfl) rfl (fun _ _ h1 h2 => run_move (h1.ev rfl)) ?_
     refine Tq.val (wg rfl rfl rfl) rfl (fun _ _ h1 h2 => run_move (h1.ev rfl)) ?_
     obtain ⟨x262, hx262, H⟩ := bnd H
     obtain ⟨hx2620, hx2621, hx2622⟩ := idx_some hx262
     refine Tq.val (wg rfl rfl rfl) rfl (fun _ _ h1 h2 => run_indexAddr el_50 (h1.ev rfl) hfky102_0 (h1.ev rfl) hx2620 hx2621) ?_
     refine Tq.val (wg rfl rfl rfl) rfl (fun _ _ h1 h2 => run_fieldAddr fo_49_1 (h1.ev rfl)) ?_
     refine Tq.val (wg rfl rfl rfl) rfl (fun _ _ h1 h2 => run_load1 ag_3 (h1.ev rfl) (CellsAt.drop (rdo ef_TRect (k := 2) h2 rfl hx2622) 1) rfl) ?_
     refine Tq.val (wg rfl rfl rfl) rfl (fun _ _ h1 h2 => run_load1 ag_104 (h1.ev rfl) (rdb h2 (vs := [(.slice Ay122_0 (y122).length cy122_0)]) (k := 3) rfl 0) rfl) ?_
     refine Tq.val (wg rfl rfl rfl) rfl (fun _ _ h1 h2 => run_load1 ag_3 (h1.ev rfl) (rdb h2 (vs := [(iv x229)]) (k := 29) rfl 0) rfl) ?_
     obtain ⟨x263, hx263, H⟩ := bnd H
     obtain ⟨hx2630, hx2631, hx2632⟩ := idx_some hx263
     refine Tq.val (wg rfl rfl rfl) rfl (fun _ _ h1 h2 => run_indexAddr el_104 (h1.ev rfl) hgy122_0 (h1.ev rfl) hx2630 hx2631) ?_
     refine Tq.val (wg rfl rfl rfl) rfl (fun _ _ h1 h2 => run_load1 ag_3 (h1.ev rfl) (rdo ef_i64 (k := 12) h2 rfl hx2632) rfl) ?_
     refine Tq.val (wg rfl rfl rfl) rfl (fun _ _ h1 h2 => run_leq (h1.ev rfl) (h1.ev rfl)) ?_
     refine Tq.va rfl (fun _ _ h1 h2 => run_pickT (h1.ev rfl) (h1.ev rfl)) ?_
     obtain rfl := Option.some.inj H
     exact Tq.fin (.cons rfl (.cons rfl (.cons rfl (.cons rfl (.cons rfl (.cons rfl (.cons rfl .nil)))))))
   ·refine Tq.nil (Tr.normThen ?_)
    refine Tr.cond rfl H (fun H => ?_) (fun H => ?_)
    ·refine Tr.skip (Tr.normThen ?_)
     refine Tr.block ?_
     refine Tr.region ?_
     refine Tr.mv rfl rfl ?_
     refine Tr.mv rfl rfl ?_
     refine Tr.mv rfl rfl ?_
     obtain ⟨x264, hx264, H⟩ := bnd H
     obtain ⟨hx2640, hx2641, hx2642⟩ := idx_some hx264
     refine Tr.va rfl (fun _ _ h1 h2 => run_indexAddr el_50 (h1.ev rfl) hfky102_0 (h1.ev rfl) hx2640 hx2641) ?_
     refine Tr.va rfl (fun _ _ h1 h2 => run_loadN (cs := [(iv x264.X0), (iv x264.Y0), (iv x264.X1), (iv x264.Y1)]) ag_49 sz_49 (h1.ev rfl) (CellsAt.take (rdo ef_TRect (k := 2) h2 rfl hx2642) 4) rfl) ?_
     refine Tr.buildSlice 32 (e := 49) (vs := [(0, (.agg #[(iv x264.X0), (iv x264.Y0), (iv x264.X1), (iv x264.Y1)]))]) (cs := [(iv x264.X0), (iv x264.Y0), (iv x264.X1), (iv x264.Y1)]) (wn rfl) rfl (evs_cons rfl evs_nil) (by kernel_rfl) fun b265 => ?_
     obtain ⟨l266, hl266, H⟩ := bnd H
     refine Tr.append 14 (t := fl_TRect) (l := l257) (l2 := [x264]) (wn rfl) rfl rfl rfl rfl (fun W hW => ⟨[[(iv x264.X0), (iv x264.Y0), (iv x264.X1), (iv x264.Y1)]], (.cons ⟨(), trivial, rfl⟩ .nil), rdb hW (vs := [(iv x264.X0), (iv x264.Y0), (iv x264.X1), (iv x264.Y1)]) (k := 32) rfl 0⟩) un_50 sz_49 zl_49 (by decide) by_49 rfl hl266 fun Al266 cl266 hAl266 => ?_
     refine Tr.mv rfl rfl ?_
     refine Tr.va rfl (fun _ _ h1 h2 => run_add (h1.ev rfl) (h1.ev rfl)) ?_
     refine Tr.asg rfl rfl ?_
     refine Tr.asg rfl rfl ?_
     refine Tr.nil (Tr.normBlock ?_)
     exact Tr.backThen leL5 (l266, (w64 (x258 + 1)), Al266, cl266) ⟨H, hAl266⟩ (.cons rfl (.cons rfl (.cons rfl (.cons rfl (.cons rfl (.cons rfl .nil)))))) (.cons rfl (.cons rfl (.cons rfl (.cons rfl (.cons rfl (.cons rfl .nil))))))
    ·refine Tr.exit (Tr.exitThen (Tr.exitThen (Tr.exitBlock (Tr.normThen ?_))))
     refine Tr.drawC 13 [(11, (ow Al257 cl257 49 fl_TRect l257).S)] [] (by kernel_rfl) (by kernel_rfl) fun sz267 hlosz267 hEsz267 => ?_
     refine Dr.quietP 0 (by kernel_rfl) rfl (wn rfl) rfl (by kernel_rfl) (fun _ _ h1 => run_move (h1.ev rfl)) rfl ?_
     refine Dr.quietZ 1 [(68, (.slice Ay122_0 (y122).length cy122_0))] [11] false (by kernel_rfl) rfl rfl (by kernel_rfl) (fun W W' h2 hsW hk => HF.keepZ (le := [(3, bx b104 #[(.slice Ay122_0 (y122).length cy122_0)] 104)]) (ks := [(14, (ow Al257 cl257 49 fl_TRect l257).S)]) (s0 := sz267) false h2 hk (fun h => absurd h (by decide)) (.cons rfl .nil) (fun b hb => hb.elim (fun ⟨p, hp, hf, hb⟩ => by simp only [List.mem_cons, List.not_mem_nil, or_false] at hp; rcases hp with rfl; exact .inl ⟨_, List.mem_cons_self, hb⟩) (fun hb => absurd hb.1 (by decide))) (List.forall_mem_cons.2 ⟨fun b hb => hb, (fun _ h => nomatch h)⟩) rfl) ?_ rfl rfl ?_
     ·refine Tq.va rfl (fun _ _ h1 h2 => run_load1 ag_104 (h1.ev rfl) (rdb h2 (vs := [(.slice Ay122_0 (y122).length cy122_0)]) (k := 3) rfl 0) rfl) ?_
      exact Tq.fin (.cons rfl .nil)
     refine Dr.quietZ 2 [(69, (iv x229))] [11] false (by kernel_rfl) rfl rfl (by kernel_rfl) (fun W W' h2 hsW hk => HF.keepZ (le := [(29, bx bv227 #[(iv x229)] 3)]) (ks := [(14, (ow Al257 cl257 49 fl_TRect l257).S)]) (s0 := sz267) false h2 hk (fun h => absurd h (by decide)) (.cons rfl .nil) (fun b hb => hb.elim (fun ⟨p, hp, hf, hb⟩ => by simp only [List.mem_cons, List.not_mem_nil, or_false] at hp; rcases hp with rfl; exact .inl ⟨_, List.mem_cons_self, hb⟩) (fun hb => absurd hb.1 (by decide))) (List.forall_mem_cons.2 ⟨fun b hb => hb, (fun _ h => nomatch h)⟩) rfl) ?_ rfl rfl ?_
     ·refine Tq.va rfl (fun _ _ h1 h2 => run_load1 ag_3 (h1.ev rfl) (rdb h2 (vs := [(iv x229)]) (k := 29) rfl 0) rfl) ?_
      exact Tq.fin (.cons rfl .nil)
     obtain ⟨x268, hx268, H⟩ := bnd H
     obtain ⟨hx2680, hx2681, hx2682⟩ := idx_some hx268
     refine Dr.quietP 3 (by kernel_rfl) rfl (wn rfl) rfl (by kernel_rfl) (fun _ _ h1 => run_indexAddr el_104 (h1.ev rfl) hgy122_0 (h1.ev rfl) hx2680 hx2681) rfl ?_
     refine Dr.quietZ 4 [(71, (iv x268))] [11] false (by kernel_rfl) rfl rfl (by kernel_rfl) (fun W W' h2 hsW hk => HF.keepZ (le := [(12, ow Ay122_0 cy122_0 3 fl_i64 y122)]) (ks := [(14, (ow Al257 cl257 49 fl_TRect l257).S)]) (s0 := sz267) false h2 hk (fun h => absurd h (by decide)) (.cons rfl .nil) (fun b hb => hb.elim (fun ⟨p, hp, hf, hb⟩ => by simp only [List.mem_cons, List.not_mem_nil, or_false] at hp; rcases hp with rfl; exact .inl ⟨_, List.mem_cons_self, hb⟩) (fun hb => absurd hb.1 (by decide))) (List.forall_mem_cons.2 ⟨fun b hb => hb, (fun _ h => nomatch h)⟩) rfl) ?_ rfl rfl ?_
     ·refine Tq.va rfl (fun _ _ h1 h2 => run_load1 ag_3 (h1.ev rfl) (rdo ef_i64 (k := 12) h2 rfl hx2682) rfl) ?_
      exact Tq.fin (.cons rfl .nil)
     refine Dr.quietZ 5 [(72, (.slice Ay122_0 (y122).length cy122_0))] [11] false (by kernel_rfl) rfl rfl (by kernel_rfl) (fun W W' h2 hsW hk => HF.keepZ (le := [(3, bx b104 #[(.slice Ay122_0 (y122).length cy122_0)] 104)]) (ks := [(14, (ow Al257 cl257 49 fl_TRect l257).S)]) (s0 := sz267) false h2 hk (fun h => absurd h (by decide)) (.cons rfl .nil) (fun b hb => hb.elim (fun ⟨p, hp, hf, hb⟩ => by simp only [List.mem_cons, List.not_mem_nil, or_false] at hp; rcases hp with rfl; exact .inl ⟨_, List.mem_cons_self, hb⟩) (fun hb => absurd hb.1 (by decide))) (List.forall_mem_cons.2 ⟨fun b hb => hb, (fun _ h => nomatch h)⟩) rfl) ?_ rfl rfl ?_
     ·refine Tq.va rfl (fun _ _ h1 h2 => run_load1 ag_104 (h1.ev rfl) (rdb h2 (vs := [(.slice Ay122_0 (y122).length cy122_0)]) (k := 3) rfl 0) rfl) ?_
      exact Tq.fin (.cons rfl .nil)
     refine Dr.quietZ 6 [(73, (iv x229))] [11] false (by kernel_rfl) rfl rfl (by kernel_rfl) (fun W W' h2 hsW hk => HF.keepZ (le := [(29, bx bv227 #[(iv x229)] 3)]) (ks := [(14, (ow Al257 cl257 49 fl_TRect l257).S)]) (s0 := sz267) false h2 hk (fun h => absurd h (by decide)) (.cons rfl .nil) (fun b hb => hb.elim (fun ⟨p, hp, hf, hb⟩ => by simp only [List.mem_cons, List.not_mem_nil, or_false] at hp; rcases hp with rfl; exact .inl ⟨_, List.mem_cons_self, hb⟩) (fun hb => absurd hb.1 (by decide))) (List.forall_mem_cons.2 ⟨fun b hb => hb, (fun _ h => nomatch h)⟩) rfl) ?_ rfl rfl ?_
     ·refine Tq.va rfl (fun _ _ h1 h2 => run_load1 ag_3 (h1.ev rfl) (rdb h2 (vs := [(iv x229)]) (k := 29) rfl 0) rfl) ?_
      exact Tq.fin (.cons rfl .nil)
     refine Dr.quietP 7 (by kernel_rfl) rfl (wn rfl) rfl (by kernel_rfl) (fun _ _ h1 => run_add (h1.ev rfl) (h1.ev rfl)) rfl ?_
     obtain ⟨x269, hx269, H⟩ := bnd H
     obtain ⟨hx2690, hx2691, hx2692⟩ := idx_some hx269
     refine Dr.quietP 8 (by kernel_rfl) rfl (wn rfl) rfl (by kernel_rfl) (fun _ _ h1 => run_indexAddr el_104 (h1.ev rfl) hgy122_0 (h1.ev rfl) hx2690 hx2691) rfl ?_
     refine Dr.quietZ 9 [(76, (iv x269))] [11] false (by kernel_rfl) rfl rfl (by kernel_rfl) (fun W W' h2 hsW hk => HF.keepZ (le := [(12, ow Ay122_0 cy122_0 3 fl_i64 y122)]) (ks := [(14, (ow Al257 cl257 49 fl_TRect l257).S)]) (s0 := sz267) false h2 hk (fun h => absurd h (by decide)) (.cons rfl .nil) (fun b hb => hb.elim (fun ⟨p, hp, hf, hb⟩ => by simp only [List.mem_cons, List.not_mem_nil, or_false] at hp; rcases hp with rfl; exact .inl ⟨_, List.mem_cons_self, hb⟩) (fun hb => absurd hb.1 (by decide))) (List.forall_mem_cons.2 ⟨fun b hb => hb, (fun _ h => nomatch h)⟩) rfl) ?_ rfl rfl ?_
     ·refine Tq.va rfl (fun _ _ h1 h2 => run_load1 ag_3 (h1.ev rfl) (rdo ef_i64 (k := 12) h2 rfl hx2692) rfl) ?_
      exact Tq.fin (.cons rfl .nil)
     refine Dr.quiet 10 [(77, (.slice Al257 (l257).length cl257))] (by kernel_rfl) rfl rfl (by kernel_rfl) ?_ rfl rfl ?_
     ·refine Tq.mv rfl rfl ?_
      exact Tq.fin (.cons rfl .nil)
     obtain ⟨y270, hy270, H⟩ := bnd H
     refine Dr.one 11 (by kernel_rfl) ?_
     refine St.callM 11 [14, 33] [ow Al257 cl257 49 fl_TRect l257, emp] (U := (Option Addr × Nat)) (fun u => (.slice u.1 (y270.1).length u.2)) (fun u => SlF u.1 (y270.1).length u.2 ∧ (y270.2).length = (l257).length) (fun u => [ow Al257 cl257 49 fl_TRect y270.2, ow u.1 u.2 3 fl_i64 y270.1]) rfl (pk_cons rfl (pk_cons rfl pk_nil)) (fun _ => rfl) (fun b ⟨e, he, hS⟩ => by simp only [List.mem_cons, List.not_mem_nil, or_false] at he; rcases he with rfl | rfl; exact .inl ⟨_, List.mem_cons_self, rfl, hS⟩; exact hS.elim) rfl (wn rfl) rfl Tryz.call65 (evl_cons rfl evl_nil) (fun W hW hp hE => F_shape_stretches_ok l257 Al257 cl257 y270 hy270 hE) ?_
     intro u hu hsy270
     obtain ⟨Ay270_0, cy270_0⟩ := u
     obtain ⟨gy270_0, gky270_0⟩ := hu
     have hgy270_0 : SlF Ay270_0 (y270.1).length cy270_0 := gy270_0
     have hgky270_0 : (y270.2).length = (l257).length := gky270_0
     have hfky270_0 : SlF Al257 (y270.2).length cl257 := by rw [hgky270_0]; exact hl257
     show Dr _ _ _ _ _ _ _ _ _ (uf _ 78 (.slice Ay270_0 (y270.1).length cy270_0)) (up (up _ 33 (ow Ay270_0 cy270_0 3 fl_i64 y270.1)) 14 (ow Al257 cl257 49 fl_TRect y270.2))
     refine Dr.use (lf := [(0, (.slice Ay100_0 (y102).length cy100_0)), (3, (.pointer (some ⟨b104, 0, none⟩))), (6, (.slice Al230 (l230).length cl230)), (7, (.slice Al257 (y270.2).length cl257)), (8, (iv x258)), (9, (.pointer (some ⟨bv227, 0, none⟩))), (57, (.bool g261)), (67, (.slice Al230 (l230).length cl230)), (68, (.slice Ay122_0 (y122).length cy122_0)), (69, (iv x229)), (70, (.pointer (some ⟨adB Ay122_0, adO Ay122_0 + (x229).toNat * 1, none⟩))), (71, (iv x268)), (72, (.slice Ay122_0 (y122).length cy122_0)), (73, (iv x229)), (74, (iv (w64 (x229 + 1)))), (75, (.pointer (some ⟨adB Ay122_0, adO Ay122_0 + ((w64 (x229 + 1))).toNat * 1, none⟩))), (76, (iv x269)), (77, (.slice Al257 (y270.2).length cl257)), (78, (.slice Ay270_0 (y270.1).length cy270_0))]) (le := [(2, ow Ay100_0 cy100_0 49 fl_TRect y102), (3, bx b104 #[(.slice Ay122_0 (y122).length cy122_0)] 104), (12, ow Ay122_0 cy122_0 3 fl_i64 y122), (13, ow Al230 cl230 111 fl_TBand l230), (14, ow Al257 cl257 49 fl_TRect y270.2), (29, bx bv227 #[(iv x229)] 3), (33, ow Ay270_0 cy270_0 3 fl_i64 y270.1)]) ?_ rfl (.cons rfl (.cons rfl (.cons rfl (.cons (slenV rfl (by rw [hgky270_0])) (.cons rfl (.cons rfl (.cons rfl (.cons rfl (.cons rfl (.cons rfl (.cons rfl (.cons rfl (.cons rfl (.cons rfl (.cons rfl (.cons rfl (.cons rfl (.cons (slenV rfl (by rw [hgky270_0])) (.cons rfl .nil))))))))))))))))))) (.cons rfl (.cons rfl (.cons rfl (.cons rfl (.cons rfl (.cons rfl (.cons rfl .nil)))))))
     refine Dr.quiet 12 [(79, (.agg #[(iv x268), (iv x269), (.slice Ay270_0 (y270.1).length cy270_0)]))] (by kernel_rfl) rfl rfl (by kernel_rfl) ?_ rfl rfl ?_
     ·refine Tq.build (vs := [(0, (iv x268)), (1, (iv x269)), (2, (.slice Ay270_0 (y270.1).length cy270_0))]) (cs := [(iv x268), (iv x269), (.slice Ay270_0 (y270.1).length cy270_0)]) (wn rfl) rfl (evs_cons rfl (evs_cons rfl (evs_cons rfl evs_nil))) (by kernel_rfl) ?_
      exact Tq.fin (.cons rfl .nil)
     refine Dr.tail (by kernel_rfl) ?_
     refine Tr.freeze 33 rfl fun w le273 hz272 => ?_
     replace leB := leB.trans le273
     replace leL1 := leL1.trans le273
     replace leL4 := leL4.trans le273
     replace leL5 := leL5.trans le273
     obtain ⟨y274, hy274, H⟩ := bnd H
     refine Tr.callG [13] [ow Al230 cl230 111 fl_TBand l230] (U := (Option Addr × Nat)) (fun u => (.slice u.1 (y274).length u.2)) (fun O W u => SlF u.1 (y274).length u.2) (fun u => [ow u.1 u.2 111 fl_TBand y274]) rfl (pk_cons rfl pk_nil) (fun _ => rfl) (wn rfl) rfl Tryz.call64 (evl_cons rfl (evl_cons rfl evl_nil)) (fun W hW hp hE => F_shape_Set__push_ok l230 Al230 cl230 (TBand.mk x268 x269 y270.1) Ay270_0 cy270_0 (hz272.extO (hW.extS hp)) y274 hy274 hE) ?_
     intro w u le275 hu
     obtain ⟨Ay274_0, cy274_0⟩ := u
     have gy274_0 := hu
     replace hz272 := hz272.le le275
     replace leB := leB.trans le275
     replace leL1 := leL1.trans le275
     replace leL4 := leL4.trans le275
     replace leL5 := leL5.trans le275
     have hgy274_0 : SlF Ay274_0 (y274).length cy274_0 := gy274_0 --@phi
     show Tr _ _ (uf _ 80 (.slice Ay274_0 (y274).length cy274_0)) (up _ 13 (ow Ay274_0 cy274_0 111 fl_TBand y274)) _
     refine Tr.asg rfl rfl ?_
     refine Tr.nil (Tr.normBlock (Tr.normThen ?_))
     refine Tr.seq ?_
     refine Tr.sr ?_
     refine Tr.va rfl (fun _ _ h1 h2 => run_load1 ag_3 (h1.ev rfl) (rdb h2 (vs := [(iv x229)]) (k := 29) rfl 0) rfl) ?_
     refine Tr.nil (Tr.normThen ?_)
     refine Tr.region ?_
     refine Tr.alloc 34 (wn rfl) rfl ze_3 fun b276 => ?_
     refine Tr.store 34 (cs := [(iv x229)]) [(iv x229)] (wn rfl) rfl rfl rfl rfl sz_3 rfl rfl rfl ?_
     refine Tr.nil (Tr.normThen ?_)
     refine Tr.region ?_
     refine Tr.va rfl (fun _ _ h1 h2 => run_load1 ag_3 (h1.ev rfl) (rdb h2 (vs := [(iv x229)]) (k := 34) rfl 0) rfl) ?_
     refine Tr.va rfl (fun _ _ h1 h2 => run_add (h1.ev rfl) (h1.ev rfl)) ?_
     refine Tr.store 34 (cs := [(iv (w64 (x229 + 1)))]) [(iv (w64 (x229 + 1)))] (wn rfl) rfl rfl rfl rfl sz_3 rfl rfl rfl ?_
     refine Tr.nil ?_
     refine Tr.dropK 29 ?_
     refine Tr.ren 34 29 rfl rfl rfl ?_
     exact Tr.backThen leL4 ((w64 (x229 + 1)), y274, y270.2, x258, b276, Ay274_0, cy274_0, Al257, cl257) ⟨H, hgy274_0, hfky270_0⟩ (.cons rfl (.cons rfl (.cons rfl (.cons rfl (.cons rfl (.cons rfl .nil)))))) (.cons rfl (.cons rfl (.cons rfl (.cons rfl (.cons rfl (.cons rfl .nil))))))
  ·refine Tr.exit (Tr.exitThen (Tr.exitThen (Tr.exitBlock (Tr.normThen ?_))))
   refine Tr.sr ?_
   refine Tr.mv rfl rfl ?_
   refine Tr.asg rfl rfl ?_
   refine Tr.nil (Tr.normThen ?_)
   refine Tr.ret ?_
   obtain rfl := Option.some.inj H
   exact Tr.out (m := [(.slice Al230 (l230).length cl230)]) [] (res_tmp rfl res_nil) (fun W hW => ⟨w, (Al230, cl230), leB, rfl, hl230, hW.pick (ks := [13]) (by decide) (pk_cons rfl pk_nil)⟩)
 | cons xL1 restL1 =>
  rw [F_shape_SetOf_L1.eq_2] at H
  refine Tr.sr ?_
  refine Tr.va rfl (fun _ _ h1 h2 => run_lss (h1.ev rfl) (h1.ev rfl)) ?_
  refine Tr.nil (Tr.normThen ?_)
  refine Tr.seq ?_
  refine Tr.condT rfl (range_on hdL1) ?_
  refine Tr.skip (Tr.normThen ?_)
  refine Tr.seq ?_
  refine Tr.block ?_
  refine Tr.sr ?_
  refine Tr.va rfl (fun _ _ h1 h2 => run_indexAddr el_50 (h1.ev rfl) hfky102_0 (h1.ev rfl) (Int.natCast_nonneg _) (range_lt hdL1)) ?_
  refine Tr.va rfl (fun _ _ h1 h2 => run_loadN (cs := [(iv xL1.X0), (iv xL1.Y0), (iv xL1.X1), (iv xL1.Y1)]) ag_49 sz_49 (h1.ev rfl) (CellsAt.take (rdo ef_TRect (k := 2) h2 rfl (range_at hdL1)) 4) rfl) ?_
  refine Tr.alloc 35 (wn rfl) rfl ze_49 fun b277 => ?_
  refine Tr.store 35 (cs := [(iv xL1.X0), (iv xL1.Y0), (iv xL1.X1), (iv xL1.Y1)]) [(iv xL1.X0), (iv xL1.Y0), (iv xL1.X1), (iv xL1.Y1)] (wn rfl) rfl rfl rfl rfl sz_49 rfl rfl rfl ?_
  refine Tr.nil (Tr.normThen ?_)
  refine Tr.region ?_
  refine Tr.va rfl (fun _ _ h1 h2 => run_load1 ag_104 (h1.ev rfl) (rdb h2 (vs := [(.slice Al119 (l119).length cl119)]) (k := 3) rfl 0) rfl) ?_
  refine Tr.va rfl (fun _ _ h1 h2 => run_fieldAddr fo_49_1 (h1.ev rfl)) ?_
  refine Tr.va rfl (fun _ _ h1 h2 => run_load1 ag_3 (h1.ev rfl) (rdb h2 (vs := [(iv xL1.X0), (iv xL1.Y0), (iv xL1.X1), (iv xL1.Y1)]) (k := 35) rfl 1) rfl) ?_
  refine Tr.va rfl (fun _ _ h1 h2 => run_fieldAddr fo_49_3 (h1.ev rfl)) ?_
  refine Tr.va rfl (fun _ _ h1 h2 => run_load1 ag_3 (h1.ev rfl) (rdb h2 (vs := [(iv xL1.X0), (iv xL1.Y0), (iv xL1.X1), (iv xL1.Y1)]) (k := 35) rfl 3) rfl) ?_
  refine Tr.buildSlice 36 (e := 3) (vs := [(0, (iv xL1.Y0)), (1, (iv xL1.Y1))]) (cs := [(iv xL1.Y0), (iv xL1.Y1)]) (wn rfl) rfl (evs_cons rfl (evs_cons rfl evs_nil)) (by kernel_rfl) fun b278 => ?_
  obtain ⟨l279, hl279, H⟩ := bnd H
  refine Tr.append 12 (t := fl_i64) (l := l119) (l2 := [xL1.Y0, xL1.Y1]) (wn rfl) rfl rfl rfl rfl (fun W hW => ⟨[[(iv xL1.Y0)], [(iv xL1.Y1)]], (.cons ⟨(), trivial, rfl⟩ (.cons ⟨(), trivial, rfl⟩ .nil)), rdb hW (vs := [(iv xL1.Y0), (iv xL1.Y1)]) (k := 36) rfl 0⟩) un_104 sz_3 zl_3 (by decide) by_3 rfl hl279 fun Al279 cl279 hAl279 => ?_
  refine Tr.store 3 (cs := [(.slice Al279 (l279).length cl279)]) [(.slice Al279 (l279).length cl279)] (wn rfl) rfl rfl rfl rfl sz_104 rfl rfl rfl ?_
  refine Tr.nil (Tr.normBlock (Tr.normThen ?_))
  refine Tr.region ?_
  refine Tr.va rfl (fun _ _ h1 h2 => run_add (h1.ev rfl) (h1.ev rfl)) ?_
  refine Tr.mv rfl rfl ?_
  refine Tr.nil ?_
  exact Tr.backThen leL1 (restL1, (iL1 + 1), l279, Al279, cl279) ⟨rfl, range_tl hdL1, range_lt hdL1, H, hAl279⟩ (.cons rfl (.cons rfl (.cons rfl (.cons rfl (.cons (congrArg (fun z => some (Value.int .i64 z)) (range_up hdL1 hfky102_0)) .nil))))) (.cons rfl (.cons rfl (.cons rfl .nil)))

theorem F_shape_Set__Rects_ok (N : Nat) {w : Bs} (p0 : (List TBand)) (Ap0_0 : Option Addr) (cp0_0 : Nat) (hp0_0 : Sl w.R w.W fl_TBand Ap0_0 cp0_0 p0) (r : (List TRect)) (H : F_shape_Set__Rects N p0 = some r) (hE : HF w w.W (LEn [emp])) : Calls Tryz.prog 38 [(.slice Ap0_0 (p0).length cp0_0)].toArray w.W fun e W' => ∃ u : (Option Addr × Nat), e = .returned (.slice u.1 (r).length u.2) ∧ (SlF u.1 (r).length u.2) ∧ HF w W' (LEn [ow u.1 u.2 49 fl_TRect r]) := by
 unfold F_shape_Set__Rects at H
 have leB := Bs.Le.refl w
 refine Tr.enter (n := 41) Tryz.func38 rfl rfl rfl hE ?_
 refine Tr.sr ?_
 refine Tr.asg rfl rfl ?_
 refine Tr.nilOwn 1 49 fl_TRect ?_
 show Tr _ _ (uf _ 2 (.slice none (([] : List TRect)).length 0)) _ _
 refine Tr.nil (Tr.normThen ?_)
 refine Tr.sr ?_
 refine Tr.asg rfl rfl ?_
 refine Tr.nilOwn 2 49 fl_TRect ?_
 show Tr _ _ (uf _ 3 (.slice none (([] : List TRect)).length 0)) _ _
 refine Tr.nil (Tr.normThen ?_)
 refine Tr.seq ?_
 refine Tr.sr ?_
 refine Tr.mv rfl rfl ?_
 refine Tr.va rfl (fun _ _ h1 h2 => run_len un_84 (h1.ev rfl)) ?_
 refine Tr.mv rfl rfl ?_
 refine Tr.nil (Tr.normThen ?_)
 refine Tr.block ?_
 refine Tr.loop (σ := (List TBand) × Nat × (List TRect) × (Option Addr) × Nat) (fun m w s => m = s.1.length + 1 ∧ s.1 = List.drop s.2.1 p0 ∧ s.2.1 ≤ p0.length ∧ F_shape_Set__Rects_L3 N s.1 s.2.1 s.2.2.1 = some r ∧ SlF s.2.2.2.1 (s.2.2.1).length s.2.2.2.2) (fun s => [(3, (.slice s.2.2.2.1 (s.2.2.1).length s.2.2.2.2)), (7, (.slice Ap0_0 (p0).length cp0_0)), (8, (iv (p0.length : Int))), (9, (iv (s.2.1 : Int)))]) (fun s => [(2, ow s.2.2.2.1 s.2.2.2.2 49 fl_TRect s.2.2.1)]) (p0.length + 1) (p0, 0, ([] : List TRect), none, 0) ⟨rfl, rfl, Nat.zero_le _, H, slf_nil⟩ (.cons rfl (.cons rfl (.cons rfl (.cons rfl .nil)))) (.cons rfl .nil) (fun _ _ h => absurd h.1 (by simp)) ?_
 intro w leL3 m s hs
 obtain ⟨restL3, iL3, l152, Al152, cl152⟩ := s
 obtain ⟨hmL3, hdL3, hiL3, H, hl152⟩ := hs
 replace hdL3 : restL3 = List.drop iL3 p0 := hdL3
 replace H : F_shape_Set__Rects_L3 N restL3 iL3 l152 = some r := H
 replace hmL3 : m + 1 = restL3.length + 1 := hmL3
 replace hp0_0 := hp0_0.leR leL3
 replace leB := leB.trans leL3
 replace hl152 : SlF Al152 (l152).length cl152 := hl152
 obtain rfl : m = restL3.length := by omega
 clear hmL3
 show Tr _ _ (LF [(3, (.slice Al152 (l152).length cl152)), (7, (.slice Ap0_0 (p0).length cp0_0)), (8, (iv (p0.length : Int))), (9, (iv (iL3 : Int)))]) (LE [(2, ow Al152 cl152 49 fl_TRect l152)]) _
 cases restL3 with
 | nil =>
  rw [F_shape_Set__Rects_L3.eq_1] at H
  refine Tr.sr ?_
  refine Tr.va rfl (fun _ _ h1 h2 => run_lss (h1.ev rfl) (h1.ev rfl)) ?_
  refine Tr.nil (Tr.normThen ?_)
  refine Tr.seq ?_
  refine Tr.condF rfl (range_nil hdL3) ?_
  refine Tr.exit (Tr.exitThen (Tr.exitThen (Tr.exitBlock (Tr.normThen ?_))))
  refine Tr.sr ?_
  refine Tr.mv rfl rfl ?_
  refine Tr.asg rfl rfl ?_
  refine Tr.nil (Tr.normThen ?_)
  refine Tr.ret ?_
  obtain rfl := Option.some.inj H
  exact Tr.out (m := [(.slice Al152 (l152).length cl152)]) [] (res_tmp rfl res_nil) (fun W hW => ⟨(Al152, cl152), rfl, hl152, HF.lowE leB (hW.pick (ks := [2]) (by decide) (pk_cons rfl pk_nil)) ⟨ow_any _ _ _ _ tr_TRect, trivial⟩⟩)
 | cons xL3 restL3 =>
  rw [F_shape_Set__Rects_L3.eq_2] at H
  refine Tr.sr ?_
  refine Tr.va rfl (fun _ _ h1 h2 => run_lss (h1.ev rfl) (h1.ev rfl)) ?_
  refine Tr.nil (Tr.normThen ?_)
  refine Tr.seq ?_
  refine Tr.condT rfl (range_on hdL3) ?_
  refine Tr.skip (Tr.normThen ?_)
  refine Tr.seq ?_
  refine Tr.block ?_
  refine Tr.sr ?_
  obtain ⟨u153, hRu153, hoku153, hcu153⟩ := (hp0_0).el (range_at hdL3)
  obtain ⟨Au153_0, cu153_0⟩ := u153
  have hoku153_0 := hoku153
  replace hoku153_0 : Sl w.R w.W fl_i64 Au153_0 cu153_0 xL3.Xs := hoku153_0
  refine Tr.va rfl (fun _ _ h1 h2 => run_indexAddr el_84 (h1.ev rfl) hp0_0.form (h1.ev rfl) (Int.natCast_nonneg _) (range_lt hdL3)) ?_
  refine Tr.va rfl (fun _ _ h1 h2 => run_loadN (cs := [(iv xL3.Y0), (iv xL3.Y1), (.slice Au153_0 (xL3.Xs).length cu153_0)]) ag_111 sz_111 (h1.ev rfl) (CellsAt.take (rdR hRu153 hcu153 h2) 3) rfl) ?_
  refine Tr.alloc 11 (wn rfl) rfl ze_111 fun b154 => ?_
  refine Tr.store 11 (cs := [(iv xL3.Y0), (iv xL3.Y1), (.slice Au153_0 (xL3.Xs).length cu153_0)]) [(iv xL3.Y0), (iv xL3.Y1), (.slice Au153_0 (xL3.Xs).length cu153_0)] (wn rfl) rfl rfl rfl rfl sz_111 rfl rfl rfl ?_
  refine Tr.nil (Tr.normThen ?_)
  refine Tr.sr ?_
  refine Tr.asg rfl rfl ?_
  refine Tr.nil (Tr.normThen ?_)
  refine Tr.block ?_
  refine Tr.loop (σ := (List TRect) × Int × (Option Addr) × Nat) (fun m w s => F_shape_Set__Rects_L4 (F_shape_Set__Rects_L3 N restL3 (iL3 + 1)) xL3 m s.1 s.2.1 = some r ∧ SlF s.2.2.1 (s.1).length s.2.2.2) (fun s => [(3, (.slice s.2.2.1 (s.1).length s.2.2.2)), (5, (.pointer (some ⟨b154, 0, none⟩))), (6, (iv s.2.1)), (7, (.slice Ap0_0 (p0).length cp0_0)), (8, (iv (p0.length : Int))), (9, (iv (iL3 : Int)))]) (fun s => [(2, ow s.2.2.1 s.2.2.2 49 fl_TRect s.1), (11, bx b154 #[(iv xL3.Y0), (iv xL3.Y1), (.slice Au153_0 (xL3.Xs).length cu153_0)] 111)]) N (l152, 0, Al152, cl152) ⟨H, hl152⟩ (.cons rfl (.cons rfl (.cons rfl (.cons rfl (.cons rfl (.cons rfl .nil)))))) (.cons rfl (.cons rfl .nil)) (fun _ _ h => noSome (h.1)) ?_
  intro w leL4 mL4 s hs
  obtain ⟨l169, x170, Al169, cl169⟩ := s
  obtain ⟨H, hl169⟩ := hs
  replace H : F_shape_Set__Rects_L4 (F_shape_Set__Rects_L3 N restL3 (iL3 + 1)) xL3 (mL4 + 1) l169 x170 = some r := H
  replace hoku153_0 := hoku153_0.leR leL4
  replace hp0_0 := hp0_0.leR leL4
  replace leB := leB.trans leL4
  replace leL3 := leL3.trans leL4
  replace hl169 : SlF Al169 (l169).length cl169 := hl169
  rw [F_shape_Set__Rects_L4.eq_2] at H
  show Tr _ _ (LF [(3, (.slice Al169 (l169).length cl169)), (5, (.pointer (some ⟨b154, 0, none⟩))), (6, (iv x170)), (7, (.slice Ap0_0 (p0).length cp0_0)), (8, (iv (p0.length : Int))), (9, (iv (iL3 : Int)))]) (LE [(2, ow Al169 cl169 49 fl_TRect l169), (11, bx b154 #[(iv xL3.Y0), (iv xL3.Y1), (.slice Au153_0 (xL3.Xs).length cu153_0)] 111)]) _
  refine Tr.seq ?_
  refine Tr.sr ?_
  refine Tr.mv rfl rfl ?_
  refine Tr.va rfl (fun _ _ h1 h2 => run_fieldAddr fo_111_2 (h1.ev rfl)) ?_
  refine Tr.va rfl (fun _ _ h1 h2 => run_load1 ag_104 (h1.ev rfl) (rdb h2 (vs := [(iv xL3.Y0), (iv xL3.Y1), (.slice Au153_0 (xL3.Xs).length cu153_0)]) (k := 11) rfl 2) rfl) ?_
  refine Tr.va rfl (fun _ _ h1 h2 => run_len un_104 (h1.ev rfl)) ?_
  refine Tr.va rfl (fun _ _ h1 h2 => run_lss (h1.ev rfl) (h1.ev rfl)) ?_
  refine Tr.nil (Tr.normThen ?_)
  refine Tr.cond rfl H (fun H => ?_) (fun H => ?_)
  ·refine Tr.skip (Tr.normThen ?_)
   refine Tr.seq ?_
   refine Tr.block ?_
   obtain ⟨x172, hx172, H⟩ := bnd H
   obtain ⟨hx1720, hx1721, hx1722⟩ := idx_some hx172
   obtain ⟨x173, hx173, H⟩ := bnd H
   obtain ⟨hx1730, hx1731, hx1732⟩ := idx_some hx173
   refine Tr.drawF 18 [(17, .makeFunc (.func 0) #[] #[.tmp 36])] [(17, ⟨37, 14, (.func (.func 0) #[] #[(.agg #[(iv x172), (iv xL3.Y0), (iv x173), (iv xL3.Y1)])]), fun b => .slice (some ⟨b, 0, none⟩) 1 1, fun b => bx b #[(iv x172), (iv xL3.Y0), (iv x173), (iv xL3.Y1)] 49⟩)] [(3, (.slice Al169 (l169).length cl169)), (5, (.pointer (some ⟨b154, 0, none⟩))), (6, (iv x170)), (7, (.slice Ap0_0 (p0).length cp0_0)), (8, (iv (p0.length : Int))), (9, (iv (iL3 : Int))), (13, (iv x170)), (14, (.pointer (some ⟨b154, 2, none⟩))), (15, (.slice Au153_0 (xL3.Xs).length cu153_0)), (16, (iv (xL3.Xs.length : Int))), (17, (.bool (decide (x170 < (xL3.Xs.length : Int))))), (20, (.slice Al169 (l169).length cl169)), (21, (.pointer (some ⟨b154, 2, none⟩))), (22, (.slice Au153_0 (xL3.Xs).length cu153_0)), (23, (iv x170)), (24, (.pointer (some ⟨adB Au153_0, adO Au153_0 + (x170).toNat * 1, none⟩))), (25, (iv x172)), (26, (.pointer (some ⟨b154, 0, none⟩))), (27, (iv xL3.Y0)), (28, (.pointer (some ⟨b154, 2, none⟩))), (29, (.slice Au153_0 (xL3.Xs).length cu153_0)), (30, (iv x170)), (31, (iv (w64 (x170 + 1)))), (32, (.pointer (some ⟨adB Au153_0, adO Au153_0 + ((w64 (x170 + 1))).toNat * 1, none⟩))), (33, (iv x173)), (34, (.pointer (some ⟨b154, 1, none⟩))), (35, (iv xL3.Y1)), (36, (.agg #[(iv x172), (iv xL3.Y0), (iv x173), (iv xL3.Y1)])), (37, (.func (.func 0) #[] #[(.agg #[(iv x172), (iv xL3.Y0), (iv x173), (iv xL3.Y1)])]))] (by kernel_rfl) (by kernel_rfl) (by kernel_rfl) (by kernel_rfl) (by kernel_rfl) (by kernel_rfl) (by kernel_rfl) (fall_cons (fr_lit (vs := [(0, (.agg #[(iv x172), (iv xL3.Y0), (iv x173), (iv xL3.Y1)]))]) rfl rfl rfl (by kernel_rfl)) fall_nil) (fall_cons rfl fall_nil) (fall_cons rfl fall_nil) ?_ ?_
   ·refine Tq.mv rfl rfl ?_
    refine Tq.va rfl (fun _ _ h1 h2 => run_fieldAddr fo_111_2 (h1.ev rfl)) ?_
    refine Tq.va rfl (fun _ _ h1 h2 => run_load1 ag_104 (h1.ev rfl) (rdb h2 (vs := [(iv xL3.Y0), (iv xL3.Y1), (.slice Au153_0 (xL3.Xs).length cu153_0)]) (k := 11) rfl 2) rfl) ?_
    refine Tq.mv rfl rfl ?_
    refine Tq.va rfl (fun _ _ h1 h2 => run_indexAddr el_104 (h1.ev rfl) hoku153_0.form (h1.ev rfl) hx1720 hx1721) ?_
    refine Tq.va rfl (fun _ _ h1 h2 => run_load1 ag_3 (h1.ev rfl) (rdF ef_i64 hoku153_0 hx1722 h2) rfl) ?_
    refine Tq.va rfl (fun _ _ h1 h2 => run_fieldAddr fo_111_0 (h1.ev rfl)) ?_
    refine Tq.va rfl (fun _ _ h1 h2 => run_load1 ag_3 (h1.ev rfl) (rdb h2 (vs := [(iv xL3.Y0), (iv xL3.Y1), (.slice Au153_0 (xL3.Xs).length cu153_0)]) (k := 11) rfl 0) rfl) ?_
    refine Tq.va rfl (fun _ _ h1 h2 => run_fieldAddr fo_111_2 (h1.ev rfl)) ?_
    refine Tq.va rfl (fun _ _ h1 h2 => run_load1 ag_104 (h1.ev rfl) (rdb h2 (vs := [(iv xL3.Y0), (iv xL3.Y1), (.slice Au153_0 (xL3.Xs).length cu153_0)]) (k := 11) rfl 2) rfl) ?_
    refine Tq.mv rfl rfl ?_
    refine Tq.va rfl (fun _ _ h1 h2 => run_add (h1.ev rfl) (h1.ev rfl)) ?_
    refine Tq.va rfl (fun _ _ h1 h2 => run_indexAddr el_104 (h1.ev rfl) hoku153_0.form (h1.ev rfl) hx1730 hx1731) ?_
    refine Tq.va rfl (fun _ _ h1 h2 => run_load1 ag_3 (h1.ev rfl) (rdF ef_i64 hoku153_0 hx1732 h2) rfl) ?_
    refine Tq.va rfl (fun _ _ h1 h2 => run_fieldAddr fo_111_1 (h1.ev rfl)) ?_
    refine Tq.va rfl (fun _ _ h1 h2 => run_load1 ag_3 (h1.ev rfl) (rdb h2 (vs := [(iv xL3.Y0), (iv xL3.Y1), (.slice Au153_0 (xL3.Xs).length cu153_0)]) (k := 11) rfl 1) rfl) ?_
    refine Tq.build (vs := [(0, (iv x172)), (1, (iv xL3.Y0)), (2, (iv x173)), (3, (iv xL3.Y1))]) (cs := [(iv x172), (iv xL3.Y0), (iv x173), (iv xL3.Y1)]) (wn rfl) rfl (evs_cons rfl (evs_cons rfl (evs_cons rfl (evs_cons rfl evs_nil)))) (by kernel_rfl) ?_
    refine Tq.mkFunc (vs := [(.agg #[(iv x172), (iv xL3.Y0), (iv x173), (iv xL3.Y1)])]) (wn rfl) rfl (evl_cons rfl evl_nil) ?_
    exact Tq.fin (.cons rfl (.cons rfl (.cons rfl (.cons rfl (.cons rfl (.cons rfl (.cons rfl (.cons rfl (.cons rfl (.cons rfl (.cons rfl (.cons rfl (.cons rfl (.cons rfl (.cons rfl (.cons rfl (.cons rfl (.cons rfl (.cons rfl (.cons rfl (.cons rfl (.cons rfl (.cons rfl (.cons rfl (.cons rfl (.cons rfl (.cons rfl (.cons rfl (.cons rfl .nil)))))))))))))))))))))))))))))
   ·intro bs171
    refine Tr.sel (lf := [(5, (.pointer (some ⟨b154, 0, none⟩))), (6, (iv x170)), (7, (.slice Ap0_0 (p0).length cp0_0)), (8, (iv (p0.length : Int))), (9, (iv (iL3 : Int))), (20, (.slice Al169 (l169).length cl169)), (37, (.slice (some ⟨(bs171 17), 0, none⟩) 1 1))]) (le := [(2, ow Al169 cl169 49 fl_TRect l169), (11, bx b154 #[(iv xL3.Y0), (iv xL3.Y1), (.slice Au153_0 (xL3.Xs).length cu153_0)] 111), (14, bx (bs171 17) #[(iv x172), (iv xL3.Y0), (iv x173), (iv xL3.Y1)] 49)]) (.cons rfl (.cons rfl (.cons rfl (.cons rfl (.cons rfl (.cons rfl (.cons rfl .nil))))))) (.cons rfl (.cons rfl (.cons rfl .nil))) ?_
    obtain ⟨l174, hl174, H⟩ := bnd H
    refine Tr.append 2 (t := fl_TRect) (l := l169) (l2 := [(TRect.mk x172 xL3.Y0 x173 xL3.Y1)]) (wn rfl) rfl rfl rfl rfl (fun W hW => ⟨[[(iv x172), (iv xL3.Y0), (iv x173), (iv xL3.Y1)]], (.cons ⟨(), trivial, rfl⟩ .nil), rdb hW (vs := [(iv x172), (iv xL3.Y0), (iv x173), (iv xL3.Y1)]) (k := 14) rfl 0⟩) un_50 sz_49 zl_49 (by decide) by_49 rfl hl174 fun Al174 cl174 hAl174 => ?_
    refine Tr.asg rfl rfl ?_
    refine Tr.nil (Tr.normBlock (Tr.normThen ?_))
    refine Tr.region ?_
    refine Tr.mv rfl rfl ?_
    refine Tr.va rfl (fun _ _ h1 h2 => run_add (h1.ev rfl) (h1.ev rfl)) ?_
    refine Tr.asg rfl rfl ?_
    refine Tr.nil ?_
    exact Tr.backThen leL4 (l174, (w64 (x170 + 2)), Al174, cl174) ⟨H, hAl174⟩ (.cons rfl (.cons rfl (.cons rfl (.cons rfl (.cons rfl (.cons rfl .nil)))))) (.cons rfl (.cons rfl .nil))
  ·refine Tr.exit (Tr.exitThen (Tr.exitThen (Tr.exitBlock (Tr.normBlock (Tr.normThen ?_)))))
   refine Tr.region ?_
   refine Tr.va rfl (fun _ _ h1 h2 => run_add (h1.ev rfl) (h1.ev rfl)) ?_
   refine Tr.mv rfl rfl ?_
   refine Tr.nil ?_
   exact Tr.backThen leL3 (restL3, (iL3 + 1), l169, Al169, cl169) ⟨rfl, range_tl hdL3, range_lt hdL3, H, hl169⟩ (.cons rfl (.cons rfl (.cons rfl (.cons (congrArg (fun z => some (Value.int .i64 z)) (range_up hdL3 hp0_0.form)) .nil)))) (.cons rfl .nil)

theorem F_slices_Equal_Rect_ok {w : Bs} (p0 : (List TRect)) (Ap0_0 : Option Addr) (cp0_0 : Nat) (hp0_0 : Sl w.R w.W fl_TRect Ap0_0 cp0_0 p0) (p1 : (List TRect)) (Ap1_0 : Option Addr) (cp1_0 : Nat) (hp1_0 : Sl w.R w.W fl_TRect Ap1_0 cp1_0 p1) (r : Bool) (H : F_slices_Equal_Rect p0 p1 = some r) (hE : HF w w.W E0) : Calls Tryz.prog 36 [(.slice Ap0_0 (p0).length cp0_0), (.slice Ap1_0 (p1).length cp1_0)].toArray w.W fun e W' => e = .returned (.bool r) ∧ HF w W' E0 := by
 unfold F_slices_Equal_Rect at H
 have leB := Bs.Le.refl w
 refine Tr.enter (n := 26) Tryz.func36 rfl rfl rfl hE ?_
 refine Tr.sr ?_
 refine Tr.asg rfl rfl ?_
 refine Tr.nil (Tr.normThen ?_)
 refine Tr.seq ?_
 refine Tr.sr ?_
 refine Tr.mv rfl rfl ?_
 refine Tr.va rfl (fun _ _ h1 h2 => run_len un_50 (h1.ev rfl)) ?_
 refine Tr.mv rfl rfl ?_
 refine Tr.va rfl (fun _ _ h1 h2 => run_len un_50 (h1.ev rfl)) ?_
 refine Tr.va rfl (fun _ _ h1 h2 => run_neq (h1.ev rfl) (h1.ev rfl)) ?_
 refine Tr.nil (Tr.normThen ?_)
 refine Tr.cond rfl H (fun H => ?_) (fun H => ?_)
 ·refine Tr.sr ?_
  refine Tr.asg rfl rfl ?_
  refine Tr.nil (Tr.normThen ?_)
  refine Tr.ret (Tr.retThen ?_)
  obtain rfl := Option.some.inj H
  exact Tr.out (m := [(.bool false)]) [] (res_tmp rfl res_nil) (fun W hW => ⟨rfl, hW.low leB⟩)
 ·refine Tr.skip (Tr.normThen ?_)
  refine Tr.seq ?_
  refine Tr.sr ?_
  refine Tr.mv rfl rfl ?_
  refine Tr.va rfl (fun _ _ h1 h2 => run_len un_50 (h1.ev rfl)) ?_
  refine Tr.mv rfl rfl ?_
  refine Tr.nil (Tr.normThen ?_)
  refine Tr.block ?_
  refine Tr.loop (σ := (List TRect) × Nat) (fun m w s => m = s.1.length + 1 ∧ s.1 = List.drop s.2 p0 ∧ s.2 ≤ p0.length ∧ F_slices_Equal_Rect_L1 p1 s.1 s.2 = some r) (fun s => [(0, (.slice Ap0_0 (p0).length cp0_0)), (1, (.slice Ap1_0 (p1).length cp1_0)), (12, (iv (p0.length : Int))), (13, (iv (s.2 : Int)))]) (fun s => []) (p0.length + 1) (p0, 0) ⟨rfl, rfl, Nat.zero_le _, H⟩ (.cons rfl (.cons rfl (.cons rfl (.cons rfl .nil)))) .nil (fun _ _ h => absurd h.1 (by simp)) ?_
  intro w leL1 m s hs
  obtain ⟨restL1, iL1⟩ := s
  obtain ⟨hmL1, hdL1, hiL1, H⟩ := hs
  replace hdL1 : restL1 = List.drop iL1 p0 := hdL1
  replace H : F_slices_Equal_Rect_L1 p1 restL1 iL1 = some r := H
  replace hmL1 : m + 1 = restL1.length + 1 := hmL1
  replace hp0_0 := hp0_0.leR leL1
  replace hp1_0 := hp1_0.leR leL1
  replace leB := leB.trans leL1
  obtain rfl : m = restL1.length := by omega
  clear hmL1
  show Tr _ _ (LF [(0, (.slice Ap0_0 (p0).length cp0_0)), (1, (.slice Ap1_0 (p1).length cp1_0)), (12, (iv (p0.length : Int))), (13, (iv (iL1 : Int)))]) (LE []) _
  cases restL1 with
  | nil =>
   rw [F_slices_Equal_Rect_L1.eq_1] at H
   refine Tr.sr ?_
   refine Tr.va rfl (fun _ _ h1 h2 => run_lss (h1.ev rfl) (h1.ev rfl)) ?_
   refine Tr.nil (Tr.normThen ?_)
   refine Tr.seq ?_
   refine Tr.condF rfl (range_nil hdL1) ?_
   refine Tr.exit (Tr.exitThen (Tr.exitThen (Tr.exitBlock (Tr.normThen ?_))))
   refine Tr.sr ?_
   refine Tr.asg rfl rfl ?_
   refine Tr.nil (Tr.normThen ?_)
   refine Tr.ret ?_
   obtain rfl := Option.some.inj H
   exact Tr.out (m := [(.bool true)]) [] (res_tmp rfl res_nil) (fun W hW => ⟨rfl, hW.low leB⟩)
  | cons xL1 restL1 =>
   rw [F_slices_Equal_Rect_L1.eq_2] at H
   refine Tr.sr ?_
   refine Tr.va rfl (fun _ _ h1 h2 => run_lss (h1.ev rfl) (h1.ev rfl)) ?_
   refine Tr.nil (Tr.normThen ?_)
   refine Tr.seq ?_
   refine Tr.condT rfl (range_on hdL1) ?_
   refine Tr.skip (Tr.normThen ?_)
   refine Tr.seq ?_
   refine Tr.block ?_
   refine Tr.sr ?_
   refine Tr.mv rfl rfl ?_
   refine Tr.asg rfl rfl ?_
   refine Tr.nil (Tr.normThen ?_)
   refine Tr.seq ?_
   refine Tr.draw (by kernel_rfl) (by kernel_rfl) ?_
   refine Tq.mv rfl rfl ?_
   refine Tq.mv rfl rfl ?_
   refine Tq.va rfl (fun _ _ h1 h2 => run_indexAddr el_50 (h1.ev rfl) hp0_0.form (h1.ev rfl) (Int.natCast_nonneg _) (range_lt hdL1)) ?_
   refine Tq.va rfl (fun _ _ h1 h2 => run_loadN (cs := [(iv xL1.X0), (iv xL1.Y0), (iv xL1.X1), (iv xL1.Y1)]) ag_49 sz_49 (h1.ev rfl) (CellsAt.take (rdF ef_TRect hp0_0 (range_at hdL1) h2) 4) rfl) ?_
   refine Tq.mv rfl rfl ?_
   refine Tq.mv rfl rfl ?_
   obtain ⟨x103, hx103, H⟩ := bnd H
   obtain ⟨hx1030, hx1031, hx1032⟩ := idx_some hx103
   refine Tq.va rfl (fun _ _ h1 h2 => run_indexAddr el_50 (h1.ev rfl) hp1_0.form (h1.ev rfl) hx1030 hx1031) ?_
   refine Tq.va rfl (fun _ _ h1 h2 => run_loadN (cs := [(iv x103.X0), (iv x103.Y0), (iv x103.X1), (iv x103.Y1)]) ag_49 sz_49 (h1.ev rfl) (CellsAt.take (rdF ef_TRect hp1_0 hx1032 h2) 4) rfl) ?_
   refine Tq.va rfl (fun _ _ h1 h2 => run_neq_49 xL1 x103 (h1.ev rfl) (h1.ev rfl)) ?_
   refine Tq.nil (Tr.normThen ?_)
   refine Tr.cond rfl H (fun H => ?_) (fun H => ?_)
   ·refine Tr.sr ?_
    refine Tr.asg rfl rfl ?_
    refine Tr.nil (Tr.normThen ?_)
    refine Tr.ret (Tr.retBlock (Tr.retThen (Tr.retThen (Tr.retBlock (Tr.retThen ?_)))))
    obtain rfl := Option.some.inj H
    exact Tr.out (m := [(.bool false)]) [] (res_tmp rfl res_nil) (fun W hW => ⟨rfl, hW.low leB⟩)
   ·refine Tr.skip (Tr.normBlock (Tr.normThen ?_))
    refine Tr.region ?_
    refine Tr.va rfl (fun _ _ h1 h2 => run_add (h1.ev rfl) (h1.ev rfl)) ?_
    refine Tr.mv rfl rfl ?_
    refine Tr.nil ?_
    exact Tr.backThen leL1 (restL1, (iL1 + 1)) ⟨rfl, range_tl hdL1, range_lt hdL1, H⟩ (.cons rfl (.cons rfl (.cons rfl (.cons (congrArg (fun z => some (Value.int .i64 z)) (range_up hdL1 hp0_0.form)) .nil)))) .nil

theorem F_shape_CheckRegion_ok (N : Nat) {w : Bs} (p0 : (List TRect)) (Ap0_0 : Option Addr) (cp0_0 : Nat) (hp0_0 : Sl w.R w.W fl_TRect Ap0_0 cp0_0 p0) (r : Int) (H : F_shape_CheckRegion N p0 = some r) (hE : HF w w.W E0) : Calls Tryz.prog 18 [(.slice Ap0_0 (p0).length cp0_0)].toArray w.W fun e W' => e = .returned (iv r) ∧ HF w W' E0 := by
 unfold F_shape_CheckRegion at H
 have leB := Bs.Le.refl w
 refine Tr.enter (n := 52) Tryz.func18 rfl rfl rfl hE ?_
 refine Tr.sr ?_
 refine Tr.asg rfl rfl ?_
 refine Tr.nil (Tr.normThen ?_)
 refine Tr.seq ?_
 refine Tr.sr ?_
 refine Tr.mv rfl rfl ?_
 obtain ⟨y100, hy100, H⟩ := bnd H
 refine Tr.call0 (r := (iv y100)) (wn rfl) rfl Tryz.call35 (evl_cons rfl evl_nil) (fun W hW => F_shape_CheckRects_ok p0 Ap0_0 cp0_0 (hp0_0.ext hW.extAll) y100 hy100 (HF.start _)) ?_
 refine Tr.asg rfl rfl ?_
 refine Tr.nil (Tr.normThen ?_)
 refine Tr.sr ?_
 refine Tr.mv rfl rfl ?_
 refine Tr.va rfl (fun _ _ h1 h2 => run_neq (h1.ev rfl) (h1.ev rfl)) ?_
 refine Tr.nil (Tr.normThen ?_)
 refine Tr.cond rfl H (fun H => ?_) (fun H => ?_)
 ·refine Tr.sr ?_
  refine Tr.mv rfl rfl ?_
  refine Tr.asg rfl rfl ?_
  refine Tr.nil (Tr.normThen ?_)
  refine Tr.ret (Tr.retThen ?_)
  obtain rfl := Option.some.inj H
  exact Tr.out (m := [(iv y100)]) [] (res_tmp rfl res_nil) (fun W hW => ⟨rfl, hW.low leB⟩)
 ·refine Tr.skip (Tr.normThen ?_)
  refine Tr.seq ?_
  refine Tr.sr ?_
  refine Tr.asg rfl rfl ?_
  refine Tr.nil (Tr.normThen ?_)
  refine Tr.block ?_
  refine Tr.loop (σ := Int) (fun m w s => F_shape_CheckRegion_L1 N p0 m s = some r) (fun s => [(0, (.slice Ap0_0 (p0).length cp0_0)), (4, (iv s))]) (fun s => []) N 1 H (.cons rfl (.cons rfl .nil)) .nil (fun _ _ h => noSome (h)) ?_
  intro w leL1 mL1 x116 hs
  have H := hs
  replace H : F_shape_CheckRegion_L1 N p0 (mL1 + 1) x116 = some r := H
  replace hp0_0 := hp0_0.leR leL1
  replace leB := leB.trans leL1
  rw [F_shape_CheckRegion_L1.eq_2] at H
  show Tr _ _ (LF [(0, (.slice Ap0_0 (p0).length cp0_0)), (4, (iv x116))]) (LE []) _
  refine Tr.seq ?_
  refine Tr.sr ?_
  refine Tr.mv rfl rfl ?_
  refine Tr.mv rfl rfl ?_
  refine Tr.va rfl (fun _ _ h1 h2 => run_len un_50 (h1.ev rfl)) ?_
  refine Tr.va rfl (fun _ _ h1 h2 => run_lss (h1.ev rfl) (h1.ev rfl)) ?_
  refine Tr.nil (Tr.normThen ?_)
  refine Tr.cond rfl H (fun H => ?_) (fun H => ?_)
  ·refine Tr.skip (Tr.normThen ?_)
   refine Tr.seq ?_
   refine Tr.block ?_
   refine Tr.seq ?_
   refine Tr.drawC 12 [] [11] (by kernel_rfl) (by kernel_rfl) fun sz117 hlosz117 hEsz117 => ?_
   refine Dr.quiet 0 [(18, (.slice Ap0_0 (p0).length cp0_0))] (by kernel_rfl) rfl rfl (by kernel_rfl) ?_ rfl rfl ?_
   ·refine Tq.mv rfl rfl ?_
    exact Tq.fin (.cons rfl .nil)
   refine Dr.quiet 1 [(19, (iv x116))] (by kernel_rfl) rfl rfl (by kernel_rfl) ?_ rfl rfl ?_
   ·refine Tq.mv rfl rfl ?_
    exact Tq.fin (.cons rfl .nil)
   refine Dr.quiet 2 [(20, (iv (w64 (x116 - 1))))] (by kernel_rfl) rfl rfl (by kernel_rfl) ?_ rfl rfl ?_
   ·refine Tq.va rfl (fun _ _ h1 h2 => run_sub (h1.ev rfl) (h1.ev rfl)) ?_
    exact Tq.fin (.cons rfl .nil)
   obtain ⟨x118, hx118, H⟩ := bnd H
   obtain ⟨hx1180, hx1181, hx1182⟩ := idx_some hx118
   refine Dr.quiet 3 [(21, (.pointer (some ⟨adB Ap0_0, adO Ap0_0 + ((w64 (x116 - 1))).toNat * 4, none⟩)))] (by kernel_rfl) rfl rfl (by kernel_rfl) ?_ rfl rfl ?_
   ·refine Tq.va rfl (fun _ _ h1 h2 => run_indexAddr el_50 (h1.ev rfl) hp0_0.form (h1.ev rfl) hx1180 hx1181) ?_
    exact Tq.fin (.cons rfl .nil)
   refine Dr.quiet 4 [(22, (.agg #[(iv x118.X0), (iv x118.Y0), (iv x118.X1), (iv x118.Y1)]))] (by kernel_rfl) rfl rfl (by kernel_rfl) ?_ rfl rfl ?_
   ·refine Tq.va rfl (fun _ _ h1 h2 => run_loadN (cs := [(iv x118.X0), (iv x118.Y0), (iv x118.X1), (iv x118.Y1)]) ag_49 sz_49 (h1.ev rfl) (CellsAt.take (rdF ef_TRect hp0_0 hx1182 h2) 4) rfl) ?_
    exact Tq.fin (.cons rfl .nil)
   refine Dr.quietP 5 (by kernel_rfl) rfl (wn rfl) rfl (by kernel_rfl) (fun _ _ h1 => run_move (h1.ev rfl)) rfl ?_
   refine Dr.quietP 6 (by kernel_rfl) rfl (wn rfl) rfl (by kernel_rfl) (fun _ _ h1 => run_move (h1.ev rfl)) rfl ?_
   obtain ⟨x119, hx119, H⟩ := bnd H
   obtain ⟨hx1190, hx1191, hx1192⟩ := idx_some hx119
   refine Dr.quietP 7 (by kernel_rfl) rfl (wn rfl) rfl (by kernel_rfl) (fun _ _ h1 => run_indexAddr el_50 (h1.ev rfl) hp0_0.form (h1.ev rfl) hx1190 hx1191) rfl ?_
   refine Dr.quietZ 8 [(26, (.agg #[(iv x119.X0), (iv x119.Y0), (iv x119.X1), (iv x119.Y1)]))] [] true (by kernel_rfl) rfl rfl (by kernel_rfl) (fun W W' h2 hsW hk => HF.keepZ (le := []) (ks := []) (s0 := sz117) true h2 hk (fun _ => hlosz117) .nil (fun b hb => hb.elim (fun ⟨_, hp, _⟩ => nomatch hp) (fun hb => .inr ⟨rfl, hb.2, (fun _ h => nomatch h)⟩)) (fun _ h => nomatch h) rfl) ?_ rfl rfl ?_
   ·refine Tq.va rfl (fun _ _ h1 h2 => run_loadN (cs := [(iv x119.X0), (iv x119.Y0), (iv x119.X1), (iv x119.Y1)]) ag_49 sz_49 (h1.ev rfl) (CellsAt.take (rdF ef_TRect hp0_0 hx1192 h2) 4) rfl) ?_
    exact Tq.fin (.cons rfl .nil)
   refine Dr.cut (U := Nat × Nat) [9, 10] 1 (fun u => sz117 ≤ u.1 ∧ sz117 ≤ u.2) (fun u => [(0, (.slice Ap0_0 (p0).length cp0_0)), (4, (iv x116)), (5, (.pointer (some ⟨u.1, 0, none⟩))), (6, (.pointer (some ⟨u.2, 0, none⟩))), (12, (iv x116)), (13, (.slice Ap0_0 (p0).length cp0_0)), (14, (iv (p0.length : Int))), (15, (.bool (decide (x116 < (p0.length : Int))))), (18, (.slice Ap0_0 (p0).length cp0_0)), (19, (iv x116)), (20, (iv (w64 (x116 - 1)))), (21, (.pointer (some ⟨adB Ap0_0, adO Ap0_0 + ((w64 (x116 - 1))).toNat * 4, none⟩))), (22, (.agg #[(iv x118.X0), (iv x118.Y0), (iv x118.X1), (iv x118.Y1)])), (23, (.slice Ap0_0 (p0).length cp0_0)), (24, (iv x116)), (25, (.pointer (some ⟨adB Ap0_0, adO Ap0_0 + (x116).toNat * 4, none⟩))), (26, (.agg #[(iv x119.X0), (iv x119.Y0), (iv x119.X1), (iv x119.Y1)]))]) (fun u => [(5, bx u.1 #[(iv 0), (iv 0), (iv 0), (iv 0)] 49), (6, bx u.2 #[(iv 0), (iv 0), (iv 0), (iv 0)] 49)]) ?_ ?_
   ·intro hC
    refine Dr.pair 9 10 (by kernel_rfl) ?_ ?_
    ·refine St.alloc 9 5 rfl (wn rfl) rfl ze_49 fun b120 hb120 => ?_
     refine Dr.one 10 (by kernel_rfl) ?_
     refine St.alloc 10 6 rfl (wn rfl) rfl ze_49 fun b121 hb121 => ?_
     exact (hC ⟨b120, b121⟩ ⟨hb120, hb121⟩).use (by kernel_rfl) (.cons rfl (.cons rfl (.cons rfl (.cons rfl (.cons rfl (.cons rfl (.cons rfl (.cons rfl (.cons rfl (.cons rfl (.cons rfl (.cons rfl (.cons rfl (.cons rfl (.cons rfl (.cons rfl (.cons rfl .nil))))))))))))))))) (.cons rfl (.cons rfl .nil))
    ·refine St.alloc 10 6 rfl (wn rfl) rfl ze_49 fun b121 hb121 => ?_
     refine Dr.one 9 (by kernel_rfl) ?_
     refine St.alloc 9 5 rfl (wn rfl) rfl ze_49 fun b120 hb120 => ?_
     exact (hC ⟨b120, b121⟩ ⟨hb120, hb121⟩).use (by kernel_rfl) (.cons rfl (.cons rfl (.cons rfl (.cons rfl (.cons rfl (.cons rfl (.cons rfl (.cons rfl (.cons rfl (.cons rfl (.cons rfl (.cons rfl (.cons rfl (.cons rfl (.cons rfl (.cons rfl (.cons rfl .nil))))))))))))))))) (.cons rfl (.cons rfl .nil))
   intro u hu
   obtain ⟨b120, b121⟩ := u
   obtain ⟨hb120, hb121⟩ := hu
   replace hb120 : sz117 ≤ b120 := hb120
   replace hb121 : sz117 ≤ b121 := hb121
   show Dr _ _ _ _ _ _ _ _ _ (LF [(0, (.slice Ap0_0 (p0).length cp0_0)), (4, (iv x116)), (5, (.pointer (some ⟨b120, 0, none⟩))), (6, (.pointer (some ⟨b121, 0, none⟩))), (12, (iv x116)), (13, (.slice Ap0_0 (p0).length cp0_0)), (14, (iv (p0.length : Int))), (15, (.bool (decide (x116 < (p0.length : Int))))), (18, (.slice Ap0_0 (p0).length cp0_0)), (19, (iv x116)), (20, (iv (w64 (x116 - 1)))), (21, (.pointer (some ⟨adB Ap0_0, adO Ap0_0 + ((w64 (x116 - 1))).toNat * 4, none⟩))), (22, (.agg #[(iv x118.X0), (iv x118.Y0), (iv x118.X1), (iv x118.Y1)])), (23, (.slice Ap0_0 (p0).length cp0_0)), (24, (iv x116)), (25, (.pointer (some ⟨adB Ap0_0, adO Ap0_0 + (x116).toNat * 4, none⟩))), (26, (.agg #[(iv x119.X0), (iv x119.Y0), (iv x119.X1), (iv x119.Y1)]))]) (LE [(5, bx b120 #[(iv 0), (iv 0), (iv 0), (iv 0)] 49), (6, bx b121 #[(iv 0), (iv 0), (iv 0), (iv 0)] 49)])
   refine Dr.one 11 (by kernel_rfl) ?_
   refine St.store 11 5 (cs := [(iv x118.X0), (iv x118.Y0), (iv x118.X1), (iv x118.Y1)]) [(iv x118.X0), (iv x118.Y0), (iv x118.X1), (iv x118.Y1)] rfl (wn rfl) (.inr ⟨by simp, hb120⟩) rfl rfl rfl rfl sz_49 rfl rfl rfl ?_
   refine Dr.tail (by kernel_rfl) ?_
   refine Tr.store 6 (cs := [(iv x119.X0), (iv x119.Y0), (iv x119.X1), (iv x119.Y1)]) [(iv x119.X0), (iv x119.Y0), (iv x119.X1), (iv x119.Y1)] (wn rfl) rfl rfl rfl rfl sz_49 rfl rfl rfl ?_
   refine Tr.nil (Tr.normThen ?_)
   refine Tr.sr ?_
   refine Tr.va rfl (fun _ _ h1 h2 => run_fieldAddr fo_49_1 (h1.ev rfl)) ?_
   refine Tr.va rfl (fun _ _ h1 h2 => run_load1 ag_3 (h1.ev rfl) (rdb h2 (vs := [(iv x119.X0), (iv x119.Y0), (iv x119.X1), (iv x119.Y1)]) (k := 6) rfl 1) rfl) ?_
   refine Tr.va rfl (fun _ _ h1 h2 => run_fieldAddr fo_49_1 (h1.ev rfl)) ?_
   refine Tr.va rfl (fun _ _ h1 h2 => run_load1 ag_3 (h1.ev rfl) (rdb h2 (vs := [(iv x118.X0), (iv x118.Y0), (iv x118.X1), (iv x118.Y1)]) (k := 5) rfl 1) rfl) ?_
   refine Tr.va rfl (fun _ _ h1 h2 => run_lss (h1.ev rfl) (h1.ev rfl)) ?_
   refine Tr.mv rfl rfl ?_
   refine Tr.mid0 13 [(0, (.slice Ap0_0 (p0).length cp0_0)), (4, (iv x116)), (45, (.bool ((decide (x119.Y0 < x118.Y0)) || ((x119.Y0 == x118.Y0) && (decide (x119.X0 ≤ x118.X0))))))] [(5, bx b120 #[(iv x118.X0), (iv x118.Y0), (iv x118.X1), (iv x118.Y1)] 49), (6, bx b121 #[(iv x119.X0), (iv x119.Y0), (iv x119.X1), (iv x119.Y1)] 49)] ?_ ?_
   ·cases hg121 : (decide (x119.Y0 < x118.Y0))
    ·refine Tr.val (wg rfl rfl rfl) rfl (fun _ _ h1 h2 => run_fieldAddr fo_49_1 (h1.ev rfl)) ?_
     refine Tr.val (wg rfl rfl rfl) rfl (fun _ _ h1 h2 => run_load1 ag_3 (h1.ev rfl) (rdb h2 (vs := [(iv x119.X0), (iv x119.Y0), (iv x119.X1), (iv x119.Y1)]) (k := 6) rfl 1) rfl) ?_
     refine Tr.val (wg rfl rfl rfl) rfl (fun _ _ h1 h2 => run_fieldAddr fo_49_1 (h1.ev rfl)) ?_
     refine Tr.val (wg rfl rfl rfl) rfl (fun _ _ h1 h2 => run_load1 ag_3 (h1.ev rfl) (rdb h2 (vs := [(iv x118.X0), (iv x118.Y0), (iv x118.X1), (iv x118.Y1)]) (k := 5) rfl 1) rfl) ?_
     refine Tr.val (wg rfl rfl rfl) rfl (fun _ _ h1 h2 => run_eql (h1.ev rfl) (h1.ev rfl)) ?_
     refine Tr.val (wg rfl rfl rfl) rfl (fun _ _ h1 h2 => run_move (h1.ev rfl)) ?_
     refine Tr.mid0 6 [(0, (.slice Ap0_0 (p0).length cp0_0)), (4, (iv x116)), (32, (.bool false)), (44, (.bool ((x119.Y0 == x118.Y0) && (decide (x119.X0 ≤ x118.X0)))))] [(5, bx b120 #[(iv x118.X0), (iv x118.Y0), (iv x118.X1), (iv x118.Y1)] 49), (6, bx b121 #[(iv x119.X0), (iv x119.Y0), (iv x119.X1), (iv x119.Y1)] 49)] ?_ ?_
     ·cases hg121 : (x119.Y0 == x118.Y0)
      ·refine Tr.pass rfl rfl rfl rfl rfl (by decide) ?_
       refine Tr.pass rfl rfl rfl rfl rfl (by decide) ?_
       refine Tr.pass rfl rfl rfl rfl rfl (by decide) ?_
       refine Tr.pass rfl rfl rfl rfl rfl (by decide) ?_
       refine Tr.pass rfl rfl rfl rfl rfl (by decide) ?_
       refine Tr.val (wg rfl rfl rfl) rfl (fun _ _ h1 h2 => run_pickF (h1.ev rfl) (h1.ev rfl)) ?_
       exact Tr.nil (Tr.fin0 (.cons rfl (.cons rfl (.cons rfl (.cons rfl .nil)))) (.cons rfl (.cons rfl .nil)))
      ·refine Tr.val (wg rfl rfl rfl) rfl (fun _ _ h1 h2 => run_fieldAddr fo_49_0 (h1.ev rfl)) ?_
       refine Tr.val (wg rfl rfl rfl) rfl (fun _ _ h1 h2 => run_load1 ag_3 (h1.ev rfl) (rdb h2 (vs := [(iv x119.X0), (iv x119.Y0), (iv x119.X1), (iv x119.Y1)]) (k := 6) rfl 0) rfl) ?_
       refine Tr.val (wg rfl rfl rfl) rfl (fun _ _ h1 h2 => run_fieldAddr fo_49_0 (h1.ev rfl)) ?_
       refine Tr.val (wg rfl rfl rfl) rfl (fun _ _ h1 h2 => run_load1 ag_3 (h1.ev rfl) (rdb h2 (vs := [(iv x118.X0), (iv x118.Y0), (iv x118.X1), (iv x118.Y1)]) (k := 5) rfl 0) rfl) ?_
       refine Tr.val (wg rfl rfl rfl) rfl (fun _ _ h1 h2 => run_leq (h1.ev rfl) (h1.ev rfl)) ?_
       refine Tr.val (wg rfl rfl rfl) rfl (fun _ _ h1 h2 => run_pickT (h1.ev rfl) (h1.ev rfl)) ?_
       exact Tr.nil (Tr.fin0 (.cons rfl (.cons rfl (.cons rfl (.cons rfl .nil)))) (.cons rfl (.cons rfl .nil)))
     ·show Tr _ _ (LF [(0, (.slice Ap0_0 (p0).length cp0_0)), (4, (iv x116)), (32, (.bool false)), (44, (.bool ((x119.Y0 == x118.Y0) && (decide (x119.X0 ≤ x118.X0)))))]) (LE [(5, bx b120 #[(iv x118.X0), (iv x118.Y0), (iv x118.X1), (iv x118.Y1)] 49), (6, bx b121 #[(iv x119.X0), (iv x119.Y0), (iv x119.X1), (iv x119.Y1)] 49)]) _
      refine Tr.va rfl (fun _ _ h1 h2 => run_pickF (h1.ev rfl) (h1.ev rfl)) ?_
      exact Tr.nil (Tr.fin0 (.cons rfl (.cons rfl (.cons rfl .nil))) (.cons rfl (.cons rfl .nil)))
    ·refine Tr.pass rfl rfl rfl rfl rfl (by decide) ?_
     refine Tr.pass rfl rfl rfl rfl rfl (by decide) ?_
     refine Tr.pass rfl rfl rfl rfl rfl (by decide) ?_
     refine Tr.pass rfl rfl rfl rfl rfl (by decide) ?_
     refine Tr.pass rfl rfl rfl rfl rfl (by decide) ?_
     refine Tr.pass rfl rfl rfl rfl rfl (by decide) ?_
     refine Tr.passU rfl rfl rfl rfl (by decide) ?_
     refine Tr.passU rfl rfl rfl rfl (by decide) ?_
     refine Tr.passU rfl rfl rfl rfl (by decide) ?_
     refine Tr.passU rfl rfl rfl rfl (by decide) ?_
     refine Tr.passU rfl rfl rfl rfl (by decide) ?_
     refine Tr.pass rfl rfl rfl rfl rfl (by decide) ?_
     refine Tr.va rfl (fun _ _ h1 h2 => run_pickT (h1.ev rfl) (h1.ev rfl)) ?_
     exact Tr.nil (Tr.fin0 (.cons rfl (.cons rfl (.cons rfl .nil))) (.cons rfl (.cons rfl .nil)))
   ·show Tr _ _ (LF [(0, (.slice Ap0_0 (p0).length cp0_0)), (4, (iv x116)), (45, (.bool ((decide (x119.Y0 < x118.Y0)) || ((x119.Y0 == x118.Y0) && (decide (x119.X0 ≤ x118.X0))))))]) (LE [(5, bx b120 #[(iv x118.X0), (iv x118.Y0), (iv x118.X1), (iv x118.Y1)] 49), (6, bx b121 #[(iv x119.X0), (iv x119.Y0), (iv x119.X1), (iv x119.Y1)] 49)]) _
    refine Tr.nil (Tr.normThen ?_)
    refine Tr.cond rfl H (fun H => ?_) (fun H => ?_)
    ·refine Tr.sr ?_
     refine Tr.asg rfl rfl ?_
     refine Tr.nil (Tr.normThen ?_)
     refine Tr.ret (Tr.retBlock (Tr.retThen (Tr.retThen (Tr.retBlock (Tr.retThen ?_)))))
     obtain rfl := Option.some.inj H
     exact Tr.out (m := [(iv 8)]) [] (res_tmp rfl res_nil) (fun W hW => ⟨rfl, hW.low leB⟩)
    ·refine Tr.skip (Tr.normBlock (Tr.normThen ?_))
     refine Tr.region ?_
     refine Tr.mv rfl rfl ?_
     refine Tr.va rfl (fun _ _ h1 h2 => run_add (h1.ev rfl) (h1.ev rfl)) ?_
     refine Tr.asg rfl rfl ?_
     refine Tr.nil ?_
     exact Tr.backThen leL1 (w64 (x116 + 1)) H (.cons rfl (.cons rfl .nil)) .nil
  ·refine Tr.exit (Tr.exitThen (Tr.exitThen (Tr.exitBlock (Tr.normThen ?_))))
   refine Tr.seq ?_
   refine Tr.sr ?_
   refine Tr.mv rfl rfl ?_
   obtain ⟨y123, hy123, H⟩ := bnd H
   refine Tr.callG [7] [emp] (U := (Option Addr × Nat)) (fun u => (.slice u.1 (y123).length u.2)) (fun O W u => SlF u.1 (y123).length u.2) (fun u => [ow u.1 u.2 111 fl_TBand y123]) rfl (pk_cons rfl pk_nil) (fun _ => rfl) (wn rfl) rfl Tryz.call37 (evl_cons rfl evl_nil) (fun W hW hp hE => F_shape_SetOf_ok N p0 Ap0_0 cp0_0 (hp0_0.ext (hW.extS hp)) y123 hy123 hE) ?_
   intro w u le124 hu
   obtain ⟨Ay123_0, cy123_0⟩ := u
   have gy123_0 := hu
   replace hp0_0 := hp0_0.leR le124
   replace leB := leB.trans le124
   replace leL1 := leL1.trans le124
   have hgy123_0 : SlF Ay123_0 (y123).length cy123_0 := gy123_0 --@phi
   show Tr _ _ (uf _ 47 (.slice Ay123_0 (y123).length cy123_0)) (up _ 7 (ow Ay123_0 cy123_0 111 fl_TBand y123)) _
   obtain ⟨y125, hy125, H⟩ := bnd H
   refine Tr.callM [8] [emp] (U := (Option Addr × Nat)) (fun u => (.slice u.1 (y125).length u.2)) (fun u => SlF u.1 (y125).length u.2) (fun u => [ow u.1 u.2 49 fl_TRect y125]) rfl (pk_cons rfl pk_nil) (fun _ => rfl) (wn rfl) rfl Tryz.call38 (evl_cons rfl evl_nil) (fun W hW hp hE => F_shape_Set__Rects_ok N y123 Ay123_0 cy123_0 (hW.slS (k := 7) rfl hp rfl) y125 hy125 hE) ?_
   intro u hu
   obtain ⟨Ay125_0, cy125_0⟩ := u
   have gy125_0 := hu
   have hgy125_0 : SlF Ay125_0 (y125).length cy125_0 := gy125_0 --@phi
   show Tr _ _ (uf _ 48 (.slice Ay125_0 (y125).length cy125_0)) (up _ 8 (ow Ay125_0 cy125_0 49 fl_TRect y125)) _
   refine Tr.mv rfl rfl ?_
   obtain ⟨y127, hy127, H⟩ := bnd H
   refine Tr.call0 (r := (.bool y127)) (wn rfl) rfl Tryz.call36 (evl_cons rfl (evl_cons rfl evl_nil)) (fun W hW => F_slices_Equal_Rect_ok y125 Ay125_0 cy125_0 (hW.slCall (k := 8) rfl) p0 Ap0_0 cp0_0 (hp0_0.ext hW.extAll) y127 hy127 (HF.start _)) ?_
   refine Tr.va rfl (fun _ _ h1 h2 => run_not (h1.ev rfl)) ?_
   refine Tr.nil (Tr.normThen ?_)
   refine Tr.cond rfl H (fun H => ?_) (fun H => ?_)
   ·refine Tr.sr ?_
    refine Tr.asg rfl rfl ?_
    refine Tr.nil (Tr.normThen ?_)
    refine Tr.ret (Tr.retThen ?_)
    obtain rfl := Option.some.inj H
    exact Tr.out (m := [(iv 3)]) [] (res_tmp rfl res_nil) (fun W hW => ⟨rfl, hW.low leB⟩)
   ·refine Tr.skip (Tr.normThen ?_)
    refine Tr.sr ?_
    refine Tr.asg rfl rfl ?_
    refine Tr.nil (Tr.normThen ?_)
    refine Tr.ret ?_
    obtain rfl := Option.some.inj H
    exact Tr.out (m := [(iv 0)]) [] (res_tmp rfl res_nil) (fun W hW => ⟨rfl, hW.low leB⟩)

theorem F_shape_AreaOf_ok {w : Bs} (p0 : (List TRect)) (Ap0_0 : Option Addr) (cp0_0 : Nat) (hp0_0 : Sl w.R w.W fl_TRect Ap0_0 cp0_0 p0) (r : Int) (H : F_shape_AreaOf p0 = some r) (hE : HF w w.W E0) : Calls Tryz.prog 19 [(.slice Ap0_0 (p0).length cp0_0)].toArray w.W fun e W' => e = .returned (iv r) ∧ HF w W' E0 := by
 unfold F_shape_AreaOf at H
 have leB := Bs.Le.refl w
 refine Tr.enter (n := 27) Tryz.func19 rfl rfl rfl hE ?_
 refine Tr.sr ?_
 refine Tr.asg rfl rfl ?_
 refine Tr.nil (Tr.normThen ?_)
 refine Tr.sr ?_
 refine Tr.asg rfl rfl ?_
 refine Tr.nil (Tr.normThen ?_)
 refine Tr.seq ?_
 refine Tr.sr ?_
 refine Tr.mv rfl rfl ?_
 refine Tr.va rfl (fun _ _ h1 h2 => run_len un_50 (h1.ev rfl)) ?_
 refine Tr.mv rfl rfl ?_
 refine Tr.nil (Tr.normThen ?_)
 refine Tr.block ?_
 refine Tr.loop (σ := (List TRect) × Nat × Int) (fun m w s => m = s.1.length + 1 ∧ s.1 = List.drop s.2.1 p0 ∧ s.2.1 ≤ p0.length ∧ F_shape_AreaOf_L1 s.1 s.2.1 s.2.2 = some r) (fun s => [(3, (iv s.2.2)), (6, (.slice Ap0_0 (p0).length cp0_0)), (7, (iv (p0.length : Int))), (8, (iv (s.2.1 : Int)))]) (fun s => []) (p0.length + 1) (p0, 0, 0) ⟨rfl, rfl, Nat.zero_le _, H⟩ (.cons rfl (.cons rfl (.cons rfl (.cons rfl .nil)))) .nil (fun _ _ h => absurd h.1 (by simp)) ?_
 intro w leL1 m s hs
 obtain ⟨restL1, iL1, x110⟩ := s
 obtain ⟨hmL1, hdL1, hiL1, H⟩ := hs
 replace hdL1 : restL1 = List.drop iL1 p0 := hdL1
 replace H : F_shape_AreaOf_L1 restL1 iL1 x110 = some r := H
 replace hmL1 : m + 1 = restL1.length + 1 := hmL1
 replace hp0_0 := hp0_0.leR leL1
 replace leB := leB.trans leL1
 obtain rfl : m = restL1.length := by omega
 clear hmL1
 show Tr _ _ (LF [(3, (iv x110)), (6, (.slice Ap0_0 (p0).length cp0_0)), (7, (iv (p0.length : Int))), (8, (iv (iL1 : Int)))]) (LE []) _
 cases restL1 with
 | nil =>
  rw [F_shape_AreaOf_L1.eq_1] at H
  refine Tr.sr ?_
  refine Tr.va rfl (fun _ _ h1 h2 => run_lss (h1.ev rfl) (h1.ev rfl)) ?_
  refine Tr.nil (Tr.normThen ?_)
  refine Tr.seq ?_
  refine Tr.condF rfl (range_nil hdL1) ?_
  refine Tr.exit (Tr.exitThen (Tr.exitThen (Tr.exitBlock (Tr.normThen ?_))))
  refine Tr.sr ?_
  refine Tr.mv rfl rfl ?_
  refine Tr.asg rfl rfl ?_
  refine Tr.nil (Tr.normThen ?_)
  refine Tr.ret ?_
  obtain rfl := Option.some.inj H
  exact Tr.out (m := [(iv x110)]) [] (res_tmp rfl res_nil) (fun W hW => ⟨rfl, hW.low leB⟩)
 | cons xL1 restL1 =>
  rw [F_shape_AreaOf_L1.eq_2] at H
  refine Tr.sr ?_
  refine Tr.va rfl (fun _ _ h1 h2 => run_lss (h1.ev rfl) (h1.ev rfl)) ?_
  refine Tr.nil (Tr.normThen ?_)
  refine Tr.seq ?_
  refine Tr.condT rfl (range_on hdL1) ?_
  refine Tr.skip (Tr.normThen ?_)
  refine Tr.seq ?_
  refine Tr.block ?_
  refine Tr.sr ?_
  refine Tr.va rfl (fun _ _ h1 h2 => run_indexAddr el_50 (h1.ev rfl) hp0_0.form (h1.ev rfl) (Int.natCast_nonneg _) (range_lt hdL1)) ?_
  refine Tr.va rfl (fun _ _ h1 h2 => run_loadN (cs := [(iv xL1.X0), (iv xL1.Y0), (iv xL1.X1), (iv xL1.Y1)]) ag_49 sz_49 (h1.ev rfl) (CellsAt.take (rdF ef_TRect hp0_0 (range_at hdL1) h2) 4) rfl) ?_
  refine Tr.alloc 3 (wn rfl) rfl ze_49 fun b111 => ?_
  refine Tr.store 3 (cs := [(iv xL1.X0), (iv xL1.Y0), (iv xL1.X1), (iv xL1.Y1)]) [(iv xL1.X0), (iv xL1.Y0), (iv xL1.X1), (iv xL1.Y1)] (wn rfl) rfl rfl rfl rfl sz_49 rfl rfl rfl ?_
  refine Tr.nil (Tr.normThen ?_)
  refine Tr.region ?_
  refine Tr.mv rfl rfl ?_
  refine Tr.va rfl (fun _ _ h1 h2 => run_fieldAddr fo_49_2 (h1.ev rfl)) ?_
  refine Tr.va rfl (fun _ _ h1 h2 => run_load1 ag_3 (h1.ev rfl) (rdb h2 (vs := [(iv xL1.X0), (iv xL1.Y0), (iv xL1.X1), (iv xL1.Y1)]) (k := 3) rfl 2) rfl) ?_
  refine Tr.va rfl (fun _ _ h1 h2 => run_fieldAddr fo_49_0 (h1.ev rfl)) ?_
  refine Tr.va rfl (fun _ _ h1 h2 => run_load1 ag_3 (h1.ev rfl) (rdb h2 (vs := [(iv xL1.X0), (iv xL1.Y0), (iv xL1.X1), (iv xL1.Y1)]) (k := 3) rfl 0) rfl) ?_
  refine Tr.va rfl (fun _ _ h1 h2 => run_sub (h1.ev rfl) (h1.ev rfl)) ?_
  refine Tr.va rfl (fun _ _ h1 h2 => run_fieldAddr fo_49_3 (h1.ev rfl)) ?_
  refine Tr.va rfl (fun _ _ h1 h2 => run_load1 ag_3 (h1.ev rfl) (rdb h2 (vs := [(iv xL1.X0), (iv xL1.Y0), (iv xL1.X1), (iv xL1.Y1)]) (k := 3) rfl 3) rfl) ?_
  refine Tr.va rfl (fun _ _ h1 h2 => run_fieldAddr fo_49_1 (h1.ev rfl)) ?_
  refine Tr.va rfl (fun _ _ h1 h2 => run_load1 ag_3 (h1.ev rfl) (rdb h2 (vs := [(iv xL1.X0), (iv xL1.Y0), (iv xL1.X1), (iv xL1.Y1)]) (k := 3) rfl 1) rfl) ?_
  refine Tr.va rfl (fun _ _ h1 h2 => run_sub (h1.ev rfl) (h1.ev rfl)) ?_
  refine Tr.va rfl (fun _ _ h1 h2 => run_mul (h1.ev rfl) (h1.ev rfl)) ?_
  refine Tr.va rfl (fun _ _ h1 h2 => run_add (h1.ev rfl) (h1.ev rfl)) ?_
  refine Tr.asg rfl rfl ?_
  refine Tr.nil (Tr.normBlock (Tr.normThen ?_))
  refine Tr.region ?_
  refine Tr.va rfl (fun _ _ h1 h2 => run_add (h1.ev rfl) (h1.ev rfl)) ?_
  refine Tr.mv rfl rfl ?_
  refine Tr.nil ?_
  exact Tr.backThen leL1 (restL1, (iL1 + 1), (w64 (x110 + (w64 ((w64 (xL1.X1 - xL1.X0)) * (w64 (xL1.Y1 - xL1.Y0))))))) ⟨rfl, range_tl hdL1, range_lt hdL1, H⟩ (.cons rfl (.cons rfl (.cons rfl (.cons (congrArg (fun z => some (Value.int .i64 z)) (range_up hdL1 hp0_0.form)) .nil)))) .nil

theorem F_shape_Area_ok (N : Nat) {w : Bs} (p0 : (List TRect)) (Ap0_0 : Option Addr) (cp0_0 : Nat) (hp0_0 : Sl w.R w.W fl_TRect Ap0_0 cp0_0 p0) (r : (Int × Int)) (H : F_shape_Area N p0 = some r) (hE : HF w w.W E0) : Calls Tryz.prog 10 [(.slice Ap0_0 (p0).length cp0_0)].toArray w.W fun e W' => e = .returned (.tuple #[(iv r.1), (iv r.2)]) ∧ HF w W' E0 := by
 unfold F_shape_Area at H
 have leB := Bs.Le.refl w
 refine Tr.enter (n := 12) Tryz.func10 rfl rfl rfl hE ?_
 refine Tr.sr ?_
 refine Tr.asg rfl rfl ?_
 refine Tr.asg rfl rfl ?_
 refine Tr.nil (Tr.normThen ?_)
 refine Tr.seq ?_
 refine Tr.sr ?_
 refine Tr.mv rfl rfl ?_
 obtain ⟨y100, hy100, H⟩ := bnd H
 refine Tr.call0 (r := (iv y100)) (wn rfl) rfl Tryz.call18 (evl_cons rfl evl_nil) (fun W hW => F_shape_CheckRegion_ok N p0 Ap0_0 cp0_0 (hp0_0.ext hW.extAll) y100 hy100 (HF.start _)) ?_
 refine Tr.asg rfl rfl ?_
 refine Tr.nil (Tr.normThen ?_)
 refine Tr.sr ?_
 refine Tr.mv rfl rfl ?_
 refine Tr.va rfl (fun _ _ h1 h2 => run_neq (h1.ev rfl) (h1.ev rfl)) ?_
 refine Tr.nil (Tr.normThen ?_)
 refine Tr.cond rfl H (fun H => ?_) (fun H => ?_)
 ·refine Tr.sr ?_
  refine Tr.mv rfl rfl ?_
  refine Tr.asg rfl rfl ?_
  refine Tr.asg rfl rfl ?_
  refine Tr.nil (Tr.normThen ?_)
  refine Tr.ret (Tr.retThen ?_)
  obtain rfl := Option.some.inj H
  exact Tr.out (m := [(iv 0), (iv y100)]) [] (res_tmp rfl (res_tmp rfl res_nil)) (fun W hW => ⟨rfl, hW.low leB⟩)
 ·refine Tr.skip (Tr.normThen ?_)
  refine Tr.sr ?_
  refine Tr.mv rfl rfl ?_
  obtain ⟨y101, hy101, H⟩ := bnd H
  refine Tr.call0 (r := (iv y101)) (wn rfl) rfl Tryz.call19 (evl_cons rfl evl_nil) (fun W hW => F_shape_AreaOf_ok p0 Ap0_0 cp0_0 (hp0_0.ext hW.extAll) y101 hy101 (HF.start _)) ?_
  refine Tr.asg rfl rfl ?_
  refine Tr.asg rfl rfl ?_
  refine Tr.nil (Tr.normThen ?_)
  refine Tr.ret ?_
  obtain rfl := Option.some.inj H
  exact Tr.out (m := [(iv y101), (iv 0)]) [] (res_tmp rfl (res_tmp rfl res_nil)) (fun W hW => ⟨rfl, hW.low leB⟩)

theorem F_etchhousetop_alive_ok (N : Nat) {w : Bs}  (r : Bool) (H : F_etchhousetop_alive N = some r) (hE : HF w w.W E0) : Calls Tryz.prog 5 [].toArray w.W fun e W' => e = .returned (.bool r) ∧ HF w W' E0 := by
 unfold F_etchhousetop_alive at H
 have leB := Bs.Le.refl w
 refine Tr.enter (n := 15) Tryz.func5 rfl rfl rfl hE ?_
 refine Tr.sr ?_
 refine Tr.asg rfl rfl ?_
 refine Tr.nil (Tr.normThen ?_)
 refine Tr.sr ?_
 refine Tr.build (vs := [(2, (iv 2)), (3, (iv 3))]) (cs := [(iv 0), (iv 0), (iv 2), (iv 3)]) (wn rfl) rfl (evs_cons rfl (evs_cons rfl evs_nil)) (by kernel_rfl) ?_
 refine Tr.buildSlice 1 (e := 49) (vs := [(0, (.agg #[(iv 0), (iv 0), (iv 2), (iv 3)]))]) (cs := [(iv 0), (iv 0), (iv 2), (iv 3)]) (wn rfl) rfl (evs_cons rfl evs_nil) (by kernel_rfl) fun b100 => ?_
 refine Tr.own 1 fl_TRect [(TRect.mk 0 0 2 3)] (css := [[(iv 0), (iv 0), (iv 2), (iv 3)]]) rfl (.cons ⟨(), trivial, rfl⟩ .nil) rfl (by decide) (lit_max rfl) ?_
 obtain ⟨y101, hy101, H⟩ := bnd H
 refine Tr.call0 (r := (.tuple #[(iv y101.1), (iv y101.2)])) (wn rfl) rfl Tryz.call10 (evl_cons rfl evl_nil) (fun W hW => F_shape_Area_ok N [(TRect.mk 0 0 2 3)] (some ⟨b100, 0, none⟩) 1 (hW.slCall (k := 1) rfl) y101 hy101 (HF.start _)) ?_
 refine Tr.mv rfl rfl ?_
 refine Tr.va rfl (fun _ _ h1 h2 => run_extract (h1.ev rfl) rfl) ?_
 refine Tr.va rfl (fun _ _ h1 h2 => run_extract (h1.ev rfl) rfl) ?_
 refine Tr.asg rfl rfl ?_
 refine Tr.asg rfl rfl ?_
 refine Tr.nil (Tr.normThen ?_)
 refine Tr.sr ?_
 refine Tr.mv rfl rfl ?_
 refine Tr.va rfl (fun _ _ h1 h2 => run_eql (h1.ev rfl) (h1.ev rfl)) ?_
 refine Tr.mv rfl rfl ?_
 refine Tr.mid0 3 [(14, (.bool ((y101.2 == 0) && (y101.1 == 6))))] [(1, ow (some ⟨b100, 0, none⟩) 1 49 fl_TRect [(TRect.mk 0 0 2 3)])] ?_ ?_
 ·cases hg101 : (y101.2 == 0)
  ·refine Tr.pass rfl rfl rfl rfl rfl (by decide) ?_
   refine Tr.pass rfl rfl rfl rfl rfl (by decide) ?_
   refine Tr.va rfl (fun _ _ h1 h2 => run_pickF (h1.ev rfl) (h1.ev rfl)) ?_
   exact Tr.nil (Tr.fin0 (.cons rfl .nil) (.cons rfl .nil))
  ·refine Tr.val (wg rfl rfl rfl) rfl (fun _ _ h1 h2 => run_move (h1.ev rfl)) ?_
   refine Tr.val (wg rfl rfl rfl) rfl (fun _ _ h1 h2 => run_eql (h1.ev rfl) (h1.ev rfl)) ?_
   refine Tr.va rfl (fun _ _ h1 h2 => run_pickT (h1.ev rfl) (h1.ev rfl)) ?_
   exact Tr.nil (Tr.fin0 (.cons rfl .nil) (.cons rfl .nil))
 ·show Tr _ _ (LF [(14, (.bool ((y101.2 == 0) && (y101.1 == 6))))]) (LE [(1, ow (some ⟨b100, 0, none⟩) 1 49 fl_TRect [(TRect.mk 0 0 2 3)])]) _
  refine Tr.asg rfl rfl ?_
  refine Tr.nil (Tr.normThen ?_)
  refine Tr.ret ?_
  obtain rfl := Option.some.inj H
  exact Tr.out (m := [(.bool ((y101.2 == 0) && (y101.1 == 6)))]) [] (res_tmp rfl res_nil) (fun W hW => ⟨rfl, hW.low leB⟩)

theorem F_strings_IndexByte_ok {w : Bs} (p0 : ByteArray) (p1 : Int) (r : Int) (H : ixbF p0 p1 = some r) (hE : HF w w.W E0) : Calls Tryz.prog 66 [(sv p0), (.int .u8 p1)].toArray w.W fun e W' => e = .returned (iv r) ∧ HF w W' E0 :=
 ixbF_rule (ρ := Tryz.indexbyte66_ren) Tryz.indexbyte66 H hE

theorem F_netlist_IsWord_ok (N : Nat) {w : Bs} (p0 : ByteArray) (r : Bool) (H : F_netlist_IsWord N p0 = some r) (hE : HF w w.W E0) : Calls Tryz.prog 39 [(sv p0)].toArray w.W fun e W' => e = .returned (.bool r) ∧ HF w W' E0 := by
 unfold F_netlist_IsWord at H
 have leB := Bs.Le.refl w
 refine Tr.enter (n := 49) Tryz.func39 rfl rfl rfl hE ?_
 refine Tr.sr ?_
 refine Tr.asg rfl rfl ?_
 refine Tr.nil (Tr.normThen ?_)
 refine Tr.seq ?_
 refine Tr.sr ?_
 refine Tr.mv rfl rfl ?_
 refine Tr.va rfl (fun _ _ h1 h2 => run_lenS un_9 (h1.ev rfl)) ?_
 refine Tr.mv rfl rfl ?_
 refine Tr.nil (Tr.normThen ?_)
 refine Tr.block ?_
 refine Tr.loop (σ := Int) (fun m w s => F_netlist_IsWord_L1 p0 m s = some r) (fun s => [(0, (sv p0)), (6, (iv (p0.size : Int))), (7, (iv s))]) (fun s => []) N 0 H (.cons rfl (.cons rfl (.cons rfl .nil))) .nil (fun _ _ h => noSome (h)) ?_
 intro w leL1 mL1 x111 hs
 have H := hs
 replace H : F_netlist_IsWord_L1 p0 (mL1 + 1) x111 = some r := H
 replace leB := leB.trans leL1
 rw [F_netlist_IsWord_L1.eq_2] at H
 show Tr _ _ (LF [(0, (sv p0)), (6, (iv (p0.size : Int))), (7, (iv x111))]) (LE []) _
 refine Tr.sr ?_
 refine Tr.va rfl (fun _ _ h1 h2 => run_lss (h1.ev rfl) (h1.ev rfl)) ?_
 refine Tr.nil (Tr.normThen ?_)
 refine Tr.seq ?_
 refine Tr.cond rfl H (fun H => ?_) (fun H => ?_)
 ·refine Tr.skip (Tr.normThen ?_)
  refine Tr.seq ?_
  refine Tr.block ?_
  refine Tr.sr ?_
  refine Tr.mv rfl rfl ?_
  refine Tr.asg rfl rfl ?_
  refine Tr.nil (Tr.normThen ?_)
  refine Tr.sr ?_
  refine Tr.mv rfl rfl ?_
  refine Tr.mv rfl rfl ?_
  obtain ⟨c112, hc112, H⟩ := bnd H
  refine Tr.va rfl (fun _ _ h1 h2 => run_indexS un_9 (h1.ev rfl) (h1.ev rfl) hc112) ?_
  refine Tr.asg rfl rfl ?_
  refine Tr.nil (Tr.normThen ?_)
  refine Tr.sr ?_
  refine Tr.mv rfl rfl ?_
  refine Tr.va rfl (fun _ _ h1 h2 => run_lss (h1.ev rfl) (h1.ev rfl)) ?_
  refine Tr.mv rfl rfl ?_
  refine Tr.mid0 3 [(0, (sv p0)), (4, (.int .u8 c112)), (6, (iv (p0.size : Int))), (7, (iv x111)), (18, (.bool ((decide (c112 < 65)) || (decide (90 < c112)))))] [] ?_ ?_
  ·cases hg115 : (decide (c112 < 65))
   ·refine Tr.val (wg rfl rfl rfl) rfl (fun _ _ h1 h2 => run_move (h1.ev rfl)) ?_
    refine Tr.val (wg rfl rfl rfl) rfl (fun _ _ h1 h2 => run_gtr (h1.ev rfl) (h1.ev rfl)) ?_
    refine Tr.va rfl (fun _ _ h1 h2 => run_pickF (h1.ev rfl) (h1.ev rfl)) ?_
    exact Tr.nil (Tr.fin0 (.cons rfl (.cons rfl (.cons rfl (.cons rfl (.cons rfl .nil))))) .nil)
   ·refine Tr.pass rfl rfl rfl rfl rfl (by decide) ?_
    refine Tr.pass rfl rfl rfl rfl rfl (by decide) ?_
    refine Tr.va rfl (fun _ _ h1 h2 => run_pickT (h1.ev rfl) (h1.ev rfl)) ?_
    exact Tr.nil (Tr.fin0 (.cons rfl (.cons rfl (.cons rfl (.cons rfl (.cons rfl .nil))))) .nil)
  ·show Tr _ _ (LF [(0, (sv p0)), (4, (.int .u8 c112)), (6, (iv (p0.size : Int))), (7, (iv x111)), (18, (.bool ((decide (c112 < 65)) || (decide (90 < c112)))))]) (LE []) _
   refine Tr.mv rfl rfl ?_
   refine Tr.mid0 7 [(0, (sv p0)), (4, (.int .u8 c112)), (6, (iv (p0.size : Int))), (7, (iv x111)), (26, (.bool (((decide (c112 < 65)) || (decide (90 < c112))) && ((decide (c112 < 97)) || (decide (122 < c112))))))] [] ?_ ?_
   ·cases hg115 : ((decide (c112 < 65)) || (decide (90 < c112)))
    ·refine Tr.pass rfl rfl rfl rfl rfl (by decide) ?_
     refine Tr.pass rfl rfl rfl rfl rfl (by decide) ?_
     refine Tr.pass rfl rfl rfl rfl rfl (by decide) ?_
     refine Tr.passU rfl rfl rfl rfl (by decide) ?_
     refine Tr.passU rfl rfl rfl rfl (by decide) ?_
     refine Tr.pass rfl rfl rfl rfl rfl (by decide) ?_
     refine Tr.va rfl (fun _ _ h1 h2 => run_pickF (h1.ev rfl) (h1.ev rfl)) ?_
     exact Tr.nil (Tr.fin0 (.cons rfl (.cons rfl (.cons rfl (.cons rfl (.cons rfl .nil))))) .nil)
    ·refine Tr.val (wg rfl rfl rfl) rfl (fun _ _ h1 h2 => run_move (h1.ev rfl)) ?_
     refine Tr.val (wg rfl rfl rfl) rfl (fun _ _ h1 h2 => run_lss (h1.ev rfl) (h1.ev rfl)) ?_
     refine Tr.val (wg rfl rfl rfl) rfl (fun _ _ h1 h2 => run_move (h1.ev rfl)) ?_
     refine Tr.mid0 3 [(0, (sv p0)), (4, (.int .u8 c112)), (6, (iv (p0.size : Int))), (7, (iv x111)), (19, (.bool true)), (25, (.bool ((decide (c112 < 97)) || (decide (122 < c112)))))] [] ?_ ?_
     ·cases hg112 : (decide (c112 < 97))
      ·refine Tr.val (wg rfl rfl rfl) rfl (fun _ _ h1 h2 => run_move (h1.ev rfl)) ?_
       refine Tr.val (wg rfl rfl rfl) rfl (fun _ _ h1 h2 => run_gtr (h1.ev rfl) (h1.ev rfl)) ?_
       refine Tr.val (wg rfl rfl rfl) rfl (fun _ _ h1 h2 => run_pickF (h1.ev rfl) (h1.ev rfl)) ?_
       exact Tr.nil (Tr.fin0 (.cons rfl (.cons rfl (.cons rfl (.cons rfl (.cons rfl (.cons rfl .nil)))))) .nil)
      ·refine Tr.pass rfl rfl rfl rfl rfl (by decide) ?_
       refine Tr.pass rfl rfl rfl rfl rfl (by decide) ?_
       refine Tr.val (wg rfl rfl rfl) rfl (fun _ _ h1 h2 => run_pickT (h1.ev rfl) (h1.ev rfl)) ?_
       exact Tr.nil (Tr.fin0 (.cons rfl (.cons rfl (.cons rfl (.cons rfl (.cons rfl (.cons rfl .nil)))))) .nil)
     ·show Tr _ _ (LF [(0, (sv p0)), (4, (.int .u8 c112)), (6, (iv (p0.size : Int))), (7, (iv x111)), (19, (.bool true)), (25, (.bool ((decide (c112 < 97)) || (decide (122 < c112)))))]) (LE []) _
      refine Tr.va rfl (fun _ _ h1 h2 => run_pickT (h1.ev rfl) (h1.ev rfl)) ?_
      exact Tr.nil (Tr.fin0 (.cons rfl (.cons rfl (.cons rfl (.cons rfl (.cons rfl .nil))))) .nil)
   ·show Tr _ _ (LF [(0, (sv p0)), (4, (.int .u8 c112)), (6, (iv (p0.size : Int))), (7, (iv x111)), (26, (.bool (((decide (c112 < 65)) || (decide (90 < c112))) && ((decide (c112 < 97)) || (decide (122 < c112))))))]) (LE []) _
    refine Tr.mv rfl rfl ?_
    refine Tr.mid0 7 [(0, (sv p0)), (4, (.int .u8 c112)), (6, (iv (p0.size : Int))), (7, (iv x111)), (34, (.bool ((((decide (c112 < 65)) || (decide (90 < c112))) && ((decide (c112 < 97)) || (decide (122 < c112)))) && ((decide (c112 < 48)) || (decide (57 < c112))))))] [] ?_ ?_
    ·cases hg115 : (((decide (c112 < 65)) || (decide (90 < c112))) && ((decide (c112 < 97)) || (decide (122 < c112))))
     ·refine Tr.pass rfl rfl rfl rfl rfl (by decide) ?_
      refine Tr.pass rfl rfl rfl rfl rfl (by decide) ?_
      refine Tr.pass rfl rfl rfl rfl rfl (by decide) ?_
      refine Tr.passU rfl rfl rfl rfl (by decide) ?_
      refine Tr.passU rfl rfl rfl rfl (by decide) ?_
      refine Tr.pass rfl rfl rfl rfl rfl (by decide) ?_
      refine Tr.va rfl (fun _ _ h1 h2 => run_pickF (h1.ev rfl) (h1.ev rfl)) ?_
      exact Tr.nil (Tr.fin0 (.cons rfl (.cons rfl (.cons rfl (.cons rfl (.cons rfl .nil))))) .nil)
     ·refine Tr.val (wg rfl rfl rfl) rfl (fun _ _ h1 h2 => run_move (h1.ev rfl)) ?_
      refine Tr.val (wg rfl rfl rfl) rfl (fun _ _ h1 h2 => run_lss (h1.ev rfl) (h1.ev rfl)) ?_
      refine Tr.val (wg rfl rfl rfl) rfl (fun _ _ h1 h2 => run_move (h1.ev rfl)) ?_
      refine Tr.mid0 3 [(0, (sv p0)), (4, (.int .u8 c112)), (6, (iv (p0.size : Int))), (7, (iv x111)), (27, (.bool true)), (33, (.bool ((decide (c112 < 48)) || (decide (57 < c112)))))] [] ?_ ?_
      ·cases hg112 : (decide (c112 < 48))
       ·refine Tr.val (wg rfl rfl rfl) rfl (fun _ _ h1 h2 => run_move (h1.ev rfl)) ?_
        refine Tr.val (wg rfl rfl rfl) rfl (fun _ _ h1 h2 => run_gtr (h1.ev rfl) (h1.ev rfl)) ?_
        refine Tr.val (wg rfl rfl rfl) rfl (fun _ _ h1 h2 => run_pickF (h1.ev rfl) (h1.ev rfl)) ?_
        exact Tr.nil (Tr.fin0 (.cons rfl (.cons rfl (.cons rfl (.cons rfl (.cons rfl (.cons rfl .nil)))))) .nil)
       ·refine Tr.pass rfl rfl rfl rfl rfl (by decide) ?_
        refine Tr.pass rfl rfl rfl rfl rfl (by decide) ?_
        refine Tr.val (wg rfl rfl rfl) rfl (fun _ _ h1 h2 => run_pickT (h1.ev rfl) (h1.ev rfl)) ?_
        exact Tr.nil (Tr.fin0 (.cons rfl (.cons rfl (.cons rfl (.cons rfl (.cons rfl (.cons rfl .nil)))))) .nil)
      ·show Tr _ _ (LF [(0, (sv p0)), (4, (.int .u8 c112)), (6, (iv (p0.size : Int))), (7, (iv x111)), (27, (.bool true)), (33, (.bool ((decide (c112 < 48)) || (decide (57 < c112)))))]) (LE []) _
       refine Tr.va rfl (fun _ _ h1 h2 => run_pickT (h1.ev rfl) (h1.ev rfl)) ?_
       exact Tr.nil (Tr.fin0 (.cons rfl (.cons rfl (.cons rfl (.cons rfl (.cons rfl .nil))))) .nil)
    ·show Tr _ _ (LF [(0, (sv p0)), (4, (.int .u8 c112)), (6, (iv (p0.size : Int))), (7, (iv x111)), (34, (.bool ((((decide (c112 < 65)) || (decide (90 < c112))) && ((decide (c112 < 97)) || (decide (122 < c112)))) && ((decide (c112 < 48)) || (decide (57 < c112))))))]) (LE []) _
     refine Tr.mv rfl rfl ?_
     obtain ⟨g114, hg114, H⟩ := bnd H
     refine Tr.mid0 4 [(0, (sv p0)), (6, (iv (p0.size : Int))), (7, (iv x111)), (39, (.bool g114))] [] ?_ ?_
     ·cases hg115 : ((((decide (c112 < 65)) || (decide (90 < c112))) && ((decide (c112 < 97)) || (decide (122 < c112)))) && ((decide (c112 < 48)) || (decide (57 < c112))))
      ·rw [hg115] at hg114
       rw [if_neg (by decide)] at hg114
       have H := hg114
       obtain rfl := Option.some.inj H
       refine Tr.pass rfl rfl rfl rfl rfl (by decide) ?_
       refine Tr.pass rfl rfl rfl rfl rfl (by decide) ?_
       refine Tr.pass rfl rfl rfl rfl rfl (by decide) ?_
       refine Tr.va rfl (fun _ _ h1 h2 => run_pickF (h1.ev rfl) (h1.ev rfl)) ?_
       exact Tr.nil (Tr.fin0 (.cons rfl (.cons rfl (.cons rfl (.cons rfl .nil)))) .nil)
      ·rw [hg115] at hg114
       rw [if_pos rfl] at hg114
       have H := hg114
       refine Tr.val (wg rfl rfl rfl) rfl (fun _ _ h1 h2 => run_move (h1.ev rfl)) ?_
       obtain ⟨y115, hy115, H⟩ := bnd H
       refine Tr.call0 (r := (iv y115)) (wg rfl rfl rfl) rfl Tryz.call66 (evl_cons rfl (evl_cons rfl evl_nil)) (fun W hW => F_strings_IndexByte_ok (⟨#[95, 43, 45, 35]⟩) c112 y115 hy115 (HF.start _)) ?_
       refine Tr.val (wg rfl rfl rfl) rfl (fun _ _ h1 h2 => run_lss (h1.ev rfl) (h1.ev rfl)) ?_
       refine Tr.va rfl (fun _ _ h1 h2 => run_pickT (h1.ev rfl) (h1.ev rfl)) ?_
       obtain rfl := Option.some.inj H
       exact Tr.nil (Tr.fin0 (.cons rfl (.cons rfl (.cons rfl (.cons rfl .nil)))) .nil)
     ·show Tr _ _ (LF [(0, (sv p0)), (6, (iv (p0.size : Int))), (7, (iv x111)), (39, (.bool g114))]) (LE []) _
      refine Tr.nil (Tr.normThen ?_)
      refine Tr.cond rfl H (fun H => ?_) (fun H => ?_)
      ·refine Tr.sr ?_
       refine Tr.asg rfl rfl ?_
       refine Tr.nil (Tr.normThen ?_)
       refine Tr.ret (Tr.retBlock (Tr.retThen (Tr.retThen (Tr.retBlock (Tr.retThen ?_)))))
       obtain rfl := Option.some.inj H
       exact Tr.out (m := [(.bool false)]) [] (res_tmp rfl res_nil) (fun W hW => ⟨rfl, hW.low leB⟩)
      ·refine Tr.skip (Tr.normBlock (Tr.normThen ?_))
       refine Tr.region ?_
       refine Tr.va rfl (fun _ _ h1 h2 => run_add (h1.ev rfl) (h1.ev rfl)) ?_
       refine Tr.mv rfl rfl ?_
       refine Tr.nil ?_
       exact Tr.backThen leL1 (w64 (x111 + 1)) H (.cons rfl (.cons rfl (.cons rfl .nil))) .nil
 ·refine Tr.exit (Tr.exitThen (Tr.exitThen (Tr.exitBlock (Tr.normThen ?_))))
  refine Tr.sr ?_
  refine Tr.mv rfl rfl ?_
  refine Tr.va rfl (fun _ _ h1 h2 => run_lenS un_9 (h1.ev rfl)) ?_
  refine Tr.va rfl (fun _ _ h1 h2 => run_geq (h1.ev rfl) (h1.ev rfl)) ?_
  refine Tr.mv rfl rfl ?_
  refine Tr.mid0 4 [(48, (.bool ((decide (1 ≤ (p0.size : Int))) && (decide ((p0.size : Int) ≤ 40)))))] [] ?_ ?_
  ·cases hg115 : (decide (1 ≤ (p0.size : Int)))
   ·refine Tr.pass rfl rfl rfl rfl rfl (by decide) ?_
    refine Tr.pass rfl rfl rfl rfl rfl (by decide) ?_
    refine Tr.pass rfl rfl rfl rfl rfl (by decide) ?_
    refine Tr.va rfl (fun _ _ h1 h2 => run_pickF (h1.ev rfl) (h1.ev rfl)) ?_
    exact Tr.nil (Tr.fin0 (.cons rfl .nil) .nil)
   ·refine Tr.val (wg rfl rfl rfl) rfl (fun _ _ h1 h2 => run_move (h1.ev rfl)) ?_
    refine Tr.val (wg rfl rfl rfl) rfl (fun _ _ h1 h2 => run_lenS un_9 (h1.ev rfl)) ?_
    refine Tr.val (wg rfl rfl rfl) rfl (fun _ _ h1 h2 => run_leq (h1.ev rfl) (h1.ev rfl)) ?_
    refine Tr.va rfl (fun _ _ h1 h2 => run_pickT (h1.ev rfl) (h1.ev rfl)) ?_
    exact Tr.nil (Tr.fin0 (.cons rfl .nil) .nil)
  ·show Tr _ _ (LF [(48, (.bool ((decide (1 ≤ (p0.size : Int))) && (decide ((p0.size : Int) ≤ 40)))))]) (LE []) _
   refine Tr.asg rfl rfl ?_
   refine Tr.nil (Tr.normThen ?_)
   refine Tr.ret ?_
   obtain rfl := Option.some.inj H
   exact Tr.out (m := [(.bool ((decide (1 ≤ (p0.size : Int))) && (decide ((p0.size : Int) ≤ 40))))]) [] (res_tmp rfl res_nil) (fun W hW => ⟨rfl, hW.low leB⟩)

theorem F_mount_within_ok {w : Bs} (p0 : Int) (p1 : Int) (p2 : Int) (r : Bool) (H : F_mount_within p0 p1 p2 = some r) (hE : HF w w.W E0) : Calls Tryz.prog 24 [(iv p0), (iv p1), (iv p2)].toArray w.W fun e W' => e = .returned (.bool r) ∧ HF w W' E0 := by
 unfold F_mount_within at H
 have leB := Bs.Le.refl w
 refine Tr.enter (n := 15) Tryz.func24 rfl rfl rfl hE ?_
 refine Tr.sr ?_
 refine Tr.asg rfl rfl ?_
 refine Tr.nil (Tr.normThen ?_)
 refine Tr.sr ?_
 refine Tr.mv rfl rfl ?_
 refine Tr.mv rfl rfl ?_
 refine Tr.va rfl (fun _ _ h1 h2 => run_geq (h1.ev rfl) (h1.ev rfl)) ?_
 refine Tr.mv rfl rfl ?_
 refine Tr.mid0 4 [(14, (.bool ((decide (p1 ≤ p0)) && (decide (p0 ≤ p2)))))] [] ?_ ?_
 ·cases hg99 : (decide (p1 ≤ p0))
  ·refine Tr.pass rfl rfl rfl rfl rfl (by decide) ?_
   refine Tr.pass rfl rfl rfl rfl rfl (by decide) ?_
   refine Tr.pass rfl rfl rfl rfl rfl (by decide) ?_
   refine Tr.va rfl (fun _ _ h1 h2 => run_pickF (h1.ev rfl) (h1.ev rfl)) ?_
   exact Tr.nil (Tr.fin0 (.cons rfl .nil) .nil)
  ·refine Tr.val (wg rfl rfl rfl) rfl (fun _ _ h1 h2 => run_move (h1.ev rfl)) ?_
   refine Tr.val (wg rfl rfl rfl) rfl (fun _ _ h1 h2 => run_move (h1.ev rfl)) ?_
   refine Tr.val (wg rfl rfl rfl) rfl (fun _ _ h1 h2 => run_leq (h1.ev rfl) (h1.ev rfl)) ?_
   refine Tr.va rfl (fun _ _ h1 h2 => run_pickT (h1.ev rfl) (h1.ev rfl)) ?_
   exact Tr.nil (Tr.fin0 (.cons rfl .nil) .nil)
 ·show Tr _ _ (LF [(14, (.bool ((decide (p1 ≤ p0)) && (decide (p0 ≤ p2)))))]) (LE []) _
  refine Tr.asg rfl rfl ?_
  refine Tr.nil (Tr.normThen ?_)
  refine Tr.ret ?_
  obtain rfl := Option.some.inj H
  exact Tr.out (m := [(.bool ((decide (p1 ≤ p0)) && (decide (p0 ≤ p2))))]) [] (res_tmp rfl res_nil) (fun W hW => ⟨rfl, hW.low leB⟩)

theorem F_mount_CheckBodies_ok (N : Nat) {w : Bs} (p0 : (List TBody)) (Ap0_0 : Option Addr) (cp0_0 : Nat) (hp0_0 : Sl w.R w.W fl_TBody Ap0_0 cp0_0 p0) (r : Int) (H : F_mount_CheckBodies N p0 = some r) (hE : HF w w.W E0) : Calls Tryz.prog 20 [(.slice Ap0_0 (p0).length cp0_0)].toArray w.W fun e W' => e = .returned (iv r) ∧ HF w W' E0 := by
 unfold F_mount_CheckBodies at H
 have leB := Bs.Le.refl w
 refine Tr.enter (n := 57) Tryz.func20 rfl rfl rfl hE ?_
 refine Tr.sr ?_
 refine Tr.asg rfl rfl ?_
 refine Tr.nil (Tr.normThen ?_)
 refine Tr.seq ?_
 refine Tr.sr ?_
 refine Tr.mv rfl rfl ?_
 refine Tr.va rfl (fun _ _ h1 h2 => run_len un_27 (h1.ev rfl)) ?_
 refine Tr.va rfl (fun _ _ h1 h2 => run_gtr (h1.ev rfl) (h1.ev rfl)) ?_
 refine Tr.nil (Tr.normThen ?_)
 refine Tr.cond rfl H (fun H => ?_) (fun H => ?_)
 ·refine Tr.sr ?_
  refine Tr.asg rfl rfl ?_
  refine Tr.nil (Tr.normThen ?_)
  refine Tr.ret (Tr.retThen ?_)
  obtain rfl := Option.some.inj H
  exact Tr.out (m := [(iv 2)]) [] (res_tmp rfl res_nil) (fun W hW => ⟨rfl, hW.low leB⟩)
 ·refine Tr.skip (Tr.normThen ?_)
  refine Tr.seq ?_
  refine Tr.sr ?_
  refine Tr.mv rfl rfl ?_
  refine Tr.va rfl (fun _ _ h1 h2 => run_len un_27 (h1.ev rfl)) ?_
  refine Tr.mv rfl rfl ?_
  refine Tr.nil (Tr.normThen ?_)
  refine Tr.block ?_
  refine Tr.loop (σ := (List TBody) × Nat) (fun m w s => m = s.1.length + 1 ∧ s.1 = List.drop s.2 p0 ∧ s.2 ≤ p0.length ∧ F_mount_CheckBodies_L1 N p0 s.1 s.2 = some r) (fun s => [(0, (.slice Ap0_0 (p0).length cp0_0)), (8, (.slice Ap0_0 (p0).length cp0_0)), (9, (iv (p0.length : Int))), (10, (iv (s.2 : Int)))]) (fun s => []) (p0.length + 1) (p0, 0) ⟨rfl, rfl, Nat.zero_le _, H⟩ (.cons rfl (.cons rfl (.cons rfl (.cons rfl .nil)))) .nil (fun _ _ h => absurd h.1 (by simp)) ?_
  intro w leL1 m s hs
  obtain ⟨restL1, iL1⟩ := s
  obtain ⟨hmL1, hdL1, hiL1, H⟩ := hs
  replace hdL1 : restL1 = List.drop iL1 p0 := hdL1
  replace H : F_mount_CheckBodies_L1 N p0 restL1 iL1 = some r := H
  replace hmL1 : m + 1 = restL1.length + 1 := hmL1
  replace hp0_0 := hp0_0.leR leL1
  replace leB := leB.trans leL1
  obtain rfl : m = restL1.length := by omega
  clear hmL1
  show Tr _ _ (LF [(0, (.slice Ap0_0 (p0).length cp0_0)), (8, (.slice Ap0_0 (p0).length cp0_0)), (9, (iv (p0.length : Int))), (10, (iv (iL1 : Int)))]) (LE []) _
  cases restL1 with
  | nil =>
   rw [F_mount_CheckBodies_L1.eq_1] at H
   refine Tr.sr ?_
   refine Tr.va rfl (fun _ _ h1 h2 => run_lss (h1.ev rfl) (h1.ev rfl)) ?_
   refine Tr.nil (Tr.normThen ?_)
   refine Tr.seq ?_
   refine Tr.condF rfl (range_nil hdL1) ?_
   refine Tr.exit (Tr.exitThen (Tr.exitThen (Tr.exitBlock (Tr.normThen ?_))))
   refine Tr.sr ?_
   refine Tr.asg rfl rfl ?_
   refine Tr.nil (Tr.normThen ?_)
   refine Tr.ret ?_
   obtain rfl := Option.some.inj H
   exact Tr.out (m := [(iv 0)]) [] (res_tmp rfl res_nil) (fun W hW => ⟨rfl, hW.low leB⟩)
  | cons xL1 restL1 =>
   rw [F_mount_CheckBodies_L1.eq_2] at H
   refine Tr.sr ?_
   refine Tr.va rfl (fun _ _ h1 h2 => run_lss (h1.ev rfl) (h1.ev rfl)) ?_
   refine Tr.nil (Tr.normThen ?_)
   refine Tr.seq ?_
   refine Tr.condT rfl (range_on hdL1) ?_
   refine Tr.skip (Tr.normThen ?_)
   refine Tr.seq ?_
   refine Tr.block ?_
   refine Tr.sr ?_
   refine Tr.mv rfl rfl ?_
   refine Tr.va rfl (fun _ _ h1 h2 => run_indexAddr el_27 (h1.ev rfl) hp0_0.form (h1.ev rfl) (Int.natCast_nonneg _) (range_lt hdL1)) ?_
   refine Tr.va rfl (fun _ _ h1 h2 => run_loadN (cs := [(sv xL1.Type_), (iv xL1.W), (iv xL1.H), (iv xL1.Tall), (sv xL1.Nozzle)]) ag_68 sz_68 (h1.ev rfl) (CellsAt.take (rdF ef_TBody hp0_0 (range_at hdL1) h2) 5) rfl) ?_
   refine Tr.alloc 2 (wn rfl) rfl ze_68 fun b115 => ?_
   refine Tr.asg rfl rfl ?_
   refine Tr.store 2 (cs := [(sv xL1.Type_), (iv xL1.W), (iv xL1.H), (iv xL1.Tall), (sv xL1.Nozzle)]) [(sv xL1.Type_), (iv xL1.W), (iv xL1.H), (iv xL1.Tall), (sv xL1.Nozzle)] (wn rfl) rfl rfl rfl rfl sz_68 rfl rfl rfl ?_
   refine Tr.nil (Tr.normThen ?_)
   refine Tr.block ?_
   refine Tr.sr ?_
   refine Tr.va rfl (fun _ _ h1 h2 => run_fieldAddr fo_68_0 (h1.ev rfl)) ?_
   refine Tr.va rfl (fun _ _ h1 h2 => run_load1 ag_9 (h1.ev rfl) (rdb h2 (vs := [(sv xL1.Type_), (iv xL1.W), (iv xL1.H), (iv xL1.Tall), (sv xL1.Nozzle)]) (k := 2) rfl 0) rfl) ?_
   obtain ⟨y116, hy116, H⟩ := bnd H
   refine Tr.call0 (r := (.bool y116)) (wn rfl) rfl Tryz.call39 (evl_cons rfl evl_nil) (fun W hW => F_netlist_IsWord_ok N xL1.Type_ y116 hy116 (HF.start _)) ?_
   refine Tr.va rfl (fun _ _ h1 h2 => run_not (h1.ev rfl)) ?_
   refine Tr.asg rfl rfl ?_
   refine Tr.nil (Tr.normThen ?_)
   refine Tr.cond rfl H (fun H => ?_) (fun H => ?_)
   ·refine Tr.sr ?_
    refine Tr.asg rfl rfl ?_
    refine Tr.nil (Tr.normThen ?_)
    refine Tr.ret (Tr.retBlock (Tr.retBlock (Tr.retThen (Tr.retThen (Tr.retBlock (Tr.retThen ?_))))))
    obtain rfl := Option.some.inj H
    exact Tr.out (m := [(iv 5)]) [] (res_tmp rfl res_nil) (fun W hW => ⟨rfl, hW.low leB⟩)
   ·refine Tr.sr ?_
    refine Tr.va rfl (fun _ _ h1 h2 => run_fieldAddr fo_68_1 (h1.ev rfl)) ?_
    refine Tr.va rfl (fun _ _ h1 h2 => run_load1 ag_3 (h1.ev rfl) (rdb h2 (vs := [(sv xL1.Type_), (iv xL1.W), (iv xL1.H), (iv xL1.Tall), (sv xL1.Nozzle)]) (k := 2) rfl 1) rfl) ?_
    obtain ⟨y117, hy117, H⟩ := bnd H
    refine Tr.call0 (r := (.bool y117)) (wn rfl) rfl Tryz.call24 (evl_cons rfl (evl_cons rfl (evl_cons rfl evl_nil))) (fun W hW => F_mount_within_ok xL1.W 1 100000 y117 hy117 (HF.start _)) ?_
    refine Tr.va rfl (fun _ _ h1 h2 => run_not (h1.ev rfl)) ?_
    refine Tr.mv rfl rfl ?_
    obtain ⟨g119, hg119, H⟩ := bnd H
    refine Tr.mid0 5 [(0, (.slice Ap0_0 (p0).length cp0_0)), (3, (iv (iL1 : Int))), (4, (.pointer (some ⟨b115, 0, none⟩))), (8, (.slice Ap0_0 (p0).length cp0_0)), (9, (iv (p0.length : Int))), (10, (iv (iL1 : Int))), (30, (.bool g119))] [(2, bx b115 #[(sv xL1.Type_), (iv xL1.W), (iv xL1.H), (iv xL1.Tall), (sv xL1.Nozzle)] 68)] ?_ ?_
    ·cases hg127 : (!y117)
     ·rw [hg127] at hg119
      rw [if_neg (by decide)] at hg119
      have H := hg119
      refine Tr.val (wg rfl rfl rfl) rfl (fun _ _ h1 h2 => run_fieldAddr fo_68_2 (h1.ev rfl)) ?_
      refine Tr.val (wg rfl rfl rfl) rfl (fun _ _ h1 h2 => run_load1 ag_3 (h1.ev rfl) (rdb h2 (vs := [(sv xL1.Type_), (iv xL1.W), (iv xL1.H), (iv xL1.Tall), (sv xL1.Nozzle)]) (k := 2) rfl 2) rfl) ?_
      obtain ⟨y120, hy120, H⟩ := bnd H
      refine Tr.call0 (r := (.bool y120)) (wg rfl rfl rfl) rfl Tryz.call24 (evl_cons rfl (evl_cons rfl (evl_cons rfl evl_nil))) (fun W hW => F_mount_within_ok xL1.H 1 100000 y120 hy120 (HF.start _)) ?_
      refine Tr.val (wg rfl rfl rfl) rfl (fun _ _ h1 h2 => run_not (h1.ev rfl)) ?_
      refine Tr.va rfl (fun _ _ h1 h2 => run_pickF (h1.ev rfl) (h1.ev rfl)) ?_
      obtain rfl := Option.some.inj H
      exact Tr.nil (Tr.fin0 (.cons rfl (.cons rfl (.cons rfl (.cons rfl (.cons rfl (.cons rfl (.cons rfl .nil))))))) (.cons rfl .nil))
     ·rw [hg127] at hg119
      rw [if_pos rfl] at hg119
      have H := hg119
      obtain rfl := Option.some.inj H
      refine Tr.pass rfl rfl rfl rfl rfl (by decide) ?_
      refine Tr.pass rfl rfl rfl rfl rfl (by decide) ?_
      refine Tr.pass rfl rfl rfl rfl rfl (by decide) ?_
      refine Tr.pass rfl rfl rfl rfl rfl (by decide) ?_
      refine Tr.va rfl (fun _ _ h1 h2 => run_pickT (h1.ev rfl) (h1.ev rfl)) ?_
      exact Tr.nil (Tr.fin0 (.cons rfl (.cons rfl (.cons rfl (.cons rfl (.cons rfl (.cons rfl (.cons rfl .nil))))))) (.cons rfl .nil))
    ·show Tr _ _ (LF [(0, (.slice Ap0_0 (p0).length cp0_0)), (3, (iv (iL1 : Int))), (4, (.pointer (some ⟨b115, 0, none⟩))), (8, (.slice Ap0_0 (p0).length cp0_0)), (9, (iv (p0.length : Int))), (10, (iv (iL1 : Int))), (30, (.bool g119))]) (LE [(2, bx b115 #[(sv xL1.Type_), (iv xL1.W), (iv xL1.H), (iv xL1.Tall), (sv xL1.Nozzle)] 68)]) _
     refine Tr.mv rfl rfl ?_
     obtain ⟨g122, hg122, H⟩ := bnd H
     refine Tr.mid0 5 [(0, (.slice Ap0_0 (p0).length cp0_0)), (3, (iv (iL1 : Int))), (4, (.pointer (some ⟨b115, 0, none⟩))), (8, (.slice Ap0_0 (p0).length cp0_0)), (9, (iv (p0.length : Int))), (10, (iv (iL1 : Int))), (36, (.bool g122))] [(2, bx b115 #[(sv xL1.Type_), (iv xL1.W), (iv xL1.H), (iv xL1.Tall), (sv xL1.Nozzle)] 68)] ?_ ?_
     ·cases hg127 : g119
      ·rw [hg127] at hg122
       rw [if_neg (by decide)] at hg122
       have H := hg122
       refine Tr.val (wg rfl rfl rfl) rfl (fun _ _ h1 h2 => run_fieldAddr fo_68_3 (h1.ev rfl)) ?_
       refine Tr.val (wg rfl rfl rfl) rfl (fun _ _ h1 h2 => run_load1 ag_3 (h1.ev rfl) (rdb h2 (vs := [(sv xL1.Type_), (iv xL1.W), (iv xL1.H), (iv xL1.Tall), (sv xL1.Nozzle)]) (k := 2) rfl 3) rfl) ?_
       obtain ⟨y123, hy123, H⟩ := bnd H
       refine Tr.call0 (r := (.bool y123)) (wg rfl rfl rfl) rfl Tryz.call24 (evl_cons rfl (evl_cons rfl (evl_cons rfl evl_nil))) (fun W hW => F_mount_within_ok xL1.Tall 1 100000 y123 hy123 (HF.start _)) ?_
       refine Tr.val (wg rfl rfl rfl) rfl (fun _ _ h1 h2 => run_not (h1.ev rfl)) ?_
       refine Tr.va rfl (fun _ _ h1 h2 => run_pickF (h1.ev rfl) (h1.ev rfl)) ?_
       obtain rfl := Option.some.inj H
       exact Tr.nil (Tr.fin0 (.cons rfl (.cons rfl (.cons rfl (.cons rfl (.cons rfl (.cons rfl (.cons rfl .nil))))))) (.cons rfl .nil))
      ·rw [hg127] at hg122
       rw [if_pos rfl] at hg122
       have H := hg122
       obtain rfl := Option.some.inj H
       refine Tr.pass rfl rfl rfl rfl rfl (by decide) ?_
       refine Tr.pass rfl rfl rfl rfl rfl (by decide) ?_
       refine Tr.pass rfl rfl rfl rfl rfl (by decide) ?_
       refine Tr.pass rfl rfl rfl rfl rfl (by decide) ?_
       refine Tr.va rfl (fun _ _ h1 h2 => run_pickT (h1.ev rfl) (h1.ev rfl)) ?_
       exact Tr.nil (Tr.fin0 (.cons rfl (.cons rfl (.cons rfl (.cons rfl (.cons rfl (.cons rfl (.cons rfl .nil))))))) (.cons rfl .nil))
     ·show Tr _ _ (LF [(0, (.slice Ap0_0 (p0).length cp0_0)), (3, (iv (iL1 : Int))), (4, (.pointer (some ⟨b115, 0, none⟩))), (8, (.slice Ap0_0 (p0).length cp0_0)), (9, (iv (p0.length : Int))), (10, (iv (iL1 : Int))), (36, (.bool g122))]) (LE [(2, bx b115 #[(sv xL1.Type_), (iv xL1.W), (iv xL1.H), (iv xL1.Tall), (sv xL1.Nozzle)] 68)]) _
      refine Tr.asg rfl rfl ?_
      refine Tr.nil (Tr.normThen ?_)
      refine Tr.cond rfl H (fun H => ?_) (fun H => ?_)
      ·refine Tr.sr ?_
       refine Tr.asg rfl rfl ?_
       refine Tr.nil (Tr.normThen ?_)
       refine Tr.ret (Tr.retBlock (Tr.retBlock (Tr.retThen (Tr.retThen (Tr.retBlock (Tr.retThen ?_))))))
       obtain rfl := Option.some.inj H
       exact Tr.out (m := [(iv 1)]) [] (res_tmp rfl res_nil) (fun W hW => ⟨rfl, hW.low leB⟩)
      ·refine Tr.sr ?_
       refine Tr.va rfl (fun _ _ h1 h2 => run_fieldAddr fo_68_4 (h1.ev rfl)) ?_
       refine Tr.va rfl (fun _ _ h1 h2 => run_load1 ag_9 (h1.ev rfl) (rdb h2 (vs := [(sv xL1.Type_), (iv xL1.W), (iv xL1.H), (iv xL1.Tall), (sv xL1.Nozzle)]) (k := 2) rfl 4) rfl) ?_
       obtain ⟨y124, hy124, H⟩ := bnd H
       refine Tr.call0 (r := (.bool y124)) (wn rfl) rfl Tryz.call39 (evl_cons rfl evl_nil) (fun W hW => F_netlist_IsWord_ok N xL1.Nozzle y124 hy124 (HF.start _)) ?_
       refine Tr.va rfl (fun _ _ h1 h2 => run_not (h1.ev rfl)) ?_
       refine Tr.asg rfl rfl ?_
       refine Tr.nil (Tr.normThen ?_)
       refine Tr.cond rfl H (fun H => ?_) (fun H => ?_)
       ·refine Tr.sr ?_
        refine Tr.asg rfl rfl ?_
        refine Tr.nil (Tr.normThen ?_)
        refine Tr.ret (Tr.retBlock (Tr.retBlock (Tr.retThen (Tr.retThen (Tr.retBlock (Tr.retThen ?_))))))
        obtain rfl := Option.some.inj H
        exact Tr.out (m := [(iv 5)]) [] (res_tmp rfl res_nil) (fun W hW => ⟨rfl, hW.low leB⟩)
       ·refine Tr.seq ?_
        refine Tr.draw (by kernel_rfl) (by kernel_rfl) ?_
        refine Tq.mv rfl rfl ?_
        refine Tq.va rfl (fun _ _ h1 h2 => run_gtr (h1.ev rfl) (h1.ev rfl)) ?_
        refine Tq.mv rfl rfl ?_
        obtain ⟨g126, hg126, H⟩ := bnd H
        refine Tq.mid 10 [(0, (.slice Ap0_0 (p0).length cp0_0)), (8, (.slice Ap0_0 (p0).length cp0_0)), (9, (iv (p0.length : Int))), (10, (iv (iL1 : Int))), (55, (.bool g126))] ?_ ?_
        ·cases hg127 : (decide (0 < (iL1 : Int)))
         ·rw [hg127] at hg126
          rw [if_neg (by decide)] at hg126
          have H := hg126
          obtain rfl := Option.some.inj H
          refine Tq.pass rfl rfl rfl rfl rfl (by decide) ?_
          refine Tq.pass rfl rfl rfl rfl rfl (by decide) ?_
          refine Tq.pass rfl rfl rfl rfl rfl (by decide) ?_
          refine Tq.pass rfl rfl rfl rfl rfl (by decide) ?_
          refine Tq.pass rfl rfl rfl rfl rfl (by decide) ?_
          refine Tq.pass rfl rfl rfl rfl rfl (by decide) ?_
          refine Tq.pass rfl rfl rfl rfl rfl (by decide) ?_
          refine Tq.pass rfl rfl rfl rfl rfl (by decide) ?_
          refine Tq.pass rfl rfl rfl rfl rfl (by decide) ?_
          refine Tq.va rfl (fun _ _ h1 h2 => run_pickF (h1.ev rfl) (h1.ev rfl)) ?_
          exact Tq.fin (.cons rfl (.cons rfl (.cons rfl (.cons rfl (.cons rfl .nil)))))
         ·rw [hg127] at hg126
          rw [if_pos rfl] at hg126
          have H := hg126
          refine Tq.val (wg rfl rfl rfl) rfl (fun _ _ h1 h2 => run_fieldAddr fo_68_0 (h1.ev rfl)) ?_
          refine Tq.val (wg rfl rfl rfl) rfl (fun _ _ h1 h2 => run_load1 ag_9 (h1.ev rfl) (rdb h2 (vs := [(sv xL1.Type_), (iv xL1.W), (iv xL1.H), (iv xL1.Tall), (sv xL1.Nozzle)]) (k := 2) rfl 0) rfl) ?_
          refine Tq.val (wg rfl rfl rfl) rfl (fun _ _ h1 h2 => run_move (h1.ev rfl)) ?_
          refine Tq.val (wg rfl rfl rfl) rfl (fun _ _ h1 h2 => run_move (h1.ev rfl)) ?_
          refine Tq.val (wg rfl rfl rfl) rfl (fun _ _ h1 h2 => run_sub (h1.ev rfl) (h1.ev rfl)) ?_
          obtain ⟨x127, hx127, H⟩ := bnd H
          obtain ⟨hx1270, hx1271, hx1272⟩ := idx_some hx127
          refine Tq.val (wg rfl rfl rfl) rfl (fun _ _ h1 h2 => run_indexAddr el_27 (h1.ev rfl) hp0_0.form (h1.ev rfl) hx1270 hx1271) ?_
          refine Tq.val (wg rfl rfl rfl) rfl (fun _ _ h1 h2 => run_fieldAddr fo_68_0 (h1.ev rfl)) ?_
          refine Tq.val (wg rfl rfl rfl) rfl (fun _ _ h1 h2 => run_load1 ag_9 (h1.ev rfl) (CellsAt.drop (rdF ef_TBody hp0_0 hx1272 h2) 0) rfl) ?_
          refine Tq.val (wg rfl rfl rfl) rfl (fun _ _ h1 h2 => run_leqS (h1.ev rfl) (h1.ev rfl)) ?_
          refine Tq.va rfl (fun _ _ h1 h2 => run_pickT (h1.ev rfl) (h1.ev rfl)) ?_
          obtain rfl := Option.some.inj H
          exact Tq.fin (.cons rfl (.cons rfl (.cons rfl (.cons rfl (.cons rfl .nil)))))
        ·refine Tq.asg rfl rfl ?_
         refine Tq.nil (Tr.normThen ?_)
         refine Tr.cond rfl H (fun H => ?_) (fun H => ?_)
         ·refine Tr.sr ?_
          refine Tr.asg rfl rfl ?_
          refine Tr.nil (Tr.normThen ?_)
          refine Tr.ret (Tr.retBlock (Tr.retBlock (Tr.retThen (Tr.retThen (Tr.retBlock (Tr.retThen ?_))))))
          obtain rfl := Option.some.inj H
          exact Tr.out (m := [(iv 8)]) [] (res_tmp rfl res_nil) (fun W hW => ⟨rfl, hW.low leB⟩)
         ·refine Tr.skip (Tr.normBlock (Tr.normBlock (Tr.normThen ?_)))
          refine Tr.region ?_
          refine Tr.va rfl (fun _ _ h1 h2 => run_add (h1.ev rfl) (h1.ev rfl)) ?_
          refine Tr.mv rfl rfl ?_
          refine Tr.nil ?_
          exact Tr.backThen leL1 (restL1, (iL1 + 1)) ⟨rfl, range_tl hdL1, range_lt hdL1, H⟩ (.cons rfl (.cons rfl (.cons rfl (.cons (congrArg (fun z => some (Value.int .i64 z)) (range_up hdL1 hp0_0.form)) .nil)))) .nil

theorem F_slices_BinarySearchFunc_string_ok (N : Nat) {w : Bs} (p0 : (List TBody)) (Ap0_0 : Option Addr) (cp0_0 : Nat) (hp0_0 : Sl w.R w.W fl_TBody Ap0_0 cp0_0 p0) (p1 : ByteArray) (p2 : TBody → ByteArray → Option Int) (fid2 : Nat) (cap2 : List Value) (hg2 : ∀ args W, (callFunc fid2 args).run Tryz.prog W = .ok (.enter fid2 args) W) (hf2 : ∀ (w' : Bs), w.Ext w' → ∀ (z0 : TBody) (z1 : ByteArray), ∀ y, p2 z0 z1 = some y → Calls Tryz.prog fid2 (([(.agg #[(sv z0.Type_), (iv z0.W), (iv z0.H), (iv z0.Tall), (sv z0.Nozzle)]), (sv z1)] : List Value) ++ cap2).toArray w'.W fun e W'' => e = .returned (iv y) ∧ HF w' W'' E0) (r : (Int × Bool)) (H : F_slices_BinarySearchFunc_string N p0 p1 p2 = some r) (hE : HF w w.W E0) : Calls Tryz.prog 40 [(.slice Ap0_0 (p0).length cp0_0), (sv p1), (.func (.func fid2) #[] cap2.toArray)].toArray w.W fun e W' => e = .returned (.tuple #[(iv r.1), (.bool r.2)]) ∧ HF w W' E0 := by
 unfold F_slices_BinarySearchFunc_string at H
 have leB := Bs.Le.refl w
 refine Tr.enter (n := 49) Tryz.func40 rfl rfl rfl hE ?_
 refine Tr.sr ?_
 refine Tr.asg rfl rfl ?_
 refine Tr.asg rfl rfl ?_
 refine Tr.nil (Tr.normThen ?_)
 refine Tr.sr ?_
 refine Tr.mv rfl rfl ?_
 refine Tr.va rfl (fun _ _ h1 h2 => run_len un_27 (h1.ev rfl)) ?_
 refine Tr.asg rfl rfl ?_
 refine Tr.nil (Tr.normThen ?_)
 refine Tr.sr ?_
 refine Tr.mv rfl rfl ?_
 refine Tr.asg rfl rfl ?_
 refine Tr.asg rfl rfl ?_
 refine Tr.nil (Tr.normThen ?_)
 refine Tr.seq ?_
 refine Tr.block ?_
 refine Tr.loop (σ := Int × Int) (fun m w s => F_slices_BinarySearchFunc_string_L1 p0 p1 p2 m s.1 s.2 = some r) (fun s => [(0, (.slice Ap0_0 (p0).length cp0_0)), (1, (sv p1)), (2, (.func (.func fid2) #[] cap2.toArray)), (8, (iv (p0.length : Int))), (9, (iv s.1)), (10, (iv s.2))]) (fun s => []) N (0, (p0.length : Int)) H (.cons rfl (.cons rfl (.cons rfl (.cons rfl (.cons rfl (.cons rfl .nil)))))) .nil (fun _ _ h => noSome (h)) ?_
 intro w leL1 mL1 s hs
 obtain ⟨x114, x115⟩ := s
 have H := hs
 replace H : F_slices_BinarySearchFunc_string_L1 p0 p1 p2 (mL1 + 1) x114 x115 = some r := H
 replace hp0_0 := hp0_0.leR leL1
 replace hf2 := fun w' he => hf2 w' (leL1.ext.trans he)
 replace leB := leB.trans leL1
 rw [F_slices_BinarySearchFunc_string_L1.eq_2] at H
 show Tr _ _ (LF [(0, (.slice Ap0_0 (p0).length cp0_0)), (1, (sv p1)), (2, (.func (.func fid2) #[] cap2.toArray)), (8, (iv (p0.length : Int))), (9, (iv x114)), (10, (iv x115))]) (LE []) _
 refine Tr.seq ?_
 refine Tr.sr ?_
 refine Tr.mv rfl rfl ?_
 refine Tr.mv rfl rfl ?_
 refine Tr.va rfl (fun _ _ h1 h2 => run_lss (h1.ev rfl) (h1.ev rfl)) ?_
 refine Tr.nil (Tr.normThen ?_)
 refine Tr.cond rfl H (fun H => ?_) (fun H => ?_)
 ·refine Tr.skip (Tr.normThen ?_)
  refine Tr.block ?_
  refine Tr.sr ?_
  refine Tr.mv rfl rfl ?_
  refine Tr.mv rfl rfl ?_
  refine Tr.va rfl (fun _ _ h1 h2 => run_add (h1.ev rfl) (h1.ev rfl)) ?_
  obtain ⟨q116, hq116, H⟩ := bnd H
  refine Tr.va rfl (fun _ _ h1 h2 => run_toU un_3 un_95 (h1.ev rfl) hq116) ?_
  refine Tr.va rfl (fun _ _ h1 h2 => run_half (h1.ev rfl) (h1.ev rfl)) ?_
  obtain ⟨q117, hq117, H⟩ := bnd H
  refine Tr.va rfl (fun _ _ h1 h2 => run_ofU un_95 un_3 (h1.ev rfl) hq117) ?_
  refine Tr.asg rfl rfl ?_
  refine Tr.nil (Tr.normThen ?_)
  refine Tr.sr ?_
  refine Tr.mv rfl rfl ?_
  refine Tr.mv rfl rfl ?_
  refine Tr.mv rfl rfl ?_
  obtain ⟨x118, hx118, H⟩ := bnd H
  obtain ⟨hx1180, hx1181, hx1182⟩ := idx_some hx118
  refine Tr.va rfl (fun _ _ h1 h2 => run_indexAddr el_27 (h1.ev rfl) hp0_0.form (h1.ev rfl) hx1180 hx1181) ?_
  refine Tr.va rfl (fun _ _ h1 h2 => run_loadN (cs := [(sv x118.Type_), (iv x118.W), (iv x118.H), (iv x118.Tall), (sv x118.Nozzle)]) ag_68 sz_68 (h1.ev rfl) (CellsAt.take (rdF ef_TBody hp0_0 hx1182 h2) 5) rfl) ?_
  refine Tr.mv rfl rfl ?_
  obtain ⟨y119, hy119, H⟩ := bnd H
  refine Tr.callF (r := (iv y119)) (wn rfl) rfl rfl hg2 (evl_cons rfl (evl_cons rfl evl_nil)) (fun W hW => hf2 hW.all hW.extAll x118 p1 _ hy119) ?_
  refine Tr.va rfl (fun _ _ h1 h2 => run_lss (h1.ev rfl) (h1.ev rfl)) ?_
  refine Tr.nil (Tr.normThen ?_)
  refine Tr.cond rfl H (fun H => ?_) (fun H => ?_)
  ·refine Tr.region ?_
   refine Tr.mv rfl rfl ?_
   refine Tr.va rfl (fun _ _ h1 h2 => run_add (h1.ev rfl) (h1.ev rfl)) ?_
   refine Tr.asg rfl rfl ?_
   refine Tr.nil (Tr.normBlock ?_)
   exact Tr.backThen leL1 ((w64 (q117 + 1)), x115) H (.cons rfl (.cons rfl (.cons rfl (.cons rfl (.cons rfl (.cons rfl .nil)))))) .nil
  ·refine Tr.region ?_
   refine Tr.mv rfl rfl ?_
   refine Tr.asg rfl rfl ?_
   refine Tr.nil (Tr.normBlock ?_)
   exact Tr.backThen leL1 (x114, q117) H (.cons rfl (.cons rfl (.cons rfl (.cons rfl (.cons rfl (.cons rfl .nil)))))) .nil
 ·refine Tr.exit (Tr.exitThen (Tr.exitThen (Tr.exitBlock (Tr.normThen ?_))))
  refine Tr.sr ?_
  refine Tr.mv rfl rfl ?_
  refine Tr.mv rfl rfl ?_
  refine Tr.mv rfl rfl ?_
  refine Tr.va rfl (fun _ _ h1 h2 => run_lss (h1.ev rfl) (h1.ev rfl)) ?_
  refine Tr.mv rfl rfl ?_
  obtain ⟨g122, hg122, H⟩ := bnd H
  refine Tr.mid0 9 [(35, (iv x114)), (48, (.bool g122))] [] ?_ ?_
  ·cases hg124 : (decide (x114 < (p0.length : Int)))
   ·rw [hg124] at hg122
    rw [if_neg (by decide)] at hg122
    have H := hg122
    obtain rfl := Option.some.inj H
    refine Tr.pass rfl rfl rfl rfl rfl (by decide) ?_
    refine Tr.pass rfl rfl rfl rfl rfl (by decide) ?_
    refine Tr.pass rfl rfl rfl rfl rfl (by decide) ?_
    refine Tr.pass rfl rfl rfl rfl rfl (by decide) ?_
    refine Tr.pass rfl rfl rfl rfl rfl (by decide) ?_
    refine Tr.pass rfl rfl rfl rfl rfl (by decide) ?_
    refine Tr.pass rfl rfl rfl rfl rfl (by decide) ?_
    refine Tr.pass rfl rfl rfl rfl rfl (by decide) ?_
    refine Tr.va rfl (fun _ _ h1 h2 => run_pickF (h1.ev rfl) (h1.ev rfl)) ?_
    exact Tr.nil (Tr.fin0 (.cons rfl (.cons rfl .nil)) .nil)
   ·rw [hg124] at hg122
    rw [if_pos rfl] at hg122
    have H := hg122
    refine Tr.val (wg rfl rfl rfl) rfl (fun _ _ h1 h2 => run_move (h1.ev rfl)) ?_
    refine Tr.val (wg rfl rfl rfl) rfl (fun _ _ h1 h2 => run_move (h1.ev rfl)) ?_
    refine Tr.val (wg rfl rfl rfl) rfl (fun _ _ h1 h2 => run_move (h1.ev rfl)) ?_
    obtain ⟨x123, hx123, H⟩ := bnd H
    obtain ⟨hx1230, hx1231, hx1232⟩ := idx_some hx123
    refine Tr.val (wg rfl rfl rfl) rfl (fun _ _ h1 h2 => run_indexAddr el_27 (h1.ev rfl) hp0_0.form (h1.ev rfl) hx1230 hx1231) ?_
    refine Tr.val (wg rfl rfl rfl) rfl (fun _ _ h1 h2 => run_loadN (cs := [(sv x123.Type_), (iv x123.W), (iv x123.H), (iv x123.Tall), (sv x123.Nozzle)]) ag_68 sz_68 (h1.ev rfl) (CellsAt.take (rdF ef_TBody hp0_0 hx1232 h2) 5) rfl) ?_
    refine Tr.val (wg rfl rfl rfl) rfl (fun _ _ h1 h2 => run_move (h1.ev rfl)) ?_
    obtain ⟨y124, hy124, H⟩ := bnd H
    refine Tr.callF (r := (iv y124)) (wg rfl rfl rfl) rfl rfl hg2 (evl_cons rfl (evl_cons rfl evl_nil)) (fun W hW => hf2 hW.all hW.extAll x123 p1 _ hy124) ?_
    refine Tr.val (wg rfl rfl rfl) rfl (fun _ _ h1 h2 => run_eql (h1.ev rfl) (h1.ev rfl)) ?_
    refine Tr.va rfl (fun _ _ h1 h2 => run_pickT (h1.ev rfl) (h1.ev rfl)) ?_
    obtain rfl := Option.some.inj H
    exact Tr.nil (Tr.fin0 (.cons rfl (.cons rfl .nil)) .nil)
  ·show Tr _ _ (LF [(35, (iv x114)), (48, (.bool g122))]) (LE []) _
   refine Tr.asg rfl rfl ?_
   refine Tr.asg rfl rfl ?_
   refine Tr.nil (Tr.normThen ?_)
   refine Tr.ret ?_
   obtain rfl := Option.some.inj H
   exact Tr.out (m := [(iv x114), (.bool g122)]) [] (res_tmp rfl (res_tmp rfl res_nil)) (fun W hW => ⟨rfl, hW.low leB⟩)

theorem F_strings_Compare_ok {w : Bs} (p0 : ByteArray) (p1 : ByteArray) (r : Int) (H : cmpF p0 p1 = some r) (hE : HF w w.W E0) : Calls Tryz.prog 27 [(sv p0), (sv p1)].toArray w.W fun e W' => e = .returned (iv r) ∧ HF w W' E0 :=
 cmpF_rule (ρ := Tryz.compare27_ren) Tryz.compare27 H hE

theorem F_mount_bodyOf_1_ok {w : Bs} (p0 : TBody) (p1 : ByteArray) (r : Int) (H : F_mount_bodyOf_1 p0 p1 = some r) (hE : HF w w.W E0) : Calls Tryz.prog 41 [(.agg #[(sv p0.Type_), (iv p0.W), (iv p0.H), (iv p0.Tall), (sv p0.Nozzle)]), (sv p1)].toArray w.W fun e W' => e = .returned (iv r) ∧ HF w W' E0 := by
 unfold F_mount_bodyOf_1 at H
 have leB := Bs.Le.refl w
 refine Tr.enter (n := 9) Tryz.func41 rfl rfl rfl hE ?_
 refine Tr.sr ?_
 refine Tr.box 1 (cs := [(sv p0.Type_), (iv p0.W), (iv p0.H), (iv p0.Tall), (sv p0.Nozzle)]) (wn rfl) rfl rfl rfl fun b100 => ?_
 refine Tr.asg rfl rfl ?_
 refine Tr.nil (Tr.normThen ?_)
 refine Tr.sr ?_
 refine Tr.va rfl (fun _ _ h1 h2 => run_fieldAddr fo_68_0 (h1.ev rfl)) ?_
 refine Tr.va rfl (fun _ _ h1 h2 => run_load1 ag_9 (h1.ev rfl) (rdb h2 (vs := [(sv p0.Type_), (iv p0.W), (iv p0.H), (iv p0.Tall), (sv p0.Nozzle)]) (k := 1) rfl 0) rfl) ?_
 refine Tr.mv rfl rfl ?_
 obtain ⟨y101, hy101, H⟩ := bnd H
 refine Tr.call0 (r := (iv y101)) (wn rfl) rfl Tryz.call27 (evl_cons rfl (evl_cons rfl evl_nil)) (fun W hW => F_strings_Compare_ok p0.Type_ p1 y101 hy101 (HF.start _)) ?_
 refine Tr.asg rfl rfl ?_
 refine Tr.nil (Tr.normThen ?_)
 refine Tr.ret ?_
 obtain rfl := Option.some.inj H
 exact Tr.out (m := [(iv y101)]) [] (res_tmp rfl res_nil) (fun W hW => ⟨rfl, hW.low leB⟩)

theorem F_mount_bodyOf_ok (N : Nat) {w : Bs} (p0 : (List TBody)) (Ap0_0 : Option Addr) (cp0_0 : Nat) (hp0_0 : Sl w.R w.W fl_TBody Ap0_0 cp0_0 p0) (p1 : ByteArray) (r : (TBody × Bool)) (H : F_mount_bodyOf N p0 p1 = some r) (hE : HF w w.W E0) : Calls Tryz.prog 21 [(.slice Ap0_0 (p0).length cp0_0), (sv p1)].toArray w.W fun e W' => e = .returned (.tuple #[(.agg #[(sv r.1.Type_), (iv r.1.W), (iv r.1.H), (iv r.1.Tall), (sv r.1.Nozzle)]), (.bool r.2)]) ∧ HF w W' E0 := by
 unfold F_mount_bodyOf at H
 have leB := Bs.Le.refl w
 refine Tr.enter (n := 21) Tryz.func21 rfl rfl rfl hE ?_
 refine Tr.sr ?_
 refine Tr.alloc 1 (wn rfl) rfl ze_68 fun b100 => ?_
 refine Tr.asg rfl rfl ?_
 refine Tr.nil (Tr.normThen ?_)
 refine Tr.sr ?_
 refine Tr.mv rfl rfl ?_
 refine Tr.mv rfl rfl ?_
 obtain ⟨y101, hy101, H⟩ := bnd H
 refine Tr.call0 (r := (.tuple #[(iv y101.1), (.bool y101.2)])) (wn rfl) rfl Tryz.call40 (evl_cons rfl (evl_cons rfl (evl_cons rfl evl_nil))) (fun W hW => F_slices_BinarySearchFunc_string_ok N p0 Ap0_0 cp0_0 (hp0_0.ext hW.extAll) p1 (fun z0 z1 => F_mount_bodyOf_1 z0 z1) 41 [] Tryz.call41 (fun w' he z0 z1 y hy => F_mount_bodyOf_1_ok z0 z1 y hy (HF.start _)) y101 hy101 (HF.start _)) ?_
 refine Tr.mv rfl rfl ?_
 refine Tr.va rfl (fun _ _ h1 h2 => run_extract (h1.ev rfl) rfl) ?_
 refine Tr.va rfl (fun _ _ h1 h2 => run_extract (h1.ev rfl) rfl) ?_
 refine Tr.asg rfl rfl ?_
 refine Tr.asg rfl rfl ?_
 refine Tr.nil (Tr.normThen ?_)
 refine Tr.seq ?_
 refine Tr.sr ?_
 refine Tr.mv rfl rfl ?_
 refine Tr.va rfl (fun _ _ h1 h2 => run_not (h1.ev rfl)) ?_
 refine Tr.nil (Tr.normThen ?_)
 refine Tr.cond rfl H (fun H => ?_) (fun H => ?_)
 ·refine Tr.sr ?_
  refine Tr.build (vs := []) (cs := [(sv ⟨#[]⟩), (iv 0), (iv 0), (iv 0), (sv ⟨#[]⟩)]) (wn rfl) rfl evs_nil (by kernel_rfl) ?_
  refine Tr.store 1 (cs := [(sv ⟨#[]⟩), (iv 0), (iv 0), (iv 0), (sv ⟨#[]⟩)]) [(sv ⟨#[]⟩), (iv 0), (iv 0), (iv 0), (sv ⟨#[]⟩)] (wn rfl) rfl rfl rfl rfl sz_68 rfl rfl rfl ?_
  refine Tr.asg rfl rfl ?_
  refine Tr.nil (Tr.normThen ?_)
  refine Tr.ret (Tr.retThen ?_)
  obtain rfl := Option.some.inj H
  exact Tr.out (m := [(.agg #[(sv ⟨#[]⟩), (iv 0), (iv 0), (iv 0), (sv ⟨#[]⟩)]), (.bool false)]) [1] (res_cell rfl rfl ag_68 sz_68 (res_tmp rfl res_nil)) (fun W hW => ⟨rfl, hW.low leB⟩)
 ·refine Tr.skip (Tr.normThen ?_)
  refine Tr.sr ?_
  refine Tr.mv rfl rfl ?_
  refine Tr.mv rfl rfl ?_
  obtain ⟨x102, hx102, H⟩ := bnd H
  obtain ⟨hx1020, hx1021, hx1022⟩ := idx_some hx102
  refine Tr.va rfl (fun _ _ h1 h2 => run_indexAddr el_27 (h1.ev rfl) hp0_0.form (h1.ev rfl) hx1020 hx1021) ?_
  refine Tr.va rfl (fun _ _ h1 h2 => run_loadN (cs := [(sv x102.Type_), (iv x102.W), (iv x102.H), (iv x102.Tall), (sv x102.Nozzle)]) ag_68 sz_68 (h1.ev rfl) (CellsAt.take (rdF ef_TBody hp0_0 hx1022 h2) 5) rfl) ?_
  refine Tr.store 1 (cs := [(sv x102.Type_), (iv x102.W), (iv x102.H), (iv x102.Tall), (sv x102.Nozzle)]) [(sv x102.Type_), (iv x102.W), (iv x102.H), (iv x102.Tall), (sv x102.Nozzle)] (wn rfl) rfl rfl rfl rfl sz_68 rfl rfl rfl ?_
  refine Tr.asg rfl rfl ?_
  refine Tr.nil (Tr.normThen ?_)
  refine Tr.ret ?_
  obtain rfl := Option.some.inj H
  exact Tr.out (m := [(.agg #[(sv x102.Type_), (iv x102.W), (iv x102.H), (iv x102.Tall), (sv x102.Nozzle)]), (.bool true)]) [1] (res_cell rfl rfl ag_68 sz_68 (res_tmp rfl res_nil)) (fun W hW => ⟨rfl, hW.low leB⟩)

theorem F_strings_Split_ok {w : Bs} (hT : Tab Tryz.prog w) (p0 : ByteArray) (p1 : ByteArray) (r : (List ByteArray)) (H : splitF p0 p1 = some r) (hE : HF w w.W (LEn [emp])) : Calls Tryz.prog 43 [(sv p0), (sv p1)].toArray w.W fun e W' => ∃ u : (Option Addr × Nat), e = .returned (.slice u.1 (r).length u.2) ∧ (SlF u.1 (r).length u.2) ∧ HF w W' (LEn [ow u.1 u.2 9 fl_str r]) :=
 splitF_rule (ρ := Tryz.split43_ren) Tryz.split43 hT Tryz.split43.g1 (t := fl_str) rfl ef_str () tr_str (by kernel_rfl) H hE

theorem F_slices_IndexFunc_string_ok {w : Bs} (p0 : (List ByteArray)) (Ap0_0 : Option Addr) (cp0_0 : Nat) (hp0_0 : Sl w.R w.W fl_str Ap0_0 cp0_0 p0) (p1 : ByteArray → Option Bool) (fid1 : Nat) (cap1 : List Value) (hg1 : ∀ args W, (callFunc fid1 args).run Tryz.prog W = .ok (.enter fid1 args) W) (hf1 : ∀ (w' : Bs), w.Ext w' → ∀ (z0 : ByteArray), ∀ y, p1 z0 = some y → Calls Tryz.prog fid1 (([(sv z0)] : List Value) ++ cap1).toArray w'.W fun e W'' => e = .returned (.bool y) ∧ HF w' W'' E0) (r : Int) (H : F_slices_IndexFunc_string p0 p1 = some r) (hE : HF w w.W E0) : Calls Tryz.prog 67 [(.slice Ap0_0 (p0).length cp0_0), (.func (.func fid1) #[] cap1.toArray)].toArray w.W fun e W' => e = .returned (iv r) ∧ HF w W' E0 := by
 unfold F_slices_IndexFunc_string at H
 have leB := Bs.Le.refl w
 refine Tr.enter (n := 19) Tryz.func67 rfl rfl rfl hE ?_
 refine Tr.sr ?_
 refine Tr.asg rfl rfl ?_
 refine Tr.nil (Tr.normThen ?_)
 refine Tr.seq ?_
 refine Tr.sr ?_
 refine Tr.mv rfl rfl ?_
 refine Tr.va rfl (fun _ _ h1 h2 => run_len un_91 (h1.ev rfl)) ?_
 refine Tr.mv rfl rfl ?_
 refine Tr.nil (Tr.normThen ?_)
 refine Tr.block ?_
 refine Tr.loop (σ := (List ByteArray) × Nat) (fun m w s => m = s.1.length + 1 ∧ s.1 = List.drop s.2 p0 ∧ s.2 ≤ p0.length ∧ F_slices_IndexFunc_string_L1 p1 s.1 s.2 = some r) (fun s => [(0, (.slice Ap0_0 (p0).length cp0_0)), (1, (.func (.func fid1) #[] cap1.toArray)), (7, (iv (p0.length : Int))), (8, (iv (s.2 : Int)))]) (fun s => []) (p0.length + 1) (p0, 0) ⟨rfl, rfl, Nat.zero_le _, H⟩ (.cons rfl (.cons rfl (.cons rfl (.cons rfl .nil)))) .nil (fun _ _ h => absurd h.1 (by simp)) ?_
 intro w leL1 m s hs
 obtain ⟨restL1, iL1⟩ := s
 obtain ⟨hmL1, hdL1, hiL1, H⟩ := hs
 replace hdL1 : restL1 = List.drop iL1 p0 := hdL1
 replace H : F_slices_IndexFunc_string_L1 p1 restL1 iL1 = some r := H
 replace hmL1 : m + 1 = restL1.length + 1 := hmL1
 replace hp0_0 := hp0_0.leR leL1
 replace hf1 := fun w' he => hf1 w' (leL1.ext.trans he)
 replace leB := leB.trans leL1
 obtain rfl : m = restL1.length := by omega
 clear hmL1
 show Tr _ _ (LF [(0, (.slice Ap0_0 (p0).length cp0_0)), (1, (.func (.func fid1) #[] cap1.toArray)), (7, (iv (p0.length : Int))), (8, (iv (iL1 : Int)))]) (LE []) _
 cases restL1 with
 | nil =>
  rw [F_slices_IndexFunc_string_L1.eq_1] at H
  refine Tr.sr ?_
  refine Tr.va rfl (fun _ _ h1 h2 => run_lss (h1.ev rfl) (h1.ev rfl)) ?_
  refine Tr.nil (Tr.normThen ?_)
  refine Tr.seq ?_
  refine Tr.condF rfl (range_nil hdL1) ?_
  refine Tr.exit (Tr.exitThen (Tr.exitThen (Tr.exitBlock (Tr.normThen ?_))))
  refine Tr.sr ?_
  refine Tr.asg rfl rfl ?_
  refine Tr.nil (Tr.normThen ?_)
  refine Tr.ret ?_
  obtain rfl := Option.some.inj H
  exact Tr.out (m := [(iv (-1))]) [] (res_tmp rfl res_nil) (fun W hW => ⟨rfl, hW.low leB⟩)
 | cons xL1 restL1 =>
  rw [F_slices_IndexFunc_string_L1.eq_2] at H
  refine Tr.sr ?_
  refine Tr.va rfl (fun _ _ h1 h2 => run_lss (h1.ev rfl) (h1.ev rfl)) ?_
  refine Tr.nil (Tr.normThen ?_)
  refine Tr.seq ?_
  refine Tr.condT rfl (range_on hdL1) ?_
  refine Tr.skip (Tr.normThen ?_)
  refine Tr.seq ?_
  refine Tr.block ?_
  refine Tr.sr ?_
  refine Tr.mv rfl rfl ?_
  refine Tr.asg rfl rfl ?_
  refine Tr.nil (Tr.normThen ?_)
  refine Tr.sr ?_
  refine Tr.mv rfl rfl ?_
  refine Tr.mv rfl rfl ?_
  refine Tr.mv rfl rfl ?_
  refine Tr.va rfl (fun _ _ h1 h2 => run_indexAddr el_91 (h1.ev rfl) hp0_0.form (h1.ev rfl) (Int.natCast_nonneg _) (range_lt hdL1)) ?_
  refine Tr.va rfl (fun _ _ h1 h2 => run_load1 ag_9 (h1.ev rfl) (rdF ef_str hp0_0 (range_at hdL1) h2) rfl) ?_
  obtain ⟨y103, hy103, H⟩ := bnd H
  refine Tr.callF (r := (.bool y103)) (wn rfl) rfl rfl hg1 (evl_cons rfl evl_nil) (fun W hW => hf1 hW.all hW.extAll xL1 _ hy103) ?_
  refine Tr.nil (Tr.normThen ?_)
  refine Tr.cond rfl H (fun H => ?_) (fun H => ?_)
  ·refine Tr.sr ?_
   refine Tr.mv rfl rfl ?_
   refine Tr.asg rfl rfl ?_
   refine Tr.nil (Tr.normThen ?_)
   refine Tr.ret (Tr.retBlock (Tr.retThen (Tr.retThen (Tr.retBlock (Tr.retThen ?_)))))
   obtain rfl := Option.some.inj H
   exact Tr.out (m := [(iv (iL1 : Int))]) [] (res_tmp rfl res_nil) (fun W hW => ⟨rfl, hW.low leB⟩)
  ·refine Tr.skip (Tr.normBlock (Tr.normThen ?_))
   refine Tr.region ?_
   refine Tr.va rfl (fun _ _ h1 h2 => run_add (h1.ev rfl) (h1.ev rfl)) ?_
   refine Tr.mv rfl rfl ?_
   refine Tr.nil ?_
   exact Tr.backThen leL1 (restL1, (iL1 + 1)) ⟨rfl, range_tl hdL1, range_lt hdL1, H⟩ (.cons rfl (.cons rfl (.cons rfl (.cons (congrArg (fun z => some (Value.int .i64 z)) (range_up hdL1 hp0_0.form)) .nil)))) .nil

theorem F_slices_ContainsFunc_string_ok {w : Bs} (p0 : (List ByteArray)) (Ap0_0 : Option Addr) (cp0_0 : Nat) (hp0_0 : Sl w.R w.W fl_str Ap0_0 cp0_0 p0) (p1 : ByteArray → Option Bool) (fid1 : Nat) (cap1 : List Value) (hg1 : ∀ args W, (callFunc fid1 args).run Tryz.prog W = .ok (.enter fid1 args) W) (hf1 : ∀ (w' : Bs), w.Ext w' → ∀ (z0 : ByteArray), ∀ y, p1 z0 = some y → Calls Tryz.prog fid1 (([(sv z0)] : List Value) ++ cap1).toArray w'.W fun e W'' => e = .returned (.bool y) ∧ HF w' W'' E0) (r : Bool) (H : F_slices_ContainsFunc_string p0 p1 = some r) (hE : HF w w.W E0) : Calls Tryz.prog 42 [(.slice Ap0_0 (p0).length cp0_0), (.func (.func fid1) #[] cap1.toArray)].toArray w.W fun e W' => e = .returned (.bool r) ∧ HF w W' E0 := by
 unfold F_slices_ContainsFunc_string at H
 have leB := Bs.Le.refl w
 refine Tr.enter (n := 9) Tryz.func42 rfl rfl rfl hE ?_
 refine Tr.sr ?_
 refine Tr.asg rfl rfl ?_
 refine Tr.nil (Tr.normThen ?_)
 refine Tr.sr ?_
 refine Tr.mv rfl rfl ?_
 refine Tr.mv rfl rfl ?_
 obtain ⟨y100, hy100, H⟩ := bnd H
 refine Tr.call0 (r := (iv y100)) (wn rfl) rfl Tryz.call67 (evl_cons rfl (evl_cons rfl evl_nil)) (fun W hW => F_slices_IndexFunc_string_ok p0 Ap0_0 cp0_0 (hp0_0.ext hW.extAll) p1 fid1 cap1 hg1 (fun w' he => hf1 w' (hW.extAll.trans he)) y100 hy100 (HF.start _)) ?_
 refine Tr.va rfl (fun _ _ h1 h2 => run_geq (h1.ev rfl) (h1.ev rfl)) ?_
 refine Tr.asg rfl rfl ?_
 refine Tr.nil (Tr.normThen ?_)
 refine Tr.ret ?_
 obtain rfl := Option.some.inj H
 exact Tr.out (m := [(.bool (decide (0 ≤ y100)))]) [] (res_tmp rfl res_nil) (fun W hW => ⟨rfl, hW.low leB⟩)

theorem F_netlist_IsPath_1_ok (N : Nat) {w : Bs} (p0 : ByteArray) (r : Bool) (H : F_netlist_IsPath_1 N p0 = some r) (hE : HF w w.W E0) : Calls Tryz.prog 44 [(sv p0)].toArray w.W fun e W' => e = .returned (.bool r) ∧ HF w W' E0 := by
 unfold F_netlist_IsPath_1 at H
 have leB := Bs.Le.refl w
 refine Tr.enter (n := 6) Tryz.func44 rfl rfl rfl hE ?_
 refine Tr.sr ?_
 refine Tr.asg rfl rfl ?_
 refine Tr.nil (Tr.normThen ?_)
 refine Tr.sr ?_
 refine Tr.mv rfl rfl ?_
 obtain ⟨y100, hy100, H⟩ := bnd H
 refine Tr.call0 (r := (.bool y100)) (wn rfl) rfl Tryz.call39 (evl_cons rfl evl_nil) (fun W hW => F_netlist_IsWord_ok N p0 y100 hy100 (HF.start _)) ?_
 refine Tr.va rfl (fun _ _ h1 h2 => run_not (h1.ev rfl)) ?_
 refine Tr.asg rfl rfl ?_
 refine Tr.nil (Tr.normThen ?_)
 refine Tr.ret ?_
 obtain rfl := Option.some.inj H
 exact Tr.out (m := [(.bool (!y100))]) [] (res_tmp rfl res_nil) (fun W hW => ⟨rfl, hW.low leB⟩)

theorem F_netlist_IsPath_ok (N : Nat) {w : Bs} (hT : Tab Tryz.prog w) (p0 : ByteArray) (r : Bool) (H : F_netlist_IsPath N p0 = some r) (hE : HF w w.W E0) : Calls Tryz.prog 22 [(sv p0)].toArray w.W fun e W' => e = .returned (.bool r) ∧ HF w W' E0 := by
 unfold F_netlist_IsPath at H
 have leB := Bs.Le.refl w
 refine Tr.enter (n := 12) Tryz.func22 rfl rfl rfl hE ?_
 refine Tr.sr ?_
 refine Tr.asg rfl rfl ?_
 refine Tr.nil (Tr.normThen ?_)
 refine Tr.sr ?_
 refine Tr.mv rfl rfl ?_
 refine Tr.va rfl (fun _ _ h1 h2 => run_lenS un_9 (h1.ev rfl)) ?_
 refine Tr.va rfl (fun _ _ h1 h2 => run_leq (h1.ev rfl) (h1.ev rfl)) ?_
 refine Tr.mv rfl rfl ?_
 cases hg102 : (decide ((p0.size : Int) ≤ 200))
 ·rw [hg102, if_neg (by decide)] at H
  refine Tr.pass rfl rfl rfl rfl rfl (by decide) ?_
  refine Tr.pass rfl rfl rfl rfl rfl (by decide) ?_
  refine Tr.pass rfl rfl rfl rfl rfl (by decide) ?_
  refine Tr.pass rfl rfl rfl rfl rfl (by decide) ?_
  refine Tr.va rfl (fun _ _ h1 h2 => run_pickF (h1.ev rfl) (h1.ev rfl)) ?_
  refine Tr.asg rfl rfl ?_
  refine Tr.nil (Tr.normThen ?_)
  refine Tr.ret ?_
  obtain rfl := Option.some.inj H
  exact Tr.out (m := [(.bool false)]) [] (res_tmp rfl res_nil) (fun W hW => ⟨rfl, hW.low leB⟩)
 ·rw [hg102, if_pos rfl] at H
  refine Tr.val (wg rfl rfl rfl) rfl (fun _ _ h1 h2 => run_move (h1.ev rfl)) ?_
  obtain ⟨y104, hy104, H⟩ := bnd H
  refine Tr.callM [2] [emp] (U := (Option Addr × Nat)) (fun u => (.slice u.1 (y104).length u.2)) (fun u => SlF u.1 (y104).length u.2) (fun u => [ow u.1 u.2 9 fl_str y104]) rfl (pk_cons rfl pk_nil) (fun _ => rfl) (wg rfl rfl rfl) rfl Tryz.call43 (evl_cons rfl (evl_cons rfl evl_nil)) (fun W hW hp hE => F_strings_Split_ok (hT.ext (hW.extS hp)) p0 (⟨#[47]⟩) y104 hy104 hE) ?_
  intro u hu
  obtain ⟨Ay104_0, cy104_0⟩ := u
  have gy104_0 := hu
  have hgy104_0 : SlF Ay104_0 (y104).length cy104_0 := gy104_0 --@phi
  show Tr _ _ (uf _ 8 (.slice Ay104_0 (y104).length cy104_0)) (up _ 2 (ow Ay104_0 cy104_0 9 fl_str y104)) _
  obtain ⟨y106, hy106, H⟩ := bnd H
  refine Tr.call0 (r := (.bool y106)) (wg rfl rfl rfl) rfl Tryz.call42 (evl_cons rfl (evl_cons rfl evl_nil)) (fun W hW => F_slices_ContainsFunc_string_ok y104 Ay104_0 cy104_0 (hW.slCall (k := 2) rfl) (fun z0 => F_netlist_IsPath_1 N z0) 44 [] Tryz.call44 (fun w' he z0 y hy => F_netlist_IsPath_1_ok N z0 y hy (HF.start _)) y106 hy106 (HF.start _)) ?_
  refine Tr.val (wg rfl rfl rfl) rfl (fun _ _ h1 h2 => run_not (h1.ev rfl)) ?_
  refine Tr.va rfl (fun _ _ h1 h2 => run_pickT (h1.ev rfl) (h1.ev rfl)) ?_
  refine Tr.asg rfl rfl ?_
  refine Tr.nil (Tr.normThen ?_)
  refine Tr.ret ?_
  obtain rfl := Option.some.inj H
  exact Tr.out (m := [(.bool (!y106))]) [] (res_tmp rfl res_nil) (fun W hW => ⟨rfl, hW.low leB⟩)

theorem F_shape_IsPoint_ok {w : Bs} (p0 : TPoint) (r : Bool) (H : F_shape_IsPoint p0 = some r) (hE : HF w w.W E0) : Calls Tryz.prog 23 [(.agg #[(iv p0.X), (iv p0.Y)])].toArray w.W fun e W' => e = .returned (.bool r) ∧ HF w W' E0 := by
 unfold F_shape_IsPoint at H
 have leB := Bs.Le.refl w
 refine Tr.enter (n := 11) Tryz.func23 rfl rfl rfl hE ?_
 refine Tr.sr ?_
 refine Tr.box 1 (cs := [(iv p0.X), (iv p0.Y)]) (wn rfl) rfl rfl rfl fun b100 => ?_
 refine Tr.asg rfl rfl ?_
 refine Tr.nil (Tr.normThen ?_)
 refine Tr.sr ?_
 refine Tr.va rfl (fun _ _ h1 h2 => run_fieldAddr fo_34_0 (h1.ev rfl)) ?_
 refine Tr.va rfl (fun _ _ h1 h2 => run_load1 ag_3 (h1.ev rfl) (rdb h2 (vs := [(iv p0.X), (iv p0.Y)]) (k := 1) rfl 0) rfl) ?_
 obtain ⟨y101, hy101, H⟩ := bnd H
 refine Tr.call0 (r := (.bool y101)) (wn rfl) rfl Tryz.call45 (evl_cons rfl evl_nil) (fun W hW => F_shape_IsAt_ok p0.X y101 hy101 (HF.start _)) ?_
 refine Tr.mv rfl rfl ?_
 obtain ⟨g103, hg103, H⟩ := bnd H
 refine Tr.mid0 4 [(10, (.bool g103))] [(1, bx b100 #[(iv p0.X), (iv p0.Y)] 34)] ?_ ?_
 ·cases hg104 : y101
  ·rw [hg104] at hg103
   rw [if_neg (by decide)] at hg103
   have H := hg103
   obtain rfl := Option.some.inj H
   refine Tr.pass rfl rfl rfl rfl rfl (by decide) ?_
   refine Tr.pass rfl rfl rfl rfl rfl (by decide) ?_
   refine Tr.pass rfl rfl rfl rfl rfl (by decide) ?_
   refine Tr.va rfl (fun _ _ h1 h2 => run_pickF (h1.ev rfl) (h1.ev rfl)) ?_
   exact Tr.nil (Tr.fin0 (.cons rfl .nil) (.cons rfl .nil))
  ·rw [hg104] at hg103
   rw [if_pos rfl] at hg103
   have H := hg103
   refine Tr.val (wg rfl rfl rfl) rfl (fun _ _ h1 h2 => run_fieldAddr fo_34_1 (h1.ev rfl)) ?_
   refine Tr.val (wg rfl rfl rfl) rfl (fun _ _ h1 h2 => run_load1 ag_3 (h1.ev rfl) (rdb h2 (vs := [(iv p0.X), (iv p0.Y)]) (k := 1) rfl 1) rfl) ?_
   obtain ⟨y104, hy104, H⟩ := bnd H
   refine Tr.call0 (r := (.bool y104)) (wg rfl rfl rfl) rfl Tryz.call45 (evl_cons rfl evl_nil) (fun W hW => F_shape_IsAt_ok p0.Y y104 hy104 (HF.start _)) ?_
   refine Tr.va rfl (fun _ _ h1 h2 => run_pickT (h1.ev rfl) (h1.ev rfl)) ?_
   obtain rfl := Option.some.inj H
   exact Tr.nil (Tr.fin0 (.cons rfl .nil) (.cons rfl .nil))
 ·show Tr _ _ (LF [(10, (.bool g103))]) (LE [(1, bx b100 #[(iv p0.X), (iv p0.Y)] 34)]) _
  refine Tr.asg rfl rfl ?_
  refine Tr.nil (Tr.normThen ?_)
  refine Tr.ret ?_
  obtain rfl := Option.some.inj H
  exact Tr.out (m := [(.bool g103)]) [] (res_tmp rfl res_nil) (fun W hW => ⟨rfl, hW.low leB⟩)

theorem F_mount_CheckPlaces_ok (N : Nat) {w : Bs} (hT : Tab Tryz.prog w) (p0 : (List TBody)) (Ap0_0 : Option Addr) (cp0_0 : Nat) (hp0_0 : Sl w.R w.W fl_TBody Ap0_0 cp0_0 p0) (p1 : (List TPlace)) (Ap1_0 : Option Addr) (cp1_0 : Nat) (hp1_0 : Sl w.R w.W fl_TPlace Ap1_0 cp1_0 p1) (r : Int) (H : F_mount_CheckPlaces N p0 p1 = some r) (hE : HF w w.W E0) : Calls Tryz.prog 11 [(.slice Ap0_0 (p0).length cp0_0), (.slice Ap1_0 (p1).length cp1_0)].toArray w.W fun e W' => e = .returned (iv r) ∧ HF w W' E0 := by
 unfold F_mount_CheckPlaces at H
 have leB := Bs.Le.refl w
 refine Tr.enter (n := 66) Tryz.func11 rfl rfl rfl hE ?_
 refine Tr.sr ?_
 refine Tr.asg rfl rfl ?_
 refine Tr.nil (Tr.normThen ?_)
 refine Tr.seq ?_
 refine Tr.sr ?_
 refine Tr.mv rfl rfl ?_
 obtain ⟨y100, hy100, H⟩ := bnd H
 refine Tr.call0 (r := (iv y100)) (wn rfl) rfl Tryz.call20 (evl_cons rfl evl_nil) (fun W hW => F_mount_CheckBodies_ok N p0 Ap0_0 cp0_0 (hp0_0.ext hW.extAll) y100 hy100 (HF.start _)) ?_
 refine Tr.asg rfl rfl ?_
 refine Tr.nil (Tr.normThen ?_)
 refine Tr.sr ?_
 refine Tr.mv rfl rfl ?_
 refine Tr.va rfl (fun _ _ h1 h2 => run_neq (h1.ev rfl) (h1.ev rfl)) ?_
 refine Tr.nil (Tr.normThen ?_)
 refine Tr.cond rfl H (fun H => ?_) (fun H => ?_)
 ·refine Tr.sr ?_
  refine Tr.mv rfl rfl ?_
  refine Tr.asg rfl rfl ?_
  refine Tr.nil (Tr.normThen ?_)
  refine Tr.ret (Tr.retThen ?_)
  obtain rfl := Option.some.inj H
  exact Tr.out (m := [(iv y100)]) [] (res_tmp rfl res_nil) (fun W hW => ⟨rfl, hW.low leB⟩)
 ·refine Tr.skip (Tr.normThen ?_)
  refine Tr.seq ?_
  refine Tr.sr ?_
  refine Tr.mv rfl rfl ?_
  refine Tr.va rfl (fun _ _ h1 h2 => run_len un_28 (h1.ev rfl)) ?_
  refine Tr.va rfl (fun _ _ h1 h2 => run_gtr (h1.ev rfl) (h1.ev rfl)) ?_
  refine Tr.nil (Tr.normThen ?_)
  refine Tr.cond rfl H (fun H => ?_) (fun H => ?_)
  ·refine Tr.sr ?_
   refine Tr.asg rfl rfl ?_
   refine Tr.nil (Tr.normThen ?_)
   refine Tr.ret (Tr.retThen ?_)
   obtain rfl := Option.some.inj H
   exact Tr.out (m := [(iv 2)]) [] (res_tmp rfl res_nil) (fun W hW => ⟨rfl, hW.low leB⟩)
  ·refine Tr.skip (Tr.normThen ?_)
   refine Tr.seq ?_
   refine Tr.sr ?_
   refine Tr.mv rfl rfl ?_
   refine Tr.va rfl (fun _ _ h1 h2 => run_len un_28 (h1.ev rfl)) ?_
   refine Tr.mv rfl rfl ?_
   refine Tr.nil (Tr.normThen ?_)
   refine Tr.block ?_
   refine Tr.loop (σ := (List TPlace) × Nat) (fun m w s => m = s.1.length + 1 ∧ s.1 = List.drop s.2 p1 ∧ s.2 ≤ p1.length ∧ F_mount_CheckPlaces_L1 N p0 p1 s.1 s.2 = some r) (fun s => [(0, (.slice Ap0_0 (p0).length cp0_0)), (1, (.slice Ap1_0 (p1).length cp1_0)), (18, (.slice Ap1_0 (p1).length cp1_0)), (19, (iv (p1.length : Int))), (20, (iv (s.2 : Int)))]) (fun s => []) (p1.length + 1) (p1, 0) ⟨rfl, rfl, Nat.zero_le _, H⟩ (.cons rfl (.cons rfl (.cons rfl (.cons rfl (.cons rfl .nil))))) .nil (fun _ _ h => absurd h.1 (by simp)) ?_
   intro w leL1 m s hs
   obtain ⟨restL1, iL1⟩ := s
   obtain ⟨hmL1, hdL1, hiL1, H⟩ := hs
   replace hdL1 : restL1 = List.drop iL1 p1 := hdL1
   replace H : F_mount_CheckPlaces_L1 N p0 p1 restL1 iL1 = some r := H
   replace hmL1 : m + 1 = restL1.length + 1 := hmL1
   replace hT := hT.ext leL1.ext
   replace hp0_0 := hp0_0.leR leL1
   replace hp1_0 := hp1_0.leR leL1
   replace leB := leB.trans leL1
   obtain rfl : m = restL1.length := by omega
   clear hmL1
   show Tr _ _ (LF [(0, (.slice Ap0_0 (p0).length cp0_0)), (1, (.slice Ap1_0 (p1).length cp1_0)), (18, (.slice Ap1_0 (p1).length cp1_0)), (19, (iv (p1.length : Int))), (20, (iv (iL1 : Int)))]) (LE []) _
   cases restL1 with
   | nil =>
    rw [F_mount_CheckPlaces_L1.eq_1] at H
    refine Tr.sr ?_
    refine Tr.va rfl (fun _ _ h1 h2 => run_lss (h1.ev rfl) (h1.ev rfl)) ?_
    refine Tr.nil (Tr.normThen ?_)
    refine Tr.seq ?_
    refine Tr.condF rfl (range_nil hdL1) ?_
    refine Tr.exit (Tr.exitThen (Tr.exitThen (Tr.exitBlock (Tr.normThen ?_))))
    refine Tr.sr ?_
    refine Tr.asg rfl rfl ?_
    refine Tr.nil (Tr.normThen ?_)
    refine Tr.ret ?_
    obtain rfl := Option.some.inj H
    exact Tr.out (m := [(iv 0)]) [] (res_tmp rfl res_nil) (fun W hW => ⟨rfl, hW.low leB⟩)
   | cons xL1 restL1 =>
    rw [F_mount_CheckPlaces_L1.eq_2] at H
    refine Tr.sr ?_
    refine Tr.va rfl (fun _ _ h1 h2 => run_lss (h1.ev rfl) (h1.ev rfl)) ?_
    refine Tr.nil (Tr.normThen ?_)
    refine Tr.seq ?_
    refine Tr.condT rfl (range_on hdL1) ?_
    refine Tr.skip (Tr.normThen ?_)
    refine Tr.seq ?_
    refine Tr.block ?_
    refine Tr.sr ?_
    refine Tr.mv rfl rfl ?_
    refine Tr.va rfl (fun _ _ h1 h2 => run_indexAddr el_28 (h1.ev rfl) hp1_0.form (h1.ev rfl) (Int.natCast_nonneg _) (range_lt hdL1)) ?_
    refine Tr.va rfl (fun _ _ h1 h2 => run_loadN (cs := [(sv xL1.Part), (sv xL1.Type_), (iv xL1.At.X), (iv xL1.At.Y), (iv xL1.Quarters), (.bool xL1.Below)]) ag_66 sz_66 (h1.ev rfl) (CellsAt.take (rdF ef_TPlace hp1_0 (range_at hdL1) h2) 6) rfl) ?_
    refine Tr.alloc 3 (wn rfl) rfl ze_66 fun b114 => ?_
    refine Tr.asg rfl rfl ?_
    refine Tr.store 3 (cs := [(sv xL1.Part), (sv xL1.Type_), (iv xL1.At.X), (iv xL1.At.Y), (iv xL1.Quarters), (.bool xL1.Below)]) [(sv xL1.Part), (sv xL1.Type_), (iv xL1.At.X), (iv xL1.At.Y), (iv xL1.Quarters), (.bool xL1.Below)] (wn rfl) rfl rfl rfl rfl sz_66 rfl rfl rfl ?_
    refine Tr.nil (Tr.normThen ?_)
    refine Tr.sr ?_
    refine Tr.mv rfl rfl ?_
    refine Tr.va rfl (fun _ _ h1 h2 => run_fieldAddr fo_66_1 (h1.ev rfl)) ?_
    refine Tr.va rfl (fun _ _ h1 h2 => run_load1 ag_9 (h1.ev rfl) (rdb h2 (vs := [(sv xL1.Part), (sv xL1.Type_), (iv xL1.At.X), (iv xL1.At.Y), (iv xL1.Quarters), (.bool xL1.Below)]) (k := 3) rfl 1) rfl) ?_
    obtain ⟨y115, hy115, H⟩ := bnd H
    refine Tr.call0 (r := (.tuple #[(.agg #[(sv y115.1.Type_), (iv y115.1.W), (iv y115.1.H), (iv y115.1.Tall), (sv y115.1.Nozzle)]), (.bool y115.2)])) (wn rfl) rfl Tryz.call21 (evl_cons rfl (evl_cons rfl evl_nil)) (fun W hW => F_mount_bodyOf_ok N p0 Ap0_0 cp0_0 (hp0_0.ext hW.extAll) xL1.Type_ y115 hy115 (HF.start _)) ?_
    refine Tr.mv rfl rfl ?_
    refine Tr.va rfl (fun _ _ h1 h2 => run_extract (h1.ev rfl) rfl) ?_
    refine Tr.va rfl (fun _ _ h1 h2 => run_extract (h1.ev rfl) rfl) ?_
    refine Tr.alloc 4 (wn rfl) rfl ze_68 fun b116 => ?_
    refine Tr.store 4 (cs := [(sv y115.1.Type_), (iv y115.1.W), (iv y115.1.H), (iv y115.1.Tall), (sv y115.1.Nozzle)]) [(sv y115.1.Type_), (iv y115.1.W), (iv y115.1.H), (iv y115.1.Tall), (sv y115.1.Nozzle)] (wn rfl) rfl rfl rfl rfl sz_68 rfl rfl rfl ?_
    refine Tr.asg rfl rfl ?_
    refine Tr.nil (Tr.normThen ?_)
    refine Tr.block ?_
    refine Tr.sr ?_
    refine Tr.va rfl (fun _ _ h1 h2 => run_fieldAddr fo_66_0 (h1.ev rfl)) ?_
    refine Tr.va rfl (fun _ _ h1 h2 => run_load1 ag_9 (h1.ev rfl) (rdb h2 (vs := [(sv xL1.Part), (sv xL1.Type_), (iv xL1.At.X), (iv xL1.At.Y), (iv xL1.Quarters), (.bool xL1.Below)]) (k := 3) rfl 0) rfl) ?_
    obtain ⟨y117, hy117, H⟩ := bnd H
    refine Tr.call0 (r := (.bool y117)) (wn rfl) rfl Tryz.call22 (evl_cons rfl evl_nil) (fun W hW => F_netlist_IsPath_ok N (hT.ext hW.extAll) xL1.Part y117 hy117 (HF.start _)) ?_
    refine Tr.va rfl (fun _ _ h1 h2 => run_not (h1.ev rfl)) ?_
    refine Tr.asg rfl rfl ?_
    refine Tr.nil (Tr.normThen ?_)
    refine Tr.cond rfl H (fun H => ?_) (fun H => ?_)
    ·refine Tr.sr ?_
     refine Tr.asg rfl rfl ?_
     refine Tr.nil (Tr.normThen ?_)
     refine Tr.ret (Tr.retBlock (Tr.retBlock (Tr.retThen (Tr.retThen (Tr.retBlock (Tr.retThen ?_))))))
     obtain rfl := Option.some.inj H
     exact Tr.out (m := [(iv 5)]) [] (res_tmp rfl res_nil) (fun W hW => ⟨rfl, hW.low leB⟩)
    ·refine Tr.sr ?_
     refine Tr.mv rfl rfl ?_
     refine Tr.va rfl (fun _ _ h1 h2 => run_not (h1.ev rfl)) ?_
     refine Tr.asg rfl rfl ?_
     refine Tr.nil (Tr.normThen ?_)
     refine Tr.cond rfl H (fun H => ?_) (fun H => ?_)
     ·refine Tr.sr ?_
      refine Tr.asg rfl rfl ?_
      refine Tr.nil (Tr.normThen ?_)
      refine Tr.ret (Tr.retBlock (Tr.retBlock (Tr.retThen (Tr.retThen (Tr.retBlock (Tr.retThen ?_))))))
      obtain rfl := Option.some.inj H
      exact Tr.out (m := [(iv 9)]) [] (res_tmp rfl res_nil) (fun W hW => ⟨rfl, hW.low leB⟩)
     ·refine Tr.sr ?_
      refine Tr.va rfl (fun _ _ h1 h2 => run_fieldAddr fo_66_2 (h1.ev rfl)) ?_
      refine Tr.va rfl (fun _ _ h1 h2 => run_loadN (cs := [(iv xL1.At.X), (iv xL1.At.Y)]) ag_34 sz_34 (h1.ev rfl) (CellsAt.take (rdb h2 (vs := [(sv xL1.Part), (sv xL1.Type_), (iv xL1.At.X), (iv xL1.At.Y), (iv xL1.Quarters), (.bool xL1.Below)]) (k := 3) rfl 2) 2) rfl) ?_
      obtain ⟨y118, hy118, H⟩ := bnd H
      refine Tr.call0 (r := (.bool y118)) (wn rfl) rfl Tryz.call23 (evl_cons rfl evl_nil) (fun W hW => F_shape_IsPoint_ok xL1.At y118 hy118 (HF.start _)) ?_
      refine Tr.va rfl (fun _ _ h1 h2 => run_not (h1.ev rfl)) ?_
      refine Tr.mv rfl rfl ?_
      obtain ⟨g120, hg120, H⟩ := bnd H
      refine Tr.mid0 5 [(0, (.slice Ap0_0 (p0).length cp0_0)), (1, (.slice Ap1_0 (p1).length cp1_0)), (6, (iv (iL1 : Int))), (7, (.pointer (some ⟨b114, 0, none⟩))), (18, (.slice Ap1_0 (p1).length cp1_0)), (19, (iv (p1.length : Int))), (20, (iv (iL1 : Int))), (50, (.bool g120))] [(3, bx b114 #[(sv xL1.Part), (sv xL1.Type_), (iv xL1.At.X), (iv xL1.At.Y), (iv xL1.Quarters), (.bool xL1.Below)] 66), (4, bx b116 #[(sv y115.1.Type_), (iv y115.1.W), (iv y115.1.H), (iv y115.1.Tall), (sv y115.1.Nozzle)] 68)] ?_ ?_
      ·cases hg124 : (!y118)
       ·rw [hg124] at hg120
        rw [if_neg (by decide)] at hg120
        have H := hg120
        refine Tr.val (wg rfl rfl rfl) rfl (fun _ _ h1 h2 => run_fieldAddr fo_66_3 (h1.ev rfl)) ?_
        refine Tr.val (wg rfl rfl rfl) rfl (fun _ _ h1 h2 => run_load1 ag_3 (h1.ev rfl) (rdb h2 (vs := [(sv xL1.Part), (sv xL1.Type_), (iv xL1.At.X), (iv xL1.At.Y), (iv xL1.Quarters), (.bool xL1.Below)]) (k := 3) rfl 4) rfl) ?_
        obtain ⟨y121, hy121, H⟩ := bnd H
        refine Tr.call0 (r := (.bool y121)) (wg rfl rfl rfl) rfl Tryz.call24 (evl_cons rfl (evl_cons rfl (evl_cons rfl evl_nil))) (fun W hW => F_mount_within_ok xL1.Quarters 0 3 y121 hy121 (HF.start _)) ?_
        refine Tr.val (wg rfl rfl rfl) rfl (fun _ _ h1 h2 => run_not (h1.ev rfl)) ?_
        refine Tr.va rfl (fun _ _ h1 h2 => run_pickF (h1.ev rfl) (h1.ev rfl)) ?_
        obtain rfl := Option.some.inj H
        exact Tr.nil (Tr.fin0 (.cons rfl (.cons rfl (.cons rfl (.cons rfl (.cons rfl (.cons rfl (.cons rfl (.cons rfl .nil)))))))) (.cons rfl (.cons rfl .nil)))
       ·rw [hg124] at hg120
        rw [if_pos rfl] at hg120
        have H := hg120
        obtain rfl := Option.some.inj H
        refine Tr.pass rfl rfl rfl rfl rfl (by decide) ?_
        refine Tr.pass rfl rfl rfl rfl rfl (by decide) ?_
        refine Tr.pass rfl rfl rfl rfl rfl (by decide) ?_
        refine Tr.pass rfl rfl rfl rfl rfl (by decide) ?_
        refine Tr.va rfl (fun _ _ h1 h2 => run_pickT (h1.ev rfl) (h1.ev rfl)) ?_
        exact Tr.nil (Tr.fin0 (.cons rfl (.cons rfl (.cons rfl (.cons rfl (.cons rfl (.cons rfl (.cons rfl (.cons rfl .nil)))))))) (.cons rfl (.cons rfl .nil)))
      ·show Tr _ _ (LF [(0, (.slice Ap0_0 (p0).length cp0_0)), (1, (.slice Ap1_0 (p1).length cp1_0)), (6, (iv (iL1 : Int))), (7, (.pointer (some ⟨b114, 0, none⟩))), (18, (.slice Ap1_0 (p1).length cp1_0)), (19, (iv (p1.length : Int))), (20, (iv (iL1 : Int))), (50, (.bool g120))]) (LE [(3, bx b114 #[(sv xL1.Part), (sv xL1.Type_), (iv xL1.At.X), (iv xL1.At.Y), (iv xL1.Quarters), (.bool xL1.Below)] 66), (4, bx b116 #[(sv y115.1.Type_), (iv y115.1.W), (iv y115.1.H), (iv y115.1.Tall), (sv y115.1.Nozzle)] 68)]) _
       refine Tr.asg rfl rfl ?_
       refine Tr.nil (Tr.normThen ?_)
       refine Tr.cond rfl H (fun H => ?_) (fun H => ?_)
       ·refine Tr.sr ?_
        refine Tr.asg rfl rfl ?_
        refine Tr.nil (Tr.normThen ?_)
        refine Tr.ret (Tr.retBlock (Tr.retBlock (Tr.retThen (Tr.retThen (Tr.retBlock (Tr.retThen ?_))))))
        obtain rfl := Option.some.inj H
        exact Tr.out (m := [(iv 1)]) [] (res_tmp rfl res_nil) (fun W hW => ⟨rfl, hW.low leB⟩)
       ·refine Tr.seq ?_
        refine Tr.draw (by kernel_rfl) (by kernel_rfl) ?_
        refine Tq.mv rfl rfl ?_
        refine Tq.va rfl (fun _ _ h1 h2 => run_gtr (h1.ev rfl) (h1.ev rfl)) ?_
        refine Tq.mv rfl rfl ?_
        obtain ⟨g123, hg123, H⟩ := bnd H
        refine Tq.mid 10 [(0, (.slice Ap0_0 (p0).length cp0_0)), (1, (.slice Ap1_0 (p1).length cp1_0)), (18, (.slice Ap1_0 (p1).length cp1_0)), (19, (iv (p1.length : Int))), (20, (iv (iL1 : Int))), (64, (.bool g123))] ?_ ?_
        ·cases hg124 : (decide (0 < (iL1 : Int)))
         ·rw [hg124] at hg123
          rw [if_neg (by decide)] at hg123
          have H := hg123
          obtain rfl := Option.some.inj H
          refine Tq.pass rfl rfl rfl rfl rfl (by decide) ?_
          refine Tq.pass rfl rfl rfl rfl rfl (by decide) ?_
          refine Tq.pass rfl rfl rfl rfl rfl (by decide) ?_
          refine Tq.pass rfl rfl rfl rfl rfl (by decide) ?_
          refine Tq.pass rfl rfl rfl rfl rfl (by decide) ?_
          refine Tq.pass rfl rfl rfl rfl rfl (by decide) ?_
          refine Tq.pass rfl rfl rfl rfl rfl (by decide) ?_
          refine Tq.pass rfl rfl rfl rfl rfl (by decide) ?_
          refine Tq.pass rfl rfl rfl rfl rfl (by decide) ?_
          refine Tq.va rfl (fun _ _ h1 h2 => run_pickF (h1.ev rfl) (h1.ev rfl)) ?_
          exact Tq.fin (.cons rfl (.cons rfl (.cons rfl (.cons rfl (.cons rfl (.cons rfl .nil))))))
         ·rw [hg124] at hg123
          rw [if_pos rfl] at hg123
          have H := hg123
          refine Tq.val (wg rfl rfl rfl) rfl (fun _ _ h1 h2 => run_fieldAddr fo_66_0 (h1.ev rfl)) ?_
          refine Tq.val (wg rfl rfl rfl) rfl (fun _ _ h1 h2 => run_load1 ag_9 (h1.ev rfl) (rdb h2 (vs := [(sv xL1.Part), (sv xL1.Type_), (iv xL1.At.X), (iv xL1.At.Y), (iv xL1.Quarters), (.bool xL1.Below)]) (k := 3) rfl 0) rfl) ?_
          refine Tq.val (wg rfl rfl rfl) rfl (fun _ _ h1 h2 => run_move (h1.ev rfl)) ?_
          refine Tq.val (wg rfl rfl rfl) rfl (fun _ _ h1 h2 => run_move (h1.ev rfl)) ?_
          refine Tq.val (wg rfl rfl rfl) rfl (fun _ _ h1 h2 => run_sub (h1.ev rfl) (h1.ev rfl)) ?_
          obtain ⟨x124, hx124, H⟩ := bnd H
          obtain ⟨hx1240, hx1241, hx1242⟩ := idx_some hx124
          refine Tq.val (wg rfl rfl rfl) rfl (fun _ _ h1 h2 => run_indexAddr el_28 (h1.ev rfl) hp1_0.form (h1.ev rfl) hx1240 hx1241) ?_
          refine Tq.val (wg rfl rfl rfl) rfl (fun _ _ h1 h2 => run_fieldAddr fo_66_0 (h1.ev rfl)) ?_
          refine Tq.val (wg rfl rfl rfl) rfl (fun _ _ h1 h2 => run_load1 ag_9 (h1.ev rfl) (CellsAt.drop (rdF ef_TPlace hp1_0 hx1242 h2) 0) rfl) ?_
          refine Tq.val (wg rfl rfl rfl) rfl (fun _ _ h1 h2 => run_leqS (h1.ev rfl) (h1.ev rfl)) ?_
          refine Tq.va rfl (fun _ _ h1 h2 => run_pickT (h1.ev rfl) (h1.ev rfl)) ?_
          obtain rfl := Option.some.inj H
          exact Tq.fin (.cons rfl (.cons rfl (.cons rfl (.cons rfl (.cons rfl (.cons rfl .nil))))))
        ·refine Tq.asg rfl rfl ?_
         refine Tq.nil (Tr.normThen ?_)
         refine Tr.cond rfl H (fun H => ?_) (fun H => ?_)
         ·refine Tr.sr ?_
          refine Tr.asg rfl rfl ?_
          refine Tr.nil (Tr.normThen ?_)
          refine Tr.ret (Tr.retBlock (Tr.retBlock (Tr.retThen (Tr.retThen (Tr.retBlock (Tr.retThen ?_))))))
          obtain rfl := Option.some.inj H
          exact Tr.out (m := [(iv 8)]) [] (res_tmp rfl res_nil) (fun W hW => ⟨rfl, hW.low leB⟩)
         ·refine Tr.skip (Tr.normBlock (Tr.normBlock (Tr.normThen ?_)))
          refine Tr.region ?_
          refine Tr.va rfl (fun _ _ h1 h2 => run_add (h1.ev rfl) (h1.ev rfl)) ?_
          refine Tr.mv rfl rfl ?_
          refine Tr.nil ?_
          exact Tr.backThen leL1 (restL1, (iL1 + 1)) ⟨rfl, range_tl hdL1, range_lt hdL1, H⟩ (.cons rfl (.cons rfl (.cons rfl (.cons rfl (.cons (congrArg (fun z => some (Value.int .i64 z)) (range_up hdL1 hp1_0.form)) .nil))))) .nil

theorem F_mount_isBoards_ok {w : Bs} (p0 : Int) (r : Bool) (H : F_mount_isBoards p0 = some r) (hE : HF w w.W E0) : Calls Tryz.prog 12 [(iv p0)].toArray w.W fun e W' => e = .returned (.bool r) ∧ HF w W' E0 := by
 unfold F_mount_isBoards at H
 have leB := Bs.Le.refl w
 refine Tr.enter (n := 5) Tryz.func12 rfl rfl rfl hE ?_
 refine Tr.sr ?_
 refine Tr.asg rfl rfl ?_
 refine Tr.nil (Tr.normThen ?_)
 refine Tr.sr ?_
 refine Tr.mv rfl rfl ?_
 obtain ⟨y100, hy100, H⟩ := bnd H
 refine Tr.call0 (r := (.bool y100)) (wn rfl) rfl Tryz.call24 (evl_cons rfl (evl_cons rfl (evl_cons rfl evl_nil))) (fun W hW => F_mount_within_ok p0 0 1000 y100 hy100 (HF.start _)) ?_
 refine Tr.asg rfl rfl ?_
 refine Tr.nil (Tr.normThen ?_)
 refine Tr.ret ?_
 obtain rfl := Option.some.inj H
 exact Tr.out (m := [(.bool y100)]) [] (res_tmp rfl res_nil) (fun W hW => ⟨rfl, hW.low leB⟩)

theorem F_mount_needed_ok {w : Bs} (p0 : (List TPlace)) (Ap0_0 : Option Addr) (cp0_0 : Nat) (hp0_0 : Sl w.R w.W fl_TPlace Ap0_0 cp0_0 p0) (p1 : Int) (r : (List (ByteArray × Int))) (H : F_mount_needed p0 p1 = some r) (hE : HF w w.W (LEn [emp])) : Calls Tryz.prog 14 [(.slice Ap0_0 (p0).length cp0_0), (iv p1)].toArray w.W fun e W' => ∃ u : (Option Addr × Nat), e = .returned (.map (some u.2)) ∧ (True) ∧ HF w W' (LEn [mk_ encS okS u.2 r]) := by
 unfold F_mount_needed at H
 have leB := Bs.Le.refl w
 refine Tr.enter (n := 23) Tryz.func14 rfl rfl rfl hE ?_
 refine Tr.sr ?_
 refine Tr.asg rfl rfl ?_
 refine Tr.nil (Tr.normThen ?_)
 refine Tr.sr ?_
 refine Tr.makeMapK encS okS 1 (wn rfl) rfl fun b100 => ?_
 refine Tr.asg rfl rfl ?_
 refine Tr.nil (Tr.normThen ?_)
 refine Tr.seq ?_
 refine Tr.sr ?_
 refine Tr.mv rfl rfl ?_
 refine Tr.va rfl (fun _ _ h1 h2 => run_len un_28 (h1.ev rfl)) ?_
 refine Tr.mv rfl rfl ?_
 refine Tr.nil (Tr.normThen ?_)
 refine Tr.block ?_
 refine Tr.loop (σ := (List TPlace) × Nat × (List (ByteArray × Int))) (fun m w s => m = s.1.length + 1 ∧ s.1 = List.drop s.2.1 p0 ∧ s.2.1 ≤ p0.length ∧ F_mount_needed_L1 p1 s.1 s.2.1 s.2.2 = some r) (fun s => [(1, (iv p1)), (5, (.map (some b100))), (9, (.slice Ap0_0 (p0).length cp0_0)), (10, (iv (p0.length : Int))), (11, (iv (s.2.1 : Int)))]) (fun s => [(1, mk_ encS okS b100 s.2.2)]) (p0.length + 1) (p0, 0, ([] : List (ByteArray × Int))) ⟨rfl, rfl, Nat.zero_le _, H⟩ (.cons rfl (.cons rfl (.cons rfl (.cons rfl (.cons rfl .nil))))) (.cons rfl .nil) (fun _ _ h => absurd h.1 (by simp)) ?_
 intro w leL1 m s hs
 obtain ⟨restL1, iL1, m115⟩ := s
 obtain ⟨hmL1, hdL1, hiL1, H⟩ := hs
 replace hdL1 : restL1 = List.drop iL1 p0 := hdL1
 replace H : F_mount_needed_L1 p1 restL1 iL1 m115 = some r := H
 replace hmL1 : m + 1 = restL1.length + 1 := hmL1
 replace hp0_0 := hp0_0.leR leL1
 replace leB := leB.trans leL1
 obtain rfl : m = restL1.length := by omega
 clear hmL1
 show Tr _ _ (LF [(1, (iv p1)), (5, (.map (some b100))), (9, (.slice Ap0_0 (p0).length cp0_0)), (10, (iv (p0.length : Int))), (11, (iv (iL1 : Int)))]) (LE [(1, mk_ encS okS b100 m115)]) _
 cases restL1 with
 | nil =>
  rw [F_mount_needed_L1.eq_1] at H
  refine Tr.sr ?_
  refine Tr.va rfl (fun _ _ h1 h2 => run_lss (h1.ev rfl) (h1.ev rfl)) ?_
  refine Tr.nil (Tr.normThen ?_)
  refine Tr.seq ?_
  refine Tr.condF rfl (range_nil hdL1) ?_
  refine Tr.exit (Tr.exitThen (Tr.exitThen (Tr.exitBlock (Tr.normThen ?_))))
  refine Tr.sr ?_
  refine Tr.mv rfl rfl ?_
  refine Tr.asg rfl rfl ?_
  refine Tr.nil (Tr.normThen ?_)
  refine Tr.ret ?_
  obtain rfl := Option.some.inj H
  exact Tr.out (m := [(.map (some b100))]) [] (res_tmp rfl res_nil) (fun W hW => ⟨(none, b100), rfl, trivial, HF.lowE leB (hW.pick (ks := [1]) (by decide) (pk_cons rfl pk_nil)) ⟨mk_any, trivial⟩⟩)
 | cons xL1 restL1 =>
  rw [F_mount_needed_L1.eq_2] at H
  refine Tr.sr ?_
  refine Tr.va rfl (fun _ _ h1 h2 => run_lss (h1.ev rfl) (h1.ev rfl)) ?_
  refine Tr.nil (Tr.normThen ?_)
  refine Tr.seq ?_
  refine Tr.condT rfl (range_on hdL1) ?_
  refine Tr.skip (Tr.normThen ?_)
  refine Tr.seq ?_
  refine Tr.block ?_
  refine Tr.sr ?_
  refine Tr.va rfl (fun _ _ h1 h2 => run_indexAddr el_28 (h1.ev rfl) hp0_0.form (h1.ev rfl) (Int.natCast_nonneg _) (range_lt hdL1)) ?_
  refine Tr.va rfl (fun _ _ h1 h2 => run_loadN (cs := [(sv xL1.Part), (sv xL1.Type_), (iv xL1.At.X), (iv xL1.At.Y), (iv xL1.Quarters), (.bool xL1.Below)]) ag_66 sz_66 (h1.ev rfl) (CellsAt.take (rdF ef_TPlace hp0_0 (range_at hdL1) h2) 6) rfl) ?_
  refine Tr.alloc 4 (wn rfl) rfl ze_66 fun b116 => ?_
  refine Tr.store 4 (cs := [(sv xL1.Part), (sv xL1.Type_), (iv xL1.At.X), (iv xL1.At.Y), (iv xL1.Quarters), (.bool xL1.Below)]) [(sv xL1.Part), (sv xL1.Type_), (iv xL1.At.X), (iv xL1.At.Y), (iv xL1.Quarters), (.bool xL1.Below)] (wn rfl) rfl rfl rfl rfl sz_66 rfl rfl rfl ?_
  refine Tr.nil (Tr.normThen ?_)
  refine Tr.region ?_
  refine Tr.mv rfl rfl ?_
  refine Tr.va rfl (fun _ _ h1 h2 => run_fieldAddr fo_66_1 (h1.ev rfl)) ?_
  refine Tr.va rfl (fun _ _ h1 h2 => run_load1 ag_9 (h1.ev rfl) (rdb h2 (vs := [(sv xL1.Part), (sv xL1.Type_), (iv xL1.At.X), (iv xL1.At.Y), (iv xL1.Quarters), (.bool xL1.Below)]) (k := 4) rfl 1) rfl) ?_
  obtain ⟨g117, hg117, H⟩ := bnd H
  refine Tr.va rfl (fun _ _ h1 h2 => run_lookupK un_54 (keyS un_9) zi_3 (h1.ev rfl) (h1.ev rfl) h2 (k0 := 1) rfl hg117) ?_
  refine Tr.mv rfl rfl ?_
  refine Tr.va rfl (fun _ _ h1 h2 => run_add (h1.ev rfl) (h1.ev rfl)) ?_
  obtain ⟨m118, hm118, H⟩ := bnd H
  refine Tr.mapPutK 1 (wn rfl) un_54 (keyS un_9) rfl rfl rfl rfl hm118 ?_
  refine Tr.nil (Tr.normBlock (Tr.normThen ?_))
  refine Tr.region ?_
  refine Tr.va rfl (fun _ _ h1 h2 => run_add (h1.ev rfl) (h1.ev rfl)) ?_
  refine Tr.mv rfl rfl ?_
  refine Tr.nil ?_
  exact Tr.backThen leL1 (restL1, (iL1 + 1), m118) ⟨rfl, range_tl hdL1, range_lt hdL1, H⟩ (.cons rfl (.cons rfl (.cons rfl (.cons rfl (.cons (congrArg (fun z => some (Value.int .i64 z)) (range_up hdL1 hp0_0.form)) .nil))))) (.cons rfl .nil)

theorem F_slices_SortFunc_TCount_ok {w : Bs} (p0 : List TCount) (Ap0_0 : Option Addr) (cp0_0 : Nat) (p1 : TCount → TCount → Option Int) (fid1 : Nat) (cap1 : List Value) (hg1 : ∀ args W, (callFunc fid1 args).run Tryz.prog W = .ok (.enter fid1 args) W) (hf1 : ∀ (w' : Bs), w.Ext w' → ∀ (z0 : TCount) (z1 : TCount), ∀ y, p1 z0 z1 = some y → Calls Tryz.prog fid1 (([(.agg #[(sv z0.Type_), (iv z0.Many)]), (.agg #[(sv z1.Type_), (iv z1.Many)])] : List Value) ++ cap1).toArray w'.W fun e W'' => e = .returned (iv y) ∧ HF w' W'' E0) (r : List TCount) (H : srtF p0 p1 = some r) (hE : HF w w.W (LEn [ow Ap0_0 cp0_0 41 fl_TCount p0])) : Calls Tryz.prog 25 [(.slice Ap0_0 (p0).length cp0_0), (.func (.func fid1) #[] cap1.toArray)].toArray w.W fun e W' => ∃ u : Unit, e = .returned (.tuple #[]) ∧ ((r).length = (p0).length) ∧ HF w W' (LEn [ow Ap0_0 cp0_0 41 fl_TCount r]) :=
 sortFunc_rule (ρ := Tryz.srt25_ren) Tryz.srt25 (fun _ => run_isAgg ag_41) (fun _ => run_sizeOf sz_41) ef_TCount tr_TCount () hg1 hf1 H hE

theorem F_mount_counts_1_ok {w : Bs} (p0 : TCount) (p1 : TCount) (r : Int) (H : F_mount_counts_1 p0 p1 = some r) (hE : HF w w.W E0) : Calls Tryz.prog 26 [(.agg #[(sv p0.Type_), (iv p0.Many)]), (.agg #[(sv p1.Type_), (iv p1.Many)])].toArray w.W fun e W' => e = .returned (iv r) ∧ HF w W' E0 := by
 unfold F_mount_counts_1 at H
 have leB := Bs.Le.refl w
 refine Tr.enter (n := 10) Tryz.func26 rfl rfl rfl hE ?_
 refine Tr.sr ?_
 refine Tr.box 1 (cs := [(sv p0.Type_), (iv p0.Many)]) (wn rfl) rfl rfl rfl fun b100 => ?_
 refine Tr.box 2 (cs := [(sv p1.Type_), (iv p1.Many)]) (wn rfl) rfl rfl rfl fun b101 => ?_
 refine Tr.asg rfl rfl ?_
 refine Tr.nil (Tr.normThen ?_)
 refine Tr.sr ?_
 refine Tr.va rfl (fun _ _ h1 h2 => run_fieldAddr fo_41_0 (h1.ev rfl)) ?_
 refine Tr.va rfl (fun _ _ h1 h2 => run_load1 ag_9 (h1.ev rfl) (rdb h2 (vs := [(sv p0.Type_), (iv p0.Many)]) (k := 1) rfl 0) rfl) ?_
 refine Tr.va rfl (fun _ _ h1 h2 => run_fieldAddr fo_41_0 (h1.ev rfl)) ?_
 refine Tr.va rfl (fun _ _ h1 h2 => run_load1 ag_9 (h1.ev rfl) (rdb h2 (vs := [(sv p1.Type_), (iv p1.Many)]) (k := 2) rfl 0) rfl) ?_
 obtain ⟨y102, hy102, H⟩ := bnd H
 refine Tr.call0 (r := (iv y102)) (wn rfl) rfl Tryz.call27 (evl_cons rfl (evl_cons rfl evl_nil)) (fun W hW => F_strings_Compare_ok p0.Type_ p1.Type_ y102 hy102 (HF.start _)) ?_
 refine Tr.asg rfl rfl ?_
 refine Tr.nil (Tr.normThen ?_)
 refine Tr.ret ?_
 obtain rfl := Option.some.inj H
 exact Tr.out (m := [(iv y102)]) [] (res_tmp rfl res_nil) (fun W hW => ⟨rfl, hW.low leB⟩)

theorem F_mount_counts_ok {w : Bs} (p0 : List (ByteArray × Int)) (bm0 : Nat) (r : List TCount) (H : F_mount_counts p0 = some r) (hE : HF w w.W (LEn [mk_ encS okS bm0 p0, emp])) : Calls Tryz.prog 13 [(.map (some bm0))].toArray w.W fun e W' => ∃ u : (Option Addr × Nat), e = .returned (.slice u.1 (r).length u.2) ∧ (SlF u.1 (r).length u.2) ∧ HF w W' (LEn [emp, ow u.1 u.2 41 fl_TCount r]) := by
 unfold F_mount_counts at H
 split at H
 case isFalse => cases H
 rename_i hlen
 have H := permO_some H
 have hpw : p0.Pairwise fun e e' => e.1 ≠ e'.1 := (hE.phi 0).2.2
 have leB := Bs.Le.refl w
 refine Tr.enter (n := 24) Tryz.func13 rfl rfl rfl hE ?_
 refine Tr.sr ?_
 refine Tr.asg rfl rfl ?_
 refine Tr.nilOwn 2 41 fl_TCount ?_
 show Tr _ _ (uf _ 2 (.slice none (([] : List TCount)).length 0)) _ _
 refine Tr.nil (Tr.normThen ?_)
 refine Tr.sr ?_
 refine Tr.asg rfl rfl ?_
 refine Tr.nilOwn 3 41 fl_TCount ?_
 show Tr _ _ (uf _ 3 (.slice none (([] : List TCount)).length 0)) _ _
 refine Tr.nil (Tr.normThen ?_)
 refine Tr.seq ?_
 refine Tr.sr ?_
 refine Tr.mv rfl rfl ?_
 refine Tr.rangeK 0 (wn rfl) rfl un_54 rfl rfl fun b7 => ?_
 refine Tr.nil (Tr.normThen ?_)
 refine Tr.block ?_
 refine Tr.loop (σ := (List (ByteArray × Int)) × Option (ByteArray × Int) × (List TCount) × (Option Addr) × Nat) (fun m w s => s.1.length < m ∧ (s.1.Pairwise fun e e' => e.1 ≠ e'.1) ∧ (s.2.2.1 ++ cntM s.1).Perm (cntM p0) ∧ s.2.2.1.length + s.1.length ≤ p0.length ∧ SlF s.2.2.2.1 (s.2.2.1).length s.2.2.2.2) (fun s => [(3, (.slice s.2.2.2.1 (s.2.2.1).length s.2.2.2.2)), (7, (.pointer (some ⟨b7, 0, none⟩)))]) (fun s => [(0, mri encS okS bm0 b7 p0 s.1 s.2.1), (3, ow s.2.2.2.1 s.2.2.2.2 41 fl_TCount s.2.2.1)]) (p0.length + 1) (p0, none, ([] : List TCount), none, 0) ⟨Nat.lt_succ_self _, hpw, List.Perm.refl _, by simp, slf_nil⟩ (.cons rfl (.cons rfl .nil)) (.cons rfl (.cons rfl .nil)) (fun _ _ h => absurd h.1 (Nat.not_lt_zero _)) ?_
 intro w leL1 m s hs
 obtain ⟨rem, last, out, A, c⟩ := s
 obtain ⟨hm, hd, hp, hl, ho⟩ := hs
 replace hm : rem.length < m + 1 := hm
 replace hp : (out ++ cntM rem).Perm (cntM p0) := hp
 replace hl : out.length + rem.length ≤ p0.length := hl
 replace ho : SlF A out.length c := ho
 replace leB := leB.trans leL1
 show Tr _ _ (LF [(3, (.slice A out.length c)), (7, (.pointer (some ⟨b7, 0, none⟩)))]) (LE [(0, mri encS okS bm0 b7 p0 rem last), (3, ow A c 41 fl_TCount out)]) _
 refine Tr.sr ?_
 refine Tr.nextK 0 (keyS un_9) (wn rfl) rfl rfl rfl (fun hn => ?_) (fun k v hkv => ?_)
 ·refine Tr.va (v := (.bool false)) rfl (fun _ _ h1 h2 => run_extract (h1.ev rfl) rfl) ?_
  refine Tr.nil (Tr.normThen ?_)
  refine Tr.seq ?_
  refine Tr.condF rfl rfl ?_
  refine Tr.exit (Tr.exitThen (Tr.exitThen (Tr.exitBlock (Tr.normThen ?_))))
  refine Tr.sr ?_
  refine Tr.mv rfl rfl ?_
  have hπ := H out (by subst hn; simpa [cntM] using hp)
  refine Tr.callM [3] [ow A c 41 fl_TCount out] (U := Unit) (fun u => (.tuple #[])) (fun u => r.length = out.length) (fun u => [ow A c 41 fl_TCount r]) rfl (pk_cons rfl pk_nil) (fun _ => rfl) (wn rfl) rfl Tryz.call25 (evl_cons rfl (evl_cons rfl evl_nil)) (fun W hW hp hE => F_slices_SortFunc_TCount_ok out A c (fun z0 z1 => F_mount_counts_1 z0 z1) 26 [] Tryz.call26 (fun w' he z0 z1 y hy => F_mount_counts_1_ok z0 z1 y hy (HF.start _)) r hπ hE) ?_
  intro u hu
  have hfr : SlF A r.length c := by rw [hu]; exact ho
  show Tr _ _ (uf _ 22 (.tuple #[])) (up _ 3 (ow A c 41 fl_TCount r)) _
  refine Tr.sel (lf := [(3, (.slice A r.length c))]) (le := [(3, ow A c 41 fl_TCount r)]) (.cons (slenV rfl (by rw [hu])) .nil) (.cons rfl .nil) ?_
  refine Tr.nil (Tr.normThen ?_)
  refine Tr.sr ?_
  refine Tr.mv rfl rfl ?_
  refine Tr.asg rfl rfl ?_
  refine Tr.nil (Tr.normThen ?_)
  refine Tr.ret ?_
  exact Tr.out (m := [(.slice A r.length c)]) [] (res_tmp rfl res_nil) (fun W hW => ⟨(A, c), rfl, hfr, HF.lowE leB (hW.pick (ks := [900, 3]) (by decide) (pk_cons rfl (pk_cons rfl pk_nil))) ⟨emp_any, ow_any _ _ _ _ tr_TCount, trivial⟩⟩)
 ·have hrp := rem_perm hd hkv
  have hlt : (rem.filter fun e => decide (e.1 ≠ k)).length + 1 = rem.length := by have := hrp.length_eq; simpa using this.symm
  refine Tr.va (v := (.bool true)) rfl (fun _ _ h1 h2 => run_extract (h1.ev rfl) rfl) ?_
  refine Tr.nil (Tr.normThen ?_)
  refine Tr.seq ?_
  refine Tr.condT rfl rfl ?_
  refine Tr.skip (Tr.normThen ?_)
  refine Tr.block ?_
  refine Tr.sr ?_
  refine Tr.va rfl (fun _ _ h1 h2 => run_entryK (h1.ev rfl) h2 (k0 := 0) rfl) ?_
  refine Tr.va (v := (encS k)) rfl (fun _ _ h1 h2 => run_extract (h1.ev rfl) rfl) ?_
  refine Tr.va (v := (iv v)) rfl (fun _ _ h1 h2 => run_extract (h1.ev rfl) rfl) ?_
  refine Tr.asg rfl rfl ?_
  refine Tr.asg rfl rfl ?_
  refine Tr.nil (Tr.normThen ?_)
  refine Tr.sr ?_
  refine Tr.mv rfl rfl ?_
  refine Tr.va rfl (fun _ _ h1 h2 => run_gtr (h1.ev rfl) (h1.ev rfl)) ?_
  refine Tr.nil (Tr.normThen ?_)
  have hcm : ∀ l : List (ByteArray × Int), cntM ((k, v) :: l) = (if 0 < v then [(⟨k, v⟩ : TCount)] else []) ++ cntM l := fun l => by
   unfold cntM
   by_cases hv : 0 < v <;> simp [hv]
  have hp2 : (out ++ ((if 0 < v then [(⟨k, v⟩ : TCount)] else []) ++ cntM (rem.filter fun e => decide (e.1 ≠ k)))).Perm (cntM p0) := by
   rw [← hcm]
   refine (List.Perm.append_left out ?_).trans hp
   exact ((hrp.filter _).map _).symm
  by_cases hv : 0 < v
  ·rw [if_pos hv] at hp2
   refine Tr.condT rfl (decide_eq_true hv) ?_
   have hap : apd out [⟨k, v⟩] = some (out ++ [⟨k, v⟩]) := if_pos (by have := List.length_pos_of_mem hkv; simp; omega)
   refine Tr.region ?_
   refine Tr.mv rfl rfl ?_
   refine Tr.mv rfl rfl ?_
   refine Tr.mv rfl rfl ?_
   refine Tr.build (vs := [(0, (sv k)), (1, (iv v))]) (cs := [(sv k), (iv v)]) (wn rfl) rfl (evs_cons rfl (evs_cons rfl evs_nil)) (by kernel_rfl) ?_
   refine Tr.buildSlice 25 (e := 41) (vs := [(0, (.agg #[(sv k), (iv v)]))]) (cs := [(sv k), (iv v)]) (wn rfl) rfl (evs_cons rfl evs_nil) (by kernel_rfl) fun b153 => ?_
   refine Tr.append 3 (t := fl_TCount) (l := out) (l2 := [⟨k, v⟩]) (wn rfl) rfl rfl rfl rfl (fun W hW => ⟨[[(sv k), (iv v)]], (.cons ⟨(), trivial, rfl⟩ .nil), rdb hW (vs := [(sv k), (iv v)]) (k := 25) rfl 0⟩) un_37 sz_41 zl_41 (by decide) by_41 rfl hap fun A2 c2 hA2 => ?_
   refine Tr.asg rfl rfl ?_
   refine Tr.nil (Tr.normBlock ?_)
   exact Tr.backThen leL1 (rem.filter (fun e => decide (e.1 ≠ k)), some (k, v), out ++ [⟨k, v⟩], A2, c2) ⟨by show (rem.filter _).length < m; omega, hd.filter _, by rw [List.append_assoc]; exact hp2, by simp; simp at hlt; omega, hA2⟩ (.cons rfl (.cons rfl .nil)) (.cons rfl (.cons rfl .nil))
  ·rw [if_neg hv] at hp2
   refine Tr.condF rfl (decide_eq_false hv) ?_
   refine Tr.skip (Tr.normBlock ?_)
   exact Tr.backThen leL1 (rem.filter (fun e => decide (e.1 ≠ k)), some (k, v), out, A, c) ⟨by show (rem.filter _).length < m; omega, hd.filter _, hp2, by show out.length + (rem.filter _).length ≤ p0.length; omega, ho⟩ (.cons rfl (.cons rfl .nil)) (.cons rfl (.cons rfl .nil))


theorem F_mount_Needed_ok (N : Nat) {w : Bs} (hT : Tab Tryz.prog w) (p0 : (List TBody)) (Ap0_0 : Option Addr) (cp0_0 : Nat) (hp0_0 : Sl w.R w.W fl_TBody Ap0_0 cp0_0 p0) (p1 : (List TPlace)) (Ap1_0 : Option Addr) (cp1_0 : Nat) (hp1_0 : Sl w.R w.W fl_TPlace Ap1_0 cp1_0 p1) (p2 : Int) (r : ((List TCount) × Int)) (H : F_mount_Needed N p0 p1 p2 = some r) (hE : HF w w.W (LEn [emp])) : Calls Tryz.prog 6 [(.slice Ap0_0 (p0).length cp0_0), (.slice Ap1_0 (p1).length cp1_0), (iv p2)].toArray w.W fun e W' => ∃ u : (Option Addr × Nat), e = .returned (.tuple #[(.slice u.1 (r.1).length u.2), (iv r.2)]) ∧ (SlF u.1 (r.1).length u.2) ∧ HF w W' (LEn [ow u.1 u.2 41 fl_TCount r.1]) := by
 unfold F_mount_Needed at H
 have leB := Bs.Le.refl w
 refine Tr.enter (n := 22) Tryz.func6 rfl rfl rfl hE ?_
 refine Tr.sr ?_
 refine Tr.asg rfl rfl ?_
 refine Tr.nilOwn 1 41 fl_TCount ?_
 show Tr _ _ (uf _ 6 (.slice none (([] : List TCount)).length 0)) _ _
 refine Tr.asg rfl rfl ?_
 refine Tr.nil (Tr.normThen ?_)
 refine Tr.seq ?_
 refine Tr.sr ?_
 refine Tr.mv rfl rfl ?_
 refine Tr.mv rfl rfl ?_
 obtain ⟨y100, hy100, H⟩ := bnd H
 refine Tr.call0 (r := (iv y100)) (wn rfl) rfl Tryz.call11 (evl_cons rfl (evl_cons rfl evl_nil)) (fun W hW => F_mount_CheckPlaces_ok N (hT.ext hW.extAll) p0 Ap0_0 cp0_0 (hp0_0.ext hW.extAll) p1 Ap1_0 cp1_0 (hp1_0.ext hW.extAll) y100 hy100 (HF.start _)) ?_
 refine Tr.asg rfl rfl ?_
 refine Tr.nil (Tr.normThen ?_)
 refine Tr.sr ?_
 refine Tr.mv rfl rfl ?_
 refine Tr.va rfl (fun _ _ h1 h2 => run_neq (h1.ev rfl) (h1.ev rfl)) ?_
 refine Tr.nil (Tr.normThen ?_)
 refine Tr.cond rfl H (fun H => ?_) (fun H => ?_)
 ·refine Tr.sr ?_
  refine Tr.mv rfl rfl ?_
  refine Tr.asg rfl rfl ?_
  refine Tr.nilOwn 2 41 fl_TCount ?_
  show Tr _ _ (uf _ 6 (.slice none (([] : List TCount)).length 0)) _ _
  refine Tr.asg rfl rfl ?_
  refine Tr.nil (Tr.normThen ?_)
  refine Tr.ret (Tr.retThen ?_)
  obtain rfl := Option.some.inj H
  exact Tr.out (m := [(.slice none (([] : List TCount)).length 0), (iv y100)]) [] (res_tmp rfl (res_tmp rfl res_nil)) (fun W hW => ⟨(none, 0), rfl, slf_nil, HF.lowE leB (hW.pick (ks := [2]) (by decide) (pk_cons rfl pk_nil)) ⟨ow_any _ _ _ _ tr_TCount, trivial⟩⟩)
 ·refine Tr.skip (Tr.normThen ?_)
  refine Tr.seq ?_
  refine Tr.sr ?_
  refine Tr.mv rfl rfl ?_
  obtain ⟨y101, hy101, H⟩ := bnd H
  refine Tr.call0 (r := (.bool y101)) (wn rfl) rfl Tryz.call12 (evl_cons rfl evl_nil) (fun W hW => F_mount_isBoards_ok p2 y101 hy101 (HF.start _)) ?_
  refine Tr.va rfl (fun _ _ h1 h2 => run_not (h1.ev rfl)) ?_
  refine Tr.nil (Tr.normThen ?_)
  refine Tr.cond rfl H (fun H => ?_) (fun H => ?_)
  ·refine Tr.sr ?_
   refine Tr.asg rfl rfl ?_
   refine Tr.nilOwn 3 41 fl_TCount ?_
   show Tr _ _ (uf _ 6 (.slice none (([] : List TCount)).length 0)) _ _
   refine Tr.asg rfl rfl ?_
   refine Tr.nil (Tr.normThen ?_)
   refine Tr.ret (Tr.retThen ?_)
   obtain rfl := Option.some.inj H
   exact Tr.out (m := [(.slice none (([] : List TCount)).length 0), (iv 1)]) [] (res_tmp rfl (res_tmp rfl res_nil)) (fun W hW => ⟨(none, 0), rfl, slf_nil, HF.lowE leB (hW.pick (ks := [3]) (by decide) (pk_cons rfl pk_nil)) ⟨ow_any _ _ _ _ tr_TCount, trivial⟩⟩)
  ·refine Tr.skip (Tr.normThen ?_)
   refine Tr.sr ?_
   refine Tr.mv rfl rfl ?_
   refine Tr.mv rfl rfl ?_
   obtain ⟨y102, hy102, H⟩ := bnd H
   refine Tr.callM [4] [emp] (U := (Option Addr × Nat)) (fun u => (.map (some u.2))) (fun u => True) (fun u => [mk_ encS okS u.2 y102]) rfl (pk_cons rfl pk_nil) (fun _ => rfl) (wn rfl) rfl Tryz.call14 (evl_cons rfl (evl_cons rfl evl_nil)) (fun W hW hp hE => F_mount_needed_ok p1 Ap1_0 cp1_0 (hp1_0.ext (hW.extS hp)) p2 y102 hy102 hE) ?_
   intro u hu
   obtain ⟨Ay102_0, cy102_0⟩ := u
   have gy102_0 := hu
   have hgy102_0 : True := gy102_0 --@phi
   show Tr _ _ (uf _ 20 (.map (some cy102_0))) (up _ 4 (mk_ encS okS cy102_0 y102)) _
   obtain ⟨y104, hy104, H⟩ := bnd H
   refine Tr.callM [4, 5] [mk_ encS okS cy102_0 y102, emp] (U := (Option Addr × Nat)) (fun u => (.slice u.1 (y104).length u.2)) (fun u => SlF u.1 (y104).length u.2) (fun u => [emp, ow u.1 u.2 41 fl_TCount y104]) rfl (pk_cons rfl (pk_cons rfl pk_nil)) (fun _ => rfl) (wn rfl) rfl Tryz.call13 (evl_cons rfl evl_nil) (fun W hW hp hE => F_mount_counts_ok y102 cy102_0 y104 hy104 hE) ?_
   intro u hu
   obtain ⟨Ay104_0, cy104_0⟩ := u
   have gy104_0 := hu
   have hgy104_0 : SlF Ay104_0 (y104).length cy104_0 := gy104_0 --@phi
   show Tr _ _ (uf _ 21 (.slice Ay104_0 (y104).length cy104_0)) (up (up _ 5 (ow Ay104_0 cy104_0 41 fl_TCount y104)) 4 (emp)) _
   refine Tr.asg rfl rfl ?_
   refine Tr.asg rfl rfl ?_
   refine Tr.nil (Tr.normThen ?_)
   refine Tr.ret ?_
   obtain rfl := Option.some.inj H
   exact Tr.out (m := [(.slice Ay104_0 (y104).length cy104_0), (iv 0)]) [] (res_tmp rfl (res_tmp rfl res_nil)) (fun W hW => ⟨(Ay104_0, cy104_0), rfl, hgy104_0, HF.lowE leB (hW.pick (ks := [5]) (by decide) (pk_cons rfl pk_nil)) ⟨ow_any _ _ _ _ tr_TCount, trivial⟩⟩)

theorem F_etchhousetop_TopPartsForPanels_ok (N : Nat) {w : Bs} (hT : Tab Tryz.prog w) (p0 : TPanel) (Ap0_0 : Option Addr) (cp0_0 : Nat) (hp0_0 : Sl w.R w.W fl_TBoardKind Ap0_0 cp0_0 p0.Kinds) (Ap0_1 : Option Addr) (cp0_1 : Nat) (hp0_1 : Sl w.R w.W fl_TSlot Ap0_1 cp0_1 p0.Slots) (Ap0_2 : Option Addr) (cp0_2 : Nat) (hp0_2 : Sl w.R w.W fl_TPoint Ap0_2 cp0_2 p0.Marks) (p1 : ByteArray) (p2 : Int) (p3 : (List TBody)) (Ap3_0 : Option Addr) (cp3_0 : Nat) (hp3_0 : Sl w.R w.W fl_TBody Ap3_0 cp3_0 p3) (p4 : (List TPlace)) (Ap4_0 : Option Addr) (cp4_0 : Nat) (hp4_0 : Sl w.R w.W fl_TPlace Ap4_0 cp4_0 p4) (r : Bool) (H : F_etchhousetop_TopPartsForPanels N p0 p1 p2 p3 p4 = some r) (hE : HF w w.W E0) : Calls Tryz.prog 3 [(.agg #[(iv p0.W), (iv p0.H), (iv p0.Rail), (iv p0.Gap), (.slice Ap0_0 (p0.Kinds).length cp0_0), (.slice Ap0_1 (p0.Slots).length cp0_1), (.slice Ap0_2 (p0.Marks).length cp0_2)]), (sv p1), (iv p2), (.slice Ap3_0 (p3).length cp3_0), (.slice Ap4_0 (p4).length cp4_0)].toArray w.W fun e W' => e = .returned (.bool r) ∧ HF w W' E0 := by
 unfold F_etchhousetop_TopPartsForPanels at H
 have leB := Bs.Le.refl w
 refine Tr.enter (n := 146) Tryz.func3 rfl rfl rfl hE ?_
 refine Tr.sr ?_
 refine Tr.box 1 (cs := [(iv p0.W), (iv p0.H), (iv p0.Rail), (iv p0.Gap), (.slice Ap0_0 (p0.Kinds).length cp0_0), (.slice Ap0_1 (p0.Slots).length cp0_1), (.slice Ap0_2 (p0.Marks).length cp0_2)]) (wn rfl) rfl rfl rfl fun b100 => ?_
 refine Tr.asg rfl rfl ?_
 refine Tr.nil (Tr.normThen ?_)
 refine Tr.sr ?_
 refine Tr.va rfl (fun _ _ h1 h2 => run_loadN (cs := [(iv p0.W), (iv p0.H), (iv p0.Rail), (iv p0.Gap), (.slice Ap0_0 (p0.Kinds).length cp0_0), (.slice Ap0_1 (p0.Slots).length cp0_1), (.slice Ap0_2 (p0.Marks).length cp0_2)]) ag_26 sz_26 (h1.ev rfl) (CellsAt.take (rdb h2 (vs := [(iv p0.W), (iv p0.H), (iv p0.Rail), (iv p0.Gap), (.slice Ap0_0 (p0.Kinds).length cp0_0), (.slice Ap0_1 (p0.Slots).length cp0_1), (.slice Ap0_2 (p0.Marks).length cp0_2)]) (k := 1) rfl 0) 7) rfl) ?_
 refine Tr.mv rfl rfl ?_
 refine Tr.mv rfl rfl ?_
 obtain ⟨y101, hy101, H⟩ := bnd H
 refine Tr.call0 (r := (.tuple #[(iv y101.1), (iv y101.2.1), (iv y101.2.2)])) (wn rfl) rfl Tryz.call4 (evl_cons rfl (evl_cons rfl (evl_cons rfl evl_nil))) (fun W hW => F_panel_Needed_ok N p0 Ap0_0 cp0_0 (hp0_0.ext hW.extAll) Ap0_1 cp0_1 (hp0_1.ext hW.extAll) Ap0_2 cp0_2 (hp0_2.ext hW.extAll) p1 p2 y101 hy101 (HF.start _)) ?_
 refine Tr.mv rfl rfl ?_
 refine Tr.va rfl (fun _ _ h1 h2 => run_extract (h1.ev rfl) rfl) ?_
 refine Tr.va rfl (fun _ _ h1 h2 => run_extract (h1.ev rfl) rfl) ?_
 refine Tr.va rfl (fun _ _ h1 h2 => run_extract (h1.ev rfl) rfl) ?_
 refine Tr.asg rfl rfl ?_
 refine Tr.asg rfl rfl ?_
 refine Tr.asg rfl rfl ?_
 refine Tr.nil (Tr.normThen ?_)
 refine Tr.seq ?_
 refine Tr.sr ?_
 refine Tr.mv rfl rfl ?_
 refine Tr.va rfl (fun _ _ h1 h2 => run_neq (h1.ev rfl) (h1.ev rfl)) ?_
 refine Tr.nil (Tr.normThen ?_)
 refine Tr.cond rfl H (fun H => ?_) (fun H => ?_)
 ·refine Tr.sr ?_
  refine Tr.mv rfl rfl ?_
  refine Tr.va rfl (fun _ _ h1 h2 => run_eql (h1.ev rfl) (h1.ev rfl)) ?_
  refine Tr.mv rfl rfl ?_
  refine Tr.mid0 3 [(36, (.bool ((y101.1 == 0) && (y101.2.1 == 0))))] [(1, bx b100 #[(iv p0.W), (iv p0.H), (iv p0.Rail), (iv p0.Gap), (.slice Ap0_0 (p0.Kinds).length cp0_0), (.slice Ap0_1 (p0.Slots).length cp0_1), (.slice Ap0_2 (p0.Marks).length cp0_2)] 26)] ?_ ?_
  ·cases hg104 : (y101.1 == 0)
   ·refine Tr.pass rfl rfl rfl rfl rfl (by decide) ?_
    refine Tr.pass rfl rfl rfl rfl rfl (by decide) ?_
    refine Tr.va rfl (fun _ _ h1 h2 => run_pickF (h1.ev rfl) (h1.ev rfl)) ?_
    exact Tr.nil (Tr.fin0 (.cons rfl .nil) (.cons rfl .nil))
   ·refine Tr.val (wg rfl rfl rfl) rfl (fun _ _ h1 h2 => run_move (h1.ev rfl)) ?_
    refine Tr.val (wg rfl rfl rfl) rfl (fun _ _ h1 h2 => run_eql (h1.ev rfl) (h1.ev rfl)) ?_
    refine Tr.va rfl (fun _ _ h1 h2 => run_pickT (h1.ev rfl) (h1.ev rfl)) ?_
    exact Tr.nil (Tr.fin0 (.cons rfl .nil) (.cons rfl .nil))
  ·show Tr _ _ (LF [(36, (.bool ((y101.1 == 0) && (y101.2.1 == 0))))]) (LE [(1, bx b100 #[(iv p0.W), (iv p0.H), (iv p0.Rail), (iv p0.Gap), (.slice Ap0_0 (p0.Kinds).length cp0_0), (.slice Ap0_1 (p0.Slots).length cp0_1), (.slice Ap0_2 (p0.Marks).length cp0_2)] 26)]) _
   refine Tr.mv rfl rfl ?_
   obtain ⟨g103, hg103, H⟩ := bnd H
   refine Tr.mid0 2 [(39, (.bool g103))] [(1, bx b100 #[(iv p0.W), (iv p0.H), (iv p0.Rail), (iv p0.Gap), (.slice Ap0_0 (p0.Kinds).length cp0_0), (.slice Ap0_1 (p0.Slots).length cp0_1), (.slice Ap0_2 (p0.Marks).length cp0_2)] 26)] ?_ ?_
   ·cases hg104 : ((y101.1 == 0) && (y101.2.1 == 0))
    ·rw [hg104] at hg103
     rw [if_neg (by decide)] at hg103
     have H := hg103
     obtain rfl := Option.some.inj H
     refine Tr.pass rfl rfl rfl rfl rfl (by decide) ?_
     refine Tr.va rfl (fun _ _ h1 h2 => run_pickF (h1.ev rfl) (h1.ev rfl)) ?_
     exact Tr.nil (Tr.fin0 (.cons rfl .nil) (.cons rfl .nil))
    ·rw [hg104] at hg103
     rw [if_pos rfl] at hg103
     have H := hg103
     obtain ⟨y104, hy104, H⟩ := bnd H
     refine Tr.call0 (r := (.bool y104)) (wg rfl rfl rfl) rfl Tryz.call5 evl_nil (fun W hW => F_etchhousetop_alive_ok N y104 hy104 (HF.start _)) ?_
     refine Tr.va rfl (fun _ _ h1 h2 => run_pickT (h1.ev rfl) (h1.ev rfl)) ?_
     obtain rfl := Option.some.inj H
     exact Tr.nil (Tr.fin0 (.cons rfl .nil) (.cons rfl .nil))
   ·show Tr _ _ (LF [(39, (.bool g103))]) (LE [(1, bx b100 #[(iv p0.W), (iv p0.H), (iv p0.Rail), (iv p0.Gap), (.slice Ap0_0 (p0.Kinds).length cp0_0), (.slice Ap0_1 (p0.Slots).length cp0_1), (.slice Ap0_2 (p0.Marks).length cp0_2)] 26)]) _
    refine Tr.asg rfl rfl ?_
    refine Tr.nil (Tr.normThen ?_)
    refine Tr.ret (Tr.retThen ?_)
    obtain rfl := Option.some.inj H
    exact Tr.out (m := [(.bool g103)]) [] (res_tmp rfl res_nil) (fun W hW => ⟨rfl, hW.low leB⟩)
 ·refine Tr.skip (Tr.normThen ?_)
  refine Tr.sr ?_
  refine Tr.asg rfl rfl ?_
  refine Tr.nil (Tr.normThen ?_)
  refine Tr.seq ?_
  refine Tr.sr ?_
  refine Tr.va rfl (fun _ _ h1 h2 => run_fieldAddr fo_26_5 (h1.ev rfl)) ?_
  refine Tr.va rfl (fun _ _ h1 h2 => run_load1 ag_23 (h1.ev rfl) (rdb h2 (vs := [(iv p0.W), (iv p0.H), (iv p0.Rail), (iv p0.Gap), (.slice Ap0_0 (p0.Kinds).length cp0_0), (.slice Ap0_1 (p0.Slots).length cp0_1), (.slice Ap0_2 (p0.Marks).length cp0_2)]) (k := 1) rfl 5) rfl) ?_
  refine Tr.va rfl (fun _ _ h1 h2 => run_len un_23 (h1.ev rfl)) ?_
  refine Tr.mv rfl rfl ?_
  refine Tr.nil (Tr.normThen ?_)
  refine Tr.block ?_
  refine Tr.loop (σ := (List TSlot) × Nat × Int) (fun m w s => m = s.1.length + 1 ∧ s.1 = List.drop s.2.1 p0.Slots ∧ s.2.1 ≤ p0.Slots.length ∧ F_etchhousetop_TopPartsForPanels_L1 N p1 p2 p3 p4 y101 s.1 s.2.1 s.2.2 = some r) (fun s => [(1, (sv p1)), (2, (iv p2)), (3, (.slice Ap3_0 (p3).length cp3_0)), (4, (.slice Ap4_0 (p4).length cp4_0)), (11, (iv y101.1)), (12, (iv y101.2.1)), (14, (iv s.2.2)), (41, (.slice Ap0_1 (p0.Slots).length cp0_1)), (42, (iv (p0.Slots.length : Int))), (43, (iv (s.2.1 : Int)))]) (fun s => []) (p0.Slots.length + 1) (p0.Slots, 0, 0) ⟨rfl, rfl, Nat.zero_le _, H⟩ (.cons rfl (.cons rfl (.cons rfl (.cons rfl (.cons rfl (.cons rfl (.cons rfl (.cons rfl (.cons rfl (.cons rfl .nil)))))))))) .nil (fun _ _ h => absurd h.1 (by simp)) ?_
  intro w leL1 m s hs
  obtain ⟨restL1, iL1, x115⟩ := s
  obtain ⟨hmL1, hdL1, hiL1, H⟩ := hs
  replace hdL1 : restL1 = List.drop iL1 p0.Slots := hdL1
  replace H : F_etchhousetop_TopPartsForPanels_L1 N p1 p2 p3 p4 y101 restL1 iL1 x115 = some r := H
  replace hmL1 : m + 1 = restL1.length + 1 := hmL1
  replace hT := hT.ext leL1.ext
  replace hp3_0 := hp3_0.leR leL1
  replace hp4_0 := hp4_0.leR leL1
  replace hp0_1 := hp0_1.leR leL1
  replace leB := leB.trans leL1
  obtain rfl : m = restL1.length := by omega
  clear hmL1
  show Tr _ _ (LF [(1, (sv p1)), (2, (iv p2)), (3, (.slice Ap3_0 (p3).length cp3_0)), (4, (.slice Ap4_0 (p4).length cp4_0)), (11, (iv y101.1)), (12, (iv y101.2.1)), (14, (iv x115)), (41, (.slice Ap0_1 (p0.Slots).length cp0_1)), (42, (iv (p0.Slots.length : Int))), (43, (iv (iL1 : Int)))]) (LE []) _
  cases restL1 with
  | nil =>
   rw [F_etchhousetop_TopPartsForPanels_L1.eq_1] at H
   refine Tr.sr ?_
   refine Tr.va rfl (fun _ _ h1 h2 => run_lss (h1.ev rfl) (h1.ev rfl)) ?_
   refine Tr.nil (Tr.normThen ?_)
   refine Tr.seq ?_
   refine Tr.condF rfl (range_nil hdL1) ?_
   refine Tr.exit (Tr.exitThen (Tr.exitThen (Tr.exitBlock (Tr.normThen ?_))))
   refine Tr.seq ?_
   refine Tr.sr ?_
   refine Tr.mv rfl rfl ?_
   refine Tr.mv rfl rfl ?_
   refine Tr.va rfl (fun _ _ h1 h2 => run_mul (h1.ev rfl) (h1.ev rfl)) ?_
   refine Tr.mv rfl rfl ?_
   refine Tr.mv rfl rfl ?_
   refine Tr.va rfl (fun _ _ h1 h2 => run_add (h1.ev rfl) (h1.ev rfl)) ?_
   refine Tr.va rfl (fun _ _ h1 h2 => run_neq (h1.ev rfl) (h1.ev rfl)) ?_
   refine Tr.mv rfl rfl ?_
   refine Tr.mid0 5 [(2, (iv p2)), (3, (.slice Ap3_0 (p3).length cp3_0)), (4, (.slice Ap4_0 (p4).length cp4_0)), (11, (iv y101.1)), (12, (iv y101.2.1)), (14, (iv x115)), (66, (.bool (((w64 (y101.1 * x115)) != (w64 (p2 + y101.2.1))) || (decide ((max x115 1) ≤ y101.2.1)))))] [] ?_ ?_
   ·cases hg138 : ((w64 (y101.1 * x115)) != (w64 (p2 + y101.2.1)))
    ·refine Tr.val (wg rfl rfl rfl) rfl (fun _ _ h1 h2 => run_move (h1.ev rfl)) ?_
     refine Tr.val (wg rfl rfl rfl) rfl (fun _ _ h1 h2 => run_move (h1.ev rfl)) ?_
     refine Tr.val (wg rfl rfl rfl) rfl (fun _ _ h1 h2 => run_max (h1.ev rfl) (h1.ev rfl) _) ?_
     refine Tr.val (wg rfl rfl rfl) rfl (fun _ _ h1 h2 => run_geq (h1.ev rfl) (h1.ev rfl)) ?_
     refine Tr.va rfl (fun _ _ h1 h2 => run_pickF (h1.ev rfl) (h1.ev rfl)) ?_
     exact Tr.nil (Tr.fin0 (.cons rfl (.cons rfl (.cons rfl (.cons rfl (.cons rfl (.cons rfl (.cons rfl .nil))))))) .nil)
    ·refine Tr.pass rfl rfl rfl rfl rfl (by decide) ?_
     refine Tr.pass rfl rfl rfl rfl rfl (by decide) ?_
     refine Tr.pass rfl rfl rfl rfl rfl (by decide) ?_
     refine Tr.pass rfl rfl rfl rfl rfl (by decide) ?_
     refine Tr.va rfl (fun _ _ h1 h2 => run_pickT (h1.ev rfl) (h1.ev rfl)) ?_
     exact Tr.nil (Tr.fin0 (.cons rfl (.cons rfl (.cons rfl (.cons rfl (.cons rfl (.cons rfl (.cons rfl .nil))))))) .nil)
   ·show Tr _ _ (LF [(2, (iv p2)), (3, (.slice Ap3_0 (p3).length cp3_0)), (4, (.slice Ap4_0 (p4).length cp4_0)), (11, (iv y101.1)), (12, (iv y101.2.1)), (14, (iv x115)), (66, (.bool (((w64 (y101.1 * x115)) != (w64 (p2 + y101.2.1))) || (decide ((max x115 1) ≤ y101.2.1)))))]) (LE []) _
    refine Tr.nil (Tr.normThen ?_)
    refine Tr.cond rfl H (fun H => ?_) (fun H => ?_)
    ·refine Tr.sr ?_
     refine Tr.asg rfl rfl ?_
     refine Tr.nil (Tr.normThen ?_)
     refine Tr.ret (Tr.retThen ?_)
     obtain rfl := Option.some.inj H
     exact Tr.out (m := [(.bool false)]) [] (res_tmp rfl res_nil) (fun W hW => ⟨rfl, hW.low leB⟩)
    ·refine Tr.skip (Tr.normThen ?_)
     refine Tr.sr ?_
     refine Tr.mv rfl rfl ?_
     refine Tr.mv rfl rfl ?_
     obtain ⟨y116, hy116, H⟩ := bnd H
     refine Tr.callM [4] [emp] (U := (Option Addr × Nat)) (fun u => (.tuple #[(.slice u.1 (y116.1).length u.2), (iv y116.2)])) (fun u => SlF u.1 (y116.1).length u.2) (fun u => [ow u.1 u.2 41 fl_TCount y116.1]) rfl (pk_cons rfl pk_nil) (fun _ => rfl) (wn rfl) rfl Tryz.call6 (evl_cons rfl (evl_cons rfl (evl_cons rfl evl_nil))) (fun W hW hp hE => F_mount_Needed_ok N (hT.ext (hW.extS hp)) p3 Ap3_0 cp3_0 (hp3_0.ext (hW.extS hp)) p4 Ap4_0 cp4_0 (hp4_0.ext (hW.extS hp)) 1 y116 hy116 hE) ?_
     intro u hu
     obtain ⟨Ay116_0, cy116_0⟩ := u
     have gy116_0 := hu
     have hgy116_0 : SlF Ay116_0 (y116.1).length cy116_0 := gy116_0 --@phi
     show Tr _ _ (uf _ 70 (.tuple #[(.slice Ay116_0 (y116.1).length cy116_0), (iv y116.2)])) (up _ 4 (ow Ay116_0 cy116_0 41 fl_TCount y116.1)) _
     refine Tr.mv rfl rfl ?_
     refine Tr.va rfl (fun _ _ h1 h2 => run_extract (h1.ev rfl) rfl) ?_
     refine Tr.va rfl (fun _ _ h1 h2 => run_extract (h1.ev rfl) rfl) ?_
     refine Tr.asg rfl rfl ?_
     refine Tr.asg rfl rfl ?_
     refine Tr.nil (Tr.normThen ?_)
     refine Tr.sr ?_
     refine Tr.mv rfl rfl ?_
     refine Tr.mv rfl rfl ?_
     refine Tr.mv rfl rfl ?_
     refine Tr.mv rfl rfl ?_
     refine Tr.va rfl (fun _ _ h1 h2 => run_mul (h1.ev rfl) (h1.ev rfl)) ?_
     obtain ⟨y118, hy118, H⟩ := bnd H
     refine Tr.callM [5] [emp] (U := (Option Addr × Nat)) (fun u => (.tuple #[(.slice u.1 (y118.1).length u.2), (iv y118.2)])) (fun u => SlF u.1 (y118.1).length u.2) (fun u => [ow u.1 u.2 41 fl_TCount y118.1]) rfl (pk_cons rfl pk_nil) (fun _ => rfl) (wn rfl) rfl Tryz.call6 (evl_cons rfl (evl_cons rfl (evl_cons rfl evl_nil))) (fun W hW hp hE => F_mount_Needed_ok N (hT.ext (hW.extS hp)) p3 Ap3_0 cp3_0 (hp3_0.ext (hW.extS hp)) p4 Ap4_0 cp4_0 (hp4_0.ext (hW.extS hp)) (w64 (y101.1 * x115)) y118 hy118 hE) ?_
     intro u hu
     obtain ⟨Ay118_0, cy118_0⟩ := u
     have gy118_0 := hu
     have hgy118_0 : SlF Ay118_0 (y118.1).length cy118_0 := gy118_0 --@phi
     show Tr _ _ (uf _ 79 (.tuple #[(.slice Ay118_0 (y118.1).length cy118_0), (iv y118.2)])) (up _ 5 (ow Ay118_0 cy118_0 41 fl_TCount y118.1)) _
     refine Tr.mv rfl rfl ?_
     refine Tr.va rfl (fun _ _ h1 h2 => run_extract (h1.ev rfl) rfl) ?_
     refine Tr.va rfl (fun _ _ h1 h2 => run_extract (h1.ev rfl) rfl) ?_
     refine Tr.asg rfl rfl ?_
     refine Tr.asg rfl rfl ?_
     refine Tr.nil (Tr.normThen ?_)
     refine Tr.seq ?_
     refine Tr.sr ?_
     refine Tr.mv rfl rfl ?_
     refine Tr.va rfl (fun _ _ h1 h2 => run_neq (h1.ev rfl) (h1.ev rfl)) ?_
     refine Tr.mv rfl rfl ?_
     refine Tr.mid0 3 [(2, (iv p2)), (11, (iv y101.1)), (12, (iv y101.2.1)), (13, (iv y116.2)), (17, (.slice Ay116_0 (y116.1).length cy116_0)), (18, (.slice Ay118_0 (y118.1).length cy118_0)), (87, (.bool ((y116.2 != 0) || (y118.2 != 0))))] [(4, ow Ay116_0 cy116_0 41 fl_TCount y116.1), (5, ow Ay118_0 cy118_0 41 fl_TCount y118.1)] ?_ ?_
     ·cases hg138 : (y116.2 != 0)
      ·refine Tr.val (wg rfl rfl rfl) rfl (fun _ _ h1 h2 => run_move (h1.ev rfl)) ?_
       refine Tr.val (wg rfl rfl rfl) rfl (fun _ _ h1 h2 => run_neq (h1.ev rfl) (h1.ev rfl)) ?_
       refine Tr.va rfl (fun _ _ h1 h2 => run_pickF (h1.ev rfl) (h1.ev rfl)) ?_
       exact Tr.nil (Tr.fin0 (.cons rfl (.cons rfl (.cons rfl (.cons rfl (.cons rfl (.cons rfl (.cons rfl .nil))))))) (.cons rfl (.cons rfl .nil)))
      ·refine Tr.pass rfl rfl rfl rfl rfl (by decide) ?_
       refine Tr.pass rfl rfl rfl rfl rfl (by decide) ?_
       refine Tr.va rfl (fun _ _ h1 h2 => run_pickT (h1.ev rfl) (h1.ev rfl)) ?_
       exact Tr.nil (Tr.fin0 (.cons rfl (.cons rfl (.cons rfl (.cons rfl (.cons rfl (.cons rfl (.cons rfl .nil))))))) (.cons rfl (.cons rfl .nil)))
     ·show Tr _ _ (LF [(2, (iv p2)), (11, (iv y101.1)), (12, (iv y101.2.1)), (13, (iv y116.2)), (17, (.slice Ay116_0 (y116.1).length cy116_0)), (18, (.slice Ay118_0 (y118.1).length cy118_0)), (87, (.bool ((y116.2 != 0) || (y118.2 != 0))))]) (LE [(4, ow Ay116_0 cy116_0 41 fl_TCount y116.1), (5, ow Ay118_0 cy118_0 41 fl_TCount y118.1)]) _
      refine Tr.nil (Tr.normThen ?_)
      refine Tr.cond rfl H (fun H => ?_) (fun H => ?_)
      ·refine Tr.sr ?_
       refine Tr.mv rfl rfl ?_
       refine Tr.va rfl (fun _ _ h1 h2 => run_eql (h1.ev rfl) (h1.ev rfl)) ?_
       refine Tr.mv rfl rfl ?_
       refine Tr.mid0 4 [(94, (.bool ((y116.2 == 0) || ((y116.1.length : Int) == 0))))] [(4, ow Ay116_0 cy116_0 41 fl_TCount y116.1), (5, ow Ay118_0 cy118_0 41 fl_TCount y118.1)] ?_ ?_
       ·cases hg122 : (y116.2 == 0)
        ·refine Tr.val (wg rfl rfl rfl) rfl (fun _ _ h1 h2 => run_move (h1.ev rfl)) ?_
         refine Tr.val (wg rfl rfl rfl) rfl (fun _ _ h1 h2 => run_len un_37 (h1.ev rfl)) ?_
         refine Tr.val (wg rfl rfl rfl) rfl (fun _ _ h1 h2 => run_eql (h1.ev rfl) (h1.ev rfl)) ?_
         refine Tr.va rfl (fun _ _ h1 h2 => run_pickF (h1.ev rfl) (h1.ev rfl)) ?_
         exact Tr.nil (Tr.fin0 (.cons rfl .nil) (.cons rfl (.cons rfl .nil)))
        ·refine Tr.pass rfl rfl rfl rfl rfl (by decide) ?_
         refine Tr.pass rfl rfl rfl rfl rfl (by decide) ?_
         refine Tr.pass rfl rfl rfl rfl rfl (by decide) ?_
         refine Tr.va rfl (fun _ _ h1 h2 => run_pickT (h1.ev rfl) (h1.ev rfl)) ?_
         exact Tr.nil (Tr.fin0 (.cons rfl .nil) (.cons rfl (.cons rfl .nil)))
       ·show Tr _ _ (LF [(94, (.bool ((y116.2 == 0) || ((y116.1.length : Int) == 0))))]) (LE [(4, ow Ay116_0 cy116_0 41 fl_TCount y116.1), (5, ow Ay118_0 cy118_0 41 fl_TCount y118.1)]) _
        refine Tr.mv rfl rfl ?_
        obtain ⟨g121, hg121, H⟩ := bnd H
        refine Tr.mid0 2 [(97, (.bool g121))] [(4, ow Ay116_0 cy116_0 41 fl_TCount y116.1), (5, ow Ay118_0 cy118_0 41 fl_TCount y118.1)] ?_ ?_
        ·cases hg122 : ((y116.2 == 0) || ((y116.1.length : Int) == 0))
         ·rw [hg122] at hg121
          rw [if_neg (by decide)] at hg121
          have H := hg121
          obtain rfl := Option.some.inj H
          refine Tr.pass rfl rfl rfl rfl rfl (by decide) ?_
          refine Tr.va rfl (fun _ _ h1 h2 => run_pickF (h1.ev rfl) (h1.ev rfl)) ?_
          exact Tr.nil (Tr.fin0 (.cons rfl .nil) (.cons rfl (.cons rfl .nil)))
         ·rw [hg122] at hg121
          rw [if_pos rfl] at hg121
          have H := hg121
          obtain ⟨y122, hy122, H⟩ := bnd H
          refine Tr.call0 (r := (.bool y122)) (wg rfl rfl rfl) rfl Tryz.call5 evl_nil (fun W hW => F_etchhousetop_alive_ok N y122 hy122 (HF.start _)) ?_
          refine Tr.va rfl (fun _ _ h1 h2 => run_pickT (h1.ev rfl) (h1.ev rfl)) ?_
          obtain rfl := Option.some.inj H
          exact Tr.nil (Tr.fin0 (.cons rfl .nil) (.cons rfl (.cons rfl .nil)))
        ·show Tr _ _ (LF [(97, (.bool g121))]) (LE [(4, ow Ay116_0 cy116_0 41 fl_TCount y116.1), (5, ow Ay118_0 cy118_0 41 fl_TCount y118.1)]) _
         refine Tr.asg rfl rfl ?_
         refine Tr.nil (Tr.normThen ?_)
         refine Tr.ret (Tr.retThen ?_)
         obtain rfl := Option.some.inj H
         exact Tr.out (m := [(.bool g121)]) [] (res_tmp rfl res_nil) (fun W hW => ⟨rfl, hW.low leB⟩)
      ·refine Tr.skip (Tr.normThen ?_)
       refine Tr.seq ?_
       refine Tr.sr ?_
       refine Tr.mv rfl rfl ?_
       refine Tr.va rfl (fun _ _ h1 h2 => run_eql (h1.ev rfl) (h1.ev rfl)) ?_
       refine Tr.nil (Tr.normThen ?_)
       refine Tr.cond rfl H (fun H => ?_) (fun H => ?_)
       ·refine Tr.sr ?_
        refine Tr.mv rfl rfl ?_
        refine Tr.va rfl (fun _ _ h1 h2 => run_len un_37 (h1.ev rfl)) ?_
        refine Tr.va rfl (fun _ _ h1 h2 => run_eql (h1.ev rfl) (h1.ev rfl)) ?_
        refine Tr.mv rfl rfl ?_
        obtain ⟨g124, hg124, H⟩ := bnd H
        refine Tr.mid0 2 [(105, (.bool g124))] [(4, ow Ay116_0 cy116_0 41 fl_TCount y116.1), (5, ow Ay118_0 cy118_0 41 fl_TCount y118.1)] ?_ ?_
        ·cases hg125 : ((y118.1.length : Int) == 0)
         ·rw [hg125] at hg124
          rw [if_neg (by decide)] at hg124
          have H := hg124
          obtain rfl := Option.some.inj H
          refine Tr.pass rfl rfl rfl rfl rfl (by decide) ?_
          refine Tr.va rfl (fun _ _ h1 h2 => run_pickF (h1.ev rfl) (h1.ev rfl)) ?_
          exact Tr.nil (Tr.fin0 (.cons rfl .nil) (.cons rfl (.cons rfl .nil)))
         ·rw [hg125] at hg124
          rw [if_pos rfl] at hg124
          have H := hg124
          obtain ⟨y125, hy125, H⟩ := bnd H
          refine Tr.call0 (r := (.bool y125)) (wg rfl rfl rfl) rfl Tryz.call5 evl_nil (fun W hW => F_etchhousetop_alive_ok N y125 hy125 (HF.start _)) ?_
          refine Tr.va rfl (fun _ _ h1 h2 => run_pickT (h1.ev rfl) (h1.ev rfl)) ?_
          obtain rfl := Option.some.inj H
          exact Tr.nil (Tr.fin0 (.cons rfl .nil) (.cons rfl (.cons rfl .nil)))
        ·show Tr _ _ (LF [(105, (.bool g124))]) (LE [(4, ow Ay116_0 cy116_0 41 fl_TCount y116.1), (5, ow Ay118_0 cy118_0 41 fl_TCount y118.1)]) _
         refine Tr.asg rfl rfl ?_
         refine Tr.nil (Tr.normThen ?_)
         refine Tr.ret (Tr.retThen ?_)
         obtain rfl := Option.some.inj H
         exact Tr.out (m := [(.bool g124)]) [] (res_tmp rfl res_nil) (fun W hW => ⟨rfl, hW.low leB⟩)
       ·refine Tr.skip (Tr.normThen ?_)
        refine Tr.seq ?_
        refine Tr.sr ?_
        refine Tr.mv rfl rfl ?_
        refine Tr.va rfl (fun _ _ h1 h2 => run_len un_37 (h1.ev rfl)) ?_
        refine Tr.mv rfl rfl ?_
        refine Tr.va rfl (fun _ _ h1 h2 => run_len un_37 (h1.ev rfl)) ?_
        refine Tr.va rfl (fun _ _ h1 h2 => run_neq (h1.ev rfl) (h1.ev rfl)) ?_
        refine Tr.nil (Tr.normThen ?_)
        refine Tr.cond rfl H (fun H => ?_) (fun H => ?_)
        ·refine Tr.sr ?_
         refine Tr.asg rfl rfl ?_
         refine Tr.nil (Tr.normThen ?_)
         refine Tr.ret (Tr.retThen ?_)
         obtain rfl := Option.some.inj H
         exact Tr.out (m := [(.bool false)]) [] (res_tmp rfl res_nil) (fun W hW => ⟨rfl, hW.low leB⟩)
        ·refine Tr.skip (Tr.normThen ?_)
         refine Tr.seq ?_
         refine Tr.sr ?_
         refine Tr.mv rfl rfl ?_
         refine Tr.va rfl (fun _ _ h1 h2 => run_len un_37 (h1.ev rfl)) ?_
         refine Tr.mv rfl rfl ?_
         refine Tr.nil (Tr.normThen ?_)
         refine Tr.block ?_
         refine Tr.loop (σ := (List TCount) × Nat) (fun m w s => m = s.1.length + 1 ∧ s.1 = List.drop s.2 y116.1 ∧ s.2 ≤ y116.1.length ∧ F_etchhousetop_TopPartsForPanels_L2 N p2 y101 y118 s.1 s.2 = some r) (fun s => [(2, (iv p2)), (12, (iv y101.2.1)), (17, (.slice Ay116_0 (y116.1).length cy116_0)), (18, (.slice Ay118_0 (y118.1).length cy118_0)), (112, (iv (y116.1.length : Int))), (113, (iv (s.2 : Int)))]) (fun s => [(4, ow Ay116_0 cy116_0 41 fl_TCount y116.1), (5, ow Ay118_0 cy118_0 41 fl_TCount y118.1)]) (y116.1.length + 1) (y116.1, 0) ⟨rfl, rfl, Nat.zero_le _, H⟩ (.cons rfl (.cons rfl (.cons rfl (.cons rfl (.cons rfl (.cons rfl .nil)))))) (.cons rfl (.cons rfl .nil)) (fun _ _ h => absurd h.1 (by simp)) ?_
         intro w leL2 m s hs
         obtain ⟨restL2, iL2⟩ := s
         obtain ⟨hmL2, hdL2, hiL2, H⟩ := hs
         replace hdL2 : restL2 = List.drop iL2 y116.1 := hdL2
         replace H : F_etchhousetop_TopPartsForPanels_L2 N p2 y101 y118 restL2 iL2 = some r := H
         replace hmL2 : m + 1 = restL2.length + 1 := hmL2
         replace hT := hT.ext leL2.ext
         replace leB := leB.trans leL2
         replace leL1 := leL1.trans leL2
         obtain rfl : m = restL2.length := by omega
         clear hmL2
         show Tr _ _ (LF [(2, (iv p2)), (12, (iv y101.2.1)), (17, (.slice Ay116_0 (y116.1).length cy116_0)), (18, (.slice Ay118_0 (y118.1).length cy118_0)), (112, (iv (y116.1.length : Int))), (113, (iv (iL2 : Int)))]) (LE [(4, ow Ay116_0 cy116_0 41 fl_TCount y116.1), (5, ow Ay118_0 cy118_0 41 fl_TCount y118.1)]) _
         cases restL2 with
         | nil =>
          rw [F_etchhousetop_TopPartsForPanels_L2.eq_1] at H
          refine Tr.sr ?_
          refine Tr.va rfl (fun _ _ h1 h2 => run_lss (h1.ev rfl) (h1.ev rfl)) ?_
          refine Tr.nil (Tr.normThen ?_)
          refine Tr.seq ?_
          refine Tr.condF rfl (range_nil hdL2) ?_
          refine Tr.exit (Tr.exitThen (Tr.exitThen (Tr.exitBlock (Tr.normThen ?_))))
          refine Tr.sr ?_
          obtain ⟨y134, hy134, H⟩ := bnd H
          refine Tr.call0 (r := (.bool y134)) (wn rfl) rfl Tryz.call5 evl_nil (fun W hW => F_etchhousetop_alive_ok N y134 hy134 (HF.start _)) ?_
          refine Tr.asg rfl rfl ?_
          refine Tr.nil (Tr.normThen ?_)
          refine Tr.ret ?_
          obtain rfl := Option.some.inj H
          exact Tr.out (m := [(.bool y134)]) [] (res_tmp rfl res_nil) (fun W hW => ⟨rfl, hW.low leB⟩)
         | cons xL2 restL2 =>
          rw [F_etchhousetop_TopPartsForPanels_L2.eq_2] at H
          refine Tr.sr ?_
          refine Tr.va rfl (fun _ _ h1 h2 => run_lss (h1.ev rfl) (h1.ev rfl)) ?_
          refine Tr.nil (Tr.normThen ?_)
          refine Tr.seq ?_
          refine Tr.condT rfl (range_on hdL2) ?_
          refine Tr.skip (Tr.normThen ?_)
          refine Tr.seq ?_
          refine Tr.block ?_
          refine Tr.sr ?_
          refine Tr.mv rfl rfl ?_
          refine Tr.asg rfl rfl ?_
          refine Tr.nil (Tr.normThen ?_)
          refine Tr.seq ?_
          refine Tr.draw (by kernel_rfl) (by kernel_rfl) ?_
          refine Tq.mv rfl rfl ?_
          refine Tq.mv rfl rfl ?_
          refine Tq.va rfl (fun _ _ h1 h2 => run_indexAddr el_37 (h1.ev rfl) hgy116_0 (h1.ev rfl) (Int.natCast_nonneg _) (range_lt hdL2)) ?_
          refine Tq.va rfl (fun _ _ h1 h2 => run_fieldAddr fo_41_0 (h1.ev rfl)) ?_
          refine Tq.va rfl (fun _ _ h1 h2 => run_load1 ag_9 (h1.ev rfl) (CellsAt.drop (rdo ef_TCount (k := 4) h2 rfl (range_at hdL2)) 0) rfl) ?_
          refine Tq.mv rfl rfl ?_
          refine Tq.mv rfl rfl ?_
          obtain ⟨x135, hx135, H⟩ := bnd H
          obtain ⟨hx1350, hx1351, hx1352⟩ := idx_some hx135
          refine Tq.va rfl (fun _ _ h1 h2 => run_indexAddr el_37 (h1.ev rfl) hgy118_0 (h1.ev rfl) hx1350 hx1351) ?_
          refine Tq.va rfl (fun _ _ h1 h2 => run_fieldAddr fo_41_0 (h1.ev rfl)) ?_
          refine Tq.va rfl (fun _ _ h1 h2 => run_load1 ag_9 (h1.ev rfl) (CellsAt.drop (rdo ef_TCount (k := 5) h2 rfl hx1352) 0) rfl) ?_
          refine Tq.va rfl (fun _ _ h1 h2 => run_neqS (h1.ev rfl) (h1.ev rfl)) ?_
          refine Tq.mv rfl rfl ?_
          obtain ⟨g137, hg137, H⟩ := bnd H
          refine Tq.mid 16 [(2, (iv p2)), (12, (iv y101.2.1)), (17, (.slice Ay116_0 (y116.1).length cy116_0)), (18, (.slice Ay118_0 (y118.1).length cy118_0)), (112, (iv (y116.1.length : Int))), (113, (iv (iL2 : Int))), (143, (.bool g137))] ?_ ?_
          ·cases hg138 : (!sEq xL2.Type_ x135.Type_)
           ·rw [hg138] at hg137
            rw [if_neg (by decide)] at hg137
            have H := hg137
            refine Tq.val (wg rfl rfl rfl) rfl (fun _ _ h1 h2 => run_move (h1.ev rfl)) ?_
            refine Tq.val (wg rfl rfl rfl) rfl (fun _ _ h1 h2 => run_move (h1.ev rfl)) ?_
            refine Tq.val (wg rfl rfl rfl) rfl (fun _ _ h1 h2 => run_indexAddr el_37 (h1.ev rfl) hgy116_0 (h1.ev rfl) (Int.natCast_nonneg _) (range_lt hdL2)) ?_
            refine Tq.val (wg rfl rfl rfl) rfl (fun _ _ h1 h2 => run_fieldAddr fo_41_1 (h1.ev rfl)) ?_
            refine Tq.val (wg rfl rfl rfl) rfl (fun _ _ h1 h2 => run_load1 ag_3 (h1.ev rfl) (CellsAt.drop (rdo ef_TCount (k := 4) h2 rfl (range_at hdL2)) 1) rfl) ?_
            refine Tq.val (wg rfl rfl rfl) rfl (fun _ _ h1 h2 => run_move (h1.ev rfl)) ?_
            refine Tq.val (wg rfl rfl rfl) rfl (fun _ _ h1 h2 => run_move (h1.ev rfl)) ?_
            refine Tq.val (wg rfl rfl rfl) rfl (fun _ _ h1 h2 => run_add (h1.ev rfl) (h1.ev rfl)) ?_
            refine Tq.val (wg rfl rfl rfl) rfl (fun _ _ h1 h2 => run_mul (h1.ev rfl) (h1.ev rfl)) ?_
            refine Tq.val (wg rfl rfl rfl) rfl (fun _ _ h1 h2 => run_move (h1.ev rfl)) ?_
            refine Tq.val (wg rfl rfl rfl) rfl (fun _ _ h1 h2 => run_move (h1.ev rfl)) ?_
            obtain ⟨x138, hx138, H⟩ := bnd H
            obtain ⟨hx1380, hx1381, hx1382⟩ := idx_some hx138
            refine Tq.val (wg rfl rfl rfl) rfl (fun _ _ h1 h2 => run_indexAddr el_37 (h1.ev rfl) hgy118_0 (h1.ev rfl) hx1380 hx1381) ?_
            refine Tq.val (wg rfl rfl rfl) rfl (fun _ _ h1 h2 => run_fieldAddr fo_41_1 (h1.ev rfl)) ?_
            refine Tq.val (wg rfl rfl rfl) rfl (fun _ _ h1 h2 => run_load1 ag_3 (h1.ev rfl) (CellsAt.drop (rdo ef_TCount (k := 5) h2 rfl hx1382) 1) rfl) ?_
            refine Tq.val (wg rfl rfl rfl) rfl (fun _ _ h1 h2 => run_neq (h1.ev rfl) (h1.ev rfl)) ?_
            refine Tq.va rfl (fun _ _ h1 h2 => run_pickF (h1.ev rfl) (h1.ev rfl)) ?_
            obtain rfl := Option.some.inj H
            exact Tq.fin (.cons rfl (.cons rfl (.cons rfl (.cons rfl (.cons rfl (.cons rfl (.cons rfl .nil)))))))
           ·rw [hg138] at hg137
            rw [if_pos rfl] at hg137
            have H := hg137
            obtain rfl := Option.some.inj H
            refine Tq.pass rfl rfl rfl rfl rfl (by decide) ?_
            refine Tq.pass rfl rfl rfl rfl rfl (by decide) ?_
            refine Tq.pass rfl rfl rfl rfl rfl (by decide) ?_
            refine Tq.pass rfl rfl rfl rfl rfl (by decide) ?_
            refine Tq.pass rfl rfl rfl rfl rfl (by decide) ?_
            refine Tq.pass rfl rfl rfl rfl rfl (by decide) ?_
            refine Tq.pass rfl rfl rfl rfl rfl (by decide) ?_
            refine Tq.pass rfl rfl rfl rfl rfl (by decide) ?_
            refine Tq.pass rfl rfl rfl rfl rfl (by decide) ?_
            refine Tq.pass rfl rfl rfl rfl rfl (by decide) ?_
            refine Tq.pass rfl rfl rfl rfl rfl (by decide) ?_
            refine Tq.pass rfl rfl rfl rfl rfl (by decide) ?_
            refine Tq.pass rfl rfl rfl rfl rfl (by decide) ?_
            refine Tq.pass rfl rfl rfl rfl rfl (by decide) ?_
            refine Tq.pass rfl rfl rfl rfl rfl (by decide) ?_
            refine Tq.va rfl (fun _ _ h1 h2 => run_pickT (h1.ev rfl) (h1.ev rfl)) ?_
            exact Tq.fin (.cons rfl (.cons rfl (.cons rfl (.cons rfl (.cons rfl (.cons rfl (.cons rfl .nil)))))))
          ·refine Tq.nil (Tr.normThen ?_)
           refine Tr.cond rfl H (fun H => ?_) (fun H => ?_)
           ·refine Tr.sr ?_
            refine Tr.asg rfl rfl ?_
            refine Tr.nil (Tr.normThen ?_)
            refine Tr.ret (Tr.retBlock (Tr.retThen (Tr.retThen (Tr.retBlock (Tr.retThen ?_)))))
            obtain rfl := Option.some.inj H
            exact Tr.out (m := [(.bool false)]) [] (res_tmp rfl res_nil) (fun W hW => ⟨rfl, hW.low leB⟩)
           ·refine Tr.skip (Tr.normBlock (Tr.normThen ?_))
            refine Tr.region ?_
            refine Tr.va rfl (fun _ _ h1 h2 => run_add (h1.ev rfl) (h1.ev rfl)) ?_
            refine Tr.mv rfl rfl ?_
            refine Tr.nil ?_
            exact Tr.backThen leL2 (restL2, (iL2 + 1)) ⟨rfl, range_tl hdL2, range_lt hdL2, H⟩ (.cons rfl (.cons rfl (.cons rfl (.cons rfl (.cons rfl (.cons (congrArg (fun z => some (Value.int .i64 z)) (range_up hdL2 hgy116_0)) .nil)))))) (.cons rfl (.cons rfl .nil))
  | cons xL1 restL1 =>
   rw [F_etchhousetop_TopPartsForPanels_L1.eq_2] at H
   refine Tr.sr ?_
   refine Tr.va rfl (fun _ _ h1 h2 => run_lss (h1.ev rfl) (h1.ev rfl)) ?_
   refine Tr.nil (Tr.normThen ?_)
   refine Tr.seq ?_
   refine Tr.condT rfl (range_on hdL1) ?_
   refine Tr.skip (Tr.normThen ?_)
   refine Tr.seq ?_
   refine Tr.block ?_
   refine Tr.sr ?_
   refine Tr.va rfl (fun _ _ h1 h2 => run_indexAddr el_23 (h1.ev rfl) hp0_1.form (h1.ev rfl) (Int.natCast_nonneg _) (range_lt hdL1)) ?_
   refine Tr.va rfl (fun _ _ h1 h2 => run_loadN (cs := [(sv xL1.Board), (iv xL1.Quarters), (iv xL1.At.X), (iv xL1.At.Y)]) ag_36 sz_36 (h1.ev rfl) (CellsAt.take (rdF ef_TSlot hp0_1 (range_at hdL1) h2) 4) rfl) ?_
   refine Tr.alloc 6 (wn rfl) rfl ze_36 fun b139 => ?_
   refine Tr.store 6 (cs := [(sv xL1.Board), (iv xL1.Quarters), (iv xL1.At.X), (iv xL1.At.Y)]) [(sv xL1.Board), (iv xL1.Quarters), (iv xL1.At.X), (iv xL1.At.Y)] (wn rfl) rfl rfl rfl rfl sz_36 rfl rfl rfl ?_
   refine Tr.nil (Tr.normThen ?_)
   refine Tr.sr ?_
   refine Tr.va rfl (fun _ _ h1 h2 => run_fieldAddr fo_36_0 (h1.ev rfl)) ?_
   refine Tr.va rfl (fun _ _ h1 h2 => run_load1 ag_9 (h1.ev rfl) (rdb h2 (vs := [(sv xL1.Board), (iv xL1.Quarters), (iv xL1.At.X), (iv xL1.At.Y)]) (k := 6) rfl 0) rfl) ?_
   refine Tr.mv rfl rfl ?_
   refine Tr.va rfl (fun _ _ h1 h2 => run_eqlS (h1.ev rfl) (h1.ev rfl)) ?_
   refine Tr.nil (Tr.normThen ?_)
   refine Tr.cond rfl H (fun H => ?_) (fun H => ?_)
   ·refine Tr.region ?_
    refine Tr.mv rfl rfl ?_
    refine Tr.va rfl (fun _ _ h1 h2 => run_add (h1.ev rfl) (h1.ev rfl)) ?_
    refine Tr.asg rfl rfl ?_
    refine Tr.nil (Tr.normBlock (Tr.normThen ?_))
    refine Tr.region ?_
    refine Tr.va rfl (fun _ _ h1 h2 => run_add (h1.ev rfl) (h1.ev rfl)) ?_
    refine Tr.mv rfl rfl ?_
    refine Tr.nil ?_
    exact Tr.backThen leL1 (restL1, (iL1 + 1), (w64 (x115 + 1))) ⟨rfl, range_tl hdL1, range_lt hdL1, H⟩ (.cons rfl (.cons rfl (.cons rfl (.cons rfl (.cons rfl (.cons rfl (.cons rfl (.cons rfl (.cons rfl (.cons (congrArg (fun z => some (Value.int .i64 z)) (range_up hdL1 hp0_1.form)) .nil)))))))))) .nil
   ·refine Tr.skip (Tr.normBlock (Tr.normThen ?_))
    refine Tr.region ?_
    refine Tr.va rfl (fun _ _ h1 h2 => run_add (h1.ev rfl) (h1.ev rfl)) ?_
    refine Tr.mv rfl rfl ?_
    refine Tr.nil ?_
    exact Tr.backThen leL1 (restL1, (iL1 + 1), x115) ⟨rfl, range_tl hdL1, range_lt hdL1, H⟩ (.cons rfl (.cons rfl (.cons rfl (.cons rfl (.cons rfl (.cons rfl (.cons rfl (.cons rfl (.cons rfl (.cons (congrArg (fun z => some (Value.int .i64 z)) (range_up hdL1 hp0_1.form)) .nil)))))))))) .nil

end Go.Proofs.YtejfmgjfdnmmgaaGreatDoor
