/- The walks: each function computes its plain function. -/
import Derived.Test.YtmbjoffligicnaaGreatDoorXWa
namespace Go.Proofs.YtmbjoffligicnaaGreatDoor
open Go.RowKit
set_option maxRecDepth 100000
set_option maxHeartbeats 1000000
theorem F_strings_Trim_ok {w : Bs} (p0 : ByteArray) (p1 : ByteArray) (r : ByteArray) (H : trimF p0 p1 = some r) (hE : HF w w.W E0) : Calls Tryz.prog 87 [(sv p0), (sv p1)].toArray w.W fun e W' => e = .returned (sv r) ∧ HF w W' E0 :=
 trimF_rule (ρ := Tryz.trim87_ren) Tryz.trim87 (by kernel_rfl) H hE

theorem F_strconv_Atoi_ok {w : Bs} (p0 : ByteArray) (r : Int) (H : atoiF p0 = some r) (hE : HF w w.W E0) : Calls Tryz.prog 88 [(sv p0)].toArray w.W fun e W' => e = .returned (.tuple #[(iv r), .nilIface]) ∧ HF w W' E0 :=
 atoiF_rule (ρ := Tryz.atoi88_ren) Tryz.atoi88 H hE

theorem F_plot_Number_ok {w : Bs} (p0 : ByteArray) (r : (Int × Bool)) (H : F_plot_Number p0 = some r) (hE : HF w w.W E0) : Calls Tryz.prog 57 [(sv p0)].toArray w.W fun e W' => e = .returned (.tuple #[(iv r.1), (.bool r.2)]) ∧ HF w W' E0 := by
 unfold F_plot_Number at H
 have leB := Bs.Le.refl w
 refine Tr.enter (n := 37) Tryz.func57 rfl rfl rfl hE ?_
 refine Tr.sr ?_
 refine Tr.asg rfl rfl ?_
 refine Tr.asg rfl rfl ?_
 refine Tr.nil (Tr.normThen ?_)
 refine Tr.sr ?_
 refine Tr.mv rfl rfl ?_
 obtain ⟨y100, hy100, H⟩ := bnd H
 refine Tr.call0 (r := (sv y100)) (wn rfl) rfl Tryz.call86 (evl_cons rfl (evl_cons rfl evl_nil)) (fun W hW => F_strings_TrimPrefix_ok p0 (⟨#[45]⟩) y100 hy100 (HF.start _)) ?_
 refine Tr.asg rfl rfl ?_
 refine Tr.nil (Tr.normThen ?_)
 refine Tr.seq ?_
 refine Tr.sr ?_
 refine Tr.mv rfl rfl ?_
 refine Tr.va rfl (fun _ _ h1 h2 => run_lenS un_9 (h1.ev rfl)) ?_
 refine Tr.va rfl (fun _ _ h1 h2 => run_lss (h1.ev rfl) (h1.ev rfl)) ?_
 refine Tr.mv rfl rfl ?_
 refine Tr.mid0 4 [(0, (sv p0)), (4, (sv y100)), (16, (.bool ((decide ((y100.size : Int) < 1)) || (decide (9 < (y100.size : Int))))))] [] ?_ ?_
 ·cases hg107 : (decide ((y100.size : Int) < 1))
  ·refine Tr.val (wg rfl rfl rfl) rfl (fun _ _ h1 h2 => run_move (h1.ev rfl)) ?_
   refine Tr.val (wg rfl rfl rfl) rfl (fun _ _ h1 h2 => run_lenS un_9 (h1.ev rfl)) ?_
   refine Tr.val (wg rfl rfl rfl) rfl (fun _ _ h1 h2 => run_gtr (h1.ev rfl) (h1.ev rfl)) ?_
   refine Tr.va rfl (fun _ _ h1 h2 => run_pickF (h1.ev rfl) (h1.ev rfl)) ?_
   exact Tr.nil (Tr.fin0 (.cons rfl (.cons rfl (.cons rfl .nil))) .nil)
  ·refine Tr.pass rfl rfl rfl rfl rfl (by decide) ?_
   refine Tr.pass rfl rfl rfl rfl rfl (by decide) ?_
   refine Tr.pass rfl rfl rfl rfl rfl (by decide) ?_
   refine Tr.va rfl (fun _ _ h1 h2 => run_pickT (h1.ev rfl) (h1.ev rfl)) ?_
   exact Tr.nil (Tr.fin0 (.cons rfl (.cons rfl (.cons rfl .nil))) .nil)
 ·show Tr _ _ (LF [(0, (sv p0)), (4, (sv y100)), (16, (.bool ((decide ((y100.size : Int) < 1)) || (decide (9 < (y100.size : Int))))))]) (LE []) _
  refine Tr.mv rfl rfl ?_
  obtain ⟨g102, hg102, H⟩ := bnd H
  refine Tr.mid0 4 [(0, (sv p0)), (4, (sv y100)), (21, (.bool g102))] [] ?_ ?_
  ·cases hg107 : ((decide ((y100.size : Int) < 1)) || (decide (9 < (y100.size : Int))))
   ·rw [hg107] at hg102
    rw [if_neg (by decide)] at hg102
    have H := hg102
    refine Tr.val (wg rfl rfl rfl) rfl (fun _ _ h1 h2 => run_move (h1.ev rfl)) ?_
    obtain ⟨y103, hy103, H⟩ := bnd H
    refine Tr.call0 (r := (sv y103)) (wg rfl rfl rfl) rfl Tryz.call87 (evl_cons rfl (evl_cons rfl evl_nil)) (fun W hW => F_strings_Trim_ok y100 (⟨#[48, 49, 50, 51, 52, 53, 54, 55, 56, 57]⟩) y103 hy103 (HF.start _)) ?_
    refine Tr.val (wg rfl rfl rfl) rfl (fun _ _ h1 h2 => run_neqS (h1.ev rfl) (h1.ev rfl)) ?_
    refine Tr.va rfl (fun _ _ h1 h2 => run_pickF (h1.ev rfl) (h1.ev rfl)) ?_
    obtain rfl := Option.some.inj H
    exact Tr.nil (Tr.fin0 (.cons rfl (.cons rfl (.cons rfl .nil))) .nil)
   ·rw [hg107] at hg102
    rw [if_pos rfl] at hg102
    have H := hg102
    obtain rfl := Option.some.inj H
    refine Tr.pass rfl rfl rfl rfl rfl (by decide) ?_
    refine Tr.pass rfl rfl rfl rfl rfl (by decide) ?_
    refine Tr.pass rfl rfl rfl rfl rfl (by decide) ?_
    refine Tr.va rfl (fun _ _ h1 h2 => run_pickT (h1.ev rfl) (h1.ev rfl)) ?_
    exact Tr.nil (Tr.fin0 (.cons rfl (.cons rfl (.cons rfl .nil))) .nil)
  ·show Tr _ _ (LF [(0, (sv p0)), (4, (sv y100)), (21, (.bool g102))]) (LE []) _
   refine Tr.mv rfl rfl ?_
   obtain ⟨g105, hg105, H⟩ := bnd H
   refine Tr.mid0 8 [(0, (sv p0)), (30, (.bool g105))] [] ?_ ?_
   ·cases hg107 : g102
    ·rw [hg107] at hg105
     rw [if_neg (by decide)] at hg105
     have H := hg105
     refine Tr.val (wg rfl rfl rfl) rfl (fun _ _ h1 h2 => run_move (h1.ev rfl)) ?_
     obtain ⟨c106, hc106, H⟩ := bnd H
     refine Tr.val (wg rfl rfl rfl) rfl (fun _ _ h1 h2 => run_indexS un_9 (h1.ev rfl) (h1.ev rfl) hc106) ?_
     refine Tr.val (wg rfl rfl rfl) rfl (fun _ _ h1 h2 => run_eql (h1.ev rfl) (h1.ev rfl)) ?_
     refine Tr.val (wg rfl rfl rfl) rfl (fun _ _ h1 h2 => run_move (h1.ev rfl)) ?_
     refine Tr.mid0 3 [(0, (sv p0)), (22, (.bool false)), (29, (.bool ((c106 == 48) && (!sEq p0 (⟨#[48]⟩)))))] [] ?_ ?_
     ·cases hg106 : (c106 == 48)
      ·refine Tr.pass rfl rfl rfl rfl rfl (by decide) ?_
       refine Tr.pass rfl rfl rfl rfl rfl (by decide) ?_
       refine Tr.val (wg rfl rfl rfl) rfl (fun _ _ h1 h2 => run_pickF (h1.ev rfl) (h1.ev rfl)) ?_
       exact Tr.nil (Tr.fin0 (.cons rfl (.cons rfl (.cons rfl .nil))) .nil)
      ·refine Tr.val (wg rfl rfl rfl) rfl (fun _ _ h1 h2 => run_move (h1.ev rfl)) ?_
       refine Tr.val (wg rfl rfl rfl) rfl (fun _ _ h1 h2 => run_neqS (h1.ev rfl) (h1.ev rfl)) ?_
       refine Tr.val (wg rfl rfl rfl) rfl (fun _ _ h1 h2 => run_pickT (h1.ev rfl) (h1.ev rfl)) ?_
       exact Tr.nil (Tr.fin0 (.cons rfl (.cons rfl (.cons rfl .nil))) .nil)
     ·show Tr _ _ (LF [(0, (sv p0)), (22, (.bool false)), (29, (.bool ((c106 == 48) && (!sEq p0 (⟨#[48]⟩)))))]) (LE []) _
      refine Tr.va rfl (fun _ _ h1 h2 => run_pickF (h1.ev rfl) (h1.ev rfl)) ?_
      obtain rfl := Option.some.inj H
      exact Tr.nil (Tr.fin0 (.cons rfl (.cons rfl .nil)) .nil)
    ·rw [hg107] at hg105
     rw [if_pos rfl] at hg105
     have H := hg105
     obtain rfl := Option.some.inj H
     refine Tr.pass rfl rfl rfl rfl rfl (by decide) ?_
     refine Tr.pass rfl rfl rfl rfl rfl (by decide) ?_
     refine Tr.pass rfl rfl rfl rfl rfl (by decide) ?_
     refine Tr.pass rfl rfl rfl rfl rfl (by decide) ?_
     refine Tr.passU rfl rfl rfl rfl (by decide) ?_
     refine Tr.passU rfl rfl rfl rfl (by decide) ?_
     refine Tr.pass rfl rfl rfl rfl rfl (by decide) ?_
     refine Tr.va rfl (fun _ _ h1 h2 => run_pickT (h1.ev rfl) (h1.ev rfl)) ?_
     exact Tr.nil (Tr.fin0 (.cons rfl (.cons rfl .nil)) .nil)
   ·show Tr _ _ (LF [(0, (sv p0)), (30, (.bool g105))]) (LE []) _
    refine Tr.nil (Tr.normThen ?_)
    refine Tr.cond rfl H (fun H => ?_) (fun H => ?_)
    ·refine Tr.sr ?_
     refine Tr.asg rfl rfl ?_
     refine Tr.asg rfl rfl ?_
     refine Tr.nil (Tr.normThen ?_)
     refine Tr.ret (Tr.retThen ?_)
     obtain rfl := Option.some.inj H
     exact Tr.out (m := [(iv 0), (.bool false)]) [] (res_tmp rfl (res_tmp rfl res_nil)) (fun W hW => ⟨rfl, hW.low leB⟩)
    ·refine Tr.skip (Tr.normThen ?_)
     refine Tr.sr ?_
     refine Tr.mv rfl rfl ?_
     obtain ⟨y107, hy107, H⟩ := bnd H
     refine Tr.call0 (r := (.tuple #[(iv y107), .nilIface])) (wn rfl) rfl Tryz.call88 (evl_cons rfl evl_nil) (fun W hW => F_strconv_Atoi_ok p0 y107 hy107 (HF.start _)) ?_
     refine Tr.mv rfl rfl ?_
     refine Tr.va rfl (fun _ _ h1 h2 => run_extract (h1.ev rfl) rfl) ?_
     refine Tr.va rfl (fun _ _ h1 h2 => run_extract (h1.ev rfl) rfl) ?_
     refine Tr.asg rfl rfl ?_
     refine Tr.asg rfl rfl ?_
     refine Tr.nil (Tr.normThen ?_)
     refine Tr.sr ?_
     refine Tr.mv rfl rfl ?_
     refine Tr.asg rfl rfl ?_
     refine Tr.asg rfl rfl ?_
     refine Tr.nil (Tr.normThen ?_)
     refine Tr.ret ?_
     obtain rfl := Option.some.inj H
     exact Tr.out (m := [(iv y107), (.bool true)]) [] (res_tmp rfl (res_tmp rfl res_nil)) (fun W hW => ⟨rfl, hW.low leB⟩)

theorem F_plot_Numbers_ok {w : Bs} (p0 : (List ByteArray)) (Ap0_0 : Option Addr) (cp0_0 : Nat) (hp0_0 : Sl w.R w.W fl_str Ap0_0 cp0_0 p0) (r : ((List Int) × Bool)) (H : F_plot_Numbers p0 = some r) (hE : HF w w.W (LEn [emp])) : Calls Tryz.prog 32 [(.slice Ap0_0 (p0).length cp0_0)].toArray w.W fun e W' => ∃ u : (Option Addr × Nat), e = .returned (.tuple #[(.slice u.1 (r.1).length u.2), (.bool r.2)]) ∧ (SlF u.1 (r.1).length u.2) ∧ HF w W' (LEn [ow u.1 u.2 3 fl_i64 r.1]) := by
 unfold F_plot_Numbers at H
 have leB := Bs.Le.refl w
 refine Tr.enter (n := 28) Tryz.func32 rfl rfl rfl hE ?_
 refine Tr.sr ?_
 refine Tr.asg rfl rfl ?_
 refine Tr.nilOwn 1 3 fl_i64 ?_
 show Tr _ _ (uf _ 2 (.slice none (([] : List Int)).length 0)) _ _
 refine Tr.asg rfl rfl ?_
 refine Tr.nil (Tr.normThen ?_)
 refine Tr.sr ?_
 refine Tr.asg rfl rfl ?_
 refine Tr.nilOwn 2 3 fl_i64 ?_
 show Tr _ _ (uf _ 4 (.slice none (([] : List Int)).length 0)) _ _
 refine Tr.nil (Tr.normThen ?_)
 refine Tr.seq ?_
 refine Tr.sr ?_
 refine Tr.mv rfl rfl ?_
 refine Tr.va rfl (fun _ _ h1 h2 => run_len un_40 (h1.ev rfl)) ?_
 refine Tr.mv rfl rfl ?_
 refine Tr.nil (Tr.normThen ?_)
 refine Tr.block ?_
 refine Tr.loop (σ := (List ByteArray) × Nat × (List Int) × (Option Addr) × Nat) (fun m w s => m = s.1.length + 1 ∧ s.1 = List.drop s.2.1 p0 ∧ s.2.1 ≤ p0.length ∧ F_plot_Numbers_L1 s.1 s.2.1 s.2.2.1 = some r ∧ SlF s.2.2.2.1 (s.2.2.1).length s.2.2.2.2) (fun s => [(4, (.slice s.2.2.2.1 (s.2.2.1).length s.2.2.2.2)), (9, (.slice Ap0_0 (p0).length cp0_0)), (10, (iv (p0.length : Int))), (11, (iv (s.2.1 : Int)))]) (fun s => [(2, ow s.2.2.2.1 s.2.2.2.2 3 fl_i64 s.2.2.1)]) (p0.length + 1) (p0, 0, ([] : List Int), none, 0) ⟨rfl, rfl, Nat.zero_le _, H, slf_nil⟩ (.cons rfl (.cons rfl (.cons rfl (.cons rfl .nil)))) (.cons rfl .nil) (fun _ _ h => absurd h.1 (by simp)) ?_
 intro w leL1 m s hs
 obtain ⟨restL1, iL1, l114, Al114, cl114⟩ := s
 obtain ⟨hmL1, hdL1, hiL1, H, hl114⟩ := hs
 replace hdL1 : restL1 = List.drop iL1 p0 := hdL1
 replace H : F_plot_Numbers_L1 restL1 iL1 l114 = some r := H
 replace hmL1 : m + 1 = restL1.length + 1 := hmL1
 replace hp0_0 := hp0_0.leR leL1
 replace leB := leB.trans leL1
 replace hl114 : SlF Al114 (l114).length cl114 := hl114
 obtain rfl : m = restL1.length := by omega
 clear hmL1
 show Tr _ _ (LF [(4, (.slice Al114 (l114).length cl114)), (9, (.slice Ap0_0 (p0).length cp0_0)), (10, (iv (p0.length : Int))), (11, (iv (iL1 : Int)))]) (LE [(2, ow Al114 cl114 3 fl_i64 l114)]) _
 cases restL1 with
 | nil =>
  rw [F_plot_Numbers_L1.eq_1] at H
  refine Tr.sr ?_
  refine Tr.va rfl (fun _ _ h1 h2 => run_lss (h1.ev rfl) (h1.ev rfl)) ?_
  refine Tr.nil (Tr.normThen ?_)
  refine Tr.seq ?_
  refine Tr.condF rfl (range_nil hdL1) ?_
  refine Tr.exit (Tr.exitThen (Tr.exitThen (Tr.exitBlock (Tr.normThen ?_))))
  refine Tr.sr ?_
  refine Tr.mv rfl rfl ?_
  refine Tr.asg rfl rfl ?_
  refine Tr.asg rfl rfl ?_
  refine Tr.nil (Tr.normThen ?_)
  refine Tr.ret ?_
  obtain rfl := Option.some.inj H
  exact Tr.out (m := [(.slice Al114 (l114).length cl114), (.bool true)]) [] (res_tmp rfl (res_tmp rfl res_nil)) (fun W hW => ⟨(Al114, cl114), rfl, hl114, HF.lowE leB (hW.pick (ks := [2]) (by decide) (pk_cons rfl pk_nil)) ⟨ow_any _ _ _ _ tr_i64, trivial⟩⟩)
 | cons xL1 restL1 =>
  rw [F_plot_Numbers_L1.eq_2] at H
  refine Tr.sr ?_
  refine Tr.va rfl (fun _ _ h1 h2 => run_lss (h1.ev rfl) (h1.ev rfl)) ?_
  refine Tr.nil (Tr.normThen ?_)
  refine Tr.seq ?_
  refine Tr.condT rfl (range_on hdL1) ?_
  refine Tr.skip (Tr.normThen ?_)
  refine Tr.seq ?_
  refine Tr.block ?_
  refine Tr.sr ?_
  refine Tr.va rfl (fun _ _ h1 h2 => run_indexAddr el_40 (h1.ev rfl) hp0_0.form (h1.ev rfl) (Int.natCast_nonneg _) (range_lt hdL1)) ?_
  refine Tr.va rfl (fun _ _ h1 h2 => run_load1 ag_9 (h1.ev rfl) (rdF ef_str hp0_0 (range_at hdL1) h2) rfl) ?_
  refine Tr.asg rfl rfl ?_
  refine Tr.nil (Tr.normThen ?_)
  refine Tr.sr ?_
  refine Tr.mv rfl rfl ?_
  obtain ⟨y115, hy115, H⟩ := bnd H
  refine Tr.call0 (r := (.tuple #[(iv y115.1), (.bool y115.2)])) (wn rfl) rfl Tryz.call57 (evl_cons rfl evl_nil) (fun W hW => F_plot_Number_ok xL1 y115 hy115 (HF.start _)) ?_
  refine Tr.mv rfl rfl ?_
  refine Tr.va rfl (fun _ _ h1 h2 => run_extract (h1.ev rfl) rfl) ?_
  refine Tr.va rfl (fun _ _ h1 h2 => run_extract (h1.ev rfl) rfl) ?_
  refine Tr.asg rfl rfl ?_
  refine Tr.asg rfl rfl ?_
  refine Tr.nil (Tr.normThen ?_)
  refine Tr.seq ?_
  refine Tr.sr ?_
  refine Tr.mv rfl rfl ?_
  refine Tr.va rfl (fun _ _ h1 h2 => run_not (h1.ev rfl)) ?_
  refine Tr.nil (Tr.normThen ?_)
  refine Tr.cond rfl H (fun H => ?_) (fun H => ?_)
  ·refine Tr.sr ?_
   refine Tr.asg rfl rfl ?_
   refine Tr.nilOwn 7 3 fl_i64 ?_
   show Tr _ _ (uf _ 2 (.slice none (([] : List Int)).length 0)) _ _
   refine Tr.asg rfl rfl ?_
   refine Tr.nil (Tr.normThen ?_)
   refine Tr.ret (Tr.retThen (Tr.retBlock (Tr.retThen (Tr.retThen (Tr.retBlock (Tr.retThen ?_))))))
   obtain rfl := Option.some.inj H
   exact Tr.out (m := [(.slice none (([] : List Int)).length 0), (.bool false)]) [] (res_tmp rfl (res_tmp rfl res_nil)) (fun W hW => ⟨(none, 0), rfl, slf_nil, HF.lowE leB (hW.pick (ks := [7]) (by decide) (pk_cons rfl pk_nil)) ⟨ow_any _ _ _ _ tr_i64, trivial⟩⟩)
  ·refine Tr.skip (Tr.normThen ?_)
   refine Tr.region ?_
   refine Tr.mv rfl rfl ?_
   refine Tr.mv rfl rfl ?_
   refine Tr.buildSlice 8 (e := 3) (vs := [(0, (iv y115.1))]) (cs := [(iv y115.1)]) (wn rfl) rfl (evs_cons rfl evs_nil) (by kernel_rfl) fun b116 => ?_
   obtain ⟨l117, hl117, H⟩ := bnd H
   refine Tr.append 2 (t := fl_i64) (l := l114) (l2 := [y115.1]) (wn rfl) rfl rfl rfl rfl (fun W hW => ⟨[[(iv y115.1)]], (.cons ⟨(), trivial, rfl⟩ .nil), rdb hW (vs := [(iv y115.1)]) (k := 8) rfl 0⟩) un_64 sz_3 zl_3 (by decide) by_3 rfl hl117 fun Al117 cl117 hAl117 => ?_
   refine Tr.asg rfl rfl ?_
   refine Tr.nil (Tr.normBlock (Tr.normThen ?_))
   refine Tr.region ?_
   refine Tr.va rfl (fun _ _ h1 h2 => run_add (h1.ev rfl) (h1.ev rfl)) ?_
   refine Tr.mv rfl rfl ?_
   refine Tr.nil ?_
   exact Tr.backThen leL1 (restL1, (iL1 + 1), l117, Al117, cl117) ⟨rfl, range_tl hdL1, range_lt hdL1, H, hAl117⟩ (.cons rfl (.cons rfl (.cons rfl (.cons (congrArg (fun z => some (Value.int .i64 z)) (range_up hdL1 hp0_0.form)) .nil)))) (.cons rfl .nil)

theorem F_panel_readLine_ok {w : Bs} (hT : Tab Tryz.prog w) (p0 : TPanel) (Ap0_0 : Option Addr) (cp0_0 : Nat) (Ap0_1 : Option Addr) (cp0_1 : Nat) (Ap0_2 : Option Addr) (cp0_2 : Nat) (bp0 : Nat) (p1 : Int) (p2 : ByteArray) (r : (Bool × Int × Int × Int × Int × (List TBoardKind) × (List TSlot) × (List TPoint))) (H : F_panel_readLine p0 p1 p2 = some r) (hE : HF w w.W (LEn [bx bp0 #[(iv p0.W), (iv p0.H), (iv p0.Rail), (iv p0.Gap), (.slice Ap0_0 (p0.Kinds).length cp0_0), (.slice Ap0_1 (p0.Slots).length cp0_1), (.slice Ap0_2 (p0.Marks).length cp0_2)] 26, ow Ap0_0 cp0_0 49 fl_TBoardKind p0.Kinds, ow Ap0_1 cp0_1 53 fl_TSlot p0.Slots, ow Ap0_2 cp0_2 51 fl_TPoint p0.Marks])) : Calls Tryz.prog 18 [(.pointer (some ⟨bp0, 0, none⟩)), (iv p1), (sv p2)].toArray w.W fun e W' => ∃ u : (Option Addr × Nat) × (Option Addr × Nat) × (Option Addr × Nat), e = .returned (.bool r.1) ∧ (SlF u.1.1 (r.2.2.2.2.2.1).length u.1.2 ∧ SlF u.2.1.1 (r.2.2.2.2.2.2.1).length u.2.1.2 ∧ SlF u.2.2.1 (r.2.2.2.2.2.2.2).length u.2.2.2) ∧ HF w W' (LEn [bx bp0 #[(iv r.2.1), (iv r.2.2.1), (iv r.2.2.2.1), (iv r.2.2.2.2.1), (.slice u.1.1 (r.2.2.2.2.2.1).length u.1.2), (.slice u.2.1.1 (r.2.2.2.2.2.2.1).length u.2.1.2), (.slice u.2.2.1 (r.2.2.2.2.2.2.2).length u.2.2.2)] 26, ow u.1.1 u.1.2 49 fl_TBoardKind r.2.2.2.2.2.1, ow u.2.1.1 u.2.1.2 53 fl_TSlot r.2.2.2.2.2.2.1, ow u.2.2.1 u.2.2.2 51 fl_TPoint r.2.2.2.2.2.2.2]) := by
 unfold F_panel_readLine at H
 have hfhp0_0 := (hE.sl (k := 1) rfl).form
 have hfhp0_1 := (hE.sl (k := 2) rfl).form
 have hfhp0_2 := (hE.sl (k := 3) rfl).form
 have leB := Bs.Le.refl w
 refine Tr.enter (n := 190) Tryz.func18 rfl rfl rfl hE ?_
 refine Tr.sr ?_
 refine Tr.asg rfl rfl ?_
 refine Tr.nil (Tr.normThen ?_)
 refine Tr.sr ?_
 refine Tr.mv rfl rfl ?_
 obtain ⟨y100, hy100, H⟩ := bnd H
 refine Tr.callM [4] [emp] (U := (Option Addr × Nat)) (fun u => (.slice u.1 (y100).length u.2)) (fun u => SlF u.1 (y100).length u.2) (fun u => [ow u.1 u.2 9 fl_str y100]) rfl (pk_cons rfl pk_nil) (fun _ => rfl) (wn rfl) rfl Tryz.call28 (evl_cons rfl (evl_cons rfl evl_nil)) (fun W hW hp hE => F_strings_Split_ok (hT.ext (hW.extS hp)) p2 (⟨#[32]⟩) y100 hy100 hE) ?_
 intro u hu
 obtain ⟨Ay100_0, cy100_0⟩ := u
 have gy100_0 := hu
 have hgy100_0 : SlF Ay100_0 (y100).length cy100_0 := gy100_0 --@phi
 show Tr _ _ (uf _ 12 (.slice Ay100_0 (y100).length cy100_0)) (up _ 4 (ow Ay100_0 cy100_0 9 fl_str y100)) _
 refine Tr.asg rfl rfl ?_
 refine Tr.nil (Tr.normThen ?_)
 refine Tr.seq ?_
 refine Tr.sr ?_
 refine Tr.mv rfl rfl ?_
 obtain ⟨y102, hy102, H⟩ := bnd H
 refine Tr.call0 (r := (.bool y102)) (wn rfl) rfl Tryz.call29 (evl_cons rfl (evl_cons rfl evl_nil)) (fun W hW => F_slices_ContainsFunc_string_ok y100 Ay100_0 cy100_0 (hW.slCall (k := 4) rfl) (fun z0 => F_panel_readLine_1 z0) 30 [] Tryz.call30 (fun w' he z0 y hy => F_panel_readLine_1_ok z0 y hy (HF.start _)) y102 hy102 (HF.start _)) ?_
 refine Tr.nil (Tr.normThen ?_)
 refine Tr.cond rfl H (fun H => ?_) (fun H => ?_)
 ·refine Tr.sr ?_
  refine Tr.asg rfl rfl ?_
  refine Tr.nil (Tr.normThen ?_)
  refine Tr.ret (Tr.retThen ?_)
  obtain rfl := Option.some.inj H
  exact Tr.out (m := [(.bool false)]) [] (res_tmp rfl res_nil) (fun W hW => ⟨((Ap0_0, cp0_0), (Ap0_1, cp0_1), (Ap0_2, cp0_2)), rfl, ⟨hfhp0_0, hfhp0_1, hfhp0_2⟩, HF.lowE leB (hW.pick (ks := [0, 1, 2, 3]) (by decide) (pk_cons rfl (pk_cons rfl (pk_cons rfl (pk_cons rfl pk_nil))))) ⟨bx_any _ _ _, ow_any _ _ _ _ tr_TBoardKind, ow_any _ _ _ _ tr_TSlot, ow_any _ _ _ _ tr_TPoint, trivial⟩⟩)
 ·refine Tr.skip (Tr.normThen ?_)
  refine Tr.sr ?_
  refine Tr.asg rfl rfl ?_
  refine Tr.nil (Tr.normThen ?_)
  have leJ108 := Bs.Le.refl w
  refine Tr.cutJ (σ := Int) (fun w s => F_panel_readLine_J2 p0 p1 y100 s = some r) (fun s => [(0, (.pointer (some ⟨bp0, 0, none⟩))), (1, (iv p1)), (7, (.slice Ay100_0 (y100).length cy100_0)), (8, (iv s))]) (fun s => [(0, bx bp0 #[(iv p0.W), (iv p0.H), (iv p0.Rail), (iv p0.Gap), (.slice Ap0_0 (p0.Kinds).length cp0_0), (.slice Ap0_1 (p0.Slots).length cp0_1), (.slice Ap0_2 (p0.Marks).length cp0_2)] 26), (1, ow Ap0_0 cp0_0 49 fl_TBoardKind p0.Kinds), (2, ow Ap0_1 cp0_1 53 fl_TSlot p0.Slots), (3, ow Ap0_2 cp0_2 51 fl_TPoint p0.Marks), (4, ow Ay100_0 cy100_0 9 fl_str y100)]) ?_ ?_
  ·refine Tr.sr ?_
   refine Tr.mv rfl rfl ?_
   obtain ⟨x179, hx179, H⟩ := bnd H
   obtain ⟨hx1790, hx1791, hx1792⟩ := idx_some hx179
   refine Tr.va rfl (fun _ _ h1 h2 => run_indexAddr el_40 (h1.ev rfl) hgy100_0 (h1.ev rfl) hx1790 hx1791) ?_
   refine Tr.va rfl (fun _ _ h1 h2 => run_load1 ag_9 (h1.ev rfl) (rdo ef_str (k := 4) h2 rfl hx1792) rfl) ?_
   refine Tr.va rfl (fun _ _ h1 h2 => run_eqlS (h1.ev rfl) (h1.ev rfl)) ?_
   refine Tr.mv rfl rfl ?_
   obtain ⟨g181, hg181, H⟩ := bnd H
   refine Tr.mid0 5 [(0, (.pointer (some ⟨bp0, 0, none⟩))), (1, (iv p1)), (7, (.slice Ay100_0 (y100).length cy100_0)), (8, (iv 1)), (24, (.bool g181))] [(0, bx bp0 #[(iv p0.W), (iv p0.H), (iv p0.Rail), (iv p0.Gap), (.slice Ap0_0 (p0.Kinds).length cp0_0), (.slice Ap0_1 (p0.Slots).length cp0_1), (.slice Ap0_2 (p0.Marks).length cp0_2)] 26), (1, ow Ap0_0 cp0_0 49 fl_TBoardKind p0.Kinds), (2, ow Ap0_1 cp0_1 53 fl_TSlot p0.Slots), (3, ow Ap0_2 cp0_2 51 fl_TPoint p0.Marks), (4, ow Ay100_0 cy100_0 9 fl_str y100)] ?_ ?_
   ·cases hg182 : (sEq x179 (⟨#[98, 111, 97, 114, 100]⟩))
    ·rw [hg182] at hg181
     rw [if_neg (by decide)] at hg181
     have H := hg181
     refine Tr.val (wg rfl rfl rfl) rfl (fun _ _ h1 h2 => run_move (h1.ev rfl)) ?_
     obtain ⟨x182, hx182, H⟩ := bnd H
     obtain ⟨hx1820, hx1821, hx1822⟩ := idx_some hx182
     refine Tr.val (wg rfl rfl rfl) rfl (fun _ _ h1 h2 => run_indexAddr el_40 (h1.ev rfl) hgy100_0 (h1.ev rfl) hx1820 hx1821) ?_
     refine Tr.val (wg rfl rfl rfl) rfl (fun _ _ h1 h2 => run_load1 ag_9 (h1.ev rfl) (rdo ef_str (k := 4) h2 rfl hx1822) rfl) ?_
     refine Tr.val (wg rfl rfl rfl) rfl (fun _ _ h1 h2 => run_eqlS (h1.ev rfl) (h1.ev rfl)) ?_
     refine Tr.va rfl (fun _ _ h1 h2 => run_pickF (h1.ev rfl) (h1.ev rfl)) ?_
     obtain rfl := Option.some.inj H
     exact Tr.nil (Tr.fin0 (.cons rfl (.cons rfl (.cons rfl (.cons rfl (.cons rfl .nil))))) (.cons rfl (.cons rfl (.cons rfl (.cons rfl (.cons rfl .nil))))))
    ·rw [hg182] at hg181
     rw [if_pos rfl] at hg181
     have H := hg181
     obtain rfl := Option.some.inj H
     refine Tr.pass rfl rfl rfl rfl rfl (by decide) ?_
     refine Tr.pass rfl rfl rfl rfl rfl (by decide) ?_
     refine Tr.pass rfl rfl rfl rfl rfl (by decide) ?_
     refine Tr.pass rfl rfl rfl rfl rfl (by decide) ?_
     refine Tr.va rfl (fun _ _ h1 h2 => run_pickT (h1.ev rfl) (h1.ev rfl)) ?_
     exact Tr.nil (Tr.fin0 (.cons rfl (.cons rfl (.cons rfl (.cons rfl (.cons rfl .nil))))) (.cons rfl (.cons rfl (.cons rfl (.cons rfl (.cons rfl .nil))))))
   ·show Tr _ _ (LF [(0, (.pointer (some ⟨bp0, 0, none⟩))), (1, (iv p1)), (7, (.slice Ay100_0 (y100).length cy100_0)), (8, (iv 1)), (24, (.bool g181))]) (LE [(0, bx bp0 #[(iv p0.W), (iv p0.H), (iv p0.Rail), (iv p0.Gap), (.slice Ap0_0 (p0.Kinds).length cp0_0), (.slice Ap0_1 (p0.Slots).length cp0_1), (.slice Ap0_2 (p0.Marks).length cp0_2)] 26), (1, ow Ap0_0 cp0_0 49 fl_TBoardKind p0.Kinds), (2, ow Ap0_1 cp0_1 53 fl_TSlot p0.Slots), (3, ow Ap0_2 cp0_2 51 fl_TPoint p0.Marks), (4, ow Ay100_0 cy100_0 9 fl_str y100)]) _
    refine Tr.nil (Tr.normThen ?_)
    refine Tr.cond rfl H (fun H => ?_) (fun H => ?_)
    ·refine Tr.region ?_
     refine Tr.asg rfl rfl ?_
     refine Tr.nil ?_
     exact Tr.backThen leJ108 2 H (.cons rfl (.cons rfl (.cons rfl (.cons rfl .nil)))) (.cons rfl (.cons rfl (.cons rfl (.cons rfl (.cons rfl .nil)))))
    ·refine Tr.skip ?_
     exact Tr.backThen leJ108 1 H (.cons rfl (.cons rfl (.cons rfl (.cons rfl .nil)))) (.cons rfl (.cons rfl (.cons rfl (.cons rfl (.cons rfl .nil)))))
  ·intro w x107 hlJ109 hs
   have H := hs
   replace H : F_panel_readLine_J2 p0 p1 y100 x107 = some r := H
   replace hT := hT.ext hlJ109.ext
   replace leB := leB.trans hlJ109
   unfold F_panel_readLine_J2 at H
   show Tr _ _ (LF [(0, (.pointer (some ⟨bp0, 0, none⟩))), (1, (iv p1)), (7, (.slice Ay100_0 (y100).length cy100_0)), (8, (iv x107))]) (LE [(0, bx bp0 #[(iv p0.W), (iv p0.H), (iv p0.Rail), (iv p0.Gap), (.slice Ap0_0 (p0.Kinds).length cp0_0), (.slice Ap0_1 (p0.Slots).length cp0_1), (.slice Ap0_2 (p0.Marks).length cp0_2)] 26), (1, ow Ap0_0 cp0_0 49 fl_TBoardKind p0.Kinds), (2, ow Ap0_1 cp0_1 53 fl_TSlot p0.Slots), (3, ow Ap0_2 cp0_2 51 fl_TPoint p0.Marks), (4, ow Ay100_0 cy100_0 9 fl_str y100)]) _
   refine Tr.sr ?_
   refine Tr.mv rfl rfl ?_
   refine Tr.mv rfl rfl ?_
   refine Tr.mv rfl rfl ?_
   refine Tr.va rfl (fun _ _ h1 h2 => run_len un_40 (h1.ev rfl)) ?_
   refine Tr.va rfl (fun _ _ h1 h2 => run_min (h1.ev rfl) (h1.ev rfl) _) ?_
   obtain ⟨l110, hl110, H⟩ := bnd H
   refine Tr.va rfl (fun _ _ h1 h2 => run_cutL el_40 (h1.ev rfl) hgy100_0 (h1.ev rfl) hl110) ?_
   obtain ⟨y111, hy111, H⟩ := bnd H
   refine Tr.callM [5] [emp] (U := (Option Addr × Nat)) (fun u => (.tuple #[(.slice u.1 (y111.1).length u.2), (.bool y111.2)])) (fun u => SlF u.1 (y111.1).length u.2) (fun u => [ow u.1 u.2 3 fl_i64 y111.1]) rfl (pk_cons rfl pk_nil) (fun _ => rfl) (wn rfl) rfl Tryz.call32 (evl_cons rfl evl_nil) (fun W hW hp hE => F_plot_Numbers_ok l110 (cutA Ay100_0 (min x107 (y100.length : Int)).toNat 1 cy100_0) (cy100_0 - (min x107 (y100.length : Int)).toNat) (Sl.cut (hW.slS (k := 4) rfl hp rfl) hl110) y111 hy111 hE) ?_
   intro u hu
   obtain ⟨Ay111_0, cy111_0⟩ := u
   have gy111_0 := hu
   have hgy111_0 : SlF Ay111_0 (y111.1).length cy111_0 := gy111_0 --@phi
   show Tr _ _ (uf _ 32 (.tuple #[(.slice Ay111_0 (y111.1).length cy111_0), (.bool y111.2)])) (up _ 5 (ow Ay111_0 cy111_0 3 fl_i64 y111.1)) _
   refine Tr.mv rfl rfl ?_
   refine Tr.va rfl (fun _ _ h1 h2 => run_extract (h1.ev rfl) rfl) ?_
   refine Tr.va rfl (fun _ _ h1 h2 => run_extract (h1.ev rfl) rfl) ?_
   refine Tr.asg rfl rfl ?_
   refine Tr.asg rfl rfl ?_
   refine Tr.nil (Tr.normThen ?_)
   refine Tr.seq ?_
   refine Tr.sr ?_
   refine Tr.mv rfl rfl ?_
   refine Tr.va rfl (fun _ _ h1 h2 => run_not (h1.ev rfl)) ?_
   refine Tr.mv rfl rfl ?_
   obtain ⟨g114, hg114, H⟩ := bnd H
   refine Tr.mid0 8 [(0, (.pointer (some ⟨bp0, 0, none⟩))), (7, (.slice Ay100_0 (y100).length cy100_0)), (9, (.slice Ay111_0 (y111.1).length cy111_0)), (45, (.bool g114))] [(0, bx bp0 #[(iv p0.W), (iv p0.H), (iv p0.Rail), (iv p0.Gap), (.slice Ap0_0 (p0.Kinds).length cp0_0), (.slice Ap0_1 (p0.Slots).length cp0_1), (.slice Ap0_2 (p0.Marks).length cp0_2)] 26), (1, ow Ap0_0 cp0_0 49 fl_TBoardKind p0.Kinds), (2, ow Ap0_1 cp0_1 53 fl_TSlot p0.Slots), (3, ow Ap0_2 cp0_2 51 fl_TPoint p0.Marks), (4, ow Ay100_0 cy100_0 9 fl_str y100), (5, ow Ay111_0 cy111_0 3 fl_i64 y111.1)] ?_ ?_
   ·cases hg178 : (!y111.2)
    ·rw [hg178] at hg114
     rw [if_neg (by decide)] at hg114
     have H := hg114
     refine Tr.val (wg rfl rfl rfl) rfl (fun _ _ h1 h2 => run_move (h1.ev rfl)) ?_
     refine Tr.val (wg rfl rfl rfl) rfl (fun _ _ h1 h2 => run_eql (h1.ev rfl) (h1.ev rfl)) ?_
     refine Tr.val (wg rfl rfl rfl) rfl (fun _ _ h1 h2 => run_move (h1.ev rfl)) ?_
     obtain ⟨x115, hx115, H⟩ := bnd H
     obtain ⟨hx1150, hx1151, hx1152⟩ := idx_some hx115
     refine Tr.val (wg rfl rfl rfl) rfl (fun _ _ h1 h2 => run_indexAddr el_40 (h1.ev rfl) hgy100_0 (h1.ev rfl) hx1150 hx1151) ?_
     refine Tr.val (wg rfl rfl rfl) rfl (fun _ _ h1 h2 => run_load1 ag_9 (h1.ev rfl) (rdo ef_str (k := 4) h2 rfl hx1152) rfl) ?_
     refine Tr.val (wg rfl rfl rfl) rfl (fun _ _ h1 h2 => run_eqlS (h1.ev rfl) (h1.ev rfl)) ?_
     refine Tr.val (wg rfl rfl rfl) rfl (fun _ _ h1 h2 => run_neqB un_4 (h1.ev rfl) (h1.ev rfl)) ?_
     refine Tr.va rfl (fun _ _ h1 h2 => run_pickF (h1.ev rfl) (h1.ev rfl)) ?_
     obtain rfl := Option.some.inj H
     exact Tr.nil (Tr.fin0 (.cons rfl (.cons rfl (.cons rfl (.cons rfl .nil)))) (.cons rfl (.cons rfl (.cons rfl (.cons rfl (.cons rfl (.cons rfl .nil)))))))
    ·rw [hg178] at hg114
     rw [if_pos rfl] at hg114
     have H := hg114
     obtain rfl := Option.some.inj H
     refine Tr.pass rfl rfl rfl rfl rfl (by decide) ?_
     refine Tr.pass rfl rfl rfl rfl rfl (by decide) ?_
     refine Tr.pass rfl rfl rfl rfl rfl (by decide) ?_
     refine Tr.pass rfl rfl rfl rfl rfl (by decide) ?_
     refine Tr.pass rfl rfl rfl rfl rfl (by decide) ?_
     refine Tr.pass rfl rfl rfl rfl rfl (by decide) ?_
     refine Tr.pass rfl rfl rfl rfl rfl (by decide) ?_
     refine Tr.va rfl (fun _ _ h1 h2 => run_pickT (h1.ev rfl) (h1.ev rfl)) ?_
     exact Tr.nil (Tr.fin0 (.cons rfl (.cons rfl (.cons rfl (.cons rfl .nil)))) (.cons rfl (.cons rfl (.cons rfl (.cons rfl (.cons rfl (.cons rfl .nil)))))))
   ·show Tr _ _ (LF [(0, (.pointer (some ⟨bp0, 0, none⟩))), (7, (.slice Ay100_0 (y100).length cy100_0)), (9, (.slice Ay111_0 (y111.1).length cy111_0)), (45, (.bool g114))]) (LE [(0, bx bp0 #[(iv p0.W), (iv p0.H), (iv p0.Rail), (iv p0.Gap), (.slice Ap0_0 (p0.Kinds).length cp0_0), (.slice Ap0_1 (p0.Slots).length cp0_1), (.slice Ap0_2 (p0.Marks).length cp0_2)] 26), (1, ow Ap0_0 cp0_0 49 fl_TBoardKind p0.Kinds), (2, ow Ap0_1 cp0_1 53 fl_TSlot p0.Slots), (3, ow Ap0_2 cp0_2 51 fl_TPoint p0.Marks), (4, ow Ay100_0 cy100_0 9 fl_str y100), (5, ow Ay111_0 cy111_0 3 fl_i64 y111.1)]) _
    refine Tr.nil (Tr.normThen ?_)
    refine Tr.cond rfl H (fun H => ?_) (fun H => ?_)
    ·refine Tr.sr ?_
     refine Tr.asg rfl rfl ?_
     refine Tr.nil (Tr.normThen ?_)
     refine Tr.ret (Tr.retThen ?_)
     obtain rfl := Option.some.inj H
     exact Tr.out (m := [(.bool false)]) [] (res_tmp rfl res_nil) (fun W hW => ⟨((Ap0_0, cp0_0), (Ap0_1, cp0_1), (Ap0_2, cp0_2)), rfl, ⟨hfhp0_0, hfhp0_1, hfhp0_2⟩, HF.lowE leB (hW.pick (ks := [0, 1, 2, 3]) (by decide) (pk_cons rfl (pk_cons rfl (pk_cons rfl (pk_cons rfl pk_nil))))) ⟨bx_any _ _ _, ow_any _ _ _ _ tr_TBoardKind, ow_any _ _ _ _ tr_TSlot, ow_any _ _ _ _ tr_TPoint, trivial⟩⟩)
    ·refine Tr.skip (Tr.normThen ?_)
     have leJ150 := Bs.Le.refl w
     refine Tr.cutJ (σ := Int × Int × Int × Int × (List TBoardKind) × (List TSlot) × (List TPoint) × (Option Addr) × Nat × (Option Addr) × Nat × (Option Addr) × Nat) (fun w s => F_panel_readLine_J1 s.1 s.2.1 s.2.2.1 s.2.2.2.1 s.2.2.2.2.1 s.2.2.2.2.2.1 s.2.2.2.2.2.2.1 = some r ∧ SlF s.2.2.2.2.2.2.2.1 (s.2.2.2.2.1).length s.2.2.2.2.2.2.2.2.1 ∧ SlF s.2.2.2.2.2.2.2.2.2.1 (s.2.2.2.2.2.1).length s.2.2.2.2.2.2.2.2.2.2.1 ∧ SlF s.2.2.2.2.2.2.2.2.2.2.2.1 (s.2.2.2.2.2.2.1).length s.2.2.2.2.2.2.2.2.2.2.2.2) (fun s => []) (fun s => [(0, bx bp0 #[(iv s.1), (iv s.2.1), (iv s.2.2.1), (iv s.2.2.2.1), (.slice s.2.2.2.2.2.2.2.1 (s.2.2.2.2.1).length s.2.2.2.2.2.2.2.2.1), (.slice s.2.2.2.2.2.2.2.2.2.1 (s.2.2.2.2.2.1).length s.2.2.2.2.2.2.2.2.2.2.1), (.slice s.2.2.2.2.2.2.2.2.2.2.2.1 (s.2.2.2.2.2.2.1).length s.2.2.2.2.2.2.2.2.2.2.2.2)] 26), (1, ow s.2.2.2.2.2.2.2.1 s.2.2.2.2.2.2.2.2.1 49 fl_TBoardKind s.2.2.2.2.1), (2, ow s.2.2.2.2.2.2.2.2.2.1 s.2.2.2.2.2.2.2.2.2.2.1 53 fl_TSlot s.2.2.2.2.2.1), (3, ow s.2.2.2.2.2.2.2.2.2.2.2.1 s.2.2.2.2.2.2.2.2.2.2.2.2 51 fl_TPoint s.2.2.2.2.2.2.1)]) ?_ ?_
     ·refine Tr.block ?_
      refine Tr.sr ?_
      refine Tr.mv rfl rfl ?_
      obtain ⟨x152, hx152, H⟩ := bnd H
      obtain ⟨hx1520, hx1521, hx1522⟩ := idx_some hx152
      refine Tr.va rfl (fun _ _ h1 h2 => run_indexAddr el_40 (h1.ev rfl) hgy100_0 (h1.ev rfl) hx1520 hx1521) ?_
      refine Tr.va rfl (fun _ _ h1 h2 => run_load1 ag_9 (h1.ev rfl) (rdo ef_str (k := 4) h2 rfl hx1522) rfl) ?_
      refine Tr.va rfl (fun _ _ h1 h2 => run_eqlS (h1.ev rfl) (h1.ev rfl)) ?_
      refine Tr.mv rfl rfl ?_
      refine Tr.mid0 4 [(0, (.pointer (some ⟨bp0, 0, none⟩))), (7, (.slice Ay100_0 (y100).length cy100_0)), (9, (.slice Ay111_0 (y111.1).length cy111_0)), (55, (.bool ((sEq x152 (⟨#[112, 97, 110, 101, 108]⟩)) && ((y100.length : Int) == 5))))] [(0, bx bp0 #[(iv p0.W), (iv p0.H), (iv p0.Rail), (iv p0.Gap), (.slice Ap0_0 (p0.Kinds).length cp0_0), (.slice Ap0_1 (p0.Slots).length cp0_1), (.slice Ap0_2 (p0.Marks).length cp0_2)] 26), (1, ow Ap0_0 cp0_0 49 fl_TBoardKind p0.Kinds), (2, ow Ap0_1 cp0_1 53 fl_TSlot p0.Slots), (3, ow Ap0_2 cp0_2 51 fl_TPoint p0.Marks), (4, ow Ay100_0 cy100_0 9 fl_str y100), (5, ow Ay111_0 cy111_0 3 fl_i64 y111.1)] ?_ ?_
      ·cases hg178 : (sEq x152 (⟨#[112, 97, 110, 101, 108]⟩))
       ·refine Tr.pass rfl rfl rfl rfl rfl (by decide) ?_
        refine Tr.pass rfl rfl rfl rfl rfl (by decide) ?_
        refine Tr.pass rfl rfl rfl rfl rfl (by decide) ?_
        refine Tr.va rfl (fun _ _ h1 h2 => run_pickF (h1.ev rfl) (h1.ev rfl)) ?_
        exact Tr.nil (Tr.fin0 (.cons rfl (.cons rfl (.cons rfl (.cons rfl .nil)))) (.cons rfl (.cons rfl (.cons rfl (.cons rfl (.cons rfl (.cons rfl .nil)))))))
       ·refine Tr.val (wg rfl rfl rfl) rfl (fun _ _ h1 h2 => run_move (h1.ev rfl)) ?_
        refine Tr.val (wg rfl rfl rfl) rfl (fun _ _ h1 h2 => run_len un_40 (h1.ev rfl)) ?_
        refine Tr.val (wg rfl rfl rfl) rfl (fun _ _ h1 h2 => run_eql (h1.ev rfl) (h1.ev rfl)) ?_
        refine Tr.va rfl (fun _ _ h1 h2 => run_pickT (h1.ev rfl) (h1.ev rfl)) ?_
        exact Tr.nil (Tr.fin0 (.cons rfl (.cons rfl (.cons rfl (.cons rfl .nil)))) (.cons rfl (.cons rfl (.cons rfl (.cons rfl (.cons rfl (.cons rfl .nil)))))))
      ·show Tr _ _ (LF [(0, (.pointer (some ⟨bp0, 0, none⟩))), (7, (.slice Ay100_0 (y100).length cy100_0)), (9, (.slice Ay111_0 (y111.1).length cy111_0)), (55, (.bool ((sEq x152 (⟨#[112, 97, 110, 101, 108]⟩)) && ((y100.length : Int) == 5))))]) (LE [(0, bx bp0 #[(iv p0.W), (iv p0.H), (iv p0.Rail), (iv p0.Gap), (.slice Ap0_0 (p0.Kinds).length cp0_0), (.slice Ap0_1 (p0.Slots).length cp0_1), (.slice Ap0_2 (p0.Marks).length cp0_2)] 26), (1, ow Ap0_0 cp0_0 49 fl_TBoardKind p0.Kinds), (2, ow Ap0_1 cp0_1 53 fl_TSlot p0.Slots), (3, ow Ap0_2 cp0_2 51 fl_TPoint p0.Marks), (4, ow Ay100_0 cy100_0 9 fl_str y100), (5, ow Ay111_0 cy111_0 3 fl_i64 y111.1)]) _
       refine Tr.asg rfl rfl ?_
       refine Tr.nil (Tr.normThen ?_)
       refine Tr.cond rfl H (fun H => ?_) (fun H => ?_)
       ·refine Tr.drawC 25 [(18, fun x => x = bp0), (21, fun x => x = bp0), (24, fun x => x = bp0)] [] (by kernel_rfl) (by kernel_rfl) fun sz153 hlosz153 hEsz153 => ?_
        refine Dr.quiet 0 [(56, (.pointer (some ⟨bp0, 0, none⟩)))] (by kernel_rfl) rfl rfl (by kernel_rfl) ?_ rfl rfl ?_
        ·refine Tq.mv rfl rfl ?_
         exact Tq.fin (.cons rfl .nil)
        refine Dr.quietP 1 (by kernel_rfl) rfl (wn rfl) rfl (by kernel_rfl) (fun _ _ h1 => run_move (h1.ev rfl)) rfl ?_
        refine Dr.quietP 2 (by kernel_rfl) rfl (wn rfl) rfl (by kernel_rfl) (fun _ _ h1 => run_move (h1.ev rfl)) rfl ?_
        refine Dr.quietP 3 (by kernel_rfl) rfl (wn rfl) rfl (by kernel_rfl) (fun _ _ h1 => run_move (h1.ev rfl)) rfl ?_
        refine Dr.quiet 4 [(60, (.slice Ay111_0 (y111.1).length cy111_0))] (by kernel_rfl) rfl rfl (by kernel_rfl) ?_ rfl rfl ?_
        ·refine Tq.mv rfl rfl ?_
         exact Tq.fin (.cons rfl .nil)
        obtain ⟨x154, hx154, H⟩ := bnd H
        obtain ⟨hx1540, hx1541, hx1542⟩ := idx_some hx154
        refine Dr.quiet 5 [(61, (.pointer (some ⟨adB Ay111_0, adO Ay111_0 + ((0 : Int)).toNat * 1, none⟩)))] (by kernel_rfl) rfl rfl (by kernel_rfl) ?_ rfl rfl ?_
        ·refine Tq.va rfl (fun _ _ h1 h2 => run_indexAddr el_64 (h1.ev rfl) hgy111_0 (h1.ev rfl) hx1540 hx1541) ?_
         exact Tq.fin (.cons rfl .nil)
        refine Dr.quiet 6 [(62, (iv x154))] (by kernel_rfl) rfl rfl (by kernel_rfl) ?_ rfl rfl ?_
        ·refine Tq.va rfl (fun _ _ h1 h2 => run_load1 ag_3 (h1.ev rfl) (rdo ef_i64 (k := 5) h2 rfl hx1542) rfl) ?_
         exact Tq.fin (.cons rfl .nil)
        refine Dr.quietP 7 (by kernel_rfl) rfl (wn rfl) rfl (by kernel_rfl) (fun _ _ h1 => run_move (h1.ev rfl)) rfl ?_
        obtain ⟨x155, hx155, H⟩ := bnd H
        obtain ⟨hx1550, hx1551, hx1552⟩ := idx_some hx155
        refine Dr.quietP 8 (by kernel_rfl) rfl (wn rfl) rfl (by kernel_rfl) (fun _ _ h1 => run_indexAddr el_64 (h1.ev rfl) hgy111_0 (h1.ev rfl) hx1550 hx1551) rfl ?_
        refine Dr.quiet 9 [(65, (iv x155))] (by kernel_rfl) rfl rfl (by kernel_rfl) ?_ rfl rfl ?_
        ·refine Tq.va rfl (fun _ _ h1 h2 => run_load1 ag_3 (h1.ev rfl) (rdo ef_i64 (k := 5) h2 rfl hx1552) rfl) ?_
         exact Tq.fin (.cons rfl .nil)
        refine Dr.quietP 10 (by kernel_rfl) rfl (wn rfl) rfl (by kernel_rfl) (fun _ _ h1 => run_move (h1.ev rfl)) rfl ?_
        obtain ⟨x156, hx156, H⟩ := bnd H
        obtain ⟨hx1560, hx1561, hx1562⟩ := idx_some hx156
        refine Dr.quietP 11 (by kernel_rfl) rfl (wn rfl) rfl (by kernel_rfl) (fun _ _ h1 => run_indexAddr el_64 (h1.ev rfl) hgy111_0 (h1.ev rfl) hx1560 hx1561) rfl ?_
        refine Dr.quiet 12 [(68, (iv x156))] (by kernel_rfl) rfl rfl (by kernel_rfl) ?_ rfl rfl ?_
        ·refine Tq.va rfl (fun _ _ h1 h2 => run_load1 ag_3 (h1.ev rfl) (rdo ef_i64 (k := 5) h2 rfl hx1562) rfl) ?_
         exact Tq.fin (.cons rfl .nil)
        refine Dr.quietP 13 (by kernel_rfl) rfl (wn rfl) rfl (by kernel_rfl) (fun _ _ h1 => run_move (h1.ev rfl)) rfl ?_
        obtain ⟨x157, hx157, H⟩ := bnd H
        obtain ⟨hx1570, hx1571, hx1572⟩ := idx_some hx157
        refine Dr.quietP 14 (by kernel_rfl) rfl (wn rfl) rfl (by kernel_rfl) (fun _ _ h1 => run_indexAddr el_64 (h1.ev rfl) hgy111_0 (h1.ev rfl) hx1570 hx1571) rfl ?_
        refine Dr.quiet 15 [(71, (iv x157))] (by kernel_rfl) rfl rfl (by kernel_rfl) ?_ rfl rfl ?_
        ·refine Tq.va rfl (fun _ _ h1 h2 => run_load1 ag_3 (h1.ev rfl) (rdo ef_i64 (k := 5) h2 rfl hx1572) rfl) ?_
         exact Tq.fin (.cons rfl .nil)
        refine Dr.quietP 16 (by kernel_rfl) rfl (wn rfl) rfl (by kernel_rfl) (fun _ _ h1 => run_nilCheck (h1.ev rfl)) rfl ?_
        refine Dr.quiet 17 [(73, (.pointer (some ⟨bp0, 0, none⟩)))] (by kernel_rfl) rfl rfl (by kernel_rfl) ?_ rfl rfl ?_
        ·refine Tq.va rfl (fun _ _ h1 h2 => run_fieldAddr fo_26_0 (h1.ev rfl)) ?_
         exact Tq.fin (.cons rfl .nil)
        refine Dr.one 18 (by kernel_rfl) ?_
        refine St.store 18 0 (cs := [(iv x154)]) [(iv x154), (iv p0.H), (iv p0.Rail), (iv p0.Gap), (.slice Ap0_0 (p0.Kinds).length cp0_0), (.slice Ap0_1 (p0.Slots).length cp0_1), (.slice Ap0_2 (p0.Marks).length cp0_2)] rfl (wn rfl) (.inl ⟨_, List.mem_cons_self, rfl, rfl⟩) rfl rfl rfl rfl sz_3 rfl rfl rfl ?_
        refine Dr.quietP 19 (by kernel_rfl) rfl (wn rfl) rfl (by kernel_rfl) (fun _ _ h1 => run_nilCheck (h1.ev rfl)) rfl ?_
        refine Dr.quiet 20 [(75, (.pointer (some ⟨bp0, 1, none⟩)))] (by kernel_rfl) rfl rfl (by kernel_rfl) ?_ rfl rfl ?_
        ·refine Tq.va rfl (fun _ _ h1 h2 => run_fieldAddr fo_26_1 (h1.ev rfl)) ?_
         exact Tq.fin (.cons rfl .nil)
        refine Dr.one 21 (by kernel_rfl) ?_
        refine St.store 21 0 (cs := [(iv x155)]) [(iv x154), (iv x155), (iv p0.Rail), (iv p0.Gap), (.slice Ap0_0 (p0.Kinds).length cp0_0), (.slice Ap0_1 (p0.Slots).length cp0_1), (.slice Ap0_2 (p0.Marks).length cp0_2)] rfl (wn rfl) (.inl ⟨_, (List.mem_cons_of_mem _ List.mem_cons_self), rfl, rfl⟩) rfl rfl rfl rfl sz_3 rfl rfl rfl ?_
        refine Dr.quietP 22 (by kernel_rfl) rfl (wn rfl) rfl (by kernel_rfl) (fun _ _ h1 => run_nilCheck (h1.ev rfl)) rfl ?_
        refine Dr.quiet 23 [(77, (.pointer (some ⟨bp0, 2, none⟩)))] (by kernel_rfl) rfl rfl (by kernel_rfl) ?_ rfl rfl ?_
        ·refine Tq.va rfl (fun _ _ h1 h2 => run_fieldAddr fo_26_2 (h1.ev rfl)) ?_
         exact Tq.fin (.cons rfl .nil)
        refine Dr.one 24 (by kernel_rfl) ?_
        refine St.store 24 0 (cs := [(iv x156)]) [(iv x154), (iv x155), (iv x156), (iv p0.Gap), (.slice Ap0_0 (p0.Kinds).length cp0_0), (.slice Ap0_1 (p0.Slots).length cp0_1), (.slice Ap0_2 (p0.Marks).length cp0_2)] rfl (wn rfl) (.inl ⟨_, (List.mem_cons_of_mem _ (List.mem_cons_of_mem _ List.mem_cons_self)), rfl, rfl⟩) rfl rfl rfl rfl sz_3 rfl rfl rfl ?_
        refine Dr.tail (by kernel_rfl) ?_
        refine Tr.va rfl (fun _ _ h1 h2 => run_nilCheck (h1.ev rfl)) ?_
        refine Tr.va rfl (fun _ _ h1 h2 => run_fieldAddr fo_26_3 (h1.ev rfl)) ?_
        refine Tr.store 0 (cs := [(iv x157)]) [(iv x154), (iv x155), (iv x156), (iv x157), (.slice Ap0_0 (p0.Kinds).length cp0_0), (.slice Ap0_1 (p0.Slots).length cp0_1), (.slice Ap0_2 (p0.Marks).length cp0_2)] (wn rfl) rfl rfl rfl rfl sz_3 rfl rfl rfl ?_
        refine Tr.nil (Tr.normBlock ?_)
        exact Tr.backThen leJ150 (x154, x155, x156, x157, p0.Kinds, p0.Slots, p0.Marks, Ap0_0, cp0_0, Ap0_1, cp0_1, Ap0_2, cp0_2) ⟨H, hfhp0_0, hfhp0_1, hfhp0_2⟩ .nil (.cons rfl (.cons rfl (.cons rfl (.cons rfl .nil))))
       ·refine Tr.seq ?_
        refine Tr.draw (by kernel_rfl) (by kernel_rfl) ?_
        refine Tq.mv rfl rfl ?_
        obtain ⟨x158, hx158, H⟩ := bnd H
        obtain ⟨hx1580, hx1581, hx1582⟩ := idx_some hx158
        refine Tq.va rfl (fun _ _ h1 h2 => run_indexAddr el_40 (h1.ev rfl) hgy100_0 (h1.ev rfl) hx1580 hx1581) ?_
        refine Tq.va rfl (fun _ _ h1 h2 => run_load1 ag_9 (h1.ev rfl) (rdo ef_str (k := 4) h2 rfl hx1582) rfl) ?_
        refine Tq.va rfl (fun _ _ h1 h2 => run_eqlS (h1.ev rfl) (h1.ev rfl)) ?_
        refine Tq.mv rfl rfl ?_
        refine Tq.mid 4 [(0, (.pointer (some ⟨bp0, 0, none⟩))), (7, (.slice Ay100_0 (y100).length cy100_0)), (9, (.slice Ay111_0 (y111.1).length cy111_0)), (89, (.bool ((sEq x158 (⟨#[98, 111, 97, 114, 100]⟩)) && ((y100.length : Int) == 4))))] ?_ ?_
        ·cases hg178 : (sEq x158 (⟨#[98, 111, 97, 114, 100]⟩))
         ·refine Tq.pass rfl rfl rfl rfl rfl (by decide) ?_
          refine Tq.pass rfl rfl rfl rfl rfl (by decide) ?_
          refine Tq.pass rfl rfl rfl rfl rfl (by decide) ?_
          refine Tq.va rfl (fun _ _ h1 h2 => run_pickF (h1.ev rfl) (h1.ev rfl)) ?_
          exact Tq.fin (.cons rfl (.cons rfl (.cons rfl (.cons rfl .nil))))
         ·refine Tq.val (wg rfl rfl rfl) rfl (fun _ _ h1 h2 => run_move (h1.ev rfl)) ?_
          refine Tq.val (wg rfl rfl rfl) rfl (fun _ _ h1 h2 => run_len un_40 (h1.ev rfl)) ?_
          refine Tq.val (wg rfl rfl rfl) rfl (fun _ _ h1 h2 => run_eql (h1.ev rfl) (h1.ev rfl)) ?_
          refine Tq.va rfl (fun _ _ h1 h2 => run_pickT (h1.ev rfl) (h1.ev rfl)) ?_
          exact Tq.fin (.cons rfl (.cons rfl (.cons rfl (.cons rfl .nil))))
        ·refine Tq.mv rfl rfl ?_
         refine Tq.mid 13 [(0, (.pointer (some ⟨bp0, 0, none⟩))), (7, (.slice Ay100_0 (y100).length cy100_0)), (9, (.slice Ay111_0 (y111.1).length cy111_0)), (103, (.bool (((sEq x158 (⟨#[98, 111, 97, 114, 100]⟩)) && ((y100.length : Int) == 4)) && ((w64 ((p0.Slots.length : Int) + (p0.Marks.length : Int))) == 0))))] ?_ ?_
         ·cases hg178 : ((sEq x158 (⟨#[98, 111, 97, 114, 100]⟩)) && ((y100.length : Int) == 4))
          ·refine Tq.pass rfl rfl rfl rfl rfl (by decide) ?_
           refine Tq.pass rfl rfl rfl rfl rfl (by decide) ?_
           refine Tq.pass rfl rfl rfl rfl rfl (by decide) ?_
           refine Tq.pass rfl rfl rfl rfl rfl (by decide) ?_
           refine Tq.pass rfl rfl rfl rfl rfl (by decide) ?_
           refine Tq.pass rfl rfl rfl rfl rfl (by decide) ?_
           refine Tq.pass rfl rfl rfl rfl rfl (by decide) ?_
           refine Tq.pass rfl rfl rfl rfl rfl (by decide) ?_
           refine Tq.pass rfl rfl rfl rfl rfl (by decide) ?_
           refine Tq.pass rfl rfl rfl rfl rfl (by decide) ?_
           refine Tq.pass rfl rfl rfl rfl rfl (by decide) ?_
           refine Tq.pass rfl rfl rfl rfl rfl (by decide) ?_
           refine Tq.va rfl (fun _ _ h1 h2 => run_pickF (h1.ev rfl) (h1.ev rfl)) ?_
           exact Tq.fin (.cons rfl (.cons rfl (.cons rfl (.cons rfl .nil))))
          ·refine Tq.val (wg rfl rfl rfl) rfl (fun _ _ h1 h2 => run_move (h1.ev rfl)) ?_
           refine Tq.val (wg rfl rfl rfl) rfl (fun _ _ h1 h2 => run_nilCheck (h1.ev rfl)) ?_
           refine Tq.val (wg rfl rfl rfl) rfl (fun _ _ h1 h2 => run_fieldAddr fo_26_5 (h1.ev rfl)) ?_
           refine Tq.val (wg rfl rfl rfl) rfl (fun _ _ h1 h2 => run_load1 ag_23 (h1.ev rfl) (rdb h2 (vs := [(iv p0.W), (iv p0.H), (iv p0.Rail), (iv p0.Gap), (.slice Ap0_0 (p0.Kinds).length cp0_0), (.slice Ap0_1 (p0.Slots).length cp0_1), (.slice Ap0_2 (p0.Marks).length cp0_2)]) (k := 0) rfl 5) rfl) ?_
           refine Tq.val (wg rfl rfl rfl) rfl (fun _ _ h1 h2 => run_len un_23 (h1.ev rfl)) ?_
           refine Tq.val (wg rfl rfl rfl) rfl (fun _ _ h1 h2 => run_move (h1.ev rfl)) ?_
           refine Tq.val (wg rfl rfl rfl) rfl (fun _ _ h1 h2 => run_nilCheck (h1.ev rfl)) ?_
           refine Tq.val (wg rfl rfl rfl) rfl (fun _ _ h1 h2 => run_fieldAddr fo_26_6 (h1.ev rfl)) ?_
           refine Tq.val (wg rfl rfl rfl) rfl (fun _ _ h1 h2 => run_load1 ag_24 (h1.ev rfl) (rdb h2 (vs := [(iv p0.W), (iv p0.H), (iv p0.Rail), (iv p0.Gap), (.slice Ap0_0 (p0.Kinds).length cp0_0), (.slice Ap0_1 (p0.Slots).length cp0_1), (.slice Ap0_2 (p0.Marks).length cp0_2)]) (k := 0) rfl 6) rfl) ?_
           refine Tq.val (wg rfl rfl rfl) rfl (fun _ _ h1 h2 => run_len un_24 (h1.ev rfl)) ?_
           refine Tq.val (wg rfl rfl rfl) rfl (fun _ _ h1 h2 => run_add (h1.ev rfl) (h1.ev rfl)) ?_
           refine Tq.val (wg rfl rfl rfl) rfl (fun _ _ h1 h2 => run_eql (h1.ev rfl) (h1.ev rfl)) ?_
           refine Tq.va rfl (fun _ _ h1 h2 => run_pickT (h1.ev rfl) (h1.ev rfl)) ?_
           exact Tq.fin (.cons rfl (.cons rfl (.cons rfl (.cons rfl .nil))))
         ·refine Tq.asg rfl rfl ?_
          refine Tq.nil (Tr.normThen ?_)
          refine Tr.cond rfl H (fun H => ?_) (fun H => ?_)
          ·refine Tr.drawC 17 [(16, (ow Ap0_0 cp0_0 49 fl_TBoardKind p0.Kinds).S)] [] (by kernel_rfl) (by kernel_rfl) fun sz159 hlosz159 hEsz159 => ?_
           refine Dr.quietP 0 (by kernel_rfl) rfl (wn rfl) rfl (by kernel_rfl) (fun _ _ h1 => run_move (h1.ev rfl)) rfl ?_
           refine Dr.quietP 1 (by kernel_rfl) rfl (wn rfl) rfl (by kernel_rfl) (fun _ _ h1 => run_move (h1.ev rfl)) rfl ?_
           refine Dr.quietP 2 (by kernel_rfl) rfl (wn rfl) rfl (by kernel_rfl) (fun _ _ h1 => run_nilCheck (h1.ev rfl)) rfl ?_
           refine Dr.quietP 3 (by kernel_rfl) rfl (wn rfl) rfl (by kernel_rfl) (fun _ _ h1 => run_fieldAddr fo_26_4 (h1.ev rfl)) rfl ?_
           refine Dr.quiet 4 [(108, (.slice Ap0_0 (p0.Kinds).length cp0_0))] (by kernel_rfl) rfl rfl (by kernel_rfl) ?_ rfl rfl ?_
           ·refine Tq.va rfl (fun _ _ h1 h2 => run_load1 ag_22 (h1.ev rfl) (rdb h2 (vs := [(iv p0.W), (iv p0.H), (iv p0.Rail), (iv p0.Gap), (.slice Ap0_0 (p0.Kinds).length cp0_0), (.slice Ap0_1 (p0.Slots).length cp0_1), (.slice Ap0_2 (p0.Marks).length cp0_2)]) (k := 0) rfl 4) rfl) ?_
            exact Tq.fin (.cons rfl .nil)
           refine Dr.quietP 5 (by kernel_rfl) rfl (wn rfl) rfl (by kernel_rfl) (fun _ _ h1 => run_move (h1.ev rfl)) rfl ?_
           obtain ⟨x160, hx160, H⟩ := bnd H
           obtain ⟨hx1600, hx1601, hx1602⟩ := idx_some hx160
           refine Dr.quietP 6 (by kernel_rfl) rfl (wn rfl) rfl (by kernel_rfl) (fun _ _ h1 => run_indexAddr el_40 (h1.ev rfl) hgy100_0 (h1.ev rfl) hx1600 hx1601) rfl ?_
           refine Dr.quietZ 7 [(111, (sv x160))] [16] false (by kernel_rfl) rfl rfl (by kernel_rfl) (fun W W' h2 hsW hk => HF.keepZ (le := [(4, ow Ay100_0 cy100_0 9 fl_str y100)]) (ks := [(1, (ow Ap0_0 cp0_0 49 fl_TBoardKind p0.Kinds).S)]) (s0 := sz159) false h2 hk (fun h => absurd h (by decide)) (.cons rfl .nil) (fun b hb => hb.elim (fun ⟨p, hp, hf, hb⟩ => by simp only [List.mem_cons, List.not_mem_nil, or_false] at hp; rcases hp with rfl; exact .inl ⟨_, List.mem_cons_self, hb⟩) (fun hb => absurd hb.1 (by decide))) (List.forall_mem_cons.2 ⟨fun b hb => hb, (fun _ h => nomatch h)⟩) rfl) ?_ rfl rfl ?_
           ·refine Tq.va rfl (fun _ _ h1 h2 => run_load1 ag_9 (h1.ev rfl) (rdo ef_str (k := 4) h2 rfl hx1602) rfl) ?_
            exact Tq.fin (.cons rfl .nil)
           refine Dr.quietP 8 (by kernel_rfl) rfl (wn rfl) rfl (by kernel_rfl) (fun _ _ h1 => run_move (h1.ev rfl)) rfl ?_
           obtain ⟨x161, hx161, H⟩ := bnd H
           obtain ⟨hx1610, hx1611, hx1612⟩ := idx_some hx161
           refine Dr.quietP 9 (by kernel_rfl) rfl (wn rfl) rfl (by kernel_rfl) (fun _ _ h1 => run_indexAddr el_64 (h1.ev rfl) hgy111_0 (h1.ev rfl) hx1610 hx1611) rfl ?_
           refine Dr.quietZ 10 [(114, (iv x161))] [16] false (by kernel_rfl) rfl rfl (by kernel_rfl) (fun W W' h2 hsW hk => HF.keepZ (le := [(5, ow Ay111_0 cy111_0 3 fl_i64 y111.1)]) (ks := [(1, (ow Ap0_0 cp0_0 49 fl_TBoardKind p0.Kinds).S)]) (s0 := sz159) false h2 hk (fun h => absurd h (by decide)) (.cons rfl .nil) (fun b hb => hb.elim (fun ⟨p, hp, hf, hb⟩ => by simp only [List.mem_cons, List.not_mem_nil, or_false] at hp; rcases hp with rfl; exact .inl ⟨_, List.mem_cons_self, hb⟩) (fun hb => absurd hb.1 (by decide))) (List.forall_mem_cons.2 ⟨fun b hb => hb, (fun _ h => nomatch h)⟩) rfl) ?_ rfl rfl ?_
           ·refine Tq.va rfl (fun _ _ h1 h2 => run_load1 ag_3 (h1.ev rfl) (rdo ef_i64 (k := 5) h2 rfl hx1612) rfl) ?_
            exact Tq.fin (.cons rfl .nil)
           refine Dr.quietP 11 (by kernel_rfl) rfl (wn rfl) rfl (by kernel_rfl) (fun _ _ h1 => run_move (h1.ev rfl)) rfl ?_
           obtain ⟨x162, hx162, H⟩ := bnd H
           obtain ⟨hx1620, hx1621, hx1622⟩ := idx_some hx162
           refine Dr.quietP 12 (by kernel_rfl) rfl (wn rfl) rfl (by kernel_rfl) (fun _ _ h1 => run_indexAddr el_64 (h1.ev rfl) hgy111_0 (h1.ev rfl) hx1620 hx1621) rfl ?_
           refine Dr.quietZ 13 [(117, (iv x162))] [16] false (by kernel_rfl) rfl rfl (by kernel_rfl) (fun W W' h2 hsW hk => HF.keepZ (le := [(5, ow Ay111_0 cy111_0 3 fl_i64 y111.1)]) (ks := [(1, (ow Ap0_0 cp0_0 49 fl_TBoardKind p0.Kinds).S)]) (s0 := sz159) false h2 hk (fun h => absurd h (by decide)) (.cons rfl .nil) (fun b hb => hb.elim (fun ⟨p, hp, hf, hb⟩ => by simp only [List.mem_cons, List.not_mem_nil, or_false] at hp; rcases hp with rfl; exact .inl ⟨_, List.mem_cons_self, hb⟩) (fun hb => absurd hb.1 (by decide))) (List.forall_mem_cons.2 ⟨fun b hb => hb, (fun _ h => nomatch h)⟩) rfl) ?_ rfl rfl ?_
           ·refine Tq.va rfl (fun _ _ h1 h2 => run_load1 ag_3 (h1.ev rfl) (rdo ef_i64 (k := 5) h2 rfl hx1622) rfl) ?_
            exact Tq.fin (.cons rfl .nil)
           refine Dr.quietZ 14 [(118, (.agg #[(sv x160), (iv x161), (iv x162)]))] [16] false (by kernel_rfl) rfl rfl (by kernel_rfl) (fun W W' h2 hsW hk => HF.keepZ (le := []) (ks := [(1, (ow Ap0_0 cp0_0 49 fl_TBoardKind p0.Kinds).S)]) (s0 := sz159) false h2 hk (fun h => absurd h (by decide)) .nil (fun b hb => hb.elim (fun ⟨p, hp, hf, hb⟩ => by simp only [List.mem_cons, List.not_mem_nil, or_false] at hp; rcases hp with rfl; exact .inl ⟨_, List.mem_cons_self, hb⟩) (fun hb => absurd hb.1 (by decide))) (List.forall_mem_cons.2 ⟨fun b hb => hb, (fun _ h => nomatch h)⟩) rfl) ?_ rfl rfl ?_
           ·refine Tq.build (vs := [(0, (sv x160)), (1, (iv x161)), (2, (iv x162))]) (cs := [(sv x160), (iv x161), (iv x162)]) (wn rfl) rfl (evs_cons rfl (evs_cons rfl (evs_cons rfl evs_nil))) (by kernel_rfl) ?_
            exact Tq.fin (.cons rfl .nil)
           refine Dr.one 15 (by kernel_rfl) ?_
           refine St.buildSlice 15 9 (e := 49) (vs := [(0, (.agg #[(sv x160), (iv x161), (iv x162)]))]) (cs := [(sv x160), (iv x161), (iv x162)]) rfl (wn rfl) rfl (evs_cons rfl evs_nil) (by kernel_rfl) fun b163 hb163 => ?_
           obtain ⟨l164, hl164, H⟩ := bnd H
           refine Dr.one 16 (by kernel_rfl) ?_
           refine St.append 16 1 (t' := fl_TBoardKind) (ll := p0.Kinds) (l2 := [(TBoardKind.mk x160 x161 x162)]) (fun b hb => .inl ⟨_, List.mem_cons_self, rfl, hb⟩) rfl (wn rfl) rfl rfl rfl rfl (fun W hW => ⟨[[(sv x160), (iv x161), (iv x162)]], (.cons ⟨(), trivial, rfl⟩ .nil), rdb hW (vs := [(sv x160), (iv x161), (iv x162)]) (k := 9) rfl 0⟩) un_22 sz_49 zl_49 (by decide) by_49 rfl hl164 fun Al164 cl164 hAl164 => ?_
           refine Dr.tail (by kernel_rfl) ?_
           refine Tr.va rfl (fun _ _ h1 h2 => run_nilCheck (h1.ev rfl)) ?_
           refine Tr.va rfl (fun _ _ h1 h2 => run_fieldAddr fo_26_4 (h1.ev rfl)) ?_
           refine Tr.store 0 (cs := [(.slice Al164 (l164).length cl164)]) [(iv p0.W), (iv p0.H), (iv p0.Rail), (iv p0.Gap), (.slice Al164 (l164).length cl164), (.slice Ap0_1 (p0.Slots).length cp0_1), (.slice Ap0_2 (p0.Marks).length cp0_2)] (wn rfl) rfl rfl rfl rfl sz_22 rfl rfl rfl ?_
           refine Tr.nil (Tr.normBlock ?_)
           exact Tr.backThen leJ150 (p0.W, p0.H, p0.Rail, p0.Gap, l164, p0.Slots, p0.Marks, Al164, cl164, Ap0_1, cp0_1, Ap0_2, cp0_2) ⟨H, hAl164, hfhp0_1, hfhp0_2⟩ .nil (.cons rfl (.cons rfl (.cons rfl (.cons rfl .nil))))
          ·refine Tr.sr ?_
           refine Tr.mv rfl rfl ?_
           obtain ⟨x165, hx165, H⟩ := bnd H
           obtain ⟨hx1650, hx1651, hx1652⟩ := idx_some hx165
           refine Tr.va rfl (fun _ _ h1 h2 => run_indexAddr el_40 (h1.ev rfl) hgy100_0 (h1.ev rfl) hx1650 hx1651) ?_
           refine Tr.va rfl (fun _ _ h1 h2 => run_load1 ag_9 (h1.ev rfl) (rdo ef_str (k := 4) h2 rfl hx1652) rfl) ?_
           refine Tr.va rfl (fun _ _ h1 h2 => run_eqlS (h1.ev rfl) (h1.ev rfl)) ?_
           refine Tr.mv rfl rfl ?_
           refine Tr.mid0 4 [(0, (.pointer (some ⟨bp0, 0, none⟩))), (7, (.slice Ay100_0 (y100).length cy100_0)), (9, (.slice Ay111_0 (y111.1).length cy111_0)), (132, (.bool ((sEq x165 (⟨#[115, 108, 111, 116]⟩)) && ((y100.length : Int) == 5))))] [(0, bx bp0 #[(iv p0.W), (iv p0.H), (iv p0.Rail), (iv p0.Gap), (.slice Ap0_0 (p0.Kinds).length cp0_0), (.slice Ap0_1 (p0.Slots).length cp0_1), (.slice Ap0_2 (p0.Marks).length cp0_2)] 26), (1, ow Ap0_0 cp0_0 49 fl_TBoardKind p0.Kinds), (2, ow Ap0_1 cp0_1 53 fl_TSlot p0.Slots), (3, ow Ap0_2 cp0_2 51 fl_TPoint p0.Marks), (4, ow Ay100_0 cy100_0 9 fl_str y100), (5, ow Ay111_0 cy111_0 3 fl_i64 y111.1)] ?_ ?_
           ·cases hg178 : (sEq x165 (⟨#[115, 108, 111, 116]⟩))
            ·refine Tr.pass rfl rfl rfl rfl rfl (by decide) ?_
             refine Tr.pass rfl rfl rfl rfl rfl (by decide) ?_
             refine Tr.pass rfl rfl rfl rfl rfl (by decide) ?_
             refine Tr.va rfl (fun _ _ h1 h2 => run_pickF (h1.ev rfl) (h1.ev rfl)) ?_
             exact Tr.nil (Tr.fin0 (.cons rfl (.cons rfl (.cons rfl (.cons rfl .nil)))) (.cons rfl (.cons rfl (.cons rfl (.cons rfl (.cons rfl (.cons rfl .nil)))))))
            ·refine Tr.val (wg rfl rfl rfl) rfl (fun _ _ h1 h2 => run_move (h1.ev rfl)) ?_
             refine Tr.val (wg rfl rfl rfl) rfl (fun _ _ h1 h2 => run_len un_40 (h1.ev rfl)) ?_
             refine Tr.val (wg rfl rfl rfl) rfl (fun _ _ h1 h2 => run_eql (h1.ev rfl) (h1.ev rfl)) ?_
             refine Tr.va rfl (fun _ _ h1 h2 => run_pickT (h1.ev rfl) (h1.ev rfl)) ?_
             exact Tr.nil (Tr.fin0 (.cons rfl (.cons rfl (.cons rfl (.cons rfl .nil)))) (.cons rfl (.cons rfl (.cons rfl (.cons rfl (.cons rfl (.cons rfl .nil)))))))
           ·show Tr _ _ (LF [(0, (.pointer (some ⟨bp0, 0, none⟩))), (7, (.slice Ay100_0 (y100).length cy100_0)), (9, (.slice Ay111_0 (y111.1).length cy111_0)), (132, (.bool ((sEq x165 (⟨#[115, 108, 111, 116]⟩)) && ((y100.length : Int) == 5))))]) (LE [(0, bx bp0 #[(iv p0.W), (iv p0.H), (iv p0.Rail), (iv p0.Gap), (.slice Ap0_0 (p0.Kinds).length cp0_0), (.slice Ap0_1 (p0.Slots).length cp0_1), (.slice Ap0_2 (p0.Marks).length cp0_2)] 26), (1, ow Ap0_0 cp0_0 49 fl_TBoardKind p0.Kinds), (2, ow Ap0_1 cp0_1 53 fl_TSlot p0.Slots), (3, ow Ap0_2 cp0_2 51 fl_TPoint p0.Marks), (4, ow Ay100_0 cy100_0 9 fl_str y100), (5, ow Ay111_0 cy111_0 3 fl_i64 y111.1)]) _
            refine Tr.mv rfl rfl ?_
            refine Tr.mid0 7 [(0, (.pointer (some ⟨bp0, 0, none⟩))), (7, (.slice Ay100_0 (y100).length cy100_0)), (9, (.slice Ay111_0 (y111.1).length cy111_0)), (140, (.bool (((sEq x165 (⟨#[115, 108, 111, 116]⟩)) && ((y100.length : Int) == 5)) && ((p0.Marks.length : Int) == 0))))] [(0, bx bp0 #[(iv p0.W), (iv p0.H), (iv p0.Rail), (iv p0.Gap), (.slice Ap0_0 (p0.Kinds).length cp0_0), (.slice Ap0_1 (p0.Slots).length cp0_1), (.slice Ap0_2 (p0.Marks).length cp0_2)] 26), (1, ow Ap0_0 cp0_0 49 fl_TBoardKind p0.Kinds), (2, ow Ap0_1 cp0_1 53 fl_TSlot p0.Slots), (3, ow Ap0_2 cp0_2 51 fl_TPoint p0.Marks), (4, ow Ay100_0 cy100_0 9 fl_str y100), (5, ow Ay111_0 cy111_0 3 fl_i64 y111.1)] ?_ ?_
            ·cases hg178 : ((sEq x165 (⟨#[115, 108, 111, 116]⟩)) && ((y100.length : Int) == 5))
             ·refine Tr.pass rfl rfl rfl rfl rfl (by decide) ?_
              refine Tr.pass rfl rfl rfl rfl rfl (by decide) ?_
              refine Tr.pass rfl rfl rfl rfl rfl (by decide) ?_
              refine Tr.pass rfl rfl rfl rfl rfl (by decide) ?_
              refine Tr.pass rfl rfl rfl rfl rfl (by decide) ?_
              refine Tr.pass rfl rfl rfl rfl rfl (by decide) ?_
              refine Tr.va rfl (fun _ _ h1 h2 => run_pickF (h1.ev rfl) (h1.ev rfl)) ?_
              exact Tr.nil (Tr.fin0 (.cons rfl (.cons rfl (.cons rfl (.cons rfl .nil)))) (.cons rfl (.cons rfl (.cons rfl (.cons rfl (.cons rfl (.cons rfl .nil)))))))
             ·refine Tr.val (wg rfl rfl rfl) rfl (fun _ _ h1 h2 => run_move (h1.ev rfl)) ?_
              refine Tr.val (wg rfl rfl rfl) rfl (fun _ _ h1 h2 => run_nilCheck (h1.ev rfl)) ?_
              refine Tr.val (wg rfl rfl rfl) rfl (fun _ _ h1 h2 => run_fieldAddr fo_26_6 (h1.ev rfl)) ?_
              refine Tr.val (wg rfl rfl rfl) rfl (fun _ _ h1 h2 => run_load1 ag_24 (h1.ev rfl) (rdb h2 (vs := [(iv p0.W), (iv p0.H), (iv p0.Rail), (iv p0.Gap), (.slice Ap0_0 (p0.Kinds).length cp0_0), (.slice Ap0_1 (p0.Slots).length cp0_1), (.slice Ap0_2 (p0.Marks).length cp0_2)]) (k := 0) rfl 6) rfl) ?_
              refine Tr.val (wg rfl rfl rfl) rfl (fun _ _ h1 h2 => run_len un_24 (h1.ev rfl)) ?_
              refine Tr.val (wg rfl rfl rfl) rfl (fun _ _ h1 h2 => run_eql (h1.ev rfl) (h1.ev rfl)) ?_
              refine Tr.va rfl (fun _ _ h1 h2 => run_pickT (h1.ev rfl) (h1.ev rfl)) ?_
              exact Tr.nil (Tr.fin0 (.cons rfl (.cons rfl (.cons rfl (.cons rfl .nil)))) (.cons rfl (.cons rfl (.cons rfl (.cons rfl (.cons rfl (.cons rfl .nil)))))))
            ·show Tr _ _ (LF [(0, (.pointer (some ⟨bp0, 0, none⟩))), (7, (.slice Ay100_0 (y100).length cy100_0)), (9, (.slice Ay111_0 (y111.1).length cy111_0)), (140, (.bool (((sEq x165 (⟨#[115, 108, 111, 116]⟩)) && ((y100.length : Int) == 5)) && ((p0.Marks.length : Int) == 0))))]) (LE [(0, bx bp0 #[(iv p0.W), (iv p0.H), (iv p0.Rail), (iv p0.Gap), (.slice Ap0_0 (p0.Kinds).length cp0_0), (.slice Ap0_1 (p0.Slots).length cp0_1), (.slice Ap0_2 (p0.Marks).length cp0_2)] 26), (1, ow Ap0_0 cp0_0 49 fl_TBoardKind p0.Kinds), (2, ow Ap0_1 cp0_1 53 fl_TSlot p0.Slots), (3, ow Ap0_2 cp0_2 51 fl_TPoint p0.Marks), (4, ow Ay100_0 cy100_0 9 fl_str y100), (5, ow Ay111_0 cy111_0 3 fl_i64 y111.1)]) _
             refine Tr.asg rfl rfl ?_
             refine Tr.nil (Tr.normThen ?_)
             refine Tr.cond rfl H (fun H => ?_) (fun H => ?_)
             ·refine Tr.drawC 21 [(20, (ow Ap0_1 cp0_1 53 fl_TSlot p0.Slots).S)] [] (by kernel_rfl) (by kernel_rfl) fun sz166 hlosz166 hEsz166 => ?_
              refine Dr.quietP 0 (by kernel_rfl) rfl (wn rfl) rfl (by kernel_rfl) (fun _ _ h1 => run_move (h1.ev rfl)) rfl ?_
              refine Dr.quietP 1 (by kernel_rfl) rfl (wn rfl) rfl (by kernel_rfl) (fun _ _ h1 => run_move (h1.ev rfl)) rfl ?_
              refine Dr.quietP 2 (by kernel_rfl) rfl (wn rfl) rfl (by kernel_rfl) (fun _ _ h1 => run_nilCheck (h1.ev rfl)) rfl ?_
              refine Dr.quietP 3 (by kernel_rfl) rfl (wn rfl) rfl (by kernel_rfl) (fun _ _ h1 => run_fieldAddr fo_26_5 (h1.ev rfl)) rfl ?_
              refine Dr.quiet 4 [(145, (.slice Ap0_1 (p0.Slots).length cp0_1))] (by kernel_rfl) rfl rfl (by kernel_rfl) ?_ rfl rfl ?_
              ·refine Tq.va rfl (fun _ _ h1 h2 => run_load1 ag_23 (h1.ev rfl) (rdb h2 (vs := [(iv p0.W), (iv p0.H), (iv p0.Rail), (iv p0.Gap), (.slice Ap0_0 (p0.Kinds).length cp0_0), (.slice Ap0_1 (p0.Slots).length cp0_1), (.slice Ap0_2 (p0.Marks).length cp0_2)]) (k := 0) rfl 5) rfl) ?_
               exact Tq.fin (.cons rfl .nil)
              refine Dr.quietP 5 (by kernel_rfl) rfl (wn rfl) rfl (by kernel_rfl) (fun _ _ h1 => run_move (h1.ev rfl)) rfl ?_
              obtain ⟨x167, hx167, H⟩ := bnd H
              obtain ⟨hx1670, hx1671, hx1672⟩ := idx_some hx167
              refine Dr.quietP 6 (by kernel_rfl) rfl (wn rfl) rfl (by kernel_rfl) (fun _ _ h1 => run_indexAddr el_40 (h1.ev rfl) hgy100_0 (h1.ev rfl) hx1670 hx1671) rfl ?_
              refine Dr.quietZ 7 [(148, (sv x167))] [20] false (by kernel_rfl) rfl rfl (by kernel_rfl) (fun W W' h2 hsW hk => HF.keepZ (le := [(4, ow Ay100_0 cy100_0 9 fl_str y100)]) (ks := [(2, (ow Ap0_1 cp0_1 53 fl_TSlot p0.Slots).S)]) (s0 := sz166) false h2 hk (fun h => absurd h (by decide)) (.cons rfl .nil) (fun b hb => hb.elim (fun ⟨p, hp, hf, hb⟩ => by simp only [List.mem_cons, List.not_mem_nil, or_false] at hp; rcases hp with rfl; exact .inl ⟨_, List.mem_cons_self, hb⟩) (fun hb => absurd hb.1 (by decide))) (List.forall_mem_cons.2 ⟨fun b hb => hb, (fun _ h => nomatch h)⟩) rfl) ?_ rfl rfl ?_
              ·refine Tq.va rfl (fun _ _ h1 h2 => run_load1 ag_9 (h1.ev rfl) (rdo ef_str (k := 4) h2 rfl hx1672) rfl) ?_
               exact Tq.fin (.cons rfl .nil)
              refine Dr.quietP 8 (by kernel_rfl) rfl (wn rfl) rfl (by kernel_rfl) (fun _ _ h1 => run_move (h1.ev rfl)) rfl ?_
              obtain ⟨x168, hx168, H⟩ := bnd H
              obtain ⟨hx1680, hx1681, hx1682⟩ := idx_some hx168
              refine Dr.quietP 9 (by kernel_rfl) rfl (wn rfl) rfl (by kernel_rfl) (fun _ _ h1 => run_indexAddr el_64 (h1.ev rfl) hgy111_0 (h1.ev rfl) hx1680 hx1681) rfl ?_
              refine Dr.quietZ 10 [(151, (iv x168))] [20] false (by kernel_rfl) rfl rfl (by kernel_rfl) (fun W W' h2 hsW hk => HF.keepZ (le := [(5, ow Ay111_0 cy111_0 3 fl_i64 y111.1)]) (ks := [(2, (ow Ap0_1 cp0_1 53 fl_TSlot p0.Slots).S)]) (s0 := sz166) false h2 hk (fun h => absurd h (by decide)) (.cons rfl .nil) (fun b hb => hb.elim (fun ⟨p, hp, hf, hb⟩ => by simp only [List.mem_cons, List.not_mem_nil, or_false] at hp; rcases hp with rfl; exact .inl ⟨_, List.mem_cons_self, hb⟩) (fun hb => absurd hb.1 (by decide))) (List.forall_mem_cons.2 ⟨fun b hb => hb, (fun _ h => nomatch h)⟩) rfl) ?_ rfl rfl ?_
              ·refine Tq.va rfl (fun _ _ h1 h2 => run_load1 ag_3 (h1.ev rfl) (rdo ef_i64 (k := 5) h2 rfl hx1682) rfl) ?_
               exact Tq.fin (.cons rfl .nil)
              refine Dr.quietP 11 (by kernel_rfl) rfl (wn rfl) rfl (by kernel_rfl) (fun _ _ h1 => run_move (h1.ev rfl)) rfl ?_
              obtain ⟨x169, hx169, H⟩ := bnd H
              obtain ⟨hx1690, hx1691, hx1692⟩ := idx_some hx169
              refine Dr.quietP 12 (by kernel_rfl) rfl (wn rfl) rfl (by kernel_rfl) (fun _ _ h1 => run_indexAddr el_64 (h1.ev rfl) hgy111_0 (h1.ev rfl) hx1690 hx1691) rfl ?_
              refine Dr.quietZ 13 [(154, (iv x169))] [20] false (by kernel_rfl) rfl rfl (by kernel_rfl) (fun W W' h2 hsW hk => HF.keepZ (le := [(5, ow Ay111_0 cy111_0 3 fl_i64 y111.1)]) (ks := [(2, (ow Ap0_1 cp0_1 53 fl_TSlot p0.Slots).S)]) (s0 := sz166) false h2 hk (fun h => absurd h (by decide)) (.cons rfl .nil) (fun b hb => hb.elim (fun ⟨p, hp, hf, hb⟩ => by simp only [List.mem_cons, List.not_mem_nil, or_false] at hp; rcases hp with rfl; exact .inl ⟨_, List.mem_cons_self, hb⟩) (fun hb => absurd hb.1 (by decide))) (List.forall_mem_cons.2 ⟨fun b hb => hb, (fun _ h => nomatch h)⟩) rfl) ?_ rfl rfl ?_
              ·refine Tq.va rfl (fun _ _ h1 h2 => run_load1 ag_3 (h1.ev rfl) (rdo ef_i64 (k := 5) h2 rfl hx1692) rfl) ?_
               exact Tq.fin (.cons rfl .nil)
              refine Dr.quietP 14 (by kernel_rfl) rfl (wn rfl) rfl (by kernel_rfl) (fun _ _ h1 => run_move (h1.ev rfl)) rfl ?_
              obtain ⟨x170, hx170, H⟩ := bnd H
              obtain ⟨hx1700, hx1701, hx1702⟩ := idx_some hx170
              refine Dr.quietP 15 (by kernel_rfl) rfl (wn rfl) rfl (by kernel_rfl) (fun _ _ h1 => run_indexAddr el_64 (h1.ev rfl) hgy111_0 (h1.ev rfl) hx1700 hx1701) rfl ?_
              refine Dr.quietZ 16 [(157, (iv x170))] [20] false (by kernel_rfl) rfl rfl (by kernel_rfl) (fun W W' h2 hsW hk => HF.keepZ (le := [(5, ow Ay111_0 cy111_0 3 fl_i64 y111.1)]) (ks := [(2, (ow Ap0_1 cp0_1 53 fl_TSlot p0.Slots).S)]) (s0 := sz166) false h2 hk (fun h => absurd h (by decide)) (.cons rfl .nil) (fun b hb => hb.elim (fun ⟨p, hp, hf, hb⟩ => by simp only [List.mem_cons, List.not_mem_nil, or_false] at hp; rcases hp with rfl; exact .inl ⟨_, List.mem_cons_self, hb⟩) (fun hb => absurd hb.1 (by decide))) (List.forall_mem_cons.2 ⟨fun b hb => hb, (fun _ h => nomatch h)⟩) rfl) ?_ rfl rfl ?_
              ·refine Tq.va rfl (fun _ _ h1 h2 => run_load1 ag_3 (h1.ev rfl) (rdo ef_i64 (k := 5) h2 rfl hx1702) rfl) ?_
               exact Tq.fin (.cons rfl .nil)
              refine Dr.quietZ 17 [(158, (.agg #[(iv x169), (iv x170)]))] [20] false (by kernel_rfl) rfl rfl (by kernel_rfl) (fun W W' h2 hsW hk => HF.keepZ (le := []) (ks := [(2, (ow Ap0_1 cp0_1 53 fl_TSlot p0.Slots).S)]) (s0 := sz166) false h2 hk (fun h => absurd h (by decide)) .nil (fun b hb => hb.elim (fun ⟨p, hp, hf, hb⟩ => by simp only [List.mem_cons, List.not_mem_nil, or_false] at hp; rcases hp with rfl; exact .inl ⟨_, List.mem_cons_self, hb⟩) (fun hb => absurd hb.1 (by decide))) (List.forall_mem_cons.2 ⟨fun b hb => hb, (fun _ h => nomatch h)⟩) rfl) ?_ rfl rfl ?_
              ·refine Tq.build (vs := [(0, (iv x169)), (1, (iv x170))]) (cs := [(iv x169), (iv x170)]) (wn rfl) rfl (evs_cons rfl (evs_cons rfl evs_nil)) (by kernel_rfl) ?_
               exact Tq.fin (.cons rfl .nil)
              refine Dr.quietZ 18 [(159, (.agg #[(sv x167), (iv x168), (iv x169), (iv x170)]))] [20] false (by kernel_rfl) rfl rfl (by kernel_rfl) (fun W W' h2 hsW hk => HF.keepZ (le := []) (ks := [(2, (ow Ap0_1 cp0_1 53 fl_TSlot p0.Slots).S)]) (s0 := sz166) false h2 hk (fun h => absurd h (by decide)) .nil (fun b hb => hb.elim (fun ⟨p, hp, hf, hb⟩ => by simp only [List.mem_cons, List.not_mem_nil, or_false] at hp; rcases hp with rfl; exact .inl ⟨_, List.mem_cons_self, hb⟩) (fun hb => absurd hb.1 (by decide))) (List.forall_mem_cons.2 ⟨fun b hb => hb, (fun _ h => nomatch h)⟩) rfl) ?_ rfl rfl ?_
              ·refine Tq.build (vs := [(0, (sv x167)), (1, (iv x168)), (2, (.agg #[(iv x169), (iv x170)]))]) (cs := [(sv x167), (iv x168), (iv x169), (iv x170)]) (wn rfl) rfl (evs_cons rfl (evs_cons rfl (evs_cons rfl evs_nil))) (by kernel_rfl) ?_
               exact Tq.fin (.cons rfl .nil)
              refine Dr.one 19 (by kernel_rfl) ?_
              refine St.buildSlice 19 10 (e := 53) (vs := [(0, (.agg #[(sv x167), (iv x168), (iv x169), (iv x170)]))]) (cs := [(sv x167), (iv x168), (iv x169), (iv x170)]) rfl (wn rfl) rfl (evs_cons rfl evs_nil) (by kernel_rfl) fun b171 hb171 => ?_
              obtain ⟨l172, hl172, H⟩ := bnd H
              refine Dr.one 20 (by kernel_rfl) ?_
              refine St.append 20 2 (t' := fl_TSlot) (ll := p0.Slots) (l2 := [(TSlot.mk x167 x168 (TPoint.mk x169 x170))]) (fun b hb => .inl ⟨_, List.mem_cons_self, rfl, hb⟩) rfl (wn rfl) rfl rfl rfl rfl (fun W hW => ⟨[[(sv x167), (iv x168), (iv x169), (iv x170)]], (.cons ⟨(), trivial, rfl⟩ .nil), rdb hW (vs := [(sv x167), (iv x168), (iv x169), (iv x170)]) (k := 10) rfl 0⟩) un_23 sz_53 zl_53 (by decide) by_53 rfl hl172 fun Al172 cl172 hAl172 => ?_
              refine Dr.tail (by kernel_rfl) ?_
              refine Tr.va rfl (fun _ _ h1 h2 => run_nilCheck (h1.ev rfl)) ?_
              refine Tr.va rfl (fun _ _ h1 h2 => run_fieldAddr fo_26_5 (h1.ev rfl)) ?_
              refine Tr.store 0 (cs := [(.slice Al172 (l172).length cl172)]) [(iv p0.W), (iv p0.H), (iv p0.Rail), (iv p0.Gap), (.slice Ap0_0 (p0.Kinds).length cp0_0), (.slice Al172 (l172).length cl172), (.slice Ap0_2 (p0.Marks).length cp0_2)] (wn rfl) rfl rfl rfl rfl sz_23 rfl rfl rfl ?_
              refine Tr.nil (Tr.normBlock ?_)
              exact Tr.backThen leJ150 (p0.W, p0.H, p0.Rail, p0.Gap, p0.Kinds, l172, p0.Marks, Ap0_0, cp0_0, Al172, cl172, Ap0_2, cp0_2) ⟨H, hfhp0_0, hAl172, hfhp0_2⟩ .nil (.cons rfl (.cons rfl (.cons rfl (.cons rfl .nil))))
             ·refine Tr.sr ?_
              refine Tr.mv rfl rfl ?_
              obtain ⟨x173, hx173, H⟩ := bnd H
              obtain ⟨hx1730, hx1731, hx1732⟩ := idx_some hx173
              refine Tr.va rfl (fun _ _ h1 h2 => run_indexAddr el_40 (h1.ev rfl) hgy100_0 (h1.ev rfl) hx1730 hx1731) ?_
              refine Tr.va rfl (fun _ _ h1 h2 => run_load1 ag_9 (h1.ev rfl) (rdo ef_str (k := 4) h2 rfl hx1732) rfl) ?_
              refine Tr.va rfl (fun _ _ h1 h2 => run_eqlS (h1.ev rfl) (h1.ev rfl)) ?_
              refine Tr.mv rfl rfl ?_
              refine Tr.mid0 4 [(0, (.pointer (some ⟨bp0, 0, none⟩))), (9, (.slice Ay111_0 (y111.1).length cy111_0)), (173, (.bool ((sEq x173 (⟨#[109, 97, 114, 107]⟩)) && ((y100.length : Int) == 3))))] [(0, bx bp0 #[(iv p0.W), (iv p0.H), (iv p0.Rail), (iv p0.Gap), (.slice Ap0_0 (p0.Kinds).length cp0_0), (.slice Ap0_1 (p0.Slots).length cp0_1), (.slice Ap0_2 (p0.Marks).length cp0_2)] 26), (1, ow Ap0_0 cp0_0 49 fl_TBoardKind p0.Kinds), (2, ow Ap0_1 cp0_1 53 fl_TSlot p0.Slots), (3, ow Ap0_2 cp0_2 51 fl_TPoint p0.Marks), (4, ow Ay100_0 cy100_0 9 fl_str y100), (5, ow Ay111_0 cy111_0 3 fl_i64 y111.1)] ?_ ?_
              ·cases hg178 : (sEq x173 (⟨#[109, 97, 114, 107]⟩))
               ·refine Tr.pass rfl rfl rfl rfl rfl (by decide) ?_
                refine Tr.pass rfl rfl rfl rfl rfl (by decide) ?_
                refine Tr.pass rfl rfl rfl rfl rfl (by decide) ?_
                refine Tr.va rfl (fun _ _ h1 h2 => run_pickF (h1.ev rfl) (h1.ev rfl)) ?_
                exact Tr.nil (Tr.fin0 (.cons rfl (.cons rfl (.cons rfl .nil))) (.cons rfl (.cons rfl (.cons rfl (.cons rfl (.cons rfl (.cons rfl .nil)))))))
               ·refine Tr.val (wg rfl rfl rfl) rfl (fun _ _ h1 h2 => run_move (h1.ev rfl)) ?_
                refine Tr.val (wg rfl rfl rfl) rfl (fun _ _ h1 h2 => run_len un_40 (h1.ev rfl)) ?_
                refine Tr.val (wg rfl rfl rfl) rfl (fun _ _ h1 h2 => run_eql (h1.ev rfl) (h1.ev rfl)) ?_
                refine Tr.va rfl (fun _ _ h1 h2 => run_pickT (h1.ev rfl) (h1.ev rfl)) ?_
                exact Tr.nil (Tr.fin0 (.cons rfl (.cons rfl (.cons rfl .nil))) (.cons rfl (.cons rfl (.cons rfl (.cons rfl (.cons rfl (.cons rfl .nil)))))))
              ·show Tr _ _ (LF [(0, (.pointer (some ⟨bp0, 0, none⟩))), (9, (.slice Ay111_0 (y111.1).length cy111_0)), (173, (.bool ((sEq x173 (⟨#[109, 97, 114, 107]⟩)) && ((y100.length : Int) == 3))))]) (LE [(0, bx bp0 #[(iv p0.W), (iv p0.H), (iv p0.Rail), (iv p0.Gap), (.slice Ap0_0 (p0.Kinds).length cp0_0), (.slice Ap0_1 (p0.Slots).length cp0_1), (.slice Ap0_2 (p0.Marks).length cp0_2)] 26), (1, ow Ap0_0 cp0_0 49 fl_TBoardKind p0.Kinds), (2, ow Ap0_1 cp0_1 53 fl_TSlot p0.Slots), (3, ow Ap0_2 cp0_2 51 fl_TPoint p0.Marks), (4, ow Ay100_0 cy100_0 9 fl_str y100), (5, ow Ay111_0 cy111_0 3 fl_i64 y111.1)]) _
               refine Tr.asg rfl rfl ?_
               refine Tr.nil (Tr.normThen ?_)
               refine Tr.cond rfl H (fun H => ?_) (fun H => ?_)
               ·refine Tr.drawC 14 [(13, (ow Ap0_2 cp0_2 51 fl_TPoint p0.Marks).S)] [] (by kernel_rfl) (by kernel_rfl) fun sz174 hlosz174 hEsz174 => ?_
                refine Dr.quietP 0 (by kernel_rfl) rfl (wn rfl) rfl (by kernel_rfl) (fun _ _ h1 => run_move (h1.ev rfl)) rfl ?_
                refine Dr.quietP 1 (by kernel_rfl) rfl (wn rfl) rfl (by kernel_rfl) (fun _ _ h1 => run_move (h1.ev rfl)) rfl ?_
                refine Dr.quietP 2 (by kernel_rfl) rfl (wn rfl) rfl (by kernel_rfl) (fun _ _ h1 => run_nilCheck (h1.ev rfl)) rfl ?_
                refine Dr.quietP 3 (by kernel_rfl) rfl (wn rfl) rfl (by kernel_rfl) (fun _ _ h1 => run_fieldAddr fo_26_6 (h1.ev rfl)) rfl ?_
                refine Dr.quiet 4 [(178, (.slice Ap0_2 (p0.Marks).length cp0_2))] (by kernel_rfl) rfl rfl (by kernel_rfl) ?_ rfl rfl ?_
                ·refine Tq.va rfl (fun _ _ h1 h2 => run_load1 ag_24 (h1.ev rfl) (rdb h2 (vs := [(iv p0.W), (iv p0.H), (iv p0.Rail), (iv p0.Gap), (.slice Ap0_0 (p0.Kinds).length cp0_0), (.slice Ap0_1 (p0.Slots).length cp0_1), (.slice Ap0_2 (p0.Marks).length cp0_2)]) (k := 0) rfl 6) rfl) ?_
                 exact Tq.fin (.cons rfl .nil)
                refine Dr.quietP 5 (by kernel_rfl) rfl (wn rfl) rfl (by kernel_rfl) (fun _ _ h1 => run_move (h1.ev rfl)) rfl ?_
                obtain ⟨x175, hx175, H⟩ := bnd H
                obtain ⟨hx1750, hx1751, hx1752⟩ := idx_some hx175
                refine Dr.quietP 6 (by kernel_rfl) rfl (wn rfl) rfl (by kernel_rfl) (fun _ _ h1 => run_indexAddr el_64 (h1.ev rfl) hgy111_0 (h1.ev rfl) hx1750 hx1751) rfl ?_
                refine Dr.quietZ 7 [(181, (iv x175))] [13] false (by kernel_rfl) rfl rfl (by kernel_rfl) (fun W W' h2 hsW hk => HF.keepZ (le := [(5, ow Ay111_0 cy111_0 3 fl_i64 y111.1)]) (ks := [(3, (ow Ap0_2 cp0_2 51 fl_TPoint p0.Marks).S)]) (s0 := sz174) false h2 hk (fun h => absurd h (by decide)) (.cons rfl .nil) (fun b hb => hb.elim (fun ⟨p, hp, hf, hb⟩ => by simp only [List.mem_cons, List.not_mem_nil, or_false] at hp; rcases hp with rfl; exact .inl ⟨_, List.mem_cons_self, hb⟩) (fun hb => absurd hb.1 (by decide))) (List.forall_mem_cons.2 ⟨fun b hb => hb, (fun _ h => nomatch h)⟩) rfl) ?_ rfl rfl ?_
                ·refine Tq.va rfl (fun _ _ h1 h2 => run_load1 ag_3 (h1.ev rfl) (rdo ef_i64 (k := 5) h2 rfl hx1752) rfl) ?_
                 exact Tq.fin (.cons rfl .nil)
                refine Dr.quietP 8 (by kernel_rfl) rfl (wn rfl) rfl (by kernel_rfl) (fun _ _ h1 => run_move (h1.ev rfl)) rfl ?_
                obtain ⟨x176, hx176, H⟩ := bnd H
                obtain ⟨hx1760, hx1761, hx1762⟩ := idx_some hx176
                refine Dr.quietP 9 (by kernel_rfl) rfl (wn rfl) rfl (by kernel_rfl) (fun _ _ h1 => run_indexAddr el_64 (h1.ev rfl) hgy111_0 (h1.ev rfl) hx1760 hx1761) rfl ?_
                refine Dr.quietZ 10 [(184, (iv x176))] [13] false (by kernel_rfl) rfl rfl (by kernel_rfl) (fun W W' h2 hsW hk => HF.keepZ (le := [(5, ow Ay111_0 cy111_0 3 fl_i64 y111.1)]) (ks := [(3, (ow Ap0_2 cp0_2 51 fl_TPoint p0.Marks).S)]) (s0 := sz174) false h2 hk (fun h => absurd h (by decide)) (.cons rfl .nil) (fun b hb => hb.elim (fun ⟨p, hp, hf, hb⟩ => by simp only [List.mem_cons, List.not_mem_nil, or_false] at hp; rcases hp with rfl; exact .inl ⟨_, List.mem_cons_self, hb⟩) (fun hb => absurd hb.1 (by decide))) (List.forall_mem_cons.2 ⟨fun b hb => hb, (fun _ h => nomatch h)⟩) rfl) ?_ rfl rfl ?_
                ·refine Tq.va rfl (fun _ _ h1 h2 => run_load1 ag_3 (h1.ev rfl) (rdo ef_i64 (k := 5) h2 rfl hx1762) rfl) ?_
                 exact Tq.fin (.cons rfl .nil)
                refine Dr.quietZ 11 [(185, (.agg #[(iv x175), (iv x176)]))] [13] false (by kernel_rfl) rfl rfl (by kernel_rfl) (fun W W' h2 hsW hk => HF.keepZ (le := []) (ks := [(3, (ow Ap0_2 cp0_2 51 fl_TPoint p0.Marks).S)]) (s0 := sz174) false h2 hk (fun h => absurd h (by decide)) .nil (fun b hb => hb.elim (fun ⟨p, hp, hf, hb⟩ => by simp only [List.mem_cons, List.not_mem_nil, or_false] at hp; rcases hp with rfl; exact .inl ⟨_, List.mem_cons_self, hb⟩) (fun hb => absurd hb.1 (by decide))) (List.forall_mem_cons.2 ⟨fun b hb => hb, (fun _ h => nomatch h)⟩) rfl) ?_ rfl rfl ?_
                ·refine Tq.build (vs := [(0, (iv x175)), (1, (iv x176))]) (cs := [(iv x175), (iv x176)]) (wn rfl) rfl (evs_cons rfl (evs_cons rfl evs_nil)) (by kernel_rfl) ?_
                 exact Tq.fin (.cons rfl .nil)
                refine Dr.one 12 (by kernel_rfl) ?_
                refine St.buildSlice 12 11 (e := 51) (vs := [(0, (.agg #[(iv x175), (iv x176)]))]) (cs := [(iv x175), (iv x176)]) rfl (wn rfl) rfl (evs_cons rfl evs_nil) (by kernel_rfl) fun b177 hb177 => ?_
                obtain ⟨l178, hl178, H⟩ := bnd H
                refine Dr.one 13 (by kernel_rfl) ?_
                refine St.append 13 3 (t' := fl_TPoint) (ll := p0.Marks) (l2 := [(TPoint.mk x175 x176)]) (fun b hb => .inl ⟨_, List.mem_cons_self, rfl, hb⟩) rfl (wn rfl) rfl rfl rfl rfl (fun W hW => ⟨[[(iv x175), (iv x176)]], (.cons ⟨(), trivial, rfl⟩ .nil), rdb hW (vs := [(iv x175), (iv x176)]) (k := 11) rfl 0⟩) un_24 sz_51 zl_51 (by decide) by_51 rfl hl178 fun Al178 cl178 hAl178 => ?_
                refine Dr.tail (by kernel_rfl) ?_
                refine Tr.va rfl (fun _ _ h1 h2 => run_nilCheck (h1.ev rfl)) ?_
                refine Tr.va rfl (fun _ _ h1 h2 => run_fieldAddr fo_26_6 (h1.ev rfl)) ?_
                refine Tr.store 0 (cs := [(.slice Al178 (l178).length cl178)]) [(iv p0.W), (iv p0.H), (iv p0.Rail), (iv p0.Gap), (.slice Ap0_0 (p0.Kinds).length cp0_0), (.slice Ap0_1 (p0.Slots).length cp0_1), (.slice Al178 (l178).length cl178)] (wn rfl) rfl rfl rfl rfl sz_24 rfl rfl rfl ?_
                refine Tr.nil (Tr.normBlock ?_)
                exact Tr.backThen leJ150 (p0.W, p0.H, p0.Rail, p0.Gap, p0.Kinds, p0.Slots, l178, Ap0_0, cp0_0, Ap0_1, cp0_1, Al178, cl178) ⟨H, hfhp0_0, hfhp0_1, hAl178⟩ .nil (.cons rfl (.cons rfl (.cons rfl (.cons rfl .nil))))
               ·refine Tr.sr ?_
                refine Tr.asg rfl rfl ?_
                refine Tr.nil (Tr.normThen ?_)
                refine Tr.ret (Tr.retBlock (Tr.retThen ?_))
                obtain rfl := Option.some.inj H
                exact Tr.out (m := [(.bool false)]) [] (res_tmp rfl res_nil) (fun W hW => ⟨((Ap0_0, cp0_0), (Ap0_1, cp0_1), (Ap0_2, cp0_2)), rfl, ⟨hfhp0_0, hfhp0_1, hfhp0_2⟩, HF.lowE leB (hW.pick (ks := [0, 1, 2, 3]) (by decide) (pk_cons rfl (pk_cons rfl (pk_cons rfl (pk_cons rfl pk_nil))))) ⟨bx_any _ _ _, ow_any _ _ _ _ tr_TBoardKind, ow_any _ _ _ _ tr_TSlot, ow_any _ _ _ _ tr_TPoint, trivial⟩⟩)
     ·intro w s hlJ151 hs
      obtain ⟨x143, x144, x145, x146, l147, l148, l149, Al147, cl147, Al148, cl148, Al149, cl149⟩ := s
      obtain ⟨H, hl147, hl148, hl149⟩ := hs
      replace H : F_panel_readLine_J1 x143 x144 x145 x146 l147 l148 l149 = some r := H
      replace hT := hT.ext hlJ151.ext
      replace leB := leB.trans hlJ151
      replace hl147 : SlF Al147 (l147).length cl147 := hl147
      replace hl148 : SlF Al148 (l148).length cl148 := hl148
      replace hl149 : SlF Al149 (l149).length cl149 := hl149
      unfold F_panel_readLine_J1 at H
      show Tr _ _ (LF []) (LE [(0, bx bp0 #[(iv x143), (iv x144), (iv x145), (iv x146), (.slice Al147 (l147).length cl147), (.slice Al148 (l148).length cl148), (.slice Al149 (l149).length cl149)] 26), (1, ow Al147 cl147 49 fl_TBoardKind l147), (2, ow Al148 cl148 53 fl_TSlot l148), (3, ow Al149 cl149 51 fl_TPoint l149)]) _
      refine Tr.sr ?_
      refine Tr.asg rfl rfl ?_
      refine Tr.nil (Tr.normThen ?_)
      refine Tr.ret ?_
      obtain rfl := Option.some.inj H
      exact Tr.out (m := [(.bool true)]) [] (res_tmp rfl res_nil) (fun W hW => ⟨((Al147, cl147), (Al148, cl148), (Al149, cl149)), rfl, ⟨hl147, hl148, hl149⟩, HF.lowE leB (hW.pick (ks := [0, 1, 2, 3]) (by decide) (pk_cons rfl (pk_cons rfl (pk_cons rfl (pk_cons rfl pk_nil))))) ⟨bx_any _ _ _, ow_any _ _ _ _ tr_TBoardKind, ow_any _ _ _ _ tr_TSlot, ow_any _ _ _ _ tr_TPoint, trivial⟩⟩)

theorem F_panel_Read_ok (N : Nat) {w : Bs} (hT : Tab Tryz.prog w) (p0 : ByteArray) (r : (TPanel × Int × Int)) (H : F_panel_Read N p0 = some r) (hE : HF w w.W (LEn [emp, emp, emp])) : Calls Tryz.prog 6 [(sv p0)].toArray w.W fun e W' => ∃ u : (Option Addr × Nat) × (Option Addr × Nat) × (Option Addr × Nat), e = .returned (.tuple #[(.agg #[(iv r.1.W), (iv r.1.H), (iv r.1.Rail), (iv r.1.Gap), (.slice u.1.1 (r.1.Kinds).length u.1.2), (.slice u.2.1.1 (r.1.Slots).length u.2.1.2), (.slice u.2.2.1 (r.1.Marks).length u.2.2.2)]), (iv r.2.1), (iv r.2.2)]) ∧ (SlF u.1.1 (r.1.Kinds).length u.1.2 ∧ SlF u.2.1.1 (r.1.Slots).length u.2.1.2 ∧ SlF u.2.2.1 (r.1.Marks).length u.2.2.2) ∧ HF w W' (LEn [ow u.1.1 u.1.2 49 fl_TBoardKind r.1.Kinds, ow u.2.1.1 u.2.1.2 53 fl_TSlot r.1.Slots, ow u.2.2.1 u.2.2.2 51 fl_TPoint r.1.Marks]) := by
 unfold F_panel_Read at H
 have leB := Bs.Le.refl w
 refine Tr.enter (n := 48) Tryz.func6 rfl rfl rfl hE ?_
 refine Tr.sr ?_
 refine Tr.alloc 1 (wn rfl) rfl ze_26 fun b100 => ?_
 refine Tr.asg rfl rfl ?_
 refine Tr.asg rfl rfl ?_
 refine Tr.nil (Tr.normThen ?_)
 refine Tr.seq ?_
 refine Tr.sr ?_
 refine Tr.mv rfl rfl ?_
 refine Tr.va rfl (fun _ _ h1 h2 => run_lenS un_9 (h1.ev rfl)) ?_
 refine Tr.va rfl (fun _ _ h1 h2 => run_gtr (h1.ev rfl) (h1.ev rfl)) ?_
 refine Tr.nil (Tr.normThen ?_)
 refine Tr.cond rfl H (fun H => ?_) (fun H => ?_)
 ·refine Tr.sr ?_
  refine Tr.build (vs := []) (cs := [(iv 0), (iv 0), (iv 0), (iv 0), (.slice none 0 0), (.slice none 0 0), (.slice none 0 0)]) (wn rfl) rfl evs_nil (by kernel_rfl) ?_
  refine Tr.store 1 (cs := [(iv 0), (iv 0), (iv 0), (iv 0), (.slice none 0 0), (.slice none 0 0), (.slice none 0 0)]) [(iv 0), (iv 0), (iv 0), (iv 0), (.slice none 0 0), (.slice none 0 0), (.slice none 0 0)] (wn rfl) rfl rfl rfl rfl sz_26 rfl rfl rfl ?_
  refine Tr.asg rfl rfl ?_
  refine Tr.asg rfl rfl ?_
  refine Tr.nil (Tr.normThen ?_)
  refine Tr.ret (Tr.retThen ?_)
  obtain rfl := Option.some.inj H
  refine Tr.nilOwn 2 49 fl_TBoardKind ?_
  refine Tr.nilOwn 3 53 fl_TSlot ?_
  refine Tr.nilOwn 4 51 fl_TPoint ?_
  exact Tr.out (m := [(.agg #[(iv 0), (iv 0), (iv 0), (iv 0), (.slice none 0 0), (.slice none 0 0), (.slice none 0 0)]), (iv 0), (iv 2)]) [1] (res_cell rfl rfl ag_26 sz_26 (res_tmp rfl (res_tmp rfl res_nil))) (fun W hW => ⟨((none, 0), (none, 0), (none, 0)), rfl, ⟨slf_nil, slf_nil, slf_nil⟩, HF.lowE leB (hW.pick (ks := [2, 3, 4]) (by decide) (pk_cons rfl (pk_cons rfl (pk_cons rfl pk_nil)))) ⟨ow_any _ _ _ _ tr_TBoardKind, ow_any _ _ _ _ tr_TSlot, ow_any _ _ _ _ tr_TPoint, trivial⟩⟩)
 ·refine Tr.skip (Tr.normThen ?_)
  refine Tr.sr ?_
  refine Tr.alloc 5 (wn rfl) rfl ze_26 fun b101 => ?_
  refine Tr.nil (Tr.normThen ?_)
  refine Tr.seq ?_
  refine Tr.sr ?_
  refine Tr.asg rfl rfl ?_
  refine Tr.nil (Tr.normThen ?_)
  refine Tr.block ?_
  refine Tr.nilOwn 21 49 fl_TBoardKind ?_
  refine Tr.nilOwn 22 53 fl_TSlot ?_
  refine Tr.nilOwn 23 51 fl_TPoint ?_
  refine Tr.loop (σ := Int × Int × Int × Int × (List TBoardKind) × (List TSlot) × (List TPoint) × ByteArray × Int × (Option Addr) × Nat × (Option Addr) × Nat × (Option Addr) × Nat) (fun m w s => F_panel_Read_L1 N m s.1 s.2.1 s.2.2.1 s.2.2.2.1 s.2.2.2.2.1 s.2.2.2.2.2.1 s.2.2.2.2.2.2.1 s.2.2.2.2.2.2.2.1 s.2.2.2.2.2.2.2.2.1 = some r ∧ SlF s.2.2.2.2.2.2.2.2.2.1 (s.2.2.2.2.1).length s.2.2.2.2.2.2.2.2.2.2.1 ∧ SlF s.2.2.2.2.2.2.2.2.2.2.2.1 (s.2.2.2.2.2.1).length s.2.2.2.2.2.2.2.2.2.2.2.2.1 ∧ SlF s.2.2.2.2.2.2.2.2.2.2.2.2.2.1 (s.2.2.2.2.2.2.1).length s.2.2.2.2.2.2.2.2.2.2.2.2.2.2) (fun s => [(0, (sv s.2.2.2.2.2.2.2.1)), (2, (.pointer (some ⟨b100, 0, none⟩))), (5, (.pointer (some ⟨b101, 0, none⟩))), (6, (iv s.2.2.2.2.2.2.2.2.1))]) (fun s => [(1, bx b100 #[(iv 0), (iv 0), (iv 0), (iv 0), (.slice none 0 0), (.slice none 0 0), (.slice none 0 0)] 26), (5, bx b101 #[(iv s.1), (iv s.2.1), (iv s.2.2.1), (iv s.2.2.2.1), (.slice s.2.2.2.2.2.2.2.2.2.1 (s.2.2.2.2.1).length s.2.2.2.2.2.2.2.2.2.2.1), (.slice s.2.2.2.2.2.2.2.2.2.2.2.1 (s.2.2.2.2.2.1).length s.2.2.2.2.2.2.2.2.2.2.2.2.1), (.slice s.2.2.2.2.2.2.2.2.2.2.2.2.2.1 (s.2.2.2.2.2.2.1).length s.2.2.2.2.2.2.2.2.2.2.2.2.2.2)] 26), (21, ow s.2.2.2.2.2.2.2.2.2.1 s.2.2.2.2.2.2.2.2.2.2.1 49 fl_TBoardKind s.2.2.2.2.1), (22, ow s.2.2.2.2.2.2.2.2.2.2.2.1 s.2.2.2.2.2.2.2.2.2.2.2.2.1 53 fl_TSlot s.2.2.2.2.2.1), (23, ow s.2.2.2.2.2.2.2.2.2.2.2.2.2.1 s.2.2.2.2.2.2.2.2.2.2.2.2.2.2 51 fl_TPoint s.2.2.2.2.2.2.1)]) N (0, 0, 0, 0, ([] : List TBoardKind), ([] : List TSlot), ([] : List TPoint), p0, 0, none, 0, none, 0, none, 0) ⟨H, slf_nil, slf_nil, slf_nil⟩ (.cons rfl (.cons rfl (.cons rfl (.cons rfl .nil)))) (.cons rfl (.cons rfl (.cons rfl (.cons rfl (.cons rfl .nil))))) (fun _ _ h => noSome (h.1)) ?_
  intro w leL1 mL1 s hs
  obtain ⟨x141, x142, x143, x144, l145, l146, l147, x148, x149, Al145, cl145, Al146, cl146, Al147, cl147⟩ := s
  obtain ⟨H, hl145, hl146, hl147⟩ := hs
  replace H : F_panel_Read_L1 N (mL1 + 1) x141 x142 x143 x144 l145 l146 l147 x148 x149 = some r := H
  replace hT := hT.ext leL1.ext
  replace leB := leB.trans leL1
  replace hl145 : SlF Al145 (l145).length cl145 := hl145
  replace hl146 : SlF Al146 (l146).length cl146 := hl146
  replace hl147 : SlF Al147 (l147).length cl147 := hl147
  rw [F_panel_Read_L1.eq_2] at H
  show Tr _ _ (LF [(0, (sv x148)), (2, (.pointer (some ⟨b100, 0, none⟩))), (5, (.pointer (some ⟨b101, 0, none⟩))), (6, (iv x149))]) (LE [(1, bx b100 #[(iv 0), (iv 0), (iv 0), (iv 0), (.slice none 0 0), (.slice none 0 0), (.slice none 0 0)] 26), (5, bx b101 #[(iv x141), (iv x142), (iv x143), (iv x144), (.slice Al145 (l145).length cl145), (.slice Al146 (l146).length cl146), (.slice Al147 (l147).length cl147)] 26), (21, ow Al145 cl145 49 fl_TBoardKind l145), (22, ow Al146 cl146 53 fl_TSlot l146), (23, ow Al147 cl147 51 fl_TPoint l147)]) _
  refine Tr.seq ?_
  refine Tr.sr ?_
  refine Tr.mv rfl rfl ?_
  refine Tr.va rfl (fun _ _ h1 h2 => run_eql (h1.ev rfl) (h1.ev rfl)) ?_
  refine Tr.mv rfl rfl ?_
  refine Tr.mid0 3 [(0, (sv x148)), (2, (.pointer (some ⟨b100, 0, none⟩))), (5, (.pointer (some ⟨b101, 0, none⟩))), (6, (iv x149)), (20, (.bool ((x149 == 0) || (!sEq x148 (⟨#[]⟩)))))] [(1, bx b100 #[(iv 0), (iv 0), (iv 0), (iv 0), (.slice none 0 0), (.slice none 0 0), (.slice none 0 0)] 26), (5, bx b101 #[(iv x141), (iv x142), (iv x143), (iv x144), (.slice Al145 (l145).length cl145), (.slice Al146 (l146).length cl146), (.slice Al147 (l147).length cl147)] 26), (21, ow Al145 cl145 49 fl_TBoardKind l145), (22, ow Al146 cl146 53 fl_TSlot l146), (23, ow Al147 cl147 51 fl_TPoint l147)] ?_ ?_
  ·cases hg156 : (x149 == 0)
   ·refine Tr.val (wg rfl rfl rfl) rfl (fun _ _ h1 h2 => run_move (h1.ev rfl)) ?_
    refine Tr.val (wg rfl rfl rfl) rfl (fun _ _ h1 h2 => run_neqS (h1.ev rfl) (h1.ev rfl)) ?_
    refine Tr.va rfl (fun _ _ h1 h2 => run_pickF (h1.ev rfl) (h1.ev rfl)) ?_
    exact Tr.nil (Tr.fin0 (.cons rfl (.cons rfl (.cons rfl (.cons rfl (.cons rfl .nil))))) (.cons rfl (.cons rfl (.cons rfl (.cons rfl (.cons rfl .nil))))))
   ·refine Tr.pass rfl rfl rfl rfl rfl (by decide) ?_
    refine Tr.pass rfl rfl rfl rfl rfl (by decide) ?_
    refine Tr.va rfl (fun _ _ h1 h2 => run_pickT (h1.ev rfl) (h1.ev rfl)) ?_
    exact Tr.nil (Tr.fin0 (.cons rfl (.cons rfl (.cons rfl (.cons rfl (.cons rfl .nil))))) (.cons rfl (.cons rfl (.cons rfl (.cons rfl (.cons rfl .nil))))))
  ·show Tr _ _ (LF [(0, (sv x148)), (2, (.pointer (some ⟨b100, 0, none⟩))), (5, (.pointer (some ⟨b101, 0, none⟩))), (6, (iv x149)), (20, (.bool ((x149 == 0) || (!sEq x148 (⟨#[]⟩)))))]) (LE [(1, bx b100 #[(iv 0), (iv 0), (iv 0), (iv 0), (.slice none 0 0), (.slice none 0 0), (.slice none 0 0)] 26), (5, bx b101 #[(iv x141), (iv x142), (iv x143), (iv x144), (.slice Al145 (l145).length cl145), (.slice Al146 (l146).length cl146), (.slice Al147 (l147).length cl147)] 26), (21, ow Al145 cl145 49 fl_TBoardKind l145), (22, ow Al146 cl146 53 fl_TSlot l146), (23, ow Al147 cl147 51 fl_TPoint l147)]) _
   refine Tr.nil (Tr.normThen ?_)
   refine Tr.cond rfl H (fun H => ?_) (fun H => ?_)
   ·refine Tr.skip (Tr.normThen ?_)
    refine Tr.seq ?_
    refine Tr.block ?_
    refine Tr.sr ?_
    refine Tr.mv rfl rfl ?_
    obtain ⟨y150, hy150, H⟩ := bnd H
    refine Tr.call0 (r := (.tuple #[(sv y150.1), (sv y150.2.1), (.bool y150.2.2)])) (wn rfl) rfl Tryz.call17 (evl_cons rfl (evl_cons rfl evl_nil)) (fun W hW => F_strings_Cut_ok (hT.ext hW.extAll) x148 (⟨#[10]⟩) y150 hy150 (HF.start _)) ?_
    refine Tr.mv rfl rfl ?_
    refine Tr.va rfl (fun _ _ h1 h2 => run_extract (h1.ev rfl) rfl) ?_
    refine Tr.va rfl (fun _ _ h1 h2 => run_extract (h1.ev rfl) rfl) ?_
    refine Tr.va rfl (fun _ _ h1 h2 => run_extract (h1.ev rfl) rfl) ?_
    refine Tr.asg rfl rfl ?_
    refine Tr.asg rfl rfl ?_
    refine Tr.asg rfl rfl ?_
    refine Tr.nil (Tr.normThen ?_)
    refine Tr.seq ?_
    refine Tr.sr ?_
    refine Tr.mv rfl rfl ?_
    refine Tr.va rfl (fun _ _ h1 h2 => run_not (h1.ev rfl)) ?_
    refine Tr.mv rfl rfl ?_
    cases hg152 : (!y150.2.2)
    ·rw [hg152, if_neg (by decide)] at H
     refine Tr.val (wg rfl rfl rfl) rfl (fun _ _ h1 h2 => run_move (h1.ev rfl)) ?_
     refine Tr.val (wg rfl rfl rfl) rfl (fun _ _ h1 h2 => run_move (h1.ev rfl)) ?_
     obtain ⟨y154, hy154, H⟩ := bnd H
     refine Tr.callM [5, 21, 22, 23] [bx b101 #[(iv x141), (iv x142), (iv x143), (iv x144), (.slice Al145 (l145).length cl145), (.slice Al146 (l146).length cl146), (.slice Al147 (l147).length cl147)] 26, ow Al145 cl145 49 fl_TBoardKind l145, ow Al146 cl146 53 fl_TSlot l146, ow Al147 cl147 51 fl_TPoint l147] (U := (Option Addr × Nat) × (Option Addr × Nat) × (Option Addr × Nat)) (fun u => (.bool y154.1)) (fun u => SlF u.1.1 (y154.2.2.2.2.2.1).length u.1.2 ∧ SlF u.2.1.1 (y154.2.2.2.2.2.2.1).length u.2.1.2 ∧ SlF u.2.2.1 (y154.2.2.2.2.2.2.2).length u.2.2.2) (fun u => [bx b101 #[(iv y154.2.1), (iv y154.2.2.1), (iv y154.2.2.2.1), (iv y154.2.2.2.2.1), (.slice u.1.1 (y154.2.2.2.2.2.1).length u.1.2), (.slice u.2.1.1 (y154.2.2.2.2.2.2.1).length u.2.1.2), (.slice u.2.2.1 (y154.2.2.2.2.2.2.2).length u.2.2.2)] 26, ow u.1.1 u.1.2 49 fl_TBoardKind y154.2.2.2.2.2.1, ow u.2.1.1 u.2.1.2 53 fl_TSlot y154.2.2.2.2.2.2.1, ow u.2.2.1 u.2.2.2 51 fl_TPoint y154.2.2.2.2.2.2.2]) rfl (pk_cons rfl (pk_cons rfl (pk_cons rfl (pk_cons rfl pk_nil)))) (fun _ => rfl) (wg rfl rfl rfl) rfl Tryz.call18 (evl_cons rfl (evl_cons rfl (evl_cons rfl evl_nil))) (fun W hW hp hE => F_panel_readLine_ok (hT.ext (hW.extS hp)) (TPanel.mk x141 x142 x143 x144 l145 l146 l147) Al145 cl145 Al146 cl146 Al147 cl147 b101 x149 y150.1 y154 hy154 hE) ?_
     intro u hu
     obtain ⟨⟨Ay154_0, cy154_0⟩, ⟨Ay154_1, cy154_1⟩, ⟨Ay154_2, cy154_2⟩⟩ := u
     obtain ⟨gy154_0, gy154_1, gy154_2⟩ := hu
     have hgy154_0 : SlF Ay154_0 (y154.2.2.2.2.2.1).length cy154_0 := gy154_0 --@phi
     have hgy154_1 : SlF Ay154_1 (y154.2.2.2.2.2.2.1).length cy154_1 := gy154_1 --@phi
     have hgy154_2 : SlF Ay154_2 (y154.2.2.2.2.2.2.2).length cy154_2 := gy154_2 --@phi
     show Tr _ _ (uf _ 34 (.bool y154.1)) (up (up (up (up _ 23 (ow Ay154_2 cy154_2 51 fl_TPoint y154.2.2.2.2.2.2.2)) 22 (ow Ay154_1 cy154_1 53 fl_TSlot y154.2.2.2.2.2.2.1)) 21 (ow Ay154_0 cy154_0 49 fl_TBoardKind y154.2.2.2.2.2.1)) 5 (bx b101 #[(iv y154.2.1), (iv y154.2.2.1), (iv y154.2.2.2.1), (iv y154.2.2.2.2.1), (.slice Ay154_0 (y154.2.2.2.2.2.1).length cy154_0), (.slice Ay154_1 (y154.2.2.2.2.2.2.1).length cy154_1), (.slice Ay154_2 (y154.2.2.2.2.2.2.2).length cy154_2)] 26)) _
     refine Tr.val (wg rfl rfl rfl) rfl (fun _ _ h1 h2 => run_not (h1.ev rfl)) ?_
     refine Tr.va rfl (fun _ _ h1 h2 => run_pickF (h1.ev rfl) (h1.ev rfl)) ?_
     refine Tr.nil (Tr.normThen ?_)
     refine Tr.cond rfl H (fun H => ?_) (fun H => ?_)
     ·refine Tr.sr ?_
      refine Tr.build (vs := []) (cs := [(iv 0), (iv 0), (iv 0), (iv 0), (.slice none 0 0), (.slice none 0 0), (.slice none 0 0)]) (wn rfl) rfl evs_nil (by kernel_rfl) ?_
      refine Tr.mv rfl rfl ?_
      refine Tr.va rfl (fun _ _ h1 h2 => run_add (h1.ev rfl) (h1.ev rfl)) ?_
      refine Tr.store 1 (cs := [(iv 0), (iv 0), (iv 0), (iv 0), (.slice none 0 0), (.slice none 0 0), (.slice none 0 0)]) [(iv 0), (iv 0), (iv 0), (iv 0), (.slice none 0 0), (.slice none 0 0), (.slice none 0 0)] (wn rfl) rfl rfl rfl rfl sz_26 rfl rfl rfl ?_
      refine Tr.asg rfl rfl ?_
      refine Tr.asg rfl rfl ?_
      refine Tr.nil (Tr.normThen ?_)
      refine Tr.ret (Tr.retThen (Tr.retBlock (Tr.retThen (Tr.retThen (Tr.retBlock (Tr.retThen ?_))))))
      obtain rfl := Option.some.inj H
      refine Tr.nilOwn 27 49 fl_TBoardKind ?_
      refine Tr.nilOwn 28 53 fl_TSlot ?_
      refine Tr.nilOwn 29 51 fl_TPoint ?_
      exact Tr.out (m := [(.agg #[(iv 0), (iv 0), (iv 0), (iv 0), (.slice none 0 0), (.slice none 0 0), (.slice none 0 0)]), (iv (w64 (x149 + 1))), (iv 10)]) [1] (res_cell rfl rfl ag_26 sz_26 (res_tmp rfl (res_tmp rfl res_nil))) (fun W hW => ⟨((none, 0), (none, 0), (none, 0)), rfl, ⟨slf_nil, slf_nil, slf_nil⟩, HF.lowE leB (hW.pick (ks := [27, 28, 29]) (by decide) (pk_cons rfl (pk_cons rfl (pk_cons rfl pk_nil)))) ⟨ow_any _ _ _ _ tr_TBoardKind, ow_any _ _ _ _ tr_TSlot, ow_any _ _ _ _ tr_TPoint, trivial⟩⟩)
     ·refine Tr.skip (Tr.normThen ?_)
      refine Tr.region ?_
      refine Tr.mv rfl rfl ?_
      refine Tr.asg rfl rfl ?_
      refine Tr.nil (Tr.normBlock (Tr.normThen ?_))
      refine Tr.region ?_
      refine Tr.mv rfl rfl ?_
      refine Tr.va rfl (fun _ _ h1 h2 => run_add (h1.ev rfl) (h1.ev rfl)) ?_
      refine Tr.asg rfl rfl ?_
      refine Tr.nil ?_
      exact Tr.backThen leL1 (y154.2.1, y154.2.2.1, y154.2.2.2.1, y154.2.2.2.2.1, y154.2.2.2.2.2.1, y154.2.2.2.2.2.2.1, y154.2.2.2.2.2.2.2, y150.2.1, (w64 (x149 + 1)), Ay154_0, cy154_0, Ay154_1, cy154_1, Ay154_2, cy154_2) ⟨H, hgy154_0, hgy154_1, hgy154_2⟩ (.cons rfl (.cons rfl (.cons rfl (.cons rfl .nil)))) (.cons rfl (.cons rfl (.cons rfl (.cons rfl (.cons rfl .nil)))))
    ·rw [hg152, if_pos rfl] at H
     refine Tr.pass rfl rfl rfl rfl rfl (by decide) ?_
     refine Tr.pass rfl rfl rfl rfl rfl (by decide) ?_
     refine Tr.pass rfl rfl rfl rfl rfl (by decide) ?_
     refine Tr.pass rfl rfl rfl rfl rfl (by decide) ?_
     refine Tr.va rfl (fun _ _ h1 h2 => run_pickT (h1.ev rfl) (h1.ev rfl)) ?_
     refine Tr.nil (Tr.normThen ?_)
     refine Tr.condT rfl rfl ?_
     refine Tr.sr ?_
     refine Tr.build (vs := []) (cs := [(iv 0), (iv 0), (iv 0), (iv 0), (.slice none 0 0), (.slice none 0 0), (.slice none 0 0)]) (wn rfl) rfl evs_nil (by kernel_rfl) ?_
     refine Tr.mv rfl rfl ?_
     refine Tr.va rfl (fun _ _ h1 h2 => run_add (h1.ev rfl) (h1.ev rfl)) ?_
     refine Tr.store 1 (cs := [(iv 0), (iv 0), (iv 0), (iv 0), (.slice none 0 0), (.slice none 0 0), (.slice none 0 0)]) [(iv 0), (iv 0), (iv 0), (iv 0), (.slice none 0 0), (.slice none 0 0), (.slice none 0 0)] (wn rfl) rfl rfl rfl rfl sz_26 rfl rfl rfl ?_
     refine Tr.asg rfl rfl ?_
     refine Tr.asg rfl rfl ?_
     refine Tr.nil (Tr.normThen ?_)
     refine Tr.ret (Tr.retThen (Tr.retBlock (Tr.retThen (Tr.retThen (Tr.retBlock (Tr.retThen ?_))))))
     obtain rfl := Option.some.inj H
     refine Tr.nilOwn 24 49 fl_TBoardKind ?_
     refine Tr.nilOwn 25 53 fl_TSlot ?_
     refine Tr.nilOwn 26 51 fl_TPoint ?_
     exact Tr.out (m := [(.agg #[(iv 0), (iv 0), (iv 0), (iv 0), (.slice none 0 0), (.slice none 0 0), (.slice none 0 0)]), (iv (w64 (x149 + 1))), (iv 10)]) [1] (res_cell rfl rfl ag_26 sz_26 (res_tmp rfl (res_tmp rfl res_nil))) (fun W hW => ⟨((none, 0), (none, 0), (none, 0)), rfl, ⟨slf_nil, slf_nil, slf_nil⟩, HF.lowE leB (hW.pick (ks := [24, 25, 26]) (by decide) (pk_cons rfl (pk_cons rfl (pk_cons rfl pk_nil)))) ⟨ow_any _ _ _ _ tr_TBoardKind, ow_any _ _ _ _ tr_TSlot, ow_any _ _ _ _ tr_TPoint, trivial⟩⟩)
   ·refine Tr.exit (Tr.exitThen (Tr.exitThen (Tr.exitBlock (Tr.normThen ?_))))
    refine Tr.seq ?_
    refine Tr.sr ?_
    refine Tr.va rfl (fun _ _ h1 h2 => run_loadN (cs := [(iv x141), (iv x142), (iv x143), (iv x144), (.slice Al145 (l145).length cl145), (.slice Al146 (l146).length cl146), (.slice Al147 (l147).length cl147)]) ag_26 sz_26 (h1.ev rfl) (CellsAt.take (rdb h2 (vs := [(iv x141), (iv x142), (iv x143), (iv x144), (.slice Al145 (l145).length cl145), (.slice Al146 (l146).length cl146), (.slice Al147 (l147).length cl147)]) (k := 5) rfl 0) 7) rfl) ?_
    obtain ⟨y156, hy156, H⟩ := bnd H
    refine Tr.call0 (r := (iv y156)) (wn rfl) rfl Tryz.call11 (evl_cons rfl evl_nil) (fun W hW => F_panel_CheckPanel_ok N (TPanel.mk x141 x142 x143 x144 l145 l146 l147) Al145 cl145 (hW.slCall (k := 21) rfl) Al146 cl146 (hW.slCall (k := 22) rfl) Al147 cl147 (hW.slCall (k := 23) rfl) y156 hy156 (HF.start _)) ?_
    refine Tr.asg rfl rfl ?_
    refine Tr.nil (Tr.normThen ?_)
    refine Tr.sr ?_
    refine Tr.mv rfl rfl ?_
    refine Tr.va rfl (fun _ _ h1 h2 => run_neq (h1.ev rfl) (h1.ev rfl)) ?_
    refine Tr.nil (Tr.normThen ?_)
    refine Tr.cond rfl H (fun H => ?_) (fun H => ?_)
    ·refine Tr.sr ?_
     refine Tr.build (vs := []) (cs := [(iv 0), (iv 0), (iv 0), (iv 0), (.slice none 0 0), (.slice none 0 0), (.slice none 0 0)]) (wn rfl) rfl evs_nil (by kernel_rfl) ?_
     refine Tr.mv rfl rfl ?_
     refine Tr.store 1 (cs := [(iv 0), (iv 0), (iv 0), (iv 0), (.slice none 0 0), (.slice none 0 0), (.slice none 0 0)]) [(iv 0), (iv 0), (iv 0), (iv 0), (.slice none 0 0), (.slice none 0 0), (.slice none 0 0)] (wn rfl) rfl rfl rfl rfl sz_26 rfl rfl rfl ?_
     refine Tr.asg rfl rfl ?_
     refine Tr.asg rfl rfl ?_
     refine Tr.nil (Tr.normThen ?_)
     refine Tr.ret (Tr.retThen ?_)
     obtain rfl := Option.some.inj H
     refine Tr.nilOwn 30 49 fl_TBoardKind ?_
     refine Tr.nilOwn 31 53 fl_TSlot ?_
     refine Tr.nilOwn 32 51 fl_TPoint ?_
     exact Tr.out (m := [(.agg #[(iv 0), (iv 0), (iv 0), (iv 0), (.slice none 0 0), (.slice none 0 0), (.slice none 0 0)]), (iv 0), (iv y156)]) [1] (res_cell rfl rfl ag_26 sz_26 (res_tmp rfl (res_tmp rfl res_nil))) (fun W hW => ⟨((none, 0), (none, 0), (none, 0)), rfl, ⟨slf_nil, slf_nil, slf_nil⟩, HF.lowE leB (hW.pick (ks := [30, 31, 32]) (by decide) (pk_cons rfl (pk_cons rfl (pk_cons rfl pk_nil)))) ⟨ow_any _ _ _ _ tr_TBoardKind, ow_any _ _ _ _ tr_TSlot, ow_any _ _ _ _ tr_TPoint, trivial⟩⟩)
    ·refine Tr.skip (Tr.normThen ?_)
     refine Tr.sr ?_
     refine Tr.va rfl (fun _ _ h1 h2 => run_loadN (cs := [(iv x141), (iv x142), (iv x143), (iv x144), (.slice Al145 (l145).length cl145), (.slice Al146 (l146).length cl146), (.slice Al147 (l147).length cl147)]) ag_26 sz_26 (h1.ev rfl) (CellsAt.take (rdb h2 (vs := [(iv x141), (iv x142), (iv x143), (iv x144), (.slice Al145 (l145).length cl145), (.slice Al146 (l146).length cl146), (.slice Al147 (l147).length cl147)]) (k := 5) rfl 0) 7) rfl) ?_
     refine Tr.store 1 (cs := [(iv x141), (iv x142), (iv x143), (iv x144), (.slice Al145 (l145).length cl145), (.slice Al146 (l146).length cl146), (.slice Al147 (l147).length cl147)]) [(iv x141), (iv x142), (iv x143), (iv x144), (.slice Al145 (l145).length cl145), (.slice Al146 (l146).length cl146), (.slice Al147 (l147).length cl147)] (wn rfl) rfl rfl rfl rfl sz_26 rfl rfl rfl ?_
     refine Tr.asg rfl rfl ?_
     refine Tr.asg rfl rfl ?_
     refine Tr.nil (Tr.normThen ?_)
     refine Tr.ret ?_
     obtain rfl := Option.some.inj H
     exact Tr.out (m := [(.agg #[(iv x141), (iv x142), (iv x143), (iv x144), (.slice Al145 (l145).length cl145), (.slice Al146 (l146).length cl146), (.slice Al147 (l147).length cl147)]), (iv 0), (iv 0)]) [1] (res_cell rfl rfl ag_26 sz_26 (res_tmp rfl (res_tmp rfl res_nil))) (fun W hW => ⟨((Al145, cl145), (Al146, cl146), (Al147, cl147)), rfl, ⟨hl145, hl146, hl147⟩, HF.lowE leB (hW.pick (ks := [21, 22, 23]) (by decide) (pk_cons rfl (pk_cons rfl (pk_cons rfl pk_nil)))) ⟨ow_any _ _ _ _ tr_TBoardKind, ow_any _ _ _ _ tr_TSlot, ow_any _ _ _ _ tr_TPoint, trivial⟩⟩)

theorem F_etchhouseref9_Same_ok (N : Nat) {w : Bs} (p0 : TPanel) (Ap0_0 : Option Addr) (cp0_0 : Nat) (hp0_0 : Sl w.R w.W fl_TBoardKind Ap0_0 cp0_0 p0.Kinds) (Ap0_1 : Option Addr) (cp0_1 : Nat) (hp0_1 : Sl w.R w.W fl_TSlot Ap0_1 cp0_1 p0.Slots) (Ap0_2 : Option Addr) (cp0_2 : Nat) (hp0_2 : Sl w.R w.W fl_TPoint Ap0_2 cp0_2 p0.Marks) (p1 : TPanel) (Ap1_0 : Option Addr) (cp1_0 : Nat) (hp1_0 : Sl w.R w.W fl_TBoardKind Ap1_0 cp1_0 p1.Kinds) (Ap1_1 : Option Addr) (cp1_1 : Nat) (hp1_1 : Sl w.R w.W fl_TSlot Ap1_1 cp1_1 p1.Slots) (Ap1_2 : Option Addr) (cp1_2 : Nat) (hp1_2 : Sl w.R w.W fl_TPoint Ap1_2 cp1_2 p1.Marks) (r : Bool) (H : F_etchhouseref9_Same N p0 p1 = some r) (hE : HF w w.W E0) : Calls Tryz.prog 7 [(.agg #[(iv p0.W), (iv p0.H), (iv p0.Rail), (iv p0.Gap), (.slice Ap0_0 (p0.Kinds).length cp0_0), (.slice Ap0_1 (p0.Slots).length cp0_1), (.slice Ap0_2 (p0.Marks).length cp0_2)]), (.agg #[(iv p1.W), (iv p1.H), (iv p1.Rail), (iv p1.Gap), (.slice Ap1_0 (p1.Kinds).length cp1_0), (.slice Ap1_1 (p1.Slots).length cp1_1), (.slice Ap1_2 (p1.Marks).length cp1_2)])].toArray w.W fun e W' => e = .returned (.bool r) ∧ HF w W' E0 := by
 unfold F_etchhouseref9_Same at H
 have leB := Bs.Le.refl w
 refine Tr.enter (n := 115) Tryz.func7 rfl rfl rfl hE ?_
 refine Tr.sr ?_
 refine Tr.box 1 (cs := [(iv p0.W), (iv p0.H), (iv p0.Rail), (iv p0.Gap), (.slice Ap0_0 (p0.Kinds).length cp0_0), (.slice Ap0_1 (p0.Slots).length cp0_1), (.slice Ap0_2 (p0.Marks).length cp0_2)]) (wn rfl) rfl rfl rfl fun b100 => ?_
 refine Tr.box 2 (cs := [(iv p1.W), (iv p1.H), (iv p1.Rail), (iv p1.Gap), (.slice Ap1_0 (p1.Kinds).length cp1_0), (.slice Ap1_1 (p1.Slots).length cp1_1), (.slice Ap1_2 (p1.Marks).length cp1_2)]) (wn rfl) rfl rfl rfl fun b101 => ?_
 refine Tr.asg rfl rfl ?_
 refine Tr.nil (Tr.normThen ?_)
 refine Tr.seq ?_
 refine Tr.sr ?_
 refine Tr.va rfl (fun _ _ h1 h2 => run_fieldAddr fo_26_0 (h1.ev rfl)) ?_
 refine Tr.va rfl (fun _ _ h1 h2 => run_load1 ag_3 (h1.ev rfl) (rdb h2 (vs := [(iv p0.W), (iv p0.H), (iv p0.Rail), (iv p0.Gap), (.slice Ap0_0 (p0.Kinds).length cp0_0), (.slice Ap0_1 (p0.Slots).length cp0_1), (.slice Ap0_2 (p0.Marks).length cp0_2)]) (k := 1) rfl 0) rfl) ?_
 refine Tr.va rfl (fun _ _ h1 h2 => run_fieldAddr fo_26_0 (h1.ev rfl)) ?_
 refine Tr.va rfl (fun _ _ h1 h2 => run_load1 ag_3 (h1.ev rfl) (rdb h2 (vs := [(iv p1.W), (iv p1.H), (iv p1.Rail), (iv p1.Gap), (.slice Ap1_0 (p1.Kinds).length cp1_0), (.slice Ap1_1 (p1.Slots).length cp1_1), (.slice Ap1_2 (p1.Marks).length cp1_2)]) (k := 2) rfl 0) rfl) ?_
 refine Tr.va rfl (fun _ _ h1 h2 => run_neq (h1.ev rfl) (h1.ev rfl)) ?_
 refine Tr.mv rfl rfl ?_
 refine Tr.mid0 6 [(2, (.pointer (some ⟨b100, 0, none⟩))), (3, (.pointer (some ⟨b101, 0, none⟩))), (19, (.bool ((p0.W != p1.W) || (p0.H != p1.H))))] [(1, bx b100 #[(iv p0.W), (iv p0.H), (iv p0.Rail), (iv p0.Gap), (.slice Ap0_0 (p0.Kinds).length cp0_0), (.slice Ap0_1 (p0.Slots).length cp0_1), (.slice Ap0_2 (p0.Marks).length cp0_2)] 26), (2, bx b101 #[(iv p1.W), (iv p1.H), (iv p1.Rail), (iv p1.Gap), (.slice Ap1_0 (p1.Kinds).length cp1_0), (.slice Ap1_1 (p1.Slots).length cp1_1), (.slice Ap1_2 (p1.Marks).length cp1_2)] 26)] ?_ ?_
 ·cases hg131 : (p0.W != p1.W)
  ·refine Tr.val (wg rfl rfl rfl) rfl (fun _ _ h1 h2 => run_fieldAddr fo_26_1 (h1.ev rfl)) ?_
   refine Tr.val (wg rfl rfl rfl) rfl (fun _ _ h1 h2 => run_load1 ag_3 (h1.ev rfl) (rdb h2 (vs := [(iv p0.W), (iv p0.H), (iv p0.Rail), (iv p0.Gap), (.slice Ap0_0 (p0.Kinds).length cp0_0), (.slice Ap0_1 (p0.Slots).length cp0_1), (.slice Ap0_2 (p0.Marks).length cp0_2)]) (k := 1) rfl 1) rfl) ?_
   refine Tr.val (wg rfl rfl rfl) rfl (fun _ _ h1 h2 => run_fieldAddr fo_26_1 (h1.ev rfl)) ?_
   refine Tr.val (wg rfl rfl rfl) rfl (fun _ _ h1 h2 => run_load1 ag_3 (h1.ev rfl) (rdb h2 (vs := [(iv p1.W), (iv p1.H), (iv p1.Rail), (iv p1.Gap), (.slice Ap1_0 (p1.Kinds).length cp1_0), (.slice Ap1_1 (p1.Slots).length cp1_1), (.slice Ap1_2 (p1.Marks).length cp1_2)]) (k := 2) rfl 1) rfl) ?_
   refine Tr.val (wg rfl rfl rfl) rfl (fun _ _ h1 h2 => run_neq (h1.ev rfl) (h1.ev rfl)) ?_
   refine Tr.va rfl (fun _ _ h1 h2 => run_pickF (h1.ev rfl) (h1.ev rfl)) ?_
   exact Tr.nil (Tr.fin0 (.cons rfl (.cons rfl (.cons rfl .nil))) (.cons rfl (.cons rfl .nil)))
  ·refine Tr.pass rfl rfl rfl rfl rfl (by decide) ?_
   refine Tr.pass rfl rfl rfl rfl rfl (by decide) ?_
   refine Tr.pass rfl rfl rfl rfl rfl (by decide) ?_
   refine Tr.pass rfl rfl rfl rfl rfl (by decide) ?_
   refine Tr.pass rfl rfl rfl rfl rfl (by decide) ?_
   refine Tr.va rfl (fun _ _ h1 h2 => run_pickT (h1.ev rfl) (h1.ev rfl)) ?_
   exact Tr.nil (Tr.fin0 (.cons rfl (.cons rfl (.cons rfl .nil))) (.cons rfl (.cons rfl .nil)))
 ·show Tr _ _ (LF [(2, (.pointer (some ⟨b100, 0, none⟩))), (3, (.pointer (some ⟨b101, 0, none⟩))), (19, (.bool ((p0.W != p1.W) || (p0.H != p1.H))))]) (LE [(1, bx b100 #[(iv p0.W), (iv p0.H), (iv p0.Rail), (iv p0.Gap), (.slice Ap0_0 (p0.Kinds).length cp0_0), (.slice Ap0_1 (p0.Slots).length cp0_1), (.slice Ap0_2 (p0.Marks).length cp0_2)] 26), (2, bx b101 #[(iv p1.W), (iv p1.H), (iv p1.Rail), (iv p1.Gap), (.slice Ap1_0 (p1.Kinds).length cp1_0), (.slice Ap1_1 (p1.Slots).length cp1_1), (.slice Ap1_2 (p1.Marks).length cp1_2)] 26)]) _
  refine Tr.mv rfl rfl ?_
  refine Tr.mid0 6 [(2, (.pointer (some ⟨b100, 0, none⟩))), (3, (.pointer (some ⟨b101, 0, none⟩))), (26, (.bool (((p0.W != p1.W) || (p0.H != p1.H)) || (p0.Rail != p1.Rail))))] [(1, bx b100 #[(iv p0.W), (iv p0.H), (iv p0.Rail), (iv p0.Gap), (.slice Ap0_0 (p0.Kinds).length cp0_0), (.slice Ap0_1 (p0.Slots).length cp0_1), (.slice Ap0_2 (p0.Marks).length cp0_2)] 26), (2, bx b101 #[(iv p1.W), (iv p1.H), (iv p1.Rail), (iv p1.Gap), (.slice Ap1_0 (p1.Kinds).length cp1_0), (.slice Ap1_1 (p1.Slots).length cp1_1), (.slice Ap1_2 (p1.Marks).length cp1_2)] 26)] ?_ ?_
  ·cases hg131 : ((p0.W != p1.W) || (p0.H != p1.H))
   ·refine Tr.val (wg rfl rfl rfl) rfl (fun _ _ h1 h2 => run_fieldAddr fo_26_2 (h1.ev rfl)) ?_
    refine Tr.val (wg rfl rfl rfl) rfl (fun _ _ h1 h2 => run_load1 ag_3 (h1.ev rfl) (rdb h2 (vs := [(iv p0.W), (iv p0.H), (iv p0.Rail), (iv p0.Gap), (.slice Ap0_0 (p0.Kinds).length cp0_0), (.slice Ap0_1 (p0.Slots).length cp0_1), (.slice Ap0_2 (p0.Marks).length cp0_2)]) (k := 1) rfl 2) rfl) ?_
    refine Tr.val (wg rfl rfl rfl) rfl (fun _ _ h1 h2 => run_fieldAddr fo_26_2 (h1.ev rfl)) ?_
    refine Tr.val (wg rfl rfl rfl) rfl (fun _ _ h1 h2 => run_load1 ag_3 (h1.ev rfl) (rdb h2 (vs := [(iv p1.W), (iv p1.H), (iv p1.Rail), (iv p1.Gap), (.slice Ap1_0 (p1.Kinds).length cp1_0), (.slice Ap1_1 (p1.Slots).length cp1_1), (.slice Ap1_2 (p1.Marks).length cp1_2)]) (k := 2) rfl 2) rfl) ?_
    refine Tr.val (wg rfl rfl rfl) rfl (fun _ _ h1 h2 => run_neq (h1.ev rfl) (h1.ev rfl)) ?_
    refine Tr.va rfl (fun _ _ h1 h2 => run_pickF (h1.ev rfl) (h1.ev rfl)) ?_
    exact Tr.nil (Tr.fin0 (.cons rfl (.cons rfl (.cons rfl .nil))) (.cons rfl (.cons rfl .nil)))
   ·refine Tr.pass rfl rfl rfl rfl rfl (by decide) ?_
    refine Tr.pass rfl rfl rfl rfl rfl (by decide) ?_
    refine Tr.pass rfl rfl rfl rfl rfl (by decide) ?_
    refine Tr.pass rfl rfl rfl rfl rfl (by decide) ?_
    refine Tr.pass rfl rfl rfl rfl rfl (by decide) ?_
    refine Tr.va rfl (fun _ _ h1 h2 => run_pickT (h1.ev rfl) (h1.ev rfl)) ?_
    exact Tr.nil (Tr.fin0 (.cons rfl (.cons rfl (.cons rfl .nil))) (.cons rfl (.cons rfl .nil)))
  ·show Tr _ _ (LF [(2, (.pointer (some ⟨b100, 0, none⟩))), (3, (.pointer (some ⟨b101, 0, none⟩))), (26, (.bool (((p0.W != p1.W) || (p0.H != p1.H)) || (p0.Rail != p1.Rail))))]) (LE [(1, bx b100 #[(iv p0.W), (iv p0.H), (iv p0.Rail), (iv p0.Gap), (.slice Ap0_0 (p0.Kinds).length cp0_0), (.slice Ap0_1 (p0.Slots).length cp0_1), (.slice Ap0_2 (p0.Marks).length cp0_2)] 26), (2, bx b101 #[(iv p1.W), (iv p1.H), (iv p1.Rail), (iv p1.Gap), (.slice Ap1_0 (p1.Kinds).length cp1_0), (.slice Ap1_1 (p1.Slots).length cp1_1), (.slice Ap1_2 (p1.Marks).length cp1_2)] 26)]) _
   refine Tr.mv rfl rfl ?_
   refine Tr.mid0 6 [(2, (.pointer (some ⟨b100, 0, none⟩))), (3, (.pointer (some ⟨b101, 0, none⟩))), (33, (.bool ((((p0.W != p1.W) || (p0.H != p1.H)) || (p0.Rail != p1.Rail)) || (p0.Gap != p1.Gap))))] [(1, bx b100 #[(iv p0.W), (iv p0.H), (iv p0.Rail), (iv p0.Gap), (.slice Ap0_0 (p0.Kinds).length cp0_0), (.slice Ap0_1 (p0.Slots).length cp0_1), (.slice Ap0_2 (p0.Marks).length cp0_2)] 26), (2, bx b101 #[(iv p1.W), (iv p1.H), (iv p1.Rail), (iv p1.Gap), (.slice Ap1_0 (p1.Kinds).length cp1_0), (.slice Ap1_1 (p1.Slots).length cp1_1), (.slice Ap1_2 (p1.Marks).length cp1_2)] 26)] ?_ ?_
   ·cases hg131 : (((p0.W != p1.W) || (p0.H != p1.H)) || (p0.Rail != p1.Rail))
    ·refine Tr.val (wg rfl rfl rfl) rfl (fun _ _ h1 h2 => run_fieldAddr fo_26_3 (h1.ev rfl)) ?_
     refine Tr.val (wg rfl rfl rfl) rfl (fun _ _ h1 h2 => run_load1 ag_3 (h1.ev rfl) (rdb h2 (vs := [(iv p0.W), (iv p0.H), (iv p0.Rail), (iv p0.Gap), (.slice Ap0_0 (p0.Kinds).length cp0_0), (.slice Ap0_1 (p0.Slots).length cp0_1), (.slice Ap0_2 (p0.Marks).length cp0_2)]) (k := 1) rfl 3) rfl) ?_
     refine Tr.val (wg rfl rfl rfl) rfl (fun _ _ h1 h2 => run_fieldAddr fo_26_3 (h1.ev rfl)) ?_
     refine Tr.val (wg rfl rfl rfl) rfl (fun _ _ h1 h2 => run_load1 ag_3 (h1.ev rfl) (rdb h2 (vs := [(iv p1.W), (iv p1.H), (iv p1.Rail), (iv p1.Gap), (.slice Ap1_0 (p1.Kinds).length cp1_0), (.slice Ap1_1 (p1.Slots).length cp1_1), (.slice Ap1_2 (p1.Marks).length cp1_2)]) (k := 2) rfl 3) rfl) ?_
     refine Tr.val (wg rfl rfl rfl) rfl (fun _ _ h1 h2 => run_neq (h1.ev rfl) (h1.ev rfl)) ?_
     refine Tr.va rfl (fun _ _ h1 h2 => run_pickF (h1.ev rfl) (h1.ev rfl)) ?_
     exact Tr.nil (Tr.fin0 (.cons rfl (.cons rfl (.cons rfl .nil))) (.cons rfl (.cons rfl .nil)))
    ·refine Tr.pass rfl rfl rfl rfl rfl (by decide) ?_
     refine Tr.pass rfl rfl rfl rfl rfl (by decide) ?_
     refine Tr.pass rfl rfl rfl rfl rfl (by decide) ?_
     refine Tr.pass rfl rfl rfl rfl rfl (by decide) ?_
     refine Tr.pass rfl rfl rfl rfl rfl (by decide) ?_
     refine Tr.va rfl (fun _ _ h1 h2 => run_pickT (h1.ev rfl) (h1.ev rfl)) ?_
     exact Tr.nil (Tr.fin0 (.cons rfl (.cons rfl (.cons rfl .nil))) (.cons rfl (.cons rfl .nil)))
   ·show Tr _ _ (LF [(2, (.pointer (some ⟨b100, 0, none⟩))), (3, (.pointer (some ⟨b101, 0, none⟩))), (33, (.bool ((((p0.W != p1.W) || (p0.H != p1.H)) || (p0.Rail != p1.Rail)) || (p0.Gap != p1.Gap))))]) (LE [(1, bx b100 #[(iv p0.W), (iv p0.H), (iv p0.Rail), (iv p0.Gap), (.slice Ap0_0 (p0.Kinds).length cp0_0), (.slice Ap0_1 (p0.Slots).length cp0_1), (.slice Ap0_2 (p0.Marks).length cp0_2)] 26), (2, bx b101 #[(iv p1.W), (iv p1.H), (iv p1.Rail), (iv p1.Gap), (.slice Ap1_0 (p1.Kinds).length cp1_0), (.slice Ap1_1 (p1.Slots).length cp1_1), (.slice Ap1_2 (p1.Marks).length cp1_2)] 26)]) _
    refine Tr.mv rfl rfl ?_
    refine Tr.mid0 8 [(2, (.pointer (some ⟨b100, 0, none⟩))), (3, (.pointer (some ⟨b101, 0, none⟩))), (42, (.bool (((((p0.W != p1.W) || (p0.H != p1.H)) || (p0.Rail != p1.Rail)) || (p0.Gap != p1.Gap)) || ((p0.Kinds.length : Int) != (p1.Kinds.length : Int)))))] [(1, bx b100 #[(iv p0.W), (iv p0.H), (iv p0.Rail), (iv p0.Gap), (.slice Ap0_0 (p0.Kinds).length cp0_0), (.slice Ap0_1 (p0.Slots).length cp0_1), (.slice Ap0_2 (p0.Marks).length cp0_2)] 26), (2, bx b101 #[(iv p1.W), (iv p1.H), (iv p1.Rail), (iv p1.Gap), (.slice Ap1_0 (p1.Kinds).length cp1_0), (.slice Ap1_1 (p1.Slots).length cp1_1), (.slice Ap1_2 (p1.Marks).length cp1_2)] 26)] ?_ ?_
    ·cases hg131 : ((((p0.W != p1.W) || (p0.H != p1.H)) || (p0.Rail != p1.Rail)) || (p0.Gap != p1.Gap))
     ·refine Tr.val (wg rfl rfl rfl) rfl (fun _ _ h1 h2 => run_fieldAddr fo_26_4 (h1.ev rfl)) ?_
      refine Tr.val (wg rfl rfl rfl) rfl (fun _ _ h1 h2 => run_load1 ag_22 (h1.ev rfl) (rdb h2 (vs := [(iv p0.W), (iv p0.H), (iv p0.Rail), (iv p0.Gap), (.slice Ap0_0 (p0.Kinds).length cp0_0), (.slice Ap0_1 (p0.Slots).length cp0_1), (.slice Ap0_2 (p0.Marks).length cp0_2)]) (k := 1) rfl 4) rfl) ?_
      refine Tr.val (wg rfl rfl rfl) rfl (fun _ _ h1 h2 => run_len un_22 (h1.ev rfl)) ?_
      refine Tr.val (wg rfl rfl rfl) rfl (fun _ _ h1 h2 => run_fieldAddr fo_26_4 (h1.ev rfl)) ?_
      refine Tr.val (wg rfl rfl rfl) rfl (fun _ _ h1 h2 => run_load1 ag_22 (h1.ev rfl) (rdb h2 (vs := [(iv p1.W), (iv p1.H), (iv p1.Rail), (iv p1.Gap), (.slice Ap1_0 (p1.Kinds).length cp1_0), (.slice Ap1_1 (p1.Slots).length cp1_1), (.slice Ap1_2 (p1.Marks).length cp1_2)]) (k := 2) rfl 4) rfl) ?_
      refine Tr.val (wg rfl rfl rfl) rfl (fun _ _ h1 h2 => run_len un_22 (h1.ev rfl)) ?_
      refine Tr.val (wg rfl rfl rfl) rfl (fun _ _ h1 h2 => run_neq (h1.ev rfl) (h1.ev rfl)) ?_
      refine Tr.va rfl (fun _ _ h1 h2 => run_pickF (h1.ev rfl) (h1.ev rfl)) ?_
      exact Tr.nil (Tr.fin0 (.cons rfl (.cons rfl (.cons rfl .nil))) (.cons rfl (.cons rfl .nil)))
     ·refine Tr.pass rfl rfl rfl rfl rfl (by decide) ?_
      refine Tr.pass rfl rfl rfl rfl rfl (by decide) ?_
      refine Tr.pass rfl rfl rfl rfl rfl (by decide) ?_
      refine Tr.pass rfl rfl rfl rfl rfl (by decide) ?_
      refine Tr.pass rfl rfl rfl rfl rfl (by decide) ?_
      refine Tr.pass rfl rfl rfl rfl rfl (by decide) ?_
      refine Tr.pass rfl rfl rfl rfl rfl (by decide) ?_
      refine Tr.va rfl (fun _ _ h1 h2 => run_pickT (h1.ev rfl) (h1.ev rfl)) ?_
      exact Tr.nil (Tr.fin0 (.cons rfl (.cons rfl (.cons rfl .nil))) (.cons rfl (.cons rfl .nil)))
    ·show Tr _ _ (LF [(2, (.pointer (some ⟨b100, 0, none⟩))), (3, (.pointer (some ⟨b101, 0, none⟩))), (42, (.bool (((((p0.W != p1.W) || (p0.H != p1.H)) || (p0.Rail != p1.Rail)) || (p0.Gap != p1.Gap)) || ((p0.Kinds.length : Int) != (p1.Kinds.length : Int)))))]) (LE [(1, bx b100 #[(iv p0.W), (iv p0.H), (iv p0.Rail), (iv p0.Gap), (.slice Ap0_0 (p0.Kinds).length cp0_0), (.slice Ap0_1 (p0.Slots).length cp0_1), (.slice Ap0_2 (p0.Marks).length cp0_2)] 26), (2, bx b101 #[(iv p1.W), (iv p1.H), (iv p1.Rail), (iv p1.Gap), (.slice Ap1_0 (p1.Kinds).length cp1_0), (.slice Ap1_1 (p1.Slots).length cp1_1), (.slice Ap1_2 (p1.Marks).length cp1_2)] 26)]) _
     refine Tr.mv rfl rfl ?_
     refine Tr.mid0 8 [(2, (.pointer (some ⟨b100, 0, none⟩))), (3, (.pointer (some ⟨b101, 0, none⟩))), (51, (.bool ((((((p0.W != p1.W) || (p0.H != p1.H)) || (p0.Rail != p1.Rail)) || (p0.Gap != p1.Gap)) || ((p0.Kinds.length : Int) != (p1.Kinds.length : Int))) || ((p0.Slots.length : Int) != (p1.Slots.length : Int)))))] [(1, bx b100 #[(iv p0.W), (iv p0.H), (iv p0.Rail), (iv p0.Gap), (.slice Ap0_0 (p0.Kinds).length cp0_0), (.slice Ap0_1 (p0.Slots).length cp0_1), (.slice Ap0_2 (p0.Marks).length cp0_2)] 26), (2, bx b101 #[(iv p1.W), (iv p1.H), (iv p1.Rail), (iv p1.Gap), (.slice Ap1_0 (p1.Kinds).length cp1_0), (.slice Ap1_1 (p1.Slots).length cp1_1), (.slice Ap1_2 (p1.Marks).length cp1_2)] 26)] ?_ ?_
     ·cases hg131 : (((((p0.W != p1.W) || (p0.H != p1.H)) || (p0.Rail != p1.Rail)) || (p0.Gap != p1.Gap)) || ((p0.Kinds.length : Int) != (p1.Kinds.length : Int)))
      ·refine Tr.val (wg rfl rfl rfl) rfl (fun _ _ h1 h2 => run_fieldAddr fo_26_5 (h1.ev rfl)) ?_
       refine Tr.val (wg rfl rfl rfl) rfl (fun _ _ h1 h2 => run_load1 ag_23 (h1.ev rfl) (rdb h2 (vs := [(iv p0.W), (iv p0.H), (iv p0.Rail), (iv p0.Gap), (.slice Ap0_0 (p0.Kinds).length cp0_0), (.slice Ap0_1 (p0.Slots).length cp0_1), (.slice Ap0_2 (p0.Marks).length cp0_2)]) (k := 1) rfl 5) rfl) ?_
       refine Tr.val (wg rfl rfl rfl) rfl (fun _ _ h1 h2 => run_len un_23 (h1.ev rfl)) ?_
       refine Tr.val (wg rfl rfl rfl) rfl (fun _ _ h1 h2 => run_fieldAddr fo_26_5 (h1.ev rfl)) ?_
       refine Tr.val (wg rfl rfl rfl) rfl (fun _ _ h1 h2 => run_load1 ag_23 (h1.ev rfl) (rdb h2 (vs := [(iv p1.W), (iv p1.H), (iv p1.Rail), (iv p1.Gap), (.slice Ap1_0 (p1.Kinds).length cp1_0), (.slice Ap1_1 (p1.Slots).length cp1_1), (.slice Ap1_2 (p1.Marks).length cp1_2)]) (k := 2) rfl 5) rfl) ?_
       refine Tr.val (wg rfl rfl rfl) rfl (fun _ _ h1 h2 => run_len un_23 (h1.ev rfl)) ?_
       refine Tr.val (wg rfl rfl rfl) rfl (fun _ _ h1 h2 => run_neq (h1.ev rfl) (h1.ev rfl)) ?_
       refine Tr.va rfl (fun _ _ h1 h2 => run_pickF (h1.ev rfl) (h1.ev rfl)) ?_
       exact Tr.nil (Tr.fin0 (.cons rfl (.cons rfl (.cons rfl .nil))) (.cons rfl (.cons rfl .nil)))
      ·refine Tr.pass rfl rfl rfl rfl rfl (by decide) ?_
       refine Tr.pass rfl rfl rfl rfl rfl (by decide) ?_
       refine Tr.pass rfl rfl rfl rfl rfl (by decide) ?_
       refine Tr.pass rfl rfl rfl rfl rfl (by decide) ?_
       refine Tr.pass rfl rfl rfl rfl rfl (by decide) ?_
       refine Tr.pass rfl rfl rfl rfl rfl (by decide) ?_
       refine Tr.pass rfl rfl rfl rfl rfl (by decide) ?_
       refine Tr.va rfl (fun _ _ h1 h2 => run_pickT (h1.ev rfl) (h1.ev rfl)) ?_
       exact Tr.nil (Tr.fin0 (.cons rfl (.cons rfl (.cons rfl .nil))) (.cons rfl (.cons rfl .nil)))
     ·show Tr _ _ (LF [(2, (.pointer (some ⟨b100, 0, none⟩))), (3, (.pointer (some ⟨b101, 0, none⟩))), (51, (.bool ((((((p0.W != p1.W) || (p0.H != p1.H)) || (p0.Rail != p1.Rail)) || (p0.Gap != p1.Gap)) || ((p0.Kinds.length : Int) != (p1.Kinds.length : Int))) || ((p0.Slots.length : Int) != (p1.Slots.length : Int)))))]) (LE [(1, bx b100 #[(iv p0.W), (iv p0.H), (iv p0.Rail), (iv p0.Gap), (.slice Ap0_0 (p0.Kinds).length cp0_0), (.slice Ap0_1 (p0.Slots).length cp0_1), (.slice Ap0_2 (p0.Marks).length cp0_2)] 26), (2, bx b101 #[(iv p1.W), (iv p1.H), (iv p1.Rail), (iv p1.Gap), (.slice Ap1_0 (p1.Kinds).length cp1_0), (.slice Ap1_1 (p1.Slots).length cp1_1), (.slice Ap1_2 (p1.Marks).length cp1_2)] 26)]) _
      refine Tr.mv rfl rfl ?_
      refine Tr.mid0 8 [(2, (.pointer (some ⟨b100, 0, none⟩))), (3, (.pointer (some ⟨b101, 0, none⟩))), (60, (.bool (((((((p0.W != p1.W) || (p0.H != p1.H)) || (p0.Rail != p1.Rail)) || (p0.Gap != p1.Gap)) || ((p0.Kinds.length : Int) != (p1.Kinds.length : Int))) || ((p0.Slots.length : Int) != (p1.Slots.length : Int))) || ((p0.Marks.length : Int) != (p1.Marks.length : Int)))))] [(1, bx b100 #[(iv p0.W), (iv p0.H), (iv p0.Rail), (iv p0.Gap), (.slice Ap0_0 (p0.Kinds).length cp0_0), (.slice Ap0_1 (p0.Slots).length cp0_1), (.slice Ap0_2 (p0.Marks).length cp0_2)] 26), (2, bx b101 #[(iv p1.W), (iv p1.H), (iv p1.Rail), (iv p1.Gap), (.slice Ap1_0 (p1.Kinds).length cp1_0), (.slice Ap1_1 (p1.Slots).length cp1_1), (.slice Ap1_2 (p1.Marks).length cp1_2)] 26)] ?_ ?_
      ·cases hg131 : ((((((p0.W != p1.W) || (p0.H != p1.H)) || (p0.Rail != p1.Rail)) || (p0.Gap != p1.Gap)) || ((p0.Kinds.length : Int) != (p1.Kinds.length : Int))) || ((p0.Slots.length : Int) != (p1.Slots.length : Int)))
       ·refine Tr.val (wg rfl rfl rfl) rfl (fun _ _ h1 h2 => run_fieldAddr fo_26_6 (h1.ev rfl)) ?_
        refine Tr.val (wg rfl rfl rfl) rfl (fun _ _ h1 h2 => run_load1 ag_24 (h1.ev rfl) (rdb h2 (vs := [(iv p0.W), (iv p0.H), (iv p0.Rail), (iv p0.Gap), (.slice Ap0_0 (p0.Kinds).length cp0_0), (.slice Ap0_1 (p0.Slots).length cp0_1), (.slice Ap0_2 (p0.Marks).length cp0_2)]) (k := 1) rfl 6) rfl) ?_
        refine Tr.val (wg rfl rfl rfl) rfl (fun _ _ h1 h2 => run_len un_24 (h1.ev rfl)) ?_
        refine Tr.val (wg rfl rfl rfl) rfl (fun _ _ h1 h2 => run_fieldAddr fo_26_6 (h1.ev rfl)) ?_
        refine Tr.val (wg rfl rfl rfl) rfl (fun _ _ h1 h2 => run_load1 ag_24 (h1.ev rfl) (rdb h2 (vs := [(iv p1.W), (iv p1.H), (iv p1.Rail), (iv p1.Gap), (.slice Ap1_0 (p1.Kinds).length cp1_0), (.slice Ap1_1 (p1.Slots).length cp1_1), (.slice Ap1_2 (p1.Marks).length cp1_2)]) (k := 2) rfl 6) rfl) ?_
        refine Tr.val (wg rfl rfl rfl) rfl (fun _ _ h1 h2 => run_len un_24 (h1.ev rfl)) ?_
        refine Tr.val (wg rfl rfl rfl) rfl (fun _ _ h1 h2 => run_neq (h1.ev rfl) (h1.ev rfl)) ?_
        refine Tr.va rfl (fun _ _ h1 h2 => run_pickF (h1.ev rfl) (h1.ev rfl)) ?_
        exact Tr.nil (Tr.fin0 (.cons rfl (.cons rfl (.cons rfl .nil))) (.cons rfl (.cons rfl .nil)))
       ·refine Tr.pass rfl rfl rfl rfl rfl (by decide) ?_
        refine Tr.pass rfl rfl rfl rfl rfl (by decide) ?_
        refine Tr.pass rfl rfl rfl rfl rfl (by decide) ?_
        refine Tr.pass rfl rfl rfl rfl rfl (by decide) ?_
        refine Tr.pass rfl rfl rfl rfl rfl (by decide) ?_
        refine Tr.pass rfl rfl rfl rfl rfl (by decide) ?_
        refine Tr.pass rfl rfl rfl rfl rfl (by decide) ?_
        refine Tr.va rfl (fun _ _ h1 h2 => run_pickT (h1.ev rfl) (h1.ev rfl)) ?_
        exact Tr.nil (Tr.fin0 (.cons rfl (.cons rfl (.cons rfl .nil))) (.cons rfl (.cons rfl .nil)))
      ·show Tr _ _ (LF [(2, (.pointer (some ⟨b100, 0, none⟩))), (3, (.pointer (some ⟨b101, 0, none⟩))), (60, (.bool (((((((p0.W != p1.W) || (p0.H != p1.H)) || (p0.Rail != p1.Rail)) || (p0.Gap != p1.Gap)) || ((p0.Kinds.length : Int) != (p1.Kinds.length : Int))) || ((p0.Slots.length : Int) != (p1.Slots.length : Int))) || ((p0.Marks.length : Int) != (p1.Marks.length : Int)))))]) (LE [(1, bx b100 #[(iv p0.W), (iv p0.H), (iv p0.Rail), (iv p0.Gap), (.slice Ap0_0 (p0.Kinds).length cp0_0), (.slice Ap0_1 (p0.Slots).length cp0_1), (.slice Ap0_2 (p0.Marks).length cp0_2)] 26), (2, bx b101 #[(iv p1.W), (iv p1.H), (iv p1.Rail), (iv p1.Gap), (.slice Ap1_0 (p1.Kinds).length cp1_0), (.slice Ap1_1 (p1.Slots).length cp1_1), (.slice Ap1_2 (p1.Marks).length cp1_2)] 26)]) _
       refine Tr.nil (Tr.normThen ?_)
       refine Tr.cond rfl H (fun H => ?_) (fun H => ?_)
       ·refine Tr.sr ?_
        refine Tr.asg rfl rfl ?_
        refine Tr.nil (Tr.normThen ?_)
        refine Tr.ret (Tr.retThen ?_)
        obtain rfl := Option.some.inj H
        exact Tr.out (m := [(.bool false)]) [] (res_tmp rfl res_nil) (fun W hW => ⟨rfl, hW.low leB⟩)
       ·refine Tr.skip (Tr.normThen ?_)
        refine Tr.seq ?_
        refine Tr.sr ?_
        refine Tr.asg rfl rfl ?_
        refine Tr.nil (Tr.normThen ?_)
        refine Tr.block ?_
        refine Tr.loop (σ := Int) (fun m w s => F_etchhouseref9_Same_L1 N p0 p1 m s = some r) (fun s => [(2, (.pointer (some ⟨b100, 0, none⟩))), (3, (.pointer (some ⟨b101, 0, none⟩))), (5, (iv s))]) (fun s => [(1, bx b100 #[(iv p0.W), (iv p0.H), (iv p0.Rail), (iv p0.Gap), (.slice Ap0_0 (p0.Kinds).length cp0_0), (.slice Ap0_1 (p0.Slots).length cp0_1), (.slice Ap0_2 (p0.Marks).length cp0_2)] 26), (2, bx b101 #[(iv p1.W), (iv p1.H), (iv p1.Rail), (iv p1.Gap), (.slice Ap1_0 (p1.Kinds).length cp1_0), (.slice Ap1_1 (p1.Slots).length cp1_1), (.slice Ap1_2 (p1.Marks).length cp1_2)] 26)]) N 0 H (.cons rfl (.cons rfl (.cons rfl .nil))) (.cons rfl (.cons rfl .nil)) (fun _ _ h => noSome (h)) ?_
        intro w leL1 mL1 x109 hs
        have H := hs
        replace H : F_etchhouseref9_Same_L1 N p0 p1 (mL1 + 1) x109 = some r := H
        replace hp0_0 := hp0_0.leR leL1
        replace hp0_1 := hp0_1.leR leL1
        replace hp0_2 := hp0_2.leR leL1
        replace hp1_0 := hp1_0.leR leL1
        replace hp1_1 := hp1_1.leR leL1
        replace hp1_2 := hp1_2.leR leL1
        replace leB := leB.trans leL1
        rw [F_etchhouseref9_Same_L1.eq_2] at H
        show Tr _ _ (LF [(2, (.pointer (some ⟨b100, 0, none⟩))), (3, (.pointer (some ⟨b101, 0, none⟩))), (5, (iv x109))]) (LE [(1, bx b100 #[(iv p0.W), (iv p0.H), (iv p0.Rail), (iv p0.Gap), (.slice Ap0_0 (p0.Kinds).length cp0_0), (.slice Ap0_1 (p0.Slots).length cp0_1), (.slice Ap0_2 (p0.Marks).length cp0_2)] 26), (2, bx b101 #[(iv p1.W), (iv p1.H), (iv p1.Rail), (iv p1.Gap), (.slice Ap1_0 (p1.Kinds).length cp1_0), (.slice Ap1_1 (p1.Slots).length cp1_1), (.slice Ap1_2 (p1.Marks).length cp1_2)] 26)]) _
        refine Tr.seq ?_
        refine Tr.sr ?_
        refine Tr.mv rfl rfl ?_
        refine Tr.va rfl (fun _ _ h1 h2 => run_fieldAddr fo_26_4 (h1.ev rfl)) ?_
        refine Tr.va rfl (fun _ _ h1 h2 => run_load1 ag_22 (h1.ev rfl) (rdb h2 (vs := [(iv p0.W), (iv p0.H), (iv p0.Rail), (iv p0.Gap), (.slice Ap0_0 (p0.Kinds).length cp0_0), (.slice Ap0_1 (p0.Slots).length cp0_1), (.slice Ap0_2 (p0.Marks).length cp0_2)]) (k := 1) rfl 4) rfl) ?_
        refine Tr.va rfl (fun _ _ h1 h2 => run_len un_22 (h1.ev rfl)) ?_
        refine Tr.va rfl (fun _ _ h1 h2 => run_lss (h1.ev rfl) (h1.ev rfl)) ?_
        refine Tr.nil (Tr.normThen ?_)
        refine Tr.cond rfl H (fun H => ?_) (fun H => ?_)
        ·refine Tr.skip (Tr.normThen ?_)
         refine Tr.seq ?_
         refine Tr.block ?_
         refine Tr.seq ?_
         refine Tr.draw (by kernel_rfl) (by kernel_rfl) ?_
         refine Tq.va rfl (fun _ _ h1 h2 => run_fieldAddr fo_26_4 (h1.ev rfl)) ?_
         refine Tq.va rfl (fun _ _ h1 h2 => run_load1 ag_22 (h1.ev rfl) (rdb h2 (vs := [(iv p0.W), (iv p0.H), (iv p0.Rail), (iv p0.Gap), (.slice Ap0_0 (p0.Kinds).length cp0_0), (.slice Ap0_1 (p0.Slots).length cp0_1), (.slice Ap0_2 (p0.Marks).length cp0_2)]) (k := 1) rfl 4) rfl) ?_
         refine Tq.mv rfl rfl ?_
         obtain ⟨x110, hx110, H⟩ := bnd H
         obtain ⟨hx1100, hx1101, hx1102⟩ := idx_some hx110
         refine Tq.va rfl (fun _ _ h1 h2 => run_indexAddr el_22 (h1.ev rfl) hp0_0.form (h1.ev rfl) hx1100 hx1101) ?_
         refine Tq.va rfl (fun _ _ h1 h2 => run_loadN (cs := [(sv x110.Name), (iv x110.W), (iv x110.H)]) ag_49 sz_49 (h1.ev rfl) (CellsAt.take (rdF ef_TBoardKind hp0_0 hx1102 h2) 3) rfl) ?_
         refine Tq.va rfl (fun _ _ h1 h2 => run_fieldAddr fo_26_4 (h1.ev rfl)) ?_
         refine Tq.va rfl (fun _ _ h1 h2 => run_load1 ag_22 (h1.ev rfl) (rdb h2 (vs := [(iv p1.W), (iv p1.H), (iv p1.Rail), (iv p1.Gap), (.slice Ap1_0 (p1.Kinds).length cp1_0), (.slice Ap1_1 (p1.Slots).length cp1_1), (.slice Ap1_2 (p1.Marks).length cp1_2)]) (k := 2) rfl 4) rfl) ?_
         refine Tq.mv rfl rfl ?_
         obtain ⟨x111, hx111, H⟩ := bnd H
         obtain ⟨hx1110, hx1111, hx1112⟩ := idx_some hx111
         refine Tq.va rfl (fun _ _ h1 h2 => run_indexAddr el_22 (h1.ev rfl) hp1_0.form (h1.ev rfl) hx1110 hx1111) ?_
         refine Tq.va rfl (fun _ _ h1 h2 => run_loadN (cs := [(sv x111.Name), (iv x111.W), (iv x111.H)]) ag_49 sz_49 (h1.ev rfl) (CellsAt.take (rdF ef_TBoardKind hp1_0 hx1112 h2) 3) rfl) ?_
         refine Tq.va rfl (fun _ _ h1 h2 => run_neq_49 x110 x111 (h1.ev rfl) (h1.ev rfl)) ?_
         refine Tq.nil (Tr.normThen ?_)
         refine Tr.cond rfl H (fun H => ?_) (fun H => ?_)
         ·refine Tr.sr ?_
          refine Tr.asg rfl rfl ?_
          refine Tr.nil (Tr.normThen ?_)
          refine Tr.ret (Tr.retBlock (Tr.retThen (Tr.retThen (Tr.retBlock (Tr.retThen ?_)))))
          obtain rfl := Option.some.inj H
          exact Tr.out (m := [(.bool false)]) [] (res_tmp rfl res_nil) (fun W hW => ⟨rfl, hW.low leB⟩)
         ·refine Tr.skip (Tr.normBlock (Tr.normThen ?_))
          refine Tr.region ?_
          refine Tr.mv rfl rfl ?_
          refine Tr.va rfl (fun _ _ h1 h2 => run_add (h1.ev rfl) (h1.ev rfl)) ?_
          refine Tr.asg rfl rfl ?_
          refine Tr.nil ?_
          exact Tr.backThen leL1 (w64 (x109 + 1)) H (.cons rfl (.cons rfl (.cons rfl .nil))) (.cons rfl (.cons rfl .nil))
        ·refine Tr.exit (Tr.exitThen (Tr.exitThen (Tr.exitBlock (Tr.normThen ?_))))
         refine Tr.seq ?_
         refine Tr.sr ?_
         refine Tr.asg rfl rfl ?_
         refine Tr.nil (Tr.normThen ?_)
         refine Tr.block ?_
         refine Tr.loop (σ := Int) (fun m w s => F_etchhouseref9_Same_L2 N p0 p1 m s = some r) (fun s => [(2, (.pointer (some ⟨b100, 0, none⟩))), (3, (.pointer (some ⟨b101, 0, none⟩))), (6, (iv s))]) (fun s => [(1, bx b100 #[(iv p0.W), (iv p0.H), (iv p0.Rail), (iv p0.Gap), (.slice Ap0_0 (p0.Kinds).length cp0_0), (.slice Ap0_1 (p0.Slots).length cp0_1), (.slice Ap0_2 (p0.Marks).length cp0_2)] 26), (2, bx b101 #[(iv p1.W), (iv p1.H), (iv p1.Rail), (iv p1.Gap), (.slice Ap1_0 (p1.Kinds).length cp1_0), (.slice Ap1_1 (p1.Slots).length cp1_1), (.slice Ap1_2 (p1.Marks).length cp1_2)] 26)]) N 0 H (.cons rfl (.cons rfl (.cons rfl .nil))) (.cons rfl (.cons rfl .nil)) (fun _ _ h => noSome (h)) ?_
         intro w leL2 mL2 x119 hs
         have H := hs
         replace H : F_etchhouseref9_Same_L2 N p0 p1 (mL2 + 1) x119 = some r := H
         replace hp0_0 := hp0_0.leR leL2
         replace hp0_1 := hp0_1.leR leL2
         replace hp0_2 := hp0_2.leR leL2
         replace hp1_0 := hp1_0.leR leL2
         replace hp1_1 := hp1_1.leR leL2
         replace hp1_2 := hp1_2.leR leL2
         replace leB := leB.trans leL2
         replace leL1 := leL1.trans leL2
         rw [F_etchhouseref9_Same_L2.eq_2] at H
         show Tr _ _ (LF [(2, (.pointer (some ⟨b100, 0, none⟩))), (3, (.pointer (some ⟨b101, 0, none⟩))), (6, (iv x119))]) (LE [(1, bx b100 #[(iv p0.W), (iv p0.H), (iv p0.Rail), (iv p0.Gap), (.slice Ap0_0 (p0.Kinds).length cp0_0), (.slice Ap0_1 (p0.Slots).length cp0_1), (.slice Ap0_2 (p0.Marks).length cp0_2)] 26), (2, bx b101 #[(iv p1.W), (iv p1.H), (iv p1.Rail), (iv p1.Gap), (.slice Ap1_0 (p1.Kinds).length cp1_0), (.slice Ap1_1 (p1.Slots).length cp1_1), (.slice Ap1_2 (p1.Marks).length cp1_2)] 26)]) _
         refine Tr.seq ?_
         refine Tr.sr ?_
         refine Tr.mv rfl rfl ?_
         refine Tr.va rfl (fun _ _ h1 h2 => run_fieldAddr fo_26_5 (h1.ev rfl)) ?_
         refine Tr.va rfl (fun _ _ h1 h2 => run_load1 ag_23 (h1.ev rfl) (rdb h2 (vs := [(iv p0.W), (iv p0.H), (iv p0.Rail), (iv p0.Gap), (.slice Ap0_0 (p0.Kinds).length cp0_0), (.slice Ap0_1 (p0.Slots).length cp0_1), (.slice Ap0_2 (p0.Marks).length cp0_2)]) (k := 1) rfl 5) rfl) ?_
         refine Tr.va rfl (fun _ _ h1 h2 => run_len un_23 (h1.ev rfl)) ?_
         refine Tr.va rfl (fun _ _ h1 h2 => run_lss (h1.ev rfl) (h1.ev rfl)) ?_
         refine Tr.nil (Tr.normThen ?_)
         refine Tr.cond rfl H (fun H => ?_) (fun H => ?_)
         ·refine Tr.skip (Tr.normThen ?_)
          refine Tr.seq ?_
          refine Tr.block ?_
          refine Tr.seq ?_
          refine Tr.draw (by kernel_rfl) (by kernel_rfl) ?_
          refine Tq.va rfl (fun _ _ h1 h2 => run_fieldAddr fo_26_5 (h1.ev rfl)) ?_
          refine Tq.va rfl (fun _ _ h1 h2 => run_load1 ag_23 (h1.ev rfl) (rdb h2 (vs := [(iv p0.W), (iv p0.H), (iv p0.Rail), (iv p0.Gap), (.slice Ap0_0 (p0.Kinds).length cp0_0), (.slice Ap0_1 (p0.Slots).length cp0_1), (.slice Ap0_2 (p0.Marks).length cp0_2)]) (k := 1) rfl 5) rfl) ?_
          refine Tq.mv rfl rfl ?_
          obtain ⟨x120, hx120, H⟩ := bnd H
          obtain ⟨hx1200, hx1201, hx1202⟩ := idx_some hx120
          refine Tq.va rfl (fun _ _ h1 h2 => run_indexAddr el_23 (h1.ev rfl) hp0_1.form (h1.ev rfl) hx1200 hx1201) ?_
          refine Tq.va rfl (fun _ _ h1 h2 => run_loadN (cs := [(sv x120.Board), (iv x120.Quarters), (iv x120.At.X), (iv x120.At.Y)]) ag_53 sz_53 (h1.ev rfl) (CellsAt.take (rdF ef_TSlot hp0_1 hx1202 h2) 4) rfl) ?_
          refine Tq.va rfl (fun _ _ h1 h2 => run_fieldAddr fo_26_5 (h1.ev rfl)) ?_
          refine Tq.va rfl (fun _ _ h1 h2 => run_load1 ag_23 (h1.ev rfl) (rdb h2 (vs := [(iv p1.W), (iv p1.H), (iv p1.Rail), (iv p1.Gap), (.slice Ap1_0 (p1.Kinds).length cp1_0), (.slice Ap1_1 (p1.Slots).length cp1_1), (.slice Ap1_2 (p1.Marks).length cp1_2)]) (k := 2) rfl 5) rfl) ?_
          refine Tq.mv rfl rfl ?_
          obtain ⟨x121, hx121, H⟩ := bnd H
          obtain ⟨hx1210, hx1211, hx1212⟩ := idx_some hx121
          refine Tq.va rfl (fun _ _ h1 h2 => run_indexAddr el_23 (h1.ev rfl) hp1_1.form (h1.ev rfl) hx1210 hx1211) ?_
          refine Tq.va rfl (fun _ _ h1 h2 => run_loadN (cs := [(sv x121.Board), (iv x121.Quarters), (iv x121.At.X), (iv x121.At.Y)]) ag_53 sz_53 (h1.ev rfl) (CellsAt.take (rdF ef_TSlot hp1_1 hx1212 h2) 4) rfl) ?_
          refine Tq.va rfl (fun _ _ h1 h2 => run_neq_53 x120 x121 (h1.ev rfl) (h1.ev rfl)) ?_
          refine Tq.nil (Tr.normThen ?_)
          refine Tr.cond rfl H (fun H => ?_) (fun H => ?_)
          ·refine Tr.sr ?_
           refine Tr.asg rfl rfl ?_
           refine Tr.nil (Tr.normThen ?_)
           refine Tr.ret (Tr.retBlock (Tr.retThen (Tr.retThen (Tr.retBlock (Tr.retThen ?_)))))
           obtain rfl := Option.some.inj H
           exact Tr.out (m := [(.bool false)]) [] (res_tmp rfl res_nil) (fun W hW => ⟨rfl, hW.low leB⟩)
          ·refine Tr.skip (Tr.normBlock (Tr.normThen ?_))
           refine Tr.region ?_
           refine Tr.mv rfl rfl ?_
           refine Tr.va rfl (fun _ _ h1 h2 => run_add (h1.ev rfl) (h1.ev rfl)) ?_
           refine Tr.asg rfl rfl ?_
           refine Tr.nil ?_
           exact Tr.backThen leL2 (w64 (x119 + 1)) H (.cons rfl (.cons rfl (.cons rfl .nil))) (.cons rfl (.cons rfl .nil))
         ·refine Tr.exit (Tr.exitThen (Tr.exitThen (Tr.exitBlock (Tr.normThen ?_))))
          refine Tr.seq ?_
          refine Tr.sr ?_
          refine Tr.asg rfl rfl ?_
          refine Tr.nil (Tr.normThen ?_)
          refine Tr.block ?_
          refine Tr.loop (σ := Int) (fun m w s => F_etchhouseref9_Same_L3 p0 p1 m s = some r) (fun s => [(2, (.pointer (some ⟨b100, 0, none⟩))), (3, (.pointer (some ⟨b101, 0, none⟩))), (7, (iv s))]) (fun s => [(1, bx b100 #[(iv p0.W), (iv p0.H), (iv p0.Rail), (iv p0.Gap), (.slice Ap0_0 (p0.Kinds).length cp0_0), (.slice Ap0_1 (p0.Slots).length cp0_1), (.slice Ap0_2 (p0.Marks).length cp0_2)] 26), (2, bx b101 #[(iv p1.W), (iv p1.H), (iv p1.Rail), (iv p1.Gap), (.slice Ap1_0 (p1.Kinds).length cp1_0), (.slice Ap1_1 (p1.Slots).length cp1_1), (.slice Ap1_2 (p1.Marks).length cp1_2)] 26)]) N 0 H (.cons rfl (.cons rfl (.cons rfl .nil))) (.cons rfl (.cons rfl .nil)) (fun _ _ h => noSome (h)) ?_
          intro w leL3 mL3 x129 hs
          have H := hs
          replace H : F_etchhouseref9_Same_L3 p0 p1 (mL3 + 1) x129 = some r := H
          replace hp0_0 := hp0_0.leR leL3
          replace hp0_1 := hp0_1.leR leL3
          replace hp0_2 := hp0_2.leR leL3
          replace hp1_0 := hp1_0.leR leL3
          replace hp1_1 := hp1_1.leR leL3
          replace hp1_2 := hp1_2.leR leL3
          replace leB := leB.trans leL3
          replace leL1 := leL1.trans leL3
          replace leL2 := leL2.trans leL3
          rw [F_etchhouseref9_Same_L3.eq_2] at H
          show Tr _ _ (LF [(2, (.pointer (some ⟨b100, 0, none⟩))), (3, (.pointer (some ⟨b101, 0, none⟩))), (7, (iv x129))]) (LE [(1, bx b100 #[(iv p0.W), (iv p0.H), (iv p0.Rail), (iv p0.Gap), (.slice Ap0_0 (p0.Kinds).length cp0_0), (.slice Ap0_1 (p0.Slots).length cp0_1), (.slice Ap0_2 (p0.Marks).length cp0_2)] 26), (2, bx b101 #[(iv p1.W), (iv p1.H), (iv p1.Rail), (iv p1.Gap), (.slice Ap1_0 (p1.Kinds).length cp1_0), (.slice Ap1_1 (p1.Slots).length cp1_1), (.slice Ap1_2 (p1.Marks).length cp1_2)] 26)]) _
          refine Tr.seq ?_
          refine Tr.sr ?_
          refine Tr.mv rfl rfl ?_
          refine Tr.va rfl (fun _ _ h1 h2 => run_fieldAddr fo_26_6 (h1.ev rfl)) ?_
          refine Tr.va rfl (fun _ _ h1 h2 => run_load1 ag_24 (h1.ev rfl) (rdb h2 (vs := [(iv p0.W), (iv p0.H), (iv p0.Rail), (iv p0.Gap), (.slice Ap0_0 (p0.Kinds).length cp0_0), (.slice Ap0_1 (p0.Slots).length cp0_1), (.slice Ap0_2 (p0.Marks).length cp0_2)]) (k := 1) rfl 6) rfl) ?_
          refine Tr.va rfl (fun _ _ h1 h2 => run_len un_24 (h1.ev rfl)) ?_
          refine Tr.va rfl (fun _ _ h1 h2 => run_lss (h1.ev rfl) (h1.ev rfl)) ?_
          refine Tr.nil (Tr.normThen ?_)
          refine Tr.cond rfl H (fun H => ?_) (fun H => ?_)
          ·refine Tr.skip (Tr.normThen ?_)
           refine Tr.seq ?_
           refine Tr.block ?_
           refine Tr.seq ?_
           refine Tr.draw (by kernel_rfl) (by kernel_rfl) ?_
           refine Tq.va rfl (fun _ _ h1 h2 => run_fieldAddr fo_26_6 (h1.ev rfl)) ?_
           refine Tq.va rfl (fun _ _ h1 h2 => run_load1 ag_24 (h1.ev rfl) (rdb h2 (vs := [(iv p0.W), (iv p0.H), (iv p0.Rail), (iv p0.Gap), (.slice Ap0_0 (p0.Kinds).length cp0_0), (.slice Ap0_1 (p0.Slots).length cp0_1), (.slice Ap0_2 (p0.Marks).length cp0_2)]) (k := 1) rfl 6) rfl) ?_
           refine Tq.mv rfl rfl ?_
           obtain ⟨x130, hx130, H⟩ := bnd H
           obtain ⟨hx1300, hx1301, hx1302⟩ := idx_some hx130
           refine Tq.va rfl (fun _ _ h1 h2 => run_indexAddr el_24 (h1.ev rfl) hp0_2.form (h1.ev rfl) hx1300 hx1301) ?_
           refine Tq.va rfl (fun _ _ h1 h2 => run_loadN (cs := [(iv x130.X), (iv x130.Y)]) ag_51 sz_51 (h1.ev rfl) (CellsAt.take (rdF ef_TPoint hp0_2 hx1302 h2) 2) rfl) ?_
           refine Tq.va rfl (fun _ _ h1 h2 => run_fieldAddr fo_26_6 (h1.ev rfl)) ?_
           refine Tq.va rfl (fun _ _ h1 h2 => run_load1 ag_24 (h1.ev rfl) (rdb h2 (vs := [(iv p1.W), (iv p1.H), (iv p1.Rail), (iv p1.Gap), (.slice Ap1_0 (p1.Kinds).length cp1_0), (.slice Ap1_1 (p1.Slots).length cp1_1), (.slice Ap1_2 (p1.Marks).length cp1_2)]) (k := 2) rfl 6) rfl) ?_
           refine Tq.mv rfl rfl ?_
           obtain ⟨x131, hx131, H⟩ := bnd H
           obtain ⟨hx1310, hx1311, hx1312⟩ := idx_some hx131
           refine Tq.va rfl (fun _ _ h1 h2 => run_indexAddr el_24 (h1.ev rfl) hp1_2.form (h1.ev rfl) hx1310 hx1311) ?_
           refine Tq.va rfl (fun _ _ h1 h2 => run_loadN (cs := [(iv x131.X), (iv x131.Y)]) ag_51 sz_51 (h1.ev rfl) (CellsAt.take (rdF ef_TPoint hp1_2 hx1312 h2) 2) rfl) ?_
           refine Tq.va rfl (fun _ _ h1 h2 => run_neq_51 x130 x131 (h1.ev rfl) (h1.ev rfl)) ?_
           refine Tq.nil (Tr.normThen ?_)
           refine Tr.cond rfl H (fun H => ?_) (fun H => ?_)
           ·refine Tr.sr ?_
            refine Tr.asg rfl rfl ?_
            refine Tr.nil (Tr.normThen ?_)
            refine Tr.ret (Tr.retBlock (Tr.retThen (Tr.retThen (Tr.retBlock (Tr.retThen ?_)))))
            obtain rfl := Option.some.inj H
            exact Tr.out (m := [(.bool false)]) [] (res_tmp rfl res_nil) (fun W hW => ⟨rfl, hW.low leB⟩)
           ·refine Tr.skip (Tr.normBlock (Tr.normThen ?_))
            refine Tr.region ?_
            refine Tr.mv rfl rfl ?_
            refine Tr.va rfl (fun _ _ h1 h2 => run_add (h1.ev rfl) (h1.ev rfl)) ?_
            refine Tr.asg rfl rfl ?_
            refine Tr.nil ?_
            exact Tr.backThen leL3 (w64 (x129 + 1)) H (.cons rfl (.cons rfl (.cons rfl .nil))) (.cons rfl (.cons rfl .nil))
          ·refine Tr.exit (Tr.exitThen (Tr.exitThen (Tr.exitBlock (Tr.normThen ?_))))
           refine Tr.sr ?_
           refine Tr.asg rfl rfl ?_
           refine Tr.nil (Tr.normThen ?_)
           refine Tr.ret ?_
           obtain rfl := Option.some.inj H
           exact Tr.out (m := [(.bool true)]) [] (res_tmp rfl res_nil) (fun W hW => ⟨rfl, hW.low leB⟩)

theorem F_shape_AreaOf_ok {w : Bs} (p0 : (List TRect)) (Ap0_0 : Option Addr) (cp0_0 : Nat) (hp0_0 : Sl w.R w.W fl_TRect Ap0_0 cp0_0 p0) (r : Int) (H : F_shape_AreaOf p0 = some r) (hE : HF w w.W E0) : Calls Tryz.prog 34 [(.slice Ap0_0 (p0).length cp0_0)].toArray w.W fun e W' => e = .returned (iv r) ∧ HF w W' E0 := by
 unfold F_shape_AreaOf at H
 have leB := Bs.Le.refl w
 refine Tr.enter (n := 27) Tryz.func34 rfl rfl rfl hE ?_
 refine Tr.sr ?_
 refine Tr.asg rfl rfl ?_
 refine Tr.nil (Tr.normThen ?_)
 refine Tr.sr ?_
 refine Tr.asg rfl rfl ?_
 refine Tr.nil (Tr.normThen ?_)
 refine Tr.seq ?_
 refine Tr.sr ?_
 refine Tr.mv rfl rfl ?_
 refine Tr.va rfl (fun _ _ h1 h2 => run_len un_66 (h1.ev rfl)) ?_
 refine Tr.mv rfl rfl ?_
 refine Tr.nil (Tr.normThen ?_)
 refine Tr.block ?_
 refine Tr.loop (σ := (List TRect) × Nat × Int) (fun m w s => m = s.1.length + 1 ∧ s.1 = List.drop s.2.1 p0 ∧ s.2.1 ≤ p0.length ∧ F_shape_AreaOf_L1 s.1 s.2.1 s.2.2 = some r) (fun s => [(3, (iv s.2.2)), (6, (.slice Ap0_0 (p0).length cp0_0)), (7, (iv (p0.length : Int))), (8, (iv (s.2.1 : Int)))]) (fun s => []) (p0.length + 1) (p0, 0, 0) ⟨rfl, rfl, Nat.zero_le _, H⟩ (.cons rfl (.cons rfl (.cons rfl (.cons rfl .nil)))) .nil (fun _ _ h => absurd h.1 (by simp)) ?_
 intro w leL1 m s hs
 obtain ⟨restL1, iL1, x110⟩ := s
 obtain ⟨hmL1, hdL1, hiL1, H⟩ := hs
 replace hdL1 : restL1 = List.drop iL1 p0 := hdL1
 replace H : F_shape_AreaOf_L1 restL1 iL1 x110 = some r := H
 replace hmL1 : m + 1 = restL1.length + 1 := hmL1
 replace hp0_0 := hp0_0.leR leL1
 replace leB := leB.trans leL1
 obtain rfl : m = restL1.length := by omega
 clear hmL1
 show Tr _ _ (LF [(3, (iv x110)), (6, (.slice Ap0_0 (p0).length cp0_0)), (7, (iv (p0.length : Int))), (8, (iv (iL1 : Int)))]) (LE []) _
 cases restL1 with
 | nil =>
  rw [F_shape_AreaOf_L1.eq_1] at H
  refine Tr.sr ?_
  refine Tr.va rfl (fun _ _ h1 h2 => run_lss (h1.ev rfl) (h1.ev rfl)) ?_
  refine Tr.nil (Tr.normThen ?_)
  refine Tr.seq ?_
  refine Tr.condF rfl (range_nil hdL1) ?_
  refine Tr.exit (Tr.exitThen (Tr.exitThen (Tr.exitBlock (Tr.normThen ?_))))
  refine Tr.sr ?_
  refine Tr.mv rfl rfl ?_
  refine Tr.asg rfl rfl ?_
  refine Tr.nil (Tr.normThen ?_)
  refine Tr.ret ?_
  obtain rfl := Option.some.inj H
  exact Tr.out (m := [(iv x110)]) [] (res_tmp rfl res_nil) (fun W hW => ⟨rfl, hW.low leB⟩)
 | cons xL1 restL1 =>
  rw [F_shape_AreaOf_L1.eq_2] at H
  refine Tr.sr ?_
  refine Tr.va rfl (fun _ _ h1 h2 => run_lss (h1.ev rfl) (h1.ev rfl)) ?_
  refine Tr.nil (Tr.normThen ?_)
  refine Tr.seq ?_
  refine Tr.condT rfl (range_on hdL1) ?_
  refine Tr.skip (Tr.normThen ?_)
  refine Tr.seq ?_
  refine Tr.block ?_
  refine Tr.sr ?_
  refine Tr.va rfl (fun _ _ h1 h2 => run_indexAddr el_66 (h1.ev rfl) hp0_0.form (h1.ev rfl) (Int.natCast_nonneg _) (range_lt hdL1)) ?_
  refine Tr.va rfl (fun _ _ h1 h2 => run_loadN (cs := [(iv xL1.X0), (iv xL1.Y0), (iv xL1.X1), (iv xL1.Y1)]) ag_86 sz_86 (h1.ev rfl) (CellsAt.take (rdF ef_TRect hp0_0 (range_at hdL1) h2) 4) rfl) ?_
  refine Tr.alloc 3 (wn rfl) rfl ze_86 fun b111 => ?_
  refine Tr.store 3 (cs := [(iv xL1.X0), (iv xL1.Y0), (iv xL1.X1), (iv xL1.Y1)]) [(iv xL1.X0), (iv xL1.Y0), (iv xL1.X1), (iv xL1.Y1)] (wn rfl) rfl rfl rfl rfl sz_86 rfl rfl rfl ?_
  refine Tr.nil (Tr.normThen ?_)
  refine Tr.region ?_
  refine Tr.mv rfl rfl ?_
  refine Tr.va rfl (fun _ _ h1 h2 => run_fieldAddr fo_86_2 (h1.ev rfl)) ?_
  refine Tr.va rfl (fun _ _ h1 h2 => run_load1 ag_3 (h1.ev rfl) (rdb h2 (vs := [(iv xL1.X0), (iv xL1.Y0), (iv xL1.X1), (iv xL1.Y1)]) (k := 3) rfl 2) rfl) ?_
  refine Tr.va rfl (fun _ _ h1 h2 => run_fieldAddr fo_86_0 (h1.ev rfl)) ?_
  refine Tr.va rfl (fun _ _ h1 h2 => run_load1 ag_3 (h1.ev rfl) (rdb h2 (vs := [(iv xL1.X0), (iv xL1.Y0), (iv xL1.X1), (iv xL1.Y1)]) (k := 3) rfl 0) rfl) ?_
  refine Tr.va rfl (fun _ _ h1 h2 => run_sub (h1.ev rfl) (h1.ev rfl)) ?_
  refine Tr.va rfl (fun _ _ h1 h2 => run_fieldAddr fo_86_3 (h1.ev rfl)) ?_
  refine Tr.va rfl (fun _ _ h1 h2 => run_load1 ag_3 (h1.ev rfl) (rdb h2 (vs := [(iv xL1.X0), (iv xL1.Y0), (iv xL1.X1), (iv xL1.Y1)]) (k := 3) rfl 3) rfl) ?_
  refine Tr.va rfl (fun _ _ h1 h2 => run_fieldAddr fo_86_1 (h1.ev rfl)) ?_
  refine Tr.va rfl (fun _ _ h1 h2 => run_load1 ag_3 (h1.ev rfl) (rdb h2 (vs := [(iv xL1.X0), (iv xL1.Y0), (iv xL1.X1), (iv xL1.Y1)]) (k := 3) rfl 1) rfl) ?_
  refine Tr.va rfl (fun _ _ h1 h2 => run_sub (h1.ev rfl) (h1.ev rfl)) ?_
  refine Tr.va rfl (fun _ _ h1 h2 => run_mul (h1.ev rfl) (h1.ev rfl)) ?_
  refine Tr.va rfl (fun _ _ h1 h2 => run_add (h1.ev rfl) (h1.ev rfl)) ?_
  refine Tr.asg rfl rfl ?_
  refine Tr.nil (Tr.normBlock (Tr.normThen ?_))
  refine Tr.region ?_
  refine Tr.va rfl (fun _ _ h1 h2 => run_add (h1.ev rfl) (h1.ev rfl)) ?_
  refine Tr.mv rfl rfl ?_
  refine Tr.nil ?_
  exact Tr.backThen leL1 (restL1, (iL1 + 1), (w64 (x110 + (w64 ((w64 (xL1.X1 - xL1.X0)) * (w64 (xL1.Y1 - xL1.Y0))))))) ⟨rfl, range_tl hdL1, range_lt hdL1, H⟩ (.cons rfl (.cons rfl (.cons rfl (.cons (congrArg (fun z => some (Value.int .i64 z)) (range_up hdL1 hp0_0.form)) .nil)))) .nil

theorem F_panel_Lowest_ok (N : Nat) {w : Bs} (p0 : Int) (p1 : Int) (r : TShare) (H : F_panel_Lowest N p0 p1 = some r) (hE : HF w w.W E0) : Calls Tryz.prog 33 [(iv p0), (iv p1)].toArray w.W fun e W' => e = .returned (.agg #[(iv r.Num), (iv r.Den)]) ∧ HF w W' E0 := by
 unfold F_panel_Lowest at H
 have leB := Bs.Le.refl w
 refine Tr.enter (n := 22) Tryz.func33 rfl rfl rfl hE ?_
 refine Tr.sr ?_
 refine Tr.alloc 1 (wn rfl) rfl ze_60 fun b100 => ?_
 refine Tr.nil (Tr.normThen ?_)
 refine Tr.sr ?_
 refine Tr.mv rfl rfl ?_
 refine Tr.mv rfl rfl ?_
 refine Tr.asg rfl rfl ?_
 refine Tr.asg rfl rfl ?_
 refine Tr.nil (Tr.normThen ?_)
 refine Tr.seq ?_
 refine Tr.block ?_
 refine Tr.loop (σ := Int × Int) (fun m w s => F_panel_Lowest_L1 p0 p1 m s.1 s.2 = some r) (fun s => [(0, (iv p0)), (1, (iv p1)), (4, (.pointer (some ⟨b100, 0, none⟩))), (5, (iv s.1)), (6, (iv s.2))]) (fun s => [(1, bx b100 #[(iv 0), (iv 0)] 60)]) N (p0, p1) H (.cons rfl (.cons rfl (.cons rfl (.cons rfl (.cons rfl .nil))))) (.cons rfl .nil) (fun _ _ h => noSome (h)) ?_
 intro w leL1 mL1 s hs
 obtain ⟨x109, x110⟩ := s
 have H := hs
 replace H : F_panel_Lowest_L1 p0 p1 (mL1 + 1) x109 x110 = some r := H
 replace leB := leB.trans leL1
 rw [F_panel_Lowest_L1.eq_2] at H
 show Tr _ _ (LF [(0, (iv p0)), (1, (iv p1)), (4, (.pointer (some ⟨b100, 0, none⟩))), (5, (iv x109)), (6, (iv x110))]) (LE [(1, bx b100 #[(iv 0), (iv 0)] 60)]) _
 refine Tr.seq ?_
 refine Tr.sr ?_
 refine Tr.mv rfl rfl ?_
 refine Tr.va rfl (fun _ _ h1 h2 => run_neq (h1.ev rfl) (h1.ev rfl)) ?_
 refine Tr.nil (Tr.normThen ?_)
 refine Tr.cond rfl H (fun H => ?_) (fun H => ?_)
 ·refine Tr.skip (Tr.normThen ?_)
  refine Tr.block ?_
  refine Tr.draw (by kernel_rfl) (by kernel_rfl) ?_
  refine Tq.mv rfl rfl ?_
  refine Tq.mv rfl rfl ?_
  refine Tq.mv rfl rfl ?_
  obtain ⟨q111, hq111, H⟩ := bnd H
  refine Tq.va rfl (fun _ _ h1 h2 => run_md (h1.ev rfl) (h1.ev rfl) hq111) ?_
  refine Tq.asg rfl rfl ?_
  refine Tq.asg rfl rfl ?_
  refine Tq.nil (Tr.normBlock ?_)
  exact Tr.backThen leL1 (x110, q111) H (.cons rfl (.cons rfl (.cons rfl (.cons rfl (.cons rfl .nil))))) (.cons rfl .nil)
 ·refine Tr.exit (Tr.exitThen (Tr.exitThen (Tr.exitBlock (Tr.normThen ?_))))
  refine Tr.seq ?_
  refine Tr.drawTail 6 (by kernel_rfl) (by kernel_rfl) ?_
  refine Tq.mv rfl rfl ?_
  refine Tq.mv rfl rfl ?_
  obtain ⟨q112, hq112, H⟩ := bnd H
  refine Tq.va rfl (fun _ _ h1 h2 => run_dv (h1.ev rfl) (h1.ev rfl) hq112) ?_
  refine Tq.mv rfl rfl ?_
  refine Tq.mv rfl rfl ?_
  obtain ⟨q113, hq113, H⟩ := bnd H
  refine Tq.va rfl (fun _ _ h1 h2 => run_dv (h1.ev rfl) (h1.ev rfl) hq113) ?_
  refine Tq.nil ?_
  refine Tr.build (vs := [(0, (iv q112)), (1, (iv q113))]) (cs := [(iv q112), (iv q113)]) (wn rfl) rfl (evs_cons rfl (evs_cons rfl evs_nil)) (by kernel_rfl) ?_
  refine Tr.store 1 (cs := [(iv q112), (iv q113)]) [(iv q112), (iv q113)] (wn rfl) rfl rfl rfl rfl sz_60 rfl rfl rfl ?_
  refine Tr.nil (Tr.normThen ?_)
  refine Tr.ret ?_
  obtain rfl := Option.some.inj H
  exact Tr.out (m := [(.agg #[(iv q112), (iv q113)])]) [1] (res_cell rfl rfl ag_60 sz_60 res_nil) (fun W hW => ⟨rfl, hW.low leB⟩)

theorem F_panel_Use_ok (N : Nat) {w : Bs} (p0 : TPanel) (Ap0_0 : Option Addr) (cp0_0 : Nat) (hp0_0 : Sl w.R w.W fl_TBoardKind Ap0_0 cp0_0 p0.Kinds) (Ap0_1 : Option Addr) (cp0_1 : Nat) (hp0_1 : Sl w.R w.W fl_TSlot Ap0_1 cp0_1 p0.Slots) (Ap0_2 : Option Addr) (cp0_2 : Nat) (hp0_2 : Sl w.R w.W fl_TPoint Ap0_2 cp0_2 p0.Marks) (r : (TShare × Int)) (H : F_panel_Use N p0 = some r) (hE : HF w w.W E0) : Calls Tryz.prog 19 [(.agg #[(iv p0.W), (iv p0.H), (iv p0.Rail), (iv p0.Gap), (.slice Ap0_0 (p0.Kinds).length cp0_0), (.slice Ap0_1 (p0.Slots).length cp0_1), (.slice Ap0_2 (p0.Marks).length cp0_2)])].toArray w.W fun e W' => e = .returned (.tuple #[(.agg #[(iv r.1.Num), (iv r.1.Den)]), (iv r.2)]) ∧ HF w W' E0 := by
 unfold F_panel_Use at H
 have leB := Bs.Le.refl w
 refine Tr.enter (n := 23) Tryz.func19 rfl rfl rfl hE ?_
 refine Tr.sr ?_
 refine Tr.box 1 (cs := [(iv p0.W), (iv p0.H), (iv p0.Rail), (iv p0.Gap), (.slice Ap0_0 (p0.Kinds).length cp0_0), (.slice Ap0_1 (p0.Slots).length cp0_1), (.slice Ap0_2 (p0.Marks).length cp0_2)]) (wn rfl) rfl rfl rfl fun b100 => ?_
 refine Tr.alloc 2 (wn rfl) rfl ze_60 fun b101 => ?_
 refine Tr.asg rfl rfl ?_
 refine Tr.nil (Tr.normThen ?_)
 refine Tr.sr ?_
 refine Tr.va rfl (fun _ _ h1 h2 => run_loadN (cs := [(iv p0.W), (iv p0.H), (iv p0.Rail), (iv p0.Gap), (.slice Ap0_0 (p0.Kinds).length cp0_0), (.slice Ap0_1 (p0.Slots).length cp0_1), (.slice Ap0_2 (p0.Marks).length cp0_2)]) ag_26 sz_26 (h1.ev rfl) (CellsAt.take (rdb h2 (vs := [(iv p0.W), (iv p0.H), (iv p0.Rail), (iv p0.Gap), (.slice Ap0_0 (p0.Kinds).length cp0_0), (.slice Ap0_1 (p0.Slots).length cp0_1), (.slice Ap0_2 (p0.Marks).length cp0_2)]) (k := 1) rfl 0) 7) rfl) ?_
 obtain ⟨y102, hy102, H⟩ := bnd H
 refine Tr.callM [3] [emp] (U := (Option Addr × Nat)) (fun u => (.tuple #[(.slice u.1 (y102.1).length u.2), (iv y102.2)])) (fun u => SlF u.1 (y102.1).length u.2) (fun u => [ow u.1 u.2 86 fl_TRect y102.1]) rfl (pk_cons rfl pk_nil) (fun _ => rfl) (wn rfl) rfl Tryz.call23 (evl_cons rfl evl_nil) (fun W hW hp hE => F_panel_open_ok N p0 Ap0_0 cp0_0 (hp0_0.ext (hW.extS hp)) Ap0_1 cp0_1 (hp0_1.ext (hW.extS hp)) Ap0_2 cp0_2 (hp0_2.ext (hW.extS hp)) y102 hy102 hE) ?_
 intro u hu
 obtain ⟨Ay102_0, cy102_0⟩ := u
 have gy102_0 := hu
 have hgy102_0 : SlF Ay102_0 (y102.1).length cy102_0 := gy102_0 --@phi
 show Tr _ _ (uf _ 8 (.tuple #[(.slice Ay102_0 (y102.1).length cy102_0), (iv y102.2)])) (up _ 3 (ow Ay102_0 cy102_0 86 fl_TRect y102.1)) _
 refine Tr.mv rfl rfl ?_
 refine Tr.va rfl (fun _ _ h1 h2 => run_extract (h1.ev rfl) rfl) ?_
 refine Tr.va rfl (fun _ _ h1 h2 => run_extract (h1.ev rfl) rfl) ?_
 refine Tr.asg rfl rfl ?_
 refine Tr.asg rfl rfl ?_
 refine Tr.nil (Tr.normThen ?_)
 refine Tr.seq ?_
 refine Tr.sr ?_
 refine Tr.mv rfl rfl ?_
 refine Tr.va rfl (fun _ _ h1 h2 => run_neq (h1.ev rfl) (h1.ev rfl)) ?_
 refine Tr.nil (Tr.normThen ?_)
 refine Tr.cond rfl H (fun H => ?_) (fun H => ?_)
 ·refine Tr.sr ?_
  refine Tr.build (vs := []) (cs := [(iv 0), (iv 0)]) (wn rfl) rfl evs_nil (by kernel_rfl) ?_
  refine Tr.mv rfl rfl ?_
  refine Tr.store 2 (cs := [(iv 0), (iv 0)]) [(iv 0), (iv 0)] (wn rfl) rfl rfl rfl rfl sz_60 rfl rfl rfl ?_
  refine Tr.asg rfl rfl ?_
  refine Tr.nil (Tr.normThen ?_)
  refine Tr.ret (Tr.retThen ?_)
  obtain rfl := Option.some.inj H
  exact Tr.out (m := [(.agg #[(iv 0), (iv 0)]), (iv y102.2)]) [2] (res_cell rfl rfl ag_60 sz_60 (res_tmp rfl res_nil)) (fun W hW => ⟨rfl, hW.low leB⟩)
 ·refine Tr.skip (Tr.normThen ?_)
  refine Tr.seq ?_
  refine Tr.drawTail 7 (by kernel_rfl) (by kernel_rfl) ?_
  refine Tq.mv rfl rfl ?_
  obtain ⟨y104, hy104, H⟩ := bnd H
  refine Tq.call0 (r := (iv y104)) (wn rfl) rfl Tryz.call34 (evl_cons rfl evl_nil) (fun W hW => F_shape_AreaOf_ok y102.1 Ay102_0 cy102_0 (hW.slCall (k := 3) rfl) y104 hy104 (HF.start _)) ?_
  refine Tq.va rfl (fun _ _ h1 h2 => run_fieldAddr fo_26_0 (h1.ev rfl)) ?_
  refine Tq.va rfl (fun _ _ h1 h2 => run_load1 ag_3 (h1.ev rfl) (rdb h2 (vs := [(iv p0.W), (iv p0.H), (iv p0.Rail), (iv p0.Gap), (.slice Ap0_0 (p0.Kinds).length cp0_0), (.slice Ap0_1 (p0.Slots).length cp0_1), (.slice Ap0_2 (p0.Marks).length cp0_2)]) (k := 1) rfl 0) rfl) ?_
  refine Tq.va rfl (fun _ _ h1 h2 => run_fieldAddr fo_26_1 (h1.ev rfl)) ?_
  refine Tq.va rfl (fun _ _ h1 h2 => run_load1 ag_3 (h1.ev rfl) (rdb h2 (vs := [(iv p0.W), (iv p0.H), (iv p0.Rail), (iv p0.Gap), (.slice Ap0_0 (p0.Kinds).length cp0_0), (.slice Ap0_1 (p0.Slots).length cp0_1), (.slice Ap0_2 (p0.Marks).length cp0_2)]) (k := 1) rfl 1) rfl) ?_
  refine Tq.va rfl (fun _ _ h1 h2 => run_mul (h1.ev rfl) (h1.ev rfl)) ?_
  refine Tq.nil ?_
  obtain ⟨y105, hy105, H⟩ := bnd H
  refine Tr.call0 (r := (.agg #[(iv y105.Num), (iv y105.Den)])) (wn rfl) rfl Tryz.call33 (evl_cons rfl (evl_cons rfl evl_nil)) (fun W hW => F_panel_Lowest_ok N y104 (w64 (p0.W * p0.H)) y105 hy105 (HF.start _)) ?_
  refine Tr.store 2 (cs := [(iv y105.Num), (iv y105.Den)]) [(iv y105.Num), (iv y105.Den)] (wn rfl) rfl rfl rfl rfl sz_60 rfl rfl rfl ?_
  refine Tr.asg rfl rfl ?_
  refine Tr.nil (Tr.normThen ?_)
  refine Tr.ret ?_
  obtain rfl := Option.some.inj H
  exact Tr.out (m := [(.agg #[(iv y105.Num), (iv y105.Den)]), (iv 0)]) [2] (res_cell rfl rfl ag_60 sz_60 (res_tmp rfl res_nil)) (fun W hW => ⟨rfl, hW.low leB⟩)

theorem F_etchhouselaw9_awake_ok (N : Nat) {w : Bs}  (r : Bool) (H : F_etchhouselaw9_awake N = some r) (hE : HF w w.W E0) : Calls Tryz.prog 8 [].toArray w.W fun e W' => e = .returned (.bool r) ∧ HF w W' E0 := by
 unfold F_etchhouselaw9_awake at H
 have leB := Bs.Le.refl w
 refine Tr.enter (n := 15) Tryz.func8 rfl rfl rfl hE ?_
 refine Tr.sr ?_
 refine Tr.asg rfl rfl ?_
 refine Tr.nil (Tr.normThen ?_)
 refine Tr.sr ?_
 refine Tr.build (vs := [(0, (iv 1)), (1, (iv 1))]) (cs := [(iv 1), (iv 1), (iv 0), (iv 0), (.slice none 0 0), (.slice none 0 0), (.slice none 0 0)]) (wn rfl) rfl (evs_cons rfl (evs_cons rfl evs_nil)) (by kernel_rfl) ?_
 obtain ⟨y100, hy100, H⟩ := bnd H
 refine Tr.call0 (r := (.tuple #[(.agg #[(iv y100.1.Num), (iv y100.1.Den)]), (iv y100.2)])) (wn rfl) rfl Tryz.call19 (evl_cons rfl evl_nil) (fun W hW => F_panel_Use_ok N (TPanel.mk 1 1 0 0 [] [] []) none 0 (Sl.nil _ _ _) none 0 (Sl.nil _ _ _) none 0 (Sl.nil _ _ _) y100 hy100 (HF.start _)) ?_
 refine Tr.mv rfl rfl ?_
 refine Tr.va rfl (fun _ _ h1 h2 => run_extract (h1.ev rfl) rfl) ?_
 refine Tr.va rfl (fun _ _ h1 h2 => run_extract (h1.ev rfl) rfl) ?_
 refine Tr.alloc 1 (wn rfl) rfl ze_60 fun b101 => ?_
 refine Tr.store 1 (cs := [(iv y100.1.Num), (iv y100.1.Den)]) [(iv y100.1.Num), (iv y100.1.Den)] (wn rfl) rfl rfl rfl rfl sz_60 rfl rfl rfl ?_
 refine Tr.asg rfl rfl ?_
 refine Tr.nil (Tr.normThen ?_)
 refine Tr.sr ?_
 refine Tr.mv rfl rfl ?_
 refine Tr.va rfl (fun _ _ h1 h2 => run_eql (h1.ev rfl) (h1.ev rfl)) ?_
 refine Tr.mv rfl rfl ?_
 refine Tr.mid0 4 [(14, (.bool ((y100.2 == 0) && (eqTShare y100.1 (TShare.mk 0 1)))))] [(1, bx b101 #[(iv y100.1.Num), (iv y100.1.Den)] 60)] ?_ ?_
 ·cases hg101 : (y100.2 == 0)
  ·refine Tr.pass rfl rfl rfl rfl rfl (by decide) ?_
   refine Tr.pass rfl rfl rfl rfl rfl (by decide) ?_
   refine Tr.pass rfl rfl rfl rfl rfl (by decide) ?_
   refine Tr.va rfl (fun _ _ h1 h2 => run_pickF (h1.ev rfl) (h1.ev rfl)) ?_
   exact Tr.nil (Tr.fin0 (.cons rfl .nil) (.cons rfl .nil))
  ·refine Tr.val (wg rfl rfl rfl) rfl (fun _ _ h1 h2 => run_loadN (cs := [(iv y100.1.Num), (iv y100.1.Den)]) ag_60 sz_60 (h1.ev rfl) (CellsAt.take (rdb h2 (vs := [(iv y100.1.Num), (iv y100.1.Den)]) (k := 1) rfl 0) 2) rfl) ?_
   refine Tr.build (vs := [(1, (iv 1))]) (cs := [(iv 0), (iv 1)]) (wg rfl rfl rfl) rfl (evs_cons rfl evs_nil) (by kernel_rfl) ?_
   refine Tr.val (wg rfl rfl rfl) rfl (fun _ _ h1 h2 => run_eql_60 y100.1 (TShare.mk 0 1) (h1.ev rfl) (h1.ev rfl)) ?_
   refine Tr.va rfl (fun _ _ h1 h2 => run_pickT (h1.ev rfl) (h1.ev rfl)) ?_
   exact Tr.nil (Tr.fin0 (.cons rfl .nil) (.cons rfl .nil))
 ·show Tr _ _ (LF [(14, (.bool ((y100.2 == 0) && (eqTShare y100.1 (TShare.mk 0 1)))))]) (LE [(1, bx b101 #[(iv y100.1.Num), (iv y100.1.Den)] 60)]) _
  refine Tr.asg rfl rfl ?_
  refine Tr.nil (Tr.normThen ?_)
  refine Tr.ret ?_
  obtain rfl := Option.some.inj H
  exact Tr.out (m := [(.bool ((y100.2 == 0) && (eqTShare y100.1 (TShare.mk 0 1))))]) [] (res_tmp rfl res_nil) (fun W hW => ⟨rfl, hW.low leB⟩)

theorem F_etchhouselaw9_PanelsComeBack_ok (N : Nat) {w : Bs} (hT : Tab Tryz.prog w) (p0 : TPanel) (Ap0_0 : Option Addr) (cp0_0 : Nat) (hp0_0 : Sl w.R w.W fl_TBoardKind Ap0_0 cp0_0 p0.Kinds) (Ap0_1 : Option Addr) (cp0_1 : Nat) (hp0_1 : Sl w.R w.W fl_TSlot Ap0_1 cp0_1 p0.Slots) (Ap0_2 : Option Addr) (cp0_2 : Nat) (hp0_2 : Sl w.R w.W fl_TPoint Ap0_2 cp0_2 p0.Marks) (p1 : ByteArray) (r : Bool) (H : F_etchhouselaw9_PanelsComeBack N p0 p1 = some r) (hE : HF w w.W E0) : Calls Tryz.prog 3 [(.agg #[(iv p0.W), (iv p0.H), (iv p0.Rail), (iv p0.Gap), (.slice Ap0_0 (p0.Kinds).length cp0_0), (.slice Ap0_1 (p0.Slots).length cp0_1), (.slice Ap0_2 (p0.Marks).length cp0_2)]), (sv p1)].toArray w.W fun e W' => e = .returned (.bool r) ∧ HF w W' E0 := by
 unfold F_etchhouselaw9_PanelsComeBack at H
 have leB := Bs.Le.refl w
 refine Tr.enter (n := 73) Tryz.func3 rfl rfl rfl hE ?_
 refine Tr.sr ?_
 refine Tr.box 1 (cs := [(iv p0.W), (iv p0.H), (iv p0.Rail), (iv p0.Gap), (.slice Ap0_0 (p0.Kinds).length cp0_0), (.slice Ap0_1 (p0.Slots).length cp0_1), (.slice Ap0_2 (p0.Marks).length cp0_2)]) (wn rfl) rfl rfl rfl fun b100 => ?_
 refine Tr.asg rfl rfl ?_
 refine Tr.nil (Tr.normThen ?_)
 have leJ108 := Bs.Le.refl w
 refine Tr.cutJ (σ := Unit) (fun w _ => F_etchhouselaw9_PanelsComeBack_J1 N p1 = some r) (fun _ => [(1, (sv p1))]) (fun _ => []) ?_ ?_
 ·refine Tr.sr ?_
  refine Tr.va rfl (fun _ _ h1 h2 => run_loadN (cs := [(iv p0.W), (iv p0.H), (iv p0.Rail), (iv p0.Gap), (.slice Ap0_0 (p0.Kinds).length cp0_0), (.slice Ap0_1 (p0.Slots).length cp0_1), (.slice Ap0_2 (p0.Marks).length cp0_2)]) ag_26 sz_26 (h1.ev rfl) (CellsAt.take (rdb h2 (vs := [(iv p0.W), (iv p0.H), (iv p0.Rail), (iv p0.Gap), (.slice Ap0_0 (p0.Kinds).length cp0_0), (.slice Ap0_1 (p0.Slots).length cp0_1), (.slice Ap0_2 (p0.Marks).length cp0_2)]) (k := 1) rfl 0) 7) rfl) ?_
  obtain ⟨y120, hy120, H⟩ := bnd H
  refine Tr.call0 (r := (.tuple #[(sv y120.1), (iv y120.2)])) (wn rfl) rfl Tryz.call5 (evl_cons rfl evl_nil) (fun W hW => F_panel_Text_ok N (hT.ext hW.extAll) p0 Ap0_0 cp0_0 (hp0_0.ext hW.extAll) Ap0_1 cp0_1 (hp0_1.ext hW.extAll) Ap0_2 cp0_2 (hp0_2.ext hW.extAll) y120 hy120 (HF.start _)) ?_
  refine Tr.mv rfl rfl ?_
  refine Tr.va rfl (fun _ _ h1 h2 => run_extract (h1.ev rfl) rfl) ?_
  refine Tr.va rfl (fun _ _ h1 h2 => run_extract (h1.ev rfl) rfl) ?_
  refine Tr.asg rfl rfl ?_
  refine Tr.asg rfl rfl ?_
  refine Tr.nil (Tr.normThen ?_)
  refine Tr.sr ?_
  refine Tr.mv rfl rfl ?_
  refine Tr.va rfl (fun _ _ h1 h2 => run_eql (h1.ev rfl) (h1.ev rfl)) ?_
  refine Tr.mv rfl rfl ?_
  refine Tr.mid0 4 [(1, (sv p1)), (2, (.pointer (some ⟨b100, 0, none⟩))), (5, (sv y120.1)), (25, (.bool ((y120.2 == 0) && (decide ((y120.1.size : Int) ≤ 200000)))))] [(1, bx b100 #[(iv p0.W), (iv p0.H), (iv p0.Rail), (iv p0.Gap), (.slice Ap0_0 (p0.Kinds).length cp0_0), (.slice Ap0_1 (p0.Slots).length cp0_1), (.slice Ap0_2 (p0.Marks).length cp0_2)] 26)] ?_ ?_
  ·cases hg126 : (y120.2 == 0)
   ·refine Tr.pass rfl rfl rfl rfl rfl (by decide) ?_
    refine Tr.pass rfl rfl rfl rfl rfl (by decide) ?_
    refine Tr.pass rfl rfl rfl rfl rfl (by decide) ?_
    refine Tr.va rfl (fun _ _ h1 h2 => run_pickF (h1.ev rfl) (h1.ev rfl)) ?_
    exact Tr.nil (Tr.fin0 (.cons rfl (.cons rfl (.cons rfl (.cons rfl .nil)))) (.cons rfl .nil))
   ·refine Tr.val (wg rfl rfl rfl) rfl (fun _ _ h1 h2 => run_move (h1.ev rfl)) ?_
    refine Tr.val (wg rfl rfl rfl) rfl (fun _ _ h1 h2 => run_lenS un_9 (h1.ev rfl)) ?_
    refine Tr.val (wg rfl rfl rfl) rfl (fun _ _ h1 h2 => run_leq (h1.ev rfl) (h1.ev rfl)) ?_
    refine Tr.va rfl (fun _ _ h1 h2 => run_pickT (h1.ev rfl) (h1.ev rfl)) ?_
    exact Tr.nil (Tr.fin0 (.cons rfl (.cons rfl (.cons rfl (.cons rfl .nil)))) (.cons rfl .nil))
  ·show Tr _ _ (LF [(1, (sv p1)), (2, (.pointer (some ⟨b100, 0, none⟩))), (5, (sv y120.1)), (25, (.bool ((y120.2 == 0) && (decide ((y120.1.size : Int) ≤ 200000)))))]) (LE [(1, bx b100 #[(iv p0.W), (iv p0.H), (iv p0.Rail), (iv p0.Gap), (.slice Ap0_0 (p0.Kinds).length cp0_0), (.slice Ap0_1 (p0.Slots).length cp0_1), (.slice Ap0_2 (p0.Marks).length cp0_2)] 26)]) _
   refine Tr.nil (Tr.normThen ?_)
   refine Tr.cond rfl H (fun H => ?_) (fun H => ?_)
   ·refine Tr.sr ?_
    refine Tr.mv rfl rfl ?_
    obtain ⟨y121, hy121, H⟩ := bnd H
    refine Tr.callM [10, 11, 12] [emp, emp, emp] (U := (Option Addr × Nat) × (Option Addr × Nat) × (Option Addr × Nat)) (fun u => (.tuple #[(.agg #[(iv y121.1.W), (iv y121.1.H), (iv y121.1.Rail), (iv y121.1.Gap), (.slice u.1.1 (y121.1.Kinds).length u.1.2), (.slice u.2.1.1 (y121.1.Slots).length u.2.1.2), (.slice u.2.2.1 (y121.1.Marks).length u.2.2.2)]), (iv y121.2.1), (iv y121.2.2)])) (fun u => SlF u.1.1 (y121.1.Kinds).length u.1.2 ∧ SlF u.2.1.1 (y121.1.Slots).length u.2.1.2 ∧ SlF u.2.2.1 (y121.1.Marks).length u.2.2.2) (fun u => [ow u.1.1 u.1.2 49 fl_TBoardKind y121.1.Kinds, ow u.2.1.1 u.2.1.2 53 fl_TSlot y121.1.Slots, ow u.2.2.1 u.2.2.2 51 fl_TPoint y121.1.Marks]) rfl (pk_cons rfl (pk_cons rfl (pk_cons rfl pk_nil))) (fun _ => rfl) (wn rfl) rfl Tryz.call6 (evl_cons rfl evl_nil) (fun W hW hp hE => F_panel_Read_ok N (hT.ext (hW.extS hp)) y120.1 y121 hy121 hE) ?_
    intro u hu
    obtain ⟨⟨Ay121_0, cy121_0⟩, ⟨Ay121_1, cy121_1⟩, ⟨Ay121_2, cy121_2⟩⟩ := u
    obtain ⟨gy121_0, gy121_1, gy121_2⟩ := hu
    have hgy121_0 : SlF Ay121_0 (y121.1.Kinds).length cy121_0 := gy121_0 --@phi
    have hgy121_1 : SlF Ay121_1 (y121.1.Slots).length cy121_1 := gy121_1 --@phi
    have hgy121_2 : SlF Ay121_2 (y121.1.Marks).length cy121_2 := gy121_2 --@phi
    show Tr _ _ (uf _ 28 (.tuple #[(.agg #[(iv y121.1.W), (iv y121.1.H), (iv y121.1.Rail), (iv y121.1.Gap), (.slice Ay121_0 (y121.1.Kinds).length cy121_0), (.slice Ay121_1 (y121.1.Slots).length cy121_1), (.slice Ay121_2 (y121.1.Marks).length cy121_2)]), (iv y121.2.1), (iv y121.2.2)])) (up (up (up _ 12 (ow Ay121_2 cy121_2 51 fl_TPoint y121.1.Marks)) 11 (ow Ay121_1 cy121_1 53 fl_TSlot y121.1.Slots)) 10 (ow Ay121_0 cy121_0 49 fl_TBoardKind y121.1.Kinds)) _
    refine Tr.mv rfl rfl ?_
    refine Tr.va rfl (fun _ _ h1 h2 => run_extract (h1.ev rfl) rfl) ?_
    refine Tr.va rfl (fun _ _ h1 h2 => run_extract (h1.ev rfl) rfl) ?_
    refine Tr.va rfl (fun _ _ h1 h2 => run_extract (h1.ev rfl) rfl) ?_
    refine Tr.alloc 13 (wn rfl) rfl ze_26 fun b123 => ?_
    refine Tr.store 13 (cs := [(iv y121.1.W), (iv y121.1.H), (iv y121.1.Rail), (iv y121.1.Gap), (.slice Ay121_0 (y121.1.Kinds).length cy121_0), (.slice Ay121_1 (y121.1.Slots).length cy121_1), (.slice Ay121_2 (y121.1.Marks).length cy121_2)]) [(iv y121.1.W), (iv y121.1.H), (iv y121.1.Rail), (iv y121.1.Gap), (.slice Ay121_0 (y121.1.Kinds).length cy121_0), (.slice Ay121_1 (y121.1.Slots).length cy121_1), (.slice Ay121_2 (y121.1.Marks).length cy121_2)] (wn rfl) rfl rfl rfl rfl sz_26 rfl rfl rfl ?_
    refine Tr.asg rfl rfl ?_
    refine Tr.asg rfl rfl ?_
    refine Tr.nil (Tr.normThen ?_)
    refine Tr.sr ?_
    refine Tr.mv rfl rfl ?_
    refine Tr.va rfl (fun _ _ h1 h2 => run_neq (h1.ev rfl) (h1.ev rfl)) ?_
    refine Tr.mv rfl rfl ?_
    refine Tr.mid0 3 [(1, (sv p1)), (2, (.pointer (some ⟨b100, 0, none⟩))), (7, (.pointer (some ⟨b123, 0, none⟩))), (37, (.bool ((y121.2.2 != 0) || (y121.2.1 != 0))))] [(1, bx b100 #[(iv p0.W), (iv p0.H), (iv p0.Rail), (iv p0.Gap), (.slice Ap0_0 (p0.Kinds).length cp0_0), (.slice Ap0_1 (p0.Slots).length cp0_1), (.slice Ap0_2 (p0.Marks).length cp0_2)] 26), (10, ow Ay121_0 cy121_0 49 fl_TBoardKind y121.1.Kinds), (11, ow Ay121_1 cy121_1 53 fl_TSlot y121.1.Slots), (12, ow Ay121_2 cy121_2 51 fl_TPoint y121.1.Marks), (13, bx b123 #[(iv y121.1.W), (iv y121.1.H), (iv y121.1.Rail), (iv y121.1.Gap), (.slice Ay121_0 (y121.1.Kinds).length cy121_0), (.slice Ay121_1 (y121.1.Slots).length cy121_1), (.slice Ay121_2 (y121.1.Marks).length cy121_2)] 26)] ?_ ?_
    ·cases hg126 : (y121.2.2 != 0)
     ·refine Tr.val (wg rfl rfl rfl) rfl (fun _ _ h1 h2 => run_move (h1.ev rfl)) ?_
      refine Tr.val (wg rfl rfl rfl) rfl (fun _ _ h1 h2 => run_neq (h1.ev rfl) (h1.ev rfl)) ?_
      refine Tr.va rfl (fun _ _ h1 h2 => run_pickF (h1.ev rfl) (h1.ev rfl)) ?_
      exact Tr.nil (Tr.fin0 (.cons rfl (.cons rfl (.cons rfl (.cons rfl .nil)))) (.cons rfl (.cons rfl (.cons rfl (.cons rfl (.cons rfl .nil))))))
     ·refine Tr.pass rfl rfl rfl rfl rfl (by decide) ?_
      refine Tr.pass rfl rfl rfl rfl rfl (by decide) ?_
      refine Tr.va rfl (fun _ _ h1 h2 => run_pickT (h1.ev rfl) (h1.ev rfl)) ?_
      exact Tr.nil (Tr.fin0 (.cons rfl (.cons rfl (.cons rfl (.cons rfl .nil)))) (.cons rfl (.cons rfl (.cons rfl (.cons rfl (.cons rfl .nil))))))
    ·show Tr _ _ (LF [(1, (sv p1)), (2, (.pointer (some ⟨b100, 0, none⟩))), (7, (.pointer (some ⟨b123, 0, none⟩))), (37, (.bool ((y121.2.2 != 0) || (y121.2.1 != 0))))]) (LE [(1, bx b100 #[(iv p0.W), (iv p0.H), (iv p0.Rail), (iv p0.Gap), (.slice Ap0_0 (p0.Kinds).length cp0_0), (.slice Ap0_1 (p0.Slots).length cp0_1), (.slice Ap0_2 (p0.Marks).length cp0_2)] 26), (10, ow Ay121_0 cy121_0 49 fl_TBoardKind y121.1.Kinds), (11, ow Ay121_1 cy121_1 53 fl_TSlot y121.1.Slots), (12, ow Ay121_2 cy121_2 51 fl_TPoint y121.1.Marks), (13, bx b123 #[(iv y121.1.W), (iv y121.1.H), (iv y121.1.Rail), (iv y121.1.Gap), (.slice Ay121_0 (y121.1.Kinds).length cy121_0), (.slice Ay121_1 (y121.1.Slots).length cy121_1), (.slice Ay121_2 (y121.1.Marks).length cy121_2)] 26)]) _
     refine Tr.mv rfl rfl ?_
     obtain ⟨g125, hg125, H⟩ := bnd H
     refine Tr.mid0 5 [(1, (sv p1)), (43, (.bool g125))] [(1, bx b100 #[(iv p0.W), (iv p0.H), (iv p0.Rail), (iv p0.Gap), (.slice Ap0_0 (p0.Kinds).length cp0_0), (.slice Ap0_1 (p0.Slots).length cp0_1), (.slice Ap0_2 (p0.Marks).length cp0_2)] 26), (10, ow Ay121_0 cy121_0 49 fl_TBoardKind y121.1.Kinds), (11, ow Ay121_1 cy121_1 53 fl_TSlot y121.1.Slots), (12, ow Ay121_2 cy121_2 51 fl_TPoint y121.1.Marks), (13, bx b123 #[(iv y121.1.W), (iv y121.1.H), (iv y121.1.Rail), (iv y121.1.Gap), (.slice Ay121_0 (y121.1.Kinds).length cy121_0), (.slice Ay121_1 (y121.1.Slots).length cy121_1), (.slice Ay121_2 (y121.1.Marks).length cy121_2)] 26)] ?_ ?_
     ·cases hg126 : ((y121.2.2 != 0) || (y121.2.1 != 0))
      ·rw [hg126] at hg125
       rw [if_neg (by decide)] at hg125
       have H := hg125
       refine Tr.val (wg rfl rfl rfl) rfl (fun _ _ h1 h2 => run_loadN (cs := [(iv y121.1.W), (iv y121.1.H), (iv y121.1.Rail), (iv y121.1.Gap), (.slice Ay121_0 (y121.1.Kinds).length cy121_0), (.slice Ay121_1 (y121.1.Slots).length cy121_1), (.slice Ay121_2 (y121.1.Marks).length cy121_2)]) ag_26 sz_26 (h1.ev rfl) (CellsAt.take (rdb h2 (vs := [(iv y121.1.W), (iv y121.1.H), (iv y121.1.Rail), (iv y121.1.Gap), (.slice Ay121_0 (y121.1.Kinds).length cy121_0), (.slice Ay121_1 (y121.1.Slots).length cy121_1), (.slice Ay121_2 (y121.1.Marks).length cy121_2)]) (k := 13) rfl 0) 7) rfl) ?_
       refine Tr.val (wg rfl rfl rfl) rfl (fun _ _ h1 h2 => run_loadN (cs := [(iv p0.W), (iv p0.H), (iv p0.Rail), (iv p0.Gap), (.slice Ap0_0 (p0.Kinds).length cp0_0), (.slice Ap0_1 (p0.Slots).length cp0_1), (.slice Ap0_2 (p0.Marks).length cp0_2)]) ag_26 sz_26 (h1.ev rfl) (CellsAt.take (rdb h2 (vs := [(iv p0.W), (iv p0.H), (iv p0.Rail), (iv p0.Gap), (.slice Ap0_0 (p0.Kinds).length cp0_0), (.slice Ap0_1 (p0.Slots).length cp0_1), (.slice Ap0_2 (p0.Marks).length cp0_2)]) (k := 1) rfl 0) 7) rfl) ?_
       obtain ⟨y126, hy126, H⟩ := bnd H
       refine Tr.call0 (r := (.bool y126)) (wg rfl rfl rfl) rfl Tryz.call7 (evl_cons rfl (evl_cons rfl evl_nil)) (fun W hW => F_etchhouseref9_Same_ok N y121.1 Ay121_0 cy121_0 (hW.slCall (k := 10) rfl) Ay121_1 cy121_1 (hW.slCall (k := 11) rfl) Ay121_2 cy121_2 (hW.slCall (k := 12) rfl) p0 Ap0_0 cp0_0 (hp0_0.ext hW.extAll) Ap0_1 cp0_1 (hp0_1.ext hW.extAll) Ap0_2 cp0_2 (hp0_2.ext hW.extAll) y126 hy126 (HF.start _)) ?_
       refine Tr.val (wg rfl rfl rfl) rfl (fun _ _ h1 h2 => run_not (h1.ev rfl)) ?_
       refine Tr.va rfl (fun _ _ h1 h2 => run_pickF (h1.ev rfl) (h1.ev rfl)) ?_
       obtain rfl := Option.some.inj H
       exact Tr.nil (Tr.fin0 (.cons rfl (.cons rfl .nil)) (.cons rfl (.cons rfl (.cons rfl (.cons rfl (.cons rfl .nil))))))
      ·rw [hg126] at hg125
       rw [if_pos rfl] at hg125
       have H := hg125
       obtain rfl := Option.some.inj H
       refine Tr.pass rfl rfl rfl rfl rfl (by decide) ?_
       refine Tr.pass rfl rfl rfl rfl rfl (by decide) ?_
       refine Tr.pass rfl rfl rfl rfl rfl (by decide) ?_
       refine Tr.pass rfl rfl rfl rfl rfl (by decide) ?_
       refine Tr.va rfl (fun _ _ h1 h2 => run_pickT (h1.ev rfl) (h1.ev rfl)) ?_
       exact Tr.nil (Tr.fin0 (.cons rfl (.cons rfl .nil)) (.cons rfl (.cons rfl (.cons rfl (.cons rfl (.cons rfl .nil))))))
     ·show Tr _ _ (LF [(1, (sv p1)), (43, (.bool g125))]) (LE [(1, bx b100 #[(iv p0.W), (iv p0.H), (iv p0.Rail), (iv p0.Gap), (.slice Ap0_0 (p0.Kinds).length cp0_0), (.slice Ap0_1 (p0.Slots).length cp0_1), (.slice Ap0_2 (p0.Marks).length cp0_2)] 26), (10, ow Ay121_0 cy121_0 49 fl_TBoardKind y121.1.Kinds), (11, ow Ay121_1 cy121_1 53 fl_TSlot y121.1.Slots), (12, ow Ay121_2 cy121_2 51 fl_TPoint y121.1.Marks), (13, bx b123 #[(iv y121.1.W), (iv y121.1.H), (iv y121.1.Rail), (iv y121.1.Gap), (.slice Ay121_0 (y121.1.Kinds).length cy121_0), (.slice Ay121_1 (y121.1.Slots).length cy121_1), (.slice Ay121_2 (y121.1.Marks).length cy121_2)] 26)]) _
      refine Tr.nil (Tr.normThen ?_)
      refine Tr.cond rfl H (fun H => ?_) (fun H => ?_)
      ·refine Tr.sr ?_
       refine Tr.asg rfl rfl ?_
       refine Tr.nil (Tr.normThen ?_)
       refine Tr.ret (Tr.retThen ?_)
       obtain rfl := Option.some.inj H
       exact Tr.out (m := [(.bool false)]) [] (res_tmp rfl res_nil) (fun W hW => ⟨rfl, hW.low leB⟩)
      ·refine Tr.skip ?_
       exact Tr.backThen leJ108 () H (.cons rfl .nil) .nil
   ·refine Tr.skip ?_
    exact Tr.backThen leJ108 () H (.cons rfl .nil) .nil
 ·intro w _ hlJ109 hs
  have H := hs
  replace H : F_etchhouselaw9_PanelsComeBack_J1 N p1 = some r := H
  replace hT := hT.ext hlJ109.ext
  replace leB := leB.trans hlJ109
  unfold F_etchhouselaw9_PanelsComeBack_J1 at H
  show Tr _ _ (LF [(1, (sv p1))]) (LE []) _
  refine Tr.sr ?_
  refine Tr.mv rfl rfl ?_
  obtain ⟨y110, hy110, H⟩ := bnd H
  refine Tr.callM [6, 7, 8] [emp, emp, emp] (U := (Option Addr × Nat) × (Option Addr × Nat) × (Option Addr × Nat)) (fun u => (.tuple #[(.agg #[(iv y110.1.W), (iv y110.1.H), (iv y110.1.Rail), (iv y110.1.Gap), (.slice u.1.1 (y110.1.Kinds).length u.1.2), (.slice u.2.1.1 (y110.1.Slots).length u.2.1.2), (.slice u.2.2.1 (y110.1.Marks).length u.2.2.2)]), (iv y110.2.1), (iv y110.2.2)])) (fun u => SlF u.1.1 (y110.1.Kinds).length u.1.2 ∧ SlF u.2.1.1 (y110.1.Slots).length u.2.1.2 ∧ SlF u.2.2.1 (y110.1.Marks).length u.2.2.2) (fun u => [ow u.1.1 u.1.2 49 fl_TBoardKind y110.1.Kinds, ow u.2.1.1 u.2.1.2 53 fl_TSlot y110.1.Slots, ow u.2.2.1 u.2.2.2 51 fl_TPoint y110.1.Marks]) rfl (pk_cons rfl (pk_cons rfl (pk_cons rfl pk_nil))) (fun _ => rfl) (wn rfl) rfl Tryz.call6 (evl_cons rfl evl_nil) (fun W hW hp hE => F_panel_Read_ok N (hT.ext (hW.extS hp)) p1 y110 hy110 hE) ?_
  intro u hu
  obtain ⟨⟨Ay110_0, cy110_0⟩, ⟨Ay110_1, cy110_1⟩, ⟨Ay110_2, cy110_2⟩⟩ := u
  obtain ⟨gy110_0, gy110_1, gy110_2⟩ := hu
  have hgy110_0 : SlF Ay110_0 (y110.1.Kinds).length cy110_0 := gy110_0 --@phi
  have hgy110_1 : SlF Ay110_1 (y110.1.Slots).length cy110_1 := gy110_1 --@phi
  have hgy110_2 : SlF Ay110_2 (y110.1.Marks).length cy110_2 := gy110_2 --@phi
  show Tr _ _ (uf _ 46 (.tuple #[(.agg #[(iv y110.1.W), (iv y110.1.H), (iv y110.1.Rail), (iv y110.1.Gap), (.slice Ay110_0 (y110.1.Kinds).length cy110_0), (.slice Ay110_1 (y110.1.Slots).length cy110_1), (.slice Ay110_2 (y110.1.Marks).length cy110_2)]), (iv y110.2.1), (iv y110.2.2)])) (up (up (up _ 8 (ow Ay110_2 cy110_2 51 fl_TPoint y110.1.Marks)) 7 (ow Ay110_1 cy110_1 53 fl_TSlot y110.1.Slots)) 6 (ow Ay110_0 cy110_0 49 fl_TBoardKind y110.1.Kinds)) _
  refine Tr.mv rfl rfl ?_
  refine Tr.va rfl (fun _ _ h1 h2 => run_extract (h1.ev rfl) rfl) ?_
  refine Tr.va rfl (fun _ _ h1 h2 => run_extract (h1.ev rfl) rfl) ?_
  refine Tr.va rfl (fun _ _ h1 h2 => run_extract (h1.ev rfl) rfl) ?_
  refine Tr.alloc 9 (wn rfl) rfl ze_26 fun b112 => ?_
  refine Tr.store 9 (cs := [(iv y110.1.W), (iv y110.1.H), (iv y110.1.Rail), (iv y110.1.Gap), (.slice Ay110_0 (y110.1.Kinds).length cy110_0), (.slice Ay110_1 (y110.1.Slots).length cy110_1), (.slice Ay110_2 (y110.1.Marks).length cy110_2)]) [(iv y110.1.W), (iv y110.1.H), (iv y110.1.Rail), (iv y110.1.Gap), (.slice Ay110_0 (y110.1.Kinds).length cy110_0), (.slice Ay110_1 (y110.1.Slots).length cy110_1), (.slice Ay110_2 (y110.1.Marks).length cy110_2)] (wn rfl) rfl rfl rfl rfl sz_26 rfl rfl rfl ?_
  refine Tr.asg rfl rfl ?_
  refine Tr.asg rfl rfl ?_
  refine Tr.nil (Tr.normThen ?_)
  refine Tr.seq ?_
  refine Tr.sr ?_
  refine Tr.mv rfl rfl ?_
  refine Tr.va rfl (fun _ _ h1 h2 => run_neq (h1.ev rfl) (h1.ev rfl)) ?_
  refine Tr.nil (Tr.normThen ?_)
  refine Tr.cond rfl H (fun H => ?_) (fun H => ?_)
  ·refine Tr.sr ?_
   refine Tr.va rfl (fun _ _ h1 h2 => run_fieldAddr fo_26_0 (h1.ev rfl)) ?_
   refine Tr.va rfl (fun _ _ h1 h2 => run_load1 ag_3 (h1.ev rfl) (rdb h2 (vs := [(iv y110.1.W), (iv y110.1.H), (iv y110.1.Rail), (iv y110.1.Gap), (.slice Ay110_0 (y110.1.Kinds).length cy110_0), (.slice Ay110_1 (y110.1.Slots).length cy110_1), (.slice Ay110_2 (y110.1.Marks).length cy110_2)]) (k := 9) rfl 0) rfl) ?_
   refine Tr.va rfl (fun _ _ h1 h2 => run_eql (h1.ev rfl) (h1.ev rfl)) ?_
   refine Tr.mv rfl rfl ?_
   obtain ⟨g114, hg114, H⟩ := bnd H
   refine Tr.mid0 2 [(57, (.bool g114))] [(6, ow Ay110_0 cy110_0 49 fl_TBoardKind y110.1.Kinds), (7, ow Ay110_1 cy110_1 53 fl_TSlot y110.1.Slots), (8, ow Ay110_2 cy110_2 51 fl_TPoint y110.1.Marks), (9, bx b112 #[(iv y110.1.W), (iv y110.1.H), (iv y110.1.Rail), (iv y110.1.Gap), (.slice Ay110_0 (y110.1.Kinds).length cy110_0), (.slice Ay110_1 (y110.1.Slots).length cy110_1), (.slice Ay110_2 (y110.1.Marks).length cy110_2)] 26)] ?_ ?_
   ·cases hg115 : (y110.1.W == 0)
    ·rw [hg115] at hg114
     rw [if_neg (by decide)] at hg114
     have H := hg114
     obtain rfl := Option.some.inj H
     refine Tr.pass rfl rfl rfl rfl rfl (by decide) ?_
     refine Tr.va rfl (fun _ _ h1 h2 => run_pickF (h1.ev rfl) (h1.ev rfl)) ?_
     exact Tr.nil (Tr.fin0 (.cons rfl .nil) (.cons rfl (.cons rfl (.cons rfl (.cons rfl .nil)))))
    ·rw [hg115] at hg114
     rw [if_pos rfl] at hg114
     have H := hg114
     obtain ⟨y115, hy115, H⟩ := bnd H
     refine Tr.call0 (r := (.bool y115)) (wg rfl rfl rfl) rfl Tryz.call8 evl_nil (fun W hW => F_etchhouselaw9_awake_ok N y115 hy115 (HF.start _)) ?_
     refine Tr.va rfl (fun _ _ h1 h2 => run_pickT (h1.ev rfl) (h1.ev rfl)) ?_
     obtain rfl := Option.some.inj H
     exact Tr.nil (Tr.fin0 (.cons rfl .nil) (.cons rfl (.cons rfl (.cons rfl (.cons rfl .nil)))))
   ·show Tr _ _ (LF [(57, (.bool g114))]) (LE [(6, ow Ay110_0 cy110_0 49 fl_TBoardKind y110.1.Kinds), (7, ow Ay110_1 cy110_1 53 fl_TSlot y110.1.Slots), (8, ow Ay110_2 cy110_2 51 fl_TPoint y110.1.Marks), (9, bx b112 #[(iv y110.1.W), (iv y110.1.H), (iv y110.1.Rail), (iv y110.1.Gap), (.slice Ay110_0 (y110.1.Kinds).length cy110_0), (.slice Ay110_1 (y110.1.Slots).length cy110_1), (.slice Ay110_2 (y110.1.Marks).length cy110_2)] 26)]) _
    refine Tr.asg rfl rfl ?_
    refine Tr.nil (Tr.normThen ?_)
    refine Tr.ret (Tr.retThen ?_)
    obtain rfl := Option.some.inj H
    exact Tr.out (m := [(.bool g114)]) [] (res_tmp rfl res_nil) (fun W hW => ⟨rfl, hW.low leB⟩)
  ·refine Tr.skip (Tr.normThen ?_)
   refine Tr.sr ?_
   refine Tr.va rfl (fun _ _ h1 h2 => run_loadN (cs := [(iv y110.1.W), (iv y110.1.H), (iv y110.1.Rail), (iv y110.1.Gap), (.slice Ay110_0 (y110.1.Kinds).length cy110_0), (.slice Ay110_1 (y110.1.Slots).length cy110_1), (.slice Ay110_2 (y110.1.Marks).length cy110_2)]) ag_26 sz_26 (h1.ev rfl) (CellsAt.take (rdb h2 (vs := [(iv y110.1.W), (iv y110.1.H), (iv y110.1.Rail), (iv y110.1.Gap), (.slice Ay110_0 (y110.1.Kinds).length cy110_0), (.slice Ay110_1 (y110.1.Slots).length cy110_1), (.slice Ay110_2 (y110.1.Marks).length cy110_2)]) (k := 9) rfl 0) 7) rfl) ?_
   obtain ⟨y116, hy116, H⟩ := bnd H
   refine Tr.call0 (r := (.tuple #[(sv y116.1), (iv y116.2)])) (wn rfl) rfl Tryz.call5 (evl_cons rfl evl_nil) (fun W hW => F_panel_Text_ok N (hT.ext hW.extAll) y110.1 Ay110_0 cy110_0 (hW.slCall (k := 6) rfl) Ay110_1 cy110_1 (hW.slCall (k := 7) rfl) Ay110_2 cy110_2 (hW.slCall (k := 8) rfl) y116 hy116 (HF.start _)) ?_
   refine Tr.mv rfl rfl ?_
   refine Tr.va rfl (fun _ _ h1 h2 => run_extract (h1.ev rfl) rfl) ?_
   refine Tr.va rfl (fun _ _ h1 h2 => run_extract (h1.ev rfl) rfl) ?_
   refine Tr.asg rfl rfl ?_
   refine Tr.asg rfl rfl ?_
   refine Tr.nil (Tr.normThen ?_)
   refine Tr.sr ?_
   refine Tr.mv rfl rfl ?_
   refine Tr.va rfl (fun _ _ h1 h2 => run_eql (h1.ev rfl) (h1.ev rfl)) ?_
   refine Tr.mv rfl rfl ?_
   refine Tr.mid0 4 [(69, (.bool ((y116.2 == 0) && (sEq y116.1 p1))))] [(6, ow Ay110_0 cy110_0 49 fl_TBoardKind y110.1.Kinds), (7, ow Ay110_1 cy110_1 53 fl_TSlot y110.1.Slots), (8, ow Ay110_2 cy110_2 51 fl_TPoint y110.1.Marks), (9, bx b112 #[(iv y110.1.W), (iv y110.1.H), (iv y110.1.Rail), (iv y110.1.Gap), (.slice Ay110_0 (y110.1.Kinds).length cy110_0), (.slice Ay110_1 (y110.1.Slots).length cy110_1), (.slice Ay110_2 (y110.1.Marks).length cy110_2)] 26)] ?_ ?_
   ·cases hg119 : (y116.2 == 0)
    ·refine Tr.pass rfl rfl rfl rfl rfl (by decide) ?_
     refine Tr.pass rfl rfl rfl rfl rfl (by decide) ?_
     refine Tr.pass rfl rfl rfl rfl rfl (by decide) ?_
     refine Tr.va rfl (fun _ _ h1 h2 => run_pickF (h1.ev rfl) (h1.ev rfl)) ?_
     exact Tr.nil (Tr.fin0 (.cons rfl .nil) (.cons rfl (.cons rfl (.cons rfl (.cons rfl .nil)))))
    ·refine Tr.val (wg rfl rfl rfl) rfl (fun _ _ h1 h2 => run_move (h1.ev rfl)) ?_
     refine Tr.val (wg rfl rfl rfl) rfl (fun _ _ h1 h2 => run_move (h1.ev rfl)) ?_
     refine Tr.val (wg rfl rfl rfl) rfl (fun _ _ h1 h2 => run_eqlS (h1.ev rfl) (h1.ev rfl)) ?_
     refine Tr.va rfl (fun _ _ h1 h2 => run_pickT (h1.ev rfl) (h1.ev rfl)) ?_
     exact Tr.nil (Tr.fin0 (.cons rfl .nil) (.cons rfl (.cons rfl (.cons rfl (.cons rfl .nil)))))
   ·show Tr _ _ (LF [(69, (.bool ((y116.2 == 0) && (sEq y116.1 p1))))]) (LE [(6, ow Ay110_0 cy110_0 49 fl_TBoardKind y110.1.Kinds), (7, ow Ay110_1 cy110_1 53 fl_TSlot y110.1.Slots), (8, ow Ay110_2 cy110_2 51 fl_TPoint y110.1.Marks), (9, bx b112 #[(iv y110.1.W), (iv y110.1.H), (iv y110.1.Rail), (iv y110.1.Gap), (.slice Ay110_0 (y110.1.Kinds).length cy110_0), (.slice Ay110_1 (y110.1.Slots).length cy110_1), (.slice Ay110_2 (y110.1.Marks).length cy110_2)] 26)]) _
    refine Tr.mv rfl rfl ?_
    obtain ⟨g118, hg118, H⟩ := bnd H
    refine Tr.mid0 2 [(72, (.bool g118))] [(6, ow Ay110_0 cy110_0 49 fl_TBoardKind y110.1.Kinds), (7, ow Ay110_1 cy110_1 53 fl_TSlot y110.1.Slots), (8, ow Ay110_2 cy110_2 51 fl_TPoint y110.1.Marks), (9, bx b112 #[(iv y110.1.W), (iv y110.1.H), (iv y110.1.Rail), (iv y110.1.Gap), (.slice Ay110_0 (y110.1.Kinds).length cy110_0), (.slice Ay110_1 (y110.1.Slots).length cy110_1), (.slice Ay110_2 (y110.1.Marks).length cy110_2)] 26)] ?_ ?_
    ·cases hg119 : ((y116.2 == 0) && (sEq y116.1 p1))
     ·rw [hg119] at hg118
      rw [if_neg (by decide)] at hg118
      have H := hg118
      obtain rfl := Option.some.inj H
      refine Tr.pass rfl rfl rfl rfl rfl (by decide) ?_
      refine Tr.va rfl (fun _ _ h1 h2 => run_pickF (h1.ev rfl) (h1.ev rfl)) ?_
      exact Tr.nil (Tr.fin0 (.cons rfl .nil) (.cons rfl (.cons rfl (.cons rfl (.cons rfl .nil)))))
     ·rw [hg119] at hg118
      rw [if_pos rfl] at hg118
      have H := hg118
      obtain ⟨y119, hy119, H⟩ := bnd H
      refine Tr.call0 (r := (.bool y119)) (wg rfl rfl rfl) rfl Tryz.call8 evl_nil (fun W hW => F_etchhouselaw9_awake_ok N y119 hy119 (HF.start _)) ?_
      refine Tr.va rfl (fun _ _ h1 h2 => run_pickT (h1.ev rfl) (h1.ev rfl)) ?_
      obtain rfl := Option.some.inj H
      exact Tr.nil (Tr.fin0 (.cons rfl .nil) (.cons rfl (.cons rfl (.cons rfl (.cons rfl .nil)))))
    ·show Tr _ _ (LF [(72, (.bool g118))]) (LE [(6, ow Ay110_0 cy110_0 49 fl_TBoardKind y110.1.Kinds), (7, ow Ay110_1 cy110_1 53 fl_TSlot y110.1.Slots), (8, ow Ay110_2 cy110_2 51 fl_TPoint y110.1.Marks), (9, bx b112 #[(iv y110.1.W), (iv y110.1.H), (iv y110.1.Rail), (iv y110.1.Gap), (.slice Ay110_0 (y110.1.Kinds).length cy110_0), (.slice Ay110_1 (y110.1.Slots).length cy110_1), (.slice Ay110_2 (y110.1.Marks).length cy110_2)] 26)]) _
     refine Tr.asg rfl rfl ?_
     refine Tr.nil (Tr.normThen ?_)
     refine Tr.ret ?_
     obtain rfl := Option.some.inj H
     exact Tr.out (m := [(.bool g118)]) [] (res_tmp rfl res_nil) (fun W hW => ⟨rfl, hW.low leB⟩)

theorem F_etchhouseref3_Words_ok (N : Nat) {w : Bs} (hT : Tab Tryz.prog w) (p0 : ByteArray) (r : ((List ByteArray) × Bool)) (H : F_etchhouseref3_Words N p0 = some r) (hE : HF w w.W (LEn [emp])) : Calls Tryz.prog 39 [(sv p0)].toArray w.W fun e W' => ∃ u : (Option Addr × Nat), e = .returned (.tuple #[(.slice u.1 (r.1).length u.2), (.bool r.2)]) ∧ (SlF u.1 (r.1).length u.2) ∧ HF w W' (LEn [ow u.1 u.2 9 fl_str r.1]) := by
 unfold F_etchhouseref3_Words at H
 have leB := Bs.Le.refl w
 refine Tr.enter (n := 46) Tryz.func39 rfl rfl rfl hE ?_
 refine Tr.sr ?_
 refine Tr.asg rfl rfl ?_
 refine Tr.nilOwn 1 9 fl_str ?_
 show Tr _ _ (uf _ 2 (.slice none (([] : List ByteArray)).length 0)) _ _
 refine Tr.asg rfl rfl ?_
 refine Tr.nil (Tr.normThen ?_)
 refine Tr.sr ?_
 refine Tr.mv rfl rfl ?_
 obtain ⟨y100, hy100, H⟩ := bnd H
 refine Tr.callM [2] [emp] (U := (Option Addr × Nat)) (fun u => (.slice u.1 (y100).length u.2)) (fun u => SlF u.1 (y100).length u.2) (fun u => [ow u.1 u.2 9 fl_str y100]) rfl (pk_cons rfl pk_nil) (fun _ => rfl) (wn rfl) rfl Tryz.call28 (evl_cons rfl (evl_cons rfl evl_nil)) (fun W hW hp hE => F_strings_Split_ok (hT.ext (hW.extS hp)) p0 (⟨#[32]⟩) y100 hy100 hE) ?_
 intro u hu
 obtain ⟨Ay100_0, cy100_0⟩ := u
 have gy100_0 := hu
 have hgy100_0 : SlF Ay100_0 (y100).length cy100_0 := gy100_0 --@phi
 show Tr _ _ (uf _ 8 (.slice Ay100_0 (y100).length cy100_0)) (up _ 2 (ow Ay100_0 cy100_0 9 fl_str y100)) _
 refine Tr.asg rfl rfl ?_
 refine Tr.nil (Tr.normThen ?_)
 refine Tr.seq ?_
 refine Tr.sr ?_
 refine Tr.asg rfl rfl ?_
 refine Tr.nil (Tr.normThen ?_)
 refine Tr.block ?_
 refine Tr.loop (σ := Int) (fun m w s => F_etchhouseref3_Words_L3 N y100 m s = some r) (fun s => [(4, (.slice Ay100_0 (y100).length cy100_0)), (5, (iv s))]) (fun s => [(2, ow Ay100_0 cy100_0 9 fl_str y100)]) N 0 H (.cons rfl (.cons rfl .nil)) (.cons rfl .nil) (fun _ _ h => noSome (h)) ?_
 intro w leL3 mL3 x163 hs
 have H := hs
 replace H : F_etchhouseref3_Words_L3 N y100 (mL3 + 1) x163 = some r := H
 replace hT := hT.ext leL3.ext
 replace leB := leB.trans leL3
 rw [F_etchhouseref3_Words_L3.eq_2] at H
 show Tr _ _ (LF [(4, (.slice Ay100_0 (y100).length cy100_0)), (5, (iv x163))]) (LE [(2, ow Ay100_0 cy100_0 9 fl_str y100)]) _
 refine Tr.seq ?_
 refine Tr.sr ?_
 refine Tr.mv rfl rfl ?_
 refine Tr.mv rfl rfl ?_
 refine Tr.va rfl (fun _ _ h1 h2 => run_len un_40 (h1.ev rfl)) ?_
 refine Tr.va rfl (fun _ _ h1 h2 => run_lss (h1.ev rfl) (h1.ev rfl)) ?_
 refine Tr.nil (Tr.normThen ?_)
 refine Tr.cond rfl H (fun H => ?_) (fun H => ?_)
 ·refine Tr.skip (Tr.normThen ?_)
  refine Tr.seq ?_
  refine Tr.block ?_
  refine Tr.seq ?_
  refine Tr.sr ?_
  refine Tr.mv rfl rfl ?_
  refine Tr.mv rfl rfl ?_
  obtain ⟨x164, hx164, H⟩ := bnd H
  obtain ⟨hx1640, hx1641, hx1642⟩ := idx_some hx164
  refine Tr.va rfl (fun _ _ h1 h2 => run_indexAddr el_40 (h1.ev rfl) hgy100_0 (h1.ev rfl) hx1640 hx1641) ?_
  refine Tr.va rfl (fun _ _ h1 h2 => run_load1 ag_9 (h1.ev rfl) (rdo ef_str (k := 2) h2 rfl hx1642) rfl) ?_
  refine Tr.va rfl (fun _ _ h1 h2 => run_eqlS (h1.ev rfl) (h1.ev rfl)) ?_
  refine Tr.nil (Tr.normThen ?_)
  refine Tr.cond rfl H (fun H => ?_) (fun H => ?_)
  ·refine Tr.sr ?_
   refine Tr.asg rfl rfl ?_
   refine Tr.nilOwn 11 9 fl_str ?_
   show Tr _ _ (uf _ 2 (.slice none (([] : List ByteArray)).length 0)) _ _
   refine Tr.asg rfl rfl ?_
   refine Tr.nil (Tr.normThen ?_)
   refine Tr.ret (Tr.retThen (Tr.retBlock (Tr.retThen (Tr.retThen (Tr.retBlock (Tr.retThen ?_))))))
   obtain rfl := Option.some.inj H
   exact Tr.out (m := [(.slice none (([] : List ByteArray)).length 0), (.bool false)]) [] (res_tmp rfl (res_tmp rfl res_nil)) (fun W hW => ⟨(none, 0), rfl, slf_nil, HF.lowE leB (hW.pick (ks := [11]) (by decide) (pk_cons rfl pk_nil)) ⟨ow_any _ _ _ _ tr_str, trivial⟩⟩)
  ·refine Tr.skip (Tr.normThen ?_)
   refine Tr.sr ?_
   refine Tr.asg rfl rfl ?_
   refine Tr.nil (Tr.normThen ?_)
   refine Tr.block ?_
   refine Tr.loop (σ := Int) (fun m w s => F_etchhouseref3_Words_L4 y100 x163 (F_etchhouseref3_Words_L3 N y100 mL3) m s = some r) (fun s => [(4, (.slice Ay100_0 (y100).length cy100_0)), (5, (iv x163)), (6, (iv s))]) (fun s => [(2, ow Ay100_0 cy100_0 9 fl_str y100)]) N 0 H (.cons rfl (.cons rfl (.cons rfl .nil))) (.cons rfl .nil) (fun _ _ h => noSome (h)) ?_
   intro w leL4 mL4 x184 hs
   have H := hs
   replace H : F_etchhouseref3_Words_L4 y100 x163 (F_etchhouseref3_Words_L3 N y100 mL3) (mL4 + 1) x184 = some r := H
   replace hT := hT.ext leL4.ext
   replace leB := leB.trans leL4
   replace leL3 := leL3.trans leL4
   rw [F_etchhouseref3_Words_L4.eq_2] at H
   show Tr _ _ (LF [(4, (.slice Ay100_0 (y100).length cy100_0)), (5, (iv x163)), (6, (iv x184))]) (LE [(2, ow Ay100_0 cy100_0 9 fl_str y100)]) _
   refine Tr.seq ?_
   refine Tr.sr ?_
   refine Tr.mv rfl rfl ?_
   refine Tr.mv rfl rfl ?_
   refine Tr.mv rfl rfl ?_
   obtain ⟨x185, hx185, H⟩ := bnd H
   obtain ⟨hx1850, hx1851, hx1852⟩ := idx_some hx185
   refine Tr.va rfl (fun _ _ h1 h2 => run_indexAddr el_40 (h1.ev rfl) hgy100_0 (h1.ev rfl) hx1850 hx1851) ?_
   refine Tr.va rfl (fun _ _ h1 h2 => run_load1 ag_9 (h1.ev rfl) (rdo ef_str (k := 2) h2 rfl hx1852) rfl) ?_
   refine Tr.va rfl (fun _ _ h1 h2 => run_lenS un_9 (h1.ev rfl)) ?_
   refine Tr.va rfl (fun _ _ h1 h2 => run_lss (h1.ev rfl) (h1.ev rfl)) ?_
   refine Tr.nil (Tr.normThen ?_)
   refine Tr.cond rfl H (fun H => ?_) (fun H => ?_)
   ·refine Tr.skip (Tr.normThen ?_)
    refine Tr.seq ?_
    refine Tr.block ?_
    refine Tr.sr ?_
    refine Tr.mv rfl rfl ?_
    refine Tr.mv rfl rfl ?_
    obtain ⟨x186, hx186, H⟩ := bnd H
    obtain ⟨hx1860, hx1861, hx1862⟩ := idx_some hx186
    refine Tr.va rfl (fun _ _ h1 h2 => run_indexAddr el_40 (h1.ev rfl) hgy100_0 (h1.ev rfl) hx1860 hx1861) ?_
    refine Tr.va rfl (fun _ _ h1 h2 => run_load1 ag_9 (h1.ev rfl) (rdo ef_str (k := 2) h2 rfl hx1862) rfl) ?_
    refine Tr.mv rfl rfl ?_
    obtain ⟨c187, hc187, H⟩ := bnd H
    refine Tr.va rfl (fun _ _ h1 h2 => run_indexS un_9 (h1.ev rfl) (h1.ev rfl) hc187) ?_
    refine Tr.va rfl (fun _ _ h1 h2 => run_lss (h1.ev rfl) (h1.ev rfl)) ?_
    refine Tr.mv rfl rfl ?_
    obtain ⟨g190, hg190, H⟩ := bnd H
    refine Tr.mid0 8 [(4, (.slice Ay100_0 (y100).length cy100_0)), (5, (iv x163)), (6, (iv x184)), (44, (.bool g190))] [(2, ow Ay100_0 cy100_0 9 fl_str y100)] ?_ ?_
    ·cases hg192 : (decide (c187 < 33))
     ·rw [hg192] at hg190
      rw [if_neg (by decide)] at hg190
      have H := hg190
      refine Tr.val (wg rfl rfl rfl) rfl (fun _ _ h1 h2 => run_move (h1.ev rfl)) ?_
      refine Tr.val (wg rfl rfl rfl) rfl (fun _ _ h1 h2 => run_move (h1.ev rfl)) ?_
      obtain ⟨x191, hx191, H⟩ := bnd H
      obtain ⟨hx1910, hx1911, hx1912⟩ := idx_some hx191
      refine Tr.val (wg rfl rfl rfl) rfl (fun _ _ h1 h2 => run_indexAddr el_40 (h1.ev rfl) hgy100_0 (h1.ev rfl) hx1910 hx1911) ?_
      refine Tr.val (wg rfl rfl rfl) rfl (fun _ _ h1 h2 => run_load1 ag_9 (h1.ev rfl) (rdo ef_str (k := 2) h2 rfl hx1912) rfl) ?_
      refine Tr.val (wg rfl rfl rfl) rfl (fun _ _ h1 h2 => run_move (h1.ev rfl)) ?_
      obtain ⟨c192, hc192, H⟩ := bnd H
      refine Tr.val (wg rfl rfl rfl) rfl (fun _ _ h1 h2 => run_indexS un_9 (h1.ev rfl) (h1.ev rfl) hc192) ?_
      refine Tr.val (wg rfl rfl rfl) rfl (fun _ _ h1 h2 => run_gtr (h1.ev rfl) (h1.ev rfl)) ?_
      refine Tr.va rfl (fun _ _ h1 h2 => run_pickF (h1.ev rfl) (h1.ev rfl)) ?_
      obtain rfl := Option.some.inj H
      exact Tr.nil (Tr.fin0 (.cons rfl (.cons rfl (.cons rfl (.cons rfl .nil)))) (.cons rfl .nil))
     ·rw [hg192] at hg190
      rw [if_pos rfl] at hg190
      have H := hg190
      obtain rfl := Option.some.inj H
      refine Tr.pass rfl rfl rfl rfl rfl (by decide) ?_
      refine Tr.pass rfl rfl rfl rfl rfl (by decide) ?_
      refine Tr.pass rfl rfl rfl rfl rfl (by decide) ?_
      refine Tr.pass rfl rfl rfl rfl rfl (by decide) ?_
      refine Tr.pass rfl rfl rfl rfl rfl (by decide) ?_
      refine Tr.pass rfl rfl rfl rfl rfl (by decide) ?_
      refine Tr.pass rfl rfl rfl rfl rfl (by decide) ?_
      refine Tr.va rfl (fun _ _ h1 h2 => run_pickT (h1.ev rfl) (h1.ev rfl)) ?_
      exact Tr.nil (Tr.fin0 (.cons rfl (.cons rfl (.cons rfl (.cons rfl .nil)))) (.cons rfl .nil))
    ·show Tr _ _ (LF [(4, (.slice Ay100_0 (y100).length cy100_0)), (5, (iv x163)), (6, (iv x184)), (44, (.bool g190))]) (LE [(2, ow Ay100_0 cy100_0 9 fl_str y100)]) _
     refine Tr.nil (Tr.normThen ?_)
     refine Tr.cond rfl H (fun H => ?_) (fun H => ?_)
     ·refine Tr.sr ?_
      refine Tr.asg rfl rfl ?_
      refine Tr.nilOwn 14 9 fl_str ?_
      show Tr _ _ (uf _ 2 (.slice none (([] : List ByteArray)).length 0)) _ _
      refine Tr.asg rfl rfl ?_
      refine Tr.nil (Tr.normThen ?_)
      refine Tr.ret (Tr.retBlock (Tr.retThen (Tr.retThen (Tr.retBlock (Tr.retBlock (Tr.retThen (Tr.retThen (Tr.retBlock (Tr.retThen ?_)))))))))
      obtain rfl := Option.some.inj H
      exact Tr.out (m := [(.slice none (([] : List ByteArray)).length 0), (.bool false)]) [] (res_tmp rfl (res_tmp rfl res_nil)) (fun W hW => ⟨(none, 0), rfl, slf_nil, HF.lowE leB (hW.pick (ks := [14]) (by decide) (pk_cons rfl pk_nil)) ⟨ow_any _ _ _ _ tr_str, trivial⟩⟩)
     ·refine Tr.skip (Tr.normBlock (Tr.normThen ?_))
      refine Tr.region ?_
      refine Tr.mv rfl rfl ?_
      refine Tr.va rfl (fun _ _ h1 h2 => run_add (h1.ev rfl) (h1.ev rfl)) ?_
      refine Tr.asg rfl rfl ?_
      refine Tr.nil ?_
      exact Tr.backThen leL4 (w64 (x184 + 1)) H (.cons rfl (.cons rfl (.cons rfl .nil))) (.cons rfl .nil)
   ·refine Tr.exit (Tr.exitThen (Tr.exitThen (Tr.exitBlock (Tr.normBlock (Tr.normThen ?_)))))
    refine Tr.region ?_
    refine Tr.mv rfl rfl ?_
    refine Tr.va rfl (fun _ _ h1 h2 => run_add (h1.ev rfl) (h1.ev rfl)) ?_
    refine Tr.asg rfl rfl ?_
    refine Tr.nil ?_
    exact Tr.backThen leL3 (w64 (x163 + 1)) H (.cons rfl (.cons rfl .nil)) (.cons rfl .nil)
 ·refine Tr.exit (Tr.exitThen (Tr.exitThen (Tr.exitBlock (Tr.normThen ?_))))
  refine Tr.sr ?_
  refine Tr.mv rfl rfl ?_
  refine Tr.asg rfl rfl ?_
  refine Tr.asg rfl rfl ?_
  refine Tr.nil (Tr.normThen ?_)
  refine Tr.ret ?_
  obtain rfl := Option.some.inj H
  exact Tr.out (m := [(.slice Ay100_0 (y100).length cy100_0), (.bool true)]) [] (res_tmp rfl (res_tmp rfl res_nil)) (fun W hW => ⟨(Ay100_0, cy100_0), rfl, hgy100_0, HF.lowE leB (hW.pick (ks := [2]) (by decide) (pk_cons rfl pk_nil)) ⟨ow_any _ _ _ _ tr_str, trivial⟩⟩)

theorem F_stringslite_CutPrefix_ok {w : Bs} (p0 : ByteArray) (p1 : ByteArray) (r : (ByteArray × Bool)) (H : F_stringslite_CutPrefix p0 p1 = some r) (hE : HF w w.W E0) : Calls Tryz.prog 114 [(sv p0), (sv p1)].toArray w.W fun e W' => e = .returned (.tuple #[(sv r.1), (.bool r.2)]) ∧ HF w W' E0 := by
 unfold F_stringslite_CutPrefix at H
 have leB := Bs.Le.refl w
 refine Tr.enter (n := 15) Tryz.func114 rfl rfl rfl hE ?_
 refine Tr.sr ?_
 refine Tr.asg rfl rfl ?_
 refine Tr.asg rfl rfl ?_
 refine Tr.nil (Tr.normThen ?_)
 refine Tr.seq ?_
 refine Tr.sr ?_
 refine Tr.mv rfl rfl ?_
 refine Tr.mv rfl rfl ?_
 obtain ⟨y100, hy100, H⟩ := bnd H
 refine Tr.call0 (r := (.bool y100)) (wn rfl) rfl Tryz.call118 (evl_cons rfl (evl_cons rfl evl_nil)) (fun W hW => F_stringslite_HasPrefix_ok p0 p1 y100 hy100 (HF.start _)) ?_
 refine Tr.va rfl (fun _ _ h1 h2 => run_not (h1.ev rfl)) ?_
 refine Tr.nil (Tr.normThen ?_)
 refine Tr.cond rfl H (fun H => ?_) (fun H => ?_)
 ·refine Tr.sr ?_
  refine Tr.mv rfl rfl ?_
  refine Tr.asg rfl rfl ?_
  refine Tr.asg rfl rfl ?_
  refine Tr.nil (Tr.normThen ?_)
  refine Tr.ret (Tr.retThen ?_)
  obtain rfl := Option.some.inj H
  exact Tr.out (m := [(sv p0), (.bool false)]) [] (res_tmp rfl (res_tmp rfl res_nil)) (fun W hW => ⟨rfl, hW.low leB⟩)
 ·refine Tr.skip (Tr.normThen ?_)
  refine Tr.sr ?_
  refine Tr.mv rfl rfl ?_
  refine Tr.mv rfl rfl ?_
  refine Tr.va rfl (fun _ _ h1 h2 => run_lenS un_9 (h1.ev rfl)) ?_
  obtain ⟨t101, ht101, H⟩ := bnd H
  refine Tr.va rfl (fun _ _ h1 h2 => run_cutSL un_9 (h1.ev rfl) (h1.ev rfl) ht101) ?_
  refine Tr.asg rfl rfl ?_
  refine Tr.asg rfl rfl ?_
  refine Tr.nil (Tr.normThen ?_)
  refine Tr.ret ?_
  obtain rfl := Option.some.inj H
  exact Tr.out (m := [(sv t101), (.bool true)]) [] (res_tmp rfl (res_tmp rfl res_nil)) (fun W hW => ⟨rfl, hW.low leB⟩)

theorem F_strings_CutPrefix_ok {w : Bs} (p0 : ByteArray) (p1 : ByteArray) (r : (ByteArray × Bool)) (H : F_strings_CutPrefix p0 p1 = some r) (hE : HF w w.W E0) : Calls Tryz.prog 89 [(sv p0), (sv p1)].toArray w.W fun e W' => e = .returned (.tuple #[(sv r.1), (.bool r.2)]) ∧ HF w W' E0 := by
 unfold F_strings_CutPrefix at H
 have leB := Bs.Le.refl w
 refine Tr.enter (n := 11) Tryz.func89 rfl rfl rfl hE ?_
 refine Tr.sr ?_
 refine Tr.asg rfl rfl ?_
 refine Tr.asg rfl rfl ?_
 refine Tr.nil (Tr.normThen ?_)
 refine Tr.sr ?_
 refine Tr.mv rfl rfl ?_
 refine Tr.mv rfl rfl ?_
 obtain ⟨y100, hy100, H⟩ := bnd H
 refine Tr.call0 (r := (.tuple #[(sv y100.1), (.bool y100.2)])) (wn rfl) rfl Tryz.call114 (evl_cons rfl (evl_cons rfl evl_nil)) (fun W hW => F_stringslite_CutPrefix_ok p0 p1 y100 hy100 (HF.start _)) ?_
 refine Tr.va rfl (fun _ _ h1 h2 => run_extract (h1.ev rfl) rfl) ?_
 refine Tr.va rfl (fun _ _ h1 h2 => run_extract (h1.ev rfl) rfl) ?_
 refine Tr.asg rfl rfl ?_
 refine Tr.asg rfl rfl ?_
 refine Tr.nil (Tr.normThen ?_)
 refine Tr.ret ?_
 obtain rfl := Option.some.inj H
 exact Tr.out (m := [(sv y100.1), (.bool y100.2)]) [] (res_tmp rfl (res_tmp rfl res_nil)) (fun W hW => ⟨rfl, hW.low leB⟩)

theorem F_etchhouseref3_within_ok {w : Bs} (p0 : Int) (p1 : Int) (p2 : Int) (r : Bool) (H : F_etchhouseref3_within p0 p1 p2 = some r) (hE : HF w w.W E0) : Calls Tryz.prog 58 [(iv p0), (iv p1), (iv p2)].toArray w.W fun e W' => e = .returned (.bool r) ∧ HF w W' E0 := by
 unfold F_etchhouseref3_within at H
 have leB := Bs.Le.refl w
 refine Tr.enter (n := 15) Tryz.func58 rfl rfl rfl hE ?_
 refine Tr.sr ?_
 refine Tr.asg rfl rfl ?_
 refine Tr.nil (Tr.normThen ?_)
 refine Tr.sr ?_
 refine Tr.mv rfl rfl ?_
 refine Tr.mv rfl rfl ?_
 refine Tr.va rfl (fun _ _ h1 h2 => run_geq (h1.ev rfl) (h1.ev rfl)) ?_
 refine Tr.mv rfl rfl ?_
 refine Tr.mid0 4 [(14, (.bool ((decide (p1 ≤ p0)) && (decide (p0 ≤ p2)))))] [] ?_ ?_
 ·cases hg99 : (decide (p1 ≤ p0))
  ·refine Tr.pass rfl rfl rfl rfl rfl (by decide) ?_
   refine Tr.pass rfl rfl rfl rfl rfl (by decide) ?_
   refine Tr.pass rfl rfl rfl rfl rfl (by decide) ?_
   refine Tr.va rfl (fun _ _ h1 h2 => run_pickF (h1.ev rfl) (h1.ev rfl)) ?_
   exact Tr.nil (Tr.fin0 (.cons rfl .nil) .nil)
  ·refine Tr.val (wg rfl rfl rfl) rfl (fun _ _ h1 h2 => run_move (h1.ev rfl)) ?_
   refine Tr.val (wg rfl rfl rfl) rfl (fun _ _ h1 h2 => run_move (h1.ev rfl)) ?_
   refine Tr.val (wg rfl rfl rfl) rfl (fun _ _ h1 h2 => run_leq (h1.ev rfl) (h1.ev rfl)) ?_
   refine Tr.va rfl (fun _ _ h1 h2 => run_pickT (h1.ev rfl) (h1.ev rfl)) ?_
   exact Tr.nil (Tr.fin0 (.cons rfl .nil) .nil)
 ·show Tr _ _ (LF [(14, (.bool ((decide (p1 ≤ p0)) && (decide (p0 ≤ p2)))))]) (LE []) _
  refine Tr.asg rfl rfl ?_
  refine Tr.nil (Tr.normThen ?_)
  refine Tr.ret ?_
  obtain rfl := Option.some.inj H
  exact Tr.out (m := [(.bool ((decide (p1 ≤ p0)) && (decide (p0 ≤ p2))))]) [] (res_tmp rfl res_nil) (fun W hW => ⟨rfl, hW.low leB⟩)

theorem F_etchhouseref3_Number_ok (N : Nat) {w : Bs} (p0 : ByteArray) (r : (Int × Bool)) (H : F_etchhouseref3_Number N p0 = some r) (hE : HF w w.W E0) : Calls Tryz.prog 64 [(sv p0)].toArray w.W fun e W' => e = .returned (.tuple #[(iv r.1), (.bool r.2)]) ∧ HF w W' E0 := by
 unfold F_etchhouseref3_Number at H
 have leB := Bs.Le.refl w
 refine Tr.enter (n := 53) Tryz.func64 rfl rfl rfl hE ?_
 refine Tr.sr ?_
 refine Tr.asg rfl rfl ?_
 refine Tr.asg rfl rfl ?_
 refine Tr.nil (Tr.normThen ?_)
 refine Tr.sr ?_
 refine Tr.mv rfl rfl ?_
 obtain ⟨y100, hy100, H⟩ := bnd H
 refine Tr.call0 (r := (.tuple #[(sv y100.1), (.bool y100.2)])) (wn rfl) rfl Tryz.call89 (evl_cons rfl (evl_cons rfl evl_nil)) (fun W hW => F_strings_CutPrefix_ok p0 (⟨#[45]⟩) y100 hy100 (HF.start _)) ?_
 refine Tr.mv rfl rfl ?_
 refine Tr.va rfl (fun _ _ h1 h2 => run_extract (h1.ev rfl) rfl) ?_
 refine Tr.va rfl (fun _ _ h1 h2 => run_extract (h1.ev rfl) rfl) ?_
 refine Tr.asg rfl rfl ?_
 refine Tr.asg rfl rfl ?_
 refine Tr.nil (Tr.normThen ?_)
 refine Tr.seq ?_
 refine Tr.sr ?_
 refine Tr.mv rfl rfl ?_
 refine Tr.va rfl (fun _ _ h1 h2 => run_lenS un_9 (h1.ev rfl)) ?_
 obtain ⟨y101, hy101, H⟩ := bnd H
 refine Tr.call0 (r := (.bool y101)) (wn rfl) rfl Tryz.call58 (evl_cons rfl (evl_cons rfl (evl_cons rfl evl_nil))) (fun W hW => F_etchhouseref3_within_ok (y100.1.size : Int) 1 9 y101 hy101 (HF.start _)) ?_
 refine Tr.va rfl (fun _ _ h1 h2 => run_not (h1.ev rfl)) ?_
 refine Tr.mv rfl rfl ?_
 obtain ⟨g103, hg103, H⟩ := bnd H
 refine Tr.mid0 12 [(0, (sv p0)), (4, (sv y100.1)), (30, (.bool g103))] [] ?_ ?_
 ·cases hg121 : (!y101)
  ·rw [hg121] at hg103
   rw [if_neg (by decide)] at hg103
   have H := hg103
   refine Tr.val (wg rfl rfl rfl) rfl (fun _ _ h1 h2 => run_move (h1.ev rfl)) ?_
   obtain ⟨c104, hc104, H⟩ := bnd H
   refine Tr.val (wg rfl rfl rfl) rfl (fun _ _ h1 h2 => run_indexS un_9 (h1.ev rfl) (h1.ev rfl) hc104) ?_
   refine Tr.val (wg rfl rfl rfl) rfl (fun _ _ h1 h2 => run_eql (h1.ev rfl) (h1.ev rfl)) ?_
   refine Tr.val (wg rfl rfl rfl) rfl (fun _ _ h1 h2 => run_move (h1.ev rfl)) ?_
   refine Tr.mid0 7 [(0, (sv p0)), (4, (sv y100.1)), (18, (.bool false)), (29, (.bool ((c104 == 48) && ((decide (1 < (y100.1.size : Int))) || y100.2))))] [] ?_ ?_
   ·cases hg104 : (c104 == 48)
    ·refine Tr.pass rfl rfl rfl rfl rfl (by decide) ?_
     refine Tr.pass rfl rfl rfl rfl rfl (by decide) ?_
     refine Tr.pass rfl rfl rfl rfl rfl (by decide) ?_
     refine Tr.pass rfl rfl rfl rfl rfl (by decide) ?_
     refine Tr.passU rfl rfl rfl rfl (by decide) ?_
     refine Tr.pass rfl rfl rfl rfl rfl (by decide) ?_
     refine Tr.val (wg rfl rfl rfl) rfl (fun _ _ h1 h2 => run_pickF (h1.ev rfl) (h1.ev rfl)) ?_
     exact Tr.nil (Tr.fin0 (.cons rfl (.cons rfl (.cons rfl (.cons rfl .nil)))) .nil)
    ·refine Tr.val (wg rfl rfl rfl) rfl (fun _ _ h1 h2 => run_move (h1.ev rfl)) ?_
     refine Tr.val (wg rfl rfl rfl) rfl (fun _ _ h1 h2 => run_lenS un_9 (h1.ev rfl)) ?_
     refine Tr.val (wg rfl rfl rfl) rfl (fun _ _ h1 h2 => run_gtr (h1.ev rfl) (h1.ev rfl)) ?_
     refine Tr.val (wg rfl rfl rfl) rfl (fun _ _ h1 h2 => run_move (h1.ev rfl)) ?_
     refine Tr.mid0 2 [(0, (sv p0)), (4, (sv y100.1)), (18, (.bool false)), (22, (.bool true)), (28, (.bool ((decide (1 < (y100.1.size : Int))) || y100.2)))] [] ?_ ?_
     ·cases hg104 : (decide (1 < (y100.1.size : Int)))
      ·refine Tr.val (wg rfl rfl rfl) rfl (fun _ _ h1 h2 => run_move (h1.ev rfl)) ?_
       refine Tr.val (wg rfl rfl rfl) rfl (fun _ _ h1 h2 => run_pickF (h1.ev rfl) (h1.ev rfl)) ?_
       exact Tr.nil (Tr.fin0 (.cons rfl (.cons rfl (.cons rfl (.cons rfl (.cons rfl .nil))))) .nil)
      ·refine Tr.pass rfl rfl rfl rfl rfl (by decide) ?_
       refine Tr.val (wg rfl rfl rfl) rfl (fun _ _ h1 h2 => run_pickT (h1.ev rfl) (h1.ev rfl)) ?_
       exact Tr.nil (Tr.fin0 (.cons rfl (.cons rfl (.cons rfl (.cons rfl (.cons rfl .nil))))) .nil)
     ·show Tr _ _ (LF [(0, (sv p0)), (4, (sv y100.1)), (18, (.bool false)), (22, (.bool true)), (28, (.bool ((decide (1 < (y100.1.size : Int))) || y100.2)))]) (LE []) _
      refine Tr.val (wg rfl rfl rfl) rfl (fun _ _ h1 h2 => run_pickT (h1.ev rfl) (h1.ev rfl)) ?_
      exact Tr.nil (Tr.fin0 (.cons rfl (.cons rfl (.cons rfl (.cons rfl .nil)))) .nil)
   ·show Tr _ _ (LF [(0, (sv p0)), (4, (sv y100.1)), (18, (.bool false)), (29, (.bool ((c104 == 48) && ((decide (1 < (y100.1.size : Int))) || y100.2))))]) (LE []) _
    refine Tr.va rfl (fun _ _ h1 h2 => run_pickF (h1.ev rfl) (h1.ev rfl)) ?_
    obtain rfl := Option.some.inj H
    exact Tr.nil (Tr.fin0 (.cons rfl (.cons rfl (.cons rfl .nil))) .nil)
  ·rw [hg121] at hg103
   rw [if_pos rfl] at hg103
   have H := hg103
   obtain rfl := Option.some.inj H
   refine Tr.pass rfl rfl rfl rfl rfl (by decide) ?_
   refine Tr.pass rfl rfl rfl rfl rfl (by decide) ?_
   refine Tr.pass rfl rfl rfl rfl rfl (by decide) ?_
   refine Tr.pass rfl rfl rfl rfl rfl (by decide) ?_
   refine Tr.passU rfl rfl rfl rfl (by decide) ?_
   refine Tr.passU rfl rfl rfl rfl (by decide) ?_
   refine Tr.passU rfl rfl rfl rfl (by decide) ?_
   refine Tr.passU rfl rfl rfl rfl (by decide) ?_
   refine Tr.passU rfl rfl rfl rfl (by decide) ?_
   refine Tr.passU rfl rfl rfl rfl (by decide) ?_
   refine Tr.pass rfl rfl rfl rfl rfl (by decide) ?_
   refine Tr.va rfl (fun _ _ h1 h2 => run_pickT (h1.ev rfl) (h1.ev rfl)) ?_
   exact Tr.nil (Tr.fin0 (.cons rfl (.cons rfl (.cons rfl .nil))) .nil)
 ·show Tr _ _ (LF [(0, (sv p0)), (4, (sv y100.1)), (30, (.bool g103))]) (LE []) _
  refine Tr.nil (Tr.normThen ?_)
  refine Tr.cond rfl H (fun H => ?_) (fun H => ?_)
  ·refine Tr.sr ?_
   refine Tr.asg rfl rfl ?_
   refine Tr.asg rfl rfl ?_
   refine Tr.nil (Tr.normThen ?_)
   refine Tr.ret (Tr.retThen ?_)
   obtain rfl := Option.some.inj H
   exact Tr.out (m := [(iv 0), (.bool false)]) [] (res_tmp rfl (res_tmp rfl res_nil)) (fun W hW => ⟨rfl, hW.low leB⟩)
  ·refine Tr.skip (Tr.normThen ?_)
   refine Tr.seq ?_
   refine Tr.sr ?_
   refine Tr.asg rfl rfl ?_
   refine Tr.nil (Tr.normThen ?_)
   refine Tr.block ?_
   refine Tr.loop (σ := Int) (fun m w s => F_etchhouseref3_Number_L1 p0 y100 m s = some r) (fun s => [(0, (sv p0)), (4, (sv y100.1)), (6, (iv s))]) (fun s => []) N 0 H (.cons rfl (.cons rfl (.cons rfl .nil))) .nil (fun _ _ h => noSome (h)) ?_
   intro w leL1 mL1 x116 hs
   have H := hs
   replace H : F_etchhouseref3_Number_L1 p0 y100 (mL1 + 1) x116 = some r := H
   replace leB := leB.trans leL1
   rw [F_etchhouseref3_Number_L1.eq_2] at H
   show Tr _ _ (LF [(0, (sv p0)), (4, (sv y100.1)), (6, (iv x116))]) (LE []) _
   refine Tr.seq ?_
   refine Tr.sr ?_
   refine Tr.mv rfl rfl ?_
   refine Tr.mv rfl rfl ?_
   refine Tr.va rfl (fun _ _ h1 h2 => run_lenS un_9 (h1.ev rfl)) ?_
   refine Tr.va rfl (fun _ _ h1 h2 => run_lss (h1.ev rfl) (h1.ev rfl)) ?_
   refine Tr.nil (Tr.normThen ?_)
   refine Tr.cond rfl H (fun H => ?_) (fun H => ?_)
   ·refine Tr.skip (Tr.normThen ?_)
    refine Tr.seq ?_
    refine Tr.block ?_
    refine Tr.sr ?_
    refine Tr.mv rfl rfl ?_
    refine Tr.mv rfl rfl ?_
    obtain ⟨c117, hc117, H⟩ := bnd H
    refine Tr.va rfl (fun _ _ h1 h2 => run_indexS un_9 (h1.ev rfl) (h1.ev rfl) hc117) ?_
    refine Tr.va rfl (fun _ _ h1 h2 => run_lss (h1.ev rfl) (h1.ev rfl)) ?_
    refine Tr.mv rfl rfl ?_
    obtain ⟨g119, hg119, H⟩ := bnd H
    refine Tr.mid0 5 [(0, (sv p0)), (4, (sv y100.1)), (6, (iv x116)), (46, (.bool g119))] [] ?_ ?_
    ·cases hg120 : (decide (c117 < 48))
     ·rw [hg120] at hg119
      rw [if_neg (by decide)] at hg119
      have H := hg119
      refine Tr.val (wg rfl rfl rfl) rfl (fun _ _ h1 h2 => run_move (h1.ev rfl)) ?_
      refine Tr.val (wg rfl rfl rfl) rfl (fun _ _ h1 h2 => run_move (h1.ev rfl)) ?_
      obtain ⟨c120, hc120, H⟩ := bnd H
      refine Tr.val (wg rfl rfl rfl) rfl (fun _ _ h1 h2 => run_indexS un_9 (h1.ev rfl) (h1.ev rfl) hc120) ?_
      refine Tr.val (wg rfl rfl rfl) rfl (fun _ _ h1 h2 => run_gtr (h1.ev rfl) (h1.ev rfl)) ?_
      refine Tr.va rfl (fun _ _ h1 h2 => run_pickF (h1.ev rfl) (h1.ev rfl)) ?_
      obtain rfl := Option.some.inj H
      exact Tr.nil (Tr.fin0 (.cons rfl (.cons rfl (.cons rfl (.cons rfl .nil)))) .nil)
     ·rw [hg120] at hg119
      rw [if_pos rfl] at hg119
      have H := hg119
      obtain rfl := Option.some.inj H
      refine Tr.pass rfl rfl rfl rfl rfl (by decide) ?_
      refine Tr.pass rfl rfl rfl rfl rfl (by decide) ?_
      refine Tr.pass rfl rfl rfl rfl rfl (by decide) ?_
      refine Tr.pass rfl rfl rfl rfl rfl (by decide) ?_
      refine Tr.va rfl (fun _ _ h1 h2 => run_pickT (h1.ev rfl) (h1.ev rfl)) ?_
      exact Tr.nil (Tr.fin0 (.cons rfl (.cons rfl (.cons rfl (.cons rfl .nil)))) .nil)
    ·show Tr _ _ (LF [(0, (sv p0)), (4, (sv y100.1)), (6, (iv x116)), (46, (.bool g119))]) (LE []) _
     refine Tr.nil (Tr.normThen ?_)
     refine Tr.cond rfl H (fun H => ?_) (fun H => ?_)
     ·refine Tr.sr ?_
      refine Tr.asg rfl rfl ?_
      refine Tr.asg rfl rfl ?_
      refine Tr.nil (Tr.normThen ?_)
      refine Tr.ret (Tr.retBlock (Tr.retThen (Tr.retThen (Tr.retBlock (Tr.retThen ?_)))))
      obtain rfl := Option.some.inj H
      exact Tr.out (m := [(iv 0), (.bool false)]) [] (res_tmp rfl (res_tmp rfl res_nil)) (fun W hW => ⟨rfl, hW.low leB⟩)
     ·refine Tr.skip (Tr.normBlock (Tr.normThen ?_))
      refine Tr.region ?_
      refine Tr.mv rfl rfl ?_
      refine Tr.va rfl (fun _ _ h1 h2 => run_add (h1.ev rfl) (h1.ev rfl)) ?_
      refine Tr.asg rfl rfl ?_
      refine Tr.nil ?_
      exact Tr.backThen leL1 (w64 (x116 + 1)) H (.cons rfl (.cons rfl (.cons rfl .nil))) .nil
   ·refine Tr.exit (Tr.exitThen (Tr.exitThen (Tr.exitBlock (Tr.normThen ?_))))
    refine Tr.sr ?_
    refine Tr.mv rfl rfl ?_
    obtain ⟨y121, hy121, H⟩ := bnd H
    refine Tr.call0 (r := (.tuple #[(iv y121), .nilIface])) (wn rfl) rfl Tryz.call88 (evl_cons rfl evl_nil) (fun W hW => F_strconv_Atoi_ok p0 y121 hy121 (HF.start _)) ?_
    refine Tr.mv rfl rfl ?_
    refine Tr.va rfl (fun _ _ h1 h2 => run_extract (h1.ev rfl) rfl) ?_
    refine Tr.va rfl (fun _ _ h1 h2 => run_extract (h1.ev rfl) rfl) ?_
    refine Tr.asg rfl rfl ?_
    refine Tr.asg rfl rfl ?_
    refine Tr.nil (Tr.normThen ?_)
    refine Tr.sr ?_
    refine Tr.mv rfl rfl ?_
    refine Tr.asg rfl rfl ?_
    refine Tr.asg rfl rfl ?_
    refine Tr.nil (Tr.normThen ?_)
    refine Tr.ret ?_
    obtain rfl := Option.some.inj H
    exact Tr.out (m := [(iv y121), (.bool true)]) [] (res_tmp rfl (res_tmp rfl res_nil)) (fun W hW => ⟨rfl, hW.low leB⟩)

theorem F_etchhouseref3_Numbers_ok (N : Nat) {w : Bs} (p0 : (List ByteArray)) (Ap0_0 : Option Addr) (cp0_0 : Nat) (hp0_0 : Sl w.R w.W fl_str Ap0_0 cp0_0 p0) (r : ((List Int) × Bool)) (H : F_etchhouseref3_Numbers N p0 = some r) (hE : HF w w.W (LEn [emp])) : Calls Tryz.prog 40 [(.slice Ap0_0 (p0).length cp0_0)].toArray w.W fun e W' => ∃ u : (Option Addr × Nat), e = .returned (.tuple #[(.slice u.1 (r.1).length u.2), (.bool r.2)]) ∧ (SlF u.1 (r.1).length u.2) ∧ HF w W' (LEn [ow u.1 u.2 3 fl_i64 r.1]) := by
 unfold F_etchhouseref3_Numbers at H
 have leB := Bs.Le.refl w
 refine Tr.enter (n := 29) Tryz.func40 rfl rfl rfl hE ?_
 refine Tr.sr ?_
 refine Tr.asg rfl rfl ?_
 refine Tr.nilOwn 1 3 fl_i64 ?_
 show Tr _ _ (uf _ 2 (.slice none (([] : List Int)).length 0)) _ _
 refine Tr.asg rfl rfl ?_
 refine Tr.nil (Tr.normThen ?_)
 refine Tr.sr ?_
 refine Tr.asg rfl rfl ?_
 refine Tr.nilOwn 2 3 fl_i64 ?_
 show Tr _ _ (uf _ 4 (.slice none (([] : List Int)).length 0)) _ _
 refine Tr.nil (Tr.normThen ?_)
 refine Tr.seq ?_
 refine Tr.sr ?_
 refine Tr.asg rfl rfl ?_
 refine Tr.nil (Tr.normThen ?_)
 refine Tr.block ?_
 refine Tr.loop (σ := (List Int) × Int × (Option Addr) × Nat) (fun m w s => F_etchhouseref3_Numbers_L1 N p0 m s.1 s.2.1 = some r ∧ SlF s.2.2.1 (s.1).length s.2.2.2) (fun s => [(0, (.slice Ap0_0 (p0).length cp0_0)), (4, (.slice s.2.2.1 (s.1).length s.2.2.2)), (5, (iv s.2.1))]) (fun s => [(2, ow s.2.2.1 s.2.2.2 3 fl_i64 s.1)]) N (([] : List Int), 0, none, 0) ⟨H, slf_nil⟩ (.cons rfl (.cons rfl (.cons rfl .nil))) (.cons rfl .nil) (fun _ _ h => noSome (h.1)) ?_
 intro w leL1 mL1 s hs
 obtain ⟨l114, x115, Al114, cl114⟩ := s
 obtain ⟨H, hl114⟩ := hs
 replace H : F_etchhouseref3_Numbers_L1 N p0 (mL1 + 1) l114 x115 = some r := H
 replace hp0_0 := hp0_0.leR leL1
 replace leB := leB.trans leL1
 replace hl114 : SlF Al114 (l114).length cl114 := hl114
 rw [F_etchhouseref3_Numbers_L1.eq_2] at H
 show Tr _ _ (LF [(0, (.slice Ap0_0 (p0).length cp0_0)), (4, (.slice Al114 (l114).length cl114)), (5, (iv x115))]) (LE [(2, ow Al114 cl114 3 fl_i64 l114)]) _
 refine Tr.seq ?_
 refine Tr.sr ?_
 refine Tr.mv rfl rfl ?_
 refine Tr.mv rfl rfl ?_
 refine Tr.va rfl (fun _ _ h1 h2 => run_len un_40 (h1.ev rfl)) ?_
 refine Tr.va rfl (fun _ _ h1 h2 => run_lss (h1.ev rfl) (h1.ev rfl)) ?_
 refine Tr.nil (Tr.normThen ?_)
 refine Tr.cond rfl H (fun H => ?_) (fun H => ?_)
 ·refine Tr.skip (Tr.normThen ?_)
  refine Tr.seq ?_
  refine Tr.block ?_
  refine Tr.sr ?_
  refine Tr.mv rfl rfl ?_
  refine Tr.mv rfl rfl ?_
  obtain ⟨x116, hx116, H⟩ := bnd H
  obtain ⟨hx1160, hx1161, hx1162⟩ := idx_some hx116
  refine Tr.va rfl (fun _ _ h1 h2 => run_indexAddr el_40 (h1.ev rfl) hp0_0.form (h1.ev rfl) hx1160 hx1161) ?_
  refine Tr.va rfl (fun _ _ h1 h2 => run_load1 ag_9 (h1.ev rfl) (rdF ef_str hp0_0 hx1162 h2) rfl) ?_
  obtain ⟨y117, hy117, H⟩ := bnd H
  refine Tr.call0 (r := (.tuple #[(iv y117.1), (.bool y117.2)])) (wn rfl) rfl Tryz.call64 (evl_cons rfl evl_nil) (fun W hW => F_etchhouseref3_Number_ok N x116 y117 hy117 (HF.start _)) ?_
  refine Tr.mv rfl rfl ?_
  refine Tr.va rfl (fun _ _ h1 h2 => run_extract (h1.ev rfl) rfl) ?_
  refine Tr.va rfl (fun _ _ h1 h2 => run_extract (h1.ev rfl) rfl) ?_
  refine Tr.asg rfl rfl ?_
  refine Tr.asg rfl rfl ?_
  refine Tr.nil (Tr.normThen ?_)
  refine Tr.seq ?_
  refine Tr.sr ?_
  refine Tr.mv rfl rfl ?_
  refine Tr.va rfl (fun _ _ h1 h2 => run_not (h1.ev rfl)) ?_
  refine Tr.nil (Tr.normThen ?_)
  refine Tr.cond rfl H (fun H => ?_) (fun H => ?_)
  ·refine Tr.sr ?_
   refine Tr.asg rfl rfl ?_
   refine Tr.nilOwn 7 3 fl_i64 ?_
   show Tr _ _ (uf _ 2 (.slice none (([] : List Int)).length 0)) _ _
   refine Tr.asg rfl rfl ?_
   refine Tr.nil (Tr.normThen ?_)
   refine Tr.ret (Tr.retThen (Tr.retBlock (Tr.retThen (Tr.retThen (Tr.retBlock (Tr.retThen ?_))))))
   obtain rfl := Option.some.inj H
   exact Tr.out (m := [(.slice none (([] : List Int)).length 0), (.bool false)]) [] (res_tmp rfl (res_tmp rfl res_nil)) (fun W hW => ⟨(none, 0), rfl, slf_nil, HF.lowE leB (hW.pick (ks := [7]) (by decide) (pk_cons rfl pk_nil)) ⟨ow_any _ _ _ _ tr_i64, trivial⟩⟩)
  ·refine Tr.skip (Tr.normThen ?_)
   refine Tr.region ?_
   refine Tr.mv rfl rfl ?_
   refine Tr.mv rfl rfl ?_
   refine Tr.buildSlice 8 (e := 3) (vs := [(0, (iv y117.1))]) (cs := [(iv y117.1)]) (wn rfl) rfl (evs_cons rfl evs_nil) (by kernel_rfl) fun b118 => ?_
   obtain ⟨l119, hl119, H⟩ := bnd H
   refine Tr.append 2 (t := fl_i64) (l := l114) (l2 := [y117.1]) (wn rfl) rfl rfl rfl rfl (fun W hW => ⟨[[(iv y117.1)]], (.cons ⟨(), trivial, rfl⟩ .nil), rdb hW (vs := [(iv y117.1)]) (k := 8) rfl 0⟩) un_64 sz_3 zl_3 (by decide) by_3 rfl hl119 fun Al119 cl119 hAl119 => ?_
   refine Tr.asg rfl rfl ?_
   refine Tr.nil (Tr.normBlock (Tr.normThen ?_))
   refine Tr.region ?_
   refine Tr.mv rfl rfl ?_
   refine Tr.va rfl (fun _ _ h1 h2 => run_add (h1.ev rfl) (h1.ev rfl)) ?_
   refine Tr.asg rfl rfl ?_
   refine Tr.nil ?_
   exact Tr.backThen leL1 (l119, (w64 (x115 + 1)), Al119, cl119) ⟨H, hAl119⟩ (.cons rfl (.cons rfl (.cons rfl .nil))) (.cons rfl .nil)
 ·refine Tr.exit (Tr.exitThen (Tr.exitThen (Tr.exitBlock (Tr.normThen ?_))))
  refine Tr.sr ?_
  refine Tr.mv rfl rfl ?_
  refine Tr.asg rfl rfl ?_
  refine Tr.asg rfl rfl ?_
  refine Tr.nil (Tr.normThen ?_)
  refine Tr.ret ?_
  obtain rfl := Option.some.inj H
  exact Tr.out (m := [(.slice Al114 (l114).length cl114), (.bool true)]) [] (res_tmp rfl (res_tmp rfl res_nil)) (fun W hW => ⟨(Al114, cl114), rfl, hl114, HF.lowE leB (hW.pick (ks := [2]) (by decide) (pk_cons rfl pk_nil)) ⟨ow_any _ _ _ _ tr_i64, trivial⟩⟩)

end Go.Proofs.YtmbjoffligicnaaGreatDoor
