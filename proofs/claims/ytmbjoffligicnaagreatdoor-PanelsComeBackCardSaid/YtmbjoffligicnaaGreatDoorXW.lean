/- The walks: each function computes its plain function. -/
import Derived.Test.YtmbjoffligicnaaGreatDoorXWc
namespace Go.Proofs.YtmbjoffligicnaaGreatDoor
open Go.RowKit
set_option maxRecDepth 100000
set_option maxHeartbeats 1000000
theorem F_etchhouseref9_Text_ok (N : Nat) {w : Bs} (hT : Tab Tryz.prog w) (p0 : TPanel) (Ap0_0 : Option Addr) (cp0_0 : Nat) (hp0_0 : Sl w.R w.W fl_TBoardKind Ap0_0 cp0_0 p0.Kinds) (Ap0_1 : Option Addr) (cp0_1 : Nat) (hp0_1 : Sl w.R w.W fl_TSlot Ap0_1 cp0_1 p0.Slots) (Ap0_2 : Option Addr) (cp0_2 : Nat) (hp0_2 : Sl w.R w.W fl_TPoint Ap0_2 cp0_2 p0.Marks) (r : (ByteArray × Int)) (H : F_etchhouseref9_Text N p0 = some r) (hE : HF w w.W E0) : Calls Tryz.prog 9 [(.agg #[(iv p0.W), (iv p0.H), (iv p0.Rail), (iv p0.Gap), (.slice Ap0_0 (p0.Kinds).length cp0_0), (.slice Ap0_1 (p0.Slots).length cp0_1), (.slice Ap0_2 (p0.Marks).length cp0_2)])].toArray w.W fun e W' => e = .returned (.tuple #[(sv r.1), (iv r.2)]) ∧ HF w W' E0 := by
 unfold F_etchhouseref9_Text at H
 have leB := Bs.Le.refl w
 refine Tr.enter (n := 114) Tryz.func9 rfl rfl rfl hE ?_
 refine Tr.sr ?_
 refine Tr.box 1 (cs := [(iv p0.W), (iv p0.H), (iv p0.Rail), (iv p0.Gap), (.slice Ap0_0 (p0.Kinds).length cp0_0), (.slice Ap0_1 (p0.Slots).length cp0_1), (.slice Ap0_2 (p0.Marks).length cp0_2)]) (wn rfl) rfl rfl rfl fun b100 => ?_
 refine Tr.asg rfl rfl ?_
 refine Tr.asg rfl rfl ?_
 refine Tr.nil (Tr.normThen ?_)
 refine Tr.seq ?_
 refine Tr.sr ?_
 refine Tr.va rfl (fun _ _ h1 h2 => run_loadN (cs := [(iv p0.W), (iv p0.H), (iv p0.Rail), (iv p0.Gap), (.slice Ap0_0 (p0.Kinds).length cp0_0), (.slice Ap0_1 (p0.Slots).length cp0_1), (.slice Ap0_2 (p0.Marks).length cp0_2)]) ag_26 sz_26 (h1.ev rfl) (CellsAt.take (rdb h2 (vs := [(iv p0.W), (iv p0.H), (iv p0.Rail), (iv p0.Gap), (.slice Ap0_0 (p0.Kinds).length cp0_0), (.slice Ap0_1 (p0.Slots).length cp0_1), (.slice Ap0_2 (p0.Marks).length cp0_2)]) (k := 1) rfl 0) 7) rfl) ?_
 obtain ⟨y101, hy101, H⟩ := bnd H
 refine Tr.call0 (r := (iv y101)) (wn rfl) rfl Tryz.call20 (evl_cons rfl evl_nil) (fun W hW => F_etchhouseref9_CheckPanel_ok N p0 Ap0_0 cp0_0 (hp0_0.ext hW.extAll) Ap0_1 cp0_1 (hp0_1.ext hW.extAll) Ap0_2 cp0_2 (hp0_2.ext hW.extAll) y101 hy101 (HF.start _)) ?_
 refine Tr.asg rfl rfl ?_
 refine Tr.nil (Tr.normThen ?_)
 refine Tr.sr ?_
 refine Tr.mv rfl rfl ?_
 refine Tr.va rfl (fun _ _ h1 h2 => run_neq (h1.ev rfl) (h1.ev rfl)) ?_
 refine Tr.nil (Tr.normThen ?_)
 refine Tr.cond rfl H (fun H => ?_) (fun H => ?_)
 ·refine Tr.sr ?_
  refine Tr.mv rfl rfl ?_
  refine Tr.asg rfl rfl ?_
  refine Tr.asg rfl rfl ?_
  refine Tr.nil (Tr.normThen ?_)
  refine Tr.ret (Tr.retThen ?_)
  obtain rfl := Option.some.inj H
  exact Tr.out (m := [(sv ⟨#[]⟩), (iv y101)]) [] (res_tmp rfl (res_tmp rfl res_nil)) (fun W hW => ⟨rfl, hW.low leB⟩)
 ·refine Tr.skip (Tr.normThen ?_)
  refine Tr.sr ?_
  refine Tr.va rfl (fun _ _ h1 h2 => run_fieldAddr fo_26_0 (h1.ev rfl)) ?_
  refine Tr.va rfl (fun _ _ h1 h2 => run_load1 ag_3 (h1.ev rfl) (rdb h2 (vs := [(iv p0.W), (iv p0.H), (iv p0.Rail), (iv p0.Gap), (.slice Ap0_0 (p0.Kinds).length cp0_0), (.slice Ap0_1 (p0.Slots).length cp0_1), (.slice Ap0_2 (p0.Marks).length cp0_2)]) (k := 1) rfl 0) rfl) ?_
  refine Tr.va rfl (fun _ _ h1 h2 => run_fieldAddr fo_26_1 (h1.ev rfl)) ?_
  refine Tr.va rfl (fun _ _ h1 h2 => run_load1 ag_3 (h1.ev rfl) (rdb h2 (vs := [(iv p0.W), (iv p0.H), (iv p0.Rail), (iv p0.Gap), (.slice Ap0_0 (p0.Kinds).length cp0_0), (.slice Ap0_1 (p0.Slots).length cp0_1), (.slice Ap0_2 (p0.Marks).length cp0_2)]) (k := 1) rfl 1) rfl) ?_
  refine Tr.va rfl (fun _ _ h1 h2 => run_fieldAddr fo_26_2 (h1.ev rfl)) ?_
  refine Tr.va rfl (fun _ _ h1 h2 => run_load1 ag_3 (h1.ev rfl) (rdb h2 (vs := [(iv p0.W), (iv p0.H), (iv p0.Rail), (iv p0.Gap), (.slice Ap0_0 (p0.Kinds).length cp0_0), (.slice Ap0_1 (p0.Slots).length cp0_1), (.slice Ap0_2 (p0.Marks).length cp0_2)]) (k := 1) rfl 2) rfl) ?_
  refine Tr.va rfl (fun _ _ h1 h2 => run_fieldAddr fo_26_3 (h1.ev rfl)) ?_
  refine Tr.va rfl (fun _ _ h1 h2 => run_load1 ag_3 (h1.ev rfl) (rdb h2 (vs := [(iv p0.W), (iv p0.H), (iv p0.Rail), (iv p0.Gap), (.slice Ap0_0 (p0.Kinds).length cp0_0), (.slice Ap0_1 (p0.Slots).length cp0_1), (.slice Ap0_2 (p0.Marks).length cp0_2)]) (k := 1) rfl 3) rfl) ?_
  refine Tr.buildSlice 2 (e := 3) (vs := [(0, (iv p0.W)), (1, (iv p0.H)), (2, (iv p0.Rail)), (3, (iv p0.Gap))]) (cs := [(iv p0.W), (iv p0.H), (iv p0.Rail), (iv p0.Gap)]) (wn rfl) rfl (evs_cons rfl (evs_cons rfl (evs_cons rfl (evs_cons rfl evs_nil)))) (by kernel_rfl) fun b102 => ?_
  refine Tr.own 2 fl_i64 [p0.W, p0.H, p0.Rail, p0.Gap] (css := [[(iv p0.W)], [(iv p0.H)], [(iv p0.Rail)], [(iv p0.Gap)]]) rfl (.cons ⟨(), trivial, rfl⟩ (.cons ⟨(), trivial, rfl⟩ (.cons ⟨(), trivial, rfl⟩ (.cons ⟨(), trivial, rfl⟩ .nil)))) rfl (by decide) (lit_max rfl) ?_
  obtain ⟨y103, hy103, H⟩ := bnd H
  refine Tr.call0 (r := (sv y103)) (wn rfl) rfl Tryz.call21 (evl_cons rfl evl_nil) (fun W hW => F_etchhouseref9_spaced_ok N (hT.ext hW.extAll) [p0.W, p0.H, p0.Rail, p0.Gap] (some ⟨b102, 0, none⟩) 4 (hW.slCall (k := 2) rfl) y103 hy103 (HF.start _)) ?_
  obtain ⟨t104, ht104, H⟩ := bnd H
  refine Tr.va rfl (fun _ _ h1 h2 => run_catS (h1.ev rfl) (h1.ev rfl) ht104) ?_
  obtain ⟨t105, ht105, H⟩ := bnd H
  refine Tr.va rfl (fun _ _ h1 h2 => run_catS (h1.ev rfl) (h1.ev rfl) ht105) ?_
  refine Tr.asg rfl rfl ?_
  refine Tr.nil (Tr.normThen ?_)
  refine Tr.seq ?_
  refine Tr.sr ?_
  refine Tr.asg rfl rfl ?_
  refine Tr.nil (Tr.normThen ?_)
  refine Tr.block ?_
  refine Tr.loop (σ := ByteArray × Int) (fun m w s => F_etchhouseref9_Text_L1 N p0 m s.1 s.2 = some r) (fun s => [(1, (.pointer (some ⟨b100, 0, none⟩))), (5, (sv s.1)), (6, (iv s.2))]) (fun s => [(1, bx b100 #[(iv p0.W), (iv p0.H), (iv p0.Rail), (iv p0.Gap), (.slice Ap0_0 (p0.Kinds).length cp0_0), (.slice Ap0_1 (p0.Slots).length cp0_1), (.slice Ap0_2 (p0.Marks).length cp0_2)] 26)]) N (t105, 0) H (.cons rfl (.cons rfl (.cons rfl .nil))) (.cons rfl .nil) (fun _ _ h => noSome (h)) ?_
  intro w leL1 mL1 s hs
  obtain ⟨x132, x133⟩ := s
  have H := hs
  replace H : F_etchhouseref9_Text_L1 N p0 (mL1 + 1) x132 x133 = some r := H
  replace hT := hT.ext leL1.ext
  replace hp0_0 := hp0_0.leR leL1
  replace hp0_1 := hp0_1.leR leL1
  replace hp0_2 := hp0_2.leR leL1
  replace leB := leB.trans leL1
  rw [F_etchhouseref9_Text_L1.eq_2] at H
  show Tr _ _ (LF [(1, (.pointer (some ⟨b100, 0, none⟩))), (5, (sv x132)), (6, (iv x133))]) (LE [(1, bx b100 #[(iv p0.W), (iv p0.H), (iv p0.Rail), (iv p0.Gap), (.slice Ap0_0 (p0.Kinds).length cp0_0), (.slice Ap0_1 (p0.Slots).length cp0_1), (.slice Ap0_2 (p0.Marks).length cp0_2)] 26)]) _
  refine Tr.seq ?_
  refine Tr.sr ?_
  refine Tr.mv rfl rfl ?_
  refine Tr.va rfl (fun _ _ h1 h2 => run_fieldAddr fo_26_4 (h1.ev rfl)) ?_
  refine Tr.va rfl (fun _ _ h1 h2 => run_load1 ag_22 (h1.ev rfl) (rdb h2 (vs := [(iv p0.W), (iv p0.H), (iv p0.Rail), (iv p0.Gap), (.slice Ap0_0 (p0.Kinds).length cp0_0), (.slice Ap0_1 (p0.Slots).length cp0_1), (.slice Ap0_2 (p0.Marks).length cp0_2)]) (k := 1) rfl 4) rfl) ?_
  refine Tr.va rfl (fun _ _ h1 h2 => run_len un_22 (h1.ev rfl)) ?_
  refine Tr.va rfl (fun _ _ h1 h2 => run_lss (h1.ev rfl) (h1.ev rfl)) ?_
  refine Tr.nil (Tr.normThen ?_)
  refine Tr.cond rfl H (fun H => ?_) (fun H => ?_)
  ·refine Tr.skip (Tr.normThen ?_)
   refine Tr.seq ?_
   refine Tr.block ?_
   refine Tr.drawC 24 [] [] (by kernel_rfl) (by kernel_rfl) fun sz134 hlosz134 hEsz134 => ?_
   refine Dr.quiet 0 [(34, (sv x132))] (by kernel_rfl) rfl rfl (by kernel_rfl) ?_ rfl rfl ?_
   ·refine Tq.mv rfl rfl ?_
    exact Tq.fin (.cons rfl .nil)
   refine Dr.quiet 1 [(35, (.pointer (some ⟨b100, 4, none⟩)))] (by kernel_rfl) rfl rfl (by kernel_rfl) ?_ rfl rfl ?_
   ·refine Tq.va rfl (fun _ _ h1 h2 => run_fieldAddr fo_26_4 (h1.ev rfl)) ?_
    exact Tq.fin (.cons rfl .nil)
   refine Dr.quiet 2 [(36, (.slice Ap0_0 (p0.Kinds).length cp0_0))] (by kernel_rfl) rfl rfl (by kernel_rfl) ?_ rfl rfl ?_
   ·refine Tq.va rfl (fun _ _ h1 h2 => run_load1 ag_22 (h1.ev rfl) (rdb h2 (vs := [(iv p0.W), (iv p0.H), (iv p0.Rail), (iv p0.Gap), (.slice Ap0_0 (p0.Kinds).length cp0_0), (.slice Ap0_1 (p0.Slots).length cp0_1), (.slice Ap0_2 (p0.Marks).length cp0_2)]) (k := 1) rfl 4) rfl) ?_
    exact Tq.fin (.cons rfl .nil)
   refine Dr.quiet 3 [(37, (iv x133))] (by kernel_rfl) rfl rfl (by kernel_rfl) ?_ rfl rfl ?_
   ·refine Tq.mv rfl rfl ?_
    exact Tq.fin (.cons rfl .nil)
   obtain ⟨x135, hx135, H⟩ := bnd H
   obtain ⟨hx1350, hx1351, hx1352⟩ := idx_some hx135
   refine Dr.quiet 4 [(38, (.pointer (some ⟨adB Ap0_0, adO Ap0_0 + (x133).toNat * 3, none⟩)))] (by kernel_rfl) rfl rfl (by kernel_rfl) ?_ rfl rfl ?_
   ·refine Tq.va rfl (fun _ _ h1 h2 => run_indexAddr el_22 (h1.ev rfl) hp0_0.form (h1.ev rfl) hx1350 hx1351) ?_
    exact Tq.fin (.cons rfl .nil)
   refine Dr.quiet 5 [(39, (.pointer (some ⟨adB Ap0_0, adO Ap0_0 + (x133).toNat * 3 + 0, none⟩)))] (by kernel_rfl) rfl rfl (by kernel_rfl) ?_ rfl rfl ?_
   ·refine Tq.va rfl (fun _ _ h1 h2 => run_fieldAddr fo_49_0 (h1.ev rfl)) ?_
    exact Tq.fin (.cons rfl .nil)
   refine Dr.quiet 6 [(40, (sv x135.Name))] (by kernel_rfl) rfl rfl (by kernel_rfl) ?_ rfl rfl ?_
   ·refine Tq.va rfl (fun _ _ h1 h2 => run_load1 ag_9 (h1.ev rfl) (CellsAt.drop (rdF ef_TBoardKind hp0_0 hx1352 h2) 0) rfl) ?_
    exact Tq.fin (.cons rfl .nil)
   obtain ⟨t136, ht136, H⟩ := bnd H
   refine Dr.quiet 7 [(41, (sv t136))] (by kernel_rfl) rfl rfl (by kernel_rfl) ?_ rfl rfl ?_
   ·refine Tq.va rfl (fun _ _ h1 h2 => run_catS (h1.ev rfl) (h1.ev rfl) ht136) ?_
    exact Tq.fin (.cons rfl .nil)
   refine Dr.quiet 8 [(42, (.pointer (some ⟨b100, 4, none⟩)))] (by kernel_rfl) rfl rfl (by kernel_rfl) ?_ rfl rfl ?_
   ·refine Tq.va rfl (fun _ _ h1 h2 => run_fieldAddr fo_26_4 (h1.ev rfl)) ?_
    exact Tq.fin (.cons rfl .nil)
   refine Dr.quiet 9 [(43, (.slice Ap0_0 (p0.Kinds).length cp0_0))] (by kernel_rfl) rfl rfl (by kernel_rfl) ?_ rfl rfl ?_
   ·refine Tq.va rfl (fun _ _ h1 h2 => run_load1 ag_22 (h1.ev rfl) (rdb h2 (vs := [(iv p0.W), (iv p0.H), (iv p0.Rail), (iv p0.Gap), (.slice Ap0_0 (p0.Kinds).length cp0_0), (.slice Ap0_1 (p0.Slots).length cp0_1), (.slice Ap0_2 (p0.Marks).length cp0_2)]) (k := 1) rfl 4) rfl) ?_
    exact Tq.fin (.cons rfl .nil)
   refine Dr.quiet 10 [(44, (iv x133))] (by kernel_rfl) rfl rfl (by kernel_rfl) ?_ rfl rfl ?_
   ·refine Tq.mv rfl rfl ?_
    exact Tq.fin (.cons rfl .nil)
   obtain ⟨x137, hx137, H⟩ := bnd H
   obtain ⟨hx1370, hx1371, hx1372⟩ := idx_some hx137
   refine Dr.quiet 11 [(45, (.pointer (some ⟨adB Ap0_0, adO Ap0_0 + (x133).toNat * 3, none⟩)))] (by kernel_rfl) rfl rfl (by kernel_rfl) ?_ rfl rfl ?_
   ·refine Tq.va rfl (fun _ _ h1 h2 => run_indexAddr el_22 (h1.ev rfl) hp0_0.form (h1.ev rfl) hx1370 hx1371) ?_
    exact Tq.fin (.cons rfl .nil)
   refine Dr.quiet 12 [(46, (.pointer (some ⟨adB Ap0_0, adO Ap0_0 + (x133).toNat * 3 + 1, none⟩)))] (by kernel_rfl) rfl rfl (by kernel_rfl) ?_ rfl rfl ?_
   ·refine Tq.va rfl (fun _ _ h1 h2 => run_fieldAddr fo_49_1 (h1.ev rfl)) ?_
    exact Tq.fin (.cons rfl .nil)
   refine Dr.quiet 13 [(47, (iv x137.W))] (by kernel_rfl) rfl rfl (by kernel_rfl) ?_ rfl rfl ?_
   ·refine Tq.va rfl (fun _ _ h1 h2 => run_load1 ag_3 (h1.ev rfl) (CellsAt.drop (rdF ef_TBoardKind hp0_0 hx1372 h2) 1) rfl) ?_
    exact Tq.fin (.cons rfl .nil)
   refine Dr.quiet 14 [(48, (.pointer (some ⟨b100, 4, none⟩)))] (by kernel_rfl) rfl rfl (by kernel_rfl) ?_ rfl rfl ?_
   ·refine Tq.va rfl (fun _ _ h1 h2 => run_fieldAddr fo_26_4 (h1.ev rfl)) ?_
    exact Tq.fin (.cons rfl .nil)
   refine Dr.quiet 15 [(49, (.slice Ap0_0 (p0.Kinds).length cp0_0))] (by kernel_rfl) rfl rfl (by kernel_rfl) ?_ rfl rfl ?_
   ·refine Tq.va rfl (fun _ _ h1 h2 => run_load1 ag_22 (h1.ev rfl) (rdb h2 (vs := [(iv p0.W), (iv p0.H), (iv p0.Rail), (iv p0.Gap), (.slice Ap0_0 (p0.Kinds).length cp0_0), (.slice Ap0_1 (p0.Slots).length cp0_1), (.slice Ap0_2 (p0.Marks).length cp0_2)]) (k := 1) rfl 4) rfl) ?_
    exact Tq.fin (.cons rfl .nil)
   refine Dr.quiet 16 [(50, (iv x133))] (by kernel_rfl) rfl rfl (by kernel_rfl) ?_ rfl rfl ?_
   ·refine Tq.mv rfl rfl ?_
    exact Tq.fin (.cons rfl .nil)
   obtain ⟨x138, hx138, H⟩ := bnd H
   obtain ⟨hx1380, hx1381, hx1382⟩ := idx_some hx138
   refine Dr.quiet 17 [(51, (.pointer (some ⟨adB Ap0_0, adO Ap0_0 + (x133).toNat * 3, none⟩)))] (by kernel_rfl) rfl rfl (by kernel_rfl) ?_ rfl rfl ?_
   ·refine Tq.va rfl (fun _ _ h1 h2 => run_indexAddr el_22 (h1.ev rfl) hp0_0.form (h1.ev rfl) hx1380 hx1381) ?_
    exact Tq.fin (.cons rfl .nil)
   refine Dr.quiet 18 [(52, (.pointer (some ⟨adB Ap0_0, adO Ap0_0 + (x133).toNat * 3 + 2, none⟩)))] (by kernel_rfl) rfl rfl (by kernel_rfl) ?_ rfl rfl ?_
   ·refine Tq.va rfl (fun _ _ h1 h2 => run_fieldAddr fo_49_2 (h1.ev rfl)) ?_
    exact Tq.fin (.cons rfl .nil)
   refine Dr.quiet 19 [(53, (iv x138.H))] (by kernel_rfl) rfl rfl (by kernel_rfl) ?_ rfl rfl ?_
   ·refine Tq.va rfl (fun _ _ h1 h2 => run_load1 ag_3 (h1.ev rfl) (CellsAt.drop (rdF ef_TBoardKind hp0_0 hx1382 h2) 2) rfl) ?_
    exact Tq.fin (.cons rfl .nil)
   refine Dr.one 20 (by kernel_rfl) ?_
   refine St.buildSlice 20 5 (e := 3) (vs := [(0, (iv x137.W)), (1, (iv x138.H))]) (cs := [(iv x137.W), (iv x138.H)]) rfl (wn rfl) rfl (evs_cons rfl (evs_cons rfl evs_nil)) (by kernel_rfl) fun b139 hb139 => ?_
   refine Dr.own 5 fl_i64 [x137.W, x138.H] (css := [[(iv x137.W)], [(iv x138.H)]]) rfl (.cons ⟨(), trivial, rfl⟩ (.cons ⟨(), trivial, rfl⟩ .nil)) rfl (by decide) (lit_max rfl) ?_
   obtain ⟨y140, hy140, H⟩ := bnd H
   refine Dr.quiet 21 [(55, (sv y140))] (by kernel_rfl) rfl rfl (by kernel_rfl) ?_ rfl rfl ?_
   ·refine Tq.call0 (r := (sv y140)) (wn rfl) rfl Tryz.call21 (evl_cons rfl evl_nil) (fun W hW => F_etchhouseref9_spaced_ok N (hT.ext hW.extAll) [x137.W, x138.H] (some ⟨b139, 0, none⟩) 2 (hW.slCall (k := 5) rfl) y140 hy140 (HF.start _)) ?_
    exact Tq.fin (.cons rfl .nil)
   obtain ⟨t141, ht141, H⟩ := bnd H
   refine Dr.quiet 22 [(56, (sv t141))] (by kernel_rfl) rfl rfl (by kernel_rfl) ?_ rfl rfl ?_
   ·refine Tq.va rfl (fun _ _ h1 h2 => run_catS (h1.ev rfl) (h1.ev rfl) ht141) ?_
    exact Tq.fin (.cons rfl .nil)
   obtain ⟨t142, ht142, H⟩ := bnd H
   refine Dr.quiet 23 [(57, (sv t142))] (by kernel_rfl) rfl rfl (by kernel_rfl) ?_ rfl rfl ?_
   ·refine Tq.va rfl (fun _ _ h1 h2 => run_catS (h1.ev rfl) (h1.ev rfl) ht142) ?_
    exact Tq.fin (.cons rfl .nil)
   refine Dr.tail (by kernel_rfl) ?_
   obtain ⟨t143, ht143, H⟩ := bnd H
   refine Tr.va rfl (fun _ _ h1 h2 => run_catS (h1.ev rfl) (h1.ev rfl) ht143) ?_
   refine Tr.asg rfl rfl ?_
   refine Tr.nil (Tr.normBlock (Tr.normThen ?_))
   refine Tr.region ?_
   refine Tr.mv rfl rfl ?_
   refine Tr.va rfl (fun _ _ h1 h2 => run_add (h1.ev rfl) (h1.ev rfl)) ?_
   refine Tr.asg rfl rfl ?_
   refine Tr.nil ?_
   exact Tr.backThen leL1 (t143, (w64 (x133 + 1))) H (.cons rfl (.cons rfl (.cons rfl .nil))) (.cons rfl .nil)
  ·refine Tr.exit (Tr.exitThen (Tr.exitThen (Tr.exitBlock (Tr.normThen ?_))))
   refine Tr.seq ?_
   refine Tr.sr ?_
   refine Tr.asg rfl rfl ?_
   refine Tr.nil (Tr.normThen ?_)
   refine Tr.block ?_
   refine Tr.loop (σ := ByteArray × Int) (fun m w s => F_etchhouseref9_Text_L2 N p0 m s.1 s.2 = some r) (fun s => [(1, (.pointer (some ⟨b100, 0, none⟩))), (5, (sv s.1)), (7, (iv s.2))]) (fun s => [(1, bx b100 #[(iv p0.W), (iv p0.H), (iv p0.Rail), (iv p0.Gap), (.slice Ap0_0 (p0.Kinds).length cp0_0), (.slice Ap0_1 (p0.Slots).length cp0_1), (.slice Ap0_2 (p0.Marks).length cp0_2)] 26)]) N (x132, 0) H (.cons rfl (.cons rfl (.cons rfl .nil))) (.cons rfl .nil) (fun _ _ h => noSome (h)) ?_
   intro w leL2 mL2 s hs
   obtain ⟨x168, x169⟩ := s
   have H := hs
   replace H : F_etchhouseref9_Text_L2 N p0 (mL2 + 1) x168 x169 = some r := H
   replace hT := hT.ext leL2.ext
   replace hp0_0 := hp0_0.leR leL2
   replace hp0_1 := hp0_1.leR leL2
   replace hp0_2 := hp0_2.leR leL2
   replace leB := leB.trans leL2
   replace leL1 := leL1.trans leL2
   rw [F_etchhouseref9_Text_L2.eq_2] at H
   show Tr _ _ (LF [(1, (.pointer (some ⟨b100, 0, none⟩))), (5, (sv x168)), (7, (iv x169))]) (LE [(1, bx b100 #[(iv p0.W), (iv p0.H), (iv p0.Rail), (iv p0.Gap), (.slice Ap0_0 (p0.Kinds).length cp0_0), (.slice Ap0_1 (p0.Slots).length cp0_1), (.slice Ap0_2 (p0.Marks).length cp0_2)] 26)]) _
   refine Tr.seq ?_
   refine Tr.sr ?_
   refine Tr.mv rfl rfl ?_
   refine Tr.va rfl (fun _ _ h1 h2 => run_fieldAddr fo_26_5 (h1.ev rfl)) ?_
   refine Tr.va rfl (fun _ _ h1 h2 => run_load1 ag_23 (h1.ev rfl) (rdb h2 (vs := [(iv p0.W), (iv p0.H), (iv p0.Rail), (iv p0.Gap), (.slice Ap0_0 (p0.Kinds).length cp0_0), (.slice Ap0_1 (p0.Slots).length cp0_1), (.slice Ap0_2 (p0.Marks).length cp0_2)]) (k := 1) rfl 5) rfl) ?_
   refine Tr.va rfl (fun _ _ h1 h2 => run_len un_23 (h1.ev rfl)) ?_
   refine Tr.va rfl (fun _ _ h1 h2 => run_lss (h1.ev rfl) (h1.ev rfl)) ?_
   refine Tr.nil (Tr.normThen ?_)
   refine Tr.cond rfl H (fun H => ?_) (fun H => ?_)
   ·refine Tr.skip (Tr.normThen ?_)
    refine Tr.seq ?_
    refine Tr.block ?_
    refine Tr.sr ?_
    refine Tr.va rfl (fun _ _ h1 h2 => run_fieldAddr fo_26_5 (h1.ev rfl)) ?_
    refine Tr.va rfl (fun _ _ h1 h2 => run_load1 ag_23 (h1.ev rfl) (rdb h2 (vs := [(iv p0.W), (iv p0.H), (iv p0.Rail), (iv p0.Gap), (.slice Ap0_0 (p0.Kinds).length cp0_0), (.slice Ap0_1 (p0.Slots).length cp0_1), (.slice Ap0_2 (p0.Marks).length cp0_2)]) (k := 1) rfl 5) rfl) ?_
    refine Tr.mv rfl rfl ?_
    obtain ⟨x170, hx170, H⟩ := bnd H
    obtain ⟨hx1700, hx1701, hx1702⟩ := idx_some hx170
    refine Tr.va rfl (fun _ _ h1 h2 => run_indexAddr el_23 (h1.ev rfl) hp0_1.form (h1.ev rfl) hx1700 hx1701) ?_
    refine Tr.va rfl (fun _ _ h1 h2 => run_loadN (cs := [(sv x170.Board), (iv x170.Quarters), (iv x170.At.X), (iv x170.At.Y)]) ag_53 sz_53 (h1.ev rfl) (CellsAt.take (rdF ef_TSlot hp0_1 hx1702 h2) 4) rfl) ?_
    refine Tr.alloc 10 (wn rfl) rfl ze_53 fun b171 => ?_
    refine Tr.store 10 (cs := [(sv x170.Board), (iv x170.Quarters), (iv x170.At.X), (iv x170.At.Y)]) [(sv x170.Board), (iv x170.Quarters), (iv x170.At.X), (iv x170.At.Y)] (wn rfl) rfl rfl rfl rfl sz_53 rfl rfl rfl ?_
    refine Tr.nil (Tr.normThen ?_)
    refine Tr.drawC 16 [] [] (by kernel_rfl) (by kernel_rfl) fun sz172 hlosz172 hEsz172 => ?_
    refine Dr.quiet 0 [(71, (sv x168))] (by kernel_rfl) rfl rfl (by kernel_rfl) ?_ rfl rfl ?_
    ·refine Tq.mv rfl rfl ?_
     exact Tq.fin (.cons rfl .nil)
    refine Dr.quiet 1 [(72, (.pointer (some ⟨b171, 0, none⟩)))] (by kernel_rfl) rfl rfl (by kernel_rfl) ?_ rfl rfl ?_
    ·refine Tq.va rfl (fun _ _ h1 h2 => run_fieldAddr fo_53_0 (h1.ev rfl)) ?_
     exact Tq.fin (.cons rfl .nil)
    refine Dr.quiet 2 [(73, (sv x170.Board))] (by kernel_rfl) rfl rfl (by kernel_rfl) ?_ rfl rfl ?_
    ·refine Tq.va rfl (fun _ _ h1 h2 => run_load1 ag_9 (h1.ev rfl) (rdb h2 (vs := [(sv x170.Board), (iv x170.Quarters), (iv x170.At.X), (iv x170.At.Y)]) (k := 10) rfl 0) rfl) ?_
     exact Tq.fin (.cons rfl .nil)
    obtain ⟨t173, ht173, H⟩ := bnd H
    refine Dr.quiet 3 [(74, (sv t173))] (by kernel_rfl) rfl rfl (by kernel_rfl) ?_ rfl rfl ?_
    ·refine Tq.va rfl (fun _ _ h1 h2 => run_catS (h1.ev rfl) (h1.ev rfl) ht173) ?_
     exact Tq.fin (.cons rfl .nil)
    refine Dr.quiet 4 [(75, (.pointer (some ⟨b171, 1, none⟩)))] (by kernel_rfl) rfl rfl (by kernel_rfl) ?_ rfl rfl ?_
    ·refine Tq.va rfl (fun _ _ h1 h2 => run_fieldAddr fo_53_1 (h1.ev rfl)) ?_
     exact Tq.fin (.cons rfl .nil)
    refine Dr.quiet 5 [(76, (iv x170.Quarters))] (by kernel_rfl) rfl rfl (by kernel_rfl) ?_ rfl rfl ?_
    ·refine Tq.va rfl (fun _ _ h1 h2 => run_load1 ag_3 (h1.ev rfl) (rdb h2 (vs := [(sv x170.Board), (iv x170.Quarters), (iv x170.At.X), (iv x170.At.Y)]) (k := 10) rfl 1) rfl) ?_
     exact Tq.fin (.cons rfl .nil)
    refine Dr.quiet 6 [(77, (.pointer (some ⟨b171, 2, none⟩)))] (by kernel_rfl) rfl rfl (by kernel_rfl) ?_ rfl rfl ?_
    ·refine Tq.va rfl (fun _ _ h1 h2 => run_fieldAddr fo_53_2 (h1.ev rfl)) ?_
     exact Tq.fin (.cons rfl .nil)
    refine Dr.quiet 7 [(78, (.pointer (some ⟨b171, 2, none⟩)))] (by kernel_rfl) rfl rfl (by kernel_rfl) ?_ rfl rfl ?_
    ·refine Tq.va rfl (fun _ _ h1 h2 => run_fieldAddr fo_51_0 (h1.ev rfl)) ?_
     exact Tq.fin (.cons rfl .nil)
    refine Dr.quiet 8 [(79, (iv x170.At.X))] (by kernel_rfl) rfl rfl (by kernel_rfl) ?_ rfl rfl ?_
    ·refine Tq.va rfl (fun _ _ h1 h2 => run_load1 ag_3 (h1.ev rfl) (rdb h2 (vs := [(sv x170.Board), (iv x170.Quarters), (iv x170.At.X), (iv x170.At.Y)]) (k := 10) rfl 2) rfl) ?_
     exact Tq.fin (.cons rfl .nil)
    refine Dr.quiet 9 [(80, (.pointer (some ⟨b171, 2, none⟩)))] (by kernel_rfl) rfl rfl (by kernel_rfl) ?_ rfl rfl ?_
    ·refine Tq.va rfl (fun _ _ h1 h2 => run_fieldAddr fo_53_2 (h1.ev rfl)) ?_
     exact Tq.fin (.cons rfl .nil)
    refine Dr.quiet 10 [(81, (.pointer (some ⟨b171, 3, none⟩)))] (by kernel_rfl) rfl rfl (by kernel_rfl) ?_ rfl rfl ?_
    ·refine Tq.va rfl (fun _ _ h1 h2 => run_fieldAddr fo_51_1 (h1.ev rfl)) ?_
     exact Tq.fin (.cons rfl .nil)
    refine Dr.quiet 11 [(82, (iv x170.At.Y))] (by kernel_rfl) rfl rfl (by kernel_rfl) ?_ rfl rfl ?_
    ·refine Tq.va rfl (fun _ _ h1 h2 => run_load1 ag_3 (h1.ev rfl) (rdb h2 (vs := [(sv x170.Board), (iv x170.Quarters), (iv x170.At.X), (iv x170.At.Y)]) (k := 10) rfl 3) rfl) ?_
     exact Tq.fin (.cons rfl .nil)
    refine Dr.one 12 (by kernel_rfl) ?_
    refine St.buildSlice 12 11 (e := 3) (vs := [(0, (iv x170.Quarters)), (1, (iv x170.At.X)), (2, (iv x170.At.Y))]) (cs := [(iv x170.Quarters), (iv x170.At.X), (iv x170.At.Y)]) rfl (wn rfl) rfl (evs_cons rfl (evs_cons rfl (evs_cons rfl evs_nil))) (by kernel_rfl) fun b174 hb174 => ?_
    refine Dr.own 11 fl_i64 [x170.Quarters, x170.At.X, x170.At.Y] (css := [[(iv x170.Quarters)], [(iv x170.At.X)], [(iv x170.At.Y)]]) rfl (.cons ⟨(), trivial, rfl⟩ (.cons ⟨(), trivial, rfl⟩ (.cons ⟨(), trivial, rfl⟩ .nil))) rfl (by decide) (lit_max rfl) ?_
    obtain ⟨y175, hy175, H⟩ := bnd H
    refine Dr.quiet 13 [(84, (sv y175))] (by kernel_rfl) rfl rfl (by kernel_rfl) ?_ rfl rfl ?_
    ·refine Tq.call0 (r := (sv y175)) (wn rfl) rfl Tryz.call21 (evl_cons rfl evl_nil) (fun W hW => F_etchhouseref9_spaced_ok N (hT.ext hW.extAll) [x170.Quarters, x170.At.X, x170.At.Y] (some ⟨b174, 0, none⟩) 3 (hW.slCall (k := 11) rfl) y175 hy175 (HF.start _)) ?_
     exact Tq.fin (.cons rfl .nil)
    obtain ⟨t176, ht176, H⟩ := bnd H
    refine Dr.quiet 14 [(85, (sv t176))] (by kernel_rfl) rfl rfl (by kernel_rfl) ?_ rfl rfl ?_
    ·refine Tq.va rfl (fun _ _ h1 h2 => run_catS (h1.ev rfl) (h1.ev rfl) ht176) ?_
     exact Tq.fin (.cons rfl .nil)
    obtain ⟨t177, ht177, H⟩ := bnd H
    refine Dr.quiet 15 [(86, (sv t177))] (by kernel_rfl) rfl rfl (by kernel_rfl) ?_ rfl rfl ?_
    ·refine Tq.va rfl (fun _ _ h1 h2 => run_catS (h1.ev rfl) (h1.ev rfl) ht177) ?_
     exact Tq.fin (.cons rfl .nil)
    refine Dr.tail (by kernel_rfl) ?_
    obtain ⟨t178, ht178, H⟩ := bnd H
    refine Tr.va rfl (fun _ _ h1 h2 => run_catS (h1.ev rfl) (h1.ev rfl) ht178) ?_
    refine Tr.asg rfl rfl ?_
    refine Tr.nil (Tr.normBlock (Tr.normThen ?_))
    refine Tr.region ?_
    refine Tr.mv rfl rfl ?_
    refine Tr.va rfl (fun _ _ h1 h2 => run_add (h1.ev rfl) (h1.ev rfl)) ?_
    refine Tr.asg rfl rfl ?_
    refine Tr.nil ?_
    exact Tr.backThen leL2 (t178, (w64 (x169 + 1))) H (.cons rfl (.cons rfl (.cons rfl .nil))) (.cons rfl .nil)
   ·refine Tr.exit (Tr.exitThen (Tr.exitThen (Tr.exitBlock (Tr.normThen ?_))))
    refine Tr.seq ?_
    refine Tr.sr ?_
    refine Tr.asg rfl rfl ?_
    refine Tr.nil (Tr.normThen ?_)
    refine Tr.block ?_
    refine Tr.loop (σ := ByteArray × Int) (fun m w s => F_etchhouseref9_Text_L3 N p0 m s.1 s.2 = some r) (fun s => [(1, (.pointer (some ⟨b100, 0, none⟩))), (5, (sv s.1)), (9, (iv s.2))]) (fun s => [(1, bx b100 #[(iv p0.W), (iv p0.H), (iv p0.Rail), (iv p0.Gap), (.slice Ap0_0 (p0.Kinds).length cp0_0), (.slice Ap0_1 (p0.Slots).length cp0_1), (.slice Ap0_2 (p0.Marks).length cp0_2)] 26)]) N (x168, 0) H (.cons rfl (.cons rfl (.cons rfl .nil))) (.cons rfl .nil) (fun _ _ h => noSome (h)) ?_
    intro w leL3 mL3 s hs
    obtain ⟨x201, x202⟩ := s
    have H := hs
    replace H : F_etchhouseref9_Text_L3 N p0 (mL3 + 1) x201 x202 = some r := H
    replace hT := hT.ext leL3.ext
    replace hp0_0 := hp0_0.leR leL3
    replace hp0_1 := hp0_1.leR leL3
    replace hp0_2 := hp0_2.leR leL3
    replace leB := leB.trans leL3
    replace leL1 := leL1.trans leL3
    replace leL2 := leL2.trans leL3
    rw [F_etchhouseref9_Text_L3.eq_2] at H
    show Tr _ _ (LF [(1, (.pointer (some ⟨b100, 0, none⟩))), (5, (sv x201)), (9, (iv x202))]) (LE [(1, bx b100 #[(iv p0.W), (iv p0.H), (iv p0.Rail), (iv p0.Gap), (.slice Ap0_0 (p0.Kinds).length cp0_0), (.slice Ap0_1 (p0.Slots).length cp0_1), (.slice Ap0_2 (p0.Marks).length cp0_2)] 26)]) _
    refine Tr.seq ?_
    refine Tr.sr ?_
    refine Tr.mv rfl rfl ?_
    refine Tr.va rfl (fun _ _ h1 h2 => run_fieldAddr fo_26_6 (h1.ev rfl)) ?_
    refine Tr.va rfl (fun _ _ h1 h2 => run_load1 ag_24 (h1.ev rfl) (rdb h2 (vs := [(iv p0.W), (iv p0.H), (iv p0.Rail), (iv p0.Gap), (.slice Ap0_0 (p0.Kinds).length cp0_0), (.slice Ap0_1 (p0.Slots).length cp0_1), (.slice Ap0_2 (p0.Marks).length cp0_2)]) (k := 1) rfl 6) rfl) ?_
    refine Tr.va rfl (fun _ _ h1 h2 => run_len un_24 (h1.ev rfl)) ?_
    refine Tr.va rfl (fun _ _ h1 h2 => run_lss (h1.ev rfl) (h1.ev rfl)) ?_
    refine Tr.nil (Tr.normThen ?_)
    refine Tr.cond rfl H (fun H => ?_) (fun H => ?_)
    ·refine Tr.skip (Tr.normThen ?_)
     refine Tr.seq ?_
     refine Tr.block ?_
     refine Tr.drawC 17 [] [] (by kernel_rfl) (by kernel_rfl) fun sz203 hlosz203 hEsz203 => ?_
     refine Dr.quiet 0 [(95, (sv x201))] (by kernel_rfl) rfl rfl (by kernel_rfl) ?_ rfl rfl ?_
     ·refine Tq.mv rfl rfl ?_
      exact Tq.fin (.cons rfl .nil)
     refine Dr.quiet 1 [(96, (.pointer (some ⟨b100, 6, none⟩)))] (by kernel_rfl) rfl rfl (by kernel_rfl) ?_ rfl rfl ?_
     ·refine Tq.va rfl (fun _ _ h1 h2 => run_fieldAddr fo_26_6 (h1.ev rfl)) ?_
      exact Tq.fin (.cons rfl .nil)
     refine Dr.quiet 2 [(97, (.slice Ap0_2 (p0.Marks).length cp0_2))] (by kernel_rfl) rfl rfl (by kernel_rfl) ?_ rfl rfl ?_
     ·refine Tq.va rfl (fun _ _ h1 h2 => run_load1 ag_24 (h1.ev rfl) (rdb h2 (vs := [(iv p0.W), (iv p0.H), (iv p0.Rail), (iv p0.Gap), (.slice Ap0_0 (p0.Kinds).length cp0_0), (.slice Ap0_1 (p0.Slots).length cp0_1), (.slice Ap0_2 (p0.Marks).length cp0_2)]) (k := 1) rfl 6) rfl) ?_
      exact Tq.fin (.cons rfl .nil)
     refine Dr.quiet 3 [(98, (iv x202))] (by kernel_rfl) rfl rfl (by kernel_rfl) ?_ rfl rfl ?_
     ·refine Tq.mv rfl rfl ?_
      exact Tq.fin (.cons rfl .nil)
     obtain ⟨x204, hx204, H⟩ := bnd H
     obtain ⟨hx2040, hx2041, hx2042⟩ := idx_some hx204
     refine Dr.quiet 4 [(99, (.pointer (some ⟨adB Ap0_2, adO Ap0_2 + (x202).toNat * 2, none⟩)))] (by kernel_rfl) rfl rfl (by kernel_rfl) ?_ rfl rfl ?_
     ·refine Tq.va rfl (fun _ _ h1 h2 => run_indexAddr el_24 (h1.ev rfl) hp0_2.form (h1.ev rfl) hx2040 hx2041) ?_
      exact Tq.fin (.cons rfl .nil)
     refine Dr.quiet 5 [(100, (.pointer (some ⟨adB Ap0_2, adO Ap0_2 + (x202).toNat * 2 + 0, none⟩)))] (by kernel_rfl) rfl rfl (by kernel_rfl) ?_ rfl rfl ?_
     ·refine Tq.va rfl (fun _ _ h1 h2 => run_fieldAddr fo_51_0 (h1.ev rfl)) ?_
      exact Tq.fin (.cons rfl .nil)
     refine Dr.quiet 6 [(101, (iv x204.X))] (by kernel_rfl) rfl rfl (by kernel_rfl) ?_ rfl rfl ?_
     ·refine Tq.va rfl (fun _ _ h1 h2 => run_load1 ag_3 (h1.ev rfl) (CellsAt.drop (rdF ef_TPoint hp0_2 hx2042 h2) 0) rfl) ?_
      exact Tq.fin (.cons rfl .nil)
     refine Dr.quiet 7 [(102, (.pointer (some ⟨b100, 6, none⟩)))] (by kernel_rfl) rfl rfl (by kernel_rfl) ?_ rfl rfl ?_
     ·refine Tq.va rfl (fun _ _ h1 h2 => run_fieldAddr fo_26_6 (h1.ev rfl)) ?_
      exact Tq.fin (.cons rfl .nil)
     refine Dr.quiet 8 [(103, (.slice Ap0_2 (p0.Marks).length cp0_2))] (by kernel_rfl) rfl rfl (by kernel_rfl) ?_ rfl rfl ?_
     ·refine Tq.va rfl (fun _ _ h1 h2 => run_load1 ag_24 (h1.ev rfl) (rdb h2 (vs := [(iv p0.W), (iv p0.H), (iv p0.Rail), (iv p0.Gap), (.slice Ap0_0 (p0.Kinds).length cp0_0), (.slice Ap0_1 (p0.Slots).length cp0_1), (.slice Ap0_2 (p0.Marks).length cp0_2)]) (k := 1) rfl 6) rfl) ?_
      exact Tq.fin (.cons rfl .nil)
     refine Dr.quiet 9 [(104, (iv x202))] (by kernel_rfl) rfl rfl (by kernel_rfl) ?_ rfl rfl ?_
     ·refine Tq.mv rfl rfl ?_
      exact Tq.fin (.cons rfl .nil)
     obtain ⟨x205, hx205, H⟩ := bnd H
     obtain ⟨hx2050, hx2051, hx2052⟩ := idx_some hx205
     refine Dr.quiet 10 [(105, (.pointer (some ⟨adB Ap0_2, adO Ap0_2 + (x202).toNat * 2, none⟩)))] (by kernel_rfl) rfl rfl (by kernel_rfl) ?_ rfl rfl ?_
     ·refine Tq.va rfl (fun _ _ h1 h2 => run_indexAddr el_24 (h1.ev rfl) hp0_2.form (h1.ev rfl) hx2050 hx2051) ?_
      exact Tq.fin (.cons rfl .nil)
     refine Dr.quiet 11 [(106, (.pointer (some ⟨adB Ap0_2, adO Ap0_2 + (x202).toNat * 2 + 1, none⟩)))] (by kernel_rfl) rfl rfl (by kernel_rfl) ?_ rfl rfl ?_
     ·refine Tq.va rfl (fun _ _ h1 h2 => run_fieldAddr fo_51_1 (h1.ev rfl)) ?_
      exact Tq.fin (.cons rfl .nil)
     refine Dr.quiet 12 [(107, (iv x205.Y))] (by kernel_rfl) rfl rfl (by kernel_rfl) ?_ rfl rfl ?_
     ·refine Tq.va rfl (fun _ _ h1 h2 => run_load1 ag_3 (h1.ev rfl) (CellsAt.drop (rdF ef_TPoint hp0_2 hx2052 h2) 1) rfl) ?_
      exact Tq.fin (.cons rfl .nil)
     refine Dr.one 13 (by kernel_rfl) ?_
     refine St.buildSlice 13 14 (e := 3) (vs := [(0, (iv x204.X)), (1, (iv x205.Y))]) (cs := [(iv x204.X), (iv x205.Y)]) rfl (wn rfl) rfl (evs_cons rfl (evs_cons rfl evs_nil)) (by kernel_rfl) fun b206 hb206 => ?_
     refine Dr.own 14 fl_i64 [x204.X, x205.Y] (css := [[(iv x204.X)], [(iv x205.Y)]]) rfl (.cons ⟨(), trivial, rfl⟩ (.cons ⟨(), trivial, rfl⟩ .nil)) rfl (by decide) (lit_max rfl) ?_
     obtain ⟨y207, hy207, H⟩ := bnd H
     refine Dr.quiet 14 [(109, (sv y207))] (by kernel_rfl) rfl rfl (by kernel_rfl) ?_ rfl rfl ?_
     ·refine Tq.call0 (r := (sv y207)) (wn rfl) rfl Tryz.call21 (evl_cons rfl evl_nil) (fun W hW => F_etchhouseref9_spaced_ok N (hT.ext hW.extAll) [x204.X, x205.Y] (some ⟨b206, 0, none⟩) 2 (hW.slCall (k := 14) rfl) y207 hy207 (HF.start _)) ?_
      exact Tq.fin (.cons rfl .nil)
     obtain ⟨t208, ht208, H⟩ := bnd H
     refine Dr.quiet 15 [(110, (sv t208))] (by kernel_rfl) rfl rfl (by kernel_rfl) ?_ rfl rfl ?_
     ·refine Tq.va rfl (fun _ _ h1 h2 => run_catS (h1.ev rfl) (h1.ev rfl) ht208) ?_
      exact Tq.fin (.cons rfl .nil)
     obtain ⟨t209, ht209, H⟩ := bnd H
     refine Dr.quiet 16 [(111, (sv t209))] (by kernel_rfl) rfl rfl (by kernel_rfl) ?_ rfl rfl ?_
     ·refine Tq.va rfl (fun _ _ h1 h2 => run_catS (h1.ev rfl) (h1.ev rfl) ht209) ?_
      exact Tq.fin (.cons rfl .nil)
     refine Dr.tail (by kernel_rfl) ?_
     obtain ⟨t210, ht210, H⟩ := bnd H
     refine Tr.va rfl (fun _ _ h1 h2 => run_catS (h1.ev rfl) (h1.ev rfl) ht210) ?_
     refine Tr.asg rfl rfl ?_
     refine Tr.nil (Tr.normBlock (Tr.normThen ?_))
     refine Tr.region ?_
     refine Tr.mv rfl rfl ?_
     refine Tr.va rfl (fun _ _ h1 h2 => run_add (h1.ev rfl) (h1.ev rfl)) ?_
     refine Tr.asg rfl rfl ?_
     refine Tr.nil ?_
     exact Tr.backThen leL3 (t210, (w64 (x202 + 1))) H (.cons rfl (.cons rfl (.cons rfl .nil))) (.cons rfl .nil)
    ·refine Tr.exit (Tr.exitThen (Tr.exitThen (Tr.exitBlock (Tr.normThen ?_))))
     refine Tr.sr ?_
     refine Tr.mv rfl rfl ?_
     refine Tr.asg rfl rfl ?_
     refine Tr.asg rfl rfl ?_
     refine Tr.nil (Tr.normThen ?_)
     refine Tr.ret ?_
     obtain rfl := Option.some.inj H
     exact Tr.out (m := [(sv x201), (iv 0)]) [] (res_tmp rfl (res_tmp rfl res_nil)) (fun W hW => ⟨rfl, hW.low leB⟩)

end Go.Proofs.YtmbjoffligicnaaGreatDoor
