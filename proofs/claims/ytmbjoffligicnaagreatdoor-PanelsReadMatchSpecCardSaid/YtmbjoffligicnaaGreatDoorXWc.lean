/- The walks: each function computes its plain function. -/
import Derived.Test.YtmbjoffligicnaaGreatDoorXWb
namespace Go.Proofs.YtmbjoffligicnaaGreatDoor
open Go.RowKit
set_option maxRecDepth 100000
set_option maxHeartbeats 1000000
theorem F_panel_readLine_ok {w : Bs} (hT : Tab Tryz.prog w) (p0 : TPanel) (Ap0_0 : Option Addr) (cp0_0 : Nat) (Ap0_1 : Option Addr) (cp0_1 : Nat) (Ap0_2 : Option Addr) (cp0_2 : Nat) (bp0 : Nat) (p1 : Int) (p2 : ByteArray) (r : (Bool × Int × Int × Int × Int × (List TBoardKind) × (List TSlot) × (List TPoint))) (H : F_panel_readLine p0 p1 p2 = some r) (hE : HF w w.W (LEn [bx bp0 #[(iv p0.W), (iv p0.H), (iv p0.Rail), (iv p0.Gap), (.slice Ap0_0 (p0.Kinds).length cp0_0), (.slice Ap0_1 (p0.Slots).length cp0_1), (.slice Ap0_2 (p0.Marks).length cp0_2)] 26, ow Ap0_0 cp0_0 49 fl_TBoardKind p0.Kinds, ow Ap0_1 cp0_1 53 fl_TSlot p0.Slots, ow Ap0_2 cp0_2 51 fl_TPoint p0.Marks])) : Calls Tryz.prog 18 [(.pointer (some ⟨bp0, 0, none⟩)), (iv p1), (sv p2)].toArray w.W fun e W' => ∃ u : (Option Addr × Nat) × (Option Addr × Nat) × (Option Addr × Nat), e = .returned (.bool r.1) ∧ (SlF u.1.1 (r.2.2.2.2.2.1).length u.1.2 ∧ SlF u.2.1.1 (r.2.2.2.2.2.2.1).length u.2.1.2 ∧ SlF u.2.2.1 (r.2.2.2.2.2.2.2).length u.2.2.2) ∧ HF w W' (LEn [bx bp0 #[(iv r.2.1), (iv r.2.2.1), (iv r.2.2.2.1), (iv r.2.2.2.2.1), (.slice u.1.1 (r.2.2.2.2.2.1).length u.1.2), (.slice u.2.1.1 (r.2.2.2.2.2.2.1).length u.2.1.2), (.slice u.2.2.1 (r.2.2.2.2.2.2.2).length u.2.2.2)] 26, ow u.1.1 u.1.2 49 fl_TBoardKind r.2.2.2.2.2.1, ow u.2.1.1 u.2.1.2 53 fl_TSlot r.2.2.2.2.2.2.1, ow u.2.2.1 u.2.2.2 51 fl_TPoint r.2.2.2.2.2.2.2]) := by
 unfold F_panel_readLine at H
 have hfhp0_0 := (hE.sl (k := 1) rfl).form
 have hfhp0_1 := (hE.sl (k := 2) rfl).form
 have hfhp0_2 := (hE.sl (k := 3) rfl).form
 have leB := Bs.Le.refl w
 refine Tr.enter (n := 190) Tryz.func18 rfl rfl rfl hE ?_
 refine Tr.sr ?_
 refine Tr.asg rfl rfl ?_
 refine Tr.nil (Tr.normThen ?_)
 refine Tr.sr ?_
 refine Tr.mv rfl rfl ?_
 obtain ⟨y100, hy100, H⟩ := bnd H
 refine Tr.callM [4] [emp] (U := (Option Addr × Nat)) (fun u => (.slice u.1 (y100).length u.2)) (fun u => SlF u.1 (y100).length u.2) (fun u => [ow u.1 u.2 9 fl_str y100]) rfl (pk_cons rfl pk_nil) (fun _ => rfl) (wn rfl) rfl Tryz.call28 (evl_cons rfl (evl_cons rfl evl_nil)) (fun W hW hp hE => F_strings_Split_ok (hT.ext (hW.extS hp)) p2 (⟨#[32]⟩) y100 hy100 hE) ?_
 intro u hu
 obtain ⟨Ay100_0, cy100_0⟩ := u
 have gy100_0 := hu
 have hgy100_0 : SlF Ay100_0 (y100).length cy100_0 := gy100_0 --@phi
 show Tr _ _ (uf _ 12 (.slice Ay100_0 (y100).length cy100_0)) (up _ 4 (ow Ay100_0 cy100_0 9 fl_str y100)) _
 refine Tr.asg rfl rfl ?_
 refine Tr.nil (Tr.normThen ?_)
 refine Tr.seq ?_
 refine Tr.sr ?_
 refine Tr.mv rfl rfl ?_
 obtain ⟨y102, hy102, H⟩ := bnd H
 refine Tr.call0 (r := (.bool y102)) (wn rfl) rfl Tryz.call29 (evl_cons rfl (evl_cons rfl evl_nil)) (fun W hW => F_slices_ContainsFunc_string_ok y100 Ay100_0 cy100_0 (hW.slCall (k := 4) rfl) (fun z0 => F_panel_readLine_1 z0) 30 [] Tryz.call30 (fun w' he z0 y hy => F_panel_readLine_1_ok z0 y hy (HF.start _)) y102 hy102 (HF.start _)) ?_
 refine Tr.nil (Tr.normThen ?_)
 refine Tr.cond rfl H (fun H => ?_) (fun H => ?_)
 ·refine Tr.sr ?_
  refine Tr.asg rfl rfl ?_
  refine Tr.nil (Tr.normThen ?_)
  refine Tr.ret (Tr.retThen ?_)
  obtain rfl := Option.some.inj H
  exact Tr.out (m := [(.bool false)]) [] (res_tmp rfl res_nil) (fun W hW => ⟨((Ap0_0, cp0_0), (Ap0_1, cp0_1), (Ap0_2, cp0_2)), rfl, ⟨hfhp0_0, hfhp0_1, hfhp0_2⟩, HF.lowE leB (hW.pick (ks := [0, 1, 2, 3]) (by decide) (pk_cons rfl (pk_cons rfl (pk_cons rfl (pk_cons rfl pk_nil))))) ⟨bx_any _ _ _, ow_any _ _ _ _ tr_TBoardKind, ow_any _ _ _ _ tr_TSlot, ow_any _ _ _ _ tr_TPoint, trivial⟩⟩)
 ·refine Tr.skip (Tr.normThen ?_)
  refine Tr.sr ?_
  refine Tr.asg rfl rfl ?_
  refine Tr.nil (Tr.normThen ?_)
  have leJ108 := Bs.Le.refl w
  refine Tr.cutJ (σ := Int) (fun w s => F_panel_readLine_J2 p0 p1 y100 s = some r) (fun s => [(0, (.pointer (some ⟨bp0, 0, none⟩))), (1, (iv p1)), (7, (.slice Ay100_0 (y100).length cy100_0)), (8, (iv s))]) (fun s => [(0, bx bp0 #[(iv p0.W), (iv p0.H), (iv p0.Rail), (iv p0.Gap), (.slice Ap0_0 (p0.Kinds).length cp0_0), (.slice Ap0_1 (p0.Slots).length cp0_1), (.slice Ap0_2 (p0.Marks).length cp0_2)] 26), (1, ow Ap0_0 cp0_0 49 fl_TBoardKind p0.Kinds), (2, ow Ap0_1 cp0_1 53 fl_TSlot p0.Slots), (3, ow Ap0_2 cp0_2 51 fl_TPoint p0.Marks), (4, ow Ay100_0 cy100_0 9 fl_str y100)]) ?_ ?_
  ·refine Tr.sr ?_
   refine Tr.mv rfl rfl ?_
   obtain ⟨x179, hx179, H⟩ := bnd H
   obtain ⟨hx1790, hx1791, hx1792⟩ := idx_some hx179
   refine Tr.va rfl (fun _ _ h1 h2 => run_indexAddr el_40 (h1.ev rfl) hgy100_0 (h1.ev rfl) hx1790 hx1791) ?_
   refine Tr.va rfl (fun _ _ h1 h2 => run_load1 ag_9 (h1.ev rfl) (rdo ef_str (k := 4) h2 rfl hx1792) rfl) ?_
   refine Tr.va rfl (fun _ _ h1 h2 => run_eqlS (h1.ev rfl) (h1.ev rfl)) ?_
   refine Tr.mv rfl rfl ?_
   obtain ⟨g181, hg181, H⟩ := bnd H
   refine Tr.mid0 5 [(0, (.pointer (some ⟨bp0, 0, none⟩))), (1, (iv p1)), (7, (.slice Ay100_0 (y100).length cy100_0)), (8, (iv 1)), (24, (.bool g181))] [(0, bx bp0 #[(iv p0.W), (iv p0.H), (iv p0.Rail), (iv p0.Gap), (.slice Ap0_0 (p0.Kinds).length cp0_0), (.slice Ap0_1 (p0.Slots).length cp0_1), (.slice Ap0_2 (p0.Marks).length cp0_2)] 26), (1, ow Ap0_0 cp0_0 49 fl_TBoardKind p0.Kinds), (2, ow Ap0_1 cp0_1 53 fl_TSlot p0.Slots), (3, ow Ap0_2 cp0_2 51 fl_TPoint p0.Marks), (4, ow Ay100_0 cy100_0 9 fl_str y100)] ?_ ?_
   ·cases hg182 : (sEq x179 (⟨#[98, 111, 97, 114, 100]⟩))
    ·rw [hg182] at hg181
     rw [if_neg (by decide)] at hg181
     have H := hg181
     refine Tr.val (wg rfl rfl rfl) rfl (fun _ _ h1 h2 => run_move (h1.ev rfl)) ?_
     obtain ⟨x182, hx182, H⟩ := bnd H
     obtain ⟨hx1820, hx1821, hx1822⟩ := idx_some hx182
     refine Tr.val (wg rfl rfl rfl) rfl (fun _ _ h1 h2 => run_indexAddr el_40 (h1.ev rfl) hgy100_0 (h1.ev rfl) hx1820 hx1821) ?_
     refine Tr.val (wg rfl rfl rfl) rfl (fun _ _ h1 h2 => run_load1 ag_9 (h1.ev rfl) (rdo ef_str (k := 4) h2 rfl hx1822) rfl) ?_
     refine Tr.val (wg rfl rfl rfl) rfl (fun _ _ h1 h2 => run_eqlS (h1.ev rfl) (h1.ev rfl)) ?_
     refine Tr.va rfl (fun _ _ h1 h2 => run_pickF (h1.ev rfl) (h1.ev rfl)) ?_
     obtain rfl := Option.some.inj H
     exact Tr.nil (Tr.fin0 (.cons rfl (.cons rfl (.cons rfl (.cons rfl (.cons rfl .nil))))) (.cons rfl (.cons rfl (.cons rfl (.cons rfl (.cons rfl .nil))))))
    ·rw [hg182] at hg181
     rw [if_pos rfl] at hg181
     have H := hg181
     obtain rfl := Option.some.inj H
     refine Tr.pass rfl rfl rfl rfl rfl (by decide) ?_
     refine Tr.pass rfl rfl rfl rfl rfl (by decide) ?_
     refine Tr.pass rfl rfl rfl rfl rfl (by decide) ?_
     refine Tr.pass rfl rfl rfl rfl rfl (by decide) ?_
     refine Tr.va rfl (fun _ _ h1 h2 => run_pickT (h1.ev rfl) (h1.ev rfl)) ?_
     exact Tr.nil (Tr.fin0 (.cons rfl (.cons rfl (.cons rfl (.cons rfl (.cons rfl .nil))))) (.cons rfl (.cons rfl (.cons rfl (.cons rfl (.cons rfl .nil))))))
   ·show Tr _ _ (LF [(0, (.pointer (some ⟨bp0, 0, none⟩))), (1, (iv p1)), (7, (.slice Ay100_0 (y100).length cy100_0)), (8, (iv 1)), (24, (.bool g181))]) (LE [(0, bx bp0 #[(iv p0.W), (iv p0.H), (iv p0.Rail), (iv p0.Gap), (.slice Ap0_0 (p0.Kinds).length cp0_0), (.slice Ap0_1 (p0.Slots).length cp0_1), (.slice Ap0_2 (p0.Marks).length cp0_2)] 26), (1, ow Ap0_0 cp0_0 49 fl_TBoardKind p0.Kinds), (2, ow Ap0_1 cp0_1 53 fl_TSlot p0.Slots), (3, ow Ap0_2 cp0_2 51 fl_TPoint p0.Marks), (4, ow Ay100_0 cy100_0 9 fl_str y100)]) _
    refine Tr.nil (Tr.normThen ?_)
    refine Tr.cond rfl H (fun H => ?_) (fun H => ?_)
    ·refine Tr.region ?_
     refine Tr.asg rfl rfl ?_
     refine Tr.nil ?_
     exact Tr.backThen leJ108 2 H (.cons rfl (.cons rfl (.cons rfl (.cons rfl .nil)))) (.cons rfl (.cons rfl (.cons rfl (.cons rfl (.cons rfl .nil)))))
    ·refine Tr.skip ?_
     exact Tr.backThen leJ108 1 H (.cons rfl (.cons rfl (.cons rfl (.cons rfl .nil)))) (.cons rfl (.cons rfl (.cons rfl (.cons rfl (.cons rfl .nil)))))
  ·intro w x107 hlJ109 hs
   have H := hs
   replace H : F_panel_readLine_J2 p0 p1 y100 x107 = some r := H
   replace hT := hT.ext hlJ109.ext
   replace leB := leB.trans hlJ109
   unfold F_panel_readLine_J2 at H
   show Tr _ _ (LF [(0, (.pointer (some ⟨bp0, 0, none⟩))), (1, (iv p1)), (7, (.slice Ay100_0 (y100).length cy100_0)), (8, (iv x107))]) (LE [(0, bx bp0 #[(iv p0.W), (iv p0.H), (iv p0.Rail), (iv p0.Gap), (.slice Ap0_0 (p0.Kinds).length cp0_0), (.slice Ap0_1 (p0.Slots).length cp0_1), (.slice Ap0_2 (p0.Marks).length cp0_2)] 26), (1, ow Ap0_0 cp0_0 49 fl_TBoardKind p0.Kinds), (2, ow Ap0_1 cp0_1 53 fl_TSlot p0.Slots), (3, ow Ap0_2 cp0_2 51 fl_TPoint p0.Marks), (4, ow Ay100_0 cy100_0 9 fl_str y100)]) _
   refine Tr.sr ?_
   refine Tr.mv rfl rfl ?_
   refine Tr.mv rfl rfl ?_
   refine Tr.mv rfl rfl ?_
   refine Tr.va rfl (fun _ _ h1 h2 => run_len un_40 (h1.ev rfl)) ?_
   refine Tr.va rfl (fun _ _ h1 h2 => run_min (h1.ev rfl) (h1.ev rfl) _) ?_
   obtain ⟨l110, hl110, H⟩ := bnd H
   refine Tr.va rfl (fun _ _ h1 h2 => run_cutL el_40 (h1.ev rfl) hgy100_0 (h1.ev rfl) hl110) ?_
   obtain ⟨y111, hy111, H⟩ := bnd H
   refine Tr.callM [5] [emp] (U := (Option Addr × Nat)) (fun u => (.tuple #[(.slice u.1 (y111.1).length u.2), (.bool y111.2)])) (fun u => SlF u.1 (y111.1).length u.2) (fun u => [ow u.1 u.2 3 fl_i64 y111.1]) rfl (pk_cons rfl pk_nil) (fun _ => rfl) (wn rfl) rfl Tryz.call32 (evl_cons rfl evl_nil) (fun W hW hp hE => F_plot_Numbers_ok l110 (cutA Ay100_0 (min x107 (y100.length : Int)).toNat 1 cy100_0) (cy100_0 - (min x107 (y100.length : Int)).toNat) (Sl.cut (hW.slS (k := 4) rfl hp rfl) hl110) y111 hy111 hE) ?_
   intro u hu
   obtain ⟨Ay111_0, cy111_0⟩ := u
   have gy111_0 := hu
   have hgy111_0 : SlF Ay111_0 (y111.1).length cy111_0 := gy111_0 --@phi
   show Tr _ _ (uf _ 32 (.tuple #[(.slice Ay111_0 (y111.1).length cy111_0), (.bool y111.2)])) (up _ 5 (ow Ay111_0 cy111_0 3 fl_i64 y111.1)) _
   refine Tr.mv rfl rfl ?_
   refine Tr.va rfl (fun _ _ h1 h2 => run_extract (h1.ev rfl) rfl) ?_
   refine Tr.va rfl (fun _ _ h1 h2 => run_extract (h1.ev rfl) rfl) ?_
   refine Tr.asg rfl rfl ?_
   refine Tr.asg rfl rfl ?_
   refine Tr.nil (Tr.normThen ?_)
   refine Tr.seq ?_
   refine Tr.sr ?_
   refine Tr.mv rfl rfl ?_
   refine Tr.va rfl (fun _ _ h1 h2 => run_not (h1.ev rfl)) ?_
   refine Tr.mv rfl rfl ?_
   obtain ⟨g114, hg114, H⟩ := bnd H
   refine Tr.mid0 8 [(0, (.pointer (some ⟨bp0, 0, none⟩))), (7, (.slice Ay100_0 (y100).length cy100_0)), (9, (.slice Ay111_0 (y111.1).length cy111_0)), (45, (.bool g114))] [(0, bx bp0 #[(iv p0.W), (iv p0.H), (iv p0.Rail), (iv p0.Gap), (.slice Ap0_0 (p0.Kinds).length cp0_0), (.slice Ap0_1 (p0.Slots).length cp0_1), (.slice Ap0_2 (p0.Marks).length cp0_2)] 26), (1, ow Ap0_0 cp0_0 49 fl_TBoardKind p0.Kinds), (2, ow Ap0_1 cp0_1 53 fl_TSlot p0.Slots), (3, ow Ap0_2 cp0_2 51 fl_TPoint p0.Marks), (4, ow Ay100_0 cy100_0 9 fl_str y100), (5, ow Ay111_0 cy111_0 3 fl_i64 y111.1)] ?_ ?_
   ·cases hg178 : (!y111.2)
    ·rw [hg178] at hg114
     rw [if_neg (by decide)] at hg114
     have H := hg114
     refine Tr.val (wg rfl rfl rfl) rfl (fun _ _ h1 h2 => run_move (h1.ev rfl)) ?_
     refine Tr.val (wg rfl rfl rfl) rfl (fun _ _ h1 h2 => run_eql (h1.ev rfl) (h1.ev rfl)) ?_
     refine Tr.val (wg rfl rfl rfl) rfl (fun _ _ h1 h2 => run_move (h1.ev rfl)) ?_
     obtain ⟨x115, hx115, H⟩ := bnd H
     obtain ⟨hx1150, hx1151, hx1152⟩ := idx_some hx115
     refine Tr.val (wg rfl rfl rfl) rfl (fun _ _ h1 h2 => run_indexAddr el_40 (h1.ev rfl) hgy100_0 (h1.ev rfl) hx1150 hx1151) ?_
     refine Tr.val (wg rfl rfl rfl) rfl (fun _ _ h1 h2 => run_load1 ag_9 (h1.ev rfl) (rdo ef_str (k := 4) h2 rfl hx1152) rfl) ?_
     refine Tr.val (wg rfl rfl rfl) rfl (fun _ _ h1 h2 => run_eqlS (h1.ev rfl) (h1.ev rfl)) ?_
     refine Tr.val (wg rfl rfl rfl) rfl (fun _ _ h1 h2 => run_neqB un_4 (h1.ev rfl) (h1.ev rfl)) ?_
     refine Tr.va rfl (fun _ _ h1 h2 => run_pickF (h1.ev rfl) (h1.ev rfl)) ?_
     obtain rfl := Option.some.inj H
     exact Tr.nil (Tr.fin0 (.cons rfl (.cons rfl (.cons rfl (.cons rfl .nil)))) (.cons rfl (.cons rfl (.cons rfl (.cons rfl (.cons rfl (.cons rfl .nil)))))))
    ·rw [hg178] at hg114
     rw [if_pos rfl] at hg114
     have H := hg114
     obtain rfl := Option.some.inj H
     refine Tr.pass rfl rfl rfl rfl rfl (by decide) ?_
     refine Tr.pass rfl rfl rfl rfl rfl (by decide) ?_
     refine Tr.pass rfl rfl rfl rfl rfl (by decide) ?_
     refine Tr.pass rfl rfl rfl rfl rfl (by decide) ?_
     refine Tr.pass rfl rfl rfl rfl rfl (by decide) ?_
     refine Tr.pass rfl rfl rfl rfl rfl (by decide) ?_
     refine Tr.pass rfl rfl rfl rfl rfl (by decide) ?_
     refine Tr.va rfl (fun _ _ h1 h2 => run_pickT (h1.ev rfl) (h1.ev rfl)) ?_
     exact Tr.nil (Tr.fin0 (.cons rfl (.cons rfl (.cons rfl (.cons rfl .nil)))) (.cons rfl (.cons rfl (.cons rfl (.cons rfl (.cons rfl (.cons rfl .nil)))))))
   ·show Tr _ _ (LF [(0, (.pointer (some ⟨bp0, 0, none⟩))), (7, (.slice Ay100_0 (y100).length cy100_0)), (9, (.slice Ay111_0 (y111.1).length cy111_0)), (45, (.bool g114))]) (LE [(0, bx bp0 #[(iv p0.W), (iv p0.H), (iv p0.Rail), (iv p0.Gap), (.slice Ap0_0 (p0.Kinds).length cp0_0), (.slice Ap0_1 (p0.Slots).length cp0_1), (.slice Ap0_2 (p0.Marks).length cp0_2)] 26), (1, ow Ap0_0 cp0_0 49 fl_TBoardKind p0.Kinds), (2, ow Ap0_1 cp0_1 53 fl_TSlot p0.Slots), (3, ow Ap0_2 cp0_2 51 fl_TPoint p0.Marks), (4, ow Ay100_0 cy100_0 9 fl_str y100), (5, ow Ay111_0 cy111_0 3 fl_i64 y111.1)]) _
    refine Tr.nil (Tr.normThen ?_)
    refine Tr.cond rfl H (fun H => ?_) (fun H => ?_)
    ·refine Tr.sr ?_
     refine Tr.asg rfl rfl ?_
     refine Tr.nil (Tr.normThen ?_)
     refine Tr.ret (Tr.retThen ?_)
     obtain rfl := Option.some.inj H
     exact Tr.out (m := [(.bool false)]) [] (res_tmp rfl res_nil) (fun W hW => ⟨((Ap0_0, cp0_0), (Ap0_1, cp0_1), (Ap0_2, cp0_2)), rfl, ⟨hfhp0_0, hfhp0_1, hfhp0_2⟩, HF.lowE leB (hW.pick (ks := [0, 1, 2, 3]) (by decide) (pk_cons rfl (pk_cons rfl (pk_cons rfl (pk_cons rfl pk_nil))))) ⟨bx_any _ _ _, ow_any _ _ _ _ tr_TBoardKind, ow_any _ _ _ _ tr_TSlot, ow_any _ _ _ _ tr_TPoint, trivial⟩⟩)
    ·refine Tr.skip (Tr.normThen ?_)
     have leJ150 := Bs.Le.refl w
     refine Tr.cutJ (σ := Int × Int × Int × Int × (List TBoardKind) × (List TSlot) × (List TPoint) × (Option Addr) × Nat × (Option Addr) × Nat × (Option Addr) × Nat) (fun w s => F_panel_readLine_J1 s.1 s.2.1 s.2.2.1 s.2.2.2.1 s.2.2.2.2.1 s.2.2.2.2.2.1 s.2.2.2.2.2.2.1 = some r ∧ SlF s.2.2.2.2.2.2.2.1 (s.2.2.2.2.1).length s.2.2.2.2.2.2.2.2.1 ∧ SlF s.2.2.2.2.2.2.2.2.2.1 (s.2.2.2.2.2.1).length s.2.2.2.2.2.2.2.2.2.2.1 ∧ SlF s.2.2.2.2.2.2.2.2.2.2.2.1 (s.2.2.2.2.2.2.1).length s.2.2.2.2.2.2.2.2.2.2.2.2) (fun s => []) (fun s => [(0, bx bp0 #[(iv s.1), (iv s.2.1), (iv s.2.2.1), (iv s.2.2.2.1), (.slice s.2.2.2.2.2.2.2.1 (s.2.2.2.2.1).length s.2.2.2.2.2.2.2.2.1), (.slice s.2.2.2.2.2.2.2.2.2.1 (s.2.2.2.2.2.1).length s.2.2.2.2.2.2.2.2.2.2.1), (.slice s.2.2.2.2.2.2.2.2.2.2.2.1 (s.2.2.2.2.2.2.1).length s.2.2.2.2.2.2.2.2.2.2.2.2)] 26), (1, ow s.2.2.2.2.2.2.2.1 s.2.2.2.2.2.2.2.2.1 49 fl_TBoardKind s.2.2.2.2.1), (2, ow s.2.2.2.2.2.2.2.2.2.1 s.2.2.2.2.2.2.2.2.2.2.1 53 fl_TSlot s.2.2.2.2.2.1), (3, ow s.2.2.2.2.2.2.2.2.2.2.2.1 s.2.2.2.2.2.2.2.2.2.2.2.2 51 fl_TPoint s.2.2.2.2.2.2.1)]) ?_ ?_
     ·refine Tr.block ?_
      refine Tr.sr ?_
      refine Tr.mv rfl rfl ?_
      obtain ⟨x152, hx152, H⟩ := bnd H
      obtain ⟨hx1520, hx1521, hx1522⟩ := idx_some hx152
      refine Tr.va rfl (fun _ _ h1 h2 => run_indexAddr el_40 (h1.ev rfl) hgy100_0 (h1.ev rfl) hx1520 hx1521) ?_
      refine Tr.va rfl (fun _ _ h1 h2 => run_load1 ag_9 (h1.ev rfl) (rdo ef_str (k := 4) h2 rfl hx1522) rfl) ?_
      refine Tr.va rfl (fun _ _ h1 h2 => run_eqlS (h1.ev rfl) (h1.ev rfl)) ?_
      refine Tr.mv rfl rfl ?_
      refine Tr.mid0 4 [(0, (.pointer (some ⟨bp0, 0, none⟩))), (7, (.slice Ay100_0 (y100).length cy100_0)), (9, (.slice Ay111_0 (y111.1).length cy111_0)), (55, (.bool ((sEq x152 (⟨#[112, 97, 110, 101, 108]⟩)) && ((y100.length : Int) == 5))))] [(0, bx bp0 #[(iv p0.W), (iv p0.H), (iv p0.Rail), (iv p0.Gap), (.slice Ap0_0 (p0.Kinds).length cp0_0), (.slice Ap0_1 (p0.Slots).length cp0_1), (.slice Ap0_2 (p0.Marks).length cp0_2)] 26), (1, ow Ap0_0 cp0_0 49 fl_TBoardKind p0.Kinds), (2, ow Ap0_1 cp0_1 53 fl_TSlot p0.Slots), (3, ow Ap0_2 cp0_2 51 fl_TPoint p0.Marks), (4, ow Ay100_0 cy100_0 9 fl_str y100), (5, ow Ay111_0 cy111_0 3 fl_i64 y111.1)] ?_ ?_
      ·cases hg178 : (sEq x152 (⟨#[112, 97, 110, 101, 108]⟩))
       ·refine Tr.pass rfl rfl rfl rfl rfl (by decide) ?_
        refine Tr.pass rfl rfl rfl rfl rfl (by decide) ?_
        refine Tr.pass rfl rfl rfl rfl rfl (by decide) ?_
        refine Tr.va rfl (fun _ _ h1 h2 => run_pickF (h1.ev rfl) (h1.ev rfl)) ?_
        exact Tr.nil (Tr.fin0 (.cons rfl (.cons rfl (.cons rfl (.cons rfl .nil)))) (.cons rfl (.cons rfl (.cons rfl (.cons rfl (.cons rfl (.cons rfl .nil)))))))
       ·refine Tr.val (wg rfl rfl rfl) rfl (fun _ _ h1 h2 => run_move (h1.ev rfl)) ?_
        refine Tr.val (wg rfl rfl rfl) rfl (fun _ _ h1 h2 => run_len un_40 (h1.ev rfl)) ?_
        refine Tr.val (wg rfl rfl rfl) rfl (fun _ _ h1 h2 => run_eql (h1.ev rfl) (h1.ev rfl)) ?_
        refine Tr.va rfl (fun _ _ h1 h2 => run_pickT (h1.ev rfl) (h1.ev rfl)) ?_
        exact Tr.nil (Tr.fin0 (.cons rfl (.cons rfl (.cons rfl (.cons rfl .nil)))) (.cons rfl (.cons rfl (.cons rfl (.cons rfl (.cons rfl (.cons rfl .nil)))))))
      ·show Tr _ _ (LF [(0, (.pointer (some ⟨bp0, 0, none⟩))), (7, (.slice Ay100_0 (y100).length cy100_0)), (9, (.slice Ay111_0 (y111.1).length cy111_0)), (55, (.bool ((sEq x152 (⟨#[112, 97, 110, 101, 108]⟩)) && ((y100.length : Int) == 5))))]) (LE [(0, bx bp0 #[(iv p0.W), (iv p0.H), (iv p0.Rail), (iv p0.Gap), (.slice Ap0_0 (p0.Kinds).length cp0_0), (.slice Ap0_1 (p0.Slots).length cp0_1), (.slice Ap0_2 (p0.Marks).length cp0_2)] 26), (1, ow Ap0_0 cp0_0 49 fl_TBoardKind p0.Kinds), (2, ow Ap0_1 cp0_1 53 fl_TSlot p0.Slots), (3, ow Ap0_2 cp0_2 51 fl_TPoint p0.Marks), (4, ow Ay100_0 cy100_0 9 fl_str y100), (5, ow Ay111_0 cy111_0 3 fl_i64 y111.1)]) _
       refine Tr.asg rfl rfl ?_
       refine Tr.nil (Tr.normThen ?_)
       refine Tr.cond rfl H (fun H => ?_) (fun H => ?_)
       ·refine Tr.drawC 25 [(18, fun x => x = bp0), (21, fun x => x = bp0), (24, fun x => x = bp0)] [] (by kernel_rfl) (by kernel_rfl) fun sz153 hlosz153 hEsz153 => ?_
        refine Dr.quiet 0 [(56, (.pointer (some ⟨bp0, 0, none⟩)))] (by kernel_rfl) rfl rfl (by kernel_rfl) ?_ rfl rfl ?_
        ·refine Tq.mv rfl rfl ?_
         exact Tq.fin (.cons rfl .nil)
        refine Dr.quietP 1 (by kernel_rfl) rfl (wn rfl) rfl (by kernel_rfl) (fun _ _ h1 => run_move (h1.ev rfl)) rfl ?_
        refine Dr.quietP 2 (by kernel_rfl) rfl (wn rfl) rfl (by kernel_rfl) (fun _ _ h1 => run_move (h1.ev rfl)) rfl ?_
        refine Dr.quietP 3 (by kernel_rfl) rfl (wn rfl) rfl (by kernel_rfl) (fun _ _ h1 => run_move (h1.ev rfl)) rfl ?_
        refine Dr.quiet 4 [(60, (.slice Ay111_0 (y111.1).length cy111_0))] (by kernel_rfl) rfl rfl (by kernel_rfl) ?_ rfl rfl ?_
        ·refine Tq.mv rfl rfl ?_
         exact Tq.fin (.cons rfl .nil)
        obtain ⟨x154, hx154, H⟩ := bnd H
        obtain ⟨hx1540, hx1541, hx1542⟩ := idx_some hx154
        refine Dr.quiet 5 [(61, (.pointer (some ⟨adB Ay111_0, adO Ay111_0 + ((0 : Int)).toNat * 1, none⟩)))] (by kernel_rfl) rfl rfl (by kernel_rfl) ?_ rfl rfl ?_
        ·refine Tq.va rfl (fun _ _ h1 h2 => run_indexAddr el_64 (h1.ev rfl) hgy111_0 (h1.ev rfl) hx1540 hx1541) ?_
         exact Tq.fin (.cons rfl .nil)
        refine Dr.quiet 6 [(62, (iv x154))] (by kernel_rfl) rfl rfl (by kernel_rfl) ?_ rfl rfl ?_
        ·refine Tq.va rfl (fun _ _ h1 h2 => run_load1 ag_3 (h1.ev rfl) (rdo ef_i64 (k := 5) h2 rfl hx1542) rfl) ?_
         exact Tq.fin (.cons rfl .nil)
        refine Dr.quietP 7 (by kernel_rfl) rfl (wn rfl) rfl (by kernel_rfl) (fun _ _ h1 => run_move (h1.ev rfl)) rfl ?_
        obtain ⟨x155, hx155, H⟩ := bnd H
        obtain ⟨hx1550, hx1551, hx1552⟩ := idx_some hx155
        refine Dr.quietP 8 (by kernel_rfl) rfl (wn rfl) rfl (by kernel_rfl) (fun _ _ h1 => run_indexAddr el_64 (h1.ev rfl) hgy111_0 (h1.ev rfl) hx1550 hx1551) rfl ?_
        refine Dr.quiet 9 [(65, (iv x155))] (by kernel_rfl) rfl rfl (by kernel_rfl) ?_ rfl rfl ?_
        ·refine Tq.va rfl (fun _ _ h1 h2 => run_load1 ag_3 (h1.ev rfl) (rdo ef_i64 (k := 5) h2 rfl hx1552) rfl) ?_
         exact Tq.fin (.cons rfl .nil)
        refine Dr.quietP 10 (by kernel_rfl) rfl (wn rfl) rfl (by kernel_rfl) (fun _ _ h1 => run_move (h1.ev rfl)) rfl ?_
        obtain ⟨x156, hx156, H⟩ := bnd H
        obtain ⟨hx1560, hx1561, hx1562⟩ := idx_some hx156
        refine Dr.quietP 11 (by kernel_rfl) rfl (wn rfl) rfl (by kernel_rfl) (fun _ _ h1 => run_indexAddr el_64 (h1.ev rfl) hgy111_0 (h1.ev rfl) hx1560 hx1561) rfl ?_
        refine Dr.quiet 12 [(68, (iv x156))] (by kernel_rfl) rfl rfl (by kernel_rfl) ?_ rfl rfl ?_
        ·refine Tq.va rfl (fun _ _ h1 h2 => run_load1 ag_3 (h1.ev rfl) (rdo ef_i64 (k := 5) h2 rfl hx1562) rfl) ?_
         exact Tq.fin (.cons rfl .nil)
        refine Dr.quietP 13 (by kernel_rfl) rfl (wn rfl) rfl (by kernel_rfl) (fun _ _ h1 => run_move (h1.ev rfl)) rfl ?_
        obtain ⟨x157, hx157, H⟩ := bnd H
        obtain ⟨hx1570, hx1571, hx1572⟩ := idx_some hx157
        refine Dr.quietP 14 (by kernel_rfl) rfl (wn rfl) rfl (by kernel_rfl) (fun _ _ h1 => run_indexAddr el_64 (h1.ev rfl) hgy111_0 (h1.ev rfl) hx1570 hx1571) rfl ?_
        refine Dr.quiet 15 [(71, (iv x157))] (by kernel_rfl) rfl rfl (by kernel_rfl) ?_ rfl rfl ?_
        ·refine Tq.va rfl (fun _ _ h1 h2 => run_load1 ag_3 (h1.ev rfl) (rdo ef_i64 (k := 5) h2 rfl hx1572) rfl) ?_
         exact Tq.fin (.cons rfl .nil)
        refine Dr.quietP 16 (by kernel_rfl) rfl (wn rfl) rfl (by kernel_rfl) (fun _ _ h1 => run_nilCheck (h1.ev rfl)) rfl ?_
        refine Dr.quiet 17 [(73, (.pointer (some ⟨bp0, 0, none⟩)))] (by kernel_rfl) rfl rfl (by kernel_rfl) ?_ rfl rfl ?_
        ·refine Tq.va rfl (fun _ _ h1 h2 => run_fieldAddr fo_26_0 (h1.ev rfl)) ?_
         exact Tq.fin (.cons rfl .nil)
        refine Dr.one 18 (by kernel_rfl) ?_
        refine St.store 18 0 (cs := [(iv x154)]) [(iv x154), (iv p0.H), (iv p0.Rail), (iv p0.Gap), (.slice Ap0_0 (p0.Kinds).length cp0_0), (.slice Ap0_1 (p0.Slots).length cp0_1), (.slice Ap0_2 (p0.Marks).length cp0_2)] rfl (wn rfl) (.inl ⟨_, List.mem_cons_self, rfl, rfl⟩) rfl rfl rfl rfl sz_3 rfl rfl rfl ?_
        refine Dr.quietP 19 (by kernel_rfl) rfl (wn rfl) rfl (by kernel_rfl) (fun _ _ h1 => run_nilCheck (h1.ev rfl)) rfl ?_
        refine Dr.quiet 20 [(75, (.pointer (some ⟨bp0, 1, none⟩)))] (by kernel_rfl) rfl rfl (by kernel_rfl) ?_ rfl rfl ?_
        ·refine Tq.va rfl (fun _ _ h1 h2 => run_fieldAddr fo_26_1 (h1.ev rfl)) ?_
         exact Tq.fin (.cons rfl .nil)
        refine Dr.one 21 (by kernel_rfl) ?_
        refine St.store 21 0 (cs := [(iv x155)]) [(iv x154), (iv x155), (iv p0.Rail), (iv p0.Gap), (.slice Ap0_0 (p0.Kinds).length cp0_0), (.slice Ap0_1 (p0.Slots).length cp0_1), (.slice Ap0_2 (p0.Marks).length cp0_2)] rfl (wn rfl) (.inl ⟨_, (List.mem_cons_of_mem _ List.mem_cons_self), rfl, rfl⟩) rfl rfl rfl rfl sz_3 rfl rfl rfl ?_
        refine Dr.quietP 22 (by kernel_rfl) rfl (wn rfl) rfl (by kernel_rfl) (fun _ _ h1 => run_nilCheck (h1.ev rfl)) rfl ?_
        refine Dr.quiet 23 [(77, (.pointer (some ⟨bp0, 2, none⟩)))] (by kernel_rfl) rfl rfl (by kernel_rfl) ?_ rfl rfl ?_
        ·refine Tq.va rfl (fun _ _ h1 h2 => run_fieldAddr fo_26_2 (h1.ev rfl)) ?_
         exact Tq.fin (.cons rfl .nil)
        refine Dr.one 24 (by kernel_rfl) ?_
        refine St.store 24 0 (cs := [(iv x156)]) [(iv x154), (iv x155), (iv x156), (iv p0.Gap), (.slice Ap0_0 (p0.Kinds).length cp0_0), (.slice Ap0_1 (p0.Slots).length cp0_1), (.slice Ap0_2 (p0.Marks).length cp0_2)] rfl (wn rfl) (.inl ⟨_, (List.mem_cons_of_mem _ (List.mem_cons_of_mem _ List.mem_cons_self)), rfl, rfl⟩) rfl rfl rfl rfl sz_3 rfl rfl rfl ?_
        refine Dr.tail (by kernel_rfl) ?_
        refine Tr.va rfl (fun _ _ h1 h2 => run_nilCheck (h1.ev rfl)) ?_
        refine Tr.va rfl (fun _ _ h1 h2 => run_fieldAddr fo_26_3 (h1.ev rfl)) ?_
        refine Tr.store 0 (cs := [(iv x157)]) [(iv x154), (iv x155), (iv x156), (iv x157), (.slice Ap0_0 (p0.Kinds).length cp0_0), (.slice Ap0_1 (p0.Slots).length cp0_1), (.slice Ap0_2 (p0.Marks).length cp0_2)] (wn rfl) rfl rfl rfl rfl sz_3 rfl rfl rfl ?_
        refine Tr.nil (Tr.normBlock ?_)
        exact Tr.backThen leJ150 (x154, x155, x156, x157, p0.Kinds, p0.Slots, p0.Marks, Ap0_0, cp0_0, Ap0_1, cp0_1, Ap0_2, cp0_2) ⟨H, hfhp0_0, hfhp0_1, hfhp0_2⟩ .nil (.cons rfl (.cons rfl (.cons rfl (.cons rfl .nil))))
       ·refine Tr.seq ?_
        refine Tr.draw (by kernel_rfl) (by kernel_rfl) ?_
        refine Tq.mv rfl rfl ?_
        obtain ⟨x158, hx158, H⟩ := bnd H
        obtain ⟨hx1580, hx1581, hx1582⟩ := idx_some hx158
        refine Tq.va rfl (fun _ _ h1 h2 => run_indexAddr el_40 (h1.ev rfl) hgy100_0 (h1.ev rfl) hx1580 hx1581) ?_
        refine Tq.va rfl (fun _ _ h1 h2 => run_load1 ag_9 (h1.ev rfl) (rdo ef_str (k := 4) h2 rfl hx1582) rfl) ?_
        refine Tq.va rfl (fun _ _ h1 h2 => run_eqlS (h1.ev rfl) (h1.ev rfl)) ?_
        refine Tq.mv rfl rfl ?_
        refine Tq.mid 4 [(0, (.pointer (some ⟨bp0, 0, none⟩))), (7, (.slice Ay100_0 (y100).length cy100_0)), (9, (.slice Ay111_0 (y111.1).length cy111_0)), (89, (.bool ((sEq x158 (⟨#[98, 111, 97, 114, 100]⟩)) && ((y100.length : Int) == 4))))] ?_ ?_
        ·cases hg178 : (sEq x158 (⟨#[98, 111, 97, 114, 100]⟩))
         ·refine Tq.pass rfl rfl rfl rfl rfl (by decide) ?_
          refine Tq.pass rfl rfl rfl rfl rfl (by decide) ?_
          refine Tq.pass rfl rfl rfl rfl rfl (by decide) ?_
          refine Tq.va rfl (fun _ _ h1 h2 => run_pickF (h1.ev rfl) (h1.ev rfl)) ?_
          exact Tq.fin (.cons rfl (.cons rfl (.cons rfl (.cons rfl .nil))))
         ·refine Tq.val (wg rfl rfl rfl) rfl (fun _ _ h1 h2 => run_move (h1.ev rfl)) ?_
          refine Tq.val (wg rfl rfl rfl) rfl (fun _ _ h1 h2 => run_len un_40 (h1.ev rfl)) ?_
          refine Tq.val (wg rfl rfl rfl) rfl (fun _ _ h1 h2 => run_eql (h1.ev rfl) (h1.ev rfl)) ?_
          refine Tq.va rfl (fun _ _ h1 h2 => run_pickT (h1.ev rfl) (h1.ev rfl)) ?_
          exact Tq.fin (.cons rfl (.cons rfl (.cons rfl (.cons rfl .nil))))
        ·refine Tq.mv rfl rfl ?_
         refine Tq.mid 13 [(0, (.pointer (some ⟨bp0, 0, none⟩))), (7, (.slice Ay100_0 (y100).length cy100_0)), (9, (.slice Ay111_0 (y111.1).length cy111_0)), (103, (.bool (((sEq x158 (⟨#[98, 111, 97, 114, 100]⟩)) && ((y100.length : Int) == 4)) && ((w64 ((p0.Slots.length : Int) + (p0.Marks.length : Int))) == 0))))] ?_ ?_
         ·cases hg178 : ((sEq x158 (⟨#[98, 111, 97, 114, 100]⟩)) && ((y100.length : Int) == 4))
          ·refine Tq.pass rfl rfl rfl rfl rfl (by decide) ?_
           refine Tq.pass rfl rfl rfl rfl rfl (by decide) ?_
           refine Tq.pass rfl rfl rfl rfl rfl (by decide) ?_
           refine Tq.pass rfl rfl rfl rfl rfl (by decide) ?_
           refine Tq.pass rfl rfl rfl rfl rfl (by decide) ?_
           refine Tq.pass rfl rfl rfl rfl rfl (by decide) ?_
           refine Tq.pass rfl rfl rfl rfl rfl (by decide) ?_
           refine Tq.pass rfl rfl rfl rfl rfl (by decide) ?_
           refine Tq.pass rfl rfl rfl rfl rfl (by decide) ?_
           refine Tq.pass rfl rfl rfl rfl rfl (by decide) ?_
           refine Tq.pass rfl rfl rfl rfl rfl (by decide) ?_
           refine Tq.pass rfl rfl rfl rfl rfl (by decide) ?_
           refine Tq.va rfl (fun _ _ h1 h2 => run_pickF (h1.ev rfl) (h1.ev rfl)) ?_
           exact Tq.fin (.cons rfl (.cons rfl (.cons rfl (.cons rfl .nil))))
          ·refine Tq.val (wg rfl rfl rfl) rfl (fun _ _ h1 h2 => run_move (h1.ev rfl)) ?_
           refine Tq.val (wg rfl rfl rfl) rfl (fun _ _ h1 h2 => run_nilCheck (h1.ev rfl)) ?_
           refine Tq.val (wg rfl rfl rfl) rfl (fun _ _ h1 h2 => run_fieldAddr fo_26_5 (h1.ev rfl)) ?_
           refine Tq.val (wg rfl rfl rfl) rfl (fun _ _ h1 h2 => run_load1 ag_23 (h1.ev rfl) (rdb h2 (vs := [(iv p0.W), (iv p0.H), (iv p0.Rail), (iv p0.Gap), (.slice Ap0_0 (p0.Kinds).length cp0_0), (.slice Ap0_1 (p0.Slots).length cp0_1), (.slice Ap0_2 (p0.Marks).length cp0_2)]) (k := 0) rfl 5) rfl) ?_
           refine Tq.val (wg rfl rfl rfl) rfl (fun _ _ h1 h2 => run_len un_23 (h1.ev rfl)) ?_
           refine Tq.val (wg rfl rfl rfl) rfl (fun _ _ h1 h2 => run_move (h1.ev rfl)) ?_
           refine Tq.val (wg rfl rfl rfl) rfl (fun _ _ h1 h2 => run_nilCheck (h1.ev rfl)) ?_
           refine Tq.val (wg rfl rfl rfl) rfl (fun _ _ h1 h2 => run_fieldAddr fo_26_6 (h1.ev rfl)) ?_
           refine Tq.val (wg rfl rfl rfl) rfl (fun _ _ h1 h2 => run_load1 ag_24 (h1.ev rfl) (rdb h2 (vs := [(iv p0.W), (iv p0.H), (iv p0.Rail), (iv p0.Gap), (.slice Ap0_0 (p0.Kinds).length cp0_0), (.slice Ap0_1 (p0.Slots).length cp0_1), (.slice Ap0_2 (p0.Marks).length cp0_2)]) (k := 0) rfl 6) rfl) ?_
           refine Tq.val (wg rfl rfl rfl) rfl (fun _ _ h1 h2 => run_len un_24 (h1.ev rfl)) ?_
           refine Tq.val (wg rfl rfl rfl) rfl (fun _ _ h1 h2 => run_add (h1.ev rfl) (h1.ev rfl)) ?_
           refine Tq.val (wg rfl rfl rfl) rfl (fun _ _ h1 h2 => run_eql (h1.ev rfl) (h1.ev rfl)) ?_
           refine Tq.va rfl (fun _ _ h1 h2 => run_pickT (h1.ev rfl) (h1.ev rfl)) ?_
           exact Tq.fin (.cons rfl (.cons rfl (.cons rfl (.cons rfl .nil))))
         ·refine Tq.asg rfl rfl ?_
          refine Tq.nil (Tr.normThen ?_)
          refine Tr.cond rfl H (fun H => ?_) (fun H => ?_)
          ·refine Tr.drawC 17 [(16, (ow Ap0_0 cp0_0 49 fl_TBoardKind p0.Kinds).S)] [] (by kernel_rfl) (by kernel_rfl) fun sz159 hlosz159 hEsz159 => ?_
           refine Dr.quietP 0 (by kernel_rfl) rfl (wn rfl) rfl (by kernel_rfl) (fun _ _ h1 => run_move (h1.ev rfl)) rfl ?_
           refine Dr.quietP 1 (by kernel_rfl) rfl (wn rfl) rfl (by kernel_rfl) (fun _ _ h1 => run_move (h1.ev rfl)) rfl ?_
           refine Dr.quietP 2 (by kernel_rfl) rfl (wn rfl) rfl (by kernel_rfl) (fun _ _ h1 => run_nilCheck (h1.ev rfl)) rfl ?_
           refine Dr.quietP 3 (by kernel_rfl) rfl (wn rfl) rfl (by kernel_rfl) (fun _ _ h1 => run_fieldAddr fo_26_4 (h1.ev rfl)) rfl ?_
           refine Dr.quiet 4 [(108, (.slice Ap0_0 (p0.Kinds).length cp0_0))] (by kernel_rfl) rfl rfl (by kernel_rfl) ?_ rfl rfl ?_
           ·refine Tq.va rfl (fun _ _ h1 h2 => run_load1 ag_22 (h1.ev rfl) (rdb h2 (vs := [(iv p0.W), (iv p0.H), (iv p0.Rail), (iv p0.Gap), (.slice Ap0_0 (p0.Kinds).length cp0_0), (.slice Ap0_1 (p0.Slots).length cp0_1), (.slice Ap0_2 (p0.Marks).length cp0_2)]) (k := 0) rfl 4) rfl) ?_
            exact Tq.fin (.cons rfl .nil)
           refine Dr.quietP 5 (by kernel_rfl) rfl (wn rfl) rfl (by kernel_rfl) (fun _ _ h1 => run_move (h1.ev rfl)) rfl ?_
           obtain ⟨x160, hx160, H⟩ := bnd H
           obtain ⟨hx1600, hx1601, hx1602⟩ := idx_some hx160
           refine Dr.quietP 6 (by kernel_rfl) rfl (wn rfl) rfl (by kernel_rfl) (fun _ _ h1 => run_indexAddr el_40 (h1.ev rfl) hgy100_0 (h1.ev rfl) hx1600 hx1601) rfl ?_
           refine Dr.quietZ 7 [(111, (sv x160))] [16] false (by kernel_rfl) rfl rfl (by kernel_rfl) (fun W W' h2 hsW hk => HF.keepZ (le := [(4, ow Ay100_0 cy100_0 9 fl_str y100)]) (ks := [(1, (ow Ap0_0 cp0_0 49 fl_TBoardKind p0.Kinds).S)]) (s0 := sz159) false h2 hk (fun h => absurd h (by decide)) (.cons rfl .nil) (fun b hb => hb.elim (fun ⟨p, hp, hf, hb⟩ => by simp only [List.mem_cons, List.not_mem_nil, or_false] at hp; rcases hp with rfl; exact .inl ⟨_, List.mem_cons_self, hb⟩) (fun hb => absurd hb.1 (by decide))) (List.forall_mem_cons.2 ⟨fun b hb => hb, (fun _ h => nomatch h)⟩) rfl) ?_ rfl rfl ?_
           ·refine Tq.va rfl (fun _ _ h1 h2 => run_load1 ag_9 (h1.ev rfl) (rdo ef_str (k := 4) h2 rfl hx1602) rfl) ?_
            exact Tq.fin (.cons rfl .nil)
           refine Dr.quietP 8 (by kernel_rfl) rfl (wn rfl) rfl (by kernel_rfl) (fun _ _ h1 => run_move (h1.ev rfl)) rfl ?_
           obtain ⟨x161, hx161, H⟩ := bnd H
           obtain ⟨hx1610, hx1611, hx1612⟩ := idx_some hx161
           refine Dr.quietP 9 (by kernel_rfl) rfl (wn rfl) rfl (by kernel_rfl) (fun _ _ h1 => run_indexAddr el_64 (h1.ev rfl) hgy111_0 (h1.ev rfl) hx1610 hx1611) rfl ?_
           refine Dr.quietZ 10 [(114, (iv x161))] [16] false (by kernel_rfl) rfl rfl (by kernel_rfl) (fun W W' h2 hsW hk => HF.keepZ (le := [(5, ow Ay111_0 cy111_0 3 fl_i64 y111.1)]) (ks := [(1, (ow Ap0_0 cp0_0 49 fl_TBoardKind p0.Kinds).S)]) (s0 := sz159) false h2 hk (fun h => absurd h (by decide)) (.cons rfl .nil) (fun b hb => hb.elim (fun ⟨p, hp, hf, hb⟩ => by simp only [List.mem_cons, List.not_mem_nil, or_false] at hp; rcases hp with rfl; exact .inl ⟨_, List.mem_cons_self, hb⟩) (fun hb => absurd hb.1 (by decide))) (List.forall_mem_cons.2 ⟨fun b hb => hb, (fun _ h => nomatch h)⟩) rfl) ?_ rfl rfl ?_
           ·refine Tq.va rfl (fun _ _ h1 h2 => run_load1 ag_3 (h1.ev rfl) (rdo ef_i64 (k := 5) h2 rfl hx1612) rfl) ?_
            exact Tq.fin (.cons rfl .nil)
           refine Dr.quietP 11 (by kernel_rfl) rfl (wn rfl) rfl (by kernel_rfl) (fun _ _ h1 => run_move (h1.ev rfl)) rfl ?_
           obtain ⟨x162, hx162, H⟩ := bnd H
           obtain ⟨hx1620, hx1621, hx1622⟩ := idx_some hx162
           refine Dr.quietP 12 (by kernel_rfl) rfl (wn rfl) rfl (by kernel_rfl) (fun _ _ h1 => run_indexAddr el_64 (h1.ev rfl) hgy111_0 (h1.ev rfl) hx1620 hx1621) rfl ?_
           refine Dr.quietZ 13 [(117, (iv x162))] [16] false (by kernel_rfl) rfl rfl (by kernel_rfl) (fun W W' h2 hsW hk => HF.keepZ (le := [(5, ow Ay111_0 cy111_0 3 fl_i64 y111.1)]) (ks := [(1, (ow Ap0_0 cp0_0 49 fl_TBoardKind p0.Kinds).S)]) (s0 := sz159) false h2 hk (fun h => absurd h (by decide)) (.cons rfl .nil) (fun b hb => hb.elim (fun ⟨p, hp, hf, hb⟩ => by simp only [List.mem_cons, List.not_mem_nil, or_false] at hp; rcases hp with rfl; exact .inl ⟨_, List.mem_cons_self, hb⟩) (fun hb => absurd hb.1 (by decide))) (List.forall_mem_cons.2 ⟨fun b hb => hb, (fun _ h => nomatch h)⟩) rfl) ?_ rfl rfl ?_
           ·refine Tq.va rfl (fun _ _ h1 h2 => run_load1 ag_3 (h1.ev rfl) (rdo ef_i64 (k := 5) h2 rfl hx1622) rfl) ?_
            exact Tq.fin (.cons rfl .nil)
           refine Dr.quietZ 14 [(118, (.agg #[(sv x160), (iv x161), (iv x162)]))] [16] false (by kernel_rfl) rfl rfl (by kernel_rfl) (fun W W' h2 hsW hk => HF.keepZ (le := []) (ks := [(1, (ow Ap0_0 cp0_0 49 fl_TBoardKind p0.Kinds).S)]) (s0 := sz159) false h2 hk (fun h => absurd h (by decide)) .nil (fun b hb => hb.elim (fun ⟨p, hp, hf, hb⟩ => by simp only [List.mem_cons, List.not_mem_nil, or_false] at hp; rcases hp with rfl; exact .inl ⟨_, List.mem_cons_self, hb⟩) (fun hb => absurd hb.1 (by decide))) (List.forall_mem_cons.2 ⟨fun b hb => hb, (fun _ h => nomatch h)⟩) rfl) ?_ rfl rfl ?_
           ·refine Tq.build (vs := [(0, (sv x160)), (1, (iv x161)), (2, (iv x162))]) (cs := [(sv x160), (iv x161), (iv x162)]) (wn rfl) rfl (evs_cons rfl (evs_cons rfl (evs_cons rfl evs_nil))) (by kernel_rfl) ?_
            exact Tq.fin (.cons rfl .nil)
           refine Dr.one 15 (by kernel_rfl) ?_
           refine St.buildSlice 15 9 (e := 49) (vs := [(0, (.agg #[(sv x160), (iv x161), (iv x162)]))]) (cs := [(sv x160), (iv x161), (iv x162)]) rfl (wn rfl) rfl (evs_cons rfl evs_nil) (by kernel_rfl) fun b163 hb163 => ?_
           obtain ⟨l164, hl164, H⟩ := bnd H
           refine Dr.one 16 (by kernel_rfl) ?_
           refine St.append 16 1 (t' := fl_TBoardKind) (ll := p0.Kinds) (l2 := [(TBoardKind.mk x160 x161 x162)]) (fun b hb => .inl ⟨_, List.mem_cons_self, rfl, hb⟩) rfl (wn rfl) rfl rfl rfl rfl (fun W hW => ⟨[[(sv x160), (iv x161), (iv x162)]], (.cons ⟨(), trivial, rfl⟩ .nil), rdb hW (vs := [(sv x160), (iv x161), (iv x162)]) (k := 9) rfl 0⟩) un_22 sz_49 zl_49 (by decide) by_49 rfl hl164 fun Al164 cl164 hAl164 => ?_
           refine Dr.tail (by kernel_rfl) ?_
           refine Tr.va rfl (fun _ _ h1 h2 => run_nilCheck (h1.ev rfl)) ?_
           refine Tr.va rfl (fun _ _ h1 h2 => run_fieldAddr fo_26_4 (h1.ev rfl)) ?_
           refine Tr.store 0 (cs := [(.slice Al164 (l164).length cl164)]) [(iv p0.W), (iv p0.H), (iv p0.Rail), (iv p0.Gap), (.slice Al164 (l164).length cl164), (.slice Ap0_1 (p0.Slots).length cp0_1), (.slice Ap0_2 (p0.Marks).length cp0_2)] (wn rfl) rfl rfl rfl rfl sz_22 rfl rfl rfl ?_
           refine Tr.nil (Tr.normBlock ?_)
           exact Tr.backThen leJ150 (p0.W, p0.H, p0.Rail, p0.Gap, l164, p0.Slots, p0.Marks, Al164, cl164, Ap0_1, cp0_1, Ap0_2, cp0_2) ⟨H, hAl164, hfhp0_1, hfhp0_2⟩ .nil (.cons rfl (.cons rfl (.cons rfl (.cons rfl .nil))))
          ·refine Tr.sr ?_
           refine Tr.mv rfl rfl ?_
           obtain ⟨x165, hx165, H⟩ := bnd H
           obtain ⟨hx1650, hx1651, hx1652⟩ := idx_some hx165
           refine Tr.va rfl (fun _ _ h1 h2 => run_indexAddr el_40 (h1.ev rfl) hgy100_0 (h1.ev rfl) hx1650 hx1651) ?_
           refine Tr.va rfl (fun _ _ h1 h2 => run_load1 ag_9 (h1.ev rfl) (rdo ef_str (k := 4) h2 rfl hx1652) rfl) ?_
           refine Tr.va rfl (fun _ _ h1 h2 => run_eqlS (h1.ev rfl) (h1.ev rfl)) ?_
           refine Tr.mv rfl rfl ?_
           refine Tr.mid0 4 [(0, (.pointer (some ⟨bp0, 0, none⟩))), (7, (.slice Ay100_0 (y100).length cy100_0)), (9, (.slice Ay111_0 (y111.1).length cy111_0)), (132, (.bool ((sEq x165 (⟨#[115, 108, 111, 116]⟩)) && ((y100.length : Int) == 5))))] [(0, bx bp0 #[(iv p0.W), (iv p0.H), (iv p0.Rail), (iv p0.Gap), (.slice Ap0_0 (p0.Kinds).length cp0_0), (.slice Ap0_1 (p0.Slots).length cp0_1), (.slice Ap0_2 (p0.Marks).length cp0_2)] 26), (1, ow Ap0_0 cp0_0 49 fl_TBoardKind p0.Kinds), (2, ow Ap0_1 cp0_1 53 fl_TSlot p0.Slots), (3, ow Ap0_2 cp0_2 51 fl_TPoint p0.Marks), (4, ow Ay100_0 cy100_0 9 fl_str y100), (5, ow Ay111_0 cy111_0 3 fl_i64 y111.1)] ?_ ?_
           ·cases hg178 : (sEq x165 (⟨#[115, 108, 111, 116]⟩))
            ·refine Tr.pass rfl rfl rfl rfl rfl (by decide) ?_
             refine Tr.pass rfl rfl rfl rfl rfl (by decide) ?_
             refine Tr.pass rfl rfl rfl rfl rfl (by decide) ?_
             refine Tr.va rfl (fun _ _ h1 h2 => run_pickF (h1.ev rfl) (h1.ev rfl)) ?_
             exact Tr.nil (Tr.fin0 (.cons rfl (.cons rfl (.cons rfl (.cons rfl .nil)))) (.cons rfl (.cons rfl (.cons rfl (.cons rfl (.cons rfl (.cons rfl .nil)))))))
            ·refine Tr.val (wg rfl rfl rfl) rfl (fun _ _ h1 h2 => run_move (h1.ev rfl)) ?_
             refine Tr.val (wg rfl rfl rfl) rfl (fun _ _ h1 h2 => run_len un_40 (h1.ev rfl)) ?_
             refine Tr.val (wg rfl rfl rfl) rfl (fun _ _ h1 h2 => run_eql (h1.ev rfl) (h1.ev rfl)) ?_
             refine Tr.va rfl (fun _ _ h1 h2 => run_pickT (h1.ev rfl) (h1.ev rfl)) ?_
             exact Tr.nil (Tr.fin0 (.cons rfl (.cons rfl (.cons rfl (.cons rfl .nil)))) (.cons rfl (.cons rfl (.cons rfl (.cons rfl (.cons rfl (.cons rfl .nil)))))))
           ·show Tr _ _ (LF [(0, (.pointer (some ⟨bp0, 0, none⟩))), (7, (.slice Ay100_0 (y100).length cy100_0)), (9, (.slice Ay111_0 (y111.1).length cy111_0)), (132, (.bool ((sEq x165 (⟨#[115, 108, 111, 116]⟩)) && ((y100.length : Int) == 5))))]) (LE [(0, bx bp0 #[(iv p0.W), (iv p0.H), (iv p0.Rail), (iv p0.Gap), (.slice Ap0_0 (p0.Kinds).length cp0_0), (.slice Ap0_1 (p0.Slots).length cp0_1), (.slice Ap0_2 (p0.Marks).length cp0_2)] 26), (1, ow Ap0_0 cp0_0 49 fl_TBoardKind p0.Kinds), (2, ow Ap0_1 cp0_1 53 fl_TSlot p0.Slots), (3, ow Ap0_2 cp0_2 51 fl_TPoint p0.Marks), (4, ow Ay100_0 cy100_0 9 fl_str y100), (5, ow Ay111_0 cy111_0 3 fl_i64 y111.1)]) _
            refine Tr.mv rfl rfl ?_
            refine Tr.mid0 7 [(0, (.pointer (some ⟨bp0, 0, none⟩))), (7, (.slice Ay100_0 (y100).length cy100_0)), (9, (.slice Ay111_0 (y111.1).length cy111_0)), (140, (.bool (((sEq x165 (⟨#[115, 108, 111, 116]⟩)) && ((y100.length : Int) == 5)) && ((p0.Marks.length : Int) == 0))))] [(0, bx bp0 #[(iv p0.W), (iv p0.H), (iv p0.Rail), (iv p0.Gap), (.slice Ap0_0 (p0.Kinds).length cp0_0), (.slice Ap0_1 (p0.Slots).length cp0_1), (.slice Ap0_2 (p0.Marks).length cp0_2)] 26), (1, ow Ap0_0 cp0_0 49 fl_TBoardKind p0.Kinds), (2, ow Ap0_1 cp0_1 53 fl_TSlot p0.Slots), (3, ow Ap0_2 cp0_2 51 fl_TPoint p0.Marks), (4, ow Ay100_0 cy100_0 9 fl_str y100), (5, ow Ay111_0 cy111_0 3 fl_i64 y111.1)] ?_ ?_
            ·cases hg178 : ((sEq x165 (⟨#[115, 108, 111, 116]⟩)) && ((y100.length : Int) == 5))
             ·refine Tr.pass rfl rfl rfl rfl rfl (by decide) ?_
              refine Tr.pass rfl rfl rfl rfl rfl (by decide) ?_
              refine Tr.pass rfl rfl rfl rfl rfl (by decide) ?_
              refine Tr.pass rfl rfl rfl rfl rfl (by decide) ?_
              refine Tr.pass rfl rfl rfl rfl rfl (by decide) ?_
              refine Tr.pass rfl rfl rfl rfl rfl (by decide) ?_
              refine Tr.va rfl (fun _ _ h1 h2 => run_pickF (h1.ev rfl) (h1.ev rfl)) ?_
              exact Tr.nil (Tr.fin0 (.cons rfl (.cons rfl (.cons rfl (.cons rfl .nil)))) (.cons rfl (.cons rfl (.cons rfl (.cons rfl (.cons rfl (.cons rfl .nil)))))))
             ·refine Tr.val (wg rfl rfl rfl) rfl (fun _ _ h1 h2 => run_move (h1.ev rfl)) ?_
              refine Tr.val (wg rfl rfl rfl) rfl (fun _ _ h1 h2 => run_nilCheck (h1.ev rfl)) ?_
              refine Tr.val (wg rfl rfl rfl) rfl (fun _ _ h1 h2 => run_fieldAddr fo_26_6 (h1.ev rfl)) ?_
              refine Tr.val (wg rfl rfl rfl) rfl (fun _ _ h1 h2 => run_load1 ag_24 (h1.ev rfl) (rdb h2 (vs := [(iv p0.W), (iv p0.H), (iv p0.Rail), (iv p0.Gap), (.slice Ap0_0 (p0.Kinds).length cp0_0), (.slice Ap0_1 (p0.Slots).length cp0_1), (.slice Ap0_2 (p0.Marks).length cp0_2)]) (k := 0) rfl 6) rfl) ?_
              refine Tr.val (wg rfl rfl rfl) rfl (fun _ _ h1 h2 => run_len un_24 (h1.ev rfl)) ?_
              refine Tr.val (wg rfl rfl rfl) rfl (fun _ _ h1 h2 => run_eql (h1.ev rfl) (h1.ev rfl)) ?_
              refine Tr.va rfl (fun _ _ h1 h2 => run_pickT (h1.ev rfl) (h1.ev rfl)) ?_
              exact Tr.nil (Tr.fin0 (.cons rfl (.cons rfl (.cons rfl (.cons rfl .nil)))) (.cons rfl (.cons rfl (.cons rfl (.cons rfl (.cons rfl (.cons rfl .nil)))))))
            ·show Tr _ _ (LF [(0, (.pointer (some ⟨bp0, 0, none⟩))), (7, (.slice Ay100_0 (y100).length cy100_0)), (9, (.slice Ay111_0 (y111.1).length cy111_0)), (140, (.bool (((sEq x165 (⟨#[115, 108, 111, 116]⟩)) && ((y100.length : Int) == 5)) && ((p0.Marks.length : Int) == 0))))]) (LE [(0, bx bp0 #[(iv p0.W), (iv p0.H), (iv p0.Rail), (iv p0.Gap), (.slice Ap0_0 (p0.Kinds).length cp0_0), (.slice Ap0_1 (p0.Slots).length cp0_1), (.slice Ap0_2 (p0.Marks).length cp0_2)] 26), (1, ow Ap0_0 cp0_0 49 fl_TBoardKind p0.Kinds), (2, ow Ap0_1 cp0_1 53 fl_TSlot p0.Slots), (3, ow Ap0_2 cp0_2 51 fl_TPoint p0.Marks), (4, ow Ay100_0 cy100_0 9 fl_str y100), (5, ow Ay111_0 cy111_0 3 fl_i64 y111.1)]) _
             refine Tr.asg rfl rfl ?_
             refine Tr.nil (Tr.normThen ?_)
             refine Tr.cond rfl H (fun H => ?_) (fun H => ?_)
             ·refine Tr.drawC 21 [(20, (ow Ap0_1 cp0_1 53 fl_TSlot p0.Slots).S)] [] (by kernel_rfl) (by kernel_rfl) fun sz166 hlosz166 hEsz166 => ?_
              refine Dr.quietP 0 (by kernel_rfl) rfl (wn rfl) rfl (by kernel_rfl) (fun _ _ h1 => run_move (h1.ev rfl)) rfl ?_
              refine Dr.quietP 1 (by kernel_rfl) rfl (wn rfl) rfl (by kernel_rfl) (fun _ _ h1 => run_move (h1.ev rfl)) rfl ?_
              refine Dr.quietP 2 (by kernel_rfl) rfl (wn rfl) rfl (by kernel_rfl) (fun _ _ h1 => run_nilCheck (h1.ev rfl)) rfl ?_
              refine Dr.quietP 3 (by kernel_rfl) rfl (wn rfl) rfl (by kernel_rfl) (fun _ _ h1 => run_fieldAddr fo_26_5 (h1.ev rfl)) rfl ?_
              refine Dr.quiet 4 [(145, (.slice Ap0_1 (p0.Slots).length cp0_1))] (by kernel_rfl) rfl rfl (by kernel_rfl) ?_ rfl rfl ?_
              ·refine Tq.va rfl (fun _ _ h1 h2 => run_load1 ag_23 (h1.ev rfl) (rdb h2 (vs := [(iv p0.W), (iv p0.H), (iv p0.Rail), (iv p0.Gap), (.slice Ap0_0 (p0.Kinds).length cp0_0), (.slice Ap0_1 (p0.Slots).length cp0_1), (.slice Ap0_2 (p0.Marks).length cp0_2)]) (k := 0) rfl 5) rfl) ?_
               exact Tq.fin (.cons rfl .nil)
              refine Dr.quietP 5 (by kernel_rfl) rfl (wn rfl) rfl (by kernel_rfl) (fun _ _ h1 => run_move (h1.ev rfl)) rfl ?_
              obtain ⟨x167, hx167, H⟩ := bnd H
              obtain ⟨hx1670, hx1671, hx1672⟩ := idx_some hx167
              refine Dr.quietP 6 (by kernel_rfl) rfl (wn rfl) rfl (by kernel_rfl) (fun _ _ h1 => run_indexAddr el_40 (h1.ev rfl) hgy100_0 (h1.ev rfl) hx1670 hx1671) rfl ?_
              refine Dr.quietZ 7 [(148, (sv x167))] [20] false (by kernel_rfl) rfl rfl (by kernel_rfl) (fun W W' h2 hsW hk => HF.keepZ (le := [(4, ow Ay100_0 cy100_0 9 fl_str y100)]) (ks := [(2, (ow Ap0_1 cp0_1 53 fl_TSlot p0.Slots).S)]) (s0 := sz166) false h2 hk (fun h => absurd h (by decide)) (.cons rfl .nil) (fun b hb => hb.elim (fun ⟨p, hp, hf, hb⟩ => by simp only [List.mem_cons, List.not_mem_nil, or_false] at hp; rcases hp with rfl; exact .inl ⟨_, List.mem_cons_self, hb⟩) (fun hb => absurd hb.1 (by decide))) (List.forall_mem_cons.2 ⟨fun b hb => hb, (fun _ h => nomatch h)⟩) rfl) ?_ rfl rfl ?_
              ·refine Tq.va rfl (fun _ _ h1 h2 => run_load1 ag_9 (h1.ev rfl) (rdo ef_str (k := 4) h2 rfl hx1672) rfl) ?_
               exact Tq.fin (.cons rfl .nil)
              refine Dr.quietP 8 (by kernel_rfl) rfl (wn rfl) rfl (by kernel_rfl) (fun _ _ h1 => run_move (h1.ev rfl)) rfl ?_
              obtain ⟨x168, hx168, H⟩ := bnd H
              obtain ⟨hx1680, hx1681, hx1682⟩ := idx_some hx168
              refine Dr.quietP 9 (by kernel_rfl) rfl (wn rfl) rfl (by kernel_rfl) (fun _ _ h1 => run_indexAddr el_64 (h1.ev rfl) hgy111_0 (h1.ev rfl) hx1680 hx1681) rfl ?_
              refine Dr.quietZ 10 [(151, (iv x168))] [20] false (by kernel_rfl) rfl rfl (by kernel_rfl) (fun W W' h2 hsW hk => HF.keepZ (le := [(5, ow Ay111_0 cy111_0 3 fl_i64 y111.1)]) (ks := [(2, (ow Ap0_1 cp0_1 53 fl_TSlot p0.Slots).S)]) (s0 := sz166) false h2 hk (fun h => absurd h (by decide)) (.cons rfl .nil) (fun b hb => hb.elim (fun ⟨p, hp, hf, hb⟩ => by simp only [List.mem_cons, List.not_mem_nil, or_false] at hp; rcases hp with rfl; exact .inl ⟨_, List.mem_cons_self, hb⟩) (fun hb => absurd hb.1 (by decide))) (List.forall_mem_cons.2 ⟨fun b hb => hb, (fun _ h => nomatch h)⟩) rfl) ?_ rfl rfl ?_
              ·refine Tq.va rfl (fun _ _ h1 h2 => run_load1 ag_3 (h1.ev rfl) (rdo ef_i64 (k := 5) h2 rfl hx1682) rfl) ?_
               exact Tq.fin (.cons rfl .nil)
              refine Dr.quietP 11 (by kernel_rfl) rfl (wn rfl) rfl (by kernel_rfl) (fun _ _ h1 => run_move (h1.ev rfl)) rfl ?_
              obtain ⟨x169, hx169, H⟩ := bnd H
              obtain ⟨hx1690, hx1691, hx1692⟩ := idx_some hx169
              refine Dr.quietP 12 (by kernel_rfl) rfl (wn rfl) rfl (by kernel_rfl) (fun _ _ h1 => run_indexAddr el_64 (h1.ev rfl) hgy111_0 (h1.ev rfl) hx1690 hx1691) rfl ?_
              refine Dr.quietZ 13 [(154, (iv x169))] [20] false (by kernel_rfl) rfl rfl (by kernel_rfl) (fun W W' h2 hsW hk => HF.keepZ (le := [(5, ow Ay111_0 cy111_0 3 fl_i64 y111.1)]) (ks := [(2, (ow Ap0_1 cp0_1 53 fl_TSlot p0.Slots).S)]) (s0 := sz166) false h2 hk (fun h => absurd h (by decide)) (.cons rfl .nil) (fun b hb => hb.elim (fun ⟨p, hp, hf, hb⟩ => by simp only [List.mem_cons, List.not_mem_nil, or_false] at hp; rcases hp with rfl; exact .inl ⟨_, List.mem_cons_self, hb⟩) (fun hb => absurd hb.1 (by decide))) (List.forall_mem_cons.2 ⟨fun b hb => hb, (fun _ h => nomatch h)⟩) rfl) ?_ rfl rfl ?_
              ·refine Tq.va rfl (fun _ _ h1 h2 => run_load1 ag_3 (h1.ev rfl) (rdo ef_i64 (k := 5) h2 rfl hx1692) rfl) ?_
               exact Tq.fin (.cons rfl .nil)
              refine Dr.quietP 14 (by kernel_rfl) rfl (wn rfl) rfl (by kernel_rfl) (fun _ _ h1 => run_move (h1.ev rfl)) rfl ?_
              obtain ⟨x170, hx170, H⟩ := bnd H
              obtain ⟨hx1700, hx1701, hx1702⟩ := idx_some hx170
              refine Dr.quietP 15 (by kernel_rfl) rfl (wn rfl) rfl (by kernel_rfl) (fun _ _ h1 => run_indexAddr el_64 (h1.ev rfl) hgy111_0 (h1.ev rfl) hx1700 hx1701) rfl ?_
              refine Dr.quietZ 16 [(157, (iv x170))] [20] false (by kernel_rfl) rfl rfl (by kernel_rfl) (fun W W' h2 hsW hk => HF.keepZ (le := [(5, ow Ay111_0 cy111_0 3 fl_i64 y111.1)]) (ks := [(2, (ow Ap0_1 cp0_1 53 fl_TSlot p0.Slots).S)]) (s0 := sz166) false h2 hk (fun h => absurd h (by decide)) (.cons rfl .nil) (fun b hb => hb.elim (fun ⟨p, hp, hf, hb⟩ => by simp only [List.mem_cons, List.not_mem_nil, or_false] at hp; rcases hp with rfl; exact .inl ⟨_, List.mem_cons_self, hb⟩) (fun hb => absurd hb.1 (by decide))) (List.forall_mem_cons.2 ⟨fun b hb => hb, (fun _ h => nomatch h)⟩) rfl) ?_ rfl rfl ?_
              ·refine Tq.va rfl (fun _ _ h1 h2 => run_load1 ag_3 (h1.ev rfl) (rdo ef_i64 (k := 5) h2 rfl hx1702) rfl) ?_
               exact Tq.fin (.cons rfl .nil)
              refine Dr.quietZ 17 [(158, (.agg #[(iv x169), (iv x170)]))] [20] false (by kernel_rfl) rfl rfl (by kernel_rfl) (fun W W' h2 hsW hk => HF.keepZ (le := []) (ks := [(2, (ow Ap0_1 cp0_1 53 fl_TSlot p0.Slots).S)]) (s0 := sz166) false h2 hk (fun h => absurd h (by decide)) .nil (fun b hb => hb.elim (fun ⟨p, hp, hf, hb⟩ => by simp only [List.mem_cons, List.not_mem_nil, or_false] at hp; rcases hp with rfl; exact .inl ⟨_, List.mem_cons_self, hb⟩) (fun hb => absurd hb.1 (by decide))) (List.forall_mem_cons.2 ⟨fun b hb => hb, (fun _ h => nomatch h)⟩) rfl) ?_ rfl rfl ?_
              ·refine Tq.build (vs := [(0, (iv x169)), (1, (iv x170))]) (cs := [(iv x169), (iv x170)]) (wn rfl) rfl (evs_cons rfl (evs_cons rfl evs_nil)) (by kernel_rfl) ?_
               exact Tq.fin (.cons rfl .nil)
              refine Dr.quietZ 18 [(159, (.agg #[(sv x167), (iv x168), (iv x169), (iv x170)]))] [20] false (by kernel_rfl) rfl rfl (by kernel_rfl) (fun W W' h2 hsW hk => HF.keepZ (le := []) (ks := [(2, (ow Ap0_1 cp0_1 53 fl_TSlot p0.Slots).S)]) (s0 := sz166) false h2 hk (fun h => absurd h (by decide)) .nil (fun b hb => hb.elim (fun ⟨p, hp, hf, hb⟩ => by simp only [List.mem_cons, List.not_mem_nil, or_false] at hp; rcases hp with rfl; exact .inl ⟨_, List.mem_cons_self, hb⟩) (fun hb => absurd hb.1 (by decide))) (List.forall_mem_cons.2 ⟨fun b hb => hb, (fun _ h => nomatch h)⟩) rfl) ?_ rfl rfl ?_
              ·refine Tq.build (vs := [(0, (sv x167)), (1, (iv x168)), (2, (.agg #[(iv x169), (iv x170)]))]) (cs := [(sv x167), (iv x168), (iv x169), (iv x170)]) (wn rfl) rfl (evs_cons rfl (evs_cons rfl (evs_cons rfl evs_nil))) (by kernel_rfl) ?_
               exact Tq.fin (.cons rfl .nil)
              refine Dr.one 19 (by kernel_rfl) ?_
              refine St.buildSlice 19 10 (e := 53) (vs := [(0, (.agg #[(sv x167), (iv x168), (iv x169), (iv x170)]))]) (cs := [(sv x167), (iv x168), (iv x169), (iv x170)]) rfl (wn rfl) rfl (evs_cons rfl evs_nil) (by kernel_rfl) fun b171 hb171 => ?_
              obtain ⟨l172, hl172, H⟩ := bnd H
              refine Dr.one 20 (by kernel_rfl) ?_
              refine St.append 20 2 (t' := fl_TSlot) (ll := p0.Slots) (l2 := [(TSlot.mk x167 x168 (TPoint.mk x169 x170))]) (fun b hb => .inl ⟨_, List.mem_cons_self, rfl, hb⟩) rfl (wn rfl) rfl rfl rfl rfl (fun W hW => ⟨[[(sv x167), (iv x168), (iv x169), (iv x170)]], (.cons ⟨(), trivial, rfl⟩ .nil), rdb hW (vs := [(sv x167), (iv x168), (iv x169), (iv x170)]) (k := 10) rfl 0⟩) un_23 sz_53 zl_53 (by decide) by_53 rfl hl172 fun Al172 cl172 hAl172 => ?_
              refine Dr.tail (by kernel_rfl) ?_
              refine Tr.va rfl (fun _ _ h1 h2 => run_nilCheck (h1.ev rfl)) ?_
              refine Tr.va rfl (fun _ _ h1 h2 => run_fieldAddr fo_26_5 (h1.ev rfl)) ?_
              refine Tr.store 0 (cs := [(.slice Al172 (l172).length cl172)]) [(iv p0.W), (iv p0.H), (iv p0.Rail), (iv p0.Gap), (.slice Ap0_0 (p0.Kinds).length cp0_0), (.slice Al172 (l172).length cl172), (.slice Ap0_2 (p0.Marks).length cp0_2)] (wn rfl) rfl rfl rfl rfl sz_23 rfl rfl rfl ?_
              refine Tr.nil (Tr.normBlock ?_)
              exact Tr.backThen leJ150 (p0.W, p0.H, p0.Rail, p0.Gap, p0.Kinds, l172, p0.Marks, Ap0_0, cp0_0, Al172, cl172, Ap0_2, cp0_2) ⟨H, hfhp0_0, hAl172, hfhp0_2⟩ .nil (.cons rfl (.cons rfl (.cons rfl (.cons rfl .nil))))
             ·refine Tr.sr ?_
              refine Tr.mv rfl rfl ?_
              obtain ⟨x173, hx173, H⟩ := bnd H
              obtain ⟨hx1730, hx1731, hx1732⟩ := idx_some hx173
              refine Tr.va rfl (fun _ _ h1 h2 => run_indexAddr el_40 (h1.ev rfl) hgy100_0 (h1.ev rfl) hx1730 hx1731) ?_
              refine Tr.va rfl (fun _ _ h1 h2 => run_load1 ag_9 (h1.ev rfl) (rdo ef_str (k := 4) h2 rfl hx1732) rfl) ?_
              refine Tr.va rfl (fun _ _ h1 h2 => run_eqlS (h1.ev rfl) (h1.ev rfl)) ?_
              refine Tr.mv rfl rfl ?_
              refine Tr.mid0 4 [(0, (.pointer (some ⟨bp0, 0, none⟩))), (9, (.slice Ay111_0 (y111.1).length cy111_0)), (173, (.bool ((sEq x173 (⟨#[109, 97, 114, 107]⟩)) && ((y100.length : Int) == 3))))] [(0, bx bp0 #[(iv p0.W), (iv p0.H), (iv p0.Rail), (iv p0.Gap), (.slice Ap0_0 (p0.Kinds).length cp0_0), (.slice Ap0_1 (p0.Slots).length cp0_1), (.slice Ap0_2 (p0.Marks).length cp0_2)] 26), (1, ow Ap0_0 cp0_0 49 fl_TBoardKind p0.Kinds), (2, ow Ap0_1 cp0_1 53 fl_TSlot p0.Slots), (3, ow Ap0_2 cp0_2 51 fl_TPoint p0.Marks), (4, ow Ay100_0 cy100_0 9 fl_str y100), (5, ow Ay111_0 cy111_0 3 fl_i64 y111.1)] ?_ ?_
              ·cases hg178 : (sEq x173 (⟨#[109, 97, 114, 107]⟩))
               ·refine Tr.pass rfl rfl rfl rfl rfl (by decide) ?_
                refine Tr.pass rfl rfl rfl rfl rfl (by decide) ?_
                refine Tr.pass rfl rfl rfl rfl rfl (by decide) ?_
                refine Tr.va rfl (fun _ _ h1 h2 => run_pickF (h1.ev rfl) (h1.ev rfl)) ?_
                exact Tr.nil (Tr.fin0 (.cons rfl (.cons rfl (.cons rfl .nil))) (.cons rfl (.cons rfl (.cons rfl (.cons rfl (.cons rfl (.cons rfl .nil)))))))
               ·refine Tr.val (wg rfl rfl rfl) rfl (fun _ _ h1 h2 => run_move (h1.ev rfl)) ?_
                refine Tr.val (wg rfl rfl rfl) rfl (fun _ _ h1 h2 => run_len un_40 (h1.ev rfl)) ?_
                refine Tr.val (wg rfl rfl rfl) rfl (fun _ _ h1 h2 => run_eql (h1.ev rfl) (h1.ev rfl)) ?_
                refine Tr.va rfl (fun _ _ h1 h2 => run_pickT (h1.ev rfl) (h1.ev rfl)) ?_
                exact Tr.nil (Tr.fin0 (.cons rfl (.cons rfl (.cons rfl .nil))) (.cons rfl (.cons rfl (.cons rfl (.cons rfl (.cons rfl (.cons rfl .nil)))))))
              ·show Tr _ _ (LF [(0, (.pointer (some ⟨bp0, 0, none⟩))), (9, (.slice Ay111_0 (y111.1).length cy111_0)), (173, (.bool ((sEq x173 (⟨#[109, 97, 114, 107]⟩)) && ((y100.length : Int) == 3))))]) (LE [(0, bx bp0 #[(iv p0.W), (iv p0.H), (iv p0.Rail), (iv p0.Gap), (.slice Ap0_0 (p0.Kinds).length cp0_0), (.slice Ap0_1 (p0.Slots).length cp0_1), (.slice Ap0_2 (p0.Marks).length cp0_2)] 26), (1, ow Ap0_0 cp0_0 49 fl_TBoardKind p0.Kinds), (2, ow Ap0_1 cp0_1 53 fl_TSlot p0.Slots), (3, ow Ap0_2 cp0_2 51 fl_TPoint p0.Marks), (4, ow Ay100_0 cy100_0 9 fl_str y100), (5, ow Ay111_0 cy111_0 3 fl_i64 y111.1)]) _
               refine Tr.asg rfl rfl ?_
               refine Tr.nil (Tr.normThen ?_)
               refine Tr.cond rfl H (fun H => ?_) (fun H => ?_)
               ·refine Tr.drawC 14 [(13, (ow Ap0_2 cp0_2 51 fl_TPoint p0.Marks).S)] [] (by kernel_rfl) (by kernel_rfl) fun sz174 hlosz174 hEsz174 => ?_
                refine Dr.quietP 0 (by kernel_rfl) rfl (wn rfl) rfl (by kernel_rfl) (fun _ _ h1 => run_move (h1.ev rfl)) rfl ?_
                refine Dr.quietP 1 (by kernel_rfl) rfl (wn rfl) rfl (by kernel_rfl) (fun _ _ h1 => run_move (h1.ev rfl)) rfl ?_
                refine Dr.quietP 2 (by kernel_rfl) rfl (wn rfl) rfl (by kernel_rfl) (fun _ _ h1 => run_nilCheck (h1.ev rfl)) rfl ?_
                refine Dr.quietP 3 (by kernel_rfl) rfl (wn rfl) rfl (by kernel_rfl) (fun _ _ h1 => run_fieldAddr fo_26_6 (h1.ev rfl)) rfl ?_
                refine Dr.quiet 4 [(178, (.slice Ap0_2 (p0.Marks).length cp0_2))] (by kernel_rfl) rfl rfl (by kernel_rfl) ?_ rfl rfl ?_
                ·refine Tq.va rfl (fun _ _ h1 h2 => run_load1 ag_24 (h1.ev rfl) (rdb h2 (vs := [(iv p0.W), (iv p0.H), (iv p0.Rail), (iv p0.Gap), (.slice Ap0_0 (p0.Kinds).length cp0_0), (.slice Ap0_1 (p0.Slots).length cp0_1), (.slice Ap0_2 (p0.Marks).length cp0_2)]) (k := 0) rfl 6) rfl) ?_
                 exact Tq.fin (.cons rfl .nil)
                refine Dr.quietP 5 (by kernel_rfl) rfl (wn rfl) rfl (by kernel_rfl) (fun _ _ h1 => run_move (h1.ev rfl)) rfl ?_
                obtain ⟨x175, hx175, H⟩ := bnd H
                obtain ⟨hx1750, hx1751, hx1752⟩ := idx_some hx175
                refine Dr.quietP 6 (by kernel_rfl) rfl (wn rfl) rfl (by kernel_rfl) (fun _ _ h1 => run_indexAddr el_64 (h1.ev rfl) hgy111_0 (h1.ev rfl) hx1750 hx1751) rfl ?_
                refine Dr.quietZ 7 [(181, (iv x175))] [13] false (by kernel_rfl) rfl rfl (by kernel_rfl) (fun W W' h2 hsW hk => HF.keepZ (le := [(5, ow Ay111_0 cy111_0 3 fl_i64 y111.1)]) (ks := [(3, (ow Ap0_2 cp0_2 51 fl_TPoint p0.Marks).S)]) (s0 := sz174) false h2 hk (fun h => absurd h (by decide)) (.cons rfl .nil) (fun b hb => hb.elim (fun ⟨p, hp, hf, hb⟩ => by simp only [List.mem_cons, List.not_mem_nil, or_false] at hp; rcases hp with rfl; exact .inl ⟨_, List.mem_cons_self, hb⟩) (fun hb => absurd hb.1 (by decide))) (List.forall_mem_cons.2 ⟨fun b hb => hb, (fun _ h => nomatch h)⟩) rfl) ?_ rfl rfl ?_
                ·refine Tq.va rfl (fun _ _ h1 h2 => run_load1 ag_3 (h1.ev rfl) (rdo ef_i64 (k := 5) h2 rfl hx1752) rfl) ?_
                 exact Tq.fin (.cons rfl .nil)
                refine Dr.quietP 8 (by kernel_rfl) rfl (wn rfl) rfl (by kernel_rfl) (fun _ _ h1 => run_move (h1.ev rfl)) rfl ?_
                obtain ⟨x176, hx176, H⟩ := bnd H
                obtain ⟨hx1760, hx1761, hx1762⟩ := idx_some hx176
                refine Dr.quietP 9 (by kernel_rfl) rfl (wn rfl) rfl (by kernel_rfl) (fun _ _ h1 => run_indexAddr el_64 (h1.ev rfl) hgy111_0 (h1.ev rfl) hx1760 hx1761) rfl ?_
                refine Dr.quietZ 10 [(184, (iv x176))] [13] false (by kernel_rfl) rfl rfl (by kernel_rfl) (fun W W' h2 hsW hk => HF.keepZ (le := [(5, ow Ay111_0 cy111_0 3 fl_i64 y111.1)]) (ks := [(3, (ow Ap0_2 cp0_2 51 fl_TPoint p0.Marks).S)]) (s0 := sz174) false h2 hk (fun h => absurd h (by decide)) (.cons rfl .nil) (fun b hb => hb.elim (fun ⟨p, hp, hf, hb⟩ => by simp only [List.mem_cons, List.not_mem_nil, or_false] at hp; rcases hp with rfl; exact .inl ⟨_, List.mem_cons_self, hb⟩) (fun hb => absurd hb.1 (by decide))) (List.forall_mem_cons.2 ⟨fun b hb => hb, (fun _ h => nomatch h)⟩) rfl) ?_ rfl rfl ?_
                ·refine Tq.va rfl (fun _ _ h1 h2 => run_load1 ag_3 (h1.ev rfl) (rdo ef_i64 (k := 5) h2 rfl hx1762) rfl) ?_
                 exact Tq.fin (.cons rfl .nil)
                refine Dr.quietZ 11 [(185, (.agg #[(iv x175), (iv x176)]))] [13] false (by kernel_rfl) rfl rfl (by kernel_rfl) (fun W W' h2 hsW hk => HF.keepZ (le := []) (ks := [(3, (ow Ap0_2 cp0_2 51 fl_TPoint p0.Marks).S)]) (s0 := sz174) false h2 hk (fun h => absurd h (by decide)) .nil (fun b hb => hb.elim (fun ⟨p, hp, hf, hb⟩ => by simp only [List.mem_cons, List.not_mem_nil, or_false] at hp; rcases hp with rfl; exact .inl ⟨_, List.mem_cons_self, hb⟩) (fun hb => absurd hb.1 (by decide))) (List.forall_mem_cons.2 ⟨fun b hb => hb, (fun _ h => nomatch h)⟩) rfl) ?_ rfl rfl ?_
                ·refine Tq.build (vs := [(0, (iv x175)), (1, (iv x176))]) (cs := [(iv x175), (iv x176)]) (wn rfl) rfl (evs_cons rfl (evs_cons rfl evs_nil)) (by kernel_rfl) ?_
                 exact Tq.fin (.cons rfl .nil)
                refine Dr.one 12 (by kernel_rfl) ?_
                refine St.buildSlice 12 11 (e := 51) (vs := [(0, (.agg #[(iv x175), (iv x176)]))]) (cs := [(iv x175), (iv x176)]) rfl (wn rfl) rfl (evs_cons rfl evs_nil) (by kernel_rfl) fun b177 hb177 => ?_
                obtain ⟨l178, hl178, H⟩ := bnd H
                refine Dr.one 13 (by kernel_rfl) ?_
                refine St.append 13 3 (t' := fl_TPoint) (ll := p0.Marks) (l2 := [(TPoint.mk x175 x176)]) (fun b hb => .inl ⟨_, List.mem_cons_self, rfl, hb⟩) rfl (wn rfl) rfl rfl rfl rfl (fun W hW => ⟨[[(iv x175), (iv x176)]], (.cons ⟨(), trivial, rfl⟩ .nil), rdb hW (vs := [(iv x175), (iv x176)]) (k := 11) rfl 0⟩) un_24 sz_51 zl_51 (by decide) by_51 rfl hl178 fun Al178 cl178 hAl178 => ?_
                refine Dr.tail (by kernel_rfl) ?_
                refine Tr.va rfl (fun _ _ h1 h2 => run_nilCheck (h1.ev rfl)) ?_
                refine Tr.va rfl (fun _ _ h1 h2 => run_fieldAddr fo_26_6 (h1.ev rfl)) ?_
                refine Tr.store 0 (cs := [(.slice Al178 (l178).length cl178)]) [(iv p0.W), (iv p0.H), (iv p0.Rail), (iv p0.Gap), (.slice Ap0_0 (p0.Kinds).length cp0_0), (.slice Ap0_1 (p0.Slots).length cp0_1), (.slice Al178 (l178).length cl178)] (wn rfl) rfl rfl rfl rfl sz_24 rfl rfl rfl ?_
                refine Tr.nil (Tr.normBlock ?_)
                exact Tr.backThen leJ150 (p0.W, p0.H, p0.Rail, p0.Gap, p0.Kinds, p0.Slots, l178, Ap0_0, cp0_0, Ap0_1, cp0_1, Al178, cl178) ⟨H, hfhp0_0, hfhp0_1, hAl178⟩ .nil (.cons rfl (.cons rfl (.cons rfl (.cons rfl .nil))))
               ·refine Tr.sr ?_
                refine Tr.asg rfl rfl ?_
                refine Tr.nil (Tr.normThen ?_)
                refine Tr.ret (Tr.retBlock (Tr.retThen ?_))
                obtain rfl := Option.some.inj H
                exact Tr.out (m := [(.bool false)]) [] (res_tmp rfl res_nil) (fun W hW => ⟨((Ap0_0, cp0_0), (Ap0_1, cp0_1), (Ap0_2, cp0_2)), rfl, ⟨hfhp0_0, hfhp0_1, hfhp0_2⟩, HF.lowE leB (hW.pick (ks := [0, 1, 2, 3]) (by decide) (pk_cons rfl (pk_cons rfl (pk_cons rfl (pk_cons rfl pk_nil))))) ⟨bx_any _ _ _, ow_any _ _ _ _ tr_TBoardKind, ow_any _ _ _ _ tr_TSlot, ow_any _ _ _ _ tr_TPoint, trivial⟩⟩)
     ·intro w s hlJ151 hs
      obtain ⟨x143, x144, x145, x146, l147, l148, l149, Al147, cl147, Al148, cl148, Al149, cl149⟩ := s
      obtain ⟨H, hl147, hl148, hl149⟩ := hs
      replace H : F_panel_readLine_J1 x143 x144 x145 x146 l147 l148 l149 = some r := H
      replace hT := hT.ext hlJ151.ext
      replace leB := leB.trans hlJ151
      replace hl147 : SlF Al147 (l147).length cl147 := hl147
      replace hl148 : SlF Al148 (l148).length cl148 := hl148
      replace hl149 : SlF Al149 (l149).length cl149 := hl149
      unfold F_panel_readLine_J1 at H
      show Tr _ _ (LF []) (LE [(0, bx bp0 #[(iv x143), (iv x144), (iv x145), (iv x146), (.slice Al147 (l147).length cl147), (.slice Al148 (l148).length cl148), (.slice Al149 (l149).length cl149)] 26), (1, ow Al147 cl147 49 fl_TBoardKind l147), (2, ow Al148 cl148 53 fl_TSlot l148), (3, ow Al149 cl149 51 fl_TPoint l149)]) _
      refine Tr.sr ?_
      refine Tr.asg rfl rfl ?_
      refine Tr.nil (Tr.normThen ?_)
      refine Tr.ret ?_
      obtain rfl := Option.some.inj H
      exact Tr.out (m := [(.bool true)]) [] (res_tmp rfl res_nil) (fun W hW => ⟨((Al147, cl147), (Al148, cl148), (Al149, cl149)), rfl, ⟨hl147, hl148, hl149⟩, HF.lowE leB (hW.pick (ks := [0, 1, 2, 3]) (by decide) (pk_cons rfl (pk_cons rfl (pk_cons rfl (pk_cons rfl pk_nil))))) ⟨bx_any _ _ _, ow_any _ _ _ _ tr_TBoardKind, ow_any _ _ _ _ tr_TSlot, ow_any _ _ _ _ tr_TPoint, trivial⟩⟩)

theorem F_panel_Read_ok (N : Nat) {w : Bs} (hT : Tab Tryz.prog w) (p0 : ByteArray) (r : (TPanel × Int × Int)) (H : F_panel_Read N p0 = some r) (hE : HF w w.W (LEn [emp, emp, emp])) : Calls Tryz.prog 6 [(sv p0)].toArray w.W fun e W' => ∃ u : (Option Addr × Nat) × (Option Addr × Nat) × (Option Addr × Nat), e = .returned (.tuple #[(.agg #[(iv r.1.W), (iv r.1.H), (iv r.1.Rail), (iv r.1.Gap), (.slice u.1.1 (r.1.Kinds).length u.1.2), (.slice u.2.1.1 (r.1.Slots).length u.2.1.2), (.slice u.2.2.1 (r.1.Marks).length u.2.2.2)]), (iv r.2.1), (iv r.2.2)]) ∧ (SlF u.1.1 (r.1.Kinds).length u.1.2 ∧ SlF u.2.1.1 (r.1.Slots).length u.2.1.2 ∧ SlF u.2.2.1 (r.1.Marks).length u.2.2.2) ∧ HF w W' (LEn [ow u.1.1 u.1.2 49 fl_TBoardKind r.1.Kinds, ow u.2.1.1 u.2.1.2 53 fl_TSlot r.1.Slots, ow u.2.2.1 u.2.2.2 51 fl_TPoint r.1.Marks]) := by
 unfold F_panel_Read at H
 have leB := Bs.Le.refl w
 refine Tr.enter (n := 48) Tryz.func6 rfl rfl rfl hE ?_
 refine Tr.sr ?_
 refine Tr.alloc 1 (wn rfl) rfl ze_26 fun b100 => ?_
 refine Tr.asg rfl rfl ?_
 refine Tr.asg rfl rfl ?_
 refine Tr.nil (Tr.normThen ?_)
 refine Tr.seq ?_
 refine Tr.sr ?_
 refine Tr.mv rfl rfl ?_
 refine Tr.va rfl (fun _ _ h1 h2 => run_lenS un_9 (h1.ev rfl)) ?_
 refine Tr.va rfl (fun _ _ h1 h2 => run_gtr (h1.ev rfl) (h1.ev rfl)) ?_
 refine Tr.nil (Tr.normThen ?_)
 refine Tr.cond rfl H (fun H => ?_) (fun H => ?_)
 ·refine Tr.sr ?_
  refine Tr.build (vs := []) (cs := [(iv 0), (iv 0), (iv 0), (iv 0), (.slice none 0 0), (.slice none 0 0), (.slice none 0 0)]) (wn rfl) rfl evs_nil (by kernel_rfl) ?_
  refine Tr.store 1 (cs := [(iv 0), (iv 0), (iv 0), (iv 0), (.slice none 0 0), (.slice none 0 0), (.slice none 0 0)]) [(iv 0), (iv 0), (iv 0), (iv 0), (.slice none 0 0), (.slice none 0 0), (.slice none 0 0)] (wn rfl) rfl rfl rfl rfl sz_26 rfl rfl rfl ?_
  refine Tr.asg rfl rfl ?_
  refine Tr.asg rfl rfl ?_
  refine Tr.nil (Tr.normThen ?_)
  refine Tr.ret (Tr.retThen ?_)
  obtain rfl := Option.some.inj H
  refine Tr.nilOwn 2 49 fl_TBoardKind ?_
  refine Tr.nilOwn 3 53 fl_TSlot ?_
  refine Tr.nilOwn 4 51 fl_TPoint ?_
  exact Tr.out (m := [(.agg #[(iv 0), (iv 0), (iv 0), (iv 0), (.slice none 0 0), (.slice none 0 0), (.slice none 0 0)]), (iv 0), (iv 2)]) [1] (res_cell rfl rfl ag_26 sz_26 (res_tmp rfl (res_tmp rfl res_nil))) (fun W hW => ⟨((none, 0), (none, 0), (none, 0)), rfl, ⟨slf_nil, slf_nil, slf_nil⟩, HF.lowE leB (hW.pick (ks := [2, 3, 4]) (by decide) (pk_cons rfl (pk_cons rfl (pk_cons rfl pk_nil)))) ⟨ow_any _ _ _ _ tr_TBoardKind, ow_any _ _ _ _ tr_TSlot, ow_any _ _ _ _ tr_TPoint, trivial⟩⟩)
 ·refine Tr.skip (Tr.normThen ?_)
  refine Tr.sr ?_
  refine Tr.alloc 5 (wn rfl) rfl ze_26 fun b101 => ?_
  refine Tr.nil (Tr.normThen ?_)
  refine Tr.seq ?_
  refine Tr.sr ?_
  refine Tr.asg rfl rfl ?_
  refine Tr.nil (Tr.normThen ?_)
  refine Tr.block ?_
  refine Tr.nilOwn 21 49 fl_TBoardKind ?_
  refine Tr.nilOwn 22 53 fl_TSlot ?_
  refine Tr.nilOwn 23 51 fl_TPoint ?_
  refine Tr.loop (σ := Int × Int × Int × Int × (List TBoardKind) × (List TSlot) × (List TPoint) × ByteArray × Int × (Option Addr) × Nat × (Option Addr) × Nat × (Option Addr) × Nat) (fun m w s => F_panel_Read_L1 N m s.1 s.2.1 s.2.2.1 s.2.2.2.1 s.2.2.2.2.1 s.2.2.2.2.2.1 s.2.2.2.2.2.2.1 s.2.2.2.2.2.2.2.1 s.2.2.2.2.2.2.2.2.1 = some r ∧ SlF s.2.2.2.2.2.2.2.2.2.1 (s.2.2.2.2.1).length s.2.2.2.2.2.2.2.2.2.2.1 ∧ SlF s.2.2.2.2.2.2.2.2.2.2.2.1 (s.2.2.2.2.2.1).length s.2.2.2.2.2.2.2.2.2.2.2.2.1 ∧ SlF s.2.2.2.2.2.2.2.2.2.2.2.2.2.1 (s.2.2.2.2.2.2.1).length s.2.2.2.2.2.2.2.2.2.2.2.2.2.2) (fun s => [(0, (sv s.2.2.2.2.2.2.2.1)), (2, (.pointer (some ⟨b100, 0, none⟩))), (5, (.pointer (some ⟨b101, 0, none⟩))), (6, (iv s.2.2.2.2.2.2.2.2.1))]) (fun s => [(1, bx b100 #[(iv 0), (iv 0), (iv 0), (iv 0), (.slice none 0 0), (.slice none 0 0), (.slice none 0 0)] 26), (5, bx b101 #[(iv s.1), (iv s.2.1), (iv s.2.2.1), (iv s.2.2.2.1), (.slice s.2.2.2.2.2.2.2.2.2.1 (s.2.2.2.2.1).length s.2.2.2.2.2.2.2.2.2.2.1), (.slice s.2.2.2.2.2.2.2.2.2.2.2.1 (s.2.2.2.2.2.1).length s.2.2.2.2.2.2.2.2.2.2.2.2.1), (.slice s.2.2.2.2.2.2.2.2.2.2.2.2.2.1 (s.2.2.2.2.2.2.1).length s.2.2.2.2.2.2.2.2.2.2.2.2.2.2)] 26), (21, ow s.2.2.2.2.2.2.2.2.2.1 s.2.2.2.2.2.2.2.2.2.2.1 49 fl_TBoardKind s.2.2.2.2.1), (22, ow s.2.2.2.2.2.2.2.2.2.2.2.1 s.2.2.2.2.2.2.2.2.2.2.2.2.1 53 fl_TSlot s.2.2.2.2.2.1), (23, ow s.2.2.2.2.2.2.2.2.2.2.2.2.2.1 s.2.2.2.2.2.2.2.2.2.2.2.2.2.2 51 fl_TPoint s.2.2.2.2.2.2.1)]) N (0, 0, 0, 0, ([] : List TBoardKind), ([] : List TSlot), ([] : List TPoint), p0, 0, none, 0, none, 0, none, 0) ⟨H, slf_nil, slf_nil, slf_nil⟩ (.cons rfl (.cons rfl (.cons rfl (.cons rfl .nil)))) (.cons rfl (.cons rfl (.cons rfl (.cons rfl (.cons rfl .nil))))) (fun _ _ h => noSome (h.1)) ?_
  intro w leL1 mL1 s hs
  obtain ⟨x141, x142, x143, x144, l145, l146, l147, x148, x149, Al145, cl145, Al146, cl146, Al147, cl147⟩ := s
  obtain ⟨H, hl145, hl146, hl147⟩ := hs
  replace H : F_panel_Read_L1 N (mL1 + 1) x141 x142 x143 x144 l145 l146 l147 x148 x149 = some r := H
  replace hT := hT.ext leL1.ext
  replace leB := leB.trans leL1
  replace hl145 : SlF Al145 (l145).length cl145 := hl145
  replace hl146 : SlF Al146 (l146).length cl146 := hl146
  replace hl147 : SlF Al147 (l147).length cl147 := hl147
  rw [F_panel_Read_L1.eq_2] at H
  show Tr _ _ (LF [(0, (sv x148)), (2, (.pointer (some ⟨b100, 0, none⟩))), (5, (.pointer (some ⟨b101, 0, none⟩))), (6, (iv x149))]) (LE [(1, bx b100 #[(iv 0), (iv 0), (iv 0), (iv 0), (.slice none 0 0), (.slice none 0 0), (.slice none 0 0)] 26), (5, bx b101 #[(iv x141), (iv x142), (iv x143), (iv x144), (.slice Al145 (l145).length cl145), (.slice Al146 (l146).length cl146), (.slice Al147 (l147).length cl147)] 26), (21, ow Al145 cl145 49 fl_TBoardKind l145), (22, ow Al146 cl146 53 fl_TSlot l146), (23, ow Al147 cl147 51 fl_TPoint l147)]) _
  refine Tr.seq ?_
  refine Tr.sr ?_
  refine Tr.mv rfl rfl ?_
  refine Tr.va rfl (fun _ _ h1 h2 => run_eql (h1.ev rfl) (h1.ev rfl)) ?_
  refine Tr.mv rfl rfl ?_
  refine Tr.mid0 3 [(0, (sv x148)), (2, (.pointer (some ⟨b100, 0, none⟩))), (5, (.pointer (some ⟨b101, 0, none⟩))), (6, (iv x149)), (20, (.bool ((x149 == 0) || (!sEq x148 (⟨#[]⟩)))))] [(1, bx b100 #[(iv 0), (iv 0), (iv 0), (iv 0), (.slice none 0 0), (.slice none 0 0), (.slice none 0 0)] 26), (5, bx b101 #[(iv x141), (iv x142), (iv x143), (iv x144), (.slice Al145 (l145).length cl145), (.slice Al146 (l146).length cl146), (.slice Al147 (l147).length cl147)] 26), (21, ow Al145 cl145 49 fl_TBoardKind l145), (22, ow Al146 cl146 53 fl_TSlot l146), (23, ow Al147 cl147 51 fl_TPoint l147)] ?_ ?_
  ·cases hg156 : (x149 == 0)
   ·refine Tr.val (wg rfl rfl rfl) rfl (fun _ _ h1 h2 => run_move (h1.ev rfl)) ?_
    refine Tr.val (wg rfl rfl rfl) rfl (fun _ _ h1 h2 => run_neqS (h1.ev rfl) (h1.ev rfl)) ?_
    refine Tr.va rfl (fun _ _ h1 h2 => run_pickF (h1.ev rfl) (h1.ev rfl)) ?_
    exact Tr.nil (Tr.fin0 (.cons rfl (.cons rfl (.cons rfl (.cons rfl (.cons rfl .nil))))) (.cons rfl (.cons rfl (.cons rfl (.cons rfl (.cons rfl .nil))))))
   ·refine Tr.pass rfl rfl rfl rfl rfl (by decide) ?_
    refine Tr.pass rfl rfl rfl rfl rfl (by decide) ?_
    refine Tr.va rfl (fun _ _ h1 h2 => run_pickT (h1.ev rfl) (h1.ev rfl)) ?_
    exact Tr.nil (Tr.fin0 (.cons rfl (.cons rfl (.cons rfl (.cons rfl (.cons rfl .nil))))) (.cons rfl (.cons rfl (.cons rfl (.cons rfl (.cons rfl .nil))))))
  ·show Tr _ _ (LF [(0, (sv x148)), (2, (.pointer (some ⟨b100, 0, none⟩))), (5, (.pointer (some ⟨b101, 0, none⟩))), (6, (iv x149)), (20, (.bool ((x149 == 0) || (!sEq x148 (⟨#[]⟩)))))]) (LE [(1, bx b100 #[(iv 0), (iv 0), (iv 0), (iv 0), (.slice none 0 0), (.slice none 0 0), (.slice none 0 0)] 26), (5, bx b101 #[(iv x141), (iv x142), (iv x143), (iv x144), (.slice Al145 (l145).length cl145), (.slice Al146 (l146).length cl146), (.slice Al147 (l147).length cl147)] 26), (21, ow Al145 cl145 49 fl_TBoardKind l145), (22, ow Al146 cl146 53 fl_TSlot l146), (23, ow Al147 cl147 51 fl_TPoint l147)]) _
   refine Tr.nil (Tr.normThen ?_)
   refine Tr.cond rfl H (fun H => ?_) (fun H => ?_)
   ·refine Tr.skip (Tr.normThen ?_)
    refine Tr.seq ?_
    refine Tr.block ?_
    refine Tr.sr ?_
    refine Tr.mv rfl rfl ?_
    obtain ⟨y150, hy150, H⟩ := bnd H
    refine Tr.call0 (r := (.tuple #[(sv y150.1), (sv y150.2.1), (.bool y150.2.2)])) (wn rfl) rfl Tryz.call17 (evl_cons rfl (evl_cons rfl evl_nil)) (fun W hW => F_strings_Cut_ok (hT.ext hW.extAll) x148 (⟨#[10]⟩) y150 hy150 (HF.start _)) ?_
    refine Tr.mv rfl rfl ?_
    refine Tr.va rfl (fun _ _ h1 h2 => run_extract (h1.ev rfl) rfl) ?_
    refine Tr.va rfl (fun _ _ h1 h2 => run_extract (h1.ev rfl) rfl) ?_
    refine Tr.va rfl (fun _ _ h1 h2 => run_extract (h1.ev rfl) rfl) ?_
    refine Tr.asg rfl rfl ?_
    refine Tr.asg rfl rfl ?_
    refine Tr.asg rfl rfl ?_
    refine Tr.nil (Tr.normThen ?_)
    refine Tr.seq ?_
    refine Tr.sr ?_
    refine Tr.mv rfl rfl ?_
    refine Tr.va rfl (fun _ _ h1 h2 => run_not (h1.ev rfl)) ?_
    refine Tr.mv rfl rfl ?_
    cases hg152 : (!y150.2.2)
    ·rw [hg152, if_neg (by decide)] at H
     refine Tr.val (wg rfl rfl rfl) rfl (fun _ _ h1 h2 => run_move (h1.ev rfl)) ?_
     refine Tr.val (wg rfl rfl rfl) rfl (fun _ _ h1 h2 => run_move (h1.ev rfl)) ?_
     obtain ⟨y154, hy154, H⟩ := bnd H
     refine Tr.callM [5, 21, 22, 23] [bx b101 #[(iv x141), (iv x142), (iv x143), (iv x144), (.slice Al145 (l145).length cl145), (.slice Al146 (l146).length cl146), (.slice Al147 (l147).length cl147)] 26, ow Al145 cl145 49 fl_TBoardKind l145, ow Al146 cl146 53 fl_TSlot l146, ow Al147 cl147 51 fl_TPoint l147] (U := (Option Addr × Nat) × (Option Addr × Nat) × (Option Addr × Nat)) (fun u => (.bool y154.1)) (fun u => SlF u.1.1 (y154.2.2.2.2.2.1).length u.1.2 ∧ SlF u.2.1.1 (y154.2.2.2.2.2.2.1).length u.2.1.2 ∧ SlF u.2.2.1 (y154.2.2.2.2.2.2.2).length u.2.2.2) (fun u => [bx b101 #[(iv y154.2.1), (iv y154.2.2.1), (iv y154.2.2.2.1), (iv y154.2.2.2.2.1), (.slice u.1.1 (y154.2.2.2.2.2.1).length u.1.2), (.slice u.2.1.1 (y154.2.2.2.2.2.2.1).length u.2.1.2), (.slice u.2.2.1 (y154.2.2.2.2.2.2.2).length u.2.2.2)] 26, ow u.1.1 u.1.2 49 fl_TBoardKind y154.2.2.2.2.2.1, ow u.2.1.1 u.2.1.2 53 fl_TSlot y154.2.2.2.2.2.2.1, ow u.2.2.1 u.2.2.2 51 fl_TPoint y154.2.2.2.2.2.2.2]) rfl (pk_cons rfl (pk_cons rfl (pk_cons rfl (pk_cons rfl pk_nil)))) (fun _ => rfl) (wg rfl rfl rfl) rfl Tryz.call18 (evl_cons rfl (evl_cons rfl (evl_cons rfl evl_nil))) (fun W hW hp hE => F_panel_readLine_ok (hT.ext (hW.extS hp)) (TPanel.mk x141 x142 x143 x144 l145 l146 l147) Al145 cl145 Al146 cl146 Al147 cl147 b101 x149 y150.1 y154 hy154 hE) ?_
     intro u hu
     obtain ⟨⟨Ay154_0, cy154_0⟩, ⟨Ay154_1, cy154_1⟩, ⟨Ay154_2, cy154_2⟩⟩ := u
     obtain ⟨gy154_0, gy154_1, gy154_2⟩ := hu
     have hgy154_0 : SlF Ay154_0 (y154.2.2.2.2.2.1).length cy154_0 := gy154_0 --@phi
     have hgy154_1 : SlF Ay154_1 (y154.2.2.2.2.2.2.1).length cy154_1 := gy154_1 --@phi
     have hgy154_2 : SlF Ay154_2 (y154.2.2.2.2.2.2.2).length cy154_2 := gy154_2 --@phi
     show Tr _ _ (uf _ 34 (.bool y154.1)) (up (up (up (up _ 23 (ow Ay154_2 cy154_2 51 fl_TPoint y154.2.2.2.2.2.2.2)) 22 (ow Ay154_1 cy154_1 53 fl_TSlot y154.2.2.2.2.2.2.1)) 21 (ow Ay154_0 cy154_0 49 fl_TBoardKind y154.2.2.2.2.2.1)) 5 (bx b101 #[(iv y154.2.1), (iv y154.2.2.1), (iv y154.2.2.2.1), (iv y154.2.2.2.2.1), (.slice Ay154_0 (y154.2.2.2.2.2.1).length cy154_0), (.slice Ay154_1 (y154.2.2.2.2.2.2.1).length cy154_1), (.slice Ay154_2 (y154.2.2.2.2.2.2.2).length cy154_2)] 26)) _
     refine Tr.val (wg rfl rfl rfl) rfl (fun _ _ h1 h2 => run_not (h1.ev rfl)) ?_
     refine Tr.va rfl (fun _ _ h1 h2 => run_pickF (h1.ev rfl) (h1.ev rfl)) ?_
     refine Tr.nil (Tr.normThen ?_)
     refine Tr.cond rfl H (fun H => ?_) (fun H => ?_)
     ·refine Tr.sr ?_
      refine Tr.build (vs := []) (cs := [(iv 0), (iv 0), (iv 0), (iv 0), (.slice none 0 0), (.slice none 0 0), (.slice none 0 0)]) (wn rfl) rfl evs_nil (by kernel_rfl) ?_
      refine Tr.mv rfl rfl ?_
      refine Tr.va rfl (fun _ _ h1 h2 => run_add (h1.ev rfl) (h1.ev rfl)) ?_
      refine Tr.store 1 (cs := [(iv 0), (iv 0), (iv 0), (iv 0), (.slice none 0 0), (.slice none 0 0), (.slice none 0 0)]) [(iv 0), (iv 0), (iv 0), (iv 0), (.slice none 0 0), (.slice none 0 0), (.slice none 0 0)] (wn rfl) rfl rfl rfl rfl sz_26 rfl rfl rfl ?_
      refine Tr.asg rfl rfl ?_
      refine Tr.asg rfl rfl ?_
      refine Tr.nil (Tr.normThen ?_)
      refine Tr.ret (Tr.retThen (Tr.retBlock (Tr.retThen (Tr.retThen (Tr.retBlock (Tr.retThen ?_))))))
      obtain rfl := Option.some.inj H
      refine Tr.nilOwn 27 49 fl_TBoardKind ?_
      refine Tr.nilOwn 28 53 fl_TSlot ?_
      refine Tr.nilOwn 29 51 fl_TPoint ?_
      exact Tr.out (m := [(.agg #[(iv 0), (iv 0), (iv 0), (iv 0), (.slice none 0 0), (.slice none 0 0), (.slice none 0 0)]), (iv (w64 (x149 + 1))), (iv 10)]) [1] (res_cell rfl rfl ag_26 sz_26 (res_tmp rfl (res_tmp rfl res_nil))) (fun W hW => ⟨((none, 0), (none, 0), (none, 0)), rfl, ⟨slf_nil, slf_nil, slf_nil⟩, HF.lowE leB (hW.pick (ks := [27, 28, 29]) (by decide) (pk_cons rfl (pk_cons rfl (pk_cons rfl pk_nil)))) ⟨ow_any _ _ _ _ tr_TBoardKind, ow_any _ _ _ _ tr_TSlot, ow_any _ _ _ _ tr_TPoint, trivial⟩⟩)
     ·refine Tr.skip (Tr.normThen ?_)
      refine Tr.region ?_
      refine Tr.mv rfl rfl ?_
      refine Tr.asg rfl rfl ?_
      refine Tr.nil (Tr.normBlock (Tr.normThen ?_))
      refine Tr.region ?_
      refine Tr.mv rfl rfl ?_
      refine Tr.va rfl (fun _ _ h1 h2 => run_add (h1.ev rfl) (h1.ev rfl)) ?_
      refine Tr.asg rfl rfl ?_
      refine Tr.nil ?_
      exact Tr.backThen leL1 (y154.2.1, y154.2.2.1, y154.2.2.2.1, y154.2.2.2.2.1, y154.2.2.2.2.2.1, y154.2.2.2.2.2.2.1, y154.2.2.2.2.2.2.2, y150.2.1, (w64 (x149 + 1)), Ay154_0, cy154_0, Ay154_1, cy154_1, Ay154_2, cy154_2) ⟨H, hgy154_0, hgy154_1, hgy154_2⟩ (.cons rfl (.cons rfl (.cons rfl (.cons rfl .nil)))) (.cons rfl (.cons rfl (.cons rfl (.cons rfl (.cons rfl .nil)))))
    ·rw [hg152, if_pos rfl] at H
     refine Tr.pass rfl rfl rfl rfl rfl (by decide) ?_
     refine Tr.pass rfl rfl rfl rfl rfl (by decide) ?_
     refine Tr.pass rfl rfl rfl rfl rfl (by decide) ?_
     refine Tr.pass rfl rfl rfl rfl rfl (by decide) ?_
     refine Tr.va rfl (fun _ _ h1 h2 => run_pickT (h1.ev rfl) (h1.ev rfl)) ?_
     refine Tr.nil (Tr.normThen ?_)
     refine Tr.condT rfl rfl ?_
     refine Tr.sr ?_
     refine Tr.build (vs := []) (cs := [(iv 0), (iv 0), (iv 0), (iv 0), (.slice none 0 0), (.slice none 0 0), (.slice none 0 0)]) (wn rfl) rfl evs_nil (by kernel_rfl) ?_
     refine Tr.mv rfl rfl ?_
     refine Tr.va rfl (fun _ _ h1 h2 => run_add (h1.ev rfl) (h1.ev rfl)) ?_
     refine Tr.store 1 (cs := [(iv 0), (iv 0), (iv 0), (iv 0), (.slice none 0 0), (.slice none 0 0), (.slice none 0 0)]) [(iv 0), (iv 0), (iv 0), (iv 0), (.slice none 0 0), (.slice none 0 0), (.slice none 0 0)] (wn rfl) rfl rfl rfl rfl sz_26 rfl rfl rfl ?_
     refine Tr.asg rfl rfl ?_
     refine Tr.asg rfl rfl ?_
     refine Tr.nil (Tr.normThen ?_)
     refine Tr.ret (Tr.retThen (Tr.retBlock (Tr.retThen (Tr.retThen (Tr.retBlock (Tr.retThen ?_))))))
     obtain rfl := Option.some.inj H
     refine Tr.nilOwn 24 49 fl_TBoardKind ?_
     refine Tr.nilOwn 25 53 fl_TSlot ?_
     refine Tr.nilOwn 26 51 fl_TPoint ?_
     exact Tr.out (m := [(.agg #[(iv 0), (iv 0), (iv 0), (iv 0), (.slice none 0 0), (.slice none 0 0), (.slice none 0 0)]), (iv (w64 (x149 + 1))), (iv 10)]) [1] (res_cell rfl rfl ag_26 sz_26 (res_tmp rfl (res_tmp rfl res_nil))) (fun W hW => ⟨((none, 0), (none, 0), (none, 0)), rfl, ⟨slf_nil, slf_nil, slf_nil⟩, HF.lowE leB (hW.pick (ks := [24, 25, 26]) (by decide) (pk_cons rfl (pk_cons rfl (pk_cons rfl pk_nil)))) ⟨ow_any _ _ _ _ tr_TBoardKind, ow_any _ _ _ _ tr_TSlot, ow_any _ _ _ _ tr_TPoint, trivial⟩⟩)
   ·refine Tr.exit (Tr.exitThen (Tr.exitThen (Tr.exitBlock (Tr.normThen ?_))))
    refine Tr.seq ?_
    refine Tr.sr ?_
    refine Tr.va rfl (fun _ _ h1 h2 => run_loadN (cs := [(iv x141), (iv x142), (iv x143), (iv x144), (.slice Al145 (l145).length cl145), (.slice Al146 (l146).length cl146), (.slice Al147 (l147).length cl147)]) ag_26 sz_26 (h1.ev rfl) (CellsAt.take (rdb h2 (vs := [(iv x141), (iv x142), (iv x143), (iv x144), (.slice Al145 (l145).length cl145), (.slice Al146 (l146).length cl146), (.slice Al147 (l147).length cl147)]) (k := 5) rfl 0) 7) rfl) ?_
    obtain ⟨y156, hy156, H⟩ := bnd H
    refine Tr.call0 (r := (iv y156)) (wn rfl) rfl Tryz.call11 (evl_cons rfl evl_nil) (fun W hW => F_panel_CheckPanel_ok N (TPanel.mk x141 x142 x143 x144 l145 l146 l147) Al145 cl145 (hW.slCall (k := 21) rfl) Al146 cl146 (hW.slCall (k := 22) rfl) Al147 cl147 (hW.slCall (k := 23) rfl) y156 hy156 (HF.start _)) ?_
    refine Tr.asg rfl rfl ?_
    refine Tr.nil (Tr.normThen ?_)
    refine Tr.sr ?_
    refine Tr.mv rfl rfl ?_
    refine Tr.va rfl (fun _ _ h1 h2 => run_neq (h1.ev rfl) (h1.ev rfl)) ?_
    refine Tr.nil (Tr.normThen ?_)
    refine Tr.cond rfl H (fun H => ?_) (fun H => ?_)
    ·refine Tr.sr ?_
     refine Tr.build (vs := []) (cs := [(iv 0), (iv 0), (iv 0), (iv 0), (.slice none 0 0), (.slice none 0 0), (.slice none 0 0)]) (wn rfl) rfl evs_nil (by kernel_rfl) ?_
     refine Tr.mv rfl rfl ?_
     refine Tr.store 1 (cs := [(iv 0), (iv 0), (iv 0), (iv 0), (.slice none 0 0), (.slice none 0 0), (.slice none 0 0)]) [(iv 0), (iv 0), (iv 0), (iv 0), (.slice none 0 0), (.slice none 0 0), (.slice none 0 0)] (wn rfl) rfl rfl rfl rfl sz_26 rfl rfl rfl ?_
     refine Tr.asg rfl rfl ?_
     refine Tr.asg rfl rfl ?_
     refine Tr.nil (Tr.normThen ?_)
     refine Tr.ret (Tr.retThen ?_)
     obtain rfl := Option.some.inj H
     refine Tr.nilOwn 30 49 fl_TBoardKind ?_
     refine Tr.nilOwn 31 53 fl_TSlot ?_
     refine Tr.nilOwn 32 51 fl_TPoint ?_
     exact Tr.out (m := [(.agg #[(iv 0), (iv 0), (iv 0), (iv 0), (.slice none 0 0), (.slice none 0 0), (.slice none 0 0)]), (iv 0), (iv y156)]) [1] (res_cell rfl rfl ag_26 sz_26 (res_tmp rfl (res_tmp rfl res_nil))) (fun W hW => ⟨((none, 0), (none, 0), (none, 0)), rfl, ⟨slf_nil, slf_nil, slf_nil⟩, HF.lowE leB (hW.pick (ks := [30, 31, 32]) (by decide) (pk_cons rfl (pk_cons rfl (pk_cons rfl pk_nil)))) ⟨ow_any _ _ _ _ tr_TBoardKind, ow_any _ _ _ _ tr_TSlot, ow_any _ _ _ _ tr_TPoint, trivial⟩⟩)
    ·refine Tr.skip (Tr.normThen ?_)
     refine Tr.sr ?_
     refine Tr.va rfl (fun _ _ h1 h2 => run_loadN (cs := [(iv x141), (iv x142), (iv x143), (iv x144), (.slice Al145 (l145).length cl145), (.slice Al146 (l146).length cl146), (.slice Al147 (l147).length cl147)]) ag_26 sz_26 (h1.ev rfl) (CellsAt.take (rdb h2 (vs := [(iv x141), (iv x142), (iv x143), (iv x144), (.slice Al145 (l145).length cl145), (.slice Al146 (l146).length cl146), (.slice Al147 (l147).length cl147)]) (k := 5) rfl 0) 7) rfl) ?_
     refine Tr.store 1 (cs := [(iv x141), (iv x142), (iv x143), (iv x144), (.slice Al145 (l145).length cl145), (.slice Al146 (l146).length cl146), (.slice Al147 (l147).length cl147)]) [(iv x141), (iv x142), (iv x143), (iv x144), (.slice Al145 (l145).length cl145), (.slice Al146 (l146).length cl146), (.slice Al147 (l147).length cl147)] (wn rfl) rfl rfl rfl rfl sz_26 rfl rfl rfl ?_
     refine Tr.asg rfl rfl ?_
     refine Tr.asg rfl rfl ?_
     refine Tr.nil (Tr.normThen ?_)
     refine Tr.ret ?_
     obtain rfl := Option.some.inj H
     exact Tr.out (m := [(.agg #[(iv x141), (iv x142), (iv x143), (iv x144), (.slice Al145 (l145).length cl145), (.slice Al146 (l146).length cl146), (.slice Al147 (l147).length cl147)]), (iv 0), (iv 0)]) [1] (res_cell rfl rfl ag_26 sz_26 (res_tmp rfl (res_tmp rfl res_nil))) (fun W hW => ⟨((Al145, cl145), (Al146, cl146), (Al147, cl147)), rfl, ⟨hl145, hl146, hl147⟩, HF.lowE leB (hW.pick (ks := [21, 22, 23]) (by decide) (pk_cons rfl (pk_cons rfl (pk_cons rfl pk_nil)))) ⟨ow_any _ _ _ _ tr_TBoardKind, ow_any _ _ _ _ tr_TSlot, ow_any _ _ _ _ tr_TPoint, trivial⟩⟩)

theorem F_etchhouseref3_Words_ok (N : Nat) {w : Bs} (hT : Tab Tryz.prog w) (p0 : ByteArray) (r : ((List ByteArray) × Bool)) (H : F_etchhouseref3_Words N p0 = some r) (hE : HF w w.W (LEn [emp])) : Calls Tryz.prog 39 [(sv p0)].toArray w.W fun e W' => ∃ u : (Option Addr × Nat), e = .returned (.tuple #[(.slice u.1 (r.1).length u.2), (.bool r.2)]) ∧ (SlF u.1 (r.1).length u.2) ∧ HF w W' (LEn [ow u.1 u.2 9 fl_str r.1]) := by
 unfold F_etchhouseref3_Words at H
 have leB := Bs.Le.refl w
 refine Tr.enter (n := 46) Tryz.func39 rfl rfl rfl hE ?_
 refine Tr.sr ?_
 refine Tr.asg rfl rfl ?_
 refine Tr.nilOwn 1 9 fl_str ?_
 show Tr _ _ (uf _ 2 (.slice none (([] : List ByteArray)).length 0)) _ _
 refine Tr.asg rfl rfl ?_
 refine Tr.nil (Tr.normThen ?_)
 refine Tr.sr ?_
 refine Tr.mv rfl rfl ?_
 obtain ⟨y100, hy100, H⟩ := bnd H
 refine Tr.callM [2] [emp] (U := (Option Addr × Nat)) (fun u => (.slice u.1 (y100).length u.2)) (fun u => SlF u.1 (y100).length u.2) (fun u => [ow u.1 u.2 9 fl_str y100]) rfl (pk_cons rfl pk_nil) (fun _ => rfl) (wn rfl) rfl Tryz.call28 (evl_cons rfl (evl_cons rfl evl_nil)) (fun W hW hp hE => F_strings_Split_ok (hT.ext (hW.extS hp)) p0 (⟨#[32]⟩) y100 hy100 hE) ?_
 intro u hu
 obtain ⟨Ay100_0, cy100_0⟩ := u
 have gy100_0 := hu
 have hgy100_0 : SlF Ay100_0 (y100).length cy100_0 := gy100_0 --@phi
 show Tr _ _ (uf _ 8 (.slice Ay100_0 (y100).length cy100_0)) (up _ 2 (ow Ay100_0 cy100_0 9 fl_str y100)) _
 refine Tr.asg rfl rfl ?_
 refine Tr.nil (Tr.normThen ?_)
 refine Tr.seq ?_
 refine Tr.sr ?_
 refine Tr.asg rfl rfl ?_
 refine Tr.nil (Tr.normThen ?_)
 refine Tr.block ?_
 refine Tr.loop (σ := Int) (fun m w s => F_etchhouseref3_Words_L3 N y100 m s = some r) (fun s => [(4, (.slice Ay100_0 (y100).length cy100_0)), (5, (iv s))]) (fun s => [(2, ow Ay100_0 cy100_0 9 fl_str y100)]) N 0 H (.cons rfl (.cons rfl .nil)) (.cons rfl .nil) (fun _ _ h => noSome (h)) ?_
 intro w leL3 mL3 x163 hs
 have H := hs
 replace H : F_etchhouseref3_Words_L3 N y100 (mL3 + 1) x163 = some r := H
 replace hT := hT.ext leL3.ext
 replace leB := leB.trans leL3
 rw [F_etchhouseref3_Words_L3.eq_2] at H
 show Tr _ _ (LF [(4, (.slice Ay100_0 (y100).length cy100_0)), (5, (iv x163))]) (LE [(2, ow Ay100_0 cy100_0 9 fl_str y100)]) _
 refine Tr.seq ?_
 refine Tr.sr ?_
 refine Tr.mv rfl rfl ?_
 refine Tr.mv rfl rfl ?_
 refine Tr.va rfl (fun _ _ h1 h2 => run_len un_40 (h1.ev rfl)) ?_
 refine Tr.va rfl (fun _ _ h1 h2 => run_lss (h1.ev rfl) (h1.ev rfl)) ?_
 refine Tr.nil (Tr.normThen ?_)
 refine Tr.cond rfl H (fun H => ?_) (fun H => ?_)
 ·refine Tr.skip (Tr.normThen ?_)
  refine Tr.seq ?_
  refine Tr.block ?_
  refine Tr.seq ?_
  refine Tr.sr ?_
  refine Tr.mv rfl rfl ?_
  refine Tr.mv rfl rfl ?_
  obtain ⟨x164, hx164, H⟩ := bnd H
  obtain ⟨hx1640, hx1641, hx1642⟩ := idx_some hx164
  refine Tr.va rfl (fun _ _ h1 h2 => run_indexAddr el_40 (h1.ev rfl) hgy100_0 (h1.ev rfl) hx1640 hx1641) ?_
  refine Tr.va rfl (fun _ _ h1 h2 => run_load1 ag_9 (h1.ev rfl) (rdo ef_str (k := 2) h2 rfl hx1642) rfl) ?_
  refine Tr.va rfl (fun _ _ h1 h2 => run_eqlS (h1.ev rfl) (h1.ev rfl)) ?_
  refine Tr.nil (Tr.normThen ?_)
  refine Tr.cond rfl H (fun H => ?_) (fun H => ?_)
  ·refine Tr.sr ?_
   refine Tr.asg rfl rfl ?_
   refine Tr.nilOwn 11 9 fl_str ?_
   show Tr _ _ (uf _ 2 (.slice none (([] : List ByteArray)).length 0)) _ _
   refine Tr.asg rfl rfl ?_
   refine Tr.nil (Tr.normThen ?_)
   refine Tr.ret (Tr.retThen (Tr.retBlock (Tr.retThen (Tr.retThen (Tr.retBlock (Tr.retThen ?_))))))
   obtain rfl := Option.some.inj H
   exact Tr.out (m := [(.slice none (([] : List ByteArray)).length 0), (.bool false)]) [] (res_tmp rfl (res_tmp rfl res_nil)) (fun W hW => ⟨(none, 0), rfl, slf_nil, HF.lowE leB (hW.pick (ks := [11]) (by decide) (pk_cons rfl pk_nil)) ⟨ow_any _ _ _ _ tr_str, trivial⟩⟩)
  ·refine Tr.skip (Tr.normThen ?_)
   refine Tr.sr ?_
   refine Tr.asg rfl rfl ?_
   refine Tr.nil (Tr.normThen ?_)
   refine Tr.block ?_
   refine Tr.loop (σ := Int) (fun m w s => F_etchhouseref3_Words_L4 y100 x163 (F_etchhouseref3_Words_L3 N y100 mL3) m s = some r) (fun s => [(4, (.slice Ay100_0 (y100).length cy100_0)), (5, (iv x163)), (6, (iv s))]) (fun s => [(2, ow Ay100_0 cy100_0 9 fl_str y100)]) N 0 H (.cons rfl (.cons rfl (.cons rfl .nil))) (.cons rfl .nil) (fun _ _ h => noSome (h)) ?_
   intro w leL4 mL4 x184 hs
   have H := hs
   replace H : F_etchhouseref3_Words_L4 y100 x163 (F_etchhouseref3_Words_L3 N y100 mL3) (mL4 + 1) x184 = some r := H
   replace hT := hT.ext leL4.ext
   replace leB := leB.trans leL4
   replace leL3 := leL3.trans leL4
   rw [F_etchhouseref3_Words_L4.eq_2] at H
   show Tr _ _ (LF [(4, (.slice Ay100_0 (y100).length cy100_0)), (5, (iv x163)), (6, (iv x184))]) (LE [(2, ow Ay100_0 cy100_0 9 fl_str y100)]) _
   refine Tr.seq ?_
   refine Tr.sr ?_
   refine Tr.mv rfl rfl ?_
   refine Tr.mv rfl rfl ?_
   refine Tr.mv rfl rfl ?_
   obtain ⟨x185, hx185, H⟩ := bnd H
   obtain ⟨hx1850, hx1851, hx1852⟩ := idx_some hx185
   refine Tr.va rfl (fun _ _ h1 h2 => run_indexAddr el_40 (h1.ev rfl) hgy100_0 (h1.ev rfl) hx1850 hx1851) ?_
   refine Tr.va rfl (fun _ _ h1 h2 => run_load1 ag_9 (h1.ev rfl) (rdo ef_str (k := 2) h2 rfl hx1852) rfl) ?_
   refine Tr.va rfl (fun _ _ h1 h2 => run_lenS un_9 (h1.ev rfl)) ?_
   refine Tr.va rfl (fun _ _ h1 h2 => run_lss (h1.ev rfl) (h1.ev rfl)) ?_
   refine Tr.nil (Tr.normThen ?_)
   refine Tr.cond rfl H (fun H => ?_) (fun H => ?_)
   ·refine Tr.skip (Tr.normThen ?_)
    refine Tr.seq ?_
    refine Tr.block ?_
    refine Tr.sr ?_
    refine Tr.mv rfl rfl ?_
    refine Tr.mv rfl rfl ?_
    obtain ⟨x186, hx186, H⟩ := bnd H
    obtain ⟨hx1860, hx1861, hx1862⟩ := idx_some hx186
    refine Tr.va rfl (fun _ _ h1 h2 => run_indexAddr el_40 (h1.ev rfl) hgy100_0 (h1.ev rfl) hx1860 hx1861) ?_
    refine Tr.va rfl (fun _ _ h1 h2 => run_load1 ag_9 (h1.ev rfl) (rdo ef_str (k := 2) h2 rfl hx1862) rfl) ?_
    refine Tr.mv rfl rfl ?_
    obtain ⟨c187, hc187, H⟩ := bnd H
    refine Tr.va rfl (fun _ _ h1 h2 => run_indexS un_9 (h1.ev rfl) (h1.ev rfl) hc187) ?_
    refine Tr.va rfl (fun _ _ h1 h2 => run_lss (h1.ev rfl) (h1.ev rfl)) ?_
    refine Tr.mv rfl rfl ?_
    obtain ⟨g190, hg190, H⟩ := bnd H
    refine Tr.mid0 8 [(4, (.slice Ay100_0 (y100).length cy100_0)), (5, (iv x163)), (6, (iv x184)), (44, (.bool g190))] [(2, ow Ay100_0 cy100_0 9 fl_str y100)] ?_ ?_
    ·cases hg192 : (decide (c187 < 33))
     ·rw [hg192] at hg190
      rw [if_neg (by decide)] at hg190
      have H := hg190
      refine Tr.val (wg rfl rfl rfl) rfl (fun _ _ h1 h2 => run_move (h1.ev rfl)) ?_
      refine Tr.val (wg rfl rfl rfl) rfl (fun _ _ h1 h2 => run_move (h1.ev rfl)) ?_
      obtain ⟨x191, hx191, H⟩ := bnd H
      obtain ⟨hx1910, hx1911, hx1912⟩ := idx_some hx191
      refine Tr.val (wg rfl rfl rfl) rfl (fun _ _ h1 h2 => run_indexAddr el_40 (h1.ev rfl) hgy100_0 (h1.ev rfl) hx1910 hx1911) ?_
      refine Tr.val (wg rfl rfl rfl) rfl (fun _ _ h1 h2 => run_load1 ag_9 (h1.ev rfl) (rdo ef_str (k := 2) h2 rfl hx1912) rfl) ?_
      refine Tr.val (wg rfl rfl rfl) rfl (fun _ _ h1 h2 => run_move (h1.ev rfl)) ?_
      obtain ⟨c192, hc192, H⟩ := bnd H
      refine Tr.val (wg rfl rfl rfl) rfl (fun _ _ h1 h2 => run_indexS un_9 (h1.ev rfl) (h1.ev rfl) hc192) ?_
      refine Tr.val (wg rfl rfl rfl) rfl (fun _ _ h1 h2 => run_gtr (h1.ev rfl) (h1.ev rfl)) ?_
      refine Tr.va rfl (fun _ _ h1 h2 => run_pickF (h1.ev rfl) (h1.ev rfl)) ?_
      obtain rfl := Option.some.inj H
      exact Tr.nil (Tr.fin0 (.cons rfl (.cons rfl (.cons rfl (.cons rfl .nil)))) (.cons rfl .nil))
     ·rw [hg192] at hg190
      rw [if_pos rfl] at hg190
      have H := hg190
      obtain rfl := Option.some.inj H
      refine Tr.pass rfl rfl rfl rfl rfl (by decide) ?_
      refine Tr.pass rfl rfl rfl rfl rfl (by decide) ?_
      refine Tr.pass rfl rfl rfl rfl rfl (by decide) ?_
      refine Tr.pass rfl rfl rfl rfl rfl (by decide) ?_
      refine Tr.pass rfl rfl rfl rfl rfl (by decide) ?_
      refine Tr.pass rfl rfl rfl rfl rfl (by decide) ?_
      refine Tr.pass rfl rfl rfl rfl rfl (by decide) ?_
      refine Tr.va rfl (fun _ _ h1 h2 => run_pickT (h1.ev rfl) (h1.ev rfl)) ?_
      exact Tr.nil (Tr.fin0 (.cons rfl (.cons rfl (.cons rfl (.cons rfl .nil)))) (.cons rfl .nil))
    ·show Tr _ _ (LF [(4, (.slice Ay100_0 (y100).length cy100_0)), (5, (iv x163)), (6, (iv x184)), (44, (.bool g190))]) (LE [(2, ow Ay100_0 cy100_0 9 fl_str y100)]) _
     refine Tr.nil (Tr.normThen ?_)
     refine Tr.cond rfl H (fun H => ?_) (fun H => ?_)
     ·refine Tr.sr ?_
      refine Tr.asg rfl rfl ?_
      refine Tr.nilOwn 14 9 fl_str ?_
      show Tr _ _ (uf _ 2 (.slice none (([] : List ByteArray)).length 0)) _ _
      refine Tr.asg rfl rfl ?_
      refine Tr.nil (Tr.normThen ?_)
      refine Tr.ret (Tr.retBlock (Tr.retThen (Tr.retThen (Tr.retBlock (Tr.retBlock (Tr.retThen (Tr.retThen (Tr.retBlock (Tr.retThen ?_)))))))))
      obtain rfl := Option.some.inj H
      exact Tr.out (m := [(.slice none (([] : List ByteArray)).length 0), (.bool false)]) [] (res_tmp rfl (res_tmp rfl res_nil)) (fun W hW => ⟨(none, 0), rfl, slf_nil, HF.lowE leB (hW.pick (ks := [14]) (by decide) (pk_cons rfl pk_nil)) ⟨ow_any _ _ _ _ tr_str, trivial⟩⟩)
     ·refine Tr.skip (Tr.normBlock (Tr.normThen ?_))
      refine Tr.region ?_
      refine Tr.mv rfl rfl ?_
      refine Tr.va rfl (fun _ _ h1 h2 => run_add (h1.ev rfl) (h1.ev rfl)) ?_
      refine Tr.asg rfl rfl ?_
      refine Tr.nil ?_
      exact Tr.backThen leL4 (w64 (x184 + 1)) H (.cons rfl (.cons rfl (.cons rfl .nil))) (.cons rfl .nil)
   ·refine Tr.exit (Tr.exitThen (Tr.exitThen (Tr.exitBlock (Tr.normBlock (Tr.normThen ?_)))))
    refine Tr.region ?_
    refine Tr.mv rfl rfl ?_
    refine Tr.va rfl (fun _ _ h1 h2 => run_add (h1.ev rfl) (h1.ev rfl)) ?_
    refine Tr.asg rfl rfl ?_
    refine Tr.nil ?_
    exact Tr.backThen leL3 (w64 (x163 + 1)) H (.cons rfl (.cons rfl .nil)) (.cons rfl .nil)
 ·refine Tr.exit (Tr.exitThen (Tr.exitThen (Tr.exitBlock (Tr.normThen ?_))))
  refine Tr.sr ?_
  refine Tr.mv rfl rfl ?_
  refine Tr.asg rfl rfl ?_
  refine Tr.asg rfl rfl ?_
  refine Tr.nil (Tr.normThen ?_)
  refine Tr.ret ?_
  obtain rfl := Option.some.inj H
  exact Tr.out (m := [(.slice Ay100_0 (y100).length cy100_0), (.bool true)]) [] (res_tmp rfl (res_tmp rfl res_nil)) (fun W hW => ⟨(Ay100_0, cy100_0), rfl, hgy100_0, HF.lowE leB (hW.pick (ks := [2]) (by decide) (pk_cons rfl pk_nil)) ⟨ow_any _ _ _ _ tr_str, trivial⟩⟩)

theorem F_stringslite_CutPrefix_ok {w : Bs} (p0 : ByteArray) (p1 : ByteArray) (r : (ByteArray × Bool)) (H : F_stringslite_CutPrefix p0 p1 = some r) (hE : HF w w.W E0) : Calls Tryz.prog 114 [(sv p0), (sv p1)].toArray w.W fun e W' => e = .returned (.tuple #[(sv r.1), (.bool r.2)]) ∧ HF w W' E0 := by
 unfold F_stringslite_CutPrefix at H
 have leB := Bs.Le.refl w
 refine Tr.enter (n := 15) Tryz.func114 rfl rfl rfl hE ?_
 refine Tr.sr ?_
 refine Tr.asg rfl rfl ?_
 refine Tr.asg rfl rfl ?_
 refine Tr.nil (Tr.normThen ?_)
 refine Tr.seq ?_
 refine Tr.sr ?_
 refine Tr.mv rfl rfl ?_
 refine Tr.mv rfl rfl ?_
 obtain ⟨y100, hy100, H⟩ := bnd H
 refine Tr.call0 (r := (.bool y100)) (wn rfl) rfl Tryz.call118 (evl_cons rfl (evl_cons rfl evl_nil)) (fun W hW => F_stringslite_HasPrefix_ok p0 p1 y100 hy100 (HF.start _)) ?_
 refine Tr.va rfl (fun _ _ h1 h2 => run_not (h1.ev rfl)) ?_
 refine Tr.nil (Tr.normThen ?_)
 refine Tr.cond rfl H (fun H => ?_) (fun H => ?_)
 ·refine Tr.sr ?_
  refine Tr.mv rfl rfl ?_
  refine Tr.asg rfl rfl ?_
  refine Tr.asg rfl rfl ?_
  refine Tr.nil (Tr.normThen ?_)
  refine Tr.ret (Tr.retThen ?_)
  obtain rfl := Option.some.inj H
  exact Tr.out (m := [(sv p0), (.bool false)]) [] (res_tmp rfl (res_tmp rfl res_nil)) (fun W hW => ⟨rfl, hW.low leB⟩)
 ·refine Tr.skip (Tr.normThen ?_)
  refine Tr.sr ?_
  refine Tr.mv rfl rfl ?_
  refine Tr.mv rfl rfl ?_
  refine Tr.va rfl (fun _ _ h1 h2 => run_lenS un_9 (h1.ev rfl)) ?_
  obtain ⟨t101, ht101, H⟩ := bnd H
  refine Tr.va rfl (fun _ _ h1 h2 => run_cutSL un_9 (h1.ev rfl) (h1.ev rfl) ht101) ?_
  refine Tr.asg rfl rfl ?_
  refine Tr.asg rfl rfl ?_
  refine Tr.nil (Tr.normThen ?_)
  refine Tr.ret ?_
  obtain rfl := Option.some.inj H
  exact Tr.out (m := [(sv t101), (.bool true)]) [] (res_tmp rfl (res_tmp rfl res_nil)) (fun W hW => ⟨rfl, hW.low leB⟩)

theorem F_strings_CutPrefix_ok {w : Bs} (p0 : ByteArray) (p1 : ByteArray) (r : (ByteArray × Bool)) (H : F_strings_CutPrefix p0 p1 = some r) (hE : HF w w.W E0) : Calls Tryz.prog 89 [(sv p0), (sv p1)].toArray w.W fun e W' => e = .returned (.tuple #[(sv r.1), (.bool r.2)]) ∧ HF w W' E0 := by
 unfold F_strings_CutPrefix at H
 have leB := Bs.Le.refl w
 refine Tr.enter (n := 11) Tryz.func89 rfl rfl rfl hE ?_
 refine Tr.sr ?_
 refine Tr.asg rfl rfl ?_
 refine Tr.asg rfl rfl ?_
 refine Tr.nil (Tr.normThen ?_)
 refine Tr.sr ?_
 refine Tr.mv rfl rfl ?_
 refine Tr.mv rfl rfl ?_
 obtain ⟨y100, hy100, H⟩ := bnd H
 refine Tr.call0 (r := (.tuple #[(sv y100.1), (.bool y100.2)])) (wn rfl) rfl Tryz.call114 (evl_cons rfl (evl_cons rfl evl_nil)) (fun W hW => F_stringslite_CutPrefix_ok p0 p1 y100 hy100 (HF.start _)) ?_
 refine Tr.va rfl (fun _ _ h1 h2 => run_extract (h1.ev rfl) rfl) ?_
 refine Tr.va rfl (fun _ _ h1 h2 => run_extract (h1.ev rfl) rfl) ?_
 refine Tr.asg rfl rfl ?_
 refine Tr.asg rfl rfl ?_
 refine Tr.nil (Tr.normThen ?_)
 refine Tr.ret ?_
 obtain rfl := Option.some.inj H
 exact Tr.out (m := [(sv y100.1), (.bool y100.2)]) [] (res_tmp rfl (res_tmp rfl res_nil)) (fun W hW => ⟨rfl, hW.low leB⟩)

theorem F_etchhouseref3_Number_ok (N : Nat) {w : Bs} (p0 : ByteArray) (r : (Int × Bool)) (H : F_etchhouseref3_Number N p0 = some r) (hE : HF w w.W E0) : Calls Tryz.prog 64 [(sv p0)].toArray w.W fun e W' => e = .returned (.tuple #[(iv r.1), (.bool r.2)]) ∧ HF w W' E0 := by
 unfold F_etchhouseref3_Number at H
 have leB := Bs.Le.refl w
 refine Tr.enter (n := 53) Tryz.func64 rfl rfl rfl hE ?_
 refine Tr.sr ?_
 refine Tr.asg rfl rfl ?_
 refine Tr.asg rfl rfl ?_
 refine Tr.nil (Tr.normThen ?_)
 refine Tr.sr ?_
 refine Tr.mv rfl rfl ?_
 obtain ⟨y100, hy100, H⟩ := bnd H
 refine Tr.call0 (r := (.tuple #[(sv y100.1), (.bool y100.2)])) (wn rfl) rfl Tryz.call89 (evl_cons rfl (evl_cons rfl evl_nil)) (fun W hW => F_strings_CutPrefix_ok p0 (⟨#[45]⟩) y100 hy100 (HF.start _)) ?_
 refine Tr.mv rfl rfl ?_
 refine Tr.va rfl (fun _ _ h1 h2 => run_extract (h1.ev rfl) rfl) ?_
 refine Tr.va rfl (fun _ _ h1 h2 => run_extract (h1.ev rfl) rfl) ?_
 refine Tr.asg rfl rfl ?_
 refine Tr.asg rfl rfl ?_
 refine Tr.nil (Tr.normThen ?_)
 refine Tr.seq ?_
 refine Tr.sr ?_
 refine Tr.mv rfl rfl ?_
 refine Tr.va rfl (fun _ _ h1 h2 => run_lenS un_9 (h1.ev rfl)) ?_
 obtain ⟨y101, hy101, H⟩ := bnd H
 refine Tr.call0 (r := (.bool y101)) (wn rfl) rfl Tryz.call58 (evl_cons rfl (evl_cons rfl (evl_cons rfl evl_nil))) (fun W hW => F_etchhouseref3_within_ok (y100.1.size : Int) 1 9 y101 hy101 (HF.start _)) ?_
 refine Tr.va rfl (fun _ _ h1 h2 => run_not (h1.ev rfl)) ?_
 refine Tr.mv rfl rfl ?_
 obtain ⟨g103, hg103, H⟩ := bnd H
 refine Tr.mid0 12 [(0, (sv p0)), (4, (sv y100.1)), (30, (.bool g103))] [] ?_ ?_
 ·cases hg121 : (!y101)
  ·rw [hg121] at hg103
   rw [if_neg (by decide)] at hg103
   have H := hg103
   refine Tr.val (wg rfl rfl rfl) rfl (fun _ _ h1 h2 => run_move (h1.ev rfl)) ?_
   obtain ⟨c104, hc104, H⟩ := bnd H
   refine Tr.val (wg rfl rfl rfl) rfl (fun _ _ h1 h2 => run_indexS un_9 (h1.ev rfl) (h1.ev rfl) hc104) ?_
   refine Tr.val (wg rfl rfl rfl) rfl (fun _ _ h1 h2 => run_eql (h1.ev rfl) (h1.ev rfl)) ?_
   refine Tr.val (wg rfl rfl rfl) rfl (fun _ _ h1 h2 => run_move (h1.ev rfl)) ?_
   refine Tr.mid0 7 [(0, (sv p0)), (4, (sv y100.1)), (18, (.bool false)), (29, (.bool ((c104 == 48) && ((decide (1 < (y100.1.size : Int))) || y100.2))))] [] ?_ ?_
   ·cases hg104 : (c104 == 48)
    ·refine Tr.pass rfl rfl rfl rfl rfl (by decide) ?_
     refine Tr.pass rfl rfl rfl rfl rfl (by decide) ?_
     refine Tr.pass rfl rfl rfl rfl rfl (by decide) ?_
     refine Tr.pass rfl rfl rfl rfl rfl (by decide) ?_
     refine Tr.passU rfl rfl rfl rfl (by decide) ?_
     refine Tr.pass rfl rfl rfl rfl rfl (by decide) ?_
     refine Tr.val (wg rfl rfl rfl) rfl (fun _ _ h1 h2 => run_pickF (h1.ev rfl) (h1.ev rfl)) ?_
     exact Tr.nil (Tr.fin0 (.cons rfl (.cons rfl (.cons rfl (.cons rfl .nil)))) .nil)
    ·refine Tr.val (wg rfl rfl rfl) rfl (fun _ _ h1 h2 => run_move (h1.ev rfl)) ?_
     refine Tr.val (wg rfl rfl rfl) rfl (fun _ _ h1 h2 => run_lenS un_9 (h1.ev rfl)) ?_
     refine Tr.val (wg rfl rfl rfl) rfl (fun _ _ h1 h2 => run_gtr (h1.ev rfl) (h1.ev rfl)) ?_
     refine Tr.val (wg rfl rfl rfl) rfl (fun _ _ h1 h2 => run_move (h1.ev rfl)) ?_
     refine Tr.mid0 2 [(0, (sv p0)), (4, (sv y100.1)), (18, (.bool false)), (22, (.bool true)), (28, (.bool ((decide (1 < (y100.1.size : Int))) || y100.2)))] [] ?_ ?_
     ·cases hg104 : (decide (1 < (y100.1.size : Int)))
      ·refine Tr.val (wg rfl rfl rfl) rfl (fun _ _ h1 h2 => run_move (h1.ev rfl)) ?_
       refine Tr.val (wg rfl rfl rfl) rfl (fun _ _ h1 h2 => run_pickF (h1.ev rfl) (h1.ev rfl)) ?_
       exact Tr.nil (Tr.fin0 (.cons rfl (.cons rfl (.cons rfl (.cons rfl (.cons rfl .nil))))) .nil)
      ·refine Tr.pass rfl rfl rfl rfl rfl (by decide) ?_
       refine Tr.val (wg rfl rfl rfl) rfl (fun _ _ h1 h2 => run_pickT (h1.ev rfl) (h1.ev rfl)) ?_
       exact Tr.nil (Tr.fin0 (.cons rfl (.cons rfl (.cons rfl (.cons rfl (.cons rfl .nil))))) .nil)
     ·show Tr _ _ (LF [(0, (sv p0)), (4, (sv y100.1)), (18, (.bool false)), (22, (.bool true)), (28, (.bool ((decide (1 < (y100.1.size : Int))) || y100.2)))]) (LE []) _
      refine Tr.val (wg rfl rfl rfl) rfl (fun _ _ h1 h2 => run_pickT (h1.ev rfl) (h1.ev rfl)) ?_
      exact Tr.nil (Tr.fin0 (.cons rfl (.cons rfl (.cons rfl (.cons rfl .nil)))) .nil)
   ·show Tr _ _ (LF [(0, (sv p0)), (4, (sv y100.1)), (18, (.bool false)), (29, (.bool ((c104 == 48) && ((decide (1 < (y100.1.size : Int))) || y100.2))))]) (LE []) _
    refine Tr.va rfl (fun _ _ h1 h2 => run_pickF (h1.ev rfl) (h1.ev rfl)) ?_
    obtain rfl := Option.some.inj H
    exact Tr.nil (Tr.fin0 (.cons rfl (.cons rfl (.cons rfl .nil))) .nil)
  ·rw [hg121] at hg103
   rw [if_pos rfl] at hg103
   have H := hg103
   obtain rfl := Option.some.inj H
   refine Tr.pass rfl rfl rfl rfl rfl (by decide) ?_
   refine Tr.pass rfl rfl rfl rfl rfl (by decide) ?_
   refine Tr.pass rfl rfl rfl rfl rfl (by decide) ?_
   refine Tr.pass rfl rfl rfl rfl rfl (by decide) ?_
   refine Tr.passU rfl rfl rfl rfl (by decide) ?_
   refine Tr.passU rfl rfl rfl rfl (by decide) ?_
   refine Tr.passU rfl rfl rfl rfl (by decide) ?_
   refine Tr.passU rfl rfl rfl rfl (by decide) ?_
   refine Tr.passU rfl rfl rfl rfl (by decide) ?_
   refine Tr.passU rfl rfl rfl rfl (by decide) ?_
   refine Tr.pass rfl rfl rfl rfl rfl (by decide) ?_
   refine Tr.va rfl (fun _ _ h1 h2 => run_pickT (h1.ev rfl) (h1.ev rfl)) ?_
   exact Tr.nil (Tr.fin0 (.cons rfl (.cons rfl (.cons rfl .nil))) .nil)
 ·show Tr _ _ (LF [(0, (sv p0)), (4, (sv y100.1)), (30, (.bool g103))]) (LE []) _
  refine Tr.nil (Tr.normThen ?_)
  refine Tr.cond rfl H (fun H => ?_) (fun H => ?_)
  ·refine Tr.sr ?_
   refine Tr.asg rfl rfl ?_
   refine Tr.asg rfl rfl ?_
   refine Tr.nil (Tr.normThen ?_)
   refine Tr.ret (Tr.retThen ?_)
   obtain rfl := Option.some.inj H
   exact Tr.out (m := [(iv 0), (.bool false)]) [] (res_tmp rfl (res_tmp rfl res_nil)) (fun W hW => ⟨rfl, hW.low leB⟩)
  ·refine Tr.skip (Tr.normThen ?_)
   refine Tr.seq ?_
   refine Tr.sr ?_
   refine Tr.asg rfl rfl ?_
   refine Tr.nil (Tr.normThen ?_)
   refine Tr.block ?_
   refine Tr.loop (σ := Int) (fun m w s => F_etchhouseref3_Number_L1 p0 y100 m s = some r) (fun s => [(0, (sv p0)), (4, (sv y100.1)), (6, (iv s))]) (fun s => []) N 0 H (.cons rfl (.cons rfl (.cons rfl .nil))) .nil (fun _ _ h => noSome (h)) ?_
   intro w leL1 mL1 x116 hs
   have H := hs
   replace H : F_etchhouseref3_Number_L1 p0 y100 (mL1 + 1) x116 = some r := H
   replace leB := leB.trans leL1
   rw [F_etchhouseref3_Number_L1.eq_2] at H
   show Tr _ _ (LF [(0, (sv p0)), (4, (sv y100.1)), (6, (iv x116))]) (LE []) _
   refine Tr.seq ?_
   refine Tr.sr ?_
   refine Tr.mv rfl rfl ?_
   refine Tr.mv rfl rfl ?_
   refine Tr.va rfl (fun _ _ h1 h2 => run_lenS un_9 (h1.ev rfl)) ?_
   refine Tr.va rfl (fun _ _ h1 h2 => run_lss (h1.ev rfl) (h1.ev rfl)) ?_
   refine Tr.nil (Tr.normThen ?_)
   refine Tr.cond rfl H (fun H => ?_) (fun H => ?_)
   ·refine Tr.skip (Tr.normThen ?_)
    refine Tr.seq ?_
    refine Tr.block ?_
    refine Tr.sr ?_
    refine Tr.mv rfl rfl ?_
    refine Tr.mv rfl rfl ?_
    obtain ⟨c117, hc117, H⟩ := bnd H
    refine Tr.va rfl (fun _ _ h1 h2 => run_indexS un_9 (h1.ev rfl) (h1.ev rfl) hc117) ?_
    refine Tr.va rfl (fun _ _ h1 h2 => run_lss (h1.ev rfl) (h1.ev rfl)) ?_
    refine Tr.mv rfl rfl ?_
    obtain ⟨g119, hg119, H⟩ := bnd H
    refine Tr.mid0 5 [(0, (sv p0)), (4, (sv y100.1)), (6, (iv x116)), (46, (.bool g119))] [] ?_ ?_
    ·cases hg120 : (decide (c117 < 48))
     ·rw [hg120] at hg119
      rw [if_neg (by decide)] at hg119
      have H := hg119
      refine Tr.val (wg rfl rfl rfl) rfl (fun _ _ h1 h2 => run_move (h1.ev rfl)) ?_
      refine Tr.val (wg rfl rfl rfl) rfl (fun _ _ h1 h2 => run_move (h1.ev rfl)) ?_
      obtain ⟨c120, hc120, H⟩ := bnd H
      refine Tr.val (wg rfl rfl rfl) rfl (fun _ _ h1 h2 => run_indexS un_9 (h1.ev rfl) (h1.ev rfl) hc120) ?_
      refine Tr.val (wg rfl rfl rfl) rfl (fun _ _ h1 h2 => run_gtr (h1.ev rfl) (h1.ev rfl)) ?_
      refine Tr.va rfl (fun _ _ h1 h2 => run_pickF (h1.ev rfl) (h1.ev rfl)) ?_
      obtain rfl := Option.some.inj H
      exact Tr.nil (Tr.fin0 (.cons rfl (.cons rfl (.cons rfl (.cons rfl .nil)))) .nil)
     ·rw [hg120] at hg119
      rw [if_pos rfl] at hg119
      have H := hg119
      obtain rfl := Option.some.inj H
      refine Tr.pass rfl rfl rfl rfl rfl (by decide) ?_
      refine Tr.pass rfl rfl rfl rfl rfl (by decide) ?_
      refine Tr.pass rfl rfl rfl rfl rfl (by decide) ?_
      refine Tr.pass rfl rfl rfl rfl rfl (by decide) ?_
      refine Tr.va rfl (fun _ _ h1 h2 => run_pickT (h1.ev rfl) (h1.ev rfl)) ?_
      exact Tr.nil (Tr.fin0 (.cons rfl (.cons rfl (.cons rfl (.cons rfl .nil)))) .nil)
    ·show Tr _ _ (LF [(0, (sv p0)), (4, (sv y100.1)), (6, (iv x116)), (46, (.bool g119))]) (LE []) _
     refine Tr.nil (Tr.normThen ?_)
     refine Tr.cond rfl H (fun H => ?_) (fun H => ?_)
     ·refine Tr.sr ?_
      refine Tr.asg rfl rfl ?_
      refine Tr.asg rfl rfl ?_
      refine Tr.nil (Tr.normThen ?_)
      refine Tr.ret (Tr.retBlock (Tr.retThen (Tr.retThen (Tr.retBlock (Tr.retThen ?_)))))
      obtain rfl := Option.some.inj H
      exact Tr.out (m := [(iv 0), (.bool false)]) [] (res_tmp rfl (res_tmp rfl res_nil)) (fun W hW => ⟨rfl, hW.low leB⟩)
     ·refine Tr.skip (Tr.normBlock (Tr.normThen ?_))
      refine Tr.region ?_
      refine Tr.mv rfl rfl ?_
      refine Tr.va rfl (fun _ _ h1 h2 => run_add (h1.ev rfl) (h1.ev rfl)) ?_
      refine Tr.asg rfl rfl ?_
      refine Tr.nil ?_
      exact Tr.backThen leL1 (w64 (x116 + 1)) H (.cons rfl (.cons rfl (.cons rfl .nil))) .nil
   ·refine Tr.exit (Tr.exitThen (Tr.exitThen (Tr.exitBlock (Tr.normThen ?_))))
    refine Tr.sr ?_
    refine Tr.mv rfl rfl ?_
    obtain ⟨y121, hy121, H⟩ := bnd H
    refine Tr.call0 (r := (.tuple #[(iv y121), .nilIface])) (wn rfl) rfl Tryz.call88 (evl_cons rfl evl_nil) (fun W hW => F_strconv_Atoi_ok p0 y121 hy121 (HF.start _)) ?_
    refine Tr.mv rfl rfl ?_
    refine Tr.va rfl (fun _ _ h1 h2 => run_extract (h1.ev rfl) rfl) ?_
    refine Tr.va rfl (fun _ _ h1 h2 => run_extract (h1.ev rfl) rfl) ?_
    refine Tr.asg rfl rfl ?_
    refine Tr.asg rfl rfl ?_
    refine Tr.nil (Tr.normThen ?_)
    refine Tr.sr ?_
    refine Tr.mv rfl rfl ?_
    refine Tr.asg rfl rfl ?_
    refine Tr.asg rfl rfl ?_
    refine Tr.nil (Tr.normThen ?_)
    refine Tr.ret ?_
    obtain rfl := Option.some.inj H
    exact Tr.out (m := [(iv y121), (.bool true)]) [] (res_tmp rfl (res_tmp rfl res_nil)) (fun W hW => ⟨rfl, hW.low leB⟩)

theorem F_etchhouseref3_Numbers_ok (N : Nat) {w : Bs} (p0 : (List ByteArray)) (Ap0_0 : Option Addr) (cp0_0 : Nat) (hp0_0 : Sl w.R w.W fl_str Ap0_0 cp0_0 p0) (r : ((List Int) × Bool)) (H : F_etchhouseref3_Numbers N p0 = some r) (hE : HF w w.W (LEn [emp])) : Calls Tryz.prog 40 [(.slice Ap0_0 (p0).length cp0_0)].toArray w.W fun e W' => ∃ u : (Option Addr × Nat), e = .returned (.tuple #[(.slice u.1 (r.1).length u.2), (.bool r.2)]) ∧ (SlF u.1 (r.1).length u.2) ∧ HF w W' (LEn [ow u.1 u.2 3 fl_i64 r.1]) := by
 unfold F_etchhouseref3_Numbers at H
 have leB := Bs.Le.refl w
 refine Tr.enter (n := 29) Tryz.func40 rfl rfl rfl hE ?_
 refine Tr.sr ?_
 refine Tr.asg rfl rfl ?_
 refine Tr.nilOwn 1 3 fl_i64 ?_
 show Tr _ _ (uf _ 2 (.slice none (([] : List Int)).length 0)) _ _
 refine Tr.asg rfl rfl ?_
 refine Tr.nil (Tr.normThen ?_)
 refine Tr.sr ?_
 refine Tr.asg rfl rfl ?_
 refine Tr.nilOwn 2 3 fl_i64 ?_
 show Tr _ _ (uf _ 4 (.slice none (([] : List Int)).length 0)) _ _
 refine Tr.nil (Tr.normThen ?_)
 refine Tr.seq ?_
 refine Tr.sr ?_
 refine Tr.asg rfl rfl ?_
 refine Tr.nil (Tr.normThen ?_)
 refine Tr.block ?_
 refine Tr.loop (σ := (List Int) × Int × (Option Addr) × Nat) (fun m w s => F_etchhouseref3_Numbers_L1 N p0 m s.1 s.2.1 = some r ∧ SlF s.2.2.1 (s.1).length s.2.2.2) (fun s => [(0, (.slice Ap0_0 (p0).length cp0_0)), (4, (.slice s.2.2.1 (s.1).length s.2.2.2)), (5, (iv s.2.1))]) (fun s => [(2, ow s.2.2.1 s.2.2.2 3 fl_i64 s.1)]) N (([] : List Int), 0, none, 0) ⟨H, slf_nil⟩ (.cons rfl (.cons rfl (.cons rfl .nil))) (.cons rfl .nil) (fun _ _ h => noSome (h.1)) ?_
 intro w leL1 mL1 s hs
 obtain ⟨l114, x115, Al114, cl114⟩ := s
 obtain ⟨H, hl114⟩ := hs
 replace H : F_etchhouseref3_Numbers_L1 N p0 (mL1 + 1) l114 x115 = some r := H
 replace hp0_0 := hp0_0.leR leL1
 replace leB := leB.trans leL1
 replace hl114 : SlF Al114 (l114).length cl114 := hl114
 rw [F_etchhouseref3_Numbers_L1.eq_2] at H
 show Tr _ _ (LF [(0, (.slice Ap0_0 (p0).length cp0_0)), (4, (.slice Al114 (l114).length cl114)), (5, (iv x115))]) (LE [(2, ow Al114 cl114 3 fl_i64 l114)]) _
 refine Tr.seq ?_
 refine Tr.sr ?_
 refine Tr.mv rfl rfl ?_
 refine Tr.mv rfl rfl ?_
 refine Tr.va rfl (fun _ _ h1 h2 => run_len un_40 (h1.ev rfl)) ?_
 refine Tr.va rfl (fun _ _ h1 h2 => run_lss (h1.ev rfl) (h1.ev rfl)) ?_
 refine Tr.nil (Tr.normThen ?_)
 refine Tr.cond rfl H (fun H => ?_) (fun H => ?_)
 ·refine Tr.skip (Tr.normThen ?_)
  refine Tr.seq ?_
  refine Tr.block ?_
  refine Tr.sr ?_
  refine Tr.mv rfl rfl ?_
  refine Tr.mv rfl rfl ?_
  obtain ⟨x116, hx116, H⟩ := bnd H
  obtain ⟨hx1160, hx1161, hx1162⟩ := idx_some hx116
  refine Tr.va rfl (fun _ _ h1 h2 => run_indexAddr el_40 (h1.ev rfl) hp0_0.form (h1.ev rfl) hx1160 hx1161) ?_
  refine Tr.va rfl (fun _ _ h1 h2 => run_load1 ag_9 (h1.ev rfl) (rdF ef_str hp0_0 hx1162 h2) rfl) ?_
  obtain ⟨y117, hy117, H⟩ := bnd H
  refine Tr.call0 (r := (.tuple #[(iv y117.1), (.bool y117.2)])) (wn rfl) rfl Tryz.call64 (evl_cons rfl evl_nil) (fun W hW => F_etchhouseref3_Number_ok N x116 y117 hy117 (HF.start _)) ?_
  refine Tr.mv rfl rfl ?_
  refine Tr.va rfl (fun _ _ h1 h2 => run_extract (h1.ev rfl) rfl) ?_
  refine Tr.va rfl (fun _ _ h1 h2 => run_extract (h1.ev rfl) rfl) ?_
  refine Tr.asg rfl rfl ?_
  refine Tr.asg rfl rfl ?_
  refine Tr.nil (Tr.normThen ?_)
  refine Tr.seq ?_
  refine Tr.sr ?_
  refine Tr.mv rfl rfl ?_
  refine Tr.va rfl (fun _ _ h1 h2 => run_not (h1.ev rfl)) ?_
  refine Tr.nil (Tr.normThen ?_)
  refine Tr.cond rfl H (fun H => ?_) (fun H => ?_)
  ·refine Tr.sr ?_
   refine Tr.asg rfl rfl ?_
   refine Tr.nilOwn 7 3 fl_i64 ?_
   show Tr _ _ (uf _ 2 (.slice none (([] : List Int)).length 0)) _ _
   refine Tr.asg rfl rfl ?_
   refine Tr.nil (Tr.normThen ?_)
   refine Tr.ret (Tr.retThen (Tr.retBlock (Tr.retThen (Tr.retThen (Tr.retBlock (Tr.retThen ?_))))))
   obtain rfl := Option.some.inj H
   exact Tr.out (m := [(.slice none (([] : List Int)).length 0), (.bool false)]) [] (res_tmp rfl (res_tmp rfl res_nil)) (fun W hW => ⟨(none, 0), rfl, slf_nil, HF.lowE leB (hW.pick (ks := [7]) (by decide) (pk_cons rfl pk_nil)) ⟨ow_any _ _ _ _ tr_i64, trivial⟩⟩)
  ·refine Tr.skip (Tr.normThen ?_)
   refine Tr.region ?_
   refine Tr.mv rfl rfl ?_
   refine Tr.mv rfl rfl ?_
   refine Tr.buildSlice 8 (e := 3) (vs := [(0, (iv y117.1))]) (cs := [(iv y117.1)]) (wn rfl) rfl (evs_cons rfl evs_nil) (by kernel_rfl) fun b118 => ?_
   obtain ⟨l119, hl119, H⟩ := bnd H
   refine Tr.append 2 (t := fl_i64) (l := l114) (l2 := [y117.1]) (wn rfl) rfl rfl rfl rfl (fun W hW => ⟨[[(iv y117.1)]], (.cons ⟨(), trivial, rfl⟩ .nil), rdb hW (vs := [(iv y117.1)]) (k := 8) rfl 0⟩) un_64 sz_3 zl_3 (by decide) by_3 rfl hl119 fun Al119 cl119 hAl119 => ?_
   refine Tr.asg rfl rfl ?_
   refine Tr.nil (Tr.normBlock (Tr.normThen ?_))
   refine Tr.region ?_
   refine Tr.mv rfl rfl ?_
   refine Tr.va rfl (fun _ _ h1 h2 => run_add (h1.ev rfl) (h1.ev rfl)) ?_
   refine Tr.asg rfl rfl ?_
   refine Tr.nil ?_
   exact Tr.backThen leL1 (l119, (w64 (x115 + 1)), Al119, cl119) ⟨H, hAl119⟩ (.cons rfl (.cons rfl (.cons rfl .nil))) (.cons rfl .nil)
 ·refine Tr.exit (Tr.exitThen (Tr.exitThen (Tr.exitBlock (Tr.normThen ?_))))
  refine Tr.sr ?_
  refine Tr.mv rfl rfl ?_
  refine Tr.asg rfl rfl ?_
  refine Tr.asg rfl rfl ?_
  refine Tr.nil (Tr.normThen ?_)
  refine Tr.ret ?_
  obtain rfl := Option.some.inj H
  exact Tr.out (m := [(.slice Al114 (l114).length cl114), (.bool true)]) [] (res_tmp rfl (res_tmp rfl res_nil)) (fun W hW => ⟨(Al114, cl114), rfl, hl114, HF.lowE leB (hW.pick (ks := [2]) (by decide) (pk_cons rfl pk_nil)) ⟨ow_any _ _ _ _ tr_i64, trivial⟩⟩)

theorem F_etchhouseref9_line_ok (N : Nat) {w : Bs} (hT : Tab Tryz.prog w) (p0 : TPanel) (Ap0_0 : Option Addr) (cp0_0 : Nat) (Ap0_1 : Option Addr) (cp0_1 : Nat) (Ap0_2 : Option Addr) (cp0_2 : Nat) (bp0 : Nat) (p1 : ByteArray) (p2 : Int) (r : (Bool × Int × Int × Int × Int × (List TBoardKind) × (List TSlot) × (List TPoint))) (H : F_etchhouseref9_line N p0 p1 p2 = some r) (hE : HF w w.W (LEn [bx bp0 #[(iv p0.W), (iv p0.H), (iv p0.Rail), (iv p0.Gap), (.slice Ap0_0 (p0.Kinds).length cp0_0), (.slice Ap0_1 (p0.Slots).length cp0_1), (.slice Ap0_2 (p0.Marks).length cp0_2)] 26, ow Ap0_0 cp0_0 49 fl_TBoardKind p0.Kinds, ow Ap0_1 cp0_1 53 fl_TSlot p0.Slots, ow Ap0_2 cp0_2 51 fl_TPoint p0.Marks])) : Calls Tryz.prog 22 [(.pointer (some ⟨bp0, 0, none⟩)), (sv p1), (iv p2)].toArray w.W fun e W' => ∃ u : (Option Addr × Nat) × (Option Addr × Nat) × (Option Addr × Nat), e = .returned (.bool r.1) ∧ (SlF u.1.1 (r.2.2.2.2.2.1).length u.1.2 ∧ SlF u.2.1.1 (r.2.2.2.2.2.2.1).length u.2.1.2 ∧ SlF u.2.2.1 (r.2.2.2.2.2.2.2).length u.2.2.2) ∧ HF w W' (LEn [bx bp0 #[(iv r.2.1), (iv r.2.2.1), (iv r.2.2.2.1), (iv r.2.2.2.2.1), (.slice u.1.1 (r.2.2.2.2.2.1).length u.1.2), (.slice u.2.1.1 (r.2.2.2.2.2.2.1).length u.2.1.2), (.slice u.2.2.1 (r.2.2.2.2.2.2.2).length u.2.2.2)] 26, ow u.1.1 u.1.2 49 fl_TBoardKind r.2.2.2.2.2.1, ow u.2.1.1 u.2.1.2 53 fl_TSlot r.2.2.2.2.2.2.1, ow u.2.2.1 u.2.2.2 51 fl_TPoint r.2.2.2.2.2.2.2]) := by
 unfold F_etchhouseref9_line at H
 have hfhp0_0 := (hE.sl (k := 1) rfl).form
 have hfhp0_1 := (hE.sl (k := 2) rfl).form
 have hfhp0_2 := (hE.sl (k := 3) rfl).form
 have leB := Bs.Le.refl w
 refine Tr.enter (n := 205) Tryz.func22 rfl rfl rfl hE ?_
 refine Tr.sr ?_
 refine Tr.asg rfl rfl ?_
 refine Tr.nil (Tr.normThen ?_)
 refine Tr.sr ?_
 refine Tr.mv rfl rfl ?_
 obtain ⟨y100, hy100, H⟩ := bnd H
 refine Tr.callM [4] [emp] (U := (Option Addr × Nat)) (fun u => (.tuple #[(.slice u.1 (y100.1).length u.2), (.bool y100.2)])) (fun u => SlF u.1 (y100.1).length u.2) (fun u => [ow u.1 u.2 9 fl_str y100.1]) rfl (pk_cons rfl pk_nil) (fun _ => rfl) (wn rfl) rfl Tryz.call39 (evl_cons rfl evl_nil) (fun W hW hp hE => F_etchhouseref3_Words_ok N (hT.ext (hW.extS hp)) p1 y100 hy100 hE) ?_
 intro u hu
 obtain ⟨Ay100_0, cy100_0⟩ := u
 have gy100_0 := hu
 have hgy100_0 : SlF Ay100_0 (y100.1).length cy100_0 := gy100_0 --@phi
 show Tr _ _ (uf _ 14 (.tuple #[(.slice Ay100_0 (y100.1).length cy100_0), (.bool y100.2)])) (up _ 4 (ow Ay100_0 cy100_0 9 fl_str y100.1)) _
 refine Tr.mv rfl rfl ?_
 refine Tr.va rfl (fun _ _ h1 h2 => run_extract (h1.ev rfl) rfl) ?_
 refine Tr.va rfl (fun _ _ h1 h2 => run_extract (h1.ev rfl) rfl) ?_
 refine Tr.asg rfl rfl ?_
 refine Tr.asg rfl rfl ?_
 refine Tr.nil (Tr.normThen ?_)
 refine Tr.seq ?_
 refine Tr.sr ?_
 refine Tr.mv rfl rfl ?_
 refine Tr.va rfl (fun _ _ h1 h2 => run_not (h1.ev rfl)) ?_
 refine Tr.nil (Tr.normThen ?_)
 refine Tr.cond rfl H (fun H => ?_) (fun H => ?_)
 ·refine Tr.sr ?_
  refine Tr.asg rfl rfl ?_
  refine Tr.nil (Tr.normThen ?_)
  refine Tr.ret (Tr.retThen ?_)
  obtain rfl := Option.some.inj H
  exact Tr.out (m := [(.bool false)]) [] (res_tmp rfl res_nil) (fun W hW => ⟨((Ap0_0, cp0_0), (Ap0_1, cp0_1), (Ap0_2, cp0_2)), rfl, ⟨hfhp0_0, hfhp0_1, hfhp0_2⟩, HF.lowE leB (hW.pick (ks := [0, 1, 2, 3]) (by decide) (pk_cons rfl (pk_cons rfl (pk_cons rfl (pk_cons rfl pk_nil))))) ⟨bx_any _ _ _, ow_any _ _ _ _ tr_TBoardKind, ow_any _ _ _ _ tr_TSlot, ow_any _ _ _ _ tr_TPoint, trivial⟩⟩)
 ·refine Tr.skip (Tr.normThen ?_)
  refine Tr.seq ?_
  refine Tr.draw (by kernel_rfl) (by kernel_rfl) ?_
  refine Tq.mv rfl rfl ?_
  obtain ⟨l102, hl102, H⟩ := bnd H
  refine Tq.va rfl (fun _ _ h1 h2 => run_cutL el_40 (h1.ev rfl) hgy100_0 (h1.ev rfl) hl102) ?_
  refine Tq.asg rfl rfl ?_
  refine Tq.asg rfl rfl ?_
  refine Tq.nil (Tr.normThen ?_)
  have leJ112 := Bs.Le.refl w
  refine Tr.cutJ (σ := (List ByteArray) × ByteArray × (List ByteArray) × (Option Addr) × Nat × (Option Addr) × Nat) (fun w s => F_etchhouseref9_line_J2 N p0 p2 s.1 s.2.1 s.2.2.1 = some r ∧ Sl w.O w.W fl_str s.2.2.2.1 s.2.2.2.2.1 s.1 ∧ Sl w.O w.W fl_str s.2.2.2.2.2.1 s.2.2.2.2.2.2 s.2.2.1) (fun s => [(0, (.pointer (some ⟨bp0, 0, none⟩))), (2, (iv p2)), (7, (.slice s.2.2.2.1 (s.1).length s.2.2.2.2.1)), (9, (sv s.2.1)), (10, (.slice s.2.2.2.2.2.1 (s.2.2.1).length s.2.2.2.2.2.2))]) (fun s => [(0, bx bp0 #[(iv p0.W), (iv p0.H), (iv p0.Rail), (iv p0.Gap), (.slice Ap0_0 (p0.Kinds).length cp0_0), (.slice Ap0_1 (p0.Slots).length cp0_1), (.slice Ap0_2 (p0.Marks).length cp0_2)] 26), (1, ow Ap0_0 cp0_0 49 fl_TBoardKind p0.Kinds), (2, ow Ap0_1 cp0_1 53 fl_TSlot p0.Slots), (3, ow Ap0_2 cp0_2 51 fl_TPoint p0.Marks)]) ?_ ?_
  ·refine Tr.sr ?_
   refine Tr.mv rfl rfl ?_
   obtain ⟨x178, hx178, H⟩ := bnd H
   obtain ⟨hx1780, hx1781, hx1782⟩ := idx_some hx178
   refine Tr.va rfl (fun _ _ h1 h2 => run_indexAddr el_40 (h1.ev rfl) hgy100_0 (h1.ev rfl) hx1780 hx1781) ?_
   refine Tr.va rfl (fun _ _ h1 h2 => run_load1 ag_9 (h1.ev rfl) (rdo ef_str (k := 4) h2 rfl hx1782) rfl) ?_
   refine Tr.va rfl (fun _ _ h1 h2 => run_eqlS (h1.ev rfl) (h1.ev rfl)) ?_
   refine Tr.mv rfl rfl ?_
   obtain ⟨g180, hg180, H⟩ := bnd H
   refine Tr.mid0 5 [(0, (.pointer (some ⟨bp0, 0, none⟩))), (2, (iv p2)), (7, (.slice Ay100_0 (y100.1).length cy100_0)), (9, (sv ⟨#[]⟩)), (10, (.slice (cutA Ay100_0 (1 : Int).toNat 1 cy100_0) (l102).length (cy100_0 - (1 : Int).toNat))), (30, (.bool g180))] [(0, bx bp0 #[(iv p0.W), (iv p0.H), (iv p0.Rail), (iv p0.Gap), (.slice Ap0_0 (p0.Kinds).length cp0_0), (.slice Ap0_1 (p0.Slots).length cp0_1), (.slice Ap0_2 (p0.Marks).length cp0_2)] 26), (1, ow Ap0_0 cp0_0 49 fl_TBoardKind p0.Kinds), (2, ow Ap0_1 cp0_1 53 fl_TSlot p0.Slots), (3, ow Ap0_2 cp0_2 51 fl_TPoint p0.Marks), (4, ow Ay100_0 cy100_0 9 fl_str y100.1)] ?_ ?_
   ·cases hg187 : (sEq x178 (⟨#[98, 111, 97, 114, 100]⟩))
    ·rw [hg187] at hg180
     rw [if_neg (by decide)] at hg180
     have H := hg180
     refine Tr.val (wg rfl rfl rfl) rfl (fun _ _ h1 h2 => run_move (h1.ev rfl)) ?_
     obtain ⟨x181, hx181, H⟩ := bnd H
     obtain ⟨hx1810, hx1811, hx1812⟩ := idx_some hx181
     refine Tr.val (wg rfl rfl rfl) rfl (fun _ _ h1 h2 => run_indexAddr el_40 (h1.ev rfl) hgy100_0 (h1.ev rfl) hx1810 hx1811) ?_
     refine Tr.val (wg rfl rfl rfl) rfl (fun _ _ h1 h2 => run_load1 ag_9 (h1.ev rfl) (rdo ef_str (k := 4) h2 rfl hx1812) rfl) ?_
     refine Tr.val (wg rfl rfl rfl) rfl (fun _ _ h1 h2 => run_eqlS (h1.ev rfl) (h1.ev rfl)) ?_
     refine Tr.va rfl (fun _ _ h1 h2 => run_pickF (h1.ev rfl) (h1.ev rfl)) ?_
     obtain rfl := Option.some.inj H
     exact Tr.nil (Tr.fin0 (.cons rfl (.cons rfl (.cons rfl (.cons rfl (.cons rfl (.cons rfl .nil)))))) (.cons rfl (.cons rfl (.cons rfl (.cons rfl (.cons rfl .nil))))))
    ·rw [hg187] at hg180
     rw [if_pos rfl] at hg180
     have H := hg180
     obtain rfl := Option.some.inj H
     refine Tr.pass rfl rfl rfl rfl rfl (by decide) ?_
     refine Tr.pass rfl rfl rfl rfl rfl (by decide) ?_
     refine Tr.pass rfl rfl rfl rfl rfl (by decide) ?_
     refine Tr.pass rfl rfl rfl rfl rfl (by decide) ?_
     refine Tr.va rfl (fun _ _ h1 h2 => run_pickT (h1.ev rfl) (h1.ev rfl)) ?_
     exact Tr.nil (Tr.fin0 (.cons rfl (.cons rfl (.cons rfl (.cons rfl (.cons rfl (.cons rfl .nil)))))) (.cons rfl (.cons rfl (.cons rfl (.cons rfl (.cons rfl .nil))))))
   ·show Tr _ _ (LF [(0, (.pointer (some ⟨bp0, 0, none⟩))), (2, (iv p2)), (7, (.slice Ay100_0 (y100.1).length cy100_0)), (9, (sv ⟨#[]⟩)), (10, (.slice (cutA Ay100_0 (1 : Int).toNat 1 cy100_0) (l102).length (cy100_0 - (1 : Int).toNat))), (30, (.bool g180))]) (LE [(0, bx bp0 #[(iv p0.W), (iv p0.H), (iv p0.Rail), (iv p0.Gap), (.slice Ap0_0 (p0.Kinds).length cp0_0), (.slice Ap0_1 (p0.Slots).length cp0_1), (.slice Ap0_2 (p0.Marks).length cp0_2)] 26), (1, ow Ap0_0 cp0_0 49 fl_TBoardKind p0.Kinds), (2, ow Ap0_1 cp0_1 53 fl_TSlot p0.Slots), (3, ow Ap0_2 cp0_2 51 fl_TPoint p0.Marks), (4, ow Ay100_0 cy100_0 9 fl_str y100.1)]) _
    refine Tr.mv rfl rfl ?_
    refine Tr.mid0 4 [(0, (.pointer (some ⟨bp0, 0, none⟩))), (2, (iv p2)), (7, (.slice Ay100_0 (y100.1).length cy100_0)), (9, (sv ⟨#[]⟩)), (10, (.slice (cutA Ay100_0 (1 : Int).toNat 1 cy100_0) (l102).length (cy100_0 - (1 : Int).toNat))), (35, (.bool (g180 && (decide (0 < (l102.length : Int))))))] [(0, bx bp0 #[(iv p0.W), (iv p0.H), (iv p0.Rail), (iv p0.Gap), (.slice Ap0_0 (p0.Kinds).length cp0_0), (.slice Ap0_1 (p0.Slots).length cp0_1), (.slice Ap0_2 (p0.Marks).length cp0_2)] 26), (1, ow Ap0_0 cp0_0 49 fl_TBoardKind p0.Kinds), (2, ow Ap0_1 cp0_1 53 fl_TSlot p0.Slots), (3, ow Ap0_2 cp0_2 51 fl_TPoint p0.Marks), (4, ow Ay100_0 cy100_0 9 fl_str y100.1)] ?_ ?_
    ·cases hg187 : g180
     ·refine Tr.pass rfl rfl rfl rfl rfl (by decide) ?_
      refine Tr.pass rfl rfl rfl rfl rfl (by decide) ?_
      refine Tr.pass rfl rfl rfl rfl rfl (by decide) ?_
      refine Tr.va rfl (fun _ _ h1 h2 => run_pickF (h1.ev rfl) (h1.ev rfl)) ?_
      exact Tr.nil (Tr.fin0 (.cons rfl (.cons rfl (.cons rfl (.cons rfl (.cons rfl (.cons rfl .nil)))))) (.cons rfl (.cons rfl (.cons rfl (.cons rfl (.cons rfl .nil))))))
     ·refine Tr.val (wg rfl rfl rfl) rfl (fun _ _ h1 h2 => run_move (h1.ev rfl)) ?_
      refine Tr.val (wg rfl rfl rfl) rfl (fun _ _ h1 h2 => run_len un_40 (h1.ev rfl)) ?_
      refine Tr.val (wg rfl rfl rfl) rfl (fun _ _ h1 h2 => run_gtr (h1.ev rfl) (h1.ev rfl)) ?_
      refine Tr.va rfl (fun _ _ h1 h2 => run_pickT (h1.ev rfl) (h1.ev rfl)) ?_
      exact Tr.nil (Tr.fin0 (.cons rfl (.cons rfl (.cons rfl (.cons rfl (.cons rfl (.cons rfl .nil)))))) (.cons rfl (.cons rfl (.cons rfl (.cons rfl (.cons rfl .nil))))))
    ·show Tr _ _ (LF [(0, (.pointer (some ⟨bp0, 0, none⟩))), (2, (iv p2)), (7, (.slice Ay100_0 (y100.1).length cy100_0)), (9, (sv ⟨#[]⟩)), (10, (.slice (cutA Ay100_0 (1 : Int).toNat 1 cy100_0) (l102).length (cy100_0 - (1 : Int).toNat))), (35, (.bool (g180 && (decide (0 < (l102.length : Int))))))]) (LE [(0, bx bp0 #[(iv p0.W), (iv p0.H), (iv p0.Rail), (iv p0.Gap), (.slice Ap0_0 (p0.Kinds).length cp0_0), (.slice Ap0_1 (p0.Slots).length cp0_1), (.slice Ap0_2 (p0.Marks).length cp0_2)] 26), (1, ow Ap0_0 cp0_0 49 fl_TBoardKind p0.Kinds), (2, ow Ap0_1 cp0_1 53 fl_TSlot p0.Slots), (3, ow Ap0_2 cp0_2 51 fl_TPoint p0.Marks), (4, ow Ay100_0 cy100_0 9 fl_str y100.1)]) _
     refine Tr.nil (Tr.normThen ?_)
     refine Tr.cond rfl H (fun H => ?_) (fun H => ?_)
     ·refine Tr.draw (by kernel_rfl) (by kernel_rfl) ?_
      refine Tq.mv rfl rfl ?_
      obtain ⟨x182, hx182, H⟩ := bnd H
      obtain ⟨hx1820, hx1821, hx1822⟩ := idx_some hx182
      refine Tq.va rfl (fun _ _ h1 h2 => run_indexAddr el_40 (h1.ev rfl) (cut_form (sz := 1) hgy100_0 hl102).1 (h1.ev rfl) hx1820 hx1821) ?_
      refine Tq.va rfl (fun _ _ h1 h2 => run_load1 ag_9 (h1.ev rfl) ((Sl.atF ef_str (Sl.cut (h2.slB (k := 4) rfl) hl102) hx1822).2) rfl) ?_
      refine Tq.mv rfl rfl ?_
      obtain ⟨l183, hl183, H⟩ := bnd H
      refine Tq.va rfl (fun _ _ h1 h2 => run_cutL el_40 (h1.ev rfl) (cut_form (sz := 1) hgy100_0 hl102).1 (h1.ev rfl) hl183) ?_
      refine Tq.asg rfl rfl ?_
      refine Tq.asg rfl rfl ?_
      refine Tq.nil ?_
      refine Tr.freeze 4 rfl fun w le185 hz184 => ?_
      replace hT := hT.ext le185.ext
      replace leB := leB.trans le185
      replace leJ112 := leJ112.trans le185
      exact Tr.backThen leJ112 (y100.1, x182, l183, Ay100_0, cy100_0, (cutA (cutA Ay100_0 (1 : Int).toNat 1 cy100_0) (1 : Int).toNat 1 (cy100_0 - (1 : Int).toNat)), ((cy100_0 - (1 : Int).toNat) - (1 : Int).toNat)) ⟨H, hz184, (Sl.cut (Sl.cut hz184 hl102) hl183)⟩ (.cons rfl (.cons rfl (.cons rfl (.cons rfl (.cons rfl .nil))))) (.cons rfl (.cons rfl (.cons rfl (.cons rfl .nil))))
     ·refine Tr.skip ?_
      refine Tr.freeze 4 rfl fun w le187 hz186 => ?_
      replace hT := hT.ext le187.ext
      replace leB := leB.trans le187
      replace leJ112 := leJ112.trans le187
      exact Tr.backThen leJ112 (y100.1, ⟨#[]⟩, l102, Ay100_0, cy100_0, (cutA Ay100_0 (1 : Int).toNat 1 cy100_0), (cy100_0 - (1 : Int).toNat)) ⟨H, hz186, (Sl.cut hz186 hl102)⟩ (.cons rfl (.cons rfl (.cons rfl (.cons rfl (.cons rfl .nil))))) (.cons rfl (.cons rfl (.cons rfl (.cons rfl .nil))))
  ·intro w s hlJ113 hs
   obtain ⟨l109, x110, l111, Al109, cl109, Al111, cl111⟩ := s
   obtain ⟨H, hl109, hl111⟩ := hs
   replace H : F_etchhouseref9_line_J2 N p0 p2 l109 x110 l111 = some r := H
   replace hT := hT.ext hlJ113.ext
   replace leB := leB.trans hlJ113
   replace hl109 : Sl w.O w.W fl_str Al109 cl109 l109 := hl109
   replace hl111 : Sl w.O w.W fl_str Al111 cl111 l111 := hl111
   unfold F_etchhouseref9_line_J2 at H
   show Tr _ _ (LF [(0, (.pointer (some ⟨bp0, 0, none⟩))), (2, (iv p2)), (7, (.slice Al109 (l109).length cl109)), (9, (sv x110)), (10, (.slice Al111 (l111).length cl111))]) (LE [(0, bx bp0 #[(iv p0.W), (iv p0.H), (iv p0.Rail), (iv p0.Gap), (.slice Ap0_0 (p0.Kinds).length cp0_0), (.slice Ap0_1 (p0.Slots).length cp0_1), (.slice Ap0_2 (p0.Marks).length cp0_2)] 26), (1, ow Ap0_0 cp0_0 49 fl_TBoardKind p0.Kinds), (2, ow Ap0_1 cp0_1 53 fl_TSlot p0.Slots), (3, ow Ap0_2 cp0_2 51 fl_TPoint p0.Marks)]) _
   refine Tr.sr ?_
   refine Tr.mv rfl rfl ?_
   obtain ⟨y114, hy114, H⟩ := bnd H
   refine Tr.callM [5] [emp] (U := (Option Addr × Nat)) (fun u => (.tuple #[(.slice u.1 (y114.1).length u.2), (.bool y114.2)])) (fun u => SlF u.1 (y114.1).length u.2) (fun u => [ow u.1 u.2 3 fl_i64 y114.1]) rfl (pk_cons rfl pk_nil) (fun _ => rfl) (wn rfl) rfl Tryz.call40 (evl_cons rfl evl_nil) (fun W hW hp hE => F_etchhouseref3_Numbers_ok N l111 Al111 cl111 (hl111.rl.ext (hW.extS hp)) y114 hy114 hE) ?_
   intro u hu
   obtain ⟨Ay114_0, cy114_0⟩ := u
   have gy114_0 := hu
   have hgy114_0 : SlF Ay114_0 (y114.1).length cy114_0 := gy114_0 --@phi
   show Tr _ _ (uf _ 43 (.tuple #[(.slice Ay114_0 (y114.1).length cy114_0), (.bool y114.2)])) (up _ 5 (ow Ay114_0 cy114_0 3 fl_i64 y114.1)) _
   refine Tr.mv rfl rfl ?_
   refine Tr.va rfl (fun _ _ h1 h2 => run_extract (h1.ev rfl) rfl) ?_
   refine Tr.va rfl (fun _ _ h1 h2 => run_extract (h1.ev rfl) rfl) ?_
   refine Tr.asg rfl rfl ?_
   refine Tr.asg rfl rfl ?_
   refine Tr.nil (Tr.normThen ?_)
   refine Tr.seq ?_
   refine Tr.sr ?_
   refine Tr.mv rfl rfl ?_
   refine Tr.va rfl (fun _ _ h1 h2 => run_not (h1.ev rfl)) ?_
   refine Tr.mv rfl rfl ?_
   obtain ⟨g117, hg117, H⟩ := bnd H
   refine Tr.mid0 8 [(0, (.pointer (some ⟨bp0, 0, none⟩))), (7, (.slice Al109 (l109).length cl109)), (9, (sv x110)), (11, (.slice Ay114_0 (y114.1).length cy114_0)), (56, (.bool g117))] [(0, bx bp0 #[(iv p0.W), (iv p0.H), (iv p0.Rail), (iv p0.Gap), (.slice Ap0_0 (p0.Kinds).length cp0_0), (.slice Ap0_1 (p0.Slots).length cp0_1), (.slice Ap0_2 (p0.Marks).length cp0_2)] 26), (1, ow Ap0_0 cp0_0 49 fl_TBoardKind p0.Kinds), (2, ow Ap0_1 cp0_1 53 fl_TSlot p0.Slots), (3, ow Ap0_2 cp0_2 51 fl_TPoint p0.Marks), (5, ow Ay114_0 cy114_0 3 fl_i64 y114.1)] ?_ ?_
   ·cases hg177 : (!y114.2)
    ·rw [hg177] at hg117
     rw [if_neg (by decide)] at hg117
     have H := hg117
     refine Tr.val (wg rfl rfl rfl) rfl (fun _ _ h1 h2 => run_move (h1.ev rfl)) ?_
     refine Tr.val (wg rfl rfl rfl) rfl (fun _ _ h1 h2 => run_eql (h1.ev rfl) (h1.ev rfl)) ?_
     refine Tr.val (wg rfl rfl rfl) rfl (fun _ _ h1 h2 => run_move (h1.ev rfl)) ?_
     obtain ⟨x118, hx118, H⟩ := bnd H
     obtain ⟨hx1180, hx1181, hx1182⟩ := idx_some hx118
     refine Tr.val (wg rfl rfl rfl) rfl (fun _ _ h1 h2 => run_indexAddr el_40 (h1.ev rfl) hl109.form (h1.ev rfl) hx1180 hx1181) ?_
     refine Tr.val (wg rfl rfl rfl) rfl (fun _ _ h1 h2 => run_load1 ag_9 (h1.ev rfl) (rdF ef_str (hl109.rl) hx1182 h2) rfl) ?_
     refine Tr.val (wg rfl rfl rfl) rfl (fun _ _ h1 h2 => run_eqlS (h1.ev rfl) (h1.ev rfl)) ?_
     refine Tr.val (wg rfl rfl rfl) rfl (fun _ _ h1 h2 => run_neqB un_4 (h1.ev rfl) (h1.ev rfl)) ?_
     refine Tr.va rfl (fun _ _ h1 h2 => run_pickF (h1.ev rfl) (h1.ev rfl)) ?_
     obtain rfl := Option.some.inj H
     exact Tr.nil (Tr.fin0 (.cons rfl (.cons rfl (.cons rfl (.cons rfl (.cons rfl .nil))))) (.cons rfl (.cons rfl (.cons rfl (.cons rfl (.cons rfl .nil))))))
    ·rw [hg177] at hg117
     rw [if_pos rfl] at hg117
     have H := hg117
     obtain rfl := Option.some.inj H
     refine Tr.pass rfl rfl rfl rfl rfl (by decide) ?_
     refine Tr.pass rfl rfl rfl rfl rfl (by decide) ?_
     refine Tr.pass rfl rfl rfl rfl rfl (by decide) ?_
     refine Tr.pass rfl rfl rfl rfl rfl (by decide) ?_
     refine Tr.pass rfl rfl rfl rfl rfl (by decide) ?_
     refine Tr.pass rfl rfl rfl rfl rfl (by decide) ?_
     refine Tr.pass rfl rfl rfl rfl rfl (by decide) ?_
     refine Tr.va rfl (fun _ _ h1 h2 => run_pickT (h1.ev rfl) (h1.ev rfl)) ?_
     exact Tr.nil (Tr.fin0 (.cons rfl (.cons rfl (.cons rfl (.cons rfl (.cons rfl .nil))))) (.cons rfl (.cons rfl (.cons rfl (.cons rfl (.cons rfl .nil))))))
   ·show Tr _ _ (LF [(0, (.pointer (some ⟨bp0, 0, none⟩))), (7, (.slice Al109 (l109).length cl109)), (9, (sv x110)), (11, (.slice Ay114_0 (y114.1).length cy114_0)), (56, (.bool g117))]) (LE [(0, bx bp0 #[(iv p0.W), (iv p0.H), (iv p0.Rail), (iv p0.Gap), (.slice Ap0_0 (p0.Kinds).length cp0_0), (.slice Ap0_1 (p0.Slots).length cp0_1), (.slice Ap0_2 (p0.Marks).length cp0_2)] 26), (1, ow Ap0_0 cp0_0 49 fl_TBoardKind p0.Kinds), (2, ow Ap0_1 cp0_1 53 fl_TSlot p0.Slots), (3, ow Ap0_2 cp0_2 51 fl_TPoint p0.Marks), (5, ow Ay114_0 cy114_0 3 fl_i64 y114.1)]) _
    refine Tr.nil (Tr.normThen ?_)
    refine Tr.cond rfl H (fun H => ?_) (fun H => ?_)
    ·refine Tr.sr ?_
     refine Tr.asg rfl rfl ?_
     refine Tr.nil (Tr.normThen ?_)
     refine Tr.ret (Tr.retThen ?_)
     obtain rfl := Option.some.inj H
     exact Tr.out (m := [(.bool false)]) [] (res_tmp rfl res_nil) (fun W hW => ⟨((Ap0_0, cp0_0), (Ap0_1, cp0_1), (Ap0_2, cp0_2)), rfl, ⟨hfhp0_0, hfhp0_1, hfhp0_2⟩, HF.lowE leB (hW.pick (ks := [0, 1, 2, 3]) (by decide) (pk_cons rfl (pk_cons rfl (pk_cons rfl (pk_cons rfl pk_nil))))) ⟨bx_any _ _ _, ow_any _ _ _ _ tr_TBoardKind, ow_any _ _ _ _ tr_TSlot, ow_any _ _ _ _ tr_TPoint, trivial⟩⟩)
    ·refine Tr.skip (Tr.normThen ?_)
     have leJ151 := Bs.Le.refl w
     refine Tr.cutJ (σ := Int × Int × Int × Int × (List TBoardKind) × (List TSlot) × (List TPoint) × (Option Addr) × Nat × (Option Addr) × Nat × (Option Addr) × Nat) (fun w s => F_etchhouseref9_line_J1 s.1 s.2.1 s.2.2.1 s.2.2.2.1 s.2.2.2.2.1 s.2.2.2.2.2.1 s.2.2.2.2.2.2.1 = some r ∧ SlF s.2.2.2.2.2.2.2.1 (s.2.2.2.2.1).length s.2.2.2.2.2.2.2.2.1 ∧ SlF s.2.2.2.2.2.2.2.2.2.1 (s.2.2.2.2.2.1).length s.2.2.2.2.2.2.2.2.2.2.1 ∧ SlF s.2.2.2.2.2.2.2.2.2.2.2.1 (s.2.2.2.2.2.2.1).length s.2.2.2.2.2.2.2.2.2.2.2.2) (fun s => []) (fun s => [(0, bx bp0 #[(iv s.1), (iv s.2.1), (iv s.2.2.1), (iv s.2.2.2.1), (.slice s.2.2.2.2.2.2.2.1 (s.2.2.2.2.1).length s.2.2.2.2.2.2.2.2.1), (.slice s.2.2.2.2.2.2.2.2.2.1 (s.2.2.2.2.2.1).length s.2.2.2.2.2.2.2.2.2.2.1), (.slice s.2.2.2.2.2.2.2.2.2.2.2.1 (s.2.2.2.2.2.2.1).length s.2.2.2.2.2.2.2.2.2.2.2.2)] 26), (1, ow s.2.2.2.2.2.2.2.1 s.2.2.2.2.2.2.2.2.1 49 fl_TBoardKind s.2.2.2.2.1), (2, ow s.2.2.2.2.2.2.2.2.2.1 s.2.2.2.2.2.2.2.2.2.2.1 53 fl_TSlot s.2.2.2.2.2.1), (3, ow s.2.2.2.2.2.2.2.2.2.2.2.1 s.2.2.2.2.2.2.2.2.2.2.2.2 51 fl_TPoint s.2.2.2.2.2.2.1)]) ?_ ?_
     ·refine Tr.block ?_
      refine Tr.sr ?_
      refine Tr.mv rfl rfl ?_
      obtain ⟨x153, hx153, H⟩ := bnd H
      obtain ⟨hx1530, hx1531, hx1532⟩ := idx_some hx153
      refine Tr.va rfl (fun _ _ h1 h2 => run_indexAddr el_40 (h1.ev rfl) hl109.form (h1.ev rfl) hx1530 hx1531) ?_
      refine Tr.va rfl (fun _ _ h1 h2 => run_load1 ag_9 (h1.ev rfl) (rdF ef_str (hl109.rl) hx1532 h2) rfl) ?_
      refine Tr.va rfl (fun _ _ h1 h2 => run_eqlS (h1.ev rfl) (h1.ev rfl)) ?_
      refine Tr.mv rfl rfl ?_
      refine Tr.mid0 4 [(0, (.pointer (some ⟨bp0, 0, none⟩))), (7, (.slice Al109 (l109).length cl109)), (9, (sv x110)), (11, (.slice Ay114_0 (y114.1).length cy114_0)), (66, (.bool ((sEq x153 (⟨#[112, 97, 110, 101, 108]⟩)) && ((y114.1.length : Int) == 4))))] [(0, bx bp0 #[(iv p0.W), (iv p0.H), (iv p0.Rail), (iv p0.Gap), (.slice Ap0_0 (p0.Kinds).length cp0_0), (.slice Ap0_1 (p0.Slots).length cp0_1), (.slice Ap0_2 (p0.Marks).length cp0_2)] 26), (1, ow Ap0_0 cp0_0 49 fl_TBoardKind p0.Kinds), (2, ow Ap0_1 cp0_1 53 fl_TSlot p0.Slots), (3, ow Ap0_2 cp0_2 51 fl_TPoint p0.Marks), (5, ow Ay114_0 cy114_0 3 fl_i64 y114.1)] ?_ ?_
      ·cases hg177 : (sEq x153 (⟨#[112, 97, 110, 101, 108]⟩))
       ·refine Tr.pass rfl rfl rfl rfl rfl (by decide) ?_
        refine Tr.pass rfl rfl rfl rfl rfl (by decide) ?_
        refine Tr.pass rfl rfl rfl rfl rfl (by decide) ?_
        refine Tr.va rfl (fun _ _ h1 h2 => run_pickF (h1.ev rfl) (h1.ev rfl)) ?_
        exact Tr.nil (Tr.fin0 (.cons rfl (.cons rfl (.cons rfl (.cons rfl (.cons rfl .nil))))) (.cons rfl (.cons rfl (.cons rfl (.cons rfl (.cons rfl .nil))))))
       ·refine Tr.val (wg rfl rfl rfl) rfl (fun _ _ h1 h2 => run_move (h1.ev rfl)) ?_
        refine Tr.val (wg rfl rfl rfl) rfl (fun _ _ h1 h2 => run_len un_64 (h1.ev rfl)) ?_
        refine Tr.val (wg rfl rfl rfl) rfl (fun _ _ h1 h2 => run_eql (h1.ev rfl) (h1.ev rfl)) ?_
        refine Tr.va rfl (fun _ _ h1 h2 => run_pickT (h1.ev rfl) (h1.ev rfl)) ?_
        exact Tr.nil (Tr.fin0 (.cons rfl (.cons rfl (.cons rfl (.cons rfl (.cons rfl .nil))))) (.cons rfl (.cons rfl (.cons rfl (.cons rfl (.cons rfl .nil))))))
      ·show Tr _ _ (LF [(0, (.pointer (some ⟨bp0, 0, none⟩))), (7, (.slice Al109 (l109).length cl109)), (9, (sv x110)), (11, (.slice Ay114_0 (y114.1).length cy114_0)), (66, (.bool ((sEq x153 (⟨#[112, 97, 110, 101, 108]⟩)) && ((y114.1.length : Int) == 4))))]) (LE [(0, bx bp0 #[(iv p0.W), (iv p0.H), (iv p0.Rail), (iv p0.Gap), (.slice Ap0_0 (p0.Kinds).length cp0_0), (.slice Ap0_1 (p0.Slots).length cp0_1), (.slice Ap0_2 (p0.Marks).length cp0_2)] 26), (1, ow Ap0_0 cp0_0 49 fl_TBoardKind p0.Kinds), (2, ow Ap0_1 cp0_1 53 fl_TSlot p0.Slots), (3, ow Ap0_2 cp0_2 51 fl_TPoint p0.Marks), (5, ow Ay114_0 cy114_0 3 fl_i64 y114.1)]) _
       refine Tr.asg rfl rfl ?_
       refine Tr.nil (Tr.normThen ?_)
       refine Tr.cond rfl H (fun H => ?_) (fun H => ?_)
       ·refine Tr.drawC 25 [(18, fun x => x = bp0), (21, fun x => x = bp0), (24, fun x => x = bp0)] [] (by kernel_rfl) (by kernel_rfl) fun sz154 hlosz154 hEsz154 => ?_
        refine Dr.quiet 0 [(67, (.pointer (some ⟨bp0, 0, none⟩)))] (by kernel_rfl) rfl rfl (by kernel_rfl) ?_ rfl rfl ?_
        ·refine Tq.mv rfl rfl ?_
         exact Tq.fin (.cons rfl .nil)
        refine Dr.quietP 1 (by kernel_rfl) rfl (wn rfl) rfl (by kernel_rfl) (fun _ _ h1 => run_move (h1.ev rfl)) rfl ?_
        refine Dr.quietP 2 (by kernel_rfl) rfl (wn rfl) rfl (by kernel_rfl) (fun _ _ h1 => run_move (h1.ev rfl)) rfl ?_
        refine Dr.quietP 3 (by kernel_rfl) rfl (wn rfl) rfl (by kernel_rfl) (fun _ _ h1 => run_move (h1.ev rfl)) rfl ?_
        refine Dr.quiet 4 [(71, (.slice Ay114_0 (y114.1).length cy114_0))] (by kernel_rfl) rfl rfl (by kernel_rfl) ?_ rfl rfl ?_
        ·refine Tq.mv rfl rfl ?_
         exact Tq.fin (.cons rfl .nil)
        obtain ⟨x155, hx155, H⟩ := bnd H
        obtain ⟨hx1550, hx1551, hx1552⟩ := idx_some hx155
        refine Dr.quiet 5 [(72, (.pointer (some ⟨adB Ay114_0, adO Ay114_0 + ((0 : Int)).toNat * 1, none⟩)))] (by kernel_rfl) rfl rfl (by kernel_rfl) ?_ rfl rfl ?_
        ·refine Tq.va rfl (fun _ _ h1 h2 => run_indexAddr el_64 (h1.ev rfl) hgy114_0 (h1.ev rfl) hx1550 hx1551) ?_
         exact Tq.fin (.cons rfl .nil)
        refine Dr.quiet 6 [(73, (iv x155))] (by kernel_rfl) rfl rfl (by kernel_rfl) ?_ rfl rfl ?_
        ·refine Tq.va rfl (fun _ _ h1 h2 => run_load1 ag_3 (h1.ev rfl) (rdo ef_i64 (k := 5) h2 rfl hx1552) rfl) ?_
         exact Tq.fin (.cons rfl .nil)
        refine Dr.quietP 7 (by kernel_rfl) rfl (wn rfl) rfl (by kernel_rfl) (fun _ _ h1 => run_move (h1.ev rfl)) rfl ?_
        obtain ⟨x156, hx156, H⟩ := bnd H
        obtain ⟨hx1560, hx1561, hx1562⟩ := idx_some hx156
        refine Dr.quietP 8 (by kernel_rfl) rfl (wn rfl) rfl (by kernel_rfl) (fun _ _ h1 => run_indexAddr el_64 (h1.ev rfl) hgy114_0 (h1.ev rfl) hx1560 hx1561) rfl ?_
        refine Dr.quiet 9 [(76, (iv x156))] (by kernel_rfl) rfl rfl (by kernel_rfl) ?_ rfl rfl ?_
        ·refine Tq.va rfl (fun _ _ h1 h2 => run_load1 ag_3 (h1.ev rfl) (rdo ef_i64 (k := 5) h2 rfl hx1562) rfl) ?_
         exact Tq.fin (.cons rfl .nil)
        refine Dr.quietP 10 (by kernel_rfl) rfl (wn rfl) rfl (by kernel_rfl) (fun _ _ h1 => run_move (h1.ev rfl)) rfl ?_
        obtain ⟨x157, hx157, H⟩ := bnd H
        obtain ⟨hx1570, hx1571, hx1572⟩ := idx_some hx157
        refine Dr.quietP 11 (by kernel_rfl) rfl (wn rfl) rfl (by kernel_rfl) (fun _ _ h1 => run_indexAddr el_64 (h1.ev rfl) hgy114_0 (h1.ev rfl) hx1570 hx1571) rfl ?_
        refine Dr.quiet 12 [(79, (iv x157))] (by kernel_rfl) rfl rfl (by kernel_rfl) ?_ rfl rfl ?_
        ·refine Tq.va rfl (fun _ _ h1 h2 => run_load1 ag_3 (h1.ev rfl) (rdo ef_i64 (k := 5) h2 rfl hx1572) rfl) ?_
         exact Tq.fin (.cons rfl .nil)
        refine Dr.quietP 13 (by kernel_rfl) rfl (wn rfl) rfl (by kernel_rfl) (fun _ _ h1 => run_move (h1.ev rfl)) rfl ?_
        obtain ⟨x158, hx158, H⟩ := bnd H
        obtain ⟨hx1580, hx1581, hx1582⟩ := idx_some hx158
        refine Dr.quietP 14 (by kernel_rfl) rfl (wn rfl) rfl (by kernel_rfl) (fun _ _ h1 => run_indexAddr el_64 (h1.ev rfl) hgy114_0 (h1.ev rfl) hx1580 hx1581) rfl ?_
        refine Dr.quiet 15 [(82, (iv x158))] (by kernel_rfl) rfl rfl (by kernel_rfl) ?_ rfl rfl ?_
        ·refine Tq.va rfl (fun _ _ h1 h2 => run_load1 ag_3 (h1.ev rfl) (rdo ef_i64 (k := 5) h2 rfl hx1582) rfl) ?_
         exact Tq.fin (.cons rfl .nil)
        refine Dr.quietP 16 (by kernel_rfl) rfl (wn rfl) rfl (by kernel_rfl) (fun _ _ h1 => run_nilCheck (h1.ev rfl)) rfl ?_
        refine Dr.quiet 17 [(84, (.pointer (some ⟨bp0, 0, none⟩)))] (by kernel_rfl) rfl rfl (by kernel_rfl) ?_ rfl rfl ?_
        ·refine Tq.va rfl (fun _ _ h1 h2 => run_fieldAddr fo_26_0 (h1.ev rfl)) ?_
         exact Tq.fin (.cons rfl .nil)
        refine Dr.one 18 (by kernel_rfl) ?_
        refine St.store 18 0 (cs := [(iv x155)]) [(iv x155), (iv p0.H), (iv p0.Rail), (iv p0.Gap), (.slice Ap0_0 (p0.Kinds).length cp0_0), (.slice Ap0_1 (p0.Slots).length cp0_1), (.slice Ap0_2 (p0.Marks).length cp0_2)] rfl (wn rfl) (.inl ⟨_, List.mem_cons_self, rfl, rfl⟩) rfl rfl rfl rfl sz_3 rfl rfl rfl ?_
        refine Dr.quietP 19 (by kernel_rfl) rfl (wn rfl) rfl (by kernel_rfl) (fun _ _ h1 => run_nilCheck (h1.ev rfl)) rfl ?_
        refine Dr.quiet 20 [(86, (.pointer (some ⟨bp0, 1, none⟩)))] (by kernel_rfl) rfl rfl (by kernel_rfl) ?_ rfl rfl ?_
        ·refine Tq.va rfl (fun _ _ h1 h2 => run_fieldAddr fo_26_1 (h1.ev rfl)) ?_
         exact Tq.fin (.cons rfl .nil)
        refine Dr.one 21 (by kernel_rfl) ?_
        refine St.store 21 0 (cs := [(iv x156)]) [(iv x155), (iv x156), (iv p0.Rail), (iv p0.Gap), (.slice Ap0_0 (p0.Kinds).length cp0_0), (.slice Ap0_1 (p0.Slots).length cp0_1), (.slice Ap0_2 (p0.Marks).length cp0_2)] rfl (wn rfl) (.inl ⟨_, (List.mem_cons_of_mem _ List.mem_cons_self), rfl, rfl⟩) rfl rfl rfl rfl sz_3 rfl rfl rfl ?_
        refine Dr.quietP 22 (by kernel_rfl) rfl (wn rfl) rfl (by kernel_rfl) (fun _ _ h1 => run_nilCheck (h1.ev rfl)) rfl ?_
        refine Dr.quiet 23 [(88, (.pointer (some ⟨bp0, 2, none⟩)))] (by kernel_rfl) rfl rfl (by kernel_rfl) ?_ rfl rfl ?_
        ·refine Tq.va rfl (fun _ _ h1 h2 => run_fieldAddr fo_26_2 (h1.ev rfl)) ?_
         exact Tq.fin (.cons rfl .nil)
        refine Dr.one 24 (by kernel_rfl) ?_
        refine St.store 24 0 (cs := [(iv x157)]) [(iv x155), (iv x156), (iv x157), (iv p0.Gap), (.slice Ap0_0 (p0.Kinds).length cp0_0), (.slice Ap0_1 (p0.Slots).length cp0_1), (.slice Ap0_2 (p0.Marks).length cp0_2)] rfl (wn rfl) (.inl ⟨_, (List.mem_cons_of_mem _ (List.mem_cons_of_mem _ List.mem_cons_self)), rfl, rfl⟩) rfl rfl rfl rfl sz_3 rfl rfl rfl ?_
        refine Dr.tail (by kernel_rfl) ?_
        refine Tr.va rfl (fun _ _ h1 h2 => run_nilCheck (h1.ev rfl)) ?_
        refine Tr.va rfl (fun _ _ h1 h2 => run_fieldAddr fo_26_3 (h1.ev rfl)) ?_
        refine Tr.store 0 (cs := [(iv x158)]) [(iv x155), (iv x156), (iv x157), (iv x158), (.slice Ap0_0 (p0.Kinds).length cp0_0), (.slice Ap0_1 (p0.Slots).length cp0_1), (.slice Ap0_2 (p0.Marks).length cp0_2)] (wn rfl) rfl rfl rfl rfl sz_3 rfl rfl rfl ?_
        refine Tr.nil (Tr.normBlock ?_)
        exact Tr.backThen leJ151 (x155, x156, x157, x158, p0.Kinds, p0.Slots, p0.Marks, Ap0_0, cp0_0, Ap0_1, cp0_1, Ap0_2, cp0_2) ⟨H, hfhp0_0, hfhp0_1, hfhp0_2⟩ .nil (.cons rfl (.cons rfl (.cons rfl (.cons rfl .nil))))
       ·refine Tr.seq ?_
        refine Tr.draw (by kernel_rfl) (by kernel_rfl) ?_
        refine Tq.mv rfl rfl ?_
        obtain ⟨x159, hx159, H⟩ := bnd H
        obtain ⟨hx1590, hx1591, hx1592⟩ := idx_some hx159
        refine Tq.va rfl (fun _ _ h1 h2 => run_indexAddr el_40 (h1.ev rfl) hl109.form (h1.ev rfl) hx1590 hx1591) ?_
        refine Tq.va rfl (fun _ _ h1 h2 => run_load1 ag_9 (h1.ev rfl) (rdF ef_str (hl109.rl) hx1592 h2) rfl) ?_
        refine Tq.va rfl (fun _ _ h1 h2 => run_eqlS (h1.ev rfl) (h1.ev rfl)) ?_
        refine Tq.mv rfl rfl ?_
        refine Tq.mid 3 [(0, (.pointer (some ⟨bp0, 0, none⟩))), (7, (.slice Al109 (l109).length cl109)), (9, (sv x110)), (11, (.slice Ay114_0 (y114.1).length cy114_0)), (99, (.bool ((sEq x159 (⟨#[98, 111, 97, 114, 100]⟩)) && (!sEq x110 (⟨#[]⟩)))))] ?_ ?_
        ·cases hg177 : (sEq x159 (⟨#[98, 111, 97, 114, 100]⟩))
         ·refine Tq.pass rfl rfl rfl rfl rfl (by decide) ?_
          refine Tq.pass rfl rfl rfl rfl rfl (by decide) ?_
          refine Tq.va rfl (fun _ _ h1 h2 => run_pickF (h1.ev rfl) (h1.ev rfl)) ?_
          exact Tq.fin (.cons rfl (.cons rfl (.cons rfl (.cons rfl (.cons rfl .nil)))))
         ·refine Tq.val (wg rfl rfl rfl) rfl (fun _ _ h1 h2 => run_move (h1.ev rfl)) ?_
          refine Tq.val (wg rfl rfl rfl) rfl (fun _ _ h1 h2 => run_neqS (h1.ev rfl) (h1.ev rfl)) ?_
          refine Tq.va rfl (fun _ _ h1 h2 => run_pickT (h1.ev rfl) (h1.ev rfl)) ?_
          exact Tq.fin (.cons rfl (.cons rfl (.cons rfl (.cons rfl (.cons rfl .nil)))))
        ·refine Tq.mv rfl rfl ?_
         refine Tq.mid 4 [(0, (.pointer (some ⟨bp0, 0, none⟩))), (7, (.slice Al109 (l109).length cl109)), (9, (sv x110)), (11, (.slice Ay114_0 (y114.1).length cy114_0)), (104, (.bool (((sEq x159 (⟨#[98, 111, 97, 114, 100]⟩)) && (!sEq x110 (⟨#[]⟩))) && ((y114.1.length : Int) == 2))))] ?_ ?_
         ·cases hg177 : ((sEq x159 (⟨#[98, 111, 97, 114, 100]⟩)) && (!sEq x110 (⟨#[]⟩)))
          ·refine Tq.pass rfl rfl rfl rfl rfl (by decide) ?_
           refine Tq.pass rfl rfl rfl rfl rfl (by decide) ?_
           refine Tq.pass rfl rfl rfl rfl rfl (by decide) ?_
           refine Tq.va rfl (fun _ _ h1 h2 => run_pickF (h1.ev rfl) (h1.ev rfl)) ?_
           exact Tq.fin (.cons rfl (.cons rfl (.cons rfl (.cons rfl (.cons rfl .nil)))))
          ·refine Tq.val (wg rfl rfl rfl) rfl (fun _ _ h1 h2 => run_move (h1.ev rfl)) ?_
           refine Tq.val (wg rfl rfl rfl) rfl (fun _ _ h1 h2 => run_len un_64 (h1.ev rfl)) ?_
           refine Tq.val (wg rfl rfl rfl) rfl (fun _ _ h1 h2 => run_eql (h1.ev rfl) (h1.ev rfl)) ?_
           refine Tq.va rfl (fun _ _ h1 h2 => run_pickT (h1.ev rfl) (h1.ev rfl)) ?_
           exact Tq.fin (.cons rfl (.cons rfl (.cons rfl (.cons rfl (.cons rfl .nil)))))
         ·refine Tq.mv rfl rfl ?_
          refine Tq.mid 13 [(0, (.pointer (some ⟨bp0, 0, none⟩))), (7, (.slice Al109 (l109).length cl109)), (9, (sv x110)), (11, (.slice Ay114_0 (y114.1).length cy114_0)), (118, (.bool ((((sEq x159 (⟨#[98, 111, 97, 114, 100]⟩)) && (!sEq x110 (⟨#[]⟩))) && ((y114.1.length : Int) == 2)) && ((w64 ((p0.Slots.length : Int) + (p0.Marks.length : Int))) == 0))))] ?_ ?_
          ·cases hg177 : (((sEq x159 (⟨#[98, 111, 97, 114, 100]⟩)) && (!sEq x110 (⟨#[]⟩))) && ((y114.1.length : Int) == 2))
           ·refine Tq.pass rfl rfl rfl rfl rfl (by decide) ?_
            refine Tq.pass rfl rfl rfl rfl rfl (by decide) ?_
            refine Tq.pass rfl rfl rfl rfl rfl (by decide) ?_
            refine Tq.pass rfl rfl rfl rfl rfl (by decide) ?_
            refine Tq.pass rfl rfl rfl rfl rfl (by decide) ?_
            refine Tq.pass rfl rfl rfl rfl rfl (by decide) ?_
            refine Tq.pass rfl rfl rfl rfl rfl (by decide) ?_
            refine Tq.pass rfl rfl rfl rfl rfl (by decide) ?_
            refine Tq.pass rfl rfl rfl rfl rfl (by decide) ?_
            refine Tq.pass rfl rfl rfl rfl rfl (by decide) ?_
            refine Tq.pass rfl rfl rfl rfl rfl (by decide) ?_
            refine Tq.pass rfl rfl rfl rfl rfl (by decide) ?_
            refine Tq.va rfl (fun _ _ h1 h2 => run_pickF (h1.ev rfl) (h1.ev rfl)) ?_
            exact Tq.fin (.cons rfl (.cons rfl (.cons rfl (.cons rfl (.cons rfl .nil)))))
           ·refine Tq.val (wg rfl rfl rfl) rfl (fun _ _ h1 h2 => run_move (h1.ev rfl)) ?_
            refine Tq.val (wg rfl rfl rfl) rfl (fun _ _ h1 h2 => run_nilCheck (h1.ev rfl)) ?_
            refine Tq.val (wg rfl rfl rfl) rfl (fun _ _ h1 h2 => run_fieldAddr fo_26_5 (h1.ev rfl)) ?_
            refine Tq.val (wg rfl rfl rfl) rfl (fun _ _ h1 h2 => run_load1 ag_23 (h1.ev rfl) (rdb h2 (vs := [(iv p0.W), (iv p0.H), (iv p0.Rail), (iv p0.Gap), (.slice Ap0_0 (p0.Kinds).length cp0_0), (.slice Ap0_1 (p0.Slots).length cp0_1), (.slice Ap0_2 (p0.Marks).length cp0_2)]) (k := 0) rfl 5) rfl) ?_
            refine Tq.val (wg rfl rfl rfl) rfl (fun _ _ h1 h2 => run_len un_23 (h1.ev rfl)) ?_
            refine Tq.val (wg rfl rfl rfl) rfl (fun _ _ h1 h2 => run_move (h1.ev rfl)) ?_
            refine Tq.val (wg rfl rfl rfl) rfl (fun _ _ h1 h2 => run_nilCheck (h1.ev rfl)) ?_
            refine Tq.val (wg rfl rfl rfl) rfl (fun _ _ h1 h2 => run_fieldAddr fo_26_6 (h1.ev rfl)) ?_
            refine Tq.val (wg rfl rfl rfl) rfl (fun _ _ h1 h2 => run_load1 ag_24 (h1.ev rfl) (rdb h2 (vs := [(iv p0.W), (iv p0.H), (iv p0.Rail), (iv p0.Gap), (.slice Ap0_0 (p0.Kinds).length cp0_0), (.slice Ap0_1 (p0.Slots).length cp0_1), (.slice Ap0_2 (p0.Marks).length cp0_2)]) (k := 0) rfl 6) rfl) ?_
            refine Tq.val (wg rfl rfl rfl) rfl (fun _ _ h1 h2 => run_len un_24 (h1.ev rfl)) ?_
            refine Tq.val (wg rfl rfl rfl) rfl (fun _ _ h1 h2 => run_add (h1.ev rfl) (h1.ev rfl)) ?_
            refine Tq.val (wg rfl rfl rfl) rfl (fun _ _ h1 h2 => run_eql (h1.ev rfl) (h1.ev rfl)) ?_
            refine Tq.va rfl (fun _ _ h1 h2 => run_pickT (h1.ev rfl) (h1.ev rfl)) ?_
            exact Tq.fin (.cons rfl (.cons rfl (.cons rfl (.cons rfl (.cons rfl .nil)))))
          ·refine Tq.asg rfl rfl ?_
           refine Tq.nil (Tr.normThen ?_)
           refine Tr.cond rfl H (fun H => ?_) (fun H => ?_)
           ·refine Tr.drawC 15 [(14, (ow Ap0_0 cp0_0 49 fl_TBoardKind p0.Kinds).S)] [] (by kernel_rfl) (by kernel_rfl) fun sz160 hlosz160 hEsz160 => ?_
            refine Dr.quietP 0 (by kernel_rfl) rfl (wn rfl) rfl (by kernel_rfl) (fun _ _ h1 => run_move (h1.ev rfl)) rfl ?_
            refine Dr.quietP 1 (by kernel_rfl) rfl (wn rfl) rfl (by kernel_rfl) (fun _ _ h1 => run_move (h1.ev rfl)) rfl ?_
            refine Dr.quietP 2 (by kernel_rfl) rfl (wn rfl) rfl (by kernel_rfl) (fun _ _ h1 => run_nilCheck (h1.ev rfl)) rfl ?_
            refine Dr.quietP 3 (by kernel_rfl) rfl (wn rfl) rfl (by kernel_rfl) (fun _ _ h1 => run_fieldAddr fo_26_4 (h1.ev rfl)) rfl ?_
            refine Dr.quiet 4 [(123, (.slice Ap0_0 (p0.Kinds).length cp0_0))] (by kernel_rfl) rfl rfl (by kernel_rfl) ?_ rfl rfl ?_
            ·refine Tq.va rfl (fun _ _ h1 h2 => run_load1 ag_22 (h1.ev rfl) (rdb h2 (vs := [(iv p0.W), (iv p0.H), (iv p0.Rail), (iv p0.Gap), (.slice Ap0_0 (p0.Kinds).length cp0_0), (.slice Ap0_1 (p0.Slots).length cp0_1), (.slice Ap0_2 (p0.Marks).length cp0_2)]) (k := 0) rfl 4) rfl) ?_
             exact Tq.fin (.cons rfl .nil)
            refine Dr.quietP 5 (by kernel_rfl) rfl (wn rfl) rfl (by kernel_rfl) (fun _ _ h1 => run_move (h1.ev rfl)) rfl ?_
            refine Dr.quietP 6 (by kernel_rfl) rfl (wn rfl) rfl (by kernel_rfl) (fun _ _ h1 => run_move (h1.ev rfl)) rfl ?_
            obtain ⟨x161, hx161, H⟩ := bnd H
            obtain ⟨hx1610, hx1611, hx1612⟩ := idx_some hx161
            refine Dr.quietP 7 (by kernel_rfl) rfl (wn rfl) rfl (by kernel_rfl) (fun _ _ h1 => run_indexAddr el_64 (h1.ev rfl) hgy114_0 (h1.ev rfl) hx1610 hx1611) rfl ?_
            refine Dr.quietZ 8 [(127, (iv x161))] [14] false (by kernel_rfl) rfl rfl (by kernel_rfl) (fun W W' h2 hsW hk => HF.keepZ (le := [(5, ow Ay114_0 cy114_0 3 fl_i64 y114.1)]) (ks := [(1, (ow Ap0_0 cp0_0 49 fl_TBoardKind p0.Kinds).S)]) (s0 := sz160) false h2 hk (fun h => absurd h (by decide)) (.cons rfl .nil) (fun b hb => hb.elim (fun ⟨p, hp, hf, hb⟩ => by simp only [List.mem_cons, List.not_mem_nil, or_false] at hp; rcases hp with rfl; exact .inl ⟨_, List.mem_cons_self, hb⟩) (fun hb => absurd hb.1 (by decide))) (List.forall_mem_cons.2 ⟨fun b hb => hb, (fun _ h => nomatch h)⟩) rfl) ?_ rfl rfl ?_
            ·refine Tq.va rfl (fun _ _ h1 h2 => run_load1 ag_3 (h1.ev rfl) (rdo ef_i64 (k := 5) h2 rfl hx1612) rfl) ?_
             exact Tq.fin (.cons rfl .nil)
            refine Dr.quietP 9 (by kernel_rfl) rfl (wn rfl) rfl (by kernel_rfl) (fun _ _ h1 => run_move (h1.ev rfl)) rfl ?_
            obtain ⟨x162, hx162, H⟩ := bnd H
            obtain ⟨hx1620, hx1621, hx1622⟩ := idx_some hx162
            refine Dr.quietP 10 (by kernel_rfl) rfl (wn rfl) rfl (by kernel_rfl) (fun _ _ h1 => run_indexAddr el_64 (h1.ev rfl) hgy114_0 (h1.ev rfl) hx1620 hx1621) rfl ?_
            refine Dr.quietZ 11 [(130, (iv x162))] [14] false (by kernel_rfl) rfl rfl (by kernel_rfl) (fun W W' h2 hsW hk => HF.keepZ (le := [(5, ow Ay114_0 cy114_0 3 fl_i64 y114.1)]) (ks := [(1, (ow Ap0_0 cp0_0 49 fl_TBoardKind p0.Kinds).S)]) (s0 := sz160) false h2 hk (fun h => absurd h (by decide)) (.cons rfl .nil) (fun b hb => hb.elim (fun ⟨p, hp, hf, hb⟩ => by simp only [List.mem_cons, List.not_mem_nil, or_false] at hp; rcases hp with rfl; exact .inl ⟨_, List.mem_cons_self, hb⟩) (fun hb => absurd hb.1 (by decide))) (List.forall_mem_cons.2 ⟨fun b hb => hb, (fun _ h => nomatch h)⟩) rfl) ?_ rfl rfl ?_
            ·refine Tq.va rfl (fun _ _ h1 h2 => run_load1 ag_3 (h1.ev rfl) (rdo ef_i64 (k := 5) h2 rfl hx1622) rfl) ?_
             exact Tq.fin (.cons rfl .nil)
            refine Dr.quietZ 12 [(131, (.agg #[(sv x110), (iv x161), (iv x162)]))] [14] false (by kernel_rfl) rfl rfl (by kernel_rfl) (fun W W' h2 hsW hk => HF.keepZ (le := []) (ks := [(1, (ow Ap0_0 cp0_0 49 fl_TBoardKind p0.Kinds).S)]) (s0 := sz160) false h2 hk (fun h => absurd h (by decide)) .nil (fun b hb => hb.elim (fun ⟨p, hp, hf, hb⟩ => by simp only [List.mem_cons, List.not_mem_nil, or_false] at hp; rcases hp with rfl; exact .inl ⟨_, List.mem_cons_self, hb⟩) (fun hb => absurd hb.1 (by decide))) (List.forall_mem_cons.2 ⟨fun b hb => hb, (fun _ h => nomatch h)⟩) rfl) ?_ rfl rfl ?_
            ·refine Tq.build (vs := [(0, (sv x110)), (1, (iv x161)), (2, (iv x162))]) (cs := [(sv x110), (iv x161), (iv x162)]) (wn rfl) rfl (evs_cons rfl (evs_cons rfl (evs_cons rfl evs_nil))) (by kernel_rfl) ?_
             exact Tq.fin (.cons rfl .nil)
            refine Dr.one 13 (by kernel_rfl) ?_
            refine St.buildSlice 13 9 (e := 49) (vs := [(0, (.agg #[(sv x110), (iv x161), (iv x162)]))]) (cs := [(sv x110), (iv x161), (iv x162)]) rfl (wn rfl) rfl (evs_cons rfl evs_nil) (by kernel_rfl) fun b163 hb163 => ?_
            obtain ⟨l164, hl164, H⟩ := bnd H
            refine Dr.one 14 (by kernel_rfl) ?_
            refine St.append 14 1 (t' := fl_TBoardKind) (ll := p0.Kinds) (l2 := [(TBoardKind.mk x110 x161 x162)]) (fun b hb => .inl ⟨_, List.mem_cons_self, rfl, hb⟩) rfl (wn rfl) rfl rfl rfl rfl (fun W hW => ⟨[[(sv x110), (iv x161), (iv x162)]], (.cons ⟨(), trivial, rfl⟩ .nil), rdb hW (vs := [(sv x110), (iv x161), (iv x162)]) (k := 9) rfl 0⟩) un_22 sz_49 zl_49 (by decide) by_49 rfl hl164 fun Al164 cl164 hAl164 => ?_
            refine Dr.tail (by kernel_rfl) ?_
            refine Tr.va rfl (fun _ _ h1 h2 => run_nilCheck (h1.ev rfl)) ?_
            refine Tr.va rfl (fun _ _ h1 h2 => run_fieldAddr fo_26_4 (h1.ev rfl)) ?_
            refine Tr.store 0 (cs := [(.slice Al164 (l164).length cl164)]) [(iv p0.W), (iv p0.H), (iv p0.Rail), (iv p0.Gap), (.slice Al164 (l164).length cl164), (.slice Ap0_1 (p0.Slots).length cp0_1), (.slice Ap0_2 (p0.Marks).length cp0_2)] (wn rfl) rfl rfl rfl rfl sz_22 rfl rfl rfl ?_
            refine Tr.nil (Tr.normBlock ?_)
            exact Tr.backThen leJ151 (p0.W, p0.H, p0.Rail, p0.Gap, l164, p0.Slots, p0.Marks, Al164, cl164, Ap0_1, cp0_1, Ap0_2, cp0_2) ⟨H, hAl164, hfhp0_1, hfhp0_2⟩ .nil (.cons rfl (.cons rfl (.cons rfl (.cons rfl .nil))))
           ·refine Tr.sr ?_
            refine Tr.mv rfl rfl ?_
            obtain ⟨x165, hx165, H⟩ := bnd H
            obtain ⟨hx1650, hx1651, hx1652⟩ := idx_some hx165
            refine Tr.va rfl (fun _ _ h1 h2 => run_indexAddr el_40 (h1.ev rfl) hl109.form (h1.ev rfl) hx1650 hx1651) ?_
            refine Tr.va rfl (fun _ _ h1 h2 => run_load1 ag_9 (h1.ev rfl) (rdF ef_str (hl109.rl) hx1652 h2) rfl) ?_
            refine Tr.va rfl (fun _ _ h1 h2 => run_eqlS (h1.ev rfl) (h1.ev rfl)) ?_
            refine Tr.mv rfl rfl ?_
            refine Tr.mid0 3 [(0, (.pointer (some ⟨bp0, 0, none⟩))), (7, (.slice Al109 (l109).length cl109)), (9, (sv x110)), (11, (.slice Ay114_0 (y114.1).length cy114_0)), (144, (.bool ((sEq x165 (⟨#[115, 108, 111, 116]⟩)) && (!sEq x110 (⟨#[]⟩)))))] [(0, bx bp0 #[(iv p0.W), (iv p0.H), (iv p0.Rail), (iv p0.Gap), (.slice Ap0_0 (p0.Kinds).length cp0_0), (.slice Ap0_1 (p0.Slots).length cp0_1), (.slice Ap0_2 (p0.Marks).length cp0_2)] 26), (1, ow Ap0_0 cp0_0 49 fl_TBoardKind p0.Kinds), (2, ow Ap0_1 cp0_1 53 fl_TSlot p0.Slots), (3, ow Ap0_2 cp0_2 51 fl_TPoint p0.Marks), (5, ow Ay114_0 cy114_0 3 fl_i64 y114.1)] ?_ ?_
            ·cases hg177 : (sEq x165 (⟨#[115, 108, 111, 116]⟩))
             ·refine Tr.pass rfl rfl rfl rfl rfl (by decide) ?_
              refine Tr.pass rfl rfl rfl rfl rfl (by decide) ?_
              refine Tr.va rfl (fun _ _ h1 h2 => run_pickF (h1.ev rfl) (h1.ev rfl)) ?_
              exact Tr.nil (Tr.fin0 (.cons rfl (.cons rfl (.cons rfl (.cons rfl (.cons rfl .nil))))) (.cons rfl (.cons rfl (.cons rfl (.cons rfl (.cons rfl .nil))))))
             ·refine Tr.val (wg rfl rfl rfl) rfl (fun _ _ h1 h2 => run_move (h1.ev rfl)) ?_
              refine Tr.val (wg rfl rfl rfl) rfl (fun _ _ h1 h2 => run_neqS (h1.ev rfl) (h1.ev rfl)) ?_
              refine Tr.va rfl (fun _ _ h1 h2 => run_pickT (h1.ev rfl) (h1.ev rfl)) ?_
              exact Tr.nil (Tr.fin0 (.cons rfl (.cons rfl (.cons rfl (.cons rfl (.cons rfl .nil))))) (.cons rfl (.cons rfl (.cons rfl (.cons rfl (.cons rfl .nil))))))
            ·show Tr _ _ (LF [(0, (.pointer (some ⟨bp0, 0, none⟩))), (7, (.slice Al109 (l109).length cl109)), (9, (sv x110)), (11, (.slice Ay114_0 (y114.1).length cy114_0)), (144, (.bool ((sEq x165 (⟨#[115, 108, 111, 116]⟩)) && (!sEq x110 (⟨#[]⟩)))))]) (LE [(0, bx bp0 #[(iv p0.W), (iv p0.H), (iv p0.Rail), (iv p0.Gap), (.slice Ap0_0 (p0.Kinds).length cp0_0), (.slice Ap0_1 (p0.Slots).length cp0_1), (.slice Ap0_2 (p0.Marks).length cp0_2)] 26), (1, ow Ap0_0 cp0_0 49 fl_TBoardKind p0.Kinds), (2, ow Ap0_1 cp0_1 53 fl_TSlot p0.Slots), (3, ow Ap0_2 cp0_2 51 fl_TPoint p0.Marks), (5, ow Ay114_0 cy114_0 3 fl_i64 y114.1)]) _
             refine Tr.mv rfl rfl ?_
             refine Tr.mid0 4 [(0, (.pointer (some ⟨bp0, 0, none⟩))), (7, (.slice Al109 (l109).length cl109)), (9, (sv x110)), (11, (.slice Ay114_0 (y114.1).length cy114_0)), (149, (.bool (((sEq x165 (⟨#[115, 108, 111, 116]⟩)) && (!sEq x110 (⟨#[]⟩))) && ((y114.1.length : Int) == 3))))] [(0, bx bp0 #[(iv p0.W), (iv p0.H), (iv p0.Rail), (iv p0.Gap), (.slice Ap0_0 (p0.Kinds).length cp0_0), (.slice Ap0_1 (p0.Slots).length cp0_1), (.slice Ap0_2 (p0.Marks).length cp0_2)] 26), (1, ow Ap0_0 cp0_0 49 fl_TBoardKind p0.Kinds), (2, ow Ap0_1 cp0_1 53 fl_TSlot p0.Slots), (3, ow Ap0_2 cp0_2 51 fl_TPoint p0.Marks), (5, ow Ay114_0 cy114_0 3 fl_i64 y114.1)] ?_ ?_
             ·cases hg177 : ((sEq x165 (⟨#[115, 108, 111, 116]⟩)) && (!sEq x110 (⟨#[]⟩)))
              ·refine Tr.pass rfl rfl rfl rfl rfl (by decide) ?_
               refine Tr.pass rfl rfl rfl rfl rfl (by decide) ?_
               refine Tr.pass rfl rfl rfl rfl rfl (by decide) ?_
               refine Tr.va rfl (fun _ _ h1 h2 => run_pickF (h1.ev rfl) (h1.ev rfl)) ?_
               exact Tr.nil (Tr.fin0 (.cons rfl (.cons rfl (.cons rfl (.cons rfl (.cons rfl .nil))))) (.cons rfl (.cons rfl (.cons rfl (.cons rfl (.cons rfl .nil))))))
              ·refine Tr.val (wg rfl rfl rfl) rfl (fun _ _ h1 h2 => run_move (h1.ev rfl)) ?_
               refine Tr.val (wg rfl rfl rfl) rfl (fun _ _ h1 h2 => run_len un_64 (h1.ev rfl)) ?_
               refine Tr.val (wg rfl rfl rfl) rfl (fun _ _ h1 h2 => run_eql (h1.ev rfl) (h1.ev rfl)) ?_
               refine Tr.va rfl (fun _ _ h1 h2 => run_pickT (h1.ev rfl) (h1.ev rfl)) ?_
               exact Tr.nil (Tr.fin0 (.cons rfl (.cons rfl (.cons rfl (.cons rfl (.cons rfl .nil))))) (.cons rfl (.cons rfl (.cons rfl (.cons rfl (.cons rfl .nil))))))
             ·show Tr _ _ (LF [(0, (.pointer (some ⟨bp0, 0, none⟩))), (7, (.slice Al109 (l109).length cl109)), (9, (sv x110)), (11, (.slice Ay114_0 (y114.1).length cy114_0)), (149, (.bool (((sEq x165 (⟨#[115, 108, 111, 116]⟩)) && (!sEq x110 (⟨#[]⟩))) && ((y114.1.length : Int) == 3))))]) (LE [(0, bx bp0 #[(iv p0.W), (iv p0.H), (iv p0.Rail), (iv p0.Gap), (.slice Ap0_0 (p0.Kinds).length cp0_0), (.slice Ap0_1 (p0.Slots).length cp0_1), (.slice Ap0_2 (p0.Marks).length cp0_2)] 26), (1, ow Ap0_0 cp0_0 49 fl_TBoardKind p0.Kinds), (2, ow Ap0_1 cp0_1 53 fl_TSlot p0.Slots), (3, ow Ap0_2 cp0_2 51 fl_TPoint p0.Marks), (5, ow Ay114_0 cy114_0 3 fl_i64 y114.1)]) _
              refine Tr.mv rfl rfl ?_
              refine Tr.mid0 7 [(0, (.pointer (some ⟨bp0, 0, none⟩))), (7, (.slice Al109 (l109).length cl109)), (9, (sv x110)), (11, (.slice Ay114_0 (y114.1).length cy114_0)), (157, (.bool ((((sEq x165 (⟨#[115, 108, 111, 116]⟩)) && (!sEq x110 (⟨#[]⟩))) && ((y114.1.length : Int) == 3)) && ((p0.Marks.length : Int) == 0))))] [(0, bx bp0 #[(iv p0.W), (iv p0.H), (iv p0.Rail), (iv p0.Gap), (.slice Ap0_0 (p0.Kinds).length cp0_0), (.slice Ap0_1 (p0.Slots).length cp0_1), (.slice Ap0_2 (p0.Marks).length cp0_2)] 26), (1, ow Ap0_0 cp0_0 49 fl_TBoardKind p0.Kinds), (2, ow Ap0_1 cp0_1 53 fl_TSlot p0.Slots), (3, ow Ap0_2 cp0_2 51 fl_TPoint p0.Marks), (5, ow Ay114_0 cy114_0 3 fl_i64 y114.1)] ?_ ?_
              ·cases hg177 : (((sEq x165 (⟨#[115, 108, 111, 116]⟩)) && (!sEq x110 (⟨#[]⟩))) && ((y114.1.length : Int) == 3))
               ·refine Tr.pass rfl rfl rfl rfl rfl (by decide) ?_
                refine Tr.pass rfl rfl rfl rfl rfl (by decide) ?_
                refine Tr.pass rfl rfl rfl rfl rfl (by decide) ?_
                refine Tr.pass rfl rfl rfl rfl rfl (by decide) ?_
                refine Tr.pass rfl rfl rfl rfl rfl (by decide) ?_
                refine Tr.pass rfl rfl rfl rfl rfl (by decide) ?_
                refine Tr.va rfl (fun _ _ h1 h2 => run_pickF (h1.ev rfl) (h1.ev rfl)) ?_
                exact Tr.nil (Tr.fin0 (.cons rfl (.cons rfl (.cons rfl (.cons rfl (.cons rfl .nil))))) (.cons rfl (.cons rfl (.cons rfl (.cons rfl (.cons rfl .nil))))))
               ·refine Tr.val (wg rfl rfl rfl) rfl (fun _ _ h1 h2 => run_move (h1.ev rfl)) ?_
                refine Tr.val (wg rfl rfl rfl) rfl (fun _ _ h1 h2 => run_nilCheck (h1.ev rfl)) ?_
                refine Tr.val (wg rfl rfl rfl) rfl (fun _ _ h1 h2 => run_fieldAddr fo_26_6 (h1.ev rfl)) ?_
                refine Tr.val (wg rfl rfl rfl) rfl (fun _ _ h1 h2 => run_load1 ag_24 (h1.ev rfl) (rdb h2 (vs := [(iv p0.W), (iv p0.H), (iv p0.Rail), (iv p0.Gap), (.slice Ap0_0 (p0.Kinds).length cp0_0), (.slice Ap0_1 (p0.Slots).length cp0_1), (.slice Ap0_2 (p0.Marks).length cp0_2)]) (k := 0) rfl 6) rfl) ?_
                refine Tr.val (wg rfl rfl rfl) rfl (fun _ _ h1 h2 => run_len un_24 (h1.ev rfl)) ?_
                refine Tr.val (wg rfl rfl rfl) rfl (fun _ _ h1 h2 => run_eql (h1.ev rfl) (h1.ev rfl)) ?_
                refine Tr.va rfl (fun _ _ h1 h2 => run_pickT (h1.ev rfl) (h1.ev rfl)) ?_
                exact Tr.nil (Tr.fin0 (.cons rfl (.cons rfl (.cons rfl (.cons rfl (.cons rfl .nil))))) (.cons rfl (.cons rfl (.cons rfl (.cons rfl (.cons rfl .nil))))))
              ·show Tr _ _ (LF [(0, (.pointer (some ⟨bp0, 0, none⟩))), (7, (.slice Al109 (l109).length cl109)), (9, (sv x110)), (11, (.slice Ay114_0 (y114.1).length cy114_0)), (157, (.bool ((((sEq x165 (⟨#[115, 108, 111, 116]⟩)) && (!sEq x110 (⟨#[]⟩))) && ((y114.1.length : Int) == 3)) && ((p0.Marks.length : Int) == 0))))]) (LE [(0, bx bp0 #[(iv p0.W), (iv p0.H), (iv p0.Rail), (iv p0.Gap), (.slice Ap0_0 (p0.Kinds).length cp0_0), (.slice Ap0_1 (p0.Slots).length cp0_1), (.slice Ap0_2 (p0.Marks).length cp0_2)] 26), (1, ow Ap0_0 cp0_0 49 fl_TBoardKind p0.Kinds), (2, ow Ap0_1 cp0_1 53 fl_TSlot p0.Slots), (3, ow Ap0_2 cp0_2 51 fl_TPoint p0.Marks), (5, ow Ay114_0 cy114_0 3 fl_i64 y114.1)]) _
               refine Tr.asg rfl rfl ?_
               refine Tr.nil (Tr.normThen ?_)
               refine Tr.cond rfl H (fun H => ?_) (fun H => ?_)
               ·refine Tr.drawC 19 [(18, (ow Ap0_1 cp0_1 53 fl_TSlot p0.Slots).S)] [] (by kernel_rfl) (by kernel_rfl) fun sz166 hlosz166 hEsz166 => ?_
                refine Dr.quietP 0 (by kernel_rfl) rfl (wn rfl) rfl (by kernel_rfl) (fun _ _ h1 => run_move (h1.ev rfl)) rfl ?_
                refine Dr.quietP 1 (by kernel_rfl) rfl (wn rfl) rfl (by kernel_rfl) (fun _ _ h1 => run_move (h1.ev rfl)) rfl ?_
                refine Dr.quietP 2 (by kernel_rfl) rfl (wn rfl) rfl (by kernel_rfl) (fun _ _ h1 => run_nilCheck (h1.ev rfl)) rfl ?_
                refine Dr.quietP 3 (by kernel_rfl) rfl (wn rfl) rfl (by kernel_rfl) (fun _ _ h1 => run_fieldAddr fo_26_5 (h1.ev rfl)) rfl ?_
                refine Dr.quiet 4 [(162, (.slice Ap0_1 (p0.Slots).length cp0_1))] (by kernel_rfl) rfl rfl (by kernel_rfl) ?_ rfl rfl ?_
                ·refine Tq.va rfl (fun _ _ h1 h2 => run_load1 ag_23 (h1.ev rfl) (rdb h2 (vs := [(iv p0.W), (iv p0.H), (iv p0.Rail), (iv p0.Gap), (.slice Ap0_0 (p0.Kinds).length cp0_0), (.slice Ap0_1 (p0.Slots).length cp0_1), (.slice Ap0_2 (p0.Marks).length cp0_2)]) (k := 0) rfl 5) rfl) ?_
                 exact Tq.fin (.cons rfl .nil)
                refine Dr.quietP 5 (by kernel_rfl) rfl (wn rfl) rfl (by kernel_rfl) (fun _ _ h1 => run_move (h1.ev rfl)) rfl ?_
                refine Dr.quietP 6 (by kernel_rfl) rfl (wn rfl) rfl (by kernel_rfl) (fun _ _ h1 => run_move (h1.ev rfl)) rfl ?_
                obtain ⟨x167, hx167, H⟩ := bnd H
                obtain ⟨hx1670, hx1671, hx1672⟩ := idx_some hx167
                refine Dr.quietP 7 (by kernel_rfl) rfl (wn rfl) rfl (by kernel_rfl) (fun _ _ h1 => run_indexAddr el_64 (h1.ev rfl) hgy114_0 (h1.ev rfl) hx1670 hx1671) rfl ?_
                refine Dr.quietZ 8 [(166, (iv x167))] [18] false (by kernel_rfl) rfl rfl (by kernel_rfl) (fun W W' h2 hsW hk => HF.keepZ (le := [(5, ow Ay114_0 cy114_0 3 fl_i64 y114.1)]) (ks := [(2, (ow Ap0_1 cp0_1 53 fl_TSlot p0.Slots).S)]) (s0 := sz166) false h2 hk (fun h => absurd h (by decide)) (.cons rfl .nil) (fun b hb => hb.elim (fun ⟨p, hp, hf, hb⟩ => by simp only [List.mem_cons, List.not_mem_nil, or_false] at hp; rcases hp with rfl; exact .inl ⟨_, List.mem_cons_self, hb⟩) (fun hb => absurd hb.1 (by decide))) (List.forall_mem_cons.2 ⟨fun b hb => hb, (fun _ h => nomatch h)⟩) rfl) ?_ rfl rfl ?_
                ·refine Tq.va rfl (fun _ _ h1 h2 => run_load1 ag_3 (h1.ev rfl) (rdo ef_i64 (k := 5) h2 rfl hx1672) rfl) ?_
                 exact Tq.fin (.cons rfl .nil)
                refine Dr.quietP 9 (by kernel_rfl) rfl (wn rfl) rfl (by kernel_rfl) (fun _ _ h1 => run_move (h1.ev rfl)) rfl ?_
                obtain ⟨x168, hx168, H⟩ := bnd H
                obtain ⟨hx1680, hx1681, hx1682⟩ := idx_some hx168
                refine Dr.quietP 10 (by kernel_rfl) rfl (wn rfl) rfl (by kernel_rfl) (fun _ _ h1 => run_indexAddr el_64 (h1.ev rfl) hgy114_0 (h1.ev rfl) hx1680 hx1681) rfl ?_
                refine Dr.quietZ 11 [(169, (iv x168))] [18] false (by kernel_rfl) rfl rfl (by kernel_rfl) (fun W W' h2 hsW hk => HF.keepZ (le := [(5, ow Ay114_0 cy114_0 3 fl_i64 y114.1)]) (ks := [(2, (ow Ap0_1 cp0_1 53 fl_TSlot p0.Slots).S)]) (s0 := sz166) false h2 hk (fun h => absurd h (by decide)) (.cons rfl .nil) (fun b hb => hb.elim (fun ⟨p, hp, hf, hb⟩ => by simp only [List.mem_cons, List.not_mem_nil, or_false] at hp; rcases hp with rfl; exact .inl ⟨_, List.mem_cons_self, hb⟩) (fun hb => absurd hb.1 (by decide))) (List.forall_mem_cons.2 ⟨fun b hb => hb, (fun _ h => nomatch h)⟩) rfl) ?_ rfl rfl ?_
                ·refine Tq.va rfl (fun _ _ h1 h2 => run_load1 ag_3 (h1.ev rfl) (rdo ef_i64 (k := 5) h2 rfl hx1682) rfl) ?_
                 exact Tq.fin (.cons rfl .nil)
                refine Dr.quietP 12 (by kernel_rfl) rfl (wn rfl) rfl (by kernel_rfl) (fun _ _ h1 => run_move (h1.ev rfl)) rfl ?_
                obtain ⟨x169, hx169, H⟩ := bnd H
                obtain ⟨hx1690, hx1691, hx1692⟩ := idx_some hx169
                refine Dr.quietP 13 (by kernel_rfl) rfl (wn rfl) rfl (by kernel_rfl) (fun _ _ h1 => run_indexAddr el_64 (h1.ev rfl) hgy114_0 (h1.ev rfl) hx1690 hx1691) rfl ?_
                refine Dr.quietZ 14 [(172, (iv x169))] [18] false (by kernel_rfl) rfl rfl (by kernel_rfl) (fun W W' h2 hsW hk => HF.keepZ (le := [(5, ow Ay114_0 cy114_0 3 fl_i64 y114.1)]) (ks := [(2, (ow Ap0_1 cp0_1 53 fl_TSlot p0.Slots).S)]) (s0 := sz166) false h2 hk (fun h => absurd h (by decide)) (.cons rfl .nil) (fun b hb => hb.elim (fun ⟨p, hp, hf, hb⟩ => by simp only [List.mem_cons, List.not_mem_nil, or_false] at hp; rcases hp with rfl; exact .inl ⟨_, List.mem_cons_self, hb⟩) (fun hb => absurd hb.1 (by decide))) (List.forall_mem_cons.2 ⟨fun b hb => hb, (fun _ h => nomatch h)⟩) rfl) ?_ rfl rfl ?_
                ·refine Tq.va rfl (fun _ _ h1 h2 => run_load1 ag_3 (h1.ev rfl) (rdo ef_i64 (k := 5) h2 rfl hx1692) rfl) ?_
                 exact Tq.fin (.cons rfl .nil)
                refine Dr.quietZ 15 [(173, (.agg #[(iv x168), (iv x169)]))] [18] false (by kernel_rfl) rfl rfl (by kernel_rfl) (fun W W' h2 hsW hk => HF.keepZ (le := []) (ks := [(2, (ow Ap0_1 cp0_1 53 fl_TSlot p0.Slots).S)]) (s0 := sz166) false h2 hk (fun h => absurd h (by decide)) .nil (fun b hb => hb.elim (fun ⟨p, hp, hf, hb⟩ => by simp only [List.mem_cons, List.not_mem_nil, or_false] at hp; rcases hp with rfl; exact .inl ⟨_, List.mem_cons_self, hb⟩) (fun hb => absurd hb.1 (by decide))) (List.forall_mem_cons.2 ⟨fun b hb => hb, (fun _ h => nomatch h)⟩) rfl) ?_ rfl rfl ?_
                ·refine Tq.build (vs := [(0, (iv x168)), (1, (iv x169))]) (cs := [(iv x168), (iv x169)]) (wn rfl) rfl (evs_cons rfl (evs_cons rfl evs_nil)) (by kernel_rfl) ?_
                 exact Tq.fin (.cons rfl .nil)
                refine Dr.quietZ 16 [(174, (.agg #[(sv x110), (iv x167), (iv x168), (iv x169)]))] [18] false (by kernel_rfl) rfl rfl (by kernel_rfl) (fun W W' h2 hsW hk => HF.keepZ (le := []) (ks := [(2, (ow Ap0_1 cp0_1 53 fl_TSlot p0.Slots).S)]) (s0 := sz166) false h2 hk (fun h => absurd h (by decide)) .nil (fun b hb => hb.elim (fun ⟨p, hp, hf, hb⟩ => by simp only [List.mem_cons, List.not_mem_nil, or_false] at hp; rcases hp with rfl; exact .inl ⟨_, List.mem_cons_self, hb⟩) (fun hb => absurd hb.1 (by decide))) (List.forall_mem_cons.2 ⟨fun b hb => hb, (fun _ h => nomatch h)⟩) rfl) ?_ rfl rfl ?_
                ·refine Tq.build (vs := [(0, (sv x110)), (1, (iv x167)), (2, (.agg #[(iv x168), (iv x169)]))]) (cs := [(sv x110), (iv x167), (iv x168), (iv x169)]) (wn rfl) rfl (evs_cons rfl (evs_cons rfl (evs_cons rfl evs_nil))) (by kernel_rfl) ?_
                 exact Tq.fin (.cons rfl .nil)
                refine Dr.one 17 (by kernel_rfl) ?_
                refine St.buildSlice 17 10 (e := 53) (vs := [(0, (.agg #[(sv x110), (iv x167), (iv x168), (iv x169)]))]) (cs := [(sv x110), (iv x167), (iv x168), (iv x169)]) rfl (wn rfl) rfl (evs_cons rfl evs_nil) (by kernel_rfl) fun b170 hb170 => ?_
                obtain ⟨l171, hl171, H⟩ := bnd H
                refine Dr.one 18 (by kernel_rfl) ?_
                refine St.append 18 2 (t' := fl_TSlot) (ll := p0.Slots) (l2 := [(TSlot.mk x110 x167 (TPoint.mk x168 x169))]) (fun b hb => .inl ⟨_, List.mem_cons_self, rfl, hb⟩) rfl (wn rfl) rfl rfl rfl rfl (fun W hW => ⟨[[(sv x110), (iv x167), (iv x168), (iv x169)]], (.cons ⟨(), trivial, rfl⟩ .nil), rdb hW (vs := [(sv x110), (iv x167), (iv x168), (iv x169)]) (k := 10) rfl 0⟩) un_23 sz_53 zl_53 (by decide) by_53 rfl hl171 fun Al171 cl171 hAl171 => ?_
                refine Dr.tail (by kernel_rfl) ?_
                refine Tr.va rfl (fun _ _ h1 h2 => run_nilCheck (h1.ev rfl)) ?_
                refine Tr.va rfl (fun _ _ h1 h2 => run_fieldAddr fo_26_5 (h1.ev rfl)) ?_
                refine Tr.store 0 (cs := [(.slice Al171 (l171).length cl171)]) [(iv p0.W), (iv p0.H), (iv p0.Rail), (iv p0.Gap), (.slice Ap0_0 (p0.Kinds).length cp0_0), (.slice Al171 (l171).length cl171), (.slice Ap0_2 (p0.Marks).length cp0_2)] (wn rfl) rfl rfl rfl rfl sz_23 rfl rfl rfl ?_
                refine Tr.nil (Tr.normBlock ?_)
                exact Tr.backThen leJ151 (p0.W, p0.H, p0.Rail, p0.Gap, p0.Kinds, l171, p0.Marks, Ap0_0, cp0_0, Al171, cl171, Ap0_2, cp0_2) ⟨H, hfhp0_0, hAl171, hfhp0_2⟩ .nil (.cons rfl (.cons rfl (.cons rfl (.cons rfl .nil))))
               ·refine Tr.sr ?_
                refine Tr.mv rfl rfl ?_
                obtain ⟨x172, hx172, H⟩ := bnd H
                obtain ⟨hx1720, hx1721, hx1722⟩ := idx_some hx172
                refine Tr.va rfl (fun _ _ h1 h2 => run_indexAddr el_40 (h1.ev rfl) hl109.form (h1.ev rfl) hx1720 hx1721) ?_
                refine Tr.va rfl (fun _ _ h1 h2 => run_load1 ag_9 (h1.ev rfl) (rdF ef_str (hl109.rl) hx1722 h2) rfl) ?_
                refine Tr.va rfl (fun _ _ h1 h2 => run_eqlS (h1.ev rfl) (h1.ev rfl)) ?_
                refine Tr.mv rfl rfl ?_
                refine Tr.mid0 4 [(0, (.pointer (some ⟨bp0, 0, none⟩))), (11, (.slice Ay114_0 (y114.1).length cy114_0)), (188, (.bool ((sEq x172 (⟨#[109, 97, 114, 107]⟩)) && ((y114.1.length : Int) == 2))))] [(0, bx bp0 #[(iv p0.W), (iv p0.H), (iv p0.Rail), (iv p0.Gap), (.slice Ap0_0 (p0.Kinds).length cp0_0), (.slice Ap0_1 (p0.Slots).length cp0_1), (.slice Ap0_2 (p0.Marks).length cp0_2)] 26), (1, ow Ap0_0 cp0_0 49 fl_TBoardKind p0.Kinds), (2, ow Ap0_1 cp0_1 53 fl_TSlot p0.Slots), (3, ow Ap0_2 cp0_2 51 fl_TPoint p0.Marks), (5, ow Ay114_0 cy114_0 3 fl_i64 y114.1)] ?_ ?_
                ·cases hg177 : (sEq x172 (⟨#[109, 97, 114, 107]⟩))
                 ·refine Tr.pass rfl rfl rfl rfl rfl (by decide) ?_
                  refine Tr.pass rfl rfl rfl rfl rfl (by decide) ?_
                  refine Tr.pass rfl rfl rfl rfl rfl (by decide) ?_
                  refine Tr.va rfl (fun _ _ h1 h2 => run_pickF (h1.ev rfl) (h1.ev rfl)) ?_
                  exact Tr.nil (Tr.fin0 (.cons rfl (.cons rfl (.cons rfl .nil))) (.cons rfl (.cons rfl (.cons rfl (.cons rfl (.cons rfl .nil))))))
                 ·refine Tr.val (wg rfl rfl rfl) rfl (fun _ _ h1 h2 => run_move (h1.ev rfl)) ?_
                  refine Tr.val (wg rfl rfl rfl) rfl (fun _ _ h1 h2 => run_len un_64 (h1.ev rfl)) ?_
                  refine Tr.val (wg rfl rfl rfl) rfl (fun _ _ h1 h2 => run_eql (h1.ev rfl) (h1.ev rfl)) ?_
                  refine Tr.va rfl (fun _ _ h1 h2 => run_pickT (h1.ev rfl) (h1.ev rfl)) ?_
                  exact Tr.nil (Tr.fin0 (.cons rfl (.cons rfl (.cons rfl .nil))) (.cons rfl (.cons rfl (.cons rfl (.cons rfl (.cons rfl .nil))))))
                ·show Tr _ _ (LF [(0, (.pointer (some ⟨bp0, 0, none⟩))), (11, (.slice Ay114_0 (y114.1).length cy114_0)), (188, (.bool ((sEq x172 (⟨#[109, 97, 114, 107]⟩)) && ((y114.1.length : Int) == 2))))]) (LE [(0, bx bp0 #[(iv p0.W), (iv p0.H), (iv p0.Rail), (iv p0.Gap), (.slice Ap0_0 (p0.Kinds).length cp0_0), (.slice Ap0_1 (p0.Slots).length cp0_1), (.slice Ap0_2 (p0.Marks).length cp0_2)] 26), (1, ow Ap0_0 cp0_0 49 fl_TBoardKind p0.Kinds), (2, ow Ap0_1 cp0_1 53 fl_TSlot p0.Slots), (3, ow Ap0_2 cp0_2 51 fl_TPoint p0.Marks), (5, ow Ay114_0 cy114_0 3 fl_i64 y114.1)]) _
                 refine Tr.asg rfl rfl ?_
                 refine Tr.nil (Tr.normThen ?_)
                 refine Tr.cond rfl H (fun H => ?_) (fun H => ?_)
                 ·refine Tr.drawC 14 [(13, (ow Ap0_2 cp0_2 51 fl_TPoint p0.Marks).S)] [] (by kernel_rfl) (by kernel_rfl) fun sz173 hlosz173 hEsz173 => ?_
                  refine Dr.quietP 0 (by kernel_rfl) rfl (wn rfl) rfl (by kernel_rfl) (fun _ _ h1 => run_move (h1.ev rfl)) rfl ?_
                  refine Dr.quietP 1 (by kernel_rfl) rfl (wn rfl) rfl (by kernel_rfl) (fun _ _ h1 => run_move (h1.ev rfl)) rfl ?_
                  refine Dr.quietP 2 (by kernel_rfl) rfl (wn rfl) rfl (by kernel_rfl) (fun _ _ h1 => run_nilCheck (h1.ev rfl)) rfl ?_
                  refine Dr.quietP 3 (by kernel_rfl) rfl (wn rfl) rfl (by kernel_rfl) (fun _ _ h1 => run_fieldAddr fo_26_6 (h1.ev rfl)) rfl ?_
                  refine Dr.quiet 4 [(193, (.slice Ap0_2 (p0.Marks).length cp0_2))] (by kernel_rfl) rfl rfl (by kernel_rfl) ?_ rfl rfl ?_
                  ·refine Tq.va rfl (fun _ _ h1 h2 => run_load1 ag_24 (h1.ev rfl) (rdb h2 (vs := [(iv p0.W), (iv p0.H), (iv p0.Rail), (iv p0.Gap), (.slice Ap0_0 (p0.Kinds).length cp0_0), (.slice Ap0_1 (p0.Slots).length cp0_1), (.slice Ap0_2 (p0.Marks).length cp0_2)]) (k := 0) rfl 6) rfl) ?_
                   exact Tq.fin (.cons rfl .nil)
                  refine Dr.quietP 5 (by kernel_rfl) rfl (wn rfl) rfl (by kernel_rfl) (fun _ _ h1 => run_move (h1.ev rfl)) rfl ?_
                  obtain ⟨x174, hx174, H⟩ := bnd H
                  obtain ⟨hx1740, hx1741, hx1742⟩ := idx_some hx174
                  refine Dr.quietP 6 (by kernel_rfl) rfl (wn rfl) rfl (by kernel_rfl) (fun _ _ h1 => run_indexAddr el_64 (h1.ev rfl) hgy114_0 (h1.ev rfl) hx1740 hx1741) rfl ?_
                  refine Dr.quietZ 7 [(196, (iv x174))] [13] false (by kernel_rfl) rfl rfl (by kernel_rfl) (fun W W' h2 hsW hk => HF.keepZ (le := [(5, ow Ay114_0 cy114_0 3 fl_i64 y114.1)]) (ks := [(3, (ow Ap0_2 cp0_2 51 fl_TPoint p0.Marks).S)]) (s0 := sz173) false h2 hk (fun h => absurd h (by decide)) (.cons rfl .nil) (fun b hb => hb.elim (fun ⟨p, hp, hf, hb⟩ => by simp only [List.mem_cons, List.not_mem_nil, or_false] at hp; rcases hp with rfl; exact .inl ⟨_, List.mem_cons_self, hb⟩) (fun hb => absurd hb.1 (by decide))) (List.forall_mem_cons.2 ⟨fun b hb => hb, (fun _ h => nomatch h)⟩) rfl) ?_ rfl rfl ?_
                  ·refine Tq.va rfl (fun _ _ h1 h2 => run_load1 ag_3 (h1.ev rfl) (rdo ef_i64 (k := 5) h2 rfl hx1742) rfl) ?_
                   exact Tq.fin (.cons rfl .nil)
                  refine Dr.quietP 8 (by kernel_rfl) rfl (wn rfl) rfl (by kernel_rfl) (fun _ _ h1 => run_move (h1.ev rfl)) rfl ?_
                  obtain ⟨x175, hx175, H⟩ := bnd H
                  obtain ⟨hx1750, hx1751, hx1752⟩ := idx_some hx175
                  refine Dr.quietP 9 (by kernel_rfl) rfl (wn rfl) rfl (by kernel_rfl) (fun _ _ h1 => run_indexAddr el_64 (h1.ev rfl) hgy114_0 (h1.ev rfl) hx1750 hx1751) rfl ?_
                  refine Dr.quietZ 10 [(199, (iv x175))] [13] false (by kernel_rfl) rfl rfl (by kernel_rfl) (fun W W' h2 hsW hk => HF.keepZ (le := [(5, ow Ay114_0 cy114_0 3 fl_i64 y114.1)]) (ks := [(3, (ow Ap0_2 cp0_2 51 fl_TPoint p0.Marks).S)]) (s0 := sz173) false h2 hk (fun h => absurd h (by decide)) (.cons rfl .nil) (fun b hb => hb.elim (fun ⟨p, hp, hf, hb⟩ => by simp only [List.mem_cons, List.not_mem_nil, or_false] at hp; rcases hp with rfl; exact .inl ⟨_, List.mem_cons_self, hb⟩) (fun hb => absurd hb.1 (by decide))) (List.forall_mem_cons.2 ⟨fun b hb => hb, (fun _ h => nomatch h)⟩) rfl) ?_ rfl rfl ?_
                  ·refine Tq.va rfl (fun _ _ h1 h2 => run_load1 ag_3 (h1.ev rfl) (rdo ef_i64 (k := 5) h2 rfl hx1752) rfl) ?_
                   exact Tq.fin (.cons rfl .nil)
                  refine Dr.quietZ 11 [(200, (.agg #[(iv x174), (iv x175)]))] [13] false (by kernel_rfl) rfl rfl (by kernel_rfl) (fun W W' h2 hsW hk => HF.keepZ (le := []) (ks := [(3, (ow Ap0_2 cp0_2 51 fl_TPoint p0.Marks).S)]) (s0 := sz173) false h2 hk (fun h => absurd h (by decide)) .nil (fun b hb => hb.elim (fun ⟨p, hp, hf, hb⟩ => by simp only [List.mem_cons, List.not_mem_nil, or_false] at hp; rcases hp with rfl; exact .inl ⟨_, List.mem_cons_self, hb⟩) (fun hb => absurd hb.1 (by decide))) (List.forall_mem_cons.2 ⟨fun b hb => hb, (fun _ h => nomatch h)⟩) rfl) ?_ rfl rfl ?_
                  ·refine Tq.build (vs := [(0, (iv x174)), (1, (iv x175))]) (cs := [(iv x174), (iv x175)]) (wn rfl) rfl (evs_cons rfl (evs_cons rfl evs_nil)) (by kernel_rfl) ?_
                   exact Tq.fin (.cons rfl .nil)
                  refine Dr.one 12 (by kernel_rfl) ?_
                  refine St.buildSlice 12 11 (e := 51) (vs := [(0, (.agg #[(iv x174), (iv x175)]))]) (cs := [(iv x174), (iv x175)]) rfl (wn rfl) rfl (evs_cons rfl evs_nil) (by kernel_rfl) fun b176 hb176 => ?_
                  obtain ⟨l177, hl177, H⟩ := bnd H
                  refine Dr.one 13 (by kernel_rfl) ?_
                  refine St.append 13 3 (t' := fl_TPoint) (ll := p0.Marks) (l2 := [(TPoint.mk x174 x175)]) (fun b hb => .inl ⟨_, List.mem_cons_self, rfl, hb⟩) rfl (wn rfl) rfl rfl rfl rfl (fun W hW => ⟨[[(iv x174), (iv x175)]], (.cons ⟨(), trivial, rfl⟩ .nil), rdb hW (vs := [(iv x174), (iv x175)]) (k := 11) rfl 0⟩) un_24 sz_51 zl_51 (by decide) by_51 rfl hl177 fun Al177 cl177 hAl177 => ?_
                  refine Dr.tail (by kernel_rfl) ?_
                  refine Tr.va rfl (fun _ _ h1 h2 => run_nilCheck (h1.ev rfl)) ?_
                  refine Tr.va rfl (fun _ _ h1 h2 => run_fieldAddr fo_26_6 (h1.ev rfl)) ?_
                  refine Tr.store 0 (cs := [(.slice Al177 (l177).length cl177)]) [(iv p0.W), (iv p0.H), (iv p0.Rail), (iv p0.Gap), (.slice Ap0_0 (p0.Kinds).length cp0_0), (.slice Ap0_1 (p0.Slots).length cp0_1), (.slice Al177 (l177).length cl177)] (wn rfl) rfl rfl rfl rfl sz_24 rfl rfl rfl ?_
                  refine Tr.nil (Tr.normBlock ?_)
                  exact Tr.backThen leJ151 (p0.W, p0.H, p0.Rail, p0.Gap, p0.Kinds, p0.Slots, l177, Ap0_0, cp0_0, Ap0_1, cp0_1, Al177, cl177) ⟨H, hfhp0_0, hfhp0_1, hAl177⟩ .nil (.cons rfl (.cons rfl (.cons rfl (.cons rfl .nil))))
                 ·refine Tr.sr ?_
                  refine Tr.asg rfl rfl ?_
                  refine Tr.nil (Tr.normThen ?_)
                  refine Tr.ret (Tr.retBlock (Tr.retThen ?_))
                  obtain rfl := Option.some.inj H
                  exact Tr.out (m := [(.bool false)]) [] (res_tmp rfl res_nil) (fun W hW => ⟨((Ap0_0, cp0_0), (Ap0_1, cp0_1), (Ap0_2, cp0_2)), rfl, ⟨hfhp0_0, hfhp0_1, hfhp0_2⟩, HF.lowE leB (hW.pick (ks := [0, 1, 2, 3]) (by decide) (pk_cons rfl (pk_cons rfl (pk_cons rfl (pk_cons rfl pk_nil))))) ⟨bx_any _ _ _, ow_any _ _ _ _ tr_TBoardKind, ow_any _ _ _ _ tr_TSlot, ow_any _ _ _ _ tr_TPoint, trivial⟩⟩)
     ·intro w s hlJ152 hs
      obtain ⟨x144, x145, x146, x147, l148, l149, l150, Al148, cl148, Al149, cl149, Al150, cl150⟩ := s
      obtain ⟨H, hl148, hl149, hl150⟩ := hs
      replace H : F_etchhouseref9_line_J1 x144 x145 x146 x147 l148 l149 l150 = some r := H
      replace hT := hT.ext hlJ152.ext
      replace leB := leB.trans hlJ152
      replace hl148 : SlF Al148 (l148).length cl148 := hl148
      replace hl149 : SlF Al149 (l149).length cl149 := hl149
      replace hl150 : SlF Al150 (l150).length cl150 := hl150
      unfold F_etchhouseref9_line_J1 at H
      show Tr _ _ (LF []) (LE [(0, bx bp0 #[(iv x144), (iv x145), (iv x146), (iv x147), (.slice Al148 (l148).length cl148), (.slice Al149 (l149).length cl149), (.slice Al150 (l150).length cl150)] 26), (1, ow Al148 cl148 49 fl_TBoardKind l148), (2, ow Al149 cl149 53 fl_TSlot l149), (3, ow Al150 cl150 51 fl_TPoint l150)]) _
      refine Tr.sr ?_
      refine Tr.asg rfl rfl ?_
      refine Tr.nil (Tr.normThen ?_)
      refine Tr.ret ?_
      obtain rfl := Option.some.inj H
      exact Tr.out (m := [(.bool true)]) [] (res_tmp rfl res_nil) (fun W hW => ⟨((Al148, cl148), (Al149, cl149), (Al150, cl150)), rfl, ⟨hl148, hl149, hl150⟩, HF.lowE leB (hW.pick (ks := [0, 1, 2, 3]) (by decide) (pk_cons rfl (pk_cons rfl (pk_cons rfl (pk_cons rfl pk_nil))))) ⟨bx_any _ _ _, ow_any _ _ _ _ tr_TBoardKind, ow_any _ _ _ _ tr_TSlot, ow_any _ _ _ _ tr_TPoint, trivial⟩⟩)

theorem F_etchhouseref9_Read_ok (N : Nat) {w : Bs} (hT : Tab Tryz.prog w) (p0 : ByteArray) (r : (TPanel × Int × Int)) (H : F_etchhouseref9_Read N p0 = some r) (hE : HF w w.W (LEn [emp, emp, emp])) : Calls Tryz.prog 10 [(sv p0)].toArray w.W fun e W' => ∃ u : (Option Addr × Nat) × (Option Addr × Nat) × (Option Addr × Nat), e = .returned (.tuple #[(.agg #[(iv r.1.W), (iv r.1.H), (iv r.1.Rail), (iv r.1.Gap), (.slice u.1.1 (r.1.Kinds).length u.1.2), (.slice u.2.1.1 (r.1.Slots).length u.2.1.2), (.slice u.2.2.1 (r.1.Marks).length u.2.2.2)]), (iv r.2.1), (iv r.2.2)]) ∧ (SlF u.1.1 (r.1.Kinds).length u.1.2 ∧ SlF u.2.1.1 (r.1.Slots).length u.2.1.2 ∧ SlF u.2.2.1 (r.1.Marks).length u.2.2.2) ∧ HF w W' (LEn [ow u.1.1 u.1.2 49 fl_TBoardKind r.1.Kinds, ow u.2.1.1 u.2.1.2 53 fl_TSlot r.1.Slots, ow u.2.2.1 u.2.2.2 51 fl_TPoint r.1.Marks]) := by
 unfold F_etchhouseref9_Read at H
 have leB := Bs.Le.refl w
 refine Tr.enter (n := 48) Tryz.func10 rfl rfl rfl hE ?_
 refine Tr.sr ?_
 refine Tr.alloc 1 (wn rfl) rfl ze_26 fun b100 => ?_
 refine Tr.asg rfl rfl ?_
 refine Tr.asg rfl rfl ?_
 refine Tr.nil (Tr.normThen ?_)
 refine Tr.seq ?_
 refine Tr.sr ?_
 refine Tr.mv rfl rfl ?_
 refine Tr.va rfl (fun _ _ h1 h2 => run_lenS un_9 (h1.ev rfl)) ?_
 refine Tr.va rfl (fun _ _ h1 h2 => run_gtr (h1.ev rfl) (h1.ev rfl)) ?_
 refine Tr.nil (Tr.normThen ?_)
 refine Tr.cond rfl H (fun H => ?_) (fun H => ?_)
 ·refine Tr.sr ?_
  refine Tr.build (vs := []) (cs := [(iv 0), (iv 0), (iv 0), (iv 0), (.slice none 0 0), (.slice none 0 0), (.slice none 0 0)]) (wn rfl) rfl evs_nil (by kernel_rfl) ?_
  refine Tr.store 1 (cs := [(iv 0), (iv 0), (iv 0), (iv 0), (.slice none 0 0), (.slice none 0 0), (.slice none 0 0)]) [(iv 0), (iv 0), (iv 0), (iv 0), (.slice none 0 0), (.slice none 0 0), (.slice none 0 0)] (wn rfl) rfl rfl rfl rfl sz_26 rfl rfl rfl ?_
  refine Tr.asg rfl rfl ?_
  refine Tr.asg rfl rfl ?_
  refine Tr.nil (Tr.normThen ?_)
  refine Tr.ret (Tr.retThen ?_)
  obtain rfl := Option.some.inj H
  refine Tr.nilOwn 2 49 fl_TBoardKind ?_
  refine Tr.nilOwn 3 53 fl_TSlot ?_
  refine Tr.nilOwn 4 51 fl_TPoint ?_
  exact Tr.out (m := [(.agg #[(iv 0), (iv 0), (iv 0), (iv 0), (.slice none 0 0), (.slice none 0 0), (.slice none 0 0)]), (iv 0), (iv 2)]) [1] (res_cell rfl rfl ag_26 sz_26 (res_tmp rfl (res_tmp rfl res_nil))) (fun W hW => ⟨((none, 0), (none, 0), (none, 0)), rfl, ⟨slf_nil, slf_nil, slf_nil⟩, HF.lowE leB (hW.pick (ks := [2, 3, 4]) (by decide) (pk_cons rfl (pk_cons rfl (pk_cons rfl pk_nil)))) ⟨ow_any _ _ _ _ tr_TBoardKind, ow_any _ _ _ _ tr_TSlot, ow_any _ _ _ _ tr_TPoint, trivial⟩⟩)
 ·refine Tr.skip (Tr.normThen ?_)
  refine Tr.sr ?_
  refine Tr.alloc 5 (wn rfl) rfl ze_26 fun b101 => ?_
  refine Tr.nil (Tr.normThen ?_)
  refine Tr.sr ?_
  refine Tr.asg rfl rfl ?_
  refine Tr.nil (Tr.normThen ?_)
  refine Tr.seq ?_
  refine Tr.block ?_
  refine Tr.nilOwn 21 49 fl_TBoardKind ?_
  refine Tr.nilOwn 22 53 fl_TSlot ?_
  refine Tr.nilOwn 23 51 fl_TPoint ?_
  refine Tr.loop (σ := Int × Int × Int × Int × (List TBoardKind) × (List TSlot) × (List TPoint) × ByteArray × Int × (Option Addr) × Nat × (Option Addr) × Nat × (Option Addr) × Nat) (fun m w s => F_etchhouseref9_Read_L1 N m s.1 s.2.1 s.2.2.1 s.2.2.2.1 s.2.2.2.2.1 s.2.2.2.2.2.1 s.2.2.2.2.2.2.1 s.2.2.2.2.2.2.2.1 s.2.2.2.2.2.2.2.2.1 = some r ∧ SlF s.2.2.2.2.2.2.2.2.2.1 (s.2.2.2.2.1).length s.2.2.2.2.2.2.2.2.2.2.1 ∧ SlF s.2.2.2.2.2.2.2.2.2.2.2.1 (s.2.2.2.2.2.1).length s.2.2.2.2.2.2.2.2.2.2.2.2.1 ∧ SlF s.2.2.2.2.2.2.2.2.2.2.2.2.2.1 (s.2.2.2.2.2.2.1).length s.2.2.2.2.2.2.2.2.2.2.2.2.2.2) (fun s => [(0, (sv s.2.2.2.2.2.2.2.1)), (2, (.pointer (some ⟨b100, 0, none⟩))), (5, (.pointer (some ⟨b101, 0, none⟩))), (6, (iv s.2.2.2.2.2.2.2.2.1))]) (fun s => [(1, bx b100 #[(iv 0), (iv 0), (iv 0), (iv 0), (.slice none 0 0), (.slice none 0 0), (.slice none 0 0)] 26), (5, bx b101 #[(iv s.1), (iv s.2.1), (iv s.2.2.1), (iv s.2.2.2.1), (.slice s.2.2.2.2.2.2.2.2.2.1 (s.2.2.2.2.1).length s.2.2.2.2.2.2.2.2.2.2.1), (.slice s.2.2.2.2.2.2.2.2.2.2.2.1 (s.2.2.2.2.2.1).length s.2.2.2.2.2.2.2.2.2.2.2.2.1), (.slice s.2.2.2.2.2.2.2.2.2.2.2.2.2.1 (s.2.2.2.2.2.2.1).length s.2.2.2.2.2.2.2.2.2.2.2.2.2.2)] 26), (21, ow s.2.2.2.2.2.2.2.2.2.1 s.2.2.2.2.2.2.2.2.2.2.1 49 fl_TBoardKind s.2.2.2.2.1), (22, ow s.2.2.2.2.2.2.2.2.2.2.2.1 s.2.2.2.2.2.2.2.2.2.2.2.2.1 53 fl_TSlot s.2.2.2.2.2.1), (23, ow s.2.2.2.2.2.2.2.2.2.2.2.2.2.1 s.2.2.2.2.2.2.2.2.2.2.2.2.2.2 51 fl_TPoint s.2.2.2.2.2.2.1)]) N (0, 0, 0, 0, ([] : List TBoardKind), ([] : List TSlot), ([] : List TPoint), p0, 0, none, 0, none, 0, none, 0) ⟨H, slf_nil, slf_nil, slf_nil⟩ (.cons rfl (.cons rfl (.cons rfl (.cons rfl .nil)))) (.cons rfl (.cons rfl (.cons rfl (.cons rfl (.cons rfl .nil))))) (fun _ _ h => noSome (h.1)) ?_
  intro w leL1 mL1 s hs
  obtain ⟨x141, x142, x143, x144, l145, l146, l147, x148, x149, Al145, cl145, Al146, cl146, Al147, cl147⟩ := s
  obtain ⟨H, hl145, hl146, hl147⟩ := hs
  replace H : F_etchhouseref9_Read_L1 N (mL1 + 1) x141 x142 x143 x144 l145 l146 l147 x148 x149 = some r := H
  replace hT := hT.ext leL1.ext
  replace leB := leB.trans leL1
  replace hl145 : SlF Al145 (l145).length cl145 := hl145
  replace hl146 : SlF Al146 (l146).length cl146 := hl146
  replace hl147 : SlF Al147 (l147).length cl147 := hl147
  rw [F_etchhouseref9_Read_L1.eq_2] at H
  show Tr _ _ (LF [(0, (sv x148)), (2, (.pointer (some ⟨b100, 0, none⟩))), (5, (.pointer (some ⟨b101, 0, none⟩))), (6, (iv x149))]) (LE [(1, bx b100 #[(iv 0), (iv 0), (iv 0), (iv 0), (.slice none 0 0), (.slice none 0 0), (.slice none 0 0)] 26), (5, bx b101 #[(iv x141), (iv x142), (iv x143), (iv x144), (.slice Al145 (l145).length cl145), (.slice Al146 (l146).length cl146), (.slice Al147 (l147).length cl147)] 26), (21, ow Al145 cl145 49 fl_TBoardKind l145), (22, ow Al146 cl146 53 fl_TSlot l146), (23, ow Al147 cl147 51 fl_TPoint l147)]) _
  refine Tr.seq ?_
  refine Tr.sr ?_
  refine Tr.mv rfl rfl ?_
  refine Tr.va rfl (fun _ _ h1 h2 => run_neqS (h1.ev rfl) (h1.ev rfl)) ?_
  refine Tr.mv rfl rfl ?_
  refine Tr.mid0 3 [(0, (sv x148)), (2, (.pointer (some ⟨b100, 0, none⟩))), (5, (.pointer (some ⟨b101, 0, none⟩))), (6, (iv x149)), (20, (.bool ((!sEq x148 (⟨#[]⟩)) || (x149 == 0))))] [(1, bx b100 #[(iv 0), (iv 0), (iv 0), (iv 0), (.slice none 0 0), (.slice none 0 0), (.slice none 0 0)] 26), (5, bx b101 #[(iv x141), (iv x142), (iv x143), (iv x144), (.slice Al145 (l145).length cl145), (.slice Al146 (l146).length cl146), (.slice Al147 (l147).length cl147)] 26), (21, ow Al145 cl145 49 fl_TBoardKind l145), (22, ow Al146 cl146 53 fl_TSlot l146), (23, ow Al147 cl147 51 fl_TPoint l147)] ?_ ?_
  ·cases hg156 : (!sEq x148 (⟨#[]⟩))
   ·refine Tr.val (wg rfl rfl rfl) rfl (fun _ _ h1 h2 => run_move (h1.ev rfl)) ?_
    refine Tr.val (wg rfl rfl rfl) rfl (fun _ _ h1 h2 => run_eql (h1.ev rfl) (h1.ev rfl)) ?_
    refine Tr.va rfl (fun _ _ h1 h2 => run_pickF (h1.ev rfl) (h1.ev rfl)) ?_
    exact Tr.nil (Tr.fin0 (.cons rfl (.cons rfl (.cons rfl (.cons rfl (.cons rfl .nil))))) (.cons rfl (.cons rfl (.cons rfl (.cons rfl (.cons rfl .nil))))))
   ·refine Tr.pass rfl rfl rfl rfl rfl (by decide) ?_
    refine Tr.pass rfl rfl rfl rfl rfl (by decide) ?_
    refine Tr.va rfl (fun _ _ h1 h2 => run_pickT (h1.ev rfl) (h1.ev rfl)) ?_
    exact Tr.nil (Tr.fin0 (.cons rfl (.cons rfl (.cons rfl (.cons rfl (.cons rfl .nil))))) (.cons rfl (.cons rfl (.cons rfl (.cons rfl (.cons rfl .nil))))))
  ·show Tr _ _ (LF [(0, (sv x148)), (2, (.pointer (some ⟨b100, 0, none⟩))), (5, (.pointer (some ⟨b101, 0, none⟩))), (6, (iv x149)), (20, (.bool ((!sEq x148 (⟨#[]⟩)) || (x149 == 0))))]) (LE [(1, bx b100 #[(iv 0), (iv 0), (iv 0), (iv 0), (.slice none 0 0), (.slice none 0 0), (.slice none 0 0)] 26), (5, bx b101 #[(iv x141), (iv x142), (iv x143), (iv x144), (.slice Al145 (l145).length cl145), (.slice Al146 (l146).length cl146), (.slice Al147 (l147).length cl147)] 26), (21, ow Al145 cl145 49 fl_TBoardKind l145), (22, ow Al146 cl146 53 fl_TSlot l146), (23, ow Al147 cl147 51 fl_TPoint l147)]) _
   refine Tr.nil (Tr.normThen ?_)
   refine Tr.cond rfl H (fun H => ?_) (fun H => ?_)
   ·refine Tr.skip (Tr.normThen ?_)
    refine Tr.block ?_
    refine Tr.sr ?_
    refine Tr.mv rfl rfl ?_
    obtain ⟨y150, hy150, H⟩ := bnd H
    refine Tr.call0 (r := (.tuple #[(sv y150.1), (sv y150.2.1), (.bool y150.2.2)])) (wn rfl) rfl Tryz.call17 (evl_cons rfl (evl_cons rfl evl_nil)) (fun W hW => F_strings_Cut_ok (hT.ext hW.extAll) x148 (⟨#[10]⟩) y150 hy150 (HF.start _)) ?_
    refine Tr.mv rfl rfl ?_
    refine Tr.va rfl (fun _ _ h1 h2 => run_extract (h1.ev rfl) rfl) ?_
    refine Tr.va rfl (fun _ _ h1 h2 => run_extract (h1.ev rfl) rfl) ?_
    refine Tr.va rfl (fun _ _ h1 h2 => run_extract (h1.ev rfl) rfl) ?_
    refine Tr.asg rfl rfl ?_
    refine Tr.asg rfl rfl ?_
    refine Tr.asg rfl rfl ?_
    refine Tr.nil (Tr.normThen ?_)
    refine Tr.seq ?_
    refine Tr.sr ?_
    refine Tr.mv rfl rfl ?_
    refine Tr.va rfl (fun _ _ h1 h2 => run_not (h1.ev rfl)) ?_
    refine Tr.mv rfl rfl ?_
    cases hg152 : (!y150.2.2)
    ·rw [hg152, if_neg (by decide)] at H
     refine Tr.val (wg rfl rfl rfl) rfl (fun _ _ h1 h2 => run_move (h1.ev rfl)) ?_
     refine Tr.val (wg rfl rfl rfl) rfl (fun _ _ h1 h2 => run_move (h1.ev rfl)) ?_
     obtain ⟨y154, hy154, H⟩ := bnd H
     refine Tr.callM [5, 21, 22, 23] [bx b101 #[(iv x141), (iv x142), (iv x143), (iv x144), (.slice Al145 (l145).length cl145), (.slice Al146 (l146).length cl146), (.slice Al147 (l147).length cl147)] 26, ow Al145 cl145 49 fl_TBoardKind l145, ow Al146 cl146 53 fl_TSlot l146, ow Al147 cl147 51 fl_TPoint l147] (U := (Option Addr × Nat) × (Option Addr × Nat) × (Option Addr × Nat)) (fun u => (.bool y154.1)) (fun u => SlF u.1.1 (y154.2.2.2.2.2.1).length u.1.2 ∧ SlF u.2.1.1 (y154.2.2.2.2.2.2.1).length u.2.1.2 ∧ SlF u.2.2.1 (y154.2.2.2.2.2.2.2).length u.2.2.2) (fun u => [bx b101 #[(iv y154.2.1), (iv y154.2.2.1), (iv y154.2.2.2.1), (iv y154.2.2.2.2.1), (.slice u.1.1 (y154.2.2.2.2.2.1).length u.1.2), (.slice u.2.1.1 (y154.2.2.2.2.2.2.1).length u.2.1.2), (.slice u.2.2.1 (y154.2.2.2.2.2.2.2).length u.2.2.2)] 26, ow u.1.1 u.1.2 49 fl_TBoardKind y154.2.2.2.2.2.1, ow u.2.1.1 u.2.1.2 53 fl_TSlot y154.2.2.2.2.2.2.1, ow u.2.2.1 u.2.2.2 51 fl_TPoint y154.2.2.2.2.2.2.2]) rfl (pk_cons rfl (pk_cons rfl (pk_cons rfl (pk_cons rfl pk_nil)))) (fun _ => rfl) (wg rfl rfl rfl) rfl Tryz.call22 (evl_cons rfl (evl_cons rfl (evl_cons rfl evl_nil))) (fun W hW hp hE => F_etchhouseref9_line_ok N (hT.ext (hW.extS hp)) (TPanel.mk x141 x142 x143 x144 l145 l146 l147) Al145 cl145 Al146 cl146 Al147 cl147 b101 y150.1 x149 y154 hy154 hE) ?_
     intro u hu
     obtain ⟨⟨Ay154_0, cy154_0⟩, ⟨Ay154_1, cy154_1⟩, ⟨Ay154_2, cy154_2⟩⟩ := u
     obtain ⟨gy154_0, gy154_1, gy154_2⟩ := hu
     have hgy154_0 : SlF Ay154_0 (y154.2.2.2.2.2.1).length cy154_0 := gy154_0 --@phi
     have hgy154_1 : SlF Ay154_1 (y154.2.2.2.2.2.2.1).length cy154_1 := gy154_1 --@phi
     have hgy154_2 : SlF Ay154_2 (y154.2.2.2.2.2.2.2).length cy154_2 := gy154_2 --@phi
     show Tr _ _ (uf _ 32 (.bool y154.1)) (up (up (up (up _ 23 (ow Ay154_2 cy154_2 51 fl_TPoint y154.2.2.2.2.2.2.2)) 22 (ow Ay154_1 cy154_1 53 fl_TSlot y154.2.2.2.2.2.2.1)) 21 (ow Ay154_0 cy154_0 49 fl_TBoardKind y154.2.2.2.2.2.1)) 5 (bx b101 #[(iv y154.2.1), (iv y154.2.2.1), (iv y154.2.2.2.1), (iv y154.2.2.2.2.1), (.slice Ay154_0 (y154.2.2.2.2.2.1).length cy154_0), (.slice Ay154_1 (y154.2.2.2.2.2.2.1).length cy154_1), (.slice Ay154_2 (y154.2.2.2.2.2.2.2).length cy154_2)] 26)) _
     refine Tr.val (wg rfl rfl rfl) rfl (fun _ _ h1 h2 => run_not (h1.ev rfl)) ?_
     refine Tr.va rfl (fun _ _ h1 h2 => run_pickF (h1.ev rfl) (h1.ev rfl)) ?_
     refine Tr.nil (Tr.normThen ?_)
     refine Tr.cond rfl H (fun H => ?_) (fun H => ?_)
     ·refine Tr.sr ?_
      refine Tr.build (vs := []) (cs := [(iv 0), (iv 0), (iv 0), (iv 0), (.slice none 0 0), (.slice none 0 0), (.slice none 0 0)]) (wn rfl) rfl evs_nil (by kernel_rfl) ?_
      refine Tr.mv rfl rfl ?_
      refine Tr.va rfl (fun _ _ h1 h2 => run_add (h1.ev rfl) (h1.ev rfl)) ?_
      refine Tr.store 1 (cs := [(iv 0), (iv 0), (iv 0), (iv 0), (.slice none 0 0), (.slice none 0 0), (.slice none 0 0)]) [(iv 0), (iv 0), (iv 0), (iv 0), (.slice none 0 0), (.slice none 0 0), (.slice none 0 0)] (wn rfl) rfl rfl rfl rfl sz_26 rfl rfl rfl ?_
      refine Tr.asg rfl rfl ?_
      refine Tr.asg rfl rfl ?_
      refine Tr.nil (Tr.normThen ?_)
      refine Tr.ret (Tr.retThen (Tr.retBlock (Tr.retThen (Tr.retBlock (Tr.retThen ?_)))))
      obtain rfl := Option.some.inj H
      refine Tr.nilOwn 27 49 fl_TBoardKind ?_
      refine Tr.nilOwn 28 53 fl_TSlot ?_
      refine Tr.nilOwn 29 51 fl_TPoint ?_
      exact Tr.out (m := [(.agg #[(iv 0), (iv 0), (iv 0), (iv 0), (.slice none 0 0), (.slice none 0 0), (.slice none 0 0)]), (iv (w64 (x149 + 1))), (iv 10)]) [1] (res_cell rfl rfl ag_26 sz_26 (res_tmp rfl (res_tmp rfl res_nil))) (fun W hW => ⟨((none, 0), (none, 0), (none, 0)), rfl, ⟨slf_nil, slf_nil, slf_nil⟩, HF.lowE leB (hW.pick (ks := [27, 28, 29]) (by decide) (pk_cons rfl (pk_cons rfl (pk_cons rfl pk_nil)))) ⟨ow_any _ _ _ _ tr_TBoardKind, ow_any _ _ _ _ tr_TSlot, ow_any _ _ _ _ tr_TPoint, trivial⟩⟩)
     ·refine Tr.skip (Tr.normThen ?_)
      refine Tr.sr ?_
      refine Tr.mv rfl rfl ?_
      refine Tr.va rfl (fun _ _ h1 h2 => run_add (h1.ev rfl) (h1.ev rfl)) ?_
      refine Tr.asg rfl rfl ?_
      refine Tr.nil (Tr.normThen ?_)
      refine Tr.region ?_
      refine Tr.mv rfl rfl ?_
      refine Tr.asg rfl rfl ?_
      refine Tr.nil (Tr.normBlock ?_)
      exact Tr.backThen leL1 (y154.2.1, y154.2.2.1, y154.2.2.2.1, y154.2.2.2.2.1, y154.2.2.2.2.2.1, y154.2.2.2.2.2.2.1, y154.2.2.2.2.2.2.2, y150.2.1, (w64 (x149 + 1)), Ay154_0, cy154_0, Ay154_1, cy154_1, Ay154_2, cy154_2) ⟨H, hgy154_0, hgy154_1, hgy154_2⟩ (.cons rfl (.cons rfl (.cons rfl (.cons rfl .nil)))) (.cons rfl (.cons rfl (.cons rfl (.cons rfl (.cons rfl .nil)))))
    ·rw [hg152, if_pos rfl] at H
     refine Tr.pass rfl rfl rfl rfl rfl (by decide) ?_
     refine Tr.pass rfl rfl rfl rfl rfl (by decide) ?_
     refine Tr.pass rfl rfl rfl rfl rfl (by decide) ?_
     refine Tr.pass rfl rfl rfl rfl rfl (by decide) ?_
     refine Tr.va rfl (fun _ _ h1 h2 => run_pickT (h1.ev rfl) (h1.ev rfl)) ?_
     refine Tr.nil (Tr.normThen ?_)
     refine Tr.condT rfl rfl ?_
     refine Tr.sr ?_
     refine Tr.build (vs := []) (cs := [(iv 0), (iv 0), (iv 0), (iv 0), (.slice none 0 0), (.slice none 0 0), (.slice none 0 0)]) (wn rfl) rfl evs_nil (by kernel_rfl) ?_
     refine Tr.mv rfl rfl ?_
     refine Tr.va rfl (fun _ _ h1 h2 => run_add (h1.ev rfl) (h1.ev rfl)) ?_
     refine Tr.store 1 (cs := [(iv 0), (iv 0), (iv 0), (iv 0), (.slice none 0 0), (.slice none 0 0), (.slice none 0 0)]) [(iv 0), (iv 0), (iv 0), (iv 0), (.slice none 0 0), (.slice none 0 0), (.slice none 0 0)] (wn rfl) rfl rfl rfl rfl sz_26 rfl rfl rfl ?_
     refine Tr.asg rfl rfl ?_
     refine Tr.asg rfl rfl ?_
     refine Tr.nil (Tr.normThen ?_)
     refine Tr.ret (Tr.retThen (Tr.retBlock (Tr.retThen (Tr.retBlock (Tr.retThen ?_)))))
     obtain rfl := Option.some.inj H
     refine Tr.nilOwn 24 49 fl_TBoardKind ?_
     refine Tr.nilOwn 25 53 fl_TSlot ?_
     refine Tr.nilOwn 26 51 fl_TPoint ?_
     exact Tr.out (m := [(.agg #[(iv 0), (iv 0), (iv 0), (iv 0), (.slice none 0 0), (.slice none 0 0), (.slice none 0 0)]), (iv (w64 (x149 + 1))), (iv 10)]) [1] (res_cell rfl rfl ag_26 sz_26 (res_tmp rfl (res_tmp rfl res_nil))) (fun W hW => ⟨((none, 0), (none, 0), (none, 0)), rfl, ⟨slf_nil, slf_nil, slf_nil⟩, HF.lowE leB (hW.pick (ks := [24, 25, 26]) (by decide) (pk_cons rfl (pk_cons rfl (pk_cons rfl pk_nil)))) ⟨ow_any _ _ _ _ tr_TBoardKind, ow_any _ _ _ _ tr_TSlot, ow_any _ _ _ _ tr_TPoint, trivial⟩⟩)
   ·refine Tr.exit (Tr.exitThen (Tr.exitThen (Tr.exitBlock (Tr.normThen ?_))))
    refine Tr.seq ?_
    refine Tr.sr ?_
    refine Tr.va rfl (fun _ _ h1 h2 => run_loadN (cs := [(iv x141), (iv x142), (iv x143), (iv x144), (.slice Al145 (l145).length cl145), (.slice Al146 (l146).length cl146), (.slice Al147 (l147).length cl147)]) ag_26 sz_26 (h1.ev rfl) (CellsAt.take (rdb h2 (vs := [(iv x141), (iv x142), (iv x143), (iv x144), (.slice Al145 (l145).length cl145), (.slice Al146 (l146).length cl146), (.slice Al147 (l147).length cl147)]) (k := 5) rfl 0) 7) rfl) ?_
    obtain ⟨y156, hy156, H⟩ := bnd H
    refine Tr.call0 (r := (iv y156)) (wn rfl) rfl Tryz.call20 (evl_cons rfl evl_nil) (fun W hW => F_etchhouseref9_CheckPanel_ok N (TPanel.mk x141 x142 x143 x144 l145 l146 l147) Al145 cl145 (hW.slCall (k := 21) rfl) Al146 cl146 (hW.slCall (k := 22) rfl) Al147 cl147 (hW.slCall (k := 23) rfl) y156 hy156 (HF.start _)) ?_
    refine Tr.asg rfl rfl ?_
    refine Tr.nil (Tr.normThen ?_)
    refine Tr.sr ?_
    refine Tr.mv rfl rfl ?_
    refine Tr.va rfl (fun _ _ h1 h2 => run_neq (h1.ev rfl) (h1.ev rfl)) ?_
    refine Tr.nil (Tr.normThen ?_)
    refine Tr.cond rfl H (fun H => ?_) (fun H => ?_)
    ·refine Tr.sr ?_
     refine Tr.build (vs := []) (cs := [(iv 0), (iv 0), (iv 0), (iv 0), (.slice none 0 0), (.slice none 0 0), (.slice none 0 0)]) (wn rfl) rfl evs_nil (by kernel_rfl) ?_
     refine Tr.mv rfl rfl ?_
     refine Tr.store 1 (cs := [(iv 0), (iv 0), (iv 0), (iv 0), (.slice none 0 0), (.slice none 0 0), (.slice none 0 0)]) [(iv 0), (iv 0), (iv 0), (iv 0), (.slice none 0 0), (.slice none 0 0), (.slice none 0 0)] (wn rfl) rfl rfl rfl rfl sz_26 rfl rfl rfl ?_
     refine Tr.asg rfl rfl ?_
     refine Tr.asg rfl rfl ?_
     refine Tr.nil (Tr.normThen ?_)
     refine Tr.ret (Tr.retThen ?_)
     obtain rfl := Option.some.inj H
     refine Tr.nilOwn 30 49 fl_TBoardKind ?_
     refine Tr.nilOwn 31 53 fl_TSlot ?_
     refine Tr.nilOwn 32 51 fl_TPoint ?_
     exact Tr.out (m := [(.agg #[(iv 0), (iv 0), (iv 0), (iv 0), (.slice none 0 0), (.slice none 0 0), (.slice none 0 0)]), (iv 0), (iv y156)]) [1] (res_cell rfl rfl ag_26 sz_26 (res_tmp rfl (res_tmp rfl res_nil))) (fun W hW => ⟨((none, 0), (none, 0), (none, 0)), rfl, ⟨slf_nil, slf_nil, slf_nil⟩, HF.lowE leB (hW.pick (ks := [30, 31, 32]) (by decide) (pk_cons rfl (pk_cons rfl (pk_cons rfl pk_nil)))) ⟨ow_any _ _ _ _ tr_TBoardKind, ow_any _ _ _ _ tr_TSlot, ow_any _ _ _ _ tr_TPoint, trivial⟩⟩)
    ·refine Tr.skip (Tr.normThen ?_)
     refine Tr.sr ?_
     refine Tr.va rfl (fun _ _ h1 h2 => run_loadN (cs := [(iv x141), (iv x142), (iv x143), (iv x144), (.slice Al145 (l145).length cl145), (.slice Al146 (l146).length cl146), (.slice Al147 (l147).length cl147)]) ag_26 sz_26 (h1.ev rfl) (CellsAt.take (rdb h2 (vs := [(iv x141), (iv x142), (iv x143), (iv x144), (.slice Al145 (l145).length cl145), (.slice Al146 (l146).length cl146), (.slice Al147 (l147).length cl147)]) (k := 5) rfl 0) 7) rfl) ?_
     refine Tr.store 1 (cs := [(iv x141), (iv x142), (iv x143), (iv x144), (.slice Al145 (l145).length cl145), (.slice Al146 (l146).length cl146), (.slice Al147 (l147).length cl147)]) [(iv x141), (iv x142), (iv x143), (iv x144), (.slice Al145 (l145).length cl145), (.slice Al146 (l146).length cl146), (.slice Al147 (l147).length cl147)] (wn rfl) rfl rfl rfl rfl sz_26 rfl rfl rfl ?_
     refine Tr.asg rfl rfl ?_
     refine Tr.asg rfl rfl ?_
     refine Tr.nil (Tr.normThen ?_)
     refine Tr.ret ?_
     obtain rfl := Option.some.inj H
     exact Tr.out (m := [(.agg #[(iv x141), (iv x142), (iv x143), (iv x144), (.slice Al145 (l145).length cl145), (.slice Al146 (l146).length cl146), (.slice Al147 (l147).length cl147)]), (iv 0), (iv 0)]) [1] (res_cell rfl rfl ag_26 sz_26 (res_tmp rfl (res_tmp rfl res_nil))) (fun W hW => ⟨((Al145, cl145), (Al146, cl146), (Al147, cl147)), rfl, ⟨hl145, hl146, hl147⟩, HF.lowE leB (hW.pick (ks := [21, 22, 23]) (by decide) (pk_cons rfl (pk_cons rfl (pk_cons rfl pk_nil)))) ⟨ow_any _ _ _ _ tr_TBoardKind, ow_any _ _ _ _ tr_TSlot, ow_any _ _ _ _ tr_TPoint, trivial⟩⟩)

end Go.Proofs.YtmbjoffligicnaaGreatDoor
