/- The walks: each function computes its plain function. -/
import Derived.Test.YtmbjoffligicnaaGreatDoorXWc
namespace Go.Proofs.YtmbjoffligicnaaGreatDoor
open Go.RowKit
set_option maxRecDepth 100000
set_option maxHeartbeats 1000000
theorem F_etchhouseref9_Same_ok (N : Nat) {w : Bs} (p0 : TPanel) (Ap0_0 : Option Addr) (cp0_0 : Nat) (hp0_0 : Sl w.R w.W fl_TBoardKind Ap0_0 cp0_0 p0.Kinds) (Ap0_1 : Option Addr) (cp0_1 : Nat) (hp0_1 : Sl w.R w.W fl_TSlot Ap0_1 cp0_1 p0.Slots) (Ap0_2 : Option Addr) (cp0_2 : Nat) (hp0_2 : Sl w.R w.W fl_TPoint Ap0_2 cp0_2 p0.Marks) (p1 : TPanel) (Ap1_0 : Option Addr) (cp1_0 : Nat) (hp1_0 : Sl w.R w.W fl_TBoardKind Ap1_0 cp1_0 p1.Kinds) (Ap1_1 : Option Addr) (cp1_1 : Nat) (hp1_1 : Sl w.R w.W fl_TSlot Ap1_1 cp1_1 p1.Slots) (Ap1_2 : Option Addr) (cp1_2 : Nat) (hp1_2 : Sl w.R w.W fl_TPoint Ap1_2 cp1_2 p1.Marks) (r : Bool) (H : F_etchhouseref9_Same N p0 p1 = some r) (hE : HF w w.W E0) : Calls Tryz.prog 7 [(.agg #[(iv p0.W), (iv p0.H), (iv p0.Rail), (iv p0.Gap), (.slice Ap0_0 (p0.Kinds).length cp0_0), (.slice Ap0_1 (p0.Slots).length cp0_1), (.slice Ap0_2 (p0.Marks).length cp0_2)]), (.agg #[(iv p1.W), (iv p1.H), (iv p1.Rail), (iv p1.Gap), (.slice Ap1_0 (p1.Kinds).length cp1_0), (.slice Ap1_1 (p1.Slots).length cp1_1), (.slice Ap1_2 (p1.Marks).length cp1_2)])].toArray w.W fun e W' => e = .returned (.bool r) ∧ HF w W' E0 := by
 unfold F_etchhouseref9_Same at H
 have leB := Bs.Le.refl w
 refine Tr.enter (n := 115) Tryz.func7 rfl rfl rfl hE ?_
 refine Tr.sr ?_
 refine Tr.box 1 (cs := [(iv p0.W), (iv p0.H), (iv p0.Rail), (iv p0.Gap), (.slice Ap0_0 (p0.Kinds).length cp0_0), (.slice Ap0_1 (p0.Slots).length cp0_1), (.slice Ap0_2 (p0.Marks).length cp0_2)]) (wn rfl) rfl rfl rfl fun b100 => ?_
 refine Tr.box 2 (cs := [(iv p1.W), (iv p1.H), (iv p1.Rail), (iv p1.Gap), (.slice Ap1_0 (p1.Kinds).length cp1_0), (.slice Ap1_1 (p1.Slots).length cp1_1), (.slice Ap1_2 (p1.Marks).length cp1_2)]) (wn rfl) rfl rfl rfl fun b101 => ?_
 refine Tr.asg rfl rfl ?_
 refine Tr.nil (Tr.normThen ?_)
 refine Tr.seq ?_
 refine Tr.sr ?_
 refine Tr.va rfl (fun _ _ h1 h2 => run_fieldAddr fo_26_0 (h1.ev rfl)) ?_
 refine Tr.va rfl (fun _ _ h1 h2 => run_load1 ag_3 (h1.ev rfl) (rdb h2 (vs := [(iv p0.W), (iv p0.H), (iv p0.Rail), (iv p0.Gap), (.slice Ap0_0 (p0.Kinds).length cp0_0), (.slice Ap0_1 (p0.Slots).length cp0_1), (.slice Ap0_2 (p0.Marks).length cp0_2)]) (k := 1) rfl 0) rfl) ?_
 refine Tr.va rfl (fun _ _ h1 h2 => run_fieldAddr fo_26_0 (h1.ev rfl)) ?_
 refine Tr.va rfl (fun _ _ h1 h2 => run_load1 ag_3 (h1.ev rfl) (rdb h2 (vs := [(iv p1.W), (iv p1.H), (iv p1.Rail), (iv p1.Gap), (.slice Ap1_0 (p1.Kinds).length cp1_0), (.slice Ap1_1 (p1.Slots).length cp1_1), (.slice Ap1_2 (p1.Marks).length cp1_2)]) (k := 2) rfl 0) rfl) ?_
 refine Tr.va rfl (fun _ _ h1 h2 => run_neq (h1.ev rfl) (h1.ev rfl)) ?_
 refine Tr.mv rfl rfl ?_
 refine Tr.mid0 6 [(2, (.pointer (some ⟨b100, 0, none⟩))), (3, (.pointer (some ⟨b101, 0, none⟩))), (19, (.bool ((p0.W != p1.W) || (p0.H != p1.H))))] [(1, bx b100 #[(iv p0.W), (iv p0.H), (iv p0.Rail), (iv p0.Gap), (.slice Ap0_0 (p0.Kinds).length cp0_0), (.slice Ap0_1 (p0.Slots).length cp0_1), (.slice Ap0_2 (p0.Marks).length cp0_2)] 26), (2, bx b101 #[(iv p1.W), (iv p1.H), (iv p1.Rail), (iv p1.Gap), (.slice Ap1_0 (p1.Kinds).length cp1_0), (.slice Ap1_1 (p1.Slots).length cp1_1), (.slice Ap1_2 (p1.Marks).length cp1_2)] 26)] ?_ ?_
 ·cases hg131 : (p0.W != p1.W)
  ·refine Tr.val (wg rfl rfl rfl) rfl (fun _ _ h1 h2 => run_fieldAddr fo_26_1 (h1.ev rfl)) ?_
   refine Tr.val (wg rfl rfl rfl) rfl (fun _ _ h1 h2 => run_load1 ag_3 (h1.ev rfl) (rdb h2 (vs := [(iv p0.W), (iv p0.H), (iv p0.Rail), (iv p0.Gap), (.slice Ap0_0 (p0.Kinds).length cp0_0), (.slice Ap0_1 (p0.Slots).length cp0_1), (.slice Ap0_2 (p0.Marks).length cp0_2)]) (k := 1) rfl 1) rfl) ?_
   refine Tr.val (wg rfl rfl rfl) rfl (fun _ _ h1 h2 => run_fieldAddr fo_26_1 (h1.ev rfl)) ?_
   refine Tr.val (wg rfl rfl rfl) rfl (fun _ _ h1 h2 => run_load1 ag_3 (h1.ev rfl) (rdb h2 (vs := [(iv p1.W), (iv p1.H), (iv p1.Rail), (iv p1.Gap), (.slice Ap1_0 (p1.Kinds).length cp1_0), (.slice Ap1_1 (p1.Slots).length cp1_1), (.slice Ap1_2 (p1.Marks).length cp1_2)]) (k := 2) rfl 1) rfl) ?_
   refine Tr.val (wg rfl rfl rfl) rfl (fun _ _ h1 h2 => run_neq (h1.ev rfl) (h1.ev rfl)) ?_
   refine Tr.va rfl (fun _ _ h1 h2 => run_pickF (h1.ev rfl) (h1.ev rfl)) ?_
   exact Tr.nil (Tr.fin0 (.cons rfl (.cons rfl (.cons rfl .nil))) (.cons rfl (.cons rfl .nil)))
  ·refine Tr.pass rfl rfl rfl rfl rfl (by decide) ?_
   refine Tr.pass rfl rfl rfl rfl rfl (by decide) ?_
   refine Tr.pass rfl rfl rfl rfl rfl (by decide) ?_
   refine Tr.pass rfl rfl rfl rfl rfl (by decide) ?_
   refine Tr.pass rfl rfl rfl rfl rfl (by decide) ?_
   refine Tr.va rfl (fun _ _ h1 h2 => run_pickT (h1.ev rfl) (h1.ev rfl)) ?_
   exact Tr.nil (Tr.fin0 (.cons rfl (.cons rfl (.cons rfl .nil))) (.cons rfl (.cons rfl .nil)))
 ·show Tr _ _ (LF [(2, (.pointer (some ⟨b100, 0, none⟩))), (3, (.pointer (some ⟨b101, 0, none⟩))), (19, (.bool ((p0.W != p1.W) || (p0.H != p1.H))))]) (LE [(1, bx b100 #[(iv p0.W), (iv p0.H), (iv p0.Rail), (iv p0.Gap), (.slice Ap0_0 (p0.Kinds).length cp0_0), (.slice Ap0_1 (p0.Slots).length cp0_1), (.slice Ap0_2 (p0.Marks).length cp0_2)] 26), (2, bx b101 #[(iv p1.W), (iv p1.H), (iv p1.Rail), (iv p1.Gap), (.slice Ap1_0 (p1.Kinds).length cp1_0), (.slice Ap1_1 (p1.Slots).length cp1_1), (.slice Ap1_2 (p1.Marks).length cp1_2)] 26)]) _
  refine Tr.mv rfl rfl ?_
  refine Tr.mid0 6 [(2, (.pointer (some ⟨b100, 0, none⟩))), (3, (.pointer (some ⟨b101, 0, none⟩))), (26, (.bool (((p0.W != p1.W) || (p0.H != p1.H)) || (p0.Rail != p1.Rail))))] [(1, bx b100 #[(iv p0.W), (iv p0.H), (iv p0.Rail), (iv p0.Gap), (.slice Ap0_0 (p0.Kinds).length cp0_0), (.slice Ap0_1 (p0.Slots).length cp0_1), (.slice Ap0_2 (p0.Marks).length cp0_2)] 26), (2, bx b101 #[(iv p1.W), (iv p1.H), (iv p1.Rail), (iv p1.Gap), (.slice Ap1_0 (p1.Kinds).length cp1_0), (.slice Ap1_1 (p1.Slots).length cp1_1), (.slice Ap1_2 (p1.Marks).length cp1_2)] 26)] ?_ ?_
  ·cases hg131 : ((p0.W != p1.W) || (p0.H != p1.H))
   ·refine Tr.val (wg rfl rfl rfl) rfl (fun _ _ h1 h2 => run_fieldAddr fo_26_2 (h1.ev rfl)) ?_
    refine Tr.val (wg rfl rfl rfl) rfl (fun _ _ h1 h2 => run_load1 ag_3 (h1.ev rfl) (rdb h2 (vs := [(iv p0.W), (iv p0.H), (iv p0.Rail), (iv p0.Gap), (.slice Ap0_0 (p0.Kinds).length cp0_0), (.slice Ap0_1 (p0.Slots).length cp0_1), (.slice Ap0_2 (p0.Marks).length cp0_2)]) (k := 1) rfl 2) rfl) ?_
    refine Tr.val (wg rfl rfl rfl) rfl (fun _ _ h1 h2 => run_fieldAddr fo_26_2 (h1.ev rfl)) ?_
    refine Tr.val (wg rfl rfl rfl) rfl (fun _ _ h1 h2 => run_load1 ag_3 (h1.ev rfl) (rdb h2 (vs := [(iv p1.W), (iv p1.H), (iv p1.Rail), (iv p1.Gap), (.slice Ap1_0 (p1.Kinds).length cp1_0), (.slice Ap1_1 (p1.Slots).length cp1_1), (.slice Ap1_2 (p1.Marks).length cp1_2)]) (k := 2) rfl 2) rfl) ?_
    refine Tr.val (wg rfl rfl rfl) rfl (fun _ _ h1 h2 => run_neq (h1.ev rfl) (h1.ev rfl)) ?_
    refine Tr.va rfl (fun _ _ h1 h2 => run_pickF (h1.ev rfl) (h1.ev rfl)) ?_
    exact Tr.nil (Tr.fin0 (.cons rfl (.cons rfl (.cons rfl .nil))) (.cons rfl (.cons rfl .nil)))
   ·refine Tr.pass rfl rfl rfl rfl rfl (by decide) ?_
    refine Tr.pass rfl rfl rfl rfl rfl (by decide) ?_
    refine Tr.pass rfl rfl rfl rfl rfl (by decide) ?_
    refine Tr.pass rfl rfl rfl rfl rfl (by decide) ?_
    refine Tr.pass rfl rfl rfl rfl rfl (by decide) ?_
    refine Tr.va rfl (fun _ _ h1 h2 => run_pickT (h1.ev rfl) (h1.ev rfl)) ?_
    exact Tr.nil (Tr.fin0 (.cons rfl (.cons rfl (.cons rfl .nil))) (.cons rfl (.cons rfl .nil)))
  ·show Tr _ _ (LF [(2, (.pointer (some ⟨b100, 0, none⟩))), (3, (.pointer (some ⟨b101, 0, none⟩))), (26, (.bool (((p0.W != p1.W) || (p0.H != p1.H)) || (p0.Rail != p1.Rail))))]) (LE [(1, bx b100 #[(iv p0.W), (iv p0.H), (iv p0.Rail), (iv p0.Gap), (.slice Ap0_0 (p0.Kinds).length cp0_0), (.slice Ap0_1 (p0.Slots).length cp0_1), (.slice Ap0_2 (p0.Marks).length cp0_2)] 26), (2, bx b101 #[(iv p1.W), (iv p1.H), (iv p1.Rail), (iv p1.Gap), (.slice Ap1_0 (p1.Kinds).length cp1_0), (.slice Ap1_1 (p1.Slots).length cp1_1), (.slice Ap1_2 (p1.Marks).length cp1_2)] 26)]) _
   refine Tr.mv rfl rfl ?_
   refine Tr.mid0 6 [(2, (.pointer (some ⟨b100, 0, none⟩))), (3, (.pointer (some ⟨b101, 0, none⟩))), (33, (.bool ((((p0.W != p1.W) || (p0.H != p1.H)) || (p0.Rail != p1.Rail)) || (p0.Gap != p1.Gap))))] [(1, bx b100 #[(iv p0.W), (iv p0.H), (iv p0.Rail), (iv p0.Gap), (.slice Ap0_0 (p0.Kinds).length cp0_0), (.slice Ap0_1 (p0.Slots).length cp0_1), (.slice Ap0_2 (p0.Marks).length cp0_2)] 26), (2, bx b101 #[(iv p1.W), (iv p1.H), (iv p1.Rail), (iv p1.Gap), (.slice Ap1_0 (p1.Kinds).length cp1_0), (.slice Ap1_1 (p1.Slots).length cp1_1), (.slice Ap1_2 (p1.Marks).length cp1_2)] 26)] ?_ ?_
   ·cases hg131 : (((p0.W != p1.W) || (p0.H != p1.H)) || (p0.Rail != p1.Rail))
    ·refine Tr.val (wg rfl rfl rfl) rfl (fun _ _ h1 h2 => run_fieldAddr fo_26_3 (h1.ev rfl)) ?_
     refine Tr.val (wg rfl rfl rfl) rfl (fun _ _ h1 h2 => run_load1 ag_3 (h1.ev rfl) (rdb h2 (vs := [(iv p0.W), (iv p0.H), (iv p0.Rail), (iv p0.Gap), (.slice Ap0_0 (p0.Kinds).length cp0_0), (.slice Ap0_1 (p0.Slots).length cp0_1), (.slice Ap0_2 (p0.Marks).length cp0_2)]) (k := 1) rfl 3) rfl) ?_
     refine Tr.val (wg rfl rfl rfl) rfl (fun _ _ h1 h2 => run_fieldAddr fo_26_3 (h1.ev rfl)) ?_
     refine Tr.val (wg rfl rfl rfl) rfl (fun _ _ h1 h2 => run_load1 ag_3 (h1.ev rfl) (rdb h2 (vs := [(iv p1.W), (iv p1.H), (iv p1.Rail), (iv p1.Gap), (.slice Ap1_0 (p1.Kinds).length cp1_0), (.slice Ap1_1 (p1.Slots).length cp1_1), (.slice Ap1_2 (p1.Marks).length cp1_2)]) (k := 2) rfl 3) rfl) ?_
     refine Tr.val (wg rfl rfl rfl) rfl (fun _ _ h1 h2 => run_neq (h1.ev rfl) (h1.ev rfl)) ?_
     refine Tr.va rfl (fun _ _ h1 h2 => run_pickF (h1.ev rfl) (h1.ev rfl)) ?_
     exact Tr.nil (Tr.fin0 (.cons rfl (.cons rfl (.cons rfl .nil))) (.cons rfl (.cons rfl .nil)))
    ·refine Tr.pass rfl rfl rfl rfl rfl (by decide) ?_
     refine Tr.pass rfl rfl rfl rfl rfl (by decide) ?_
     refine Tr.pass rfl rfl rfl rfl rfl (by decide) ?_
     refine Tr.pass rfl rfl rfl rfl rfl (by decide) ?_
     refine Tr.pass rfl rfl rfl rfl rfl (by decide) ?_
     refine Tr.va rfl (fun _ _ h1 h2 => run_pickT (h1.ev rfl) (h1.ev rfl)) ?_
     exact Tr.nil (Tr.fin0 (.cons rfl (.cons rfl (.cons rfl .nil))) (.cons rfl (.cons rfl .nil)))
   ·show Tr _ _ (LF [(2, (.pointer (some ⟨b100, 0, none⟩))), (3, (.pointer (some ⟨b101, 0, none⟩))), (33, (.bool ((((p0.W != p1.W) || (p0.H != p1.H)) || (p0.Rail != p1.Rail)) || (p0.Gap != p1.Gap))))]) (LE [(1, bx b100 #[(iv p0.W), (iv p0.H), (iv p0.Rail), (iv p0.Gap), (.slice Ap0_0 (p0.Kinds).length cp0_0), (.slice Ap0_1 (p0.Slots).length cp0_1), (.slice Ap0_2 (p0.Marks).length cp0_2)] 26), (2, bx b101 #[(iv p1.W), (iv p1.H), (iv p1.Rail), (iv p1.Gap), (.slice Ap1_0 (p1.Kinds).length cp1_0), (.slice Ap1_1 (p1.Slots).length cp1_1), (.slice Ap1_2 (p1.Marks).length cp1_2)] 26)]) _
    refine Tr.mv rfl rfl ?_
    refine Tr.mid0 8 [(2, (.pointer (some ⟨b100, 0, none⟩))), (3, (.pointer (some ⟨b101, 0, none⟩))), (42, (.bool (((((p0.W != p1.W) || (p0.H != p1.H)) || (p0.Rail != p1.Rail)) || (p0.Gap != p1.Gap)) || ((p0.Kinds.length : Int) != (p1.Kinds.length : Int)))))] [(1, bx b100 #[(iv p0.W), (iv p0.H), (iv p0.Rail), (iv p0.Gap), (.slice Ap0_0 (p0.Kinds).length cp0_0), (.slice Ap0_1 (p0.Slots).length cp0_1), (.slice Ap0_2 (p0.Marks).length cp0_2)] 26), (2, bx b101 #[(iv p1.W), (iv p1.H), (iv p1.Rail), (iv p1.Gap), (.slice Ap1_0 (p1.Kinds).length cp1_0), (.slice Ap1_1 (p1.Slots).length cp1_1), (.slice Ap1_2 (p1.Marks).length cp1_2)] 26)] ?_ ?_
    ·cases hg131 : ((((p0.W != p1.W) || (p0.H != p1.H)) || (p0.Rail != p1.Rail)) || (p0.Gap != p1.Gap))
     ·refine Tr.val (wg rfl rfl rfl) rfl (fun _ _ h1 h2 => run_fieldAddr fo_26_4 (h1.ev rfl)) ?_
      refine Tr.val (wg rfl rfl rfl) rfl (fun _ _ h1 h2 => run_load1 ag_22 (h1.ev rfl) (rdb h2 (vs := [(iv p0.W), (iv p0.H), (iv p0.Rail), (iv p0.Gap), (.slice Ap0_0 (p0.Kinds).length cp0_0), (.slice Ap0_1 (p0.Slots).length cp0_1), (.slice Ap0_2 (p0.Marks).length cp0_2)]) (k := 1) rfl 4) rfl) ?_
      refine Tr.val (wg rfl rfl rfl) rfl (fun _ _ h1 h2 => run_len un_22 (h1.ev rfl)) ?_
      refine Tr.val (wg rfl rfl rfl) rfl (fun _ _ h1 h2 => run_fieldAddr fo_26_4 (h1.ev rfl)) ?_
      refine Tr.val (wg rfl rfl rfl) rfl (fun _ _ h1 h2 => run_load1 ag_22 (h1.ev rfl) (rdb h2 (vs := [(iv p1.W), (iv p1.H), (iv p1.Rail), (iv p1.Gap), (.slice Ap1_0 (p1.Kinds).length cp1_0), (.slice Ap1_1 (p1.Slots).length cp1_1), (.slice Ap1_2 (p1.Marks).length cp1_2)]) (k := 2) rfl 4) rfl) ?_
      refine Tr.val (wg rfl rfl rfl) rfl (fun _ _ h1 h2 => run_len un_22 (h1.ev rfl)) ?_
      refine Tr.val (wg rfl rfl rfl) rfl (fun _ _ h1 h2 => run_neq (h1.ev rfl) (h1.ev rfl)) ?_
      refine Tr.va rfl (fun _ _ h1 h2 => run_pickF (h1.ev rfl) (h1.ev rfl)) ?_
      exact Tr.nil (Tr.fin0 (.cons rfl (.cons rfl (.cons rfl .nil))) (.cons rfl (.cons rfl .nil)))
     ·refine Tr.pass rfl rfl rfl rfl rfl (by decide) ?_
      refine Tr.pass rfl rfl rfl rfl rfl (by decide) ?_
      refine Tr.pass rfl rfl rfl rfl rfl (by decide) ?_
      refine Tr.pass rfl rfl rfl rfl rfl (by decide) ?_
      refine Tr.pass rfl rfl rfl rfl rfl (by decide) ?_
      refine Tr.pass rfl rfl rfl rfl rfl (by decide) ?_
      refine Tr.pass rfl rfl rfl rfl rfl (by decide) ?_
      refine Tr.va rfl (fun _ _ h1 h2 => run_pickT (h1.ev rfl) (h1.ev rfl)) ?_
      exact Tr.nil (Tr.fin0 (.cons rfl (.cons rfl (.cons rfl .nil))) (.cons rfl (.cons rfl .nil)))
    ·show Tr _ _ (LF [(2, (.pointer (some ⟨b100, 0, none⟩))), (3, (.pointer (some ⟨b101, 0, none⟩))), (42, (.bool (((((p0.W != p1.W) || (p0.H != p1.H)) || (p0.Rail != p1.Rail)) || (p0.Gap != p1.Gap)) || ((p0.Kinds.length : Int) != (p1.Kinds.length : Int)))))]) (LE [(1, bx b100 #[(iv p0.W), (iv p0.H), (iv p0.Rail), (iv p0.Gap), (.slice Ap0_0 (p0.Kinds).length cp0_0), (.slice Ap0_1 (p0.Slots).length cp0_1), (.slice Ap0_2 (p0.Marks).length cp0_2)] 26), (2, bx b101 #[(iv p1.W), (iv p1.H), (iv p1.Rail), (iv p1.Gap), (.slice Ap1_0 (p1.Kinds).length cp1_0), (.slice Ap1_1 (p1.Slots).length cp1_1), (.slice Ap1_2 (p1.Marks).length cp1_2)] 26)]) _
     refine Tr.mv rfl rfl ?_
     refine Tr.mid0 8 [(2, (.pointer (some ⟨b100, 0, none⟩))), (3, (.pointer (some ⟨b101, 0, none⟩))), (51, (.bool ((((((p0.W != p1.W) || (p0.H != p1.H)) || (p0.Rail != p1.Rail)) || (p0.Gap != p1.Gap)) || ((p0.Kinds.length : Int) != (p1.Kinds.length : Int))) || ((p0.Slots.length : Int) != (p1.Slots.length : Int)))))] [(1, bx b100 #[(iv p0.W), (iv p0.H), (iv p0.Rail), (iv p0.Gap), (.slice Ap0_0 (p0.Kinds).length cp0_0), (.slice Ap0_1 (p0.Slots).length cp0_1), (.slice Ap0_2 (p0.Marks).length cp0_2)] 26), (2, bx b101 #[(iv p1.W), (iv p1.H), (iv p1.Rail), (iv p1.Gap), (.slice Ap1_0 (p1.Kinds).length cp1_0), (.slice Ap1_1 (p1.Slots).length cp1_1), (.slice Ap1_2 (p1.Marks).length cp1_2)] 26)] ?_ ?_
     ·cases hg131 : (((((p0.W != p1.W) || (p0.H != p1.H)) || (p0.Rail != p1.Rail)) || (p0.Gap != p1.Gap)) || ((p0.Kinds.length : Int) != (p1.Kinds.length : Int)))
      ·refine Tr.val (wg rfl rfl rfl) rfl (fun _ _ h1 h2 => run_fieldAddr fo_26_5 (h1.ev rfl)) ?_
       refine Tr.val (wg rfl rfl rfl) rfl (fun _ _ h1 h2 => run_load1 ag_23 (h1.ev rfl) (rdb h2 (vs := [(iv p0.W), (iv p0.H), (iv p0.Rail), (iv p0.Gap), (.slice Ap0_0 (p0.Kinds).length cp0_0), (.slice Ap0_1 (p0.Slots).length cp0_1), (.slice Ap0_2 (p0.Marks).length cp0_2)]) (k := 1) rfl 5) rfl) ?_
       refine Tr.val (wg rfl rfl rfl) rfl (fun _ _ h1 h2 => run_len un_23 (h1.ev rfl)) ?_
       refine Tr.val (wg rfl rfl rfl) rfl (fun _ _ h1 h2 => run_fieldAddr fo_26_5 (h1.ev rfl)) ?_
       refine Tr.val (wg rfl rfl rfl) rfl (fun _ _ h1 h2 => run_load1 ag_23 (h1.ev rfl) (rdb h2 (vs := [(iv p1.W), (iv p1.H), (iv p1.Rail), (iv p1.Gap), (.slice Ap1_0 (p1.Kinds).length cp1_0), (.slice Ap1_1 (p1.Slots).length cp1_1), (.slice Ap1_2 (p1.Marks).length cp1_2)]) (k := 2) rfl 5) rfl) ?_
       refine Tr.val (wg rfl rfl rfl) rfl (fun _ _ h1 h2 => run_len un_23 (h1.ev rfl)) ?_
       refine Tr.val (wg rfl rfl rfl) rfl (fun _ _ h1 h2 => run_neq (h1.ev rfl) (h1.ev rfl)) ?_
       refine Tr.va rfl (fun _ _ h1 h2 => run_pickF (h1.ev rfl) (h1.ev rfl)) ?_
       exact Tr.nil (Tr.fin0 (.cons rfl (.cons rfl (.cons rfl .nil))) (.cons rfl (.cons rfl .nil)))
      ·refine Tr.pass rfl rfl rfl rfl rfl (by decide) ?_
       refine Tr.pass rfl rfl rfl rfl rfl (by decide) ?_
       refine Tr.pass rfl rfl rfl rfl rfl (by decide) ?_
       refine Tr.pass rfl rfl rfl rfl rfl (by decide) ?_
       refine Tr.pass rfl rfl rfl rfl rfl (by decide) ?_
       refine Tr.pass rfl rfl rfl rfl rfl (by decide) ?_
       refine Tr.pass rfl rfl rfl rfl rfl (by decide) ?_
       refine Tr.va rfl (fun _ _ h1 h2 => run_pickT (h1.ev rfl) (h1.ev rfl)) ?_
       exact Tr.nil (Tr.fin0 (.cons rfl (.cons rfl (.cons rfl .nil))) (.cons rfl (.cons rfl .nil)))
     ·show Tr _ _ (LF [(2, (.pointer (some ⟨b100, 0, none⟩))), (3, (.pointer (some ⟨b101, 0, none⟩))), (51, (.bool ((((((p0.W != p1.W) || (p0.H != p1.H)) || (p0.Rail != p1.Rail)) || (p0.Gap != p1.Gap)) || ((p0.Kinds.length : Int) != (p1.Kinds.length : Int))) || ((p0.Slots.length : Int) != (p1.Slots.length : Int)))))]) (LE [(1, bx b100 #[(iv p0.W), (iv p0.H), (iv p0.Rail), (iv p0.Gap), (.slice Ap0_0 (p0.Kinds).length cp0_0), (.slice Ap0_1 (p0.Slots).length cp0_1), (.slice Ap0_2 (p0.Marks).length cp0_2)] 26), (2, bx b101 #[(iv p1.W), (iv p1.H), (iv p1.Rail), (iv p1.Gap), (.slice Ap1_0 (p1.Kinds).length cp1_0), (.slice Ap1_1 (p1.Slots).length cp1_1), (.slice Ap1_2 (p1.Marks).length cp1_2)] 26)]) _
      refine Tr.mv rfl rfl ?_
      refine Tr.mid0 8 [(2, (.pointer (some ⟨b100, 0, none⟩))), (3, (.pointer (some ⟨b101, 0, none⟩))), (60, (.bool (((((((p0.W != p1.W) || (p0.H != p1.H)) || (p0.Rail != p1.Rail)) || (p0.Gap != p1.Gap)) || ((p0.Kinds.length : Int) != (p1.Kinds.length : Int))) || ((p0.Slots.length : Int) != (p1.Slots.length : Int))) || ((p0.Marks.length : Int) != (p1.Marks.length : Int)))))] [(1, bx b100 #[(iv p0.W), (iv p0.H), (iv p0.Rail), (iv p0.Gap), (.slice Ap0_0 (p0.Kinds).length cp0_0), (.slice Ap0_1 (p0.Slots).length cp0_1), (.slice Ap0_2 (p0.Marks).length cp0_2)] 26), (2, bx b101 #[(iv p1.W), (iv p1.H), (iv p1.Rail), (iv p1.Gap), (.slice Ap1_0 (p1.Kinds).length cp1_0), (.slice Ap1_1 (p1.Slots).length cp1_1), (.slice Ap1_2 (p1.Marks).length cp1_2)] 26)] ?_ ?_
      ·cases hg131 : ((((((p0.W != p1.W) || (p0.H != p1.H)) || (p0.Rail != p1.Rail)) || (p0.Gap != p1.Gap)) || ((p0.Kinds.length : Int) != (p1.Kinds.length : Int))) || ((p0.Slots.length : Int) != (p1.Slots.length : Int)))
       ·refine Tr.val (wg rfl rfl rfl) rfl (fun _ _ h1 h2 => run_fieldAddr fo_26_6 (h1.ev rfl)) ?_
        refine Tr.val (wg rfl rfl rfl) rfl (fun _ _ h1 h2 => run_load1 ag_24 (h1.ev rfl) (rdb h2 (vs := [(iv p0.W), (iv p0.H), (iv p0.Rail), (iv p0.Gap), (.slice Ap0_0 (p0.Kinds).length cp0_0), (.slice Ap0_1 (p0.Slots).length cp0_1), (.slice Ap0_2 (p0.Marks).length cp0_2)]) (k := 1) rfl 6) rfl) ?_
        refine Tr.val (wg rfl rfl rfl) rfl (fun _ _ h1 h2 => run_len un_24 (h1.ev rfl)) ?_
        refine Tr.val (wg rfl rfl rfl) rfl (fun _ _ h1 h2 => run_fieldAddr fo_26_6 (h1.ev rfl)) ?_
        refine Tr.val (wg rfl rfl rfl) rfl (fun _ _ h1 h2 => run_load1 ag_24 (h1.ev rfl) (rdb h2 (vs := [(iv p1.W), (iv p1.H), (iv p1.Rail), (iv p1.Gap), (.slice Ap1_0 (p1.Kinds).length cp1_0), (.slice Ap1_1 (p1.Slots).length cp1_1), (.slice Ap1_2 (p1.Marks).length cp1_2)]) (k := 2) rfl 6) rfl) ?_
        refine Tr.val (wg rfl rfl rfl) rfl (fun _ _ h1 h2 => run_len un_24 (h1.ev rfl)) ?_
        refine Tr.val (wg rfl rfl rfl) rfl (fun _ _ h1 h2 => run_neq (h1.ev rfl) (h1.ev rfl)) ?_
        refine Tr.va rfl (fun _ _ h1 h2 => run_pickF (h1.ev rfl) (h1.ev rfl)) ?_
        exact Tr.nil (Tr.fin0 (.cons rfl (.cons rfl (.cons rfl .nil))) (.cons rfl (.cons rfl .nil)))
       ·refine Tr.pass rfl rfl rfl rfl rfl (by decide) ?_
        refine Tr.pass rfl rfl rfl rfl rfl (by decide) ?_
        refine Tr.pass rfl rfl rfl rfl rfl (by decide) ?_
        refine Tr.pass rfl rfl rfl rfl rfl (by decide) ?_
        refine Tr.pass rfl rfl rfl rfl rfl (by decide) ?_
        refine Tr.pass rfl rfl rfl rfl rfl (by decide) ?_
        refine Tr.pass rfl rfl rfl rfl rfl (by decide) ?_
        refine Tr.va rfl (fun _ _ h1 h2 => run_pickT (h1.ev rfl) (h1.ev rfl)) ?_
        exact Tr.nil (Tr.fin0 (.cons rfl (.cons rfl (.cons rfl .nil))) (.cons rfl (.cons rfl .nil)))
      ·show Tr _ _ (LF [(2, (.pointer (some ⟨b100, 0, none⟩))), (3, (.pointer (some ⟨b101, 0, none⟩))), (60, (.bool (((((((p0.W != p1.W) || (p0.H != p1.H)) || (p0.Rail != p1.Rail)) || (p0.Gap != p1.Gap)) || ((p0.Kinds.length : Int) != (p1.Kinds.length : Int))) || ((p0.Slots.length : Int) != (p1.Slots.length : Int))) || ((p0.Marks.length : Int) != (p1.Marks.length : Int)))))]) (LE [(1, bx b100 #[(iv p0.W), (iv p0.H), (iv p0.Rail), (iv p0.Gap), (.slice Ap0_0 (p0.Kinds).length cp0_0), (.slice Ap0_1 (p0.Slots).length cp0_1), (.slice Ap0_2 (p0.Marks).length cp0_2)] 26), (2, bx b101 #[(iv p1.W), (iv p1.H), (iv p1.Rail), (iv p1.Gap), (.slice Ap1_0 (p1.Kinds).length cp1_0), (.slice Ap1_1 (p1.Slots).length cp1_1), (.slice Ap1_2 (p1.Marks).length cp1_2)] 26)]) _
       refine Tr.nil (Tr.normThen ?_)
       refine Tr.cond rfl H (fun H => ?_) (fun H => ?_)
       ·refine Tr.sr ?_
        refine Tr.asg rfl rfl ?_
        refine Tr.nil (Tr.normThen ?_)
        refine Tr.ret (Tr.retThen ?_)
        obtain rfl := Option.some.inj H
        exact Tr.out (m := [(.bool false)]) [] (res_tmp rfl res_nil) (fun W hW => ⟨rfl, hW.low leB⟩)
       ·refine Tr.skip (Tr.normThen ?_)
        refine Tr.seq ?_
        refine Tr.sr ?_
        refine Tr.asg rfl rfl ?_
        refine Tr.nil (Tr.normThen ?_)
        refine Tr.block ?_
        refine Tr.loop (σ := Int) (fun m w s => F_etchhouseref9_Same_L1 N p0 p1 m s = some r) (fun s => [(2, (.pointer (some ⟨b100, 0, none⟩))), (3, (.pointer (some ⟨b101, 0, none⟩))), (5, (iv s))]) (fun s => [(1, bx b100 #[(iv p0.W), (iv p0.H), (iv p0.Rail), (iv p0.Gap), (.slice Ap0_0 (p0.Kinds).length cp0_0), (.slice Ap0_1 (p0.Slots).length cp0_1), (.slice Ap0_2 (p0.Marks).length cp0_2)] 26), (2, bx b101 #[(iv p1.W), (iv p1.H), (iv p1.Rail), (iv p1.Gap), (.slice Ap1_0 (p1.Kinds).length cp1_0), (.slice Ap1_1 (p1.Slots).length cp1_1), (.slice Ap1_2 (p1.Marks).length cp1_2)] 26)]) N 0 H (.cons rfl (.cons rfl (.cons rfl .nil))) (.cons rfl (.cons rfl .nil)) (fun _ _ h => noSome (h)) ?_
        intro w leL1 mL1 x109 hs
        have H := hs
        replace H : F_etchhouseref9_Same_L1 N p0 p1 (mL1 + 1) x109 = some r := H
        replace hp0_0 := hp0_0.leR leL1
        replace hp0_1 := hp0_1.leR leL1
        replace hp0_2 := hp0_2.leR leL1
        replace hp1_0 := hp1_0.leR leL1
        replace hp1_1 := hp1_1.leR leL1
        replace hp1_2 := hp1_2.leR leL1
        replace leB := leB.trans leL1
        rw [F_etchhouseref9_Same_L1.eq_2] at H
        show Tr _ _ (LF [(2, (.pointer (some ⟨b100, 0, none⟩))), (3, (.pointer (some ⟨b101, 0, none⟩))), (5, (iv x109))]) (LE [(1, bx b100 #[(iv p0.W), (iv p0.H), (iv p0.Rail), (iv p0.Gap), (.slice Ap0_0 (p0.Kinds).length cp0_0), (.slice Ap0_1 (p0.Slots).length cp0_1), (.slice Ap0_2 (p0.Marks).length cp0_2)] 26), (2, bx b101 #[(iv p1.W), (iv p1.H), (iv p1.Rail), (iv p1.Gap), (.slice Ap1_0 (p1.Kinds).length cp1_0), (.slice Ap1_1 (p1.Slots).length cp1_1), (.slice Ap1_2 (p1.Marks).length cp1_2)] 26)]) _
        refine Tr.seq ?_
        refine Tr.sr ?_
        refine Tr.mv rfl rfl ?_
        refine Tr.va rfl (fun _ _ h1 h2 => run_fieldAddr fo_26_4 (h1.ev rfl)) ?_
        refine Tr.va rfl (fun _ _ h1 h2 => run_load1 ag_22 (h1.ev rfl) (rdb h2 (vs := [(iv p0.W), (iv p0.H), (iv p0.Rail), (iv p0.Gap), (.slice Ap0_0 (p0.Kinds).length cp0_0), (.slice Ap0_1 (p0.Slots).length cp0_1), (.slice Ap0_2 (p0.Marks).length cp0_2)]) (k := 1) rfl 4) rfl) ?_
        refine Tr.va rfl (fun _ _ h1 h2 => run_len un_22 (h1.ev rfl)) ?_
        refine Tr.va rfl (fun _ _ h1 h2 => run_lss (h1.ev rfl) (h1.ev rfl)) ?_
        refine Tr.nil (Tr.normThen ?_)
        refine Tr.cond rfl H (fun H => ?_) (fun H => ?_)
        ·refine Tr.skip (Tr.normThen ?_)
         refine Tr.seq ?_
         refine Tr.block ?_
         refine Tr.seq ?_
         refine Tr.draw (by kernel_rfl) (by kernel_rfl) ?_
         refine Tq.va rfl (fun _ _ h1 h2 => run_fieldAddr fo_26_4 (h1.ev rfl)) ?_
         refine Tq.va rfl (fun _ _ h1 h2 => run_load1 ag_22 (h1.ev rfl) (rdb h2 (vs := [(iv p0.W), (iv p0.H), (iv p0.Rail), (iv p0.Gap), (.slice Ap0_0 (p0.Kinds).length cp0_0), (.slice Ap0_1 (p0.Slots).length cp0_1), (.slice Ap0_2 (p0.Marks).length cp0_2)]) (k := 1) rfl 4) rfl) ?_
         refine Tq.mv rfl rfl ?_
         obtain ⟨x110, hx110, H⟩ := bnd H
         obtain ⟨hx1100, hx1101, hx1102⟩ := idx_some hx110
         refine Tq.va rfl (fun _ _ h1 h2 => run_indexAddr el_22 (h1.ev rfl) hp0_0.form (h1.ev rfl) hx1100 hx1101) ?_
         refine Tq.va rfl (fun _ _ h1 h2 => run_loadN (cs := [(sv x110.Name), (iv x110.W), (iv x110.H)]) ag_49 sz_49 (h1.ev rfl) (CellsAt.take (rdF ef_TBoardKind hp0_0 hx1102 h2) 3) rfl) ?_
         refine Tq.va rfl (fun _ _ h1 h2 => run_fieldAddr fo_26_4 (h1.ev rfl)) ?_
         refine Tq.va rfl (fun _ _ h1 h2 => run_load1 ag_22 (h1.ev rfl) (rdb h2 (vs := [(iv p1.W), (iv p1.H), (iv p1.Rail), (iv p1.Gap), (.slice Ap1_0 (p1.Kinds).length cp1_0), (.slice Ap1_1 (p1.Slots).length cp1_1), (.slice Ap1_2 (p1.Marks).length cp1_2)]) (k := 2) rfl 4) rfl) ?_
         refine Tq.mv rfl rfl ?_
         obtain ⟨x111, hx111, H⟩ := bnd H
         obtain ⟨hx1110, hx1111, hx1112⟩ := idx_some hx111
         refine Tq.va rfl (fun _ _ h1 h2 => run_indexAddr el_22 (h1.ev rfl) hp1_0.form (h1.ev rfl) hx1110 hx1111) ?_
         refine Tq.va rfl (fun _ _ h1 h2 => run_loadN (cs := [(sv x111.Name), (iv x111.W), (iv x111.H)]) ag_49 sz_49 (h1.ev rfl) (CellsAt.take (rdF ef_TBoardKind hp1_0 hx1112 h2) 3) rfl) ?_
         refine Tq.va rfl (fun _ _ h1 h2 => run_neq_49 x110 x111 (h1.ev rfl) (h1.ev rfl)) ?_
         refine Tq.nil (Tr.normThen ?_)
         refine Tr.cond rfl H (fun H => ?_) (fun H => ?_)
         ·refine Tr.sr ?_
          refine Tr.asg rfl rfl ?_
          refine Tr.nil (Tr.normThen ?_)
          refine Tr.ret (Tr.retBlock (Tr.retThen (Tr.retThen (Tr.retBlock (Tr.retThen ?_)))))
          obtain rfl := Option.some.inj H
          exact Tr.out (m := [(.bool false)]) [] (res_tmp rfl res_nil) (fun W hW => ⟨rfl, hW.low leB⟩)
         ·refine Tr.skip (Tr.normBlock (Tr.normThen ?_))
          refine Tr.region ?_
          refine Tr.mv rfl rfl ?_
          refine Tr.va rfl (fun _ _ h1 h2 => run_add (h1.ev rfl) (h1.ev rfl)) ?_
          refine Tr.asg rfl rfl ?_
          refine Tr.nil ?_
          exact Tr.backThen leL1 (w64 (x109 + 1)) H (.cons rfl (.cons rfl (.cons rfl .nil))) (.cons rfl (.cons rfl .nil))
        ·refine Tr.exit (Tr.exitThen (Tr.exitThen (Tr.exitBlock (Tr.normThen ?_))))
         refine Tr.seq ?_
         refine Tr.sr ?_
         refine Tr.asg rfl rfl ?_
         refine Tr.nil (Tr.normThen ?_)
         refine Tr.block ?_
         refine Tr.loop (σ := Int) (fun m w s => F_etchhouseref9_Same_L2 N p0 p1 m s = some r) (fun s => [(2, (.pointer (some ⟨b100, 0, none⟩))), (3, (.pointer (some ⟨b101, 0, none⟩))), (6, (iv s))]) (fun s => [(1, bx b100 #[(iv p0.W), (iv p0.H), (iv p0.Rail), (iv p0.Gap), (.slice Ap0_0 (p0.Kinds).length cp0_0), (.slice Ap0_1 (p0.Slots).length cp0_1), (.slice Ap0_2 (p0.Marks).length cp0_2)] 26), (2, bx b101 #[(iv p1.W), (iv p1.H), (iv p1.Rail), (iv p1.Gap), (.slice Ap1_0 (p1.Kinds).length cp1_0), (.slice Ap1_1 (p1.Slots).length cp1_1), (.slice Ap1_2 (p1.Marks).length cp1_2)] 26)]) N 0 H (.cons rfl (.cons rfl (.cons rfl .nil))) (.cons rfl (.cons rfl .nil)) (fun _ _ h => noSome (h)) ?_
         intro w leL2 mL2 x119 hs
         have H := hs
         replace H : F_etchhouseref9_Same_L2 N p0 p1 (mL2 + 1) x119 = some r := H
         replace hp0_0 := hp0_0.leR leL2
         replace hp0_1 := hp0_1.leR leL2
         replace hp0_2 := hp0_2.leR leL2
         replace hp1_0 := hp1_0.leR leL2
         replace hp1_1 := hp1_1.leR leL2
         replace hp1_2 := hp1_2.leR leL2
         replace leB := leB.trans leL2
         replace leL1 := leL1.trans leL2
         rw [F_etchhouseref9_Same_L2.eq_2] at H
         show Tr _ _ (LF [(2, (.pointer (some ⟨b100, 0, none⟩))), (3, (.pointer (some ⟨b101, 0, none⟩))), (6, (iv x119))]) (LE [(1, bx b100 #[(iv p0.W), (iv p0.H), (iv p0.Rail), (iv p0.Gap), (.slice Ap0_0 (p0.Kinds).length cp0_0), (.slice Ap0_1 (p0.Slots).length cp0_1), (.slice Ap0_2 (p0.Marks).length cp0_2)] 26), (2, bx b101 #[(iv p1.W), (iv p1.H), (iv p1.Rail), (iv p1.Gap), (.slice Ap1_0 (p1.Kinds).length cp1_0), (.slice Ap1_1 (p1.Slots).length cp1_1), (.slice Ap1_2 (p1.Marks).length cp1_2)] 26)]) _
         refine Tr.seq ?_
         refine Tr.sr ?_
         refine Tr.mv rfl rfl ?_
         refine Tr.va rfl (fun _ _ h1 h2 => run_fieldAddr fo_26_5 (h1.ev rfl)) ?_
         refine Tr.va rfl (fun _ _ h1 h2 => run_load1 ag_23 (h1.ev rfl) (rdb h2 (vs := [(iv p0.W), (iv p0.H), (iv p0.Rail), (iv p0.Gap), (.slice Ap0_0 (p0.Kinds).length cp0_0), (.slice Ap0_1 (p0.Slots).length cp0_1), (.slice Ap0_2 (p0.Marks).length cp0_2)]) (k := 1) rfl 5) rfl) ?_
         refine Tr.va rfl (fun _ _ h1 h2 => run_len un_23 (h1.ev rfl)) ?_
         refine Tr.va rfl (fun _ _ h1 h2 => run_lss (h1.ev rfl) (h1.ev rfl)) ?_
         refine Tr.nil (Tr.normThen ?_)
         refine Tr.cond rfl H (fun H => ?_) (fun H => ?_)
         ·refine Tr.skip (Tr.normThen ?_)
          refine Tr.seq ?_
          refine Tr.block ?_
          refine Tr.seq ?_
          refine Tr.draw (by kernel_rfl) (by kernel_rfl) ?_
          refine Tq.va rfl (fun _ _ h1 h2 => run_fieldAddr fo_26_5 (h1.ev rfl)) ?_
          refine Tq.va rfl (fun _ _ h1 h2 => run_load1 ag_23 (h1.ev rfl) (rdb h2 (vs := [(iv p0.W), (iv p0.H), (iv p0.Rail), (iv p0.Gap), (.slice Ap0_0 (p0.Kinds).length cp0_0), (.slice Ap0_1 (p0.Slots).length cp0_1), (.slice Ap0_2 (p0.Marks).length cp0_2)]) (k := 1) rfl 5) rfl) ?_
          refine Tq.mv rfl rfl ?_
          obtain ⟨x120, hx120, H⟩ := bnd H
          obtain ⟨hx1200, hx1201, hx1202⟩ := idx_some hx120
          refine Tq.va rfl (fun _ _ h1 h2 => run_indexAddr el_23 (h1.ev rfl) hp0_1.form (h1.ev rfl) hx1200 hx1201) ?_
          refine Tq.va rfl (fun _ _ h1 h2 => run_loadN (cs := [(sv x120.Board), (iv x120.Quarters), (iv x120.At.X), (iv x120.At.Y)]) ag_53 sz_53 (h1.ev rfl) (CellsAt.take (rdF ef_TSlot hp0_1 hx1202 h2) 4) rfl) ?_
          refine Tq.va rfl (fun _ _ h1 h2 => run_fieldAddr fo_26_5 (h1.ev rfl)) ?_
          refine Tq.va rfl (fun _ _ h1 h2 => run_load1 ag_23 (h1.ev rfl) (rdb h2 (vs := [(iv p1.W), (iv p1.H), (iv p1.Rail), (iv p1.Gap), (.slice Ap1_0 (p1.Kinds).length cp1_0), (.slice Ap1_1 (p1.Slots).length cp1_1), (.slice Ap1_2 (p1.Marks).length cp1_2)]) (k := 2) rfl 5) rfl) ?_
          refine Tq.mv rfl rfl ?_
          obtain ⟨x121, hx121, H⟩ := bnd H
          obtain ⟨hx1210, hx1211, hx1212⟩ := idx_some hx121
          refine Tq.va rfl (fun _ _ h1 h2 => run_indexAddr el_23 (h1.ev rfl) hp1_1.form (h1.ev rfl) hx1210 hx1211) ?_
          refine Tq.va rfl (fun _ _ h1 h2 => run_loadN (cs := [(sv x121.Board), (iv x121.Quarters), (iv x121.At.X), (iv x121.At.Y)]) ag_53 sz_53 (h1.ev rfl) (CellsAt.take (rdF ef_TSlot hp1_1 hx1212 h2) 4) rfl) ?_
          refine Tq.va rfl (fun _ _ h1 h2 => run_neq_53 x120 x121 (h1.ev rfl) (h1.ev rfl)) ?_
          refine Tq.nil (Tr.normThen ?_)
          refine Tr.cond rfl H (fun H => ?_) (fun H => ?_)
          ·refine Tr.sr ?_
           refine Tr.asg rfl rfl ?_
           refine Tr.nil (Tr.normThen ?_)
           refine Tr.ret (Tr.retBlock (Tr.retThen (Tr.retThen (Tr.retBlock (Tr.retThen ?_)))))
           obtain rfl := Option.some.inj H
           exact Tr.out (m := [(.bool false)]) [] (res_tmp rfl res_nil) (fun W hW => ⟨rfl, hW.low leB⟩)
          ·refine Tr.skip (Tr.normBlock (Tr.normThen ?_))
           refine Tr.region ?_
           refine Tr.mv rfl rfl ?_
           refine Tr.va rfl (fun _ _ h1 h2 => run_add (h1.ev rfl) (h1.ev rfl)) ?_
           refine Tr.asg rfl rfl ?_
           refine Tr.nil ?_
           exact Tr.backThen leL2 (w64 (x119 + 1)) H (.cons rfl (.cons rfl (.cons rfl .nil))) (.cons rfl (.cons rfl .nil))
         ·refine Tr.exit (Tr.exitThen (Tr.exitThen (Tr.exitBlock (Tr.normThen ?_))))
          refine Tr.seq ?_
          refine Tr.sr ?_
          refine Tr.asg rfl rfl ?_
          refine Tr.nil (Tr.normThen ?_)
          refine Tr.block ?_
          refine Tr.loop (σ := Int) (fun m w s => F_etchhouseref9_Same_L3 p0 p1 m s = some r) (fun s => [(2, (.pointer (some ⟨b100, 0, none⟩))), (3, (.pointer (some ⟨b101, 0, none⟩))), (7, (iv s))]) (fun s => [(1, bx b100 #[(iv p0.W), (iv p0.H), (iv p0.Rail), (iv p0.Gap), (.slice Ap0_0 (p0.Kinds).length cp0_0), (.slice Ap0_1 (p0.Slots).length cp0_1), (.slice Ap0_2 (p0.Marks).length cp0_2)] 26), (2, bx b101 #[(iv p1.W), (iv p1.H), (iv p1.Rail), (iv p1.Gap), (.slice Ap1_0 (p1.Kinds).length cp1_0), (.slice Ap1_1 (p1.Slots).length cp1_1), (.slice Ap1_2 (p1.Marks).length cp1_2)] 26)]) N 0 H (.cons rfl (.cons rfl (.cons rfl .nil))) (.cons rfl (.cons rfl .nil)) (fun _ _ h => noSome (h)) ?_
          intro w leL3 mL3 x129 hs
          have H := hs
          replace H : F_etchhouseref9_Same_L3 p0 p1 (mL3 + 1) x129 = some r := H
          replace hp0_0 := hp0_0.leR leL3
          replace hp0_1 := hp0_1.leR leL3
          replace hp0_2 := hp0_2.leR leL3
          replace hp1_0 := hp1_0.leR leL3
          replace hp1_1 := hp1_1.leR leL3
          replace hp1_2 := hp1_2.leR leL3
          replace leB := leB.trans leL3
          replace leL1 := leL1.trans leL3
          replace leL2 := leL2.trans leL3
          rw [F_etchhouseref9_Same_L3.eq_2] at H
          show Tr _ _ (LF [(2, (.pointer (some ⟨b100, 0, none⟩))), (3, (.pointer (some ⟨b101, 0, none⟩))), (7, (iv x129))]) (LE [(1, bx b100 #[(iv p0.W), (iv p0.H), (iv p0.Rail), (iv p0.Gap), (.slice Ap0_0 (p0.Kinds).length cp0_0), (.slice Ap0_1 (p0.Slots).length cp0_1), (.slice Ap0_2 (p0.Marks).length cp0_2)] 26), (2, bx b101 #[(iv p1.W), (iv p1.H), (iv p1.Rail), (iv p1.Gap), (.slice Ap1_0 (p1.Kinds).length cp1_0), (.slice Ap1_1 (p1.Slots).length cp1_1), (.slice Ap1_2 (p1.Marks).length cp1_2)] 26)]) _
          refine Tr.seq ?_
          refine Tr.sr ?_
          refine Tr.mv rfl rfl ?_
          refine Tr.va rfl (fun _ _ h1 h2 => run_fieldAddr fo_26_6 (h1.ev rfl)) ?_
          refine Tr.va rfl (fun _ _ h1 h2 => run_load1 ag_24 (h1.ev rfl) (rdb h2 (vs := [(iv p0.W), (iv p0.H), (iv p0.Rail), (iv p0.Gap), (.slice Ap0_0 (p0.Kinds).length cp0_0), (.slice Ap0_1 (p0.Slots).length cp0_1), (.slice Ap0_2 (p0.Marks).length cp0_2)]) (k := 1) rfl 6) rfl) ?_
          refine Tr.va rfl (fun _ _ h1 h2 => run_len un_24 (h1.ev rfl)) ?_
          refine Tr.va rfl (fun _ _ h1 h2 => run_lss (h1.ev rfl) (h1.ev rfl)) ?_
          refine Tr.nil (Tr.normThen ?_)
          refine Tr.cond rfl H (fun H => ?_) (fun H => ?_)
          ·refine Tr.skip (Tr.normThen ?_)
           refine Tr.seq ?_
           refine Tr.block ?_
           refine Tr.seq ?_
           refine Tr.draw (by kernel_rfl) (by kernel_rfl) ?_
           refine Tq.va rfl (fun _ _ h1 h2 => run_fieldAddr fo_26_6 (h1.ev rfl)) ?_
           refine Tq.va rfl (fun _ _ h1 h2 => run_load1 ag_24 (h1.ev rfl) (rdb h2 (vs := [(iv p0.W), (iv p0.H), (iv p0.Rail), (iv p0.Gap), (.slice Ap0_0 (p0.Kinds).length cp0_0), (.slice Ap0_1 (p0.Slots).length cp0_1), (.slice Ap0_2 (p0.Marks).length cp0_2)]) (k := 1) rfl 6) rfl) ?_
           refine Tq.mv rfl rfl ?_
           obtain ⟨x130, hx130, H⟩ := bnd H
           obtain ⟨hx1300, hx1301, hx1302⟩ := idx_some hx130
           refine Tq.va rfl (fun _ _ h1 h2 => run_indexAddr el_24 (h1.ev rfl) hp0_2.form (h1.ev rfl) hx1300 hx1301) ?_
           refine Tq.va rfl (fun _ _ h1 h2 => run_loadN (cs := [(iv x130.X), (iv x130.Y)]) ag_51 sz_51 (h1.ev rfl) (CellsAt.take (rdF ef_TPoint hp0_2 hx1302 h2) 2) rfl) ?_
           refine Tq.va rfl (fun _ _ h1 h2 => run_fieldAddr fo_26_6 (h1.ev rfl)) ?_
           refine Tq.va rfl (fun _ _ h1 h2 => run_load1 ag_24 (h1.ev rfl) (rdb h2 (vs := [(iv p1.W), (iv p1.H), (iv p1.Rail), (iv p1.Gap), (.slice Ap1_0 (p1.Kinds).length cp1_0), (.slice Ap1_1 (p1.Slots).length cp1_1), (.slice Ap1_2 (p1.Marks).length cp1_2)]) (k := 2) rfl 6) rfl) ?_
           refine Tq.mv rfl rfl ?_
           obtain ⟨x131, hx131, H⟩ := bnd H
           obtain ⟨hx1310, hx1311, hx1312⟩ := idx_some hx131
           refine Tq.va rfl (fun _ _ h1 h2 => run_indexAddr el_24 (h1.ev rfl) hp1_2.form (h1.ev rfl) hx1310 hx1311) ?_
           refine Tq.va rfl (fun _ _ h1 h2 => run_loadN (cs := [(iv x131.X), (iv x131.Y)]) ag_51 sz_51 (h1.ev rfl) (CellsAt.take (rdF ef_TPoint hp1_2 hx1312 h2) 2) rfl) ?_
           refine Tq.va rfl (fun _ _ h1 h2 => run_neq_51 x130 x131 (h1.ev rfl) (h1.ev rfl)) ?_
           refine Tq.nil (Tr.normThen ?_)
           refine Tr.cond rfl H (fun H => ?_) (fun H => ?_)
           ·refine Tr.sr ?_
            refine Tr.asg rfl rfl ?_
            refine Tr.nil (Tr.normThen ?_)
            refine Tr.ret (Tr.retBlock (Tr.retThen (Tr.retThen (Tr.retBlock (Tr.retThen ?_)))))
            obtain rfl := Option.some.inj H
            exact Tr.out (m := [(.bool false)]) [] (res_tmp rfl res_nil) (fun W hW => ⟨rfl, hW.low leB⟩)
           ·refine Tr.skip (Tr.normBlock (Tr.normThen ?_))
            refine Tr.region ?_
            refine Tr.mv rfl rfl ?_
            refine Tr.va rfl (fun _ _ h1 h2 => run_add (h1.ev rfl) (h1.ev rfl)) ?_
            refine Tr.asg rfl rfl ?_
            refine Tr.nil ?_
            exact Tr.backThen leL3 (w64 (x129 + 1)) H (.cons rfl (.cons rfl (.cons rfl .nil))) (.cons rfl (.cons rfl .nil))
          ·refine Tr.exit (Tr.exitThen (Tr.exitThen (Tr.exitBlock (Tr.normThen ?_))))
           refine Tr.sr ?_
           refine Tr.asg rfl rfl ?_
           refine Tr.nil (Tr.normThen ?_)
           refine Tr.ret ?_
           obtain rfl := Option.some.inj H
           exact Tr.out (m := [(.bool true)]) [] (res_tmp rfl res_nil) (fun W hW => ⟨rfl, hW.low leB⟩)

theorem F_shape_AreaOf_ok {w : Bs} (p0 : (List TRect)) (Ap0_0 : Option Addr) (cp0_0 : Nat) (hp0_0 : Sl w.R w.W fl_TRect Ap0_0 cp0_0 p0) (r : Int) (H : F_shape_AreaOf p0 = some r) (hE : HF w w.W E0) : Calls Tryz.prog 34 [(.slice Ap0_0 (p0).length cp0_0)].toArray w.W fun e W' => e = .returned (iv r) ∧ HF w W' E0 := by
 unfold F_shape_AreaOf at H
 have leB := Bs.Le.refl w
 refine Tr.enter (n := 27) Tryz.func34 rfl rfl rfl hE ?_
 refine Tr.sr ?_
 refine Tr.asg rfl rfl ?_
 refine Tr.nil (Tr.normThen ?_)
 refine Tr.sr ?_
 refine Tr.asg rfl rfl ?_
 refine Tr.nil (Tr.normThen ?_)
 refine Tr.seq ?_
 refine Tr.sr ?_
 refine Tr.mv rfl rfl ?_
 refine Tr.va rfl (fun _ _ h1 h2 => run_len un_66 (h1.ev rfl)) ?_
 refine Tr.mv rfl rfl ?_
 refine Tr.nil (Tr.normThen ?_)
 refine Tr.block ?_
 refine Tr.loop (σ := (List TRect) × Nat × Int) (fun m w s => m = s.1.length + 1 ∧ s.1 = List.drop s.2.1 p0 ∧ s.2.1 ≤ p0.length ∧ F_shape_AreaOf_L1 s.1 s.2.1 s.2.2 = some r) (fun s => [(3, (iv s.2.2)), (6, (.slice Ap0_0 (p0).length cp0_0)), (7, (iv (p0.length : Int))), (8, (iv (s.2.1 : Int)))]) (fun s => []) (p0.length + 1) (p0, 0, 0) ⟨rfl, rfl, Nat.zero_le _, H⟩ (.cons rfl (.cons rfl (.cons rfl (.cons rfl .nil)))) .nil (fun _ _ h => absurd h.1 (by simp)) ?_
 intro w leL1 m s hs
 obtain ⟨restL1, iL1, x110⟩ := s
 obtain ⟨hmL1, hdL1, hiL1, H⟩ := hs
 replace hdL1 : restL1 = List.drop iL1 p0 := hdL1
 replace H : F_shape_AreaOf_L1 restL1 iL1 x110 = some r := H
 replace hmL1 : m + 1 = restL1.length + 1 := hmL1
 replace hp0_0 := hp0_0.leR leL1
 replace leB := leB.trans leL1
 obtain rfl : m = restL1.length := by omega
 clear hmL1
 show Tr _ _ (LF [(3, (iv x110)), (6, (.slice Ap0_0 (p0).length cp0_0)), (7, (iv (p0.length : Int))), (8, (iv (iL1 : Int)))]) (LE []) _
 cases restL1 with
 | nil =>
  rw [F_shape_AreaOf_L1.eq_1] at H
  refine Tr.sr ?_
  refine Tr.va rfl (fun _ _ h1 h2 => run_lss (h1.ev rfl) (h1.ev rfl)) ?_
  refine Tr.nil (Tr.normThen ?_)
  refine Tr.seq ?_
  refine Tr.condF rfl (range_nil hdL1) ?_
  refine Tr.exit (Tr.exitThen (Tr.exitThen (Tr.exitBlock (Tr.normThen ?_))))
  refine Tr.sr ?_
  refine Tr.mv rfl rfl ?_
  refine Tr.asg rfl rfl ?_
  refine Tr.nil (Tr.normThen ?_)
  refine Tr.ret ?_
  obtain rfl := Option.some.inj H
  exact Tr.out (m := [(iv x110)]) [] (res_tmp rfl res_nil) (fun W hW => ⟨rfl, hW.low leB⟩)
 | cons xL1 restL1 =>
  rw [F_shape_AreaOf_L1.eq_2] at H
  refine Tr.sr ?_
  refine Tr.va rfl (fun _ _ h1 h2 => run_lss (h1.ev rfl) (h1.ev rfl)) ?_
  refine Tr.nil (Tr.normThen ?_)
  refine Tr.seq ?_
  refine Tr.condT rfl (range_on hdL1) ?_
  refine Tr.skip (Tr.normThen ?_)
  refine Tr.seq ?_
  refine Tr.block ?_
  refine Tr.sr ?_
  refine Tr.va rfl (fun _ _ h1 h2 => run_indexAddr el_66 (h1.ev rfl) hp0_0.form (h1.ev rfl) (Int.natCast_nonneg _) (range_lt hdL1)) ?_
  refine Tr.va rfl (fun _ _ h1 h2 => run_loadN (cs := [(iv xL1.X0), (iv xL1.Y0), (iv xL1.X1), (iv xL1.Y1)]) ag_86 sz_86 (h1.ev rfl) (CellsAt.take (rdF ef_TRect hp0_0 (range_at hdL1) h2) 4) rfl) ?_
  refine Tr.alloc 3 (wn rfl) rfl ze_86 fun b111 => ?_
  refine Tr.store 3 (cs := [(iv xL1.X0), (iv xL1.Y0), (iv xL1.X1), (iv xL1.Y1)]) [(iv xL1.X0), (iv xL1.Y0), (iv xL1.X1), (iv xL1.Y1)] (wn rfl) rfl rfl rfl rfl sz_86 rfl rfl rfl ?_
  refine Tr.nil (Tr.normThen ?_)
  refine Tr.region ?_
  refine Tr.mv rfl rfl ?_
  refine Tr.va rfl (fun _ _ h1 h2 => run_fieldAddr fo_86_2 (h1.ev rfl)) ?_
  refine Tr.va rfl (fun _ _ h1 h2 => run_load1 ag_3 (h1.ev rfl) (rdb h2 (vs := [(iv xL1.X0), (iv xL1.Y0), (iv xL1.X1), (iv xL1.Y1)]) (k := 3) rfl 2) rfl) ?_
  refine Tr.va rfl (fun _ _ h1 h2 => run_fieldAddr fo_86_0 (h1.ev rfl)) ?_
  refine Tr.va rfl (fun _ _ h1 h2 => run_load1 ag_3 (h1.ev rfl) (rdb h2 (vs := [(iv xL1.X0), (iv xL1.Y0), (iv xL1.X1), (iv xL1.Y1)]) (k := 3) rfl 0) rfl) ?_
  refine Tr.va rfl (fun _ _ h1 h2 => run_sub (h1.ev rfl) (h1.ev rfl)) ?_
  refine Tr.va rfl (fun _ _ h1 h2 => run_fieldAddr fo_86_3 (h1.ev rfl)) ?_
  refine Tr.va rfl (fun _ _ h1 h2 => run_load1 ag_3 (h1.ev rfl) (rdb h2 (vs := [(iv xL1.X0), (iv xL1.Y0), (iv xL1.X1), (iv xL1.Y1)]) (k := 3) rfl 3) rfl) ?_
  refine Tr.va rfl (fun _ _ h1 h2 => run_fieldAddr fo_86_1 (h1.ev rfl)) ?_
  refine Tr.va rfl (fun _ _ h1 h2 => run_load1 ag_3 (h1.ev rfl) (rdb h2 (vs := [(iv xL1.X0), (iv xL1.Y0), (iv xL1.X1), (iv xL1.Y1)]) (k := 3) rfl 1) rfl) ?_
  refine Tr.va rfl (fun _ _ h1 h2 => run_sub (h1.ev rfl) (h1.ev rfl)) ?_
  refine Tr.va rfl (fun _ _ h1 h2 => run_mul (h1.ev rfl) (h1.ev rfl)) ?_
  refine Tr.va rfl (fun _ _ h1 h2 => run_add (h1.ev rfl) (h1.ev rfl)) ?_
  refine Tr.asg rfl rfl ?_
  refine Tr.nil (Tr.normBlock (Tr.normThen ?_))
  refine Tr.region ?_
  refine Tr.va rfl (fun _ _ h1 h2 => run_add (h1.ev rfl) (h1.ev rfl)) ?_
  refine Tr.mv rfl rfl ?_
  refine Tr.nil ?_
  exact Tr.backThen leL1 (restL1, (iL1 + 1), (w64 (x110 + (w64 ((w64 (xL1.X1 - xL1.X0)) * (w64 (xL1.Y1 - xL1.Y0))))))) ⟨rfl, range_tl hdL1, range_lt hdL1, H⟩ (.cons rfl (.cons rfl (.cons rfl (.cons (congrArg (fun z => some (Value.int .i64 z)) (range_up hdL1 hp0_0.form)) .nil)))) .nil

theorem F_panel_Lowest_ok (N : Nat) {w : Bs} (p0 : Int) (p1 : Int) (r : TShare) (H : F_panel_Lowest N p0 p1 = some r) (hE : HF w w.W E0) : Calls Tryz.prog 33 [(iv p0), (iv p1)].toArray w.W fun e W' => e = .returned (.agg #[(iv r.Num), (iv r.Den)]) ∧ HF w W' E0 := by
 unfold F_panel_Lowest at H
 have leB := Bs.Le.refl w
 refine Tr.enter (n := 22) Tryz.func33 rfl rfl rfl hE ?_
 refine Tr.sr ?_
 refine Tr.alloc 1 (wn rfl) rfl ze_60 fun b100 => ?_
 refine Tr.nil (Tr.normThen ?_)
 refine Tr.sr ?_
 refine Tr.mv rfl rfl ?_
 refine Tr.mv rfl rfl ?_
 refine Tr.asg rfl rfl ?_
 refine Tr.asg rfl rfl ?_
 refine Tr.nil (Tr.normThen ?_)
 refine Tr.seq ?_
 refine Tr.block ?_
 refine Tr.loop (σ := Int × Int) (fun m w s => F_panel_Lowest_L1 p0 p1 m s.1 s.2 = some r) (fun s => [(0, (iv p0)), (1, (iv p1)), (4, (.pointer (some ⟨b100, 0, none⟩))), (5, (iv s.1)), (6, (iv s.2))]) (fun s => [(1, bx b100 #[(iv 0), (iv 0)] 60)]) N (p0, p1) H (.cons rfl (.cons rfl (.cons rfl (.cons rfl (.cons rfl .nil))))) (.cons rfl .nil) (fun _ _ h => noSome (h)) ?_
 intro w leL1 mL1 s hs
 obtain ⟨x109, x110⟩ := s
 have H := hs
 replace H : F_panel_Lowest_L1 p0 p1 (mL1 + 1) x109 x110 = some r := H
 replace leB := leB.trans leL1
 rw [F_panel_Lowest_L1.eq_2] at H
 show Tr _ _ (LF [(0, (iv p0)), (1, (iv p1)), (4, (.pointer (some ⟨b100, 0, none⟩))), (5, (iv x109)), (6, (iv x110))]) (LE [(1, bx b100 #[(iv 0), (iv 0)] 60)]) _
 refine Tr.seq ?_
 refine Tr.sr ?_
 refine Tr.mv rfl rfl ?_
 refine Tr.va rfl (fun _ _ h1 h2 => run_neq (h1.ev rfl) (h1.ev rfl)) ?_
 refine Tr.nil (Tr.normThen ?_)
 refine Tr.cond rfl H (fun H => ?_) (fun H => ?_)
 ·refine Tr.skip (Tr.normThen ?_)
  refine Tr.block ?_
  refine Tr.draw (by kernel_rfl) (by kernel_rfl) ?_
  refine Tq.mv rfl rfl ?_
  refine Tq.mv rfl rfl ?_
  refine Tq.mv rfl rfl ?_
  obtain ⟨q111, hq111, H⟩ := bnd H
  refine Tq.va rfl (fun _ _ h1 h2 => run_md (h1.ev rfl) (h1.ev rfl) hq111) ?_
  refine Tq.asg rfl rfl ?_
  refine Tq.asg rfl rfl ?_
  refine Tq.nil (Tr.normBlock ?_)
  exact Tr.backThen leL1 (x110, q111) H (.cons rfl (.cons rfl (.cons rfl (.cons rfl (.cons rfl .nil))))) (.cons rfl .nil)
 ·refine Tr.exit (Tr.exitThen (Tr.exitThen (Tr.exitBlock (Tr.normThen ?_))))
  refine Tr.seq ?_
  refine Tr.drawTail 6 (by kernel_rfl) (by kernel_rfl) ?_
  refine Tq.mv rfl rfl ?_
  refine Tq.mv rfl rfl ?_
  obtain ⟨q112, hq112, H⟩ := bnd H
  refine Tq.va rfl (fun _ _ h1 h2 => run_dv (h1.ev rfl) (h1.ev rfl) hq112) ?_
  refine Tq.mv rfl rfl ?_
  refine Tq.mv rfl rfl ?_
  obtain ⟨q113, hq113, H⟩ := bnd H
  refine Tq.va rfl (fun _ _ h1 h2 => run_dv (h1.ev rfl) (h1.ev rfl) hq113) ?_
  refine Tq.nil ?_
  refine Tr.build (vs := [(0, (iv q112)), (1, (iv q113))]) (cs := [(iv q112), (iv q113)]) (wn rfl) rfl (evs_cons rfl (evs_cons rfl evs_nil)) (by kernel_rfl) ?_
  refine Tr.store 1 (cs := [(iv q112), (iv q113)]) [(iv q112), (iv q113)] (wn rfl) rfl rfl rfl rfl sz_60 rfl rfl rfl ?_
  refine Tr.nil (Tr.normThen ?_)
  refine Tr.ret ?_
  obtain rfl := Option.some.inj H
  exact Tr.out (m := [(.agg #[(iv q112), (iv q113)])]) [1] (res_cell rfl rfl ag_60 sz_60 res_nil) (fun W hW => ⟨rfl, hW.low leB⟩)

theorem F_panel_Use_ok (N : Nat) {w : Bs} (p0 : TPanel) (Ap0_0 : Option Addr) (cp0_0 : Nat) (hp0_0 : Sl w.R w.W fl_TBoardKind Ap0_0 cp0_0 p0.Kinds) (Ap0_1 : Option Addr) (cp0_1 : Nat) (hp0_1 : Sl w.R w.W fl_TSlot Ap0_1 cp0_1 p0.Slots) (Ap0_2 : Option Addr) (cp0_2 : Nat) (hp0_2 : Sl w.R w.W fl_TPoint Ap0_2 cp0_2 p0.Marks) (r : (TShare × Int)) (H : F_panel_Use N p0 = some r) (hE : HF w w.W E0) : Calls Tryz.prog 19 [(.agg #[(iv p0.W), (iv p0.H), (iv p0.Rail), (iv p0.Gap), (.slice Ap0_0 (p0.Kinds).length cp0_0), (.slice Ap0_1 (p0.Slots).length cp0_1), (.slice Ap0_2 (p0.Marks).length cp0_2)])].toArray w.W fun e W' => e = .returned (.tuple #[(.agg #[(iv r.1.Num), (iv r.1.Den)]), (iv r.2)]) ∧ HF w W' E0 := by
 unfold F_panel_Use at H
 have leB := Bs.Le.refl w
 refine Tr.enter (n := 23) Tryz.func19 rfl rfl rfl hE ?_
 refine Tr.sr ?_
 refine Tr.box 1 (cs := [(iv p0.W), (iv p0.H), (iv p0.Rail), (iv p0.Gap), (.slice Ap0_0 (p0.Kinds).length cp0_0), (.slice Ap0_1 (p0.Slots).length cp0_1), (.slice Ap0_2 (p0.Marks).length cp0_2)]) (wn rfl) rfl rfl rfl fun b100 => ?_
 refine Tr.alloc 2 (wn rfl) rfl ze_60 fun b101 => ?_
 refine Tr.asg rfl rfl ?_
 refine Tr.nil (Tr.normThen ?_)
 refine Tr.sr ?_
 refine Tr.va rfl (fun _ _ h1 h2 => run_loadN (cs := [(iv p0.W), (iv p0.H), (iv p0.Rail), (iv p0.Gap), (.slice Ap0_0 (p0.Kinds).length cp0_0), (.slice Ap0_1 (p0.Slots).length cp0_1), (.slice Ap0_2 (p0.Marks).length cp0_2)]) ag_26 sz_26 (h1.ev rfl) (CellsAt.take (rdb h2 (vs := [(iv p0.W), (iv p0.H), (iv p0.Rail), (iv p0.Gap), (.slice Ap0_0 (p0.Kinds).length cp0_0), (.slice Ap0_1 (p0.Slots).length cp0_1), (.slice Ap0_2 (p0.Marks).length cp0_2)]) (k := 1) rfl 0) 7) rfl) ?_
 obtain ⟨y102, hy102, H⟩ := bnd H
 refine Tr.callM [3] [emp] (U := (Option Addr × Nat)) (fun u => (.tuple #[(.slice u.1 (y102.1).length u.2), (iv y102.2)])) (fun u => SlF u.1 (y102.1).length u.2) (fun u => [ow u.1 u.2 86 fl_TRect y102.1]) rfl (pk_cons rfl pk_nil) (fun _ => rfl) (wn rfl) rfl Tryz.call23 (evl_cons rfl evl_nil) (fun W hW hp hE => F_panel_open_ok N p0 Ap0_0 cp0_0 (hp0_0.ext (hW.extS hp)) Ap0_1 cp0_1 (hp0_1.ext (hW.extS hp)) Ap0_2 cp0_2 (hp0_2.ext (hW.extS hp)) y102 hy102 hE) ?_
 intro u hu
 obtain ⟨Ay102_0, cy102_0⟩ := u
 have gy102_0 := hu
 have hgy102_0 : SlF Ay102_0 (y102.1).length cy102_0 := gy102_0 --@phi
 show Tr _ _ (uf _ 8 (.tuple #[(.slice Ay102_0 (y102.1).length cy102_0), (iv y102.2)])) (up _ 3 (ow Ay102_0 cy102_0 86 fl_TRect y102.1)) _
 refine Tr.mv rfl rfl ?_
 refine Tr.va rfl (fun _ _ h1 h2 => run_extract (h1.ev rfl) rfl) ?_
 refine Tr.va rfl (fun _ _ h1 h2 => run_extract (h1.ev rfl) rfl) ?_
 refine Tr.asg rfl rfl ?_
 refine Tr.asg rfl rfl ?_
 refine Tr.nil (Tr.normThen ?_)
 refine Tr.seq ?_
 refine Tr.sr ?_
 refine Tr.mv rfl rfl ?_
 refine Tr.va rfl (fun _ _ h1 h2 => run_neq (h1.ev rfl) (h1.ev rfl)) ?_
 refine Tr.nil (Tr.normThen ?_)
 refine Tr.cond rfl H (fun H => ?_) (fun H => ?_)
 ·refine Tr.sr ?_
  refine Tr.build (vs := []) (cs := [(iv 0), (iv 0)]) (wn rfl) rfl evs_nil (by kernel_rfl) ?_
  refine Tr.mv rfl rfl ?_
  refine Tr.store 2 (cs := [(iv 0), (iv 0)]) [(iv 0), (iv 0)] (wn rfl) rfl rfl rfl rfl sz_60 rfl rfl rfl ?_
  refine Tr.asg rfl rfl ?_
  refine Tr.nil (Tr.normThen ?_)
  refine Tr.ret (Tr.retThen ?_)
  obtain rfl := Option.some.inj H
  exact Tr.out (m := [(.agg #[(iv 0), (iv 0)]), (iv y102.2)]) [2] (res_cell rfl rfl ag_60 sz_60 (res_tmp rfl res_nil)) (fun W hW => ⟨rfl, hW.low leB⟩)
 ·refine Tr.skip (Tr.normThen ?_)
  refine Tr.seq ?_
  refine Tr.drawTail 7 (by kernel_rfl) (by kernel_rfl) ?_
  refine Tq.mv rfl rfl ?_
  obtain ⟨y104, hy104, H⟩ := bnd H
  refine Tq.call0 (r := (iv y104)) (wn rfl) rfl Tryz.call34 (evl_cons rfl evl_nil) (fun W hW => F_shape_AreaOf_ok y102.1 Ay102_0 cy102_0 (hW.slCall (k := 3) rfl) y104 hy104 (HF.start _)) ?_
  refine Tq.va rfl (fun _ _ h1 h2 => run_fieldAddr fo_26_0 (h1.ev rfl)) ?_
  refine Tq.va rfl (fun _ _ h1 h2 => run_load1 ag_3 (h1.ev rfl) (rdb h2 (vs := [(iv p0.W), (iv p0.H), (iv p0.Rail), (iv p0.Gap), (.slice Ap0_0 (p0.Kinds).length cp0_0), (.slice Ap0_1 (p0.Slots).length cp0_1), (.slice Ap0_2 (p0.Marks).length cp0_2)]) (k := 1) rfl 0) rfl) ?_
  refine Tq.va rfl (fun _ _ h1 h2 => run_fieldAddr fo_26_1 (h1.ev rfl)) ?_
  refine Tq.va rfl (fun _ _ h1 h2 => run_load1 ag_3 (h1.ev rfl) (rdb h2 (vs := [(iv p0.W), (iv p0.H), (iv p0.Rail), (iv p0.Gap), (.slice Ap0_0 (p0.Kinds).length cp0_0), (.slice Ap0_1 (p0.Slots).length cp0_1), (.slice Ap0_2 (p0.Marks).length cp0_2)]) (k := 1) rfl 1) rfl) ?_
  refine Tq.va rfl (fun _ _ h1 h2 => run_mul (h1.ev rfl) (h1.ev rfl)) ?_
  refine Tq.nil ?_
  obtain ⟨y105, hy105, H⟩ := bnd H
  refine Tr.call0 (r := (.agg #[(iv y105.Num), (iv y105.Den)])) (wn rfl) rfl Tryz.call33 (evl_cons rfl (evl_cons rfl evl_nil)) (fun W hW => F_panel_Lowest_ok N y104 (w64 (p0.W * p0.H)) y105 hy105 (HF.start _)) ?_
  refine Tr.store 2 (cs := [(iv y105.Num), (iv y105.Den)]) [(iv y105.Num), (iv y105.Den)] (wn rfl) rfl rfl rfl rfl sz_60 rfl rfl rfl ?_
  refine Tr.asg rfl rfl ?_
  refine Tr.nil (Tr.normThen ?_)
  refine Tr.ret ?_
  obtain rfl := Option.some.inj H
  exact Tr.out (m := [(.agg #[(iv y105.Num), (iv y105.Den)]), (iv 0)]) [2] (res_cell rfl rfl ag_60 sz_60 (res_tmp rfl res_nil)) (fun W hW => ⟨rfl, hW.low leB⟩)

theorem F_etchhouselaw9_awake_ok (N : Nat) {w : Bs}  (r : Bool) (H : F_etchhouselaw9_awake N = some r) (hE : HF w w.W E0) : Calls Tryz.prog 8 [].toArray w.W fun e W' => e = .returned (.bool r) ∧ HF w W' E0 := by
 unfold F_etchhouselaw9_awake at H
 have leB := Bs.Le.refl w
 refine Tr.enter (n := 15) Tryz.func8 rfl rfl rfl hE ?_
 refine Tr.sr ?_
 refine Tr.asg rfl rfl ?_
 refine Tr.nil (Tr.normThen ?_)
 refine Tr.sr ?_
 refine Tr.build (vs := [(0, (iv 1)), (1, (iv 1))]) (cs := [(iv 1), (iv 1), (iv 0), (iv 0), (.slice none 0 0), (.slice none 0 0), (.slice none 0 0)]) (wn rfl) rfl (evs_cons rfl (evs_cons rfl evs_nil)) (by kernel_rfl) ?_
 obtain ⟨y100, hy100, H⟩ := bnd H
 refine Tr.call0 (r := (.tuple #[(.agg #[(iv y100.1.Num), (iv y100.1.Den)]), (iv y100.2)])) (wn rfl) rfl Tryz.call19 (evl_cons rfl evl_nil) (fun W hW => F_panel_Use_ok N (TPanel.mk 1 1 0 0 [] [] []) none 0 (Sl.nil _ _ _) none 0 (Sl.nil _ _ _) none 0 (Sl.nil _ _ _) y100 hy100 (HF.start _)) ?_
 refine Tr.mv rfl rfl ?_
 refine Tr.va rfl (fun _ _ h1 h2 => run_extract (h1.ev rfl) rfl) ?_
 refine Tr.va rfl (fun _ _ h1 h2 => run_extract (h1.ev rfl) rfl) ?_
 refine Tr.alloc 1 (wn rfl) rfl ze_60 fun b101 => ?_
 refine Tr.store 1 (cs := [(iv y100.1.Num), (iv y100.1.Den)]) [(iv y100.1.Num), (iv y100.1.Den)] (wn rfl) rfl rfl rfl rfl sz_60 rfl rfl rfl ?_
 refine Tr.asg rfl rfl ?_
 refine Tr.nil (Tr.normThen ?_)
 refine Tr.sr ?_
 refine Tr.mv rfl rfl ?_
 refine Tr.va rfl (fun _ _ h1 h2 => run_eql (h1.ev rfl) (h1.ev rfl)) ?_
 refine Tr.mv rfl rfl ?_
 refine Tr.mid0 4 [(14, (.bool ((y100.2 == 0) && (eqTShare y100.1 (TShare.mk 0 1)))))] [(1, bx b101 #[(iv y100.1.Num), (iv y100.1.Den)] 60)] ?_ ?_
 ·cases hg101 : (y100.2 == 0)
  ·refine Tr.pass rfl rfl rfl rfl rfl (by decide) ?_
   refine Tr.pass rfl rfl rfl rfl rfl (by decide) ?_
   refine Tr.pass rfl rfl rfl rfl rfl (by decide) ?_
   refine Tr.va rfl (fun _ _ h1 h2 => run_pickF (h1.ev rfl) (h1.ev rfl)) ?_
   exact Tr.nil (Tr.fin0 (.cons rfl .nil) (.cons rfl .nil))
  ·refine Tr.val (wg rfl rfl rfl) rfl (fun _ _ h1 h2 => run_loadN (cs := [(iv y100.1.Num), (iv y100.1.Den)]) ag_60 sz_60 (h1.ev rfl) (CellsAt.take (rdb h2 (vs := [(iv y100.1.Num), (iv y100.1.Den)]) (k := 1) rfl 0) 2) rfl) ?_
   refine Tr.build (vs := [(1, (iv 1))]) (cs := [(iv 0), (iv 1)]) (wg rfl rfl rfl) rfl (evs_cons rfl evs_nil) (by kernel_rfl) ?_
   refine Tr.val (wg rfl rfl rfl) rfl (fun _ _ h1 h2 => run_eql_60 y100.1 (TShare.mk 0 1) (h1.ev rfl) (h1.ev rfl)) ?_
   refine Tr.va rfl (fun _ _ h1 h2 => run_pickT (h1.ev rfl) (h1.ev rfl)) ?_
   exact Tr.nil (Tr.fin0 (.cons rfl .nil) (.cons rfl .nil))
 ·show Tr _ _ (LF [(14, (.bool ((y100.2 == 0) && (eqTShare y100.1 (TShare.mk 0 1)))))]) (LE [(1, bx b101 #[(iv y100.1.Num), (iv y100.1.Den)] 60)]) _
  refine Tr.asg rfl rfl ?_
  refine Tr.nil (Tr.normThen ?_)
  refine Tr.ret ?_
  obtain rfl := Option.some.inj H
  exact Tr.out (m := [(.bool ((y100.2 == 0) && (eqTShare y100.1 (TShare.mk 0 1))))]) [] (res_tmp rfl res_nil) (fun W hW => ⟨rfl, hW.low leB⟩)

theorem F_etchhouselaw9_PanelsReadMatchSpec_ok (N : Nat) {w : Bs} (hT : Tab Tryz.prog w) (p0 : TPanel) (Ap0_0 : Option Addr) (cp0_0 : Nat) (hp0_0 : Sl w.R w.W fl_TBoardKind Ap0_0 cp0_0 p0.Kinds) (Ap0_1 : Option Addr) (cp0_1 : Nat) (hp0_1 : Sl w.R w.W fl_TSlot Ap0_1 cp0_1 p0.Slots) (Ap0_2 : Option Addr) (cp0_2 : Nat) (hp0_2 : Sl w.R w.W fl_TPoint Ap0_2 cp0_2 p0.Marks) (p1 : ByteArray) (r : Bool) (H : F_etchhouselaw9_PanelsReadMatchSpec N p0 p1 = some r) (hE : HF w w.W E0) : Calls Tryz.prog 4 [(.agg #[(iv p0.W), (iv p0.H), (iv p0.Rail), (iv p0.Gap), (.slice Ap0_0 (p0.Kinds).length cp0_0), (.slice Ap0_1 (p0.Slots).length cp0_1), (.slice Ap0_2 (p0.Marks).length cp0_2)]), (sv p1)].toArray w.W fun e W' => e = .returned (.bool r) ∧ HF w W' E0 := by
 unfold F_etchhouselaw9_PanelsReadMatchSpec at H
 have leB := Bs.Le.refl w
 refine Tr.enter (n := 63) Tryz.func4 rfl rfl rfl hE ?_
 refine Tr.sr ?_
 refine Tr.box 1 (cs := [(iv p0.W), (iv p0.H), (iv p0.Rail), (iv p0.Gap), (.slice Ap0_0 (p0.Kinds).length cp0_0), (.slice Ap0_1 (p0.Slots).length cp0_1), (.slice Ap0_2 (p0.Marks).length cp0_2)]) (wn rfl) rfl rfl rfl fun b100 => ?_
 refine Tr.asg rfl rfl ?_
 refine Tr.nil (Tr.normThen ?_)
 refine Tr.sr ?_
 refine Tr.va rfl (fun _ _ h1 h2 => run_loadN (cs := [(iv p0.W), (iv p0.H), (iv p0.Rail), (iv p0.Gap), (.slice Ap0_0 (p0.Kinds).length cp0_0), (.slice Ap0_1 (p0.Slots).length cp0_1), (.slice Ap0_2 (p0.Marks).length cp0_2)]) ag_26 sz_26 (h1.ev rfl) (CellsAt.take (rdb h2 (vs := [(iv p0.W), (iv p0.H), (iv p0.Rail), (iv p0.Gap), (.slice Ap0_0 (p0.Kinds).length cp0_0), (.slice Ap0_1 (p0.Slots).length cp0_1), (.slice Ap0_2 (p0.Marks).length cp0_2)]) (k := 1) rfl 0) 7) rfl) ?_
 obtain ⟨y101, hy101, H⟩ := bnd H
 refine Tr.call0 (r := (.tuple #[(sv y101.1), (iv y101.2)])) (wn rfl) rfl Tryz.call5 (evl_cons rfl evl_nil) (fun W hW => F_panel_Text_ok N (hT.ext hW.extAll) p0 Ap0_0 cp0_0 (hp0_0.ext hW.extAll) Ap0_1 cp0_1 (hp0_1.ext hW.extAll) Ap0_2 cp0_2 (hp0_2.ext hW.extAll) y101 hy101 (HF.start _)) ?_
 refine Tr.mv rfl rfl ?_
 refine Tr.va rfl (fun _ _ h1 h2 => run_extract (h1.ev rfl) rfl) ?_
 refine Tr.va rfl (fun _ _ h1 h2 => run_extract (h1.ev rfl) rfl) ?_
 refine Tr.asg rfl rfl ?_
 refine Tr.asg rfl rfl ?_
 refine Tr.nil (Tr.normThen ?_)
 refine Tr.sr ?_
 refine Tr.va rfl (fun _ _ h1 h2 => run_loadN (cs := [(iv p0.W), (iv p0.H), (iv p0.Rail), (iv p0.Gap), (.slice Ap0_0 (p0.Kinds).length cp0_0), (.slice Ap0_1 (p0.Slots).length cp0_1), (.slice Ap0_2 (p0.Marks).length cp0_2)]) ag_26 sz_26 (h1.ev rfl) (CellsAt.take (rdb h2 (vs := [(iv p0.W), (iv p0.H), (iv p0.Rail), (iv p0.Gap), (.slice Ap0_0 (p0.Kinds).length cp0_0), (.slice Ap0_1 (p0.Slots).length cp0_1), (.slice Ap0_2 (p0.Marks).length cp0_2)]) (k := 1) rfl 0) 7) rfl) ?_
 obtain ⟨y102, hy102, H⟩ := bnd H
 refine Tr.call0 (r := (.tuple #[(sv y102.1), (iv y102.2)])) (wn rfl) rfl Tryz.call9 (evl_cons rfl evl_nil) (fun W hW => F_etchhouseref9_Text_ok N (hT.ext hW.extAll) p0 Ap0_0 cp0_0 (hp0_0.ext hW.extAll) Ap0_1 cp0_1 (hp0_1.ext hW.extAll) Ap0_2 cp0_2 (hp0_2.ext hW.extAll) y102 hy102 (HF.start _)) ?_
 refine Tr.mv rfl rfl ?_
 refine Tr.va rfl (fun _ _ h1 h2 => run_extract (h1.ev rfl) rfl) ?_
 refine Tr.va rfl (fun _ _ h1 h2 => run_extract (h1.ev rfl) rfl) ?_
 refine Tr.asg rfl rfl ?_
 refine Tr.asg rfl rfl ?_
 refine Tr.nil (Tr.normThen ?_)
 refine Tr.sr ?_
 refine Tr.mv rfl rfl ?_
 obtain ⟨y103, hy103, H⟩ := bnd H
 refine Tr.callM [2, 3, 4] [emp, emp, emp] (U := (Option Addr × Nat) × (Option Addr × Nat) × (Option Addr × Nat)) (fun u => (.tuple #[(.agg #[(iv y103.1.W), (iv y103.1.H), (iv y103.1.Rail), (iv y103.1.Gap), (.slice u.1.1 (y103.1.Kinds).length u.1.2), (.slice u.2.1.1 (y103.1.Slots).length u.2.1.2), (.slice u.2.2.1 (y103.1.Marks).length u.2.2.2)]), (iv y103.2.1), (iv y103.2.2)])) (fun u => SlF u.1.1 (y103.1.Kinds).length u.1.2 ∧ SlF u.2.1.1 (y103.1.Slots).length u.2.1.2 ∧ SlF u.2.2.1 (y103.1.Marks).length u.2.2.2) (fun u => [ow u.1.1 u.1.2 49 fl_TBoardKind y103.1.Kinds, ow u.2.1.1 u.2.1.2 53 fl_TSlot y103.1.Slots, ow u.2.2.1 u.2.2.2 51 fl_TPoint y103.1.Marks]) rfl (pk_cons rfl (pk_cons rfl (pk_cons rfl pk_nil))) (fun _ => rfl) (wn rfl) rfl Tryz.call6 (evl_cons rfl evl_nil) (fun W hW hp hE => F_panel_Read_ok N (hT.ext (hW.extS hp)) p1 y103 hy103 hE) ?_
 intro u hu
 obtain ⟨⟨Ay103_0, cy103_0⟩, ⟨Ay103_1, cy103_1⟩, ⟨Ay103_2, cy103_2⟩⟩ := u
 obtain ⟨gy103_0, gy103_1, gy103_2⟩ := hu
 have hgy103_0 : SlF Ay103_0 (y103.1.Kinds).length cy103_0 := gy103_0 --@phi
 have hgy103_1 : SlF Ay103_1 (y103.1.Slots).length cy103_1 := gy103_1 --@phi
 have hgy103_2 : SlF Ay103_2 (y103.1.Marks).length cy103_2 := gy103_2 --@phi
 show Tr _ _ (uf _ 27 (.tuple #[(.agg #[(iv y103.1.W), (iv y103.1.H), (iv y103.1.Rail), (iv y103.1.Gap), (.slice Ay103_0 (y103.1.Kinds).length cy103_0), (.slice Ay103_1 (y103.1.Slots).length cy103_1), (.slice Ay103_2 (y103.1.Marks).length cy103_2)]), (iv y103.2.1), (iv y103.2.2)])) (up (up (up _ 4 (ow Ay103_2 cy103_2 51 fl_TPoint y103.1.Marks)) 3 (ow Ay103_1 cy103_1 53 fl_TSlot y103.1.Slots)) 2 (ow Ay103_0 cy103_0 49 fl_TBoardKind y103.1.Kinds)) _
 refine Tr.mv rfl rfl ?_
 refine Tr.va rfl (fun _ _ h1 h2 => run_extract (h1.ev rfl) rfl) ?_
 refine Tr.va rfl (fun _ _ h1 h2 => run_extract (h1.ev rfl) rfl) ?_
 refine Tr.va rfl (fun _ _ h1 h2 => run_extract (h1.ev rfl) rfl) ?_
 refine Tr.alloc 5 (wn rfl) rfl ze_26 fun b105 => ?_
 refine Tr.store 5 (cs := [(iv y103.1.W), (iv y103.1.H), (iv y103.1.Rail), (iv y103.1.Gap), (.slice Ay103_0 (y103.1.Kinds).length cy103_0), (.slice Ay103_1 (y103.1.Slots).length cy103_1), (.slice Ay103_2 (y103.1.Marks).length cy103_2)]) [(iv y103.1.W), (iv y103.1.H), (iv y103.1.Rail), (iv y103.1.Gap), (.slice Ay103_0 (y103.1.Kinds).length cy103_0), (.slice Ay103_1 (y103.1.Slots).length cy103_1), (.slice Ay103_2 (y103.1.Marks).length cy103_2)] (wn rfl) rfl rfl rfl rfl sz_26 rfl rfl rfl ?_
 refine Tr.asg rfl rfl ?_
 refine Tr.asg rfl rfl ?_
 refine Tr.nil (Tr.normThen ?_)
 refine Tr.sr ?_
 refine Tr.mv rfl rfl ?_
 obtain ⟨y106, hy106, H⟩ := bnd H
 refine Tr.callM [6, 7, 8] [emp, emp, emp] (U := (Option Addr × Nat) × (Option Addr × Nat) × (Option Addr × Nat)) (fun u => (.tuple #[(.agg #[(iv y106.1.W), (iv y106.1.H), (iv y106.1.Rail), (iv y106.1.Gap), (.slice u.1.1 (y106.1.Kinds).length u.1.2), (.slice u.2.1.1 (y106.1.Slots).length u.2.1.2), (.slice u.2.2.1 (y106.1.Marks).length u.2.2.2)]), (iv y106.2.1), (iv y106.2.2)])) (fun u => SlF u.1.1 (y106.1.Kinds).length u.1.2 ∧ SlF u.2.1.1 (y106.1.Slots).length u.2.1.2 ∧ SlF u.2.2.1 (y106.1.Marks).length u.2.2.2) (fun u => [ow u.1.1 u.1.2 49 fl_TBoardKind y106.1.Kinds, ow u.2.1.1 u.2.1.2 53 fl_TSlot y106.1.Slots, ow u.2.2.1 u.2.2.2 51 fl_TPoint y106.1.Marks]) rfl (pk_cons rfl (pk_cons rfl (pk_cons rfl pk_nil))) (fun _ => rfl) (wn rfl) rfl Tryz.call10 (evl_cons rfl evl_nil) (fun W hW hp hE => F_etchhouseref9_Read_ok N (hT.ext (hW.extS hp)) p1 y106 hy106 hE) ?_
 intro u hu
 obtain ⟨⟨Ay106_0, cy106_0⟩, ⟨Ay106_1, cy106_1⟩, ⟨Ay106_2, cy106_2⟩⟩ := u
 obtain ⟨gy106_0, gy106_1, gy106_2⟩ := hu
 have hgy106_0 : SlF Ay106_0 (y106.1.Kinds).length cy106_0 := gy106_0 --@phi
 have hgy106_1 : SlF Ay106_1 (y106.1.Slots).length cy106_1 := gy106_1 --@phi
 have hgy106_2 : SlF Ay106_2 (y106.1.Marks).length cy106_2 := gy106_2 --@phi
 show Tr _ _ (uf _ 33 (.tuple #[(.agg #[(iv y106.1.W), (iv y106.1.H), (iv y106.1.Rail), (iv y106.1.Gap), (.slice Ay106_0 (y106.1.Kinds).length cy106_0), (.slice Ay106_1 (y106.1.Slots).length cy106_1), (.slice Ay106_2 (y106.1.Marks).length cy106_2)]), (iv y106.2.1), (iv y106.2.2)])) (up (up (up _ 8 (ow Ay106_2 cy106_2 51 fl_TPoint y106.1.Marks)) 7 (ow Ay106_1 cy106_1 53 fl_TSlot y106.1.Slots)) 6 (ow Ay106_0 cy106_0 49 fl_TBoardKind y106.1.Kinds)) _
 refine Tr.mv rfl rfl ?_
 refine Tr.va rfl (fun _ _ h1 h2 => run_extract (h1.ev rfl) rfl) ?_
 refine Tr.va rfl (fun _ _ h1 h2 => run_extract (h1.ev rfl) rfl) ?_
 refine Tr.va rfl (fun _ _ h1 h2 => run_extract (h1.ev rfl) rfl) ?_
 refine Tr.alloc 9 (wn rfl) rfl ze_26 fun b108 => ?_
 refine Tr.store 9 (cs := [(iv y106.1.W), (iv y106.1.H), (iv y106.1.Rail), (iv y106.1.Gap), (.slice Ay106_0 (y106.1.Kinds).length cy106_0), (.slice Ay106_1 (y106.1.Slots).length cy106_1), (.slice Ay106_2 (y106.1.Marks).length cy106_2)]) [(iv y106.1.W), (iv y106.1.H), (iv y106.1.Rail), (iv y106.1.Gap), (.slice Ay106_0 (y106.1.Kinds).length cy106_0), (.slice Ay106_1 (y106.1.Slots).length cy106_1), (.slice Ay106_2 (y106.1.Marks).length cy106_2)] (wn rfl) rfl rfl rfl rfl sz_26 rfl rfl rfl ?_
 refine Tr.asg rfl rfl ?_
 refine Tr.asg rfl rfl ?_
 refine Tr.nil (Tr.normThen ?_)
 refine Tr.sr ?_
 refine Tr.mv rfl rfl ?_
 refine Tr.mv rfl rfl ?_
 refine Tr.va rfl (fun _ _ h1 h2 => run_eqlS (h1.ev rfl) (h1.ev rfl)) ?_
 refine Tr.mv rfl rfl ?_
 refine Tr.mid0 4 [(9, (.pointer (some ⟨b105, 0, none⟩))), (10, (iv y103.2.1)), (11, (iv y103.2.2)), (12, (.pointer (some ⟨b108, 0, none⟩))), (13, (iv y106.2.1)), (14, (iv y106.2.2)), (44, (.bool ((sEq y101.1 y102.1) && (y101.2 == y102.2))))] [(1, bx b100 #[(iv p0.W), (iv p0.H), (iv p0.Rail), (iv p0.Gap), (.slice Ap0_0 (p0.Kinds).length cp0_0), (.slice Ap0_1 (p0.Slots).length cp0_1), (.slice Ap0_2 (p0.Marks).length cp0_2)] 26), (2, ow Ay103_0 cy103_0 49 fl_TBoardKind y103.1.Kinds), (3, ow Ay103_1 cy103_1 53 fl_TSlot y103.1.Slots), (4, ow Ay103_2 cy103_2 51 fl_TPoint y103.1.Marks), (5, bx b105 #[(iv y103.1.W), (iv y103.1.H), (iv y103.1.Rail), (iv y103.1.Gap), (.slice Ay103_0 (y103.1.Kinds).length cy103_0), (.slice Ay103_1 (y103.1.Slots).length cy103_1), (.slice Ay103_2 (y103.1.Marks).length cy103_2)] 26), (6, ow Ay106_0 cy106_0 49 fl_TBoardKind y106.1.Kinds), (7, ow Ay106_1 cy106_1 53 fl_TSlot y106.1.Slots), (8, ow Ay106_2 cy106_2 51 fl_TPoint y106.1.Marks), (9, bx b108 #[(iv y106.1.W), (iv y106.1.H), (iv y106.1.Rail), (iv y106.1.Gap), (.slice Ay106_0 (y106.1.Kinds).length cy106_0), (.slice Ay106_1 (y106.1.Slots).length cy106_1), (.slice Ay106_2 (y106.1.Marks).length cy106_2)] 26)] ?_ ?_
 ·cases hg114 : (sEq y101.1 y102.1)
  ·refine Tr.pass rfl rfl rfl rfl rfl (by decide) ?_
   refine Tr.pass rfl rfl rfl rfl rfl (by decide) ?_
   refine Tr.pass rfl rfl rfl rfl rfl (by decide) ?_
   refine Tr.va rfl (fun _ _ h1 h2 => run_pickF (h1.ev rfl) (h1.ev rfl)) ?_
   exact Tr.nil (Tr.fin0 (.cons rfl (.cons rfl (.cons rfl (.cons rfl (.cons rfl (.cons rfl (.cons rfl .nil))))))) (.cons rfl (.cons rfl (.cons rfl (.cons rfl (.cons rfl (.cons rfl (.cons rfl (.cons rfl (.cons rfl .nil))))))))))
  ·refine Tr.val (wg rfl rfl rfl) rfl (fun _ _ h1 h2 => run_move (h1.ev rfl)) ?_
   refine Tr.val (wg rfl rfl rfl) rfl (fun _ _ h1 h2 => run_move (h1.ev rfl)) ?_
   refine Tr.val (wg rfl rfl rfl) rfl (fun _ _ h1 h2 => run_eql (h1.ev rfl) (h1.ev rfl)) ?_
   refine Tr.va rfl (fun _ _ h1 h2 => run_pickT (h1.ev rfl) (h1.ev rfl)) ?_
   exact Tr.nil (Tr.fin0 (.cons rfl (.cons rfl (.cons rfl (.cons rfl (.cons rfl (.cons rfl (.cons rfl .nil))))))) (.cons rfl (.cons rfl (.cons rfl (.cons rfl (.cons rfl (.cons rfl (.cons rfl (.cons rfl (.cons rfl .nil))))))))))
 ·show Tr _ _ (LF [(9, (.pointer (some ⟨b105, 0, none⟩))), (10, (iv y103.2.1)), (11, (iv y103.2.2)), (12, (.pointer (some ⟨b108, 0, none⟩))), (13, (iv y106.2.1)), (14, (iv y106.2.2)), (44, (.bool ((sEq y101.1 y102.1) && (y101.2 == y102.2))))]) (LE [(1, bx b100 #[(iv p0.W), (iv p0.H), (iv p0.Rail), (iv p0.Gap), (.slice Ap0_0 (p0.Kinds).length cp0_0), (.slice Ap0_1 (p0.Slots).length cp0_1), (.slice Ap0_2 (p0.Marks).length cp0_2)] 26), (2, ow Ay103_0 cy103_0 49 fl_TBoardKind y103.1.Kinds), (3, ow Ay103_1 cy103_1 53 fl_TSlot y103.1.Slots), (4, ow Ay103_2 cy103_2 51 fl_TPoint y103.1.Marks), (5, bx b105 #[(iv y103.1.W), (iv y103.1.H), (iv y103.1.Rail), (iv y103.1.Gap), (.slice Ay103_0 (y103.1.Kinds).length cy103_0), (.slice Ay103_1 (y103.1.Slots).length cy103_1), (.slice Ay103_2 (y103.1.Marks).length cy103_2)] 26), (6, ow Ay106_0 cy106_0 49 fl_TBoardKind y106.1.Kinds), (7, ow Ay106_1 cy106_1 53 fl_TSlot y106.1.Slots), (8, ow Ay106_2 cy106_2 51 fl_TPoint y106.1.Marks), (9, bx b108 #[(iv y106.1.W), (iv y106.1.H), (iv y106.1.Rail), (iv y106.1.Gap), (.slice Ay106_0 (y106.1.Kinds).length cy106_0), (.slice Ay106_1 (y106.1.Slots).length cy106_1), (.slice Ay106_2 (y106.1.Marks).length cy106_2)] 26)]) _
  refine Tr.mv rfl rfl ?_
  obtain ⟨g110, hg110, H⟩ := bnd H
  refine Tr.mid0 4 [(10, (iv y103.2.1)), (11, (iv y103.2.2)), (13, (iv y106.2.1)), (14, (iv y106.2.2)), (49, (.bool g110))] [(1, bx b100 #[(iv p0.W), (iv p0.H), (iv p0.Rail), (iv p0.Gap), (.slice Ap0_0 (p0.Kinds).length cp0_0), (.slice Ap0_1 (p0.Slots).length cp0_1), (.slice Ap0_2 (p0.Marks).length cp0_2)] 26), (2, ow Ay103_0 cy103_0 49 fl_TBoardKind y103.1.Kinds), (3, ow Ay103_1 cy103_1 53 fl_TSlot y103.1.Slots), (4, ow Ay103_2 cy103_2 51 fl_TPoint y103.1.Marks), (5, bx b105 #[(iv y103.1.W), (iv y103.1.H), (iv y103.1.Rail), (iv y103.1.Gap), (.slice Ay103_0 (y103.1.Kinds).length cy103_0), (.slice Ay103_1 (y103.1.Slots).length cy103_1), (.slice Ay103_2 (y103.1.Marks).length cy103_2)] 26), (6, ow Ay106_0 cy106_0 49 fl_TBoardKind y106.1.Kinds), (7, ow Ay106_1 cy106_1 53 fl_TSlot y106.1.Slots), (8, ow Ay106_2 cy106_2 51 fl_TPoint y106.1.Marks), (9, bx b108 #[(iv y106.1.W), (iv y106.1.H), (iv y106.1.Rail), (iv y106.1.Gap), (.slice Ay106_0 (y106.1.Kinds).length cy106_0), (.slice Ay106_1 (y106.1.Slots).length cy106_1), (.slice Ay106_2 (y106.1.Marks).length cy106_2)] 26)] ?_ ?_
  ·cases hg114 : ((sEq y101.1 y102.1) && (y101.2 == y102.2))
   ·rw [hg114] at hg110
    rw [if_neg (by decide)] at hg110
    have H := hg110
    obtain rfl := Option.some.inj H
    refine Tr.pass rfl rfl rfl rfl rfl (by decide) ?_
    refine Tr.pass rfl rfl rfl rfl rfl (by decide) ?_
    refine Tr.pass rfl rfl rfl rfl rfl (by decide) ?_
    refine Tr.va rfl (fun _ _ h1 h2 => run_pickF (h1.ev rfl) (h1.ev rfl)) ?_
    exact Tr.nil (Tr.fin0 (.cons rfl (.cons rfl (.cons rfl (.cons rfl (.cons rfl .nil))))) (.cons rfl (.cons rfl (.cons rfl (.cons rfl (.cons rfl (.cons rfl (.cons rfl (.cons rfl (.cons rfl .nil))))))))))
   ·rw [hg114] at hg110
    rw [if_pos rfl] at hg110
    have H := hg110
    refine Tr.val (wg rfl rfl rfl) rfl (fun _ _ h1 h2 => run_loadN (cs := [(iv y103.1.W), (iv y103.1.H), (iv y103.1.Rail), (iv y103.1.Gap), (.slice Ay103_0 (y103.1.Kinds).length cy103_0), (.slice Ay103_1 (y103.1.Slots).length cy103_1), (.slice Ay103_2 (y103.1.Marks).length cy103_2)]) ag_26 sz_26 (h1.ev rfl) (CellsAt.take (rdb h2 (vs := [(iv y103.1.W), (iv y103.1.H), (iv y103.1.Rail), (iv y103.1.Gap), (.slice Ay103_0 (y103.1.Kinds).length cy103_0), (.slice Ay103_1 (y103.1.Slots).length cy103_1), (.slice Ay103_2 (y103.1.Marks).length cy103_2)]) (k := 5) rfl 0) 7) rfl) ?_
    refine Tr.val (wg rfl rfl rfl) rfl (fun _ _ h1 h2 => run_loadN (cs := [(iv y106.1.W), (iv y106.1.H), (iv y106.1.Rail), (iv y106.1.Gap), (.slice Ay106_0 (y106.1.Kinds).length cy106_0), (.slice Ay106_1 (y106.1.Slots).length cy106_1), (.slice Ay106_2 (y106.1.Marks).length cy106_2)]) ag_26 sz_26 (h1.ev rfl) (CellsAt.take (rdb h2 (vs := [(iv y106.1.W), (iv y106.1.H), (iv y106.1.Rail), (iv y106.1.Gap), (.slice Ay106_0 (y106.1.Kinds).length cy106_0), (.slice Ay106_1 (y106.1.Slots).length cy106_1), (.slice Ay106_2 (y106.1.Marks).length cy106_2)]) (k := 9) rfl 0) 7) rfl) ?_
    obtain ⟨y111, hy111, H⟩ := bnd H
    refine Tr.call0 (r := (.bool y111)) (wg rfl rfl rfl) rfl Tryz.call7 (evl_cons rfl (evl_cons rfl evl_nil)) (fun W hW => F_etchhouseref9_Same_ok N y103.1 Ay103_0 cy103_0 (hW.slCall (k := 2) rfl) Ay103_1 cy103_1 (hW.slCall (k := 3) rfl) Ay103_2 cy103_2 (hW.slCall (k := 4) rfl) y106.1 Ay106_0 cy106_0 (hW.slCall (k := 6) rfl) Ay106_1 cy106_1 (hW.slCall (k := 7) rfl) Ay106_2 cy106_2 (hW.slCall (k := 8) rfl) y111 hy111 (HF.start _)) ?_
    refine Tr.va rfl (fun _ _ h1 h2 => run_pickT (h1.ev rfl) (h1.ev rfl)) ?_
    obtain rfl := Option.some.inj H
    exact Tr.nil (Tr.fin0 (.cons rfl (.cons rfl (.cons rfl (.cons rfl (.cons rfl .nil))))) (.cons rfl (.cons rfl (.cons rfl (.cons rfl (.cons rfl (.cons rfl (.cons rfl (.cons rfl (.cons rfl .nil))))))))))
  ·show Tr _ _ (LF [(10, (iv y103.2.1)), (11, (iv y103.2.2)), (13, (iv y106.2.1)), (14, (iv y106.2.2)), (49, (.bool g110))]) (LE [(1, bx b100 #[(iv p0.W), (iv p0.H), (iv p0.Rail), (iv p0.Gap), (.slice Ap0_0 (p0.Kinds).length cp0_0), (.slice Ap0_1 (p0.Slots).length cp0_1), (.slice Ap0_2 (p0.Marks).length cp0_2)] 26), (2, ow Ay103_0 cy103_0 49 fl_TBoardKind y103.1.Kinds), (3, ow Ay103_1 cy103_1 53 fl_TSlot y103.1.Slots), (4, ow Ay103_2 cy103_2 51 fl_TPoint y103.1.Marks), (5, bx b105 #[(iv y103.1.W), (iv y103.1.H), (iv y103.1.Rail), (iv y103.1.Gap), (.slice Ay103_0 (y103.1.Kinds).length cy103_0), (.slice Ay103_1 (y103.1.Slots).length cy103_1), (.slice Ay103_2 (y103.1.Marks).length cy103_2)] 26), (6, ow Ay106_0 cy106_0 49 fl_TBoardKind y106.1.Kinds), (7, ow Ay106_1 cy106_1 53 fl_TSlot y106.1.Slots), (8, ow Ay106_2 cy106_2 51 fl_TPoint y106.1.Marks), (9, bx b108 #[(iv y106.1.W), (iv y106.1.H), (iv y106.1.Rail), (iv y106.1.Gap), (.slice Ay106_0 (y106.1.Kinds).length cy106_0), (.slice Ay106_1 (y106.1.Slots).length cy106_1), (.slice Ay106_2 (y106.1.Marks).length cy106_2)] 26)]) _
   refine Tr.mv rfl rfl ?_
   refine Tr.mid0 4 [(11, (iv y103.2.2)), (14, (iv y106.2.2)), (54, (.bool (g110 && (y103.2.1 == y106.2.1))))] [(1, bx b100 #[(iv p0.W), (iv p0.H), (iv p0.Rail), (iv p0.Gap), (.slice Ap0_0 (p0.Kinds).length cp0_0), (.slice Ap0_1 (p0.Slots).length cp0_1), (.slice Ap0_2 (p0.Marks).length cp0_2)] 26), (2, ow Ay103_0 cy103_0 49 fl_TBoardKind y103.1.Kinds), (3, ow Ay103_1 cy103_1 53 fl_TSlot y103.1.Slots), (4, ow Ay103_2 cy103_2 51 fl_TPoint y103.1.Marks), (5, bx b105 #[(iv y103.1.W), (iv y103.1.H), (iv y103.1.Rail), (iv y103.1.Gap), (.slice Ay103_0 (y103.1.Kinds).length cy103_0), (.slice Ay103_1 (y103.1.Slots).length cy103_1), (.slice Ay103_2 (y103.1.Marks).length cy103_2)] 26), (6, ow Ay106_0 cy106_0 49 fl_TBoardKind y106.1.Kinds), (7, ow Ay106_1 cy106_1 53 fl_TSlot y106.1.Slots), (8, ow Ay106_2 cy106_2 51 fl_TPoint y106.1.Marks), (9, bx b108 #[(iv y106.1.W), (iv y106.1.H), (iv y106.1.Rail), (iv y106.1.Gap), (.slice Ay106_0 (y106.1.Kinds).length cy106_0), (.slice Ay106_1 (y106.1.Slots).length cy106_1), (.slice Ay106_2 (y106.1.Marks).length cy106_2)] 26)] ?_ ?_
   ·cases hg114 : g110
    ·refine Tr.pass rfl rfl rfl rfl rfl (by decide) ?_
     refine Tr.pass rfl rfl rfl rfl rfl (by decide) ?_
     refine Tr.pass rfl rfl rfl rfl rfl (by decide) ?_
     refine Tr.va rfl (fun _ _ h1 h2 => run_pickF (h1.ev rfl) (h1.ev rfl)) ?_
     exact Tr.nil (Tr.fin0 (.cons rfl (.cons rfl (.cons rfl .nil))) (.cons rfl (.cons rfl (.cons rfl (.cons rfl (.cons rfl (.cons rfl (.cons rfl (.cons rfl (.cons rfl .nil))))))))))
    ·refine Tr.val (wg rfl rfl rfl) rfl (fun _ _ h1 h2 => run_move (h1.ev rfl)) ?_
     refine Tr.val (wg rfl rfl rfl) rfl (fun _ _ h1 h2 => run_move (h1.ev rfl)) ?_
     refine Tr.val (wg rfl rfl rfl) rfl (fun _ _ h1 h2 => run_eql (h1.ev rfl) (h1.ev rfl)) ?_
     refine Tr.va rfl (fun _ _ h1 h2 => run_pickT (h1.ev rfl) (h1.ev rfl)) ?_
     exact Tr.nil (Tr.fin0 (.cons rfl (.cons rfl (.cons rfl .nil))) (.cons rfl (.cons rfl (.cons rfl (.cons rfl (.cons rfl (.cons rfl (.cons rfl (.cons rfl (.cons rfl .nil))))))))))
   ·show Tr _ _ (LF [(11, (iv y103.2.2)), (14, (iv y106.2.2)), (54, (.bool (g110 && (y103.2.1 == y106.2.1))))]) (LE [(1, bx b100 #[(iv p0.W), (iv p0.H), (iv p0.Rail), (iv p0.Gap), (.slice Ap0_0 (p0.Kinds).length cp0_0), (.slice Ap0_1 (p0.Slots).length cp0_1), (.slice Ap0_2 (p0.Marks).length cp0_2)] 26), (2, ow Ay103_0 cy103_0 49 fl_TBoardKind y103.1.Kinds), (3, ow Ay103_1 cy103_1 53 fl_TSlot y103.1.Slots), (4, ow Ay103_2 cy103_2 51 fl_TPoint y103.1.Marks), (5, bx b105 #[(iv y103.1.W), (iv y103.1.H), (iv y103.1.Rail), (iv y103.1.Gap), (.slice Ay103_0 (y103.1.Kinds).length cy103_0), (.slice Ay103_1 (y103.1.Slots).length cy103_1), (.slice Ay103_2 (y103.1.Marks).length cy103_2)] 26), (6, ow Ay106_0 cy106_0 49 fl_TBoardKind y106.1.Kinds), (7, ow Ay106_1 cy106_1 53 fl_TSlot y106.1.Slots), (8, ow Ay106_2 cy106_2 51 fl_TPoint y106.1.Marks), (9, bx b108 #[(iv y106.1.W), (iv y106.1.H), (iv y106.1.Rail), (iv y106.1.Gap), (.slice Ay106_0 (y106.1.Kinds).length cy106_0), (.slice Ay106_1 (y106.1.Slots).length cy106_1), (.slice Ay106_2 (y106.1.Marks).length cy106_2)] 26)]) _
    refine Tr.mv rfl rfl ?_
    refine Tr.mid0 4 [(59, (.bool ((g110 && (y103.2.1 == y106.2.1)) && (y103.2.2 == y106.2.2))))] [(1, bx b100 #[(iv p0.W), (iv p0.H), (iv p0.Rail), (iv p0.Gap), (.slice Ap0_0 (p0.Kinds).length cp0_0), (.slice Ap0_1 (p0.Slots).length cp0_1), (.slice Ap0_2 (p0.Marks).length cp0_2)] 26), (2, ow Ay103_0 cy103_0 49 fl_TBoardKind y103.1.Kinds), (3, ow Ay103_1 cy103_1 53 fl_TSlot y103.1.Slots), (4, ow Ay103_2 cy103_2 51 fl_TPoint y103.1.Marks), (5, bx b105 #[(iv y103.1.W), (iv y103.1.H), (iv y103.1.Rail), (iv y103.1.Gap), (.slice Ay103_0 (y103.1.Kinds).length cy103_0), (.slice Ay103_1 (y103.1.Slots).length cy103_1), (.slice Ay103_2 (y103.1.Marks).length cy103_2)] 26), (6, ow Ay106_0 cy106_0 49 fl_TBoardKind y106.1.Kinds), (7, ow Ay106_1 cy106_1 53 fl_TSlot y106.1.Slots), (8, ow Ay106_2 cy106_2 51 fl_TPoint y106.1.Marks), (9, bx b108 #[(iv y106.1.W), (iv y106.1.H), (iv y106.1.Rail), (iv y106.1.Gap), (.slice Ay106_0 (y106.1.Kinds).length cy106_0), (.slice Ay106_1 (y106.1.Slots).length cy106_1), (.slice Ay106_2 (y106.1.Marks).length cy106_2)] 26)] ?_ ?_
    ·cases hg114 : (g110 && (y103.2.1 == y106.2.1))
     ·refine Tr.pass rfl rfl rfl rfl rfl (by decide) ?_
      refine Tr.pass rfl rfl rfl rfl rfl (by decide) ?_
      refine Tr.pass rfl rfl rfl rfl rfl (by decide) ?_
      refine Tr.va rfl (fun _ _ h1 h2 => run_pickF (h1.ev rfl) (h1.ev rfl)) ?_
      exact Tr.nil (Tr.fin0 (.cons rfl .nil) (.cons rfl (.cons rfl (.cons rfl (.cons rfl (.cons rfl (.cons rfl (.cons rfl (.cons rfl (.cons rfl .nil))))))))))
     ·refine Tr.val (wg rfl rfl rfl) rfl (fun _ _ h1 h2 => run_move (h1.ev rfl)) ?_
      refine Tr.val (wg rfl rfl rfl) rfl (fun _ _ h1 h2 => run_move (h1.ev rfl)) ?_
      refine Tr.val (wg rfl rfl rfl) rfl (fun _ _ h1 h2 => run_eql (h1.ev rfl) (h1.ev rfl)) ?_
      refine Tr.va rfl (fun _ _ h1 h2 => run_pickT (h1.ev rfl) (h1.ev rfl)) ?_
      exact Tr.nil (Tr.fin0 (.cons rfl .nil) (.cons rfl (.cons rfl (.cons rfl (.cons rfl (.cons rfl (.cons rfl (.cons rfl (.cons rfl (.cons rfl .nil))))))))))
    ·show Tr _ _ (LF [(59, (.bool ((g110 && (y103.2.1 == y106.2.1)) && (y103.2.2 == y106.2.2))))]) (LE [(1, bx b100 #[(iv p0.W), (iv p0.H), (iv p0.Rail), (iv p0.Gap), (.slice Ap0_0 (p0.Kinds).length cp0_0), (.slice Ap0_1 (p0.Slots).length cp0_1), (.slice Ap0_2 (p0.Marks).length cp0_2)] 26), (2, ow Ay103_0 cy103_0 49 fl_TBoardKind y103.1.Kinds), (3, ow Ay103_1 cy103_1 53 fl_TSlot y103.1.Slots), (4, ow Ay103_2 cy103_2 51 fl_TPoint y103.1.Marks), (5, bx b105 #[(iv y103.1.W), (iv y103.1.H), (iv y103.1.Rail), (iv y103.1.Gap), (.slice Ay103_0 (y103.1.Kinds).length cy103_0), (.slice Ay103_1 (y103.1.Slots).length cy103_1), (.slice Ay103_2 (y103.1.Marks).length cy103_2)] 26), (6, ow Ay106_0 cy106_0 49 fl_TBoardKind y106.1.Kinds), (7, ow Ay106_1 cy106_1 53 fl_TSlot y106.1.Slots), (8, ow Ay106_2 cy106_2 51 fl_TPoint y106.1.Marks), (9, bx b108 #[(iv y106.1.W), (iv y106.1.H), (iv y106.1.Rail), (iv y106.1.Gap), (.slice Ay106_0 (y106.1.Kinds).length cy106_0), (.slice Ay106_1 (y106.1.Slots).length cy106_1), (.slice Ay106_2 (y106.1.Marks).length cy106_2)] 26)]) _
     refine Tr.mv rfl rfl ?_
     obtain ⟨g113, hg113, H⟩ := bnd H
     refine Tr.mid0 2 [(62, (.bool g113))] [(1, bx b100 #[(iv p0.W), (iv p0.H), (iv p0.Rail), (iv p0.Gap), (.slice Ap0_0 (p0.Kinds).length cp0_0), (.slice Ap0_1 (p0.Slots).length cp0_1), (.slice Ap0_2 (p0.Marks).length cp0_2)] 26), (2, ow Ay103_0 cy103_0 49 fl_TBoardKind y103.1.Kinds), (3, ow Ay103_1 cy103_1 53 fl_TSlot y103.1.Slots), (4, ow Ay103_2 cy103_2 51 fl_TPoint y103.1.Marks), (5, bx b105 #[(iv y103.1.W), (iv y103.1.H), (iv y103.1.Rail), (iv y103.1.Gap), (.slice Ay103_0 (y103.1.Kinds).length cy103_0), (.slice Ay103_1 (y103.1.Slots).length cy103_1), (.slice Ay103_2 (y103.1.Marks).length cy103_2)] 26), (6, ow Ay106_0 cy106_0 49 fl_TBoardKind y106.1.Kinds), (7, ow Ay106_1 cy106_1 53 fl_TSlot y106.1.Slots), (8, ow Ay106_2 cy106_2 51 fl_TPoint y106.1.Marks), (9, bx b108 #[(iv y106.1.W), (iv y106.1.H), (iv y106.1.Rail), (iv y106.1.Gap), (.slice Ay106_0 (y106.1.Kinds).length cy106_0), (.slice Ay106_1 (y106.1.Slots).length cy106_1), (.slice Ay106_2 (y106.1.Marks).length cy106_2)] 26)] ?_ ?_
     ·cases hg114 : ((g110 && (y103.2.1 == y106.2.1)) && (y103.2.2 == y106.2.2))
      ·rw [hg114] at hg113
       rw [if_neg (by decide)] at hg113
       have H := hg113
       obtain rfl := Option.some.inj H
       refine Tr.pass rfl rfl rfl rfl rfl (by decide) ?_
       refine Tr.va rfl (fun _ _ h1 h2 => run_pickF (h1.ev rfl) (h1.ev rfl)) ?_
       exact Tr.nil (Tr.fin0 (.cons rfl .nil) (.cons rfl (.cons rfl (.cons rfl (.cons rfl (.cons rfl (.cons rfl (.cons rfl (.cons rfl (.cons rfl .nil))))))))))
      ·rw [hg114] at hg113
       rw [if_pos rfl] at hg113
       have H := hg113
       obtain ⟨y114, hy114, H⟩ := bnd H
       refine Tr.call0 (r := (.bool y114)) (wg rfl rfl rfl) rfl Tryz.call8 evl_nil (fun W hW => F_etchhouselaw9_awake_ok N y114 hy114 (HF.start _)) ?_
       refine Tr.va rfl (fun _ _ h1 h2 => run_pickT (h1.ev rfl) (h1.ev rfl)) ?_
       obtain rfl := Option.some.inj H
       exact Tr.nil (Tr.fin0 (.cons rfl .nil) (.cons rfl (.cons rfl (.cons rfl (.cons rfl (.cons rfl (.cons rfl (.cons rfl (.cons rfl (.cons rfl .nil))))))))))
     ·show Tr _ _ (LF [(62, (.bool g113))]) (LE [(1, bx b100 #[(iv p0.W), (iv p0.H), (iv p0.Rail), (iv p0.Gap), (.slice Ap0_0 (p0.Kinds).length cp0_0), (.slice Ap0_1 (p0.Slots).length cp0_1), (.slice Ap0_2 (p0.Marks).length cp0_2)] 26), (2, ow Ay103_0 cy103_0 49 fl_TBoardKind y103.1.Kinds), (3, ow Ay103_1 cy103_1 53 fl_TSlot y103.1.Slots), (4, ow Ay103_2 cy103_2 51 fl_TPoint y103.1.Marks), (5, bx b105 #[(iv y103.1.W), (iv y103.1.H), (iv y103.1.Rail), (iv y103.1.Gap), (.slice Ay103_0 (y103.1.Kinds).length cy103_0), (.slice Ay103_1 (y103.1.Slots).length cy103_1), (.slice Ay103_2 (y103.1.Marks).length cy103_2)] 26), (6, ow Ay106_0 cy106_0 49 fl_TBoardKind y106.1.Kinds), (7, ow Ay106_1 cy106_1 53 fl_TSlot y106.1.Slots), (8, ow Ay106_2 cy106_2 51 fl_TPoint y106.1.Marks), (9, bx b108 #[(iv y106.1.W), (iv y106.1.H), (iv y106.1.Rail), (iv y106.1.Gap), (.slice Ay106_0 (y106.1.Kinds).length cy106_0), (.slice Ay106_1 (y106.1.Slots).length cy106_1), (.slice Ay106_2 (y106.1.Marks).length cy106_2)] 26)]) _
      refine Tr.asg rfl rfl ?_
      refine Tr.nil (Tr.normThen ?_)
      refine Tr.ret ?_
      obtain rfl := Option.some.inj H
      exact Tr.out (m := [(.bool g113)]) [] (res_tmp rfl res_nil) (fun W hW => ⟨rfl, hW.low leB⟩)

end Go.Proofs.YtmbjoffligicnaaGreatDoor
