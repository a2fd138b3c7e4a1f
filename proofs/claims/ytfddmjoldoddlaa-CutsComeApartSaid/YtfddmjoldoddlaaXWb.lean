/- The walks: each function computes its plain function. -/
import Derived.Test.YtfddmjoldoddlaaXWa
namespace Go.Proofs.Ytfddmjoldoddlaa
open Go.RowKit
set_option maxRecDepth 100000
set_option maxHeartbeats 1000000
theorem F_panel_cuts_b_ok (N : Nat) (rec : TRect → (List TRect) → Option ((List TCut) × Bool)) (hrec : ∀ {w : Bs} (p0 : TRect) (p1 : (List TRect)) (Ap1_0 : Option Addr) (cp1_0 : Nat) (hp1_0 : Sl w.R w.W fl_TRect Ap1_0 cp1_0 p1) (r : ((List TCut) × Bool)) (H : rec p0 p1 = some r) (hE : HF w w.W (LEn [emp])), Calls Try.prog 26 [(.agg #[(.int .i64 p0.X0), (.int .i64 p0.Y0), (.int .i64 p0.X1), (.int .i64 p0.Y1)]), (.slice Ap1_0 (p1).length cp1_0)].toArray w.W fun e W' => ∃ u : (Option Addr × Nat), e = .returned (.tuple #[(.slice u.1 (r.1).length u.2), (.bool r.2)]) ∧ (SlF u.1 (r.1).length u.2) ∧ HF w W' (LEn [ow u.1 u.2 40 fl_TCut r.1])) {w : Bs} (p0 : TRect) (p1 : (List TRect)) (Ap1_0 : Option Addr) (cp1_0 : Nat) (hp1_0 : Sl w.R w.W fl_TRect Ap1_0 cp1_0 p1) (r : ((List TCut) × Bool)) (H : F_panel_cuts_b N rec p0 p1 = some r) (hE : HF w w.W (LEn [emp])) : Calls Try.prog 26 [(.agg #[(.int .i64 p0.X0), (.int .i64 p0.Y0), (.int .i64 p0.X1), (.int .i64 p0.Y1)]), (.slice Ap1_0 (p1).length cp1_0)].toArray w.W fun e W' => ∃ u : (Option Addr × Nat), e = .returned (.tuple #[(.slice u.1 (r.1).length u.2), (.bool r.2)]) ∧ (SlF u.1 (r.1).length u.2) ∧ HF w W' (LEn [ow u.1 u.2 40 fl_TCut r.1]) := by
 unfold F_panel_cuts_b at H
 have leB := Bs.Le.refl w
 refine Tr.enter (n := 96) Try.func26 rfl rfl rfl hE ?_
 refine Tr.sr ?_
 refine Tr.box 1 (cs := [(.int .i64 p0.X0), (.int .i64 p0.Y0), (.int .i64 p0.X1), (.int .i64 p0.Y1)]) (wn rfl) rfl rfl rfl fun b100 => ?_
 refine Tr.asg rfl rfl ?_
 refine Tr.nilOwn 2 40 fl_TCut ?_
 show Tr _ _ (uf _ 4 (.slice none (([] : List TCut)).length 0)) _ _
 refine Tr.asg rfl rfl ?_
 refine Tr.nil (Tr.normThen ?_)
 refine Tr.seq ?_
 refine Tr.sr ?_
 refine Tr.mv rfl rfl ?_
 refine Tr.va rfl (fun _ _ h1 h2 => run_len un_32 (h1.ev rfl)) ?_
 refine Tr.va rfl (fun _ _ h1 h2 => run_lss (h1.ev rfl) (h1.ev rfl)) ?_
 refine Tr.nil (Tr.normThen ?_)
 refine Tr.cond rfl H (fun H => ?_) (fun H => ?_)
 ·refine Tr.sr ?_
  refine Tr.asg rfl rfl ?_
  refine Tr.nilOwn 3 40 fl_TCut ?_
  show Tr _ _ (uf _ 4 (.slice none (([] : List TCut)).length 0)) _ _
  refine Tr.asg rfl rfl ?_
  refine Tr.nil (Tr.normThen ?_)
  refine Tr.ret (Tr.retThen ?_)
  obtain rfl := Option.some.inj H
  exact Tr.out (m := [(.slice none (([] : List TCut)).length 0), (.bool true)]) [] (res_tmp rfl (res_tmp rfl res_nil)) (fun W hW => ⟨(none, 0), rfl, slf_nil, HF.lowE leB (hW.pick (ks := [3]) (by decide) (pk_cons rfl pk_nil)) ⟨ow_any _ _ _ _ tr_TCut, trivial⟩⟩)
 ·refine Tr.skip (Tr.normThen ?_)
  refine Tr.sr ?_
  refine Tr.asg rfl rfl ?_
  refine Tr.nil (Tr.normThen ?_)
  refine Tr.sr ?_
  refine Tr.mv rfl rfl ?_
  obtain ⟨y101, hy101, H⟩ := bnd H
  refine Tr.call0 (r := (.tuple #[(.int .i64 y101.1), (.bool y101.2)])) (wn rfl) rfl Try.call57 (evl_cons rfl (evl_cons rfl evl_nil)) (fun W hW => F_panel_place_ok p1 Ap1_0 cp1_0 (hp1_0.ext hW.extAll) true y101 hy101 (HF.start _)) ?_
  refine Tr.mv rfl rfl ?_
  refine Tr.va rfl (fun _ _ h1 h2 => run_extract (h1.ev rfl) rfl) ?_
  refine Tr.va rfl (fun _ _ h1 h2 => run_extract (h1.ev rfl) rfl) ?_
  refine Tr.asg rfl rfl ?_
  refine Tr.asg rfl rfl ?_
  refine Tr.nil (Tr.normThen ?_)
  have leJ105 := Bs.Le.refl w
  refine Tr.cutJ (σ := Bool × Int) (fun w s => F_panel_cuts_J3 p0 p1 rec s.1 s.2 = some r) (fun s => [(1, (.slice Ap1_0 (p1).length cp1_0)), (2, (.pointer (some ⟨b100, 0, none⟩))), (6, (.bool s.1)), (7, (.int .i64 s.2))]) (fun s => [(1, bx b100 #[(.int .i64 p0.X0), (.int .i64 p0.Y0), (.int .i64 p0.X1), (.int .i64 p0.Y1)] 38)]) ?_ ?_
  ·refine Tr.sr ?_
   refine Tr.mv rfl rfl ?_
   refine Tr.va rfl (fun _ _ h1 h2 => run_not (h1.ev rfl)) ?_
   refine Tr.nil (Tr.normThen ?_)
   refine Tr.cond rfl H (fun H => ?_) (fun H => ?_)
   ·refine Tr.sr ?_
    refine Tr.asg rfl rfl ?_
    refine Tr.nil (Tr.normThen ?_)
    refine Tr.sr ?_
    refine Tr.mv rfl rfl ?_
    obtain ⟨y162, hy162, H⟩ := bnd H
    refine Tr.call0 (r := (.tuple #[(.int .i64 y162.1), (.bool y162.2)])) (wn rfl) rfl Try.call57 (evl_cons rfl (evl_cons rfl evl_nil)) (fun W hW => F_panel_place_ok p1 Ap1_0 cp1_0 (hp1_0.ext hW.extAll) false y162 hy162 (HF.start _)) ?_
    refine Tr.mv rfl rfl ?_
    refine Tr.va rfl (fun _ _ h1 h2 => run_extract (h1.ev rfl) rfl) ?_
    refine Tr.va rfl (fun _ _ h1 h2 => run_extract (h1.ev rfl) rfl) ?_
    refine Tr.asg rfl rfl ?_
    refine Tr.asg rfl rfl ?_
    refine Tr.nil (Tr.normThen ?_)
    refine Tr.sr ?_
    refine Tr.mv rfl rfl ?_
    refine Tr.va rfl (fun _ _ h1 h2 => run_not (h1.ev rfl)) ?_
    refine Tr.nil (Tr.normThen ?_)
    refine Tr.cond rfl H (fun H => ?_) (fun H => ?_)
    ·refine Tr.sr ?_
     refine Tr.asg rfl rfl ?_
     refine Tr.nilOwn 25 40 fl_TCut ?_
     show Tr _ _ (uf _ 4 (.slice none (([] : List TCut)).length 0)) _ _
     refine Tr.asg rfl rfl ?_
     refine Tr.nil (Tr.normThen ?_)
     refine Tr.ret (Tr.retThen ?_)
     obtain rfl := Option.some.inj H
     exact Tr.out (m := [(.slice none (([] : List TCut)).length 0), (.bool false)]) [] (res_tmp rfl (res_tmp rfl res_nil)) (fun W hW => ⟨(none, 0), rfl, slf_nil, HF.lowE leB (hW.pick (ks := [25]) (by decide) (pk_cons rfl pk_nil)) ⟨ow_any _ _ _ _ tr_TCut, trivial⟩⟩)
    ·refine Tr.skip ?_
     exact Tr.backThen leJ105 (false, y162.1) H (.cons rfl (.cons rfl (.cons rfl (.cons rfl .nil)))) (.cons rfl .nil)
   ·refine Tr.skip ?_
    exact Tr.backThen leJ105 (true, y101.1) H (.cons rfl (.cons rfl (.cons rfl (.cons rfl .nil)))) (.cons rfl .nil)
  ·intro w s hlJ106 hs
   obtain ⟨x103, x104⟩ := s
   have H := hs
   replace H : F_panel_cuts_J3 p0 p1 rec x103 x104 = some r := H
   replace hp1_0 := hp1_0.leR hlJ106
   replace leB := leB.trans hlJ106
   unfold F_panel_cuts_J3 at H
   show Tr _ _ (LF [(1, (.slice Ap1_0 (p1).length cp1_0)), (2, (.pointer (some ⟨b100, 0, none⟩))), (6, (.bool x103)), (7, (.int .i64 x104))]) (LE [(1, bx b100 #[(.int .i64 p0.X0), (.int .i64 p0.Y0), (.int .i64 p0.X1), (.int .i64 p0.Y1)] 38)]) _
   refine Tr.seq ?_
   refine Tr.drawC 5 [] [4] (by kernel_rfl) (by kernel_rfl) fun sz107 hlosz107 hEsz107 => ?_
   refine Dr.quiet 0 [(36, (.agg #[(.int .i64 p0.X0), (.int .i64 p0.Y0), (.int .i64 p0.X1), (.int .i64 p0.Y1)]))] (by kernel_rfl) rfl rfl (by kernel_rfl) ?_ rfl rfl ?_
   ·refine Tq.va rfl (fun _ _ h1 h2 => run_loadN (cs := [(.int .i64 p0.X0), (.int .i64 p0.Y0), (.int .i64 p0.X1), (.int .i64 p0.Y1)]) ag_38 sz_38 (h1.ev rfl) (CellsAt.take (rdb h2 (vs := [(.int .i64 p0.X0), (.int .i64 p0.Y0), (.int .i64 p0.X1), (.int .i64 p0.Y1)]) (k := 1) rfl 0) 4) rfl) ?_
    exact Tq.fin (.cons rfl .nil)
   refine Dr.quietZ 1 [(37, (.agg #[(.int .i64 p0.X0), (.int .i64 p0.Y0), (.int .i64 p0.X1), (.int .i64 p0.Y1)]))] [] true (by kernel_rfl) rfl rfl (by kernel_rfl) (fun W W' h2 hsW hk => HF.keepZ (le := [(1, bx b100 #[(.int .i64 p0.X0), (.int .i64 p0.Y0), (.int .i64 p0.X1), (.int .i64 p0.Y1)] 38)]) (ks := []) (s0 := sz107) true h2 hk (fun _ => hlosz107) (.cons rfl .nil) (fun b hb => hb.elim (fun ⟨_, hp, _⟩ => nomatch hp) (fun hb => .inr ⟨rfl, hb.2, (List.forall_mem_cons.2 ⟨fun b hb => hEsz107 1 b hb, (fun _ h => nomatch h)⟩)⟩)) (fun _ h => nomatch h) rfl) ?_ rfl rfl ?_
   ·refine Tq.va rfl (fun _ _ h1 h2 => run_loadN (cs := [(.int .i64 p0.X0), (.int .i64 p0.Y0), (.int .i64 p0.X1), (.int .i64 p0.Y1)]) ag_38 sz_38 (h1.ev rfl) (CellsAt.take (rdb h2 (vs := [(.int .i64 p0.X0), (.int .i64 p0.Y0), (.int .i64 p0.X1), (.int .i64 p0.Y1)]) (k := 1) rfl 0) 4) rfl) ?_
    exact Tq.fin (.cons rfl .nil)
   refine Dr.cut (U := Nat × Nat) [2, 3] 1 (fun u => sz107 ≤ u.1 ∧ sz107 ≤ u.2) (fun u => [(1, (.slice Ap1_0 (p1).length cp1_0)), (2, (.pointer (some ⟨b100, 0, none⟩))), (6, (.bool x103)), (7, (.int .i64 x104)), (9, (.pointer (some ⟨u.1, 0, none⟩))), (10, (.pointer (some ⟨u.2, 0, none⟩))), (36, (.agg #[(.int .i64 p0.X0), (.int .i64 p0.Y0), (.int .i64 p0.X1), (.int .i64 p0.Y1)])), (37, (.agg #[(.int .i64 p0.X0), (.int .i64 p0.Y0), (.int .i64 p0.X1), (.int .i64 p0.Y1)]))]) (fun u => [(1, bx b100 #[(.int .i64 p0.X0), (.int .i64 p0.Y0), (.int .i64 p0.X1), (.int .i64 p0.Y1)] 38), (5, bx u.1 #[(.int .i64 0), (.int .i64 0), (.int .i64 0), (.int .i64 0)] 38), (6, bx u.2 #[(.int .i64 0), (.int .i64 0), (.int .i64 0), (.int .i64 0)] 38)]) ?_ ?_
   ·intro hC
    refine Dr.pair 2 3 (by kernel_rfl) ?_ ?_
    ·refine St.alloc 2 5 rfl (wn rfl) rfl ze_38 fun b108 hb108 => ?_
     refine Dr.one 3 (by kernel_rfl) ?_
     refine St.alloc 3 6 rfl (wn rfl) rfl ze_38 fun b109 hb109 => ?_
     exact (hC ⟨b108, b109⟩ ⟨hb108, hb109⟩).use (by kernel_rfl) (.cons rfl (.cons rfl (.cons rfl (.cons rfl (.cons rfl (.cons rfl (.cons rfl (.cons rfl .nil)))))))) (.cons rfl (.cons rfl (.cons rfl .nil)))
    ·refine St.alloc 3 6 rfl (wn rfl) rfl ze_38 fun b109 hb109 => ?_
     refine Dr.one 2 (by kernel_rfl) ?_
     refine St.alloc 2 5 rfl (wn rfl) rfl ze_38 fun b108 hb108 => ?_
     exact (hC ⟨b108, b109⟩ ⟨hb108, hb109⟩).use (by kernel_rfl) (.cons rfl (.cons rfl (.cons rfl (.cons rfl (.cons rfl (.cons rfl (.cons rfl (.cons rfl .nil)))))))) (.cons rfl (.cons rfl (.cons rfl .nil)))
   intro u hu
   obtain ⟨b108, b109⟩ := u
   obtain ⟨hb108, hb109⟩ := hu
   replace hb108 : sz107 ≤ b108 := hb108
   replace hb109 : sz107 ≤ b109 := hb109
   show Dr _ _ _ _ _ _ _ _ _ (LF [(1, (.slice Ap1_0 (p1).length cp1_0)), (2, (.pointer (some ⟨b100, 0, none⟩))), (6, (.bool x103)), (7, (.int .i64 x104)), (9, (.pointer (some ⟨b108, 0, none⟩))), (10, (.pointer (some ⟨b109, 0, none⟩))), (36, (.agg #[(.int .i64 p0.X0), (.int .i64 p0.Y0), (.int .i64 p0.X1), (.int .i64 p0.Y1)])), (37, (.agg #[(.int .i64 p0.X0), (.int .i64 p0.Y0), (.int .i64 p0.X1), (.int .i64 p0.Y1)]))]) (LE [(1, bx b100 #[(.int .i64 p0.X0), (.int .i64 p0.Y0), (.int .i64 p0.X1), (.int .i64 p0.Y1)] 38), (5, bx b108 #[(.int .i64 0), (.int .i64 0), (.int .i64 0), (.int .i64 0)] 38), (6, bx b109 #[(.int .i64 0), (.int .i64 0), (.int .i64 0), (.int .i64 0)] 38)])
   refine Dr.one 4 (by kernel_rfl) ?_
   refine St.store 4 5 (cs := [(.int .i64 p0.X0), (.int .i64 p0.Y0), (.int .i64 p0.X1), (.int .i64 p0.Y1)]) [(.int .i64 p0.X0), (.int .i64 p0.Y0), (.int .i64 p0.X1), (.int .i64 p0.Y1)] rfl (wn rfl) (.inr ⟨by simp, hb108⟩) rfl rfl rfl rfl sz_38 rfl rfl rfl ?_
   refine Dr.tail (by kernel_rfl) ?_
   refine Tr.store 6 (cs := [(.int .i64 p0.X0), (.int .i64 p0.Y0), (.int .i64 p0.X1), (.int .i64 p0.Y1)]) [(.int .i64 p0.X0), (.int .i64 p0.Y0), (.int .i64 p0.X1), (.int .i64 p0.Y1)] (wn rfl) rfl rfl rfl rfl sz_38 rfl rfl rfl ?_
   refine Tr.nil (Tr.normThen ?_)
   have leJ114 := Bs.Le.refl w
   refine Tr.cutJ (σ := Int × Int × Int × Int) (fun w s => F_panel_cuts_J2 p0 p1 rec x103 x104 s.1 s.2.1 s.2.2.1 s.2.2.2 = some r) (fun s => [(1, (.slice Ap1_0 (p1).length cp1_0)), (2, (.pointer (some ⟨b100, 0, none⟩))), (6, (.bool x103)), (7, (.int .i64 x104)), (9, (.pointer (some ⟨b108, 0, none⟩))), (10, (.pointer (some ⟨b109, 0, none⟩)))]) (fun s => [(1, bx b100 #[(.int .i64 p0.X0), (.int .i64 p0.Y0), (.int .i64 p0.X1), (.int .i64 p0.Y1)] 38), (5, bx b108 #[(.int .i64 p0.X0), (.int .i64 p0.Y0), (.int .i64 s.1), (.int .i64 s.2.1)] 38), (6, bx b109 #[(.int .i64 s.2.2.1), (.int .i64 s.2.2.2), (.int .i64 p0.X1), (.int .i64 p0.Y1)] 38)]) ?_ ?_
   ·refine Tr.sr ?_
    refine Tr.mv rfl rfl ?_
    refine Tr.nil (Tr.normThen ?_)
    refine Tr.cond rfl H (fun H => ?_) (fun H => ?_)
    ·refine Tr.region ?_
     refine Tr.mv rfl rfl ?_
     refine Tr.mv rfl rfl ?_
     refine Tr.va rfl (fun _ _ h1 h2 => run_fieldAddr fo_38_3 (h1.ev rfl)) ?_
     refine Tr.store 5 (cs := [(.int .i64 x104)]) [(.int .i64 p0.X0), (.int .i64 p0.Y0), (.int .i64 p0.X1), (.int .i64 x104)] (wn rfl) rfl rfl rfl rfl sz_3 rfl rfl rfl ?_
     refine Tr.va rfl (fun _ _ h1 h2 => run_fieldAddr fo_38_1 (h1.ev rfl)) ?_
     refine Tr.store 6 (cs := [(.int .i64 x104)]) [(.int .i64 p0.X0), (.int .i64 x104), (.int .i64 p0.X1), (.int .i64 p0.Y1)] (wn rfl) rfl rfl rfl rfl sz_3 rfl rfl rfl ?_
     refine Tr.nil ?_
     exact Tr.backThen leJ114 (p0.X1, x104, p0.X0, x104) H (.cons rfl (.cons rfl (.cons rfl (.cons rfl (.cons rfl (.cons rfl .nil)))))) (.cons rfl (.cons rfl (.cons rfl .nil)))
    ·refine Tr.region ?_
     refine Tr.mv rfl rfl ?_
     refine Tr.mv rfl rfl ?_
     refine Tr.va rfl (fun _ _ h1 h2 => run_fieldAddr fo_38_2 (h1.ev rfl)) ?_
     refine Tr.store 5 (cs := [(.int .i64 x104)]) [(.int .i64 p0.X0), (.int .i64 p0.Y0), (.int .i64 x104), (.int .i64 p0.Y1)] (wn rfl) rfl rfl rfl rfl sz_3 rfl rfl rfl ?_
     refine Tr.va rfl (fun _ _ h1 h2 => run_fieldAddr fo_38_0 (h1.ev rfl)) ?_
     refine Tr.store 6 (cs := [(.int .i64 x104)]) [(.int .i64 x104), (.int .i64 p0.Y0), (.int .i64 p0.X1), (.int .i64 p0.Y1)] (wn rfl) rfl rfl rfl rfl sz_3 rfl rfl rfl ?_
     refine Tr.nil ?_
     exact Tr.backThen leJ114 (x104, p0.Y1, x104, p0.Y0) H (.cons rfl (.cons rfl (.cons rfl (.cons rfl (.cons rfl (.cons rfl .nil)))))) (.cons rfl (.cons rfl (.cons rfl .nil)))
   ·intro w s hlJ115 hs
    obtain ⟨x110, x111, x112, x113⟩ := s
    have H := hs
    replace H : F_panel_cuts_J2 p0 p1 rec x103 x104 x110 x111 x112 x113 = some r := H
    replace hp1_0 := hp1_0.leR hlJ115
    replace leB := leB.trans hlJ115
    unfold F_panel_cuts_J2 at H
    show Tr _ _ (LF [(1, (.slice Ap1_0 (p1).length cp1_0)), (2, (.pointer (some ⟨b100, 0, none⟩))), (6, (.bool x103)), (7, (.int .i64 x104)), (9, (.pointer (some ⟨b108, 0, none⟩))), (10, (.pointer (some ⟨b109, 0, none⟩)))]) (LE [(1, bx b100 #[(.int .i64 p0.X0), (.int .i64 p0.Y0), (.int .i64 p0.X1), (.int .i64 p0.Y1)] 38), (5, bx b108 #[(.int .i64 p0.X0), (.int .i64 p0.Y0), (.int .i64 x110), (.int .i64 x111)] 38), (6, bx b109 #[(.int .i64 x112), (.int .i64 x113), (.int .i64 p0.X1), (.int .i64 p0.Y1)] 38)]) _
    refine Tr.sr ?_
    refine Tr.asg rfl rfl ?_
    refine Tr.nilOwn 7 38 fl_TRect ?_
    show Tr _ _ (uf _ 11 (.slice none (([] : List TRect)).length 0)) _ _
    refine Tr.asg rfl rfl ?_
    refine Tr.nilOwn 8 38 fl_TRect ?_
    show Tr _ _ (uf _ 12 (.slice none (([] : List TRect)).length 0)) _ _
    refine Tr.nil (Tr.normThen ?_)
    refine Tr.seq ?_
    refine Tr.sr ?_
    refine Tr.mv rfl rfl ?_
    refine Tr.va rfl (fun _ _ h1 h2 => run_len un_32 (h1.ev rfl)) ?_
    refine Tr.mv rfl rfl ?_
    refine Tr.nil (Tr.normThen ?_)
    refine Tr.block ?_
    refine Tr.loop (σ := (List TRect) × Nat × (List TRect) × (List TRect) × (Option Addr) × Nat × (Option Addr) × Nat) (fun m w s => m = s.1.length + 1 ∧ s.1 = List.drop s.2.1 p1 ∧ s.2.1 ≤ p1.length ∧ F_panel_cuts_L1 p0 rec x103 x104 x110 x111 x112 x113 s.1 s.2.1 s.2.2.1 s.2.2.2.1 = some r ∧ SlF s.2.2.2.2.1 (s.2.2.1).length s.2.2.2.2.2.1 ∧ SlF s.2.2.2.2.2.2.1 (s.2.2.2.1).length s.2.2.2.2.2.2.2) (fun s => [(2, (.pointer (some ⟨b100, 0, none⟩))), (6, (.bool x103)), (7, (.int .i64 x104)), (9, (.pointer (some ⟨b108, 0, none⟩))), (10, (.pointer (some ⟨b109, 0, none⟩))), (11, (.slice s.2.2.2.2.1 (s.2.2.1).length s.2.2.2.2.2.1)), (12, (.slice s.2.2.2.2.2.2.1 (s.2.2.2.1).length s.2.2.2.2.2.2.2)), (47, (.slice Ap1_0 (p1).length cp1_0)), (48, (.int .i64 (p1.length : Int))), (49, (.int .i64 (s.2.1 : Int)))]) (fun s => [(1, bx b100 #[(.int .i64 p0.X0), (.int .i64 p0.Y0), (.int .i64 p0.X1), (.int .i64 p0.Y1)] 38), (5, bx b108 #[(.int .i64 p0.X0), (.int .i64 p0.Y0), (.int .i64 x110), (.int .i64 x111)] 38), (6, bx b109 #[(.int .i64 x112), (.int .i64 x113), (.int .i64 p0.X1), (.int .i64 p0.Y1)] 38), (7, ow s.2.2.2.2.1 s.2.2.2.2.2.1 38 fl_TRect s.2.2.1), (8, ow s.2.2.2.2.2.2.1 s.2.2.2.2.2.2.2 38 fl_TRect s.2.2.2.1)]) (p1.length + 1) (p1, 0, ([] : List TRect), ([] : List TRect), none, 0, none, 0) ⟨rfl, rfl, Nat.zero_le _, H, slf_nil, slf_nil⟩ (.cons rfl (.cons rfl (.cons rfl (.cons rfl (.cons rfl (.cons rfl (.cons rfl (.cons rfl (.cons rfl (.cons rfl .nil)))))))))) (.cons rfl (.cons rfl (.cons rfl (.cons rfl (.cons rfl .nil))))) (fun _ _ h => absurd h.1 (by simp)) ?_
    intro w leF_panel_cuts_L1 m s hs
    obtain ⟨restF_panel_cuts_L1, iF_panel_cuts_L1, l139, l140, Al139, cl139, Al140, cl140⟩ := s
    obtain ⟨hmF_panel_cuts_L1, hdF_panel_cuts_L1, hiF_panel_cuts_L1, H, hl139, hl140⟩ := hs
    replace hdF_panel_cuts_L1 : restF_panel_cuts_L1 = List.drop iF_panel_cuts_L1 p1 := hdF_panel_cuts_L1
    replace H : F_panel_cuts_L1 p0 rec x103 x104 x110 x111 x112 x113 restF_panel_cuts_L1 iF_panel_cuts_L1 l139 l140 = some r := H
    replace hmF_panel_cuts_L1 : m + 1 = restF_panel_cuts_L1.length + 1 := hmF_panel_cuts_L1
    replace hp1_0 := hp1_0.leR leF_panel_cuts_L1
    replace leB := leB.trans leF_panel_cuts_L1
    replace hl139 : SlF Al139 (l139).length cl139 := hl139
    replace hl140 : SlF Al140 (l140).length cl140 := hl140
    obtain rfl : m = restF_panel_cuts_L1.length := by omega
    clear hmF_panel_cuts_L1
    show Tr _ _ (LF [(2, (.pointer (some ⟨b100, 0, none⟩))), (6, (.bool x103)), (7, (.int .i64 x104)), (9, (.pointer (some ⟨b108, 0, none⟩))), (10, (.pointer (some ⟨b109, 0, none⟩))), (11, (.slice Al139 (l139).length cl139)), (12, (.slice Al140 (l140).length cl140)), (47, (.slice Ap1_0 (p1).length cp1_0)), (48, (.int .i64 (p1.length : Int))), (49, (.int .i64 (iF_panel_cuts_L1 : Int)))]) (LE [(1, bx b100 #[(.int .i64 p0.X0), (.int .i64 p0.Y0), (.int .i64 p0.X1), (.int .i64 p0.Y1)] 38), (5, bx b108 #[(.int .i64 p0.X0), (.int .i64 p0.Y0), (.int .i64 x110), (.int .i64 x111)] 38), (6, bx b109 #[(.int .i64 x112), (.int .i64 x113), (.int .i64 p0.X1), (.int .i64 p0.Y1)] 38), (7, ow Al139 cl139 38 fl_TRect l139), (8, ow Al140 cl140 38 fl_TRect l140)]) _
    cases restF_panel_cuts_L1 with
    | nil =>
     rw [F_panel_cuts_L1.eq_1] at H
     refine Tr.sr ?_
     refine Tr.va rfl (fun _ _ h1 h2 => run_lss (h1.ev rfl) (h1.ev rfl)) ?_
     refine Tr.nil (Tr.normThen ?_)
     refine Tr.seq ?_
     refine Tr.condF rfl (range_nil hdF_panel_cuts_L1) ?_
     refine Tr.exit (Tr.exitThen (Tr.exitThen (Tr.exitBlock (Tr.normThen ?_))))
     refine Tr.sr ?_
     refine Tr.va rfl (fun _ _ h1 h2 => run_loadN (cs := [(.int .i64 p0.X0), (.int .i64 p0.Y0), (.int .i64 x110), (.int .i64 x111)]) ag_38 sz_38 (h1.ev rfl) (CellsAt.take (rdb h2 (vs := [(.int .i64 p0.X0), (.int .i64 p0.Y0), (.int .i64 x110), (.int .i64 x111)]) (k := 5) rfl 0) 4) rfl) ?_
     refine Tr.mv rfl rfl ?_
     obtain ⟨y141, hy141, H⟩ := bnd H
     refine Tr.callM [15] [emp] (U := (Option Addr × Nat)) (fun u => (.tuple #[(.slice u.1 (y141.1).length u.2), (.bool y141.2)])) (fun u => SlF u.1 (y141.1).length u.2) (fun u => [ow u.1 u.2 40 fl_TCut y141.1]) rfl (pk_cons rfl pk_nil) (fun _ => rfl) (wn rfl) rfl Try.call26 (evl_cons rfl (evl_cons rfl evl_nil)) (fun W hW hp hE => hrec (TRect.mk p0.X0 p0.Y0 x110 x111) l139 Al139 cl139 (hW.slS (k := 7) rfl hp rfl) y141 hy141 hE) ?_
     intro u hu
     obtain ⟨Ay141_0, cy141_0⟩ := u
     have gy141_0 := hu
     have hgy141_0 : SlF Ay141_0 (y141.1).length cy141_0 := gy141_0 --@phi
     show Tr _ _ (uf _ 74 (.tuple #[(.slice Ay141_0 (y141.1).length cy141_0), (.bool y141.2)])) (up _ 15 (ow Ay141_0 cy141_0 40 fl_TCut y141.1)) _
     refine Tr.mv rfl rfl ?_
     refine Tr.va rfl (fun _ _ h1 h2 => run_extract (h1.ev rfl) rfl) ?_
     refine Tr.va rfl (fun _ _ h1 h2 => run_extract (h1.ev rfl) rfl) ?_
     refine Tr.asg rfl rfl ?_
     refine Tr.asg rfl rfl ?_
     refine Tr.nil (Tr.normThen ?_)
     refine Tr.seq ?_
     refine Tr.sr ?_
     refine Tr.mv rfl rfl ?_
     refine Tr.va rfl (fun _ _ h1 h2 => run_not (h1.ev rfl)) ?_
     refine Tr.nil (Tr.normThen ?_)
     refine Tr.cond rfl H (fun H => ?_) (fun H => ?_)
     ·refine Tr.sr ?_
      refine Tr.asg rfl rfl ?_
      refine Tr.nilOwn 16 40 fl_TCut ?_
      show Tr _ _ (uf _ 4 (.slice none (([] : List TCut)).length 0)) _ _
      refine Tr.asg rfl rfl ?_
      refine Tr.nil (Tr.normThen ?_)
      refine Tr.ret (Tr.retThen ?_)
      obtain rfl := Option.some.inj H
      exact Tr.out (m := [(.slice none (([] : List TCut)).length 0), (.bool false)]) [] (res_tmp rfl (res_tmp rfl res_nil)) (fun W hW => ⟨(none, 0), rfl, slf_nil, HF.lowE leB (hW.pick (ks := [16]) (by decide) (pk_cons rfl pk_nil)) ⟨ow_any _ _ _ _ tr_TCut, trivial⟩⟩)
     ·refine Tr.skip (Tr.normThen ?_)
      refine Tr.sr ?_
      refine Tr.va rfl (fun _ _ h1 h2 => run_loadN (cs := [(.int .i64 x112), (.int .i64 x113), (.int .i64 p0.X1), (.int .i64 p0.Y1)]) ag_38 sz_38 (h1.ev rfl) (CellsAt.take (rdb h2 (vs := [(.int .i64 x112), (.int .i64 x113), (.int .i64 p0.X1), (.int .i64 p0.Y1)]) (k := 6) rfl 0) 4) rfl) ?_
      refine Tr.mv rfl rfl ?_
      obtain ⟨y143, hy143, H⟩ := bnd H
      refine Tr.callM [17] [emp] (U := (Option Addr × Nat)) (fun u => (.tuple #[(.slice u.1 (y143.1).length u.2), (.bool y143.2)])) (fun u => SlF u.1 (y143.1).length u.2) (fun u => [ow u.1 u.2 40 fl_TCut y143.1]) rfl (pk_cons rfl pk_nil) (fun _ => rfl) (wn rfl) rfl Try.call26 (evl_cons rfl (evl_cons rfl evl_nil)) (fun W hW hp hE => hrec (TRect.mk x112 x113 p0.X1 p0.Y1) l140 Al140 cl140 (hW.slS (k := 8) rfl hp rfl) y143 hy143 hE) ?_
      intro u hu
      obtain ⟨Ay143_0, cy143_0⟩ := u
      have gy143_0 := hu
      have hgy143_0 : SlF Ay143_0 (y143.1).length cy143_0 := gy143_0 --@phi
      show Tr _ _ (uf _ 82 (.tuple #[(.slice Ay143_0 (y143.1).length cy143_0), (.bool y143.2)])) (up _ 17 (ow Ay143_0 cy143_0 40 fl_TCut y143.1)) _
      refine Tr.mv rfl rfl ?_
      refine Tr.va rfl (fun _ _ h1 h2 => run_extract (h1.ev rfl) rfl) ?_
      refine Tr.va rfl (fun _ _ h1 h2 => run_extract (h1.ev rfl) rfl) ?_
      refine Tr.asg rfl rfl ?_
      refine Tr.asg rfl rfl ?_
      refine Tr.nil (Tr.normThen ?_)
      refine Tr.seq ?_
      refine Tr.sr ?_
      refine Tr.mv rfl rfl ?_
      refine Tr.va rfl (fun _ _ h1 h2 => run_not (h1.ev rfl)) ?_
      refine Tr.nil (Tr.normThen ?_)
      refine Tr.cond rfl H (fun H => ?_) (fun H => ?_)
      ·refine Tr.sr ?_
       refine Tr.asg rfl rfl ?_
       refine Tr.nilOwn 18 40 fl_TCut ?_
       show Tr _ _ (uf _ 4 (.slice none (([] : List TCut)).length 0)) _ _
       refine Tr.asg rfl rfl ?_
       refine Tr.nil (Tr.normThen ?_)
       refine Tr.ret (Tr.retThen ?_)
       obtain rfl := Option.some.inj H
       exact Tr.out (m := [(.slice none (([] : List TCut)).length 0), (.bool false)]) [] (res_tmp rfl (res_tmp rfl res_nil)) (fun W hW => ⟨(none, 0), rfl, slf_nil, HF.lowE leB (hW.pick (ks := [18]) (by decide) (pk_cons rfl pk_nil)) ⟨ow_any _ _ _ _ tr_TCut, trivial⟩⟩)
      ·refine Tr.skip (Tr.normThen ?_)
       refine Tr.sr ?_
       refine Tr.va rfl (fun _ _ h1 h2 => run_loadN (cs := [(.int .i64 p0.X0), (.int .i64 p0.Y0), (.int .i64 p0.X1), (.int .i64 p0.Y1)]) ag_38 sz_38 (h1.ev rfl) (CellsAt.take (rdb h2 (vs := [(.int .i64 p0.X0), (.int .i64 p0.Y0), (.int .i64 p0.X1), (.int .i64 p0.Y1)]) (k := 1) rfl 0) 4) rfl) ?_
       refine Tr.mv rfl rfl ?_
       refine Tr.mv rfl rfl ?_
       refine Tr.build (vs := [(0, (.agg #[(.int .i64 p0.X0), (.int .i64 p0.Y0), (.int .i64 p0.X1), (.int .i64 p0.Y1)])), (1, (.bool x103)), (2, (.int .i64 x104))]) (cs := [(.int .i64 p0.X0), (.int .i64 p0.Y0), (.int .i64 p0.X1), (.int .i64 p0.Y1), (.bool x103), (.int .i64 x104)]) (wn rfl) rfl (evs_cons rfl (evs_cons rfl (evs_cons rfl evs_nil))) (by kernel_rfl) ?_
       refine Tr.buildSlice 19 (e := 40) (vs := [(0, (.agg #[(.int .i64 p0.X0), (.int .i64 p0.Y0), (.int .i64 p0.X1), (.int .i64 p0.Y1), (.bool x103), (.int .i64 x104)]))]) (cs := [(.int .i64 p0.X0), (.int .i64 p0.Y0), (.int .i64 p0.X1), (.int .i64 p0.Y1), (.bool x103), (.int .i64 x104)]) (wn rfl) rfl (evs_cons rfl evs_nil) (by kernel_rfl) fun b145 => ?_
       refine Tr.mv rfl rfl ?_
       refine Tr.mv rfl rfl ?_
       refine Tr.own 19 fl_TCut [(TCut.mk p0 x103 x104)] (css := [[(.int .i64 p0.X0), (.int .i64 p0.Y0), (.int .i64 p0.X1), (.int .i64 p0.Y1), (.bool x103), (.int .i64 x104)]]) rfl (.cons ⟨(), trivial, rfl⟩ .nil) rfl (by decide) (lit_max rfl) ?_
       refine Tr.freeze 19 rfl fun w le147 hz146 => ?_
       replace hp1_0 := hp1_0.leR le147
       replace leB := leB.trans le147
       replace leF_panel_cuts_L1 := leF_panel_cuts_L1.trans le147
       refine Tr.freeze 15 rfl fun w le149 hz148 => ?_
       replace hp1_0 := hp1_0.leR le149
       replace hz146 := hz146.le le149
       replace leB := leB.trans le149
       replace leF_panel_cuts_L1 := leF_panel_cuts_L1.trans le149
       refine Tr.freeze 17 rfl fun w le151 hz150 => ?_
       replace hp1_0 := hp1_0.leR le151
       replace hz148 := hz148.le le151
       replace hz146 := hz146.le le151
       replace leB := leB.trans le151
       replace leF_panel_cuts_L1 := leF_panel_cuts_L1.trans le151
       refine Tr.buildSlice 20 (e := 27) (vs := [(0, (.slice (some ⟨b145, 0, none⟩) 1 1)), (1, (.slice Ay141_0 (y141.1).length cy141_0)), (2, (.slice Ay143_0 (y143.1).length cy143_0))]) (cs := [(.slice (some ⟨b145, 0, none⟩) 1 1), (.slice Ay141_0 (y141.1).length cy141_0), (.slice Ay143_0 (y143.1).length cy143_0)]) (wn rfl) rfl (evs_cons rfl (evs_cons rfl (evs_cons rfl evs_nil))) (by kernel_rfl) fun b152 => ?_
       refine Tr.own 20 fl_LTCut [[(TCut.mk p0 x103 x104)], y141.1, y143.1] (css := [[(.slice (some ⟨b145, 0, none⟩) 1 1)], [(.slice Ay141_0 (y141.1).length cy141_0)], [(.slice Ay143_0 (y143.1).length cy143_0)]]) rfl (.cons ⟨((some ⟨b145, 0, none⟩), 1), hz146, rfl⟩ (.cons ⟨(Ay141_0, cy141_0), hz148, rfl⟩ (.cons ⟨(Ay143_0, cy143_0), hz150, rfl⟩ .nil))) rfl (by decide) (lit_max rfl) ?_
       obtain ⟨y153, hy153, H⟩ := bnd H
       refine Tr.callM [21] [emp] (U := (Option Addr × Nat)) (fun u => (.slice u.1 (y153).length u.2)) (fun u => SlF u.1 (y153).length u.2) (fun u => [ow u.1 u.2 40 fl_TCut y153]) rfl (pk_cons rfl pk_nil) (fun _ => rfl) (wn rfl) rfl Try.call58 (evl_cons rfl evl_nil) (fun W hW hp hE => F_slices_Concat_Cut_ok ([[(TCut.mk p0 x103 x104)], y141.1, y143.1]) (some ⟨b152, 0, none⟩) 3 (hW.slS (k := 20) rfl hp rfl) y153 hy153 hE) ?_
       intro u hu
       obtain ⟨Ay153_0, cy153_0⟩ := u
       have gy153_0 := hu
       have hgy153_0 : SlF Ay153_0 (y153).length cy153_0 := gy153_0 --@phi
       show Tr _ _ (uf _ 95 (.slice Ay153_0 (y153).length cy153_0)) (up _ 21 (ow Ay153_0 cy153_0 40 fl_TCut y153)) _
       refine Tr.asg rfl rfl ?_
       refine Tr.asg rfl rfl ?_
       refine Tr.nil (Tr.normThen ?_)
       refine Tr.ret ?_
       obtain rfl := Option.some.inj H
       exact Tr.out (m := [(.slice Ay153_0 (y153).length cy153_0), (.bool true)]) [] (res_tmp rfl (res_tmp rfl res_nil)) (fun W hW => ⟨(Ay153_0, cy153_0), rfl, hgy153_0, HF.lowE leB (hW.pick (ks := [21]) (by decide) (pk_cons rfl pk_nil)) ⟨ow_any _ _ _ _ tr_TCut, trivial⟩⟩)
    | cons xF_panel_cuts_L1 restF_panel_cuts_L1 =>
     rw [F_panel_cuts_L1.eq_2] at H
     refine Tr.sr ?_
     refine Tr.va rfl (fun _ _ h1 h2 => run_lss (h1.ev rfl) (h1.ev rfl)) ?_
     refine Tr.nil (Tr.normThen ?_)
     refine Tr.seq ?_
     refine Tr.condT rfl (range_on hdF_panel_cuts_L1) ?_
     refine Tr.skip (Tr.normThen ?_)
     refine Tr.seq ?_
     refine Tr.block ?_
     refine Tr.sr ?_
     refine Tr.va rfl (fun _ _ h1 h2 => run_indexAddr el_32 (h1.ev rfl) hp1_0.form (h1.ev rfl) (Int.natCast_nonneg _) (range_lt hdF_panel_cuts_L1)) ?_
     refine Tr.va rfl (fun _ _ h1 h2 => run_loadN (cs := [(.int .i64 xF_panel_cuts_L1.X0), (.int .i64 xF_panel_cuts_L1.Y0), (.int .i64 xF_panel_cuts_L1.X1), (.int .i64 xF_panel_cuts_L1.Y1)]) ag_38 sz_38 (h1.ev rfl) (CellsAt.take (rdF ef_TRect hp1_0 (range_at hdF_panel_cuts_L1) h2) 4) rfl) ?_
     refine Tr.alloc 22 (wn rfl) rfl ze_38 fun b155 => ?_
     refine Tr.store 22 (cs := [(.int .i64 xF_panel_cuts_L1.X0), (.int .i64 xF_panel_cuts_L1.Y0), (.int .i64 xF_panel_cuts_L1.X1), (.int .i64 xF_panel_cuts_L1.Y1)]) [(.int .i64 xF_panel_cuts_L1.X0), (.int .i64 xF_panel_cuts_L1.Y0), (.int .i64 xF_panel_cuts_L1.X1), (.int .i64 xF_panel_cuts_L1.Y1)] (wn rfl) rfl rfl rfl rfl sz_38 rfl rfl rfl ?_
     refine Tr.nil (Tr.normThen ?_)
     refine Tr.sr ?_
     refine Tr.va rfl (fun _ _ h1 h2 => run_loadN (cs := [(.int .i64 xF_panel_cuts_L1.X0), (.int .i64 xF_panel_cuts_L1.Y0), (.int .i64 xF_panel_cuts_L1.X1), (.int .i64 xF_panel_cuts_L1.Y1)]) ag_38 sz_38 (h1.ev rfl) (CellsAt.take (rdb h2 (vs := [(.int .i64 xF_panel_cuts_L1.X0), (.int .i64 xF_panel_cuts_L1.Y0), (.int .i64 xF_panel_cuts_L1.X1), (.int .i64 xF_panel_cuts_L1.Y1)]) (k := 22) rfl 0) 4) rfl) ?_
     refine Tr.mv rfl rfl ?_
     obtain ⟨y156, hy156, H⟩ := bnd H
     refine Tr.call0 (r := (.tuple #[(.int .i64 y156.1), (.int .i64 y156.2)])) (wn rfl) rfl Try.call28 (evl_cons rfl (evl_cons rfl evl_nil)) (fun W hW => F_panel_along_ok xF_panel_cuts_L1 x103 y156 hy156 (HF.start _)) ?_
     refine Tr.mv rfl rfl ?_
     refine Tr.va rfl (fun _ _ h1 h2 => run_extract (h1.ev rfl) rfl) ?_
     refine Tr.va rfl (fun _ _ h1 h2 => run_extract (h1.ev rfl) rfl) ?_
     refine Tr.asg rfl rfl ?_
     refine Tr.asg rfl rfl ?_
     refine Tr.nil (Tr.normThen ?_)
     refine Tr.sr ?_
     refine Tr.mv rfl rfl ?_
     refine Tr.mv rfl rfl ?_
     refine Tr.va rfl (fun _ _ h1 h2 => run_leq (h1.ev rfl) (h1.ev rfl)) ?_
     refine Tr.nil (Tr.normThen ?_)
     refine Tr.cond rfl H (fun H => ?_) (fun H => ?_)
     ·refine Tr.region ?_
      refine Tr.mv rfl rfl ?_
      refine Tr.va rfl (fun _ _ h1 h2 => run_loadN (cs := [(.int .i64 xF_panel_cuts_L1.X0), (.int .i64 xF_panel_cuts_L1.Y0), (.int .i64 xF_panel_cuts_L1.X1), (.int .i64 xF_panel_cuts_L1.Y1)]) ag_38 sz_38 (h1.ev rfl) (CellsAt.take (rdb h2 (vs := [(.int .i64 xF_panel_cuts_L1.X0), (.int .i64 xF_panel_cuts_L1.Y0), (.int .i64 xF_panel_cuts_L1.X1), (.int .i64 xF_panel_cuts_L1.Y1)]) (k := 22) rfl 0) 4) rfl) ?_
      refine Tr.buildSlice 23 (e := 38) (vs := [(0, (.agg #[(.int .i64 xF_panel_cuts_L1.X0), (.int .i64 xF_panel_cuts_L1.Y0), (.int .i64 xF_panel_cuts_L1.X1), (.int .i64 xF_panel_cuts_L1.Y1)]))]) (cs := [(.int .i64 xF_panel_cuts_L1.X0), (.int .i64 xF_panel_cuts_L1.Y0), (.int .i64 xF_panel_cuts_L1.X1), (.int .i64 xF_panel_cuts_L1.Y1)]) (wn rfl) rfl (evs_cons rfl evs_nil) (by kernel_rfl) fun b157 => ?_
      obtain ⟨l158, hl158, H⟩ := bnd H
      refine Tr.append 7 (t := fl_TRect) (l := l139) (l2 := [xF_panel_cuts_L1]) (wn rfl) rfl rfl rfl rfl (fun W hW => ⟨[[(.int .i64 xF_panel_cuts_L1.X0), (.int .i64 xF_panel_cuts_L1.Y0), (.int .i64 xF_panel_cuts_L1.X1), (.int .i64 xF_panel_cuts_L1.Y1)]], (.cons ⟨(), trivial, rfl⟩ .nil), rdb hW (vs := [(.int .i64 xF_panel_cuts_L1.X0), (.int .i64 xF_panel_cuts_L1.Y0), (.int .i64 xF_panel_cuts_L1.X1), (.int .i64 xF_panel_cuts_L1.Y1)]) (k := 23) rfl 0⟩) un_32 sz_38 zl_38 (by decide) by_38 rfl hl158 fun Al158 cl158 hAl158 => ?_
      refine Tr.asg rfl rfl ?_
      refine Tr.nil (Tr.normBlock (Tr.normThen ?_))
      refine Tr.region ?_
      refine Tr.va rfl (fun _ _ h1 h2 => run_add (h1.ev rfl) (h1.ev rfl)) ?_
      refine Tr.mv rfl rfl ?_
      refine Tr.nil ?_
      exact Tr.backThen leF_panel_cuts_L1 (restF_panel_cuts_L1, (iF_panel_cuts_L1 + 1), l158, l140, Al158, cl158, Al140, cl140) ⟨rfl, range_tl hdF_panel_cuts_L1, range_lt hdF_panel_cuts_L1, H, hAl158, hl140⟩ (.cons rfl (.cons rfl (.cons rfl (.cons rfl (.cons rfl (.cons rfl (.cons rfl (.cons rfl (.cons rfl (.cons (congrArg (fun z => some (Value.int .i64 z)) (range_up hdF_panel_cuts_L1 hp1_0.form)) .nil)))))))))) (.cons rfl (.cons rfl (.cons rfl (.cons rfl (.cons rfl .nil)))))
     ·refine Tr.region ?_
      refine Tr.mv rfl rfl ?_
      refine Tr.va rfl (fun _ _ h1 h2 => run_loadN (cs := [(.int .i64 xF_panel_cuts_L1.X0), (.int .i64 xF_panel_cuts_L1.Y0), (.int .i64 xF_panel_cuts_L1.X1), (.int .i64 xF_panel_cuts_L1.Y1)]) ag_38 sz_38 (h1.ev rfl) (CellsAt.take (rdb h2 (vs := [(.int .i64 xF_panel_cuts_L1.X0), (.int .i64 xF_panel_cuts_L1.Y0), (.int .i64 xF_panel_cuts_L1.X1), (.int .i64 xF_panel_cuts_L1.Y1)]) (k := 22) rfl 0) 4) rfl) ?_
      refine Tr.buildSlice 24 (e := 38) (vs := [(0, (.agg #[(.int .i64 xF_panel_cuts_L1.X0), (.int .i64 xF_panel_cuts_L1.Y0), (.int .i64 xF_panel_cuts_L1.X1), (.int .i64 xF_panel_cuts_L1.Y1)]))]) (cs := [(.int .i64 xF_panel_cuts_L1.X0), (.int .i64 xF_panel_cuts_L1.Y0), (.int .i64 xF_panel_cuts_L1.X1), (.int .i64 xF_panel_cuts_L1.Y1)]) (wn rfl) rfl (evs_cons rfl evs_nil) (by kernel_rfl) fun b159 => ?_
      obtain ⟨l160, hl160, H⟩ := bnd H
      refine Tr.append 8 (t := fl_TRect) (l := l140) (l2 := [xF_panel_cuts_L1]) (wn rfl) rfl rfl rfl rfl (fun W hW => ⟨[[(.int .i64 xF_panel_cuts_L1.X0), (.int .i64 xF_panel_cuts_L1.Y0), (.int .i64 xF_panel_cuts_L1.X1), (.int .i64 xF_panel_cuts_L1.Y1)]], (.cons ⟨(), trivial, rfl⟩ .nil), rdb hW (vs := [(.int .i64 xF_panel_cuts_L1.X0), (.int .i64 xF_panel_cuts_L1.Y0), (.int .i64 xF_panel_cuts_L1.X1), (.int .i64 xF_panel_cuts_L1.Y1)]) (k := 24) rfl 0⟩) un_32 sz_38 zl_38 (by decide) by_38 rfl hl160 fun Al160 cl160 hAl160 => ?_
      refine Tr.asg rfl rfl ?_
      refine Tr.nil (Tr.normBlock (Tr.normThen ?_))
      refine Tr.region ?_
      refine Tr.va rfl (fun _ _ h1 h2 => run_add (h1.ev rfl) (h1.ev rfl)) ?_
      refine Tr.mv rfl rfl ?_
      refine Tr.nil ?_
      exact Tr.backThen leF_panel_cuts_L1 (restF_panel_cuts_L1, (iF_panel_cuts_L1 + 1), l139, l160, Al139, cl139, Al160, cl160) ⟨rfl, range_tl hdF_panel_cuts_L1, range_lt hdF_panel_cuts_L1, H, hl139, hAl160⟩ (.cons rfl (.cons rfl (.cons rfl (.cons rfl (.cons rfl (.cons rfl (.cons rfl (.cons rfl (.cons rfl (.cons (congrArg (fun z => some (Value.int .i64 z)) (range_up hdF_panel_cuts_L1 hp1_0.form)) .nil)))))))))) (.cons rfl (.cons rfl (.cons rfl (.cons rfl (.cons rfl .nil)))))
theorem F_panel_cuts_ok : ∀ (N : Nat) {w : Bs} (p0 : TRect) (p1 : (List TRect)) (Ap1_0 : Option Addr) (cp1_0 : Nat) (hp1_0 : Sl w.R w.W fl_TRect Ap1_0 cp1_0 p1) (r : ((List TCut) × Bool)) (H : F_panel_cuts N p0 p1 = some r) (hE : HF w w.W (LEn [emp])), Calls Try.prog 26 [(.agg #[(.int .i64 p0.X0), (.int .i64 p0.Y0), (.int .i64 p0.X1), (.int .i64 p0.Y1)]), (.slice Ap1_0 (p1).length cp1_0)].toArray w.W fun e W' => ∃ u : (Option Addr × Nat), e = .returned (.tuple #[(.slice u.1 (r.1).length u.2), (.bool r.2)]) ∧ (SlF u.1 (r.1).length u.2) ∧ HF w W' (LEn [ow u.1 u.2 40 fl_TCut r.1])
 | 0 => by intros; rename_i H _; cases H
 | N + 1 => F_panel_cuts_b_ok N (F_panel_cuts N) (F_panel_cuts_ok N)

theorem F_panel_Cuts_ok (N : Nat) {w : Bs} (p0 : TPanel) (Ap0_0 : Option Addr) (cp0_0 : Nat) (hp0_0 : Sl w.R w.W fl_TBoardKind Ap0_0 cp0_0 p0.Kinds) (Ap0_1 : Option Addr) (cp0_1 : Nat) (hp0_1 : Sl w.R w.W fl_TSlot Ap0_1 cp0_1 p0.Slots) (Ap0_2 : Option Addr) (cp0_2 : Nat) (hp0_2 : Sl w.R w.W fl_TPoint Ap0_2 cp0_2 p0.Marks) (r : ((List TCut) × Bool × Int)) (H : F_panel_Cuts N p0 = some r) (hE : HF w w.W (LEn [emp])) : Calls Try.prog 7 [(.agg #[(.int .i64 p0.W), (.int .i64 p0.H), (.int .i64 p0.Rail), (.int .i64 p0.Gap), (.slice Ap0_0 (p0.Kinds).length cp0_0), (.slice Ap0_1 (p0.Slots).length cp0_1), (.slice Ap0_2 (p0.Marks).length cp0_2)])].toArray w.W fun e W' => ∃ u : (Option Addr × Nat), e = .returned (.tuple #[(.slice u.1 (r.1).length u.2), (.bool r.2.1), (.int .i64 r.2.2)]) ∧ (SlF u.1 (r.1).length u.2) ∧ HF w W' (LEn [ow u.1 u.2 40 fl_TCut r.1]) := by
 unfold F_panel_Cuts at H
 have leB := Bs.Le.refl w
 refine Tr.enter (n := 26) Try.func7 rfl rfl rfl hE ?_
 refine Tr.sr ?_
 refine Tr.box 1 (cs := [(.int .i64 p0.W), (.int .i64 p0.H), (.int .i64 p0.Rail), (.int .i64 p0.Gap), (.slice Ap0_0 (p0.Kinds).length cp0_0), (.slice Ap0_1 (p0.Slots).length cp0_1), (.slice Ap0_2 (p0.Marks).length cp0_2)]) (wn rfl) rfl rfl rfl fun b100 => ?_
 refine Tr.asg rfl rfl ?_
 refine Tr.nilOwn 2 40 fl_TCut ?_
 show Tr _ _ (uf _ 2 (.slice none (([] : List TCut)).length 0)) _ _
 refine Tr.asg rfl rfl ?_
 refine Tr.asg rfl rfl ?_
 refine Tr.nil (Tr.normThen ?_)
 refine Tr.sr ?_
 refine Tr.va rfl (fun _ _ h1 h2 => run_loadN (cs := [(.int .i64 p0.W), (.int .i64 p0.H), (.int .i64 p0.Rail), (.int .i64 p0.Gap), (.slice Ap0_0 (p0.Kinds).length cp0_0), (.slice Ap0_1 (p0.Slots).length cp0_1), (.slice Ap0_2 (p0.Marks).length cp0_2)]) ag_26 sz_26 (h1.ev rfl) (CellsAt.take (rdb h2 (vs := [(.int .i64 p0.W), (.int .i64 p0.H), (.int .i64 p0.Rail), (.int .i64 p0.Gap), (.slice Ap0_0 (p0.Kinds).length cp0_0), (.slice Ap0_1 (p0.Slots).length cp0_1), (.slice Ap0_2 (p0.Marks).length cp0_2)]) (k := 1) rfl 0) 7) rfl) ?_
 obtain ⟨y101, hy101, H⟩ := bnd H
 refine Tr.callM [3] [emp] (U := (Option Addr × Nat)) (fun u => (.tuple #[(.slice u.1 (y101.1).length u.2), (.int .i64 y101.2)])) (fun u => SlF u.1 (y101.1).length u.2) (fun u => [ow u.1 u.2 38 fl_TRect y101.1]) rfl (pk_cons rfl pk_nil) (fun _ => rfl) (wn rfl) rfl Try.call25 (evl_cons rfl evl_nil) (fun W hW hp hE => F_panel_open_ok N p0 Ap0_0 cp0_0 (hp0_0.ext (hW.extS hp)) Ap0_1 cp0_1 (hp0_1.ext (hW.extS hp)) Ap0_2 cp0_2 (hp0_2.ext (hW.extS hp)) y101 hy101 hE) ?_
 intro u hu
 obtain ⟨Ay101_0, cy101_0⟩ := u
 have gy101_0 := hu
 have hgy101_0 : SlF Ay101_0 (y101.1).length cy101_0 := gy101_0 --@phi
 show Tr _ _ (uf _ 11 (.tuple #[(.slice Ay101_0 (y101.1).length cy101_0), (.int .i64 y101.2)])) (up _ 3 (ow Ay101_0 cy101_0 38 fl_TRect y101.1)) _
 refine Tr.mv rfl rfl ?_
 refine Tr.va rfl (fun _ _ h1 h2 => run_extract (h1.ev rfl) rfl) ?_
 refine Tr.va rfl (fun _ _ h1 h2 => run_extract (h1.ev rfl) rfl) ?_
 refine Tr.asg rfl rfl ?_
 refine Tr.asg rfl rfl ?_
 refine Tr.nil (Tr.normThen ?_)
 refine Tr.seq ?_
 refine Tr.sr ?_
 refine Tr.mv rfl rfl ?_
 refine Tr.va rfl (fun _ _ h1 h2 => run_neq (h1.ev rfl) (h1.ev rfl)) ?_
 refine Tr.nil (Tr.normThen ?_)
 refine Tr.cond rfl H (fun H => ?_) (fun H => ?_)
 ·refine Tr.sr ?_
  refine Tr.mv rfl rfl ?_
  refine Tr.asg rfl rfl ?_
  refine Tr.nilOwn 4 40 fl_TCut ?_
  show Tr _ _ (uf _ 2 (.slice none (([] : List TCut)).length 0)) _ _
  refine Tr.asg rfl rfl ?_
  refine Tr.asg rfl rfl ?_
  refine Tr.nil (Tr.normThen ?_)
  refine Tr.ret (Tr.retThen ?_)
  obtain rfl := Option.some.inj H
  exact Tr.out (m := [(.slice none (([] : List TCut)).length 0), (.bool false), (.int .i64 y101.2)]) [] (res_tmp rfl (res_tmp rfl (res_tmp rfl res_nil))) (fun W hW => ⟨(none, 0), rfl, slf_nil, HF.lowE leB (hW.pick (ks := [4]) (by decide) (pk_cons rfl pk_nil)) ⟨ow_any _ _ _ _ tr_TCut, trivial⟩⟩)
 ·refine Tr.skip (Tr.normThen ?_)
  refine Tr.sr ?_
  refine Tr.va rfl (fun _ _ h1 h2 => run_loadN (cs := [(.int .i64 p0.W), (.int .i64 p0.H), (.int .i64 p0.Rail), (.int .i64 p0.Gap), (.slice Ap0_0 (p0.Kinds).length cp0_0), (.slice Ap0_1 (p0.Slots).length cp0_1), (.slice Ap0_2 (p0.Marks).length cp0_2)]) ag_26 sz_26 (h1.ev rfl) (CellsAt.take (rdb h2 (vs := [(.int .i64 p0.W), (.int .i64 p0.H), (.int .i64 p0.Rail), (.int .i64 p0.Gap), (.slice Ap0_0 (p0.Kinds).length cp0_0), (.slice Ap0_1 (p0.Slots).length cp0_1), (.slice Ap0_2 (p0.Marks).length cp0_2)]) (k := 1) rfl 0) 7) rfl) ?_
  obtain ⟨y103, hy103, H⟩ := bnd H
  refine Tr.call0 (r := (.agg #[(.int .i64 y103.X0), (.int .i64 y103.Y0), (.int .i64 y103.X1), (.int .i64 y103.Y1)])) (wn rfl) rfl Try.call27 (evl_cons rfl evl_nil) (fun W hW => F_panel_whole_ok p0 Ap0_0 cp0_0 (hp0_0.ext hW.extAll) Ap0_1 cp0_1 (hp0_1.ext hW.extAll) Ap0_2 cp0_2 (hp0_2.ext hW.extAll) y103 hy103 (HF.start _)) ?_
  refine Tr.mv rfl rfl ?_
  obtain ⟨y104, hy104, H⟩ := bnd H
  refine Tr.callM [5] [emp] (U := (Option Addr × Nat)) (fun u => (.tuple #[(.slice u.1 (y104.1).length u.2), (.bool y104.2)])) (fun u => SlF u.1 (y104.1).length u.2) (fun u => [ow u.1 u.2 40 fl_TCut y104.1]) rfl (pk_cons rfl pk_nil) (fun _ => rfl) (wn rfl) rfl Try.call26 (evl_cons rfl (evl_cons rfl evl_nil)) (fun W hW hp hE => F_panel_cuts_ok N y103 y101.1 Ay101_0 cy101_0 (hW.slS (k := 3) rfl hp rfl) y104 hy104 hE) ?_
  intro u hu
  obtain ⟨Ay104_0, cy104_0⟩ := u
  have gy104_0 := hu
  have hgy104_0 : SlF Ay104_0 (y104.1).length cy104_0 := gy104_0 --@phi
  show Tr _ _ (uf _ 21 (.tuple #[(.slice Ay104_0 (y104.1).length cy104_0), (.bool y104.2)])) (up _ 5 (ow Ay104_0 cy104_0 40 fl_TCut y104.1)) _
  refine Tr.mv rfl rfl ?_
  refine Tr.va rfl (fun _ _ h1 h2 => run_extract (h1.ev rfl) rfl) ?_
  refine Tr.va rfl (fun _ _ h1 h2 => run_extract (h1.ev rfl) rfl) ?_
  refine Tr.asg rfl rfl ?_
  refine Tr.asg rfl rfl ?_
  refine Tr.nil (Tr.normThen ?_)
  refine Tr.sr ?_
  refine Tr.mv rfl rfl ?_
  refine Tr.mv rfl rfl ?_
  refine Tr.asg rfl rfl ?_
  refine Tr.asg rfl rfl ?_
  refine Tr.asg rfl rfl ?_
  refine Tr.nil (Tr.normThen ?_)
  refine Tr.ret ?_
  obtain rfl := Option.some.inj H
  exact Tr.out (m := [(.slice Ay104_0 (y104.1).length cy104_0), (.bool y104.2), (.int .i64 0)]) [] (res_tmp rfl (res_tmp rfl (res_tmp rfl res_nil))) (fun W hW => ⟨(Ay104_0, cy104_0), rfl, hgy104_0, HF.lowE leB (hW.pick (ks := [5]) (by decide) (pk_cons rfl pk_nil)) ⟨ow_any _ _ _ _ tr_TCut, trivial⟩⟩)

theorem F_etchhouseref9_within_ok {w : Bs} (p0 : Int) (p1 : Int) (p2 : Int) (r : Bool) (H : F_etchhouseref9_within p0 p1 p2 = some r) (hE : HF w w.W E0) : Calls Try.prog 41 [(.int .i64 p0), (.int .i64 p1), (.int .i64 p2)].toArray w.W fun e W' => e = .returned (.bool r) ∧ HF w W' E0 := by
 unfold F_etchhouseref9_within at H
 have leB := Bs.Le.refl w
 refine Tr.enter (n := 15) Try.func41 rfl rfl rfl hE ?_
 refine Tr.sr ?_
 refine Tr.asg rfl rfl ?_
 refine Tr.nil (Tr.normThen ?_)
 refine Tr.sr ?_
 refine Tr.mv rfl rfl ?_
 refine Tr.mv rfl rfl ?_
 refine Tr.va rfl (fun _ _ h1 h2 => run_geq (h1.ev rfl) (h1.ev rfl)) ?_
 refine Tr.mv rfl rfl ?_
 refine Tr.mid0 4 [(14, (.bool ((decide (p1 ≤ p0)) && (decide (p0 ≤ p2)))))] [] ?_ ?_
 ·cases hg99 : (decide (p1 ≤ p0))
  ·refine Tr.pass rfl rfl rfl rfl rfl (by decide) ?_
   refine Tr.pass rfl rfl rfl rfl rfl (by decide) ?_
   refine Tr.pass rfl rfl rfl rfl rfl (by decide) ?_
   refine Tr.va rfl (fun _ _ h1 h2 => run_pickF (h1.ev rfl) (h1.ev rfl)) ?_
   exact Tr.nil (Tr.fin0 (.cons rfl .nil) .nil)
  ·refine Tr.val (wg rfl rfl rfl) rfl (fun _ _ h1 h2 => run_move (h1.ev rfl)) ?_
   refine Tr.val (wg rfl rfl rfl) rfl (fun _ _ h1 h2 => run_move (h1.ev rfl)) ?_
   refine Tr.val (wg rfl rfl rfl) rfl (fun _ _ h1 h2 => run_leq (h1.ev rfl) (h1.ev rfl)) ?_
   refine Tr.va rfl (fun _ _ h1 h2 => run_pickT (h1.ev rfl) (h1.ev rfl)) ?_
   exact Tr.nil (Tr.fin0 (.cons rfl .nil) .nil)
 ·show Tr _ _ (LF [(14, (.bool ((decide (p1 ≤ p0)) && (decide (p0 ≤ p2)))))]) (LE []) _
  refine Tr.asg rfl rfl ?_
  refine Tr.nil (Tr.normThen ?_)
  refine Tr.ret ?_
  obtain rfl := Option.some.inj H
  exact Tr.out (m := [(.bool ((decide (p1 ≤ p0)) && (decide (p0 ≤ p2))))]) [] (res_tmp rfl res_nil) (fun W hW => ⟨rfl, hW.low leB⟩)

theorem F_etchhouseref3_within_ok {w : Bs} (p0 : Int) (p1 : Int) (p2 : Int) (r : Bool) (H : F_etchhouseref3_within p0 p1 p2 = some r) (hE : HF w w.W E0) : Calls Try.prog 65 [(.int .i64 p0), (.int .i64 p1), (.int .i64 p2)].toArray w.W fun e W' => e = .returned (.bool r) ∧ HF w W' E0 := by
 unfold F_etchhouseref3_within at H
 have leB := Bs.Le.refl w
 refine Tr.enter (n := 15) Try.func65 rfl rfl rfl hE ?_
 refine Tr.sr ?_
 refine Tr.asg rfl rfl ?_
 refine Tr.nil (Tr.normThen ?_)
 refine Tr.sr ?_
 refine Tr.mv rfl rfl ?_
 refine Tr.mv rfl rfl ?_
 refine Tr.va rfl (fun _ _ h1 h2 => run_geq (h1.ev rfl) (h1.ev rfl)) ?_
 refine Tr.mv rfl rfl ?_
 refine Tr.mid0 4 [(14, (.bool ((decide (p1 ≤ p0)) && (decide (p0 ≤ p2)))))] [] ?_ ?_
 ·cases hg99 : (decide (p1 ≤ p0))
  ·refine Tr.pass rfl rfl rfl rfl rfl (by decide) ?_
   refine Tr.pass rfl rfl rfl rfl rfl (by decide) ?_
   refine Tr.pass rfl rfl rfl rfl rfl (by decide) ?_
   refine Tr.va rfl (fun _ _ h1 h2 => run_pickF (h1.ev rfl) (h1.ev rfl)) ?_
   exact Tr.nil (Tr.fin0 (.cons rfl .nil) .nil)
  ·refine Tr.val (wg rfl rfl rfl) rfl (fun _ _ h1 h2 => run_move (h1.ev rfl)) ?_
   refine Tr.val (wg rfl rfl rfl) rfl (fun _ _ h1 h2 => run_move (h1.ev rfl)) ?_
   refine Tr.val (wg rfl rfl rfl) rfl (fun _ _ h1 h2 => run_leq (h1.ev rfl) (h1.ev rfl)) ?_
   refine Tr.va rfl (fun _ _ h1 h2 => run_pickT (h1.ev rfl) (h1.ev rfl)) ?_
   exact Tr.nil (Tr.fin0 (.cons rfl .nil) .nil)
 ·show Tr _ _ (LF [(14, (.bool ((decide (p1 ≤ p0)) && (decide (p0 ≤ p2)))))]) (LE []) _
  refine Tr.asg rfl rfl ?_
  refine Tr.nil (Tr.normThen ?_)
  refine Tr.ret ?_
  obtain rfl := Option.some.inj H
  exact Tr.out (m := [(.bool ((decide (p1 ≤ p0)) && (decide (p0 ≤ p2))))]) [] (res_tmp rfl res_nil) (fun W hW => ⟨rfl, hW.low leB⟩)

theorem F_etchhouseref3_IsName_ok (N : Nat) {w : Bs} (p0 : ByteArray) (r : Bool) (H : F_etchhouseref3_IsName N p0 = some r) (hE : HF w w.W E0) : Calls Try.prog 42 [(.string p0)].toArray w.W fun e W' => e = .returned (.bool r) ∧ HF w W' E0 := by
 unfold F_etchhouseref3_IsName at H
 have leB := Bs.Le.refl w
 refine Tr.enter (n := 55) Try.func42 rfl rfl rfl hE ?_
 refine Tr.sr ?_
 refine Tr.asg rfl rfl ?_
 refine Tr.nil (Tr.normThen ?_)
 refine Tr.seq ?_
 refine Tr.sr ?_
 refine Tr.asg rfl rfl ?_
 refine Tr.nil (Tr.normThen ?_)
 refine Tr.block ?_
 refine Tr.loop (σ := Int) (fun m w s => F_etchhouseref3_IsName_L1 p0 m s = some r) (fun s => [(0, (.string p0)), (3, (.int .i64 s))]) (fun s => []) N 0 H (.cons rfl (.cons rfl .nil)) .nil (fun _ _ h => noSome (h)) ?_
 intro w leF_etchhouseref3_IsName_L1 mF_etchhouseref3_IsName_L1 x105 hs
 have H := hs
 replace H : F_etchhouseref3_IsName_L1 p0 (mF_etchhouseref3_IsName_L1 + 1) x105 = some r := H
 replace leB := leB.trans leF_etchhouseref3_IsName_L1
 rw [F_etchhouseref3_IsName_L1.eq_2] at H
 show Tr _ _ (LF [(0, (.string p0)), (3, (.int .i64 x105))]) (LE []) _
 refine Tr.seq ?_
 refine Tr.sr ?_
 refine Tr.mv rfl rfl ?_
 refine Tr.mv rfl rfl ?_
 refine Tr.va rfl (fun _ _ h1 h2 => run_lenS un_9 (h1.ev rfl)) ?_
 refine Tr.va rfl (fun _ _ h1 h2 => run_lss (h1.ev rfl) (h1.ev rfl)) ?_
 refine Tr.nil (Tr.normThen ?_)
 refine Tr.cond rfl H (fun H => ?_) (fun H => ?_)
 ·refine Tr.skip (Tr.normThen ?_)
  refine Tr.seq ?_
  refine Tr.block ?_
  refine Tr.sr ?_
  refine Tr.mv rfl rfl ?_
  refine Tr.mv rfl rfl ?_
  obtain ⟨c106, hc106, H⟩ := bnd H
  refine Tr.va rfl (fun _ _ h1 h2 => run_indexS un_9 (h1.ev rfl) (h1.ev rfl) hc106) ?_
  refine Tr.asg rfl rfl ?_
  refine Tr.nil (Tr.normThen ?_)
  refine Tr.sr ?_
  refine Tr.mv rfl rfl ?_
  refine Tr.va rfl (fun _ _ h1 h2 => run_geq (h1.ev rfl) (h1.ev rfl)) ?_
  refine Tr.mv rfl rfl ?_
  refine Tr.mid0 3 [(0, (.string p0)), (3, (.int .i64 x105)), (4, (.int .u8 c106)), (20, (.bool ((decide (97 ≤ c106)) && (decide (c106 ≤ 122)))))] [] ?_ ?_
  ·cases hg106 : (decide (97 ≤ c106))
   ·refine Tr.pass rfl rfl rfl rfl rfl (by decide) ?_
    refine Tr.pass rfl rfl rfl rfl rfl (by decide) ?_
    refine Tr.va rfl (fun _ _ h1 h2 => run_pickF (h1.ev rfl) (h1.ev rfl)) ?_
    exact Tr.nil (Tr.fin0 (.cons rfl (.cons rfl (.cons rfl (.cons rfl .nil)))) .nil)
   ·refine Tr.val (wg rfl rfl rfl) rfl (fun _ _ h1 h2 => run_move (h1.ev rfl)) ?_
    refine Tr.val (wg rfl rfl rfl) rfl (fun _ _ h1 h2 => run_leq (h1.ev rfl) (h1.ev rfl)) ?_
    refine Tr.va rfl (fun _ _ h1 h2 => run_pickT (h1.ev rfl) (h1.ev rfl)) ?_
    exact Tr.nil (Tr.fin0 (.cons rfl (.cons rfl (.cons rfl (.cons rfl .nil)))) .nil)
  ·show Tr _ _ (LF [(0, (.string p0)), (3, (.int .i64 x105)), (4, (.int .u8 c106)), (20, (.bool ((decide (97 ≤ c106)) && (decide (c106 ≤ 122)))))]) (LE []) _
   refine Tr.mv rfl rfl ?_
   refine Tr.mid0 7 [(0, (.string p0)), (3, (.int .i64 x105)), (4, (.int .u8 c106)), (28, (.bool (((decide (97 ≤ c106)) && (decide (c106 ≤ 122))) || ((decide (65 ≤ c106)) && (decide (c106 ≤ 90))))))] [] ?_ ?_
   ·cases hg106 : ((decide (97 ≤ c106)) && (decide (c106 ≤ 122)))
    ·refine Tr.val (wg rfl rfl rfl) rfl (fun _ _ h1 h2 => run_move (h1.ev rfl)) ?_
     refine Tr.val (wg rfl rfl rfl) rfl (fun _ _ h1 h2 => run_geq (h1.ev rfl) (h1.ev rfl)) ?_
     refine Tr.val (wg rfl rfl rfl) rfl (fun _ _ h1 h2 => run_move (h1.ev rfl)) ?_
     refine Tr.mid0 3 [(0, (.string p0)), (3, (.int .i64 x105)), (4, (.int .u8 c106)), (21, (.bool false)), (27, (.bool ((decide (65 ≤ c106)) && (decide (c106 ≤ 90)))))] [] ?_ ?_
     ·cases hg106 : (decide (65 ≤ c106))
      ·refine Tr.pass rfl rfl rfl rfl rfl (by decide) ?_
       refine Tr.pass rfl rfl rfl rfl rfl (by decide) ?_
       refine Tr.val (wg rfl rfl rfl) rfl (fun _ _ h1 h2 => run_pickF (h1.ev rfl) (h1.ev rfl)) ?_
       exact Tr.nil (Tr.fin0 (.cons rfl (.cons rfl (.cons rfl (.cons rfl (.cons rfl .nil))))) .nil)
      ·refine Tr.val (wg rfl rfl rfl) rfl (fun _ _ h1 h2 => run_move (h1.ev rfl)) ?_
       refine Tr.val (wg rfl rfl rfl) rfl (fun _ _ h1 h2 => run_leq (h1.ev rfl) (h1.ev rfl)) ?_
       refine Tr.val (wg rfl rfl rfl) rfl (fun _ _ h1 h2 => run_pickT (h1.ev rfl) (h1.ev rfl)) ?_
       exact Tr.nil (Tr.fin0 (.cons rfl (.cons rfl (.cons rfl (.cons rfl (.cons rfl .nil))))) .nil)
     ·show Tr _ _ (LF [(0, (.string p0)), (3, (.int .i64 x105)), (4, (.int .u8 c106)), (21, (.bool false)), (27, (.bool ((decide (65 ≤ c106)) && (decide (c106 ≤ 90)))))]) (LE []) _
      refine Tr.va rfl (fun _ _ h1 h2 => run_pickF (h1.ev rfl) (h1.ev rfl)) ?_
      exact Tr.nil (Tr.fin0 (.cons rfl (.cons rfl (.cons rfl (.cons rfl .nil)))) .nil)
    ·refine Tr.pass rfl rfl rfl rfl rfl (by decide) ?_
     refine Tr.pass rfl rfl rfl rfl rfl (by decide) ?_
     refine Tr.pass rfl rfl rfl rfl rfl (by decide) ?_
     refine Tr.passU rfl rfl rfl rfl (by decide) ?_
     refine Tr.passU rfl rfl rfl rfl (by decide) ?_
     refine Tr.pass rfl rfl rfl rfl rfl (by decide) ?_
     refine Tr.va rfl (fun _ _ h1 h2 => run_pickT (h1.ev rfl) (h1.ev rfl)) ?_
     exact Tr.nil (Tr.fin0 (.cons rfl (.cons rfl (.cons rfl (.cons rfl .nil)))) .nil)
   ·show Tr _ _ (LF [(0, (.string p0)), (3, (.int .i64 x105)), (4, (.int .u8 c106)), (28, (.bool (((decide (97 ≤ c106)) && (decide (c106 ≤ 122))) || ((decide (65 ≤ c106)) && (decide (c106 ≤ 90))))))]) (LE []) _
    refine Tr.asg rfl rfl ?_
    refine Tr.nil (Tr.normThen ?_)
    refine Tr.sr ?_
    refine Tr.mv rfl rfl ?_
    refine Tr.va rfl (fun _ _ h1 h2 => run_not (h1.ev rfl)) ?_
    refine Tr.mv rfl rfl ?_
    refine Tr.mid0 20 [(0, (.string p0)), (3, (.int .i64 x105)), (51, (.bool ((!(((decide (97 ≤ c106)) && (decide (c106 ≤ 122))) || ((decide (65 ≤ c106)) && (decide (c106 ≤ 90))))) && ((x105 == 0) || (((c106 != 95) && (c106 != 45)) && (!((decide (48 ≤ c106)) && (decide (c106 ≤ 57)))))))))] [] ?_ ?_
    ·cases hg106 : (!(((decide (97 ≤ c106)) && (decide (c106 ≤ 122))) || ((decide (65 ≤ c106)) && (decide (c106 ≤ 90)))))
     ·refine Tr.pass rfl rfl rfl rfl rfl (by decide) ?_
      refine Tr.pass rfl rfl rfl rfl rfl (by decide) ?_
      refine Tr.pass rfl rfl rfl rfl rfl (by decide) ?_
      refine Tr.passU rfl rfl rfl rfl (by decide) ?_
      refine Tr.passU rfl rfl rfl rfl (by decide) ?_
      refine Tr.passU rfl rfl rfl rfl (by decide) ?_
      refine Tr.passU rfl rfl rfl rfl (by decide) ?_
      refine Tr.passU rfl rfl rfl rfl (by decide) ?_
      refine Tr.passU rfl rfl rfl rfl (by decide) ?_
      refine Tr.passU rfl rfl rfl rfl (by decide) ?_
      refine Tr.passU rfl rfl rfl rfl (by decide) ?_
      refine Tr.passU rfl rfl rfl rfl (by decide) ?_
      refine Tr.passU rfl rfl rfl rfl (by decide) ?_
      refine Tr.passU rfl rfl rfl rfl (by decide) ?_
      refine Tr.passU rfl rfl rfl rfl (by decide) ?_
      refine Tr.passU rfl rfl rfl rfl (by decide) ?_
      refine Tr.passU rfl rfl rfl rfl (by decide) ?_
      refine Tr.passU rfl rfl rfl rfl (by decide) ?_
      refine Tr.pass rfl rfl rfl rfl rfl (by decide) ?_
      refine Tr.va rfl (fun _ _ h1 h2 => run_pickF (h1.ev rfl) (h1.ev rfl)) ?_
      exact Tr.nil (Tr.fin0 (.cons rfl (.cons rfl (.cons rfl .nil))) .nil)
     ·refine Tr.val (wg rfl rfl rfl) rfl (fun _ _ h1 h2 => run_move (h1.ev rfl)) ?_
      refine Tr.val (wg rfl rfl rfl) rfl (fun _ _ h1 h2 => run_eql (h1.ev rfl) (h1.ev rfl)) ?_
      refine Tr.val (wg rfl rfl rfl) rfl (fun _ _ h1 h2 => run_move (h1.ev rfl)) ?_
      refine Tr.mid0 16 [(0, (.string p0)), (3, (.int .i64 x105)), (31, (.bool true)), (50, (.bool ((x105 == 0) || (((c106 != 95) && (c106 != 45)) && (!((decide (48 ≤ c106)) && (decide (c106 ≤ 57))))))))] [] ?_ ?_
      ·cases hg106 : (x105 == 0)
       ·refine Tr.val (wg rfl rfl rfl) rfl (fun _ _ h1 h2 => run_move (h1.ev rfl)) ?_
        refine Tr.val (wg rfl rfl rfl) rfl (fun _ _ h1 h2 => run_neq (h1.ev rfl) (h1.ev rfl)) ?_
        refine Tr.val (wg rfl rfl rfl) rfl (fun _ _ h1 h2 => run_move (h1.ev rfl)) ?_
        refine Tr.mid0 3 [(0, (.string p0)), (3, (.int .i64 x105)), (4, (.int .u8 c106)), (31, (.bool true)), (34, (.bool false)), (40, (.bool ((c106 != 95) && (c106 != 45))))] [] ?_ ?_
        ·cases hg106 : (c106 != 95)
         ·refine Tr.pass rfl rfl rfl rfl rfl (by decide) ?_
          refine Tr.pass rfl rfl rfl rfl rfl (by decide) ?_
          refine Tr.val (wg rfl rfl rfl) rfl (fun _ _ h1 h2 => run_pickF (h1.ev rfl) (h1.ev rfl)) ?_
          exact Tr.nil (Tr.fin0 (.cons rfl (.cons rfl (.cons rfl (.cons rfl (.cons rfl (.cons rfl .nil)))))) .nil)
         ·refine Tr.val (wg rfl rfl rfl) rfl (fun _ _ h1 h2 => run_move (h1.ev rfl)) ?_
          refine Tr.val (wg rfl rfl rfl) rfl (fun _ _ h1 h2 => run_neq (h1.ev rfl) (h1.ev rfl)) ?_
          refine Tr.val (wg rfl rfl rfl) rfl (fun _ _ h1 h2 => run_pickT (h1.ev rfl) (h1.ev rfl)) ?_
          exact Tr.nil (Tr.fin0 (.cons rfl (.cons rfl (.cons rfl (.cons rfl (.cons rfl (.cons rfl .nil)))))) .nil)
        ·show Tr _ _ (LF [(0, (.string p0)), (3, (.int .i64 x105)), (4, (.int .u8 c106)), (31, (.bool true)), (34, (.bool false)), (40, (.bool ((c106 != 95) && (c106 != 45))))]) (LE []) _
         refine Tr.val (wg rfl rfl rfl) rfl (fun _ _ h1 h2 => run_move (h1.ev rfl)) ?_
         refine Tr.mid0 8 [(0, (.string p0)), (3, (.int .i64 x105)), (31, (.bool true)), (34, (.bool false)), (49, (.bool (((c106 != 95) && (c106 != 45)) && (!((decide (48 ≤ c106)) && (decide (c106 ≤ 57)))))))] [] ?_ ?_
         ·cases hg106 : ((c106 != 95) && (c106 != 45))
          ·refine Tr.pass rfl rfl rfl rfl rfl (by decide) ?_
           refine Tr.pass rfl rfl rfl rfl rfl (by decide) ?_
           refine Tr.pass rfl rfl rfl rfl rfl (by decide) ?_
           refine Tr.passU rfl rfl rfl rfl (by decide) ?_
           refine Tr.passU rfl rfl rfl rfl (by decide) ?_
           refine Tr.pass rfl rfl rfl rfl rfl (by decide) ?_
           refine Tr.pass rfl rfl rfl rfl rfl (by decide) ?_
           refine Tr.val (wg rfl rfl rfl) rfl (fun _ _ h1 h2 => run_pickF (h1.ev rfl) (h1.ev rfl)) ?_
           exact Tr.nil (Tr.fin0 (.cons rfl (.cons rfl (.cons rfl (.cons rfl (.cons rfl .nil))))) .nil)
          ·refine Tr.val (wg rfl rfl rfl) rfl (fun _ _ h1 h2 => run_move (h1.ev rfl)) ?_
           refine Tr.val (wg rfl rfl rfl) rfl (fun _ _ h1 h2 => run_geq (h1.ev rfl) (h1.ev rfl)) ?_
           refine Tr.val (wg rfl rfl rfl) rfl (fun _ _ h1 h2 => run_move (h1.ev rfl)) ?_
           refine Tr.mid0 3 [(0, (.string p0)), (3, (.int .i64 x105)), (31, (.bool true)), (34, (.bool false)), (41, (.bool true)), (47, (.bool ((decide (48 ≤ c106)) && (decide (c106 ≤ 57)))))] [] ?_ ?_
           ·cases hg106 : (decide (48 ≤ c106))
            ·refine Tr.pass rfl rfl rfl rfl rfl (by decide) ?_
             refine Tr.pass rfl rfl rfl rfl rfl (by decide) ?_
             refine Tr.val (wg rfl rfl rfl) rfl (fun _ _ h1 h2 => run_pickF (h1.ev rfl) (h1.ev rfl)) ?_
             exact Tr.nil (Tr.fin0 (.cons rfl (.cons rfl (.cons rfl (.cons rfl (.cons rfl (.cons rfl .nil)))))) .nil)
            ·refine Tr.val (wg rfl rfl rfl) rfl (fun _ _ h1 h2 => run_move (h1.ev rfl)) ?_
             refine Tr.val (wg rfl rfl rfl) rfl (fun _ _ h1 h2 => run_leq (h1.ev rfl) (h1.ev rfl)) ?_
             refine Tr.val (wg rfl rfl rfl) rfl (fun _ _ h1 h2 => run_pickT (h1.ev rfl) (h1.ev rfl)) ?_
             exact Tr.nil (Tr.fin0 (.cons rfl (.cons rfl (.cons rfl (.cons rfl (.cons rfl (.cons rfl .nil)))))) .nil)
           ·show Tr _ _ (LF [(0, (.string p0)), (3, (.int .i64 x105)), (31, (.bool true)), (34, (.bool false)), (41, (.bool true)), (47, (.bool ((decide (48 ≤ c106)) && (decide (c106 ≤ 57)))))]) (LE []) _
            refine Tr.val (wg rfl rfl rfl) rfl (fun _ _ h1 h2 => run_not (h1.ev rfl)) ?_
            refine Tr.val (wg rfl rfl rfl) rfl (fun _ _ h1 h2 => run_pickT (h1.ev rfl) (h1.ev rfl)) ?_
            exact Tr.nil (Tr.fin0 (.cons rfl (.cons rfl (.cons rfl (.cons rfl (.cons rfl .nil))))) .nil)
         ·show Tr _ _ (LF [(0, (.string p0)), (3, (.int .i64 x105)), (31, (.bool true)), (34, (.bool false)), (49, (.bool (((c106 != 95) && (c106 != 45)) && (!((decide (48 ≤ c106)) && (decide (c106 ≤ 57)))))))]) (LE []) _
          refine Tr.val (wg rfl rfl rfl) rfl (fun _ _ h1 h2 => run_pickF (h1.ev rfl) (h1.ev rfl)) ?_
          exact Tr.nil (Tr.fin0 (.cons rfl (.cons rfl (.cons rfl (.cons rfl .nil)))) .nil)
       ·refine Tr.pass rfl rfl rfl rfl rfl (by decide) ?_
        refine Tr.pass rfl rfl rfl rfl rfl (by decide) ?_
        refine Tr.pass rfl rfl rfl rfl rfl (by decide) ?_
        refine Tr.passU rfl rfl rfl rfl (by decide) ?_
        refine Tr.passU rfl rfl rfl rfl (by decide) ?_
        refine Tr.pass rfl rfl rfl rfl rfl (by decide) ?_
        refine Tr.pass rfl rfl rfl rfl rfl (by decide) ?_
        refine Tr.passU rfl rfl rfl rfl (by decide) ?_
        refine Tr.passU rfl rfl rfl rfl (by decide) ?_
        refine Tr.passU rfl rfl rfl rfl (by decide) ?_
        refine Tr.passU rfl rfl rfl rfl (by decide) ?_
        refine Tr.passU rfl rfl rfl rfl (by decide) ?_
        refine Tr.passU rfl rfl rfl rfl (by decide) ?_
        refine Tr.passU rfl rfl rfl rfl (by decide) ?_
        refine Tr.pass rfl rfl rfl rfl rfl (by decide) ?_
        refine Tr.val (wg rfl rfl rfl) rfl (fun _ _ h1 h2 => run_pickT (h1.ev rfl) (h1.ev rfl)) ?_
        exact Tr.nil (Tr.fin0 (.cons rfl (.cons rfl (.cons rfl (.cons rfl .nil)))) .nil)
      ·show Tr _ _ (LF [(0, (.string p0)), (3, (.int .i64 x105)), (31, (.bool true)), (50, (.bool ((x105 == 0) || (((c106 != 95) && (c106 != 45)) && (!((decide (48 ≤ c106)) && (decide (c106 ≤ 57))))))))]) (LE []) _
       refine Tr.va rfl (fun _ _ h1 h2 => run_pickT (h1.ev rfl) (h1.ev rfl)) ?_
       exact Tr.nil (Tr.fin0 (.cons rfl (.cons rfl (.cons rfl .nil))) .nil)
    ·show Tr _ _ (LF [(0, (.string p0)), (3, (.int .i64 x105)), (51, (.bool ((!(((decide (97 ≤ c106)) && (decide (c106 ≤ 122))) || ((decide (65 ≤ c106)) && (decide (c106 ≤ 90))))) && ((x105 == 0) || (((c106 != 95) && (c106 != 45)) && (!((decide (48 ≤ c106)) && (decide (c106 ≤ 57)))))))))]) (LE []) _
     refine Tr.nil (Tr.normThen ?_)
     refine Tr.cond rfl H (fun H => ?_) (fun H => ?_)
     ·refine Tr.sr ?_
      refine Tr.asg rfl rfl ?_
      refine Tr.nil (Tr.normThen ?_)
      refine Tr.ret (Tr.retBlock (Tr.retThen (Tr.retThen (Tr.retBlock (Tr.retThen ?_)))))
      obtain rfl := Option.some.inj H
      exact Tr.out (m := [(.bool false)]) [] (res_tmp rfl res_nil) (fun W hW => ⟨rfl, hW.low leB⟩)
     ·refine Tr.skip (Tr.normBlock (Tr.normThen ?_))
      refine Tr.region ?_
      refine Tr.mv rfl rfl ?_
      refine Tr.va rfl (fun _ _ h1 h2 => run_add (h1.ev rfl) (h1.ev rfl)) ?_
      refine Tr.asg rfl rfl ?_
      refine Tr.nil ?_
      exact Tr.backThen leF_etchhouseref3_IsName_L1 (w64 (x105 + 1)) H (.cons rfl (.cons rfl .nil)) .nil
 ·refine Tr.exit (Tr.exitThen (Tr.exitThen (Tr.exitBlock (Tr.normThen ?_))))
  refine Tr.sr ?_
  refine Tr.mv rfl rfl ?_
  refine Tr.va rfl (fun _ _ h1 h2 => run_lenS un_9 (h1.ev rfl)) ?_
  obtain ⟨y107, hy107, H⟩ := bnd H
  refine Tr.call0 (r := (.bool y107)) (wn rfl) rfl Try.call65 (evl_cons rfl (evl_cons rfl (evl_cons rfl evl_nil))) (fun W hW => F_etchhouseref3_within_ok (p0.size : Int) 1 40 y107 hy107 (HF.start _)) ?_
  refine Tr.asg rfl rfl ?_
  refine Tr.nil (Tr.normThen ?_)
  refine Tr.ret ?_
  obtain rfl := Option.some.inj H
  exact Tr.out (m := [(.bool y107)]) [] (res_tmp rfl res_nil) (fun W hW => ⟨rfl, hW.low leB⟩)

theorem F_etchhouseref9_kind_ok (N : Nat) {w : Bs} (p0 : TPanel) (Ap0_0 : Option Addr) (cp0_0 : Nat) (hp0_0 : Sl w.R w.W fl_TBoardKind Ap0_0 cp0_0 p0.Kinds) (Ap0_1 : Option Addr) (cp0_1 : Nat) (hp0_1 : Sl w.R w.W fl_TSlot Ap0_1 cp0_1 p0.Slots) (Ap0_2 : Option Addr) (cp0_2 : Nat) (hp0_2 : Sl w.R w.W fl_TPoint Ap0_2 cp0_2 p0.Marks) (p1 : ByteArray) (r : Int) (H : F_etchhouseref9_kind N p0 p1 = some r) (hE : HF w w.W E0) : Calls Try.prog 66 [(.agg #[(.int .i64 p0.W), (.int .i64 p0.H), (.int .i64 p0.Rail), (.int .i64 p0.Gap), (.slice Ap0_0 (p0.Kinds).length cp0_0), (.slice Ap0_1 (p0.Slots).length cp0_1), (.slice Ap0_2 (p0.Marks).length cp0_2)]), (.string p1)].toArray w.W fun e W' => e = .returned (.int .i64 r) ∧ HF w W' E0 := by
 unfold F_etchhouseref9_kind at H
 have leB := Bs.Le.refl w
 refine Tr.enter (n := 22) Try.func66 rfl rfl rfl hE ?_
 refine Tr.sr ?_
 refine Tr.box 1 (cs := [(.int .i64 p0.W), (.int .i64 p0.H), (.int .i64 p0.Rail), (.int .i64 p0.Gap), (.slice Ap0_0 (p0.Kinds).length cp0_0), (.slice Ap0_1 (p0.Slots).length cp0_1), (.slice Ap0_2 (p0.Marks).length cp0_2)]) (wn rfl) rfl rfl rfl fun b100 => ?_
 refine Tr.asg rfl rfl ?_
 refine Tr.nil (Tr.normThen ?_)
 refine Tr.seq ?_
 refine Tr.sr ?_
 refine Tr.asg rfl rfl ?_
 refine Tr.nil (Tr.normThen ?_)
 refine Tr.block ?_
 refine Tr.loop (σ := Int) (fun m w s => F_etchhouseref9_kind_L1 p0 p1 m s = some r) (fun s => [(1, (.string p1)), (2, (.pointer (some ⟨b100, 0, none⟩))), (5, (.int .i64 s))]) (fun s => [(1, bx b100 #[(.int .i64 p0.W), (.int .i64 p0.H), (.int .i64 p0.Rail), (.int .i64 p0.Gap), (.slice Ap0_0 (p0.Kinds).length cp0_0), (.slice Ap0_1 (p0.Slots).length cp0_1), (.slice Ap0_2 (p0.Marks).length cp0_2)] 26)]) N 0 H (.cons rfl (.cons rfl (.cons rfl .nil))) (.cons rfl .nil) (fun _ _ h => noSome (h)) ?_
 intro w leF_etchhouseref9_kind_L1 mF_etchhouseref9_kind_L1 x106 hs
 have H := hs
 replace H : F_etchhouseref9_kind_L1 p0 p1 (mF_etchhouseref9_kind_L1 + 1) x106 = some r := H
 replace hp0_0 := hp0_0.leR leF_etchhouseref9_kind_L1
 replace hp0_1 := hp0_1.leR leF_etchhouseref9_kind_L1
 replace hp0_2 := hp0_2.leR leF_etchhouseref9_kind_L1
 replace leB := leB.trans leF_etchhouseref9_kind_L1
 rw [F_etchhouseref9_kind_L1.eq_2] at H
 show Tr _ _ (LF [(1, (.string p1)), (2, (.pointer (some ⟨b100, 0, none⟩))), (5, (.int .i64 x106))]) (LE [(1, bx b100 #[(.int .i64 p0.W), (.int .i64 p0.H), (.int .i64 p0.Rail), (.int .i64 p0.Gap), (.slice Ap0_0 (p0.Kinds).length cp0_0), (.slice Ap0_1 (p0.Slots).length cp0_1), (.slice Ap0_2 (p0.Marks).length cp0_2)] 26)]) _
 refine Tr.seq ?_
 refine Tr.sr ?_
 refine Tr.mv rfl rfl ?_
 refine Tr.va rfl (fun _ _ h1 h2 => run_fieldAddr fo_26_4 (h1.ev rfl)) ?_
 refine Tr.va rfl (fun _ _ h1 h2 => run_load1 ag_22 (h1.ev rfl) (rdb h2 (vs := [(.int .i64 p0.W), (.int .i64 p0.H), (.int .i64 p0.Rail), (.int .i64 p0.Gap), (.slice Ap0_0 (p0.Kinds).length cp0_0), (.slice Ap0_1 (p0.Slots).length cp0_1), (.slice Ap0_2 (p0.Marks).length cp0_2)]) (k := 1) rfl 4) rfl) ?_
 refine Tr.va rfl (fun _ _ h1 h2 => run_len un_22 (h1.ev rfl)) ?_
 refine Tr.va rfl (fun _ _ h1 h2 => run_lss (h1.ev rfl) (h1.ev rfl)) ?_
 refine Tr.nil (Tr.normThen ?_)
 refine Tr.cond rfl H (fun H => ?_) (fun H => ?_)
 ·refine Tr.skip (Tr.normThen ?_)
  refine Tr.seq ?_
  refine Tr.block ?_
  refine Tr.sr ?_
  refine Tr.va rfl (fun _ _ h1 h2 => run_fieldAddr fo_26_4 (h1.ev rfl)) ?_
  refine Tr.va rfl (fun _ _ h1 h2 => run_load1 ag_22 (h1.ev rfl) (rdb h2 (vs := [(.int .i64 p0.W), (.int .i64 p0.H), (.int .i64 p0.Rail), (.int .i64 p0.Gap), (.slice Ap0_0 (p0.Kinds).length cp0_0), (.slice Ap0_1 (p0.Slots).length cp0_1), (.slice Ap0_2 (p0.Marks).length cp0_2)]) (k := 1) rfl 4) rfl) ?_
  refine Tr.mv rfl rfl ?_
  obtain ⟨x107, hx107, H⟩ := bnd H
  obtain ⟨hx1070, hx1071, hx1072⟩ := idx_some hx107
  refine Tr.va rfl (fun _ _ h1 h2 => run_indexAddr el_22 (h1.ev rfl) hp0_0.form (h1.ev rfl) hx1070 hx1071) ?_
  refine Tr.va rfl (fun _ _ h1 h2 => run_fieldAddr fo_74_0 (h1.ev rfl)) ?_
  refine Tr.va rfl (fun _ _ h1 h2 => run_load1 ag_9 (h1.ev rfl) (CellsAt.drop (rdF ef_TBoardKind hp0_0 hx1072 h2) 0) rfl) ?_
  refine Tr.mv rfl rfl ?_
  refine Tr.va rfl (fun _ _ h1 h2 => run_eqlS (h1.ev rfl) (h1.ev rfl)) ?_
  refine Tr.nil (Tr.normThen ?_)
  refine Tr.cond rfl H (fun H => ?_) (fun H => ?_)
  ·refine Tr.sr ?_
   refine Tr.mv rfl rfl ?_
   refine Tr.asg rfl rfl ?_
   refine Tr.nil (Tr.normThen ?_)
   refine Tr.ret (Tr.retBlock (Tr.retThen (Tr.retThen (Tr.retBlock (Tr.retThen ?_)))))
   obtain rfl := Option.some.inj H
   exact Tr.out (m := [(.int .i64 x106)]) [] (res_tmp rfl res_nil) (fun W hW => ⟨rfl, hW.low leB⟩)
  ·refine Tr.skip (Tr.normBlock (Tr.normThen ?_))
   refine Tr.region ?_
   refine Tr.mv rfl rfl ?_
   refine Tr.va rfl (fun _ _ h1 h2 => run_add (h1.ev rfl) (h1.ev rfl)) ?_
   refine Tr.asg rfl rfl ?_
   refine Tr.nil ?_
   exact Tr.backThen leF_etchhouseref9_kind_L1 (w64 (x106 + 1)) H (.cons rfl (.cons rfl (.cons rfl .nil))) (.cons rfl .nil)
 ·refine Tr.exit (Tr.exitThen (Tr.exitThen (Tr.exitBlock (Tr.normThen ?_))))
  refine Tr.sr ?_
  refine Tr.asg rfl rfl ?_
  refine Tr.nil (Tr.normThen ?_)
  refine Tr.ret ?_
  obtain rfl := Option.some.inj H
  exact Tr.out (m := [(.int .i64 (-1))]) [] (res_tmp rfl res_nil) (fun W hW => ⟨rfl, hW.low leB⟩)

theorem F_etchhouseref9_sizeOf_ok {w : Bs} (p0 : TBoardKind) (p1 : Int) (r : (Int × Int)) (H : F_etchhouseref9_sizeOf p0 p1 = some r) (hE : HF w w.W E0) : Calls Try.prog 67 [(.agg #[(.string p0.Name), (.int .i64 p0.W), (.int .i64 p0.H)]), (.int .i64 p1)].toArray w.W fun e W' => e = .returned (.tuple #[(.int .i64 r.1), (.int .i64 r.2)]) ∧ HF w W' E0 := by
 unfold F_etchhouseref9_sizeOf at H
 have leB := Bs.Le.refl w
 refine Tr.enter (n := 17) Try.func67 rfl rfl rfl hE ?_
 refine Tr.sr ?_
 refine Tr.box 1 (cs := [(.string p0.Name), (.int .i64 p0.W), (.int .i64 p0.H)]) (wn rfl) rfl rfl rfl fun b100 => ?_
 refine Tr.asg rfl rfl ?_
 refine Tr.asg rfl rfl ?_
 refine Tr.nil (Tr.normThen ?_)
 refine Tr.seq ?_
 refine Tr.sr ?_
 refine Tr.mv rfl rfl ?_
 refine Tr.va rfl (fun _ _ h1 h2 => run_rem (h1.ev rfl) (h1.ev rfl) (by decide)) ?_
 refine Tr.va rfl (fun _ _ h1 h2 => run_eql (h1.ev rfl) (h1.ev rfl)) ?_
 refine Tr.nil (Tr.normThen ?_)
 refine Tr.cond rfl H (fun H => ?_) (fun H => ?_)
 ·refine Tr.seq ?_
  refine Tr.draw (by kernel_rfl) (by kernel_rfl) ?_
  refine Tq.va rfl (fun _ _ h1 h2 => run_fieldAddr fo_74_2 (h1.ev rfl)) ?_
  refine Tq.va rfl (fun _ _ h1 h2 => run_load1 ag_3 (h1.ev rfl) (rdb h2 (vs := [(.string p0.Name), (.int .i64 p0.W), (.int .i64 p0.H)]) (k := 1) rfl 2) rfl) ?_
  refine Tq.va rfl (fun _ _ h1 h2 => run_fieldAddr fo_74_1 (h1.ev rfl)) ?_
  refine Tq.va rfl (fun _ _ h1 h2 => run_load1 ag_3 (h1.ev rfl) (rdb h2 (vs := [(.string p0.Name), (.int .i64 p0.W), (.int .i64 p0.H)]) (k := 1) rfl 1) rfl) ?_
  refine Tq.asg rfl rfl ?_
  refine Tq.asg rfl rfl ?_
  refine Tq.nil (Tr.normThen ?_)
  refine Tr.ret (Tr.retThen ?_)
  obtain rfl := Option.some.inj H
  exact Tr.out (m := [(.int .i64 p0.H), (.int .i64 p0.W)]) [] (res_tmp rfl (res_tmp rfl res_nil)) (fun W hW => ⟨rfl, hW.low leB⟩)
 ·refine Tr.skip (Tr.normThen ?_)
  refine Tr.seq ?_
  refine Tr.draw (by kernel_rfl) (by kernel_rfl) ?_
  refine Tq.va rfl (fun _ _ h1 h2 => run_fieldAddr fo_74_1 (h1.ev rfl)) ?_
  refine Tq.va rfl (fun _ _ h1 h2 => run_load1 ag_3 (h1.ev rfl) (rdb h2 (vs := [(.string p0.Name), (.int .i64 p0.W), (.int .i64 p0.H)]) (k := 1) rfl 1) rfl) ?_
  refine Tq.va rfl (fun _ _ h1 h2 => run_fieldAddr fo_74_2 (h1.ev rfl)) ?_
  refine Tq.va rfl (fun _ _ h1 h2 => run_load1 ag_3 (h1.ev rfl) (rdb h2 (vs := [(.string p0.Name), (.int .i64 p0.W), (.int .i64 p0.H)]) (k := 1) rfl 2) rfl) ?_
  refine Tq.asg rfl rfl ?_
  refine Tq.asg rfl rfl ?_
  refine Tq.nil (Tr.normThen ?_)
  refine Tr.ret ?_
  obtain rfl := Option.some.inj H
  exact Tr.out (m := [(.int .i64 p0.W), (.int .i64 p0.H)]) [] (res_tmp rfl (res_tmp rfl res_nil)) (fun W hW => ⟨rfl, hW.low leB⟩)

theorem F_etchhouseref9_lies_ok {w : Bs} (p0 : TPanel) (Ap0_0 : Option Addr) (cp0_0 : Nat) (hp0_0 : Sl w.R w.W fl_TBoardKind Ap0_0 cp0_0 p0.Kinds) (Ap0_1 : Option Addr) (cp0_1 : Nat) (hp0_1 : Sl w.R w.W fl_TSlot Ap0_1 cp0_1 p0.Slots) (Ap0_2 : Option Addr) (cp0_2 : Nat) (hp0_2 : Sl w.R w.W fl_TPoint Ap0_2 cp0_2 p0.Marks) (p1 : TPoint) (p2 : Int) (p3 : Int) (r : Bool) (H : F_etchhouseref9_lies p0 p1 p2 p3 = some r) (hE : HF w w.W E0) : Calls Try.prog 68 [(.agg #[(.int .i64 p0.W), (.int .i64 p0.H), (.int .i64 p0.Rail), (.int .i64 p0.Gap), (.slice Ap0_0 (p0.Kinds).length cp0_0), (.slice Ap0_1 (p0.Slots).length cp0_1), (.slice Ap0_2 (p0.Marks).length cp0_2)]), (.agg #[(.int .i64 p1.X), (.int .i64 p1.Y)]), (.int .i64 p2), (.int .i64 p3)].toArray w.W fun e W' => e = .returned (.bool r) ∧ HF w W' E0 := by
 unfold F_etchhouseref9_lies at H
 have leB := Bs.Le.refl w
 refine Tr.enter (n := 35) Try.func68 rfl rfl rfl hE ?_
 refine Tr.sr ?_
 refine Tr.box 1 (cs := [(.int .i64 p0.W), (.int .i64 p0.H), (.int .i64 p0.Rail), (.int .i64 p0.Gap), (.slice Ap0_0 (p0.Kinds).length cp0_0), (.slice Ap0_1 (p0.Slots).length cp0_1), (.slice Ap0_2 (p0.Marks).length cp0_2)]) (wn rfl) rfl rfl rfl fun b100 => ?_
 refine Tr.box 2 (cs := [(.int .i64 p1.X), (.int .i64 p1.Y)]) (wn rfl) rfl rfl rfl fun b101 => ?_
 refine Tr.asg rfl rfl ?_
 refine Tr.nil (Tr.normThen ?_)
 refine Tr.sr ?_
 refine Tr.va rfl (fun _ _ h1 h2 => run_fieldAddr fo_82_0 (h1.ev rfl)) ?_
 refine Tr.va rfl (fun _ _ h1 h2 => run_load1 ag_3 (h1.ev rfl) (rdb h2 (vs := [(.int .i64 p1.X), (.int .i64 p1.Y)]) (k := 2) rfl 0) rfl) ?_
 refine Tr.va rfl (fun _ _ h1 h2 => run_fieldAddr fo_26_2 (h1.ev rfl)) ?_
 refine Tr.va rfl (fun _ _ h1 h2 => run_load1 ag_3 (h1.ev rfl) (rdb h2 (vs := [(.int .i64 p0.W), (.int .i64 p0.H), (.int .i64 p0.Rail), (.int .i64 p0.Gap), (.slice Ap0_0 (p0.Kinds).length cp0_0), (.slice Ap0_1 (p0.Slots).length cp0_1), (.slice Ap0_2 (p0.Marks).length cp0_2)]) (k := 1) rfl 2) rfl) ?_
 refine Tr.va rfl (fun _ _ h1 h2 => run_fieldAddr fo_26_0 (h1.ev rfl)) ?_
 refine Tr.va rfl (fun _ _ h1 h2 => run_load1 ag_3 (h1.ev rfl) (rdb h2 (vs := [(.int .i64 p0.W), (.int .i64 p0.H), (.int .i64 p0.Rail), (.int .i64 p0.Gap), (.slice Ap0_0 (p0.Kinds).length cp0_0), (.slice Ap0_1 (p0.Slots).length cp0_1), (.slice Ap0_2 (p0.Marks).length cp0_2)]) (k := 1) rfl 0) rfl) ?_
 refine Tr.va rfl (fun _ _ h1 h2 => run_fieldAddr fo_26_2 (h1.ev rfl)) ?_
 refine Tr.va rfl (fun _ _ h1 h2 => run_load1 ag_3 (h1.ev rfl) (rdb h2 (vs := [(.int .i64 p0.W), (.int .i64 p0.H), (.int .i64 p0.Rail), (.int .i64 p0.Gap), (.slice Ap0_0 (p0.Kinds).length cp0_0), (.slice Ap0_1 (p0.Slots).length cp0_1), (.slice Ap0_2 (p0.Marks).length cp0_2)]) (k := 1) rfl 2) rfl) ?_
 refine Tr.va rfl (fun _ _ h1 h2 => run_sub (h1.ev rfl) (h1.ev rfl)) ?_
 refine Tr.mv rfl rfl ?_
 refine Tr.va rfl (fun _ _ h1 h2 => run_sub (h1.ev rfl) (h1.ev rfl)) ?_
 obtain ⟨y102, hy102, H⟩ := bnd H
 refine Tr.call0 (r := (.bool y102)) (wn rfl) rfl Try.call41 (evl_cons rfl (evl_cons rfl (evl_cons rfl evl_nil))) (fun W hW => F_etchhouseref9_within_ok p1.X p0.Rail (w64 ((w64 (p0.W - p0.Rail)) - p2)) y102 hy102 (HF.start _)) ?_
 refine Tr.mv rfl rfl ?_
 obtain ⟨g104, hg104, H⟩ := bnd H
 refine Tr.mid0 13 [(34, (.bool g104))] [(1, bx b100 #[(.int .i64 p0.W), (.int .i64 p0.H), (.int .i64 p0.Rail), (.int .i64 p0.Gap), (.slice Ap0_0 (p0.Kinds).length cp0_0), (.slice Ap0_1 (p0.Slots).length cp0_1), (.slice Ap0_2 (p0.Marks).length cp0_2)] 26), (2, bx b101 #[(.int .i64 p1.X), (.int .i64 p1.Y)] 82)] ?_ ?_
 ·cases hg105 : y102
  ·rw [hg105] at hg104
   rw [if_neg (by decide)] at hg104
   have H := hg104
   obtain rfl := Option.some.inj H
   refine Tr.pass rfl rfl rfl rfl rfl (by decide) ?_
   refine Tr.pass rfl rfl rfl rfl rfl (by decide) ?_
   refine Tr.pass rfl rfl rfl rfl rfl (by decide) ?_
   refine Tr.pass rfl rfl rfl rfl rfl (by decide) ?_
   refine Tr.pass rfl rfl rfl rfl rfl (by decide) ?_
   refine Tr.pass rfl rfl rfl rfl rfl (by decide) ?_
   refine Tr.pass rfl rfl rfl rfl rfl (by decide) ?_
   refine Tr.pass rfl rfl rfl rfl rfl (by decide) ?_
   refine Tr.pass rfl rfl rfl rfl rfl (by decide) ?_
   refine Tr.pass rfl rfl rfl rfl rfl (by decide) ?_
   refine Tr.pass rfl rfl rfl rfl rfl (by decide) ?_
   refine Tr.pass rfl rfl rfl rfl rfl (by decide) ?_
   refine Tr.va rfl (fun _ _ h1 h2 => run_pickF (h1.ev rfl) (h1.ev rfl)) ?_
   exact Tr.nil (Tr.fin0 (.cons rfl .nil) (.cons rfl (.cons rfl .nil)))
  ·rw [hg105] at hg104
   rw [if_pos rfl] at hg104
   have H := hg104
   refine Tr.val (wg rfl rfl rfl) rfl (fun _ _ h1 h2 => run_fieldAddr fo_82_1 (h1.ev rfl)) ?_
   refine Tr.val (wg rfl rfl rfl) rfl (fun _ _ h1 h2 => run_load1 ag_3 (h1.ev rfl) (rdb h2 (vs := [(.int .i64 p1.X), (.int .i64 p1.Y)]) (k := 2) rfl 1) rfl) ?_
   refine Tr.val (wg rfl rfl rfl) rfl (fun _ _ h1 h2 => run_fieldAddr fo_26_2 (h1.ev rfl)) ?_
   refine Tr.val (wg rfl rfl rfl) rfl (fun _ _ h1 h2 => run_load1 ag_3 (h1.ev rfl) (rdb h2 (vs := [(.int .i64 p0.W), (.int .i64 p0.H), (.int .i64 p0.Rail), (.int .i64 p0.Gap), (.slice Ap0_0 (p0.Kinds).length cp0_0), (.slice Ap0_1 (p0.Slots).length cp0_1), (.slice Ap0_2 (p0.Marks).length cp0_2)]) (k := 1) rfl 2) rfl) ?_
   refine Tr.val (wg rfl rfl rfl) rfl (fun _ _ h1 h2 => run_fieldAddr fo_26_1 (h1.ev rfl)) ?_
   refine Tr.val (wg rfl rfl rfl) rfl (fun _ _ h1 h2 => run_load1 ag_3 (h1.ev rfl) (rdb h2 (vs := [(.int .i64 p0.W), (.int .i64 p0.H), (.int .i64 p0.Rail), (.int .i64 p0.Gap), (.slice Ap0_0 (p0.Kinds).length cp0_0), (.slice Ap0_1 (p0.Slots).length cp0_1), (.slice Ap0_2 (p0.Marks).length cp0_2)]) (k := 1) rfl 1) rfl) ?_
   refine Tr.val (wg rfl rfl rfl) rfl (fun _ _ h1 h2 => run_fieldAddr fo_26_2 (h1.ev rfl)) ?_
   refine Tr.val (wg rfl rfl rfl) rfl (fun _ _ h1 h2 => run_load1 ag_3 (h1.ev rfl) (rdb h2 (vs := [(.int .i64 p0.W), (.int .i64 p0.H), (.int .i64 p0.Rail), (.int .i64 p0.Gap), (.slice Ap0_0 (p0.Kinds).length cp0_0), (.slice Ap0_1 (p0.Slots).length cp0_1), (.slice Ap0_2 (p0.Marks).length cp0_2)]) (k := 1) rfl 2) rfl) ?_
   refine Tr.val (wg rfl rfl rfl) rfl (fun _ _ h1 h2 => run_sub (h1.ev rfl) (h1.ev rfl)) ?_
   refine Tr.val (wg rfl rfl rfl) rfl (fun _ _ h1 h2 => run_move (h1.ev rfl)) ?_
   refine Tr.val (wg rfl rfl rfl) rfl (fun _ _ h1 h2 => run_sub (h1.ev rfl) (h1.ev rfl)) ?_
   obtain ⟨y105, hy105, H⟩ := bnd H
   refine Tr.call0 (r := (.bool y105)) (wg rfl rfl rfl) rfl Try.call41 (evl_cons rfl (evl_cons rfl (evl_cons rfl evl_nil))) (fun W hW => F_etchhouseref9_within_ok p1.Y p0.Rail (w64 ((w64 (p0.H - p0.Rail)) - p3)) y105 hy105 (HF.start _)) ?_
   refine Tr.va rfl (fun _ _ h1 h2 => run_pickT (h1.ev rfl) (h1.ev rfl)) ?_
   obtain rfl := Option.some.inj H
   exact Tr.nil (Tr.fin0 (.cons rfl .nil) (.cons rfl (.cons rfl .nil)))
 ·show Tr _ _ (LF [(34, (.bool g104))]) (LE [(1, bx b100 #[(.int .i64 p0.W), (.int .i64 p0.H), (.int .i64 p0.Rail), (.int .i64 p0.Gap), (.slice Ap0_0 (p0.Kinds).length cp0_0), (.slice Ap0_1 (p0.Slots).length cp0_1), (.slice Ap0_2 (p0.Marks).length cp0_2)] 26), (2, bx b101 #[(.int .i64 p1.X), (.int .i64 p1.Y)] 82)]) _
  refine Tr.asg rfl rfl ?_
  refine Tr.nil (Tr.normThen ?_)
  refine Tr.ret ?_
  obtain rfl := Option.some.inj H
  exact Tr.out (m := [(.bool g104)]) [] (res_tmp rfl res_nil) (fun W hW => ⟨rfl, hW.low leB⟩)

theorem F_etchhouseref9_cellOf_ok (N : Nat) {w : Bs} (p0 : TPanel) (Ap0_0 : Option Addr) (cp0_0 : Nat) (hp0_0 : Sl w.R w.W fl_TBoardKind Ap0_0 cp0_0 p0.Kinds) (Ap0_1 : Option Addr) (cp0_1 : Nat) (hp0_1 : Sl w.R w.W fl_TSlot Ap0_1 cp0_1 p0.Slots) (Ap0_2 : Option Addr) (cp0_2 : Nat) (hp0_2 : Sl w.R w.W fl_TPoint Ap0_2 cp0_2 p0.Marks) (p1 : TSlot) (r : TRect) (H : F_etchhouseref9_cellOf N p0 p1 = some r) (hE : HF w w.W E0) : Calls Try.prog 63 [(.agg #[(.int .i64 p0.W), (.int .i64 p0.H), (.int .i64 p0.Rail), (.int .i64 p0.Gap), (.slice Ap0_0 (p0.Kinds).length cp0_0), (.slice Ap0_1 (p0.Slots).length cp0_1), (.slice Ap0_2 (p0.Marks).length cp0_2)]), (.agg #[(.string p1.Board), (.int .i64 p1.Quarters), (.int .i64 p1.At.X), (.int .i64 p1.At.Y)])].toArray w.W fun e W' => e = .returned (.agg #[(.int .i64 r.X0), (.int .i64 r.Y0), (.int .i64 r.X1), (.int .i64 r.Y1)]) ∧ HF w W' E0 := by
 unfold F_etchhouseref9_cellOf at H
 have leB := Bs.Le.refl w
 refine Tr.enter (n := 38) Try.func63 rfl rfl rfl hE ?_
 refine Tr.sr ?_
 refine Tr.box 1 (cs := [(.int .i64 p0.W), (.int .i64 p0.H), (.int .i64 p0.Rail), (.int .i64 p0.Gap), (.slice Ap0_0 (p0.Kinds).length cp0_0), (.slice Ap0_1 (p0.Slots).length cp0_1), (.slice Ap0_2 (p0.Marks).length cp0_2)]) (wn rfl) rfl rfl rfl fun b100 => ?_
 refine Tr.box 2 (cs := [(.string p1.Board), (.int .i64 p1.Quarters), (.int .i64 p1.At.X), (.int .i64 p1.At.Y)]) (wn rfl) rfl rfl rfl fun b101 => ?_
 refine Tr.alloc 3 (wn rfl) rfl ze_38 fun b102 => ?_
 refine Tr.nil (Tr.normThen ?_)
 refine Tr.seq ?_
 refine Tr.draw (by kernel_rfl) (by kernel_rfl) ?_
 refine Tq.va rfl (fun _ _ h1 h2 => run_fieldAddr fo_26_4 (h1.ev rfl)) ?_
 refine Tq.va rfl (fun _ _ h1 h2 => run_load1 ag_22 (h1.ev rfl) (rdb h2 (vs := [(.int .i64 p0.W), (.int .i64 p0.H), (.int .i64 p0.Rail), (.int .i64 p0.Gap), (.slice Ap0_0 (p0.Kinds).length cp0_0), (.slice Ap0_1 (p0.Slots).length cp0_1), (.slice Ap0_2 (p0.Marks).length cp0_2)]) (k := 1) rfl 4) rfl) ?_
 refine Tq.va rfl (fun _ _ h1 h2 => run_loadN (cs := [(.int .i64 p0.W), (.int .i64 p0.H), (.int .i64 p0.Rail), (.int .i64 p0.Gap), (.slice Ap0_0 (p0.Kinds).length cp0_0), (.slice Ap0_1 (p0.Slots).length cp0_1), (.slice Ap0_2 (p0.Marks).length cp0_2)]) ag_26 sz_26 (h1.ev rfl) (CellsAt.take (rdb h2 (vs := [(.int .i64 p0.W), (.int .i64 p0.H), (.int .i64 p0.Rail), (.int .i64 p0.Gap), (.slice Ap0_0 (p0.Kinds).length cp0_0), (.slice Ap0_1 (p0.Slots).length cp0_1), (.slice Ap0_2 (p0.Marks).length cp0_2)]) (k := 1) rfl 0) 7) rfl) ?_
 refine Tq.va rfl (fun _ _ h1 h2 => run_fieldAddr fo_96_0 (h1.ev rfl)) ?_
 refine Tq.va rfl (fun _ _ h1 h2 => run_load1 ag_9 (h1.ev rfl) (rdb h2 (vs := [(.string p1.Board), (.int .i64 p1.Quarters), (.int .i64 p1.At.X), (.int .i64 p1.At.Y)]) (k := 2) rfl 0) rfl) ?_
 obtain ⟨y103, hy103, H⟩ := bnd H
 refine Tq.call0 (r := (.int .i64 y103)) (wn rfl) rfl Try.call66 (evl_cons rfl (evl_cons rfl evl_nil)) (fun W hW => F_etchhouseref9_kind_ok N p0 Ap0_0 cp0_0 (hp0_0.ext hW.extAll) Ap0_1 cp0_1 (hp0_1.ext hW.extAll) Ap0_2 cp0_2 (hp0_2.ext hW.extAll) p1.Board y103 hy103 (HF.start _)) ?_
 obtain ⟨x104, hx104, H⟩ := bnd H
 obtain ⟨hx1040, hx1041, hx1042⟩ := idx_some hx104
 refine Tq.va rfl (fun _ _ h1 h2 => run_indexAddr el_22 (h1.ev rfl) hp0_0.form (h1.ev rfl) hx1040 hx1041) ?_
 refine Tq.va rfl (fun _ _ h1 h2 => run_loadN (cs := [(.string x104.Name), (.int .i64 x104.W), (.int .i64 x104.H)]) ag_74 sz_74 (h1.ev rfl) (CellsAt.take (rdF ef_TBoardKind hp0_0 hx1042 h2) 3) rfl) ?_
 refine Tq.va rfl (fun _ _ h1 h2 => run_fieldAddr fo_96_1 (h1.ev rfl)) ?_
 refine Tq.va rfl (fun _ _ h1 h2 => run_load1 ag_3 (h1.ev rfl) (rdb h2 (vs := [(.string p1.Board), (.int .i64 p1.Quarters), (.int .i64 p1.At.X), (.int .i64 p1.At.Y)]) (k := 2) rfl 1) rfl) ?_
 obtain ⟨y105, hy105, H⟩ := bnd H
 refine Tq.call0 (r := (.tuple #[(.int .i64 y105.1), (.int .i64 y105.2)])) (wn rfl) rfl Try.call67 (evl_cons rfl (evl_cons rfl evl_nil)) (fun W hW => F_etchhouseref9_sizeOf_ok x104 p1.Quarters y105 hy105 (HF.start _)) ?_
 refine Tq.mv rfl rfl ?_
 refine Tq.va rfl (fun _ _ h1 h2 => run_extract (h1.ev rfl) rfl) ?_
 refine Tq.va rfl (fun _ _ h1 h2 => run_extract (h1.ev rfl) rfl) ?_
 refine Tq.asg rfl rfl ?_
 refine Tq.asg rfl rfl ?_
 refine Tq.nil (Tr.normThen ?_)
 refine Tr.sr ?_
 refine Tr.va rfl (fun _ _ h1 h2 => run_fieldAddr fo_96_2 (h1.ev rfl)) ?_
 refine Tr.va rfl (fun _ _ h1 h2 => run_fieldAddr fo_82_0 (h1.ev rfl)) ?_
 refine Tr.va rfl (fun _ _ h1 h2 => run_load1 ag_3 (h1.ev rfl) (rdb h2 (vs := [(.string p1.Board), (.int .i64 p1.Quarters), (.int .i64 p1.At.X), (.int .i64 p1.At.Y)]) (k := 2) rfl 2) rfl) ?_
 refine Tr.va rfl (fun _ _ h1 h2 => run_fieldAddr fo_96_2 (h1.ev rfl)) ?_
 refine Tr.va rfl (fun _ _ h1 h2 => run_fieldAddr fo_82_1 (h1.ev rfl)) ?_
 refine Tr.va rfl (fun _ _ h1 h2 => run_load1 ag_3 (h1.ev rfl) (rdb h2 (vs := [(.string p1.Board), (.int .i64 p1.Quarters), (.int .i64 p1.At.X), (.int .i64 p1.At.Y)]) (k := 2) rfl 3) rfl) ?_
 refine Tr.va rfl (fun _ _ h1 h2 => run_fieldAddr fo_96_2 (h1.ev rfl)) ?_
 refine Tr.va rfl (fun _ _ h1 h2 => run_fieldAddr fo_82_0 (h1.ev rfl)) ?_
 refine Tr.va rfl (fun _ _ h1 h2 => run_load1 ag_3 (h1.ev rfl) (rdb h2 (vs := [(.string p1.Board), (.int .i64 p1.Quarters), (.int .i64 p1.At.X), (.int .i64 p1.At.Y)]) (k := 2) rfl 2) rfl) ?_
 refine Tr.mv rfl rfl ?_
 refine Tr.va rfl (fun _ _ h1 h2 => run_add (h1.ev rfl) (h1.ev rfl)) ?_
 refine Tr.va rfl (fun _ _ h1 h2 => run_fieldAddr fo_96_2 (h1.ev rfl)) ?_
 refine Tr.va rfl (fun _ _ h1 h2 => run_fieldAddr fo_82_1 (h1.ev rfl)) ?_
 refine Tr.va rfl (fun _ _ h1 h2 => run_load1 ag_3 (h1.ev rfl) (rdb h2 (vs := [(.string p1.Board), (.int .i64 p1.Quarters), (.int .i64 p1.At.X), (.int .i64 p1.At.Y)]) (k := 2) rfl 3) rfl) ?_
 refine Tr.mv rfl rfl ?_
 refine Tr.va rfl (fun _ _ h1 h2 => run_add (h1.ev rfl) (h1.ev rfl)) ?_
 refine Tr.build (vs := [(0, (.int .i64 p1.At.X)), (1, (.int .i64 p1.At.Y)), (2, (.int .i64 (w64 (p1.At.X + y105.1)))), (3, (.int .i64 (w64 (p1.At.Y + y105.2))))]) (cs := [(.int .i64 p1.At.X), (.int .i64 p1.At.Y), (.int .i64 (w64 (p1.At.X + y105.1))), (.int .i64 (w64 (p1.At.Y + y105.2)))]) (wn rfl) rfl (evs_cons rfl (evs_cons rfl (evs_cons rfl (evs_cons rfl evs_nil)))) (by kernel_rfl) ?_
 refine Tr.store 3 (cs := [(.int .i64 p1.At.X), (.int .i64 p1.At.Y), (.int .i64 (w64 (p1.At.X + y105.1))), (.int .i64 (w64 (p1.At.Y + y105.2)))]) [(.int .i64 p1.At.X), (.int .i64 p1.At.Y), (.int .i64 (w64 (p1.At.X + y105.1))), (.int .i64 (w64 (p1.At.Y + y105.2)))] (wn rfl) rfl rfl rfl rfl sz_38 rfl rfl rfl ?_
 refine Tr.nil (Tr.normThen ?_)
 refine Tr.ret ?_
 obtain rfl := Option.some.inj H
 exact Tr.out (m := [(.agg #[(.int .i64 p1.At.X), (.int .i64 p1.At.Y), (.int .i64 (w64 (p1.At.X + y105.1))), (.int .i64 (w64 (p1.At.Y + y105.2)))])]) [3] (res_cell rfl rfl ag_38 sz_38 res_nil) (fun W hW => ⟨rfl, hW.low leB⟩)

theorem F_etchhouseref9_apart_ok {w : Bs} (p0 : TRect) (p1 : TRect) (p2 : Int) (r : Bool) (H : F_etchhouseref9_apart p0 p1 p2 = some r) (hE : HF w w.W E0) : Calls Try.prog 69 [(.agg #[(.int .i64 p0.X0), (.int .i64 p0.Y0), (.int .i64 p0.X1), (.int .i64 p0.Y1)]), (.agg #[(.int .i64 p1.X0), (.int .i64 p1.Y0), (.int .i64 p1.X1), (.int .i64 p1.Y1)]), (.int .i64 p2)].toArray w.W fun e W' => e = .returned (.bool r) ∧ HF w W' E0 := by
 unfold F_etchhouseref9_apart at H
 have leB := Bs.Le.refl w
 refine Tr.enter (n := 41) Try.func69 rfl rfl rfl hE ?_
 refine Tr.sr ?_
 refine Tr.box 1 (cs := [(.int .i64 p0.X0), (.int .i64 p0.Y0), (.int .i64 p0.X1), (.int .i64 p0.Y1)]) (wn rfl) rfl rfl rfl fun b100 => ?_
 refine Tr.box 2 (cs := [(.int .i64 p1.X0), (.int .i64 p1.Y0), (.int .i64 p1.X1), (.int .i64 p1.Y1)]) (wn rfl) rfl rfl rfl fun b101 => ?_
 refine Tr.asg rfl rfl ?_
 refine Tr.nil (Tr.normThen ?_)
 refine Tr.sr ?_
 refine Tr.va rfl (fun _ _ h1 h2 => run_fieldAddr fo_38_2 (h1.ev rfl)) ?_
 refine Tr.va rfl (fun _ _ h1 h2 => run_load1 ag_3 (h1.ev rfl) (rdb h2 (vs := [(.int .i64 p0.X0), (.int .i64 p0.Y0), (.int .i64 p0.X1), (.int .i64 p0.Y1)]) (k := 1) rfl 2) rfl) ?_
 refine Tr.mv rfl rfl ?_
 refine Tr.va rfl (fun _ _ h1 h2 => run_add (h1.ev rfl) (h1.ev rfl)) ?_
 refine Tr.va rfl (fun _ _ h1 h2 => run_fieldAddr fo_38_0 (h1.ev rfl)) ?_
 refine Tr.va rfl (fun _ _ h1 h2 => run_load1 ag_3 (h1.ev rfl) (rdb h2 (vs := [(.int .i64 p1.X0), (.int .i64 p1.Y0), (.int .i64 p1.X1), (.int .i64 p1.Y1)]) (k := 2) rfl 0) rfl) ?_
 refine Tr.va rfl (fun _ _ h1 h2 => run_leq (h1.ev rfl) (h1.ev rfl)) ?_
 refine Tr.mv rfl rfl ?_
 refine Tr.mid0 8 [(2, (.int .i64 p2)), (3, (.pointer (some ⟨b100, 0, none⟩))), (4, (.pointer (some ⟨b101, 0, none⟩))), (22, (.bool ((decide ((w64 (p0.X1 + p2)) ≤ p1.X0)) || (decide ((w64 (p1.X1 + p2)) ≤ p0.X0)))))] [(1, bx b100 #[(.int .i64 p0.X0), (.int .i64 p0.Y0), (.int .i64 p0.X1), (.int .i64 p0.Y1)] 38), (2, bx b101 #[(.int .i64 p1.X0), (.int .i64 p1.Y0), (.int .i64 p1.X1), (.int .i64 p1.Y1)] 38)] ?_ ?_
 ·cases hg101 : (decide ((w64 (p0.X1 + p2)) ≤ p1.X0))
  ·refine Tr.val (wg rfl rfl rfl) rfl (fun _ _ h1 h2 => run_fieldAddr fo_38_2 (h1.ev rfl)) ?_
   refine Tr.val (wg rfl rfl rfl) rfl (fun _ _ h1 h2 => run_load1 ag_3 (h1.ev rfl) (rdb h2 (vs := [(.int .i64 p1.X0), (.int .i64 p1.Y0), (.int .i64 p1.X1), (.int .i64 p1.Y1)]) (k := 2) rfl 2) rfl) ?_
   refine Tr.val (wg rfl rfl rfl) rfl (fun _ _ h1 h2 => run_move (h1.ev rfl)) ?_
   refine Tr.val (wg rfl rfl rfl) rfl (fun _ _ h1 h2 => run_add (h1.ev rfl) (h1.ev rfl)) ?_
   refine Tr.val (wg rfl rfl rfl) rfl (fun _ _ h1 h2 => run_fieldAddr fo_38_0 (h1.ev rfl)) ?_
   refine Tr.val (wg rfl rfl rfl) rfl (fun _ _ h1 h2 => run_load1 ag_3 (h1.ev rfl) (rdb h2 (vs := [(.int .i64 p0.X0), (.int .i64 p0.Y0), (.int .i64 p0.X1), (.int .i64 p0.Y1)]) (k := 1) rfl 0) rfl) ?_
   refine Tr.val (wg rfl rfl rfl) rfl (fun _ _ h1 h2 => run_leq (h1.ev rfl) (h1.ev rfl)) ?_
   refine Tr.va rfl (fun _ _ h1 h2 => run_pickF (h1.ev rfl) (h1.ev rfl)) ?_
   exact Tr.nil (Tr.fin0 (.cons rfl (.cons rfl (.cons rfl (.cons rfl .nil)))) (.cons rfl (.cons rfl .nil)))
  ·refine Tr.pass rfl rfl rfl rfl rfl (by decide) ?_
   refine Tr.pass rfl rfl rfl rfl rfl (by decide) ?_
   refine Tr.pass rfl rfl rfl rfl rfl (by decide) ?_
   refine Tr.pass rfl rfl rfl rfl rfl (by decide) ?_
   refine Tr.pass rfl rfl rfl rfl rfl (by decide) ?_
   refine Tr.pass rfl rfl rfl rfl rfl (by decide) ?_
   refine Tr.pass rfl rfl rfl rfl rfl (by decide) ?_
   refine Tr.va rfl (fun _ _ h1 h2 => run_pickT (h1.ev rfl) (h1.ev rfl)) ?_
   exact Tr.nil (Tr.fin0 (.cons rfl (.cons rfl (.cons rfl (.cons rfl .nil)))) (.cons rfl (.cons rfl .nil)))
 ·show Tr _ _ (LF [(2, (.int .i64 p2)), (3, (.pointer (some ⟨b100, 0, none⟩))), (4, (.pointer (some ⟨b101, 0, none⟩))), (22, (.bool ((decide ((w64 (p0.X1 + p2)) ≤ p1.X0)) || (decide ((w64 (p1.X1 + p2)) ≤ p0.X0)))))]) (LE [(1, bx b100 #[(.int .i64 p0.X0), (.int .i64 p0.Y0), (.int .i64 p0.X1), (.int .i64 p0.Y1)] 38), (2, bx b101 #[(.int .i64 p1.X0), (.int .i64 p1.Y0), (.int .i64 p1.X1), (.int .i64 p1.Y1)] 38)]) _
  refine Tr.mv rfl rfl ?_
  refine Tr.mid0 8 [(2, (.int .i64 p2)), (3, (.pointer (some ⟨b100, 0, none⟩))), (4, (.pointer (some ⟨b101, 0, none⟩))), (31, (.bool (((decide ((w64 (p0.X1 + p2)) ≤ p1.X0)) || (decide ((w64 (p1.X1 + p2)) ≤ p0.X0))) || (decide ((w64 (p0.Y1 + p2)) ≤ p1.Y0)))))] [(1, bx b100 #[(.int .i64 p0.X0), (.int .i64 p0.Y0), (.int .i64 p0.X1), (.int .i64 p0.Y1)] 38), (2, bx b101 #[(.int .i64 p1.X0), (.int .i64 p1.Y0), (.int .i64 p1.X1), (.int .i64 p1.Y1)] 38)] ?_ ?_
  ·cases hg101 : ((decide ((w64 (p0.X1 + p2)) ≤ p1.X0)) || (decide ((w64 (p1.X1 + p2)) ≤ p0.X0)))
   ·refine Tr.val (wg rfl rfl rfl) rfl (fun _ _ h1 h2 => run_fieldAddr fo_38_3 (h1.ev rfl)) ?_
    refine Tr.val (wg rfl rfl rfl) rfl (fun _ _ h1 h2 => run_load1 ag_3 (h1.ev rfl) (rdb h2 (vs := [(.int .i64 p0.X0), (.int .i64 p0.Y0), (.int .i64 p0.X1), (.int .i64 p0.Y1)]) (k := 1) rfl 3) rfl) ?_
    refine Tr.val (wg rfl rfl rfl) rfl (fun _ _ h1 h2 => run_move (h1.ev rfl)) ?_
    refine Tr.val (wg rfl rfl rfl) rfl (fun _ _ h1 h2 => run_add (h1.ev rfl) (h1.ev rfl)) ?_
    refine Tr.val (wg rfl rfl rfl) rfl (fun _ _ h1 h2 => run_fieldAddr fo_38_1 (h1.ev rfl)) ?_
    refine Tr.val (wg rfl rfl rfl) rfl (fun _ _ h1 h2 => run_load1 ag_3 (h1.ev rfl) (rdb h2 (vs := [(.int .i64 p1.X0), (.int .i64 p1.Y0), (.int .i64 p1.X1), (.int .i64 p1.Y1)]) (k := 2) rfl 1) rfl) ?_
    refine Tr.val (wg rfl rfl rfl) rfl (fun _ _ h1 h2 => run_leq (h1.ev rfl) (h1.ev rfl)) ?_
    refine Tr.va rfl (fun _ _ h1 h2 => run_pickF (h1.ev rfl) (h1.ev rfl)) ?_
    exact Tr.nil (Tr.fin0 (.cons rfl (.cons rfl (.cons rfl (.cons rfl .nil)))) (.cons rfl (.cons rfl .nil)))
   ·refine Tr.pass rfl rfl rfl rfl rfl (by decide) ?_
    refine Tr.pass rfl rfl rfl rfl rfl (by decide) ?_
    refine Tr.pass rfl rfl rfl rfl rfl (by decide) ?_
    refine Tr.pass rfl rfl rfl rfl rfl (by decide) ?_
    refine Tr.pass rfl rfl rfl rfl rfl (by decide) ?_
    refine Tr.pass rfl rfl rfl rfl rfl (by decide) ?_
    refine Tr.pass rfl rfl rfl rfl rfl (by decide) ?_
    refine Tr.va rfl (fun _ _ h1 h2 => run_pickT (h1.ev rfl) (h1.ev rfl)) ?_
    exact Tr.nil (Tr.fin0 (.cons rfl (.cons rfl (.cons rfl (.cons rfl .nil)))) (.cons rfl (.cons rfl .nil)))
  ·show Tr _ _ (LF [(2, (.int .i64 p2)), (3, (.pointer (some ⟨b100, 0, none⟩))), (4, (.pointer (some ⟨b101, 0, none⟩))), (31, (.bool (((decide ((w64 (p0.X1 + p2)) ≤ p1.X0)) || (decide ((w64 (p1.X1 + p2)) ≤ p0.X0))) || (decide ((w64 (p0.Y1 + p2)) ≤ p1.Y0)))))]) (LE [(1, bx b100 #[(.int .i64 p0.X0), (.int .i64 p0.Y0), (.int .i64 p0.X1), (.int .i64 p0.Y1)] 38), (2, bx b101 #[(.int .i64 p1.X0), (.int .i64 p1.Y0), (.int .i64 p1.X1), (.int .i64 p1.Y1)] 38)]) _
   refine Tr.mv rfl rfl ?_
   refine Tr.mid0 8 [(40, (.bool ((((decide ((w64 (p0.X1 + p2)) ≤ p1.X0)) || (decide ((w64 (p1.X1 + p2)) ≤ p0.X0))) || (decide ((w64 (p0.Y1 + p2)) ≤ p1.Y0))) || (decide ((w64 (p1.Y1 + p2)) ≤ p0.Y0)))))] [(1, bx b100 #[(.int .i64 p0.X0), (.int .i64 p0.Y0), (.int .i64 p0.X1), (.int .i64 p0.Y1)] 38), (2, bx b101 #[(.int .i64 p1.X0), (.int .i64 p1.Y0), (.int .i64 p1.X1), (.int .i64 p1.Y1)] 38)] ?_ ?_
   ·cases hg101 : (((decide ((w64 (p0.X1 + p2)) ≤ p1.X0)) || (decide ((w64 (p1.X1 + p2)) ≤ p0.X0))) || (decide ((w64 (p0.Y1 + p2)) ≤ p1.Y0)))
    ·refine Tr.val (wg rfl rfl rfl) rfl (fun _ _ h1 h2 => run_fieldAddr fo_38_3 (h1.ev rfl)) ?_
     refine Tr.val (wg rfl rfl rfl) rfl (fun _ _ h1 h2 => run_load1 ag_3 (h1.ev rfl) (rdb h2 (vs := [(.int .i64 p1.X0), (.int .i64 p1.Y0), (.int .i64 p1.X1), (.int .i64 p1.Y1)]) (k := 2) rfl 3) rfl) ?_
     refine Tr.val (wg rfl rfl rfl) rfl (fun _ _ h1 h2 => run_move (h1.ev rfl)) ?_
     refine Tr.val (wg rfl rfl rfl) rfl (fun _ _ h1 h2 => run_add (h1.ev rfl) (h1.ev rfl)) ?_
     refine Tr.val (wg rfl rfl rfl) rfl (fun _ _ h1 h2 => run_fieldAddr fo_38_1 (h1.ev rfl)) ?_
     refine Tr.val (wg rfl rfl rfl) rfl (fun _ _ h1 h2 => run_load1 ag_3 (h1.ev rfl) (rdb h2 (vs := [(.int .i64 p0.X0), (.int .i64 p0.Y0), (.int .i64 p0.X1), (.int .i64 p0.Y1)]) (k := 1) rfl 1) rfl) ?_
     refine Tr.val (wg rfl rfl rfl) rfl (fun _ _ h1 h2 => run_leq (h1.ev rfl) (h1.ev rfl)) ?_
     refine Tr.va rfl (fun _ _ h1 h2 => run_pickF (h1.ev rfl) (h1.ev rfl)) ?_
     exact Tr.nil (Tr.fin0 (.cons rfl .nil) (.cons rfl (.cons rfl .nil)))
    ·refine Tr.pass rfl rfl rfl rfl rfl (by decide) ?_
     refine Tr.pass rfl rfl rfl rfl rfl (by decide) ?_
     refine Tr.pass rfl rfl rfl rfl rfl (by decide) ?_
     refine Tr.pass rfl rfl rfl rfl rfl (by decide) ?_
     refine Tr.pass rfl rfl rfl rfl rfl (by decide) ?_
     refine Tr.pass rfl rfl rfl rfl rfl (by decide) ?_
     refine Tr.pass rfl rfl rfl rfl rfl (by decide) ?_
     refine Tr.va rfl (fun _ _ h1 h2 => run_pickT (h1.ev rfl) (h1.ev rfl)) ?_
     exact Tr.nil (Tr.fin0 (.cons rfl .nil) (.cons rfl (.cons rfl .nil)))
   ·show Tr _ _ (LF [(40, (.bool ((((decide ((w64 (p0.X1 + p2)) ≤ p1.X0)) || (decide ((w64 (p1.X1 + p2)) ≤ p0.X0))) || (decide ((w64 (p0.Y1 + p2)) ≤ p1.Y0))) || (decide ((w64 (p1.Y1 + p2)) ≤ p0.Y0)))))]) (LE [(1, bx b100 #[(.int .i64 p0.X0), (.int .i64 p0.Y0), (.int .i64 p0.X1), (.int .i64 p0.Y1)] 38), (2, bx b101 #[(.int .i64 p1.X0), (.int .i64 p1.Y0), (.int .i64 p1.X1), (.int .i64 p1.Y1)] 38)]) _
    refine Tr.asg rfl rfl ?_
    refine Tr.nil (Tr.normThen ?_)
    refine Tr.ret ?_
    obtain rfl := Option.some.inj H
    exact Tr.out (m := [(.bool ((((decide ((w64 (p0.X1 + p2)) ≤ p1.X0)) || (decide ((w64 (p1.X1 + p2)) ≤ p0.X0))) || (decide ((w64 (p0.Y1 + p2)) ≤ p1.Y0))) || (decide ((w64 (p1.Y1 + p2)) ≤ p0.Y0))))]) [] (res_tmp rfl res_nil) (fun W hW => ⟨rfl, hW.low leB⟩)

theorem F_etchhouseref9_checkSlot_ok (N : Nat) {w : Bs} (p0 : TPanel) (Ap0_0 : Option Addr) (cp0_0 : Nat) (hp0_0 : Sl w.R w.W fl_TBoardKind Ap0_0 cp0_0 p0.Kinds) (Ap0_1 : Option Addr) (cp0_1 : Nat) (hp0_1 : Sl w.R w.W fl_TSlot Ap0_1 cp0_1 p0.Slots) (Ap0_2 : Option Addr) (cp0_2 : Nat) (hp0_2 : Sl w.R w.W fl_TPoint Ap0_2 cp0_2 p0.Marks) (p1 : Int) (r : Int) (H : F_etchhouseref9_checkSlot N p0 p1 = some r) (hE : HF w w.W E0) : Calls Try.prog 43 [(.agg #[(.int .i64 p0.W), (.int .i64 p0.H), (.int .i64 p0.Rail), (.int .i64 p0.Gap), (.slice Ap0_0 (p0.Kinds).length cp0_0), (.slice Ap0_1 (p0.Slots).length cp0_1), (.slice Ap0_2 (p0.Marks).length cp0_2)]), (.int .i64 p1)].toArray w.W fun e W' => e = .returned (.int .i64 r) ∧ HF w W' E0 := by
 unfold F_etchhouseref9_checkSlot at H
 have leB := Bs.Le.refl w
 refine Tr.enter (n := 62) Try.func43 rfl rfl rfl hE ?_
 refine Tr.sr ?_
 refine Tr.box 1 (cs := [(.int .i64 p0.W), (.int .i64 p0.H), (.int .i64 p0.Rail), (.int .i64 p0.Gap), (.slice Ap0_0 (p0.Kinds).length cp0_0), (.slice Ap0_1 (p0.Slots).length cp0_1), (.slice Ap0_2 (p0.Marks).length cp0_2)]) (wn rfl) rfl rfl rfl fun b100 => ?_
 refine Tr.asg rfl rfl ?_
 refine Tr.nil (Tr.normThen ?_)
 refine Tr.sr ?_
 refine Tr.va rfl (fun _ _ h1 h2 => run_fieldAddr fo_26_5 (h1.ev rfl)) ?_
 refine Tr.va rfl (fun _ _ h1 h2 => run_load1 ag_23 (h1.ev rfl) (rdb h2 (vs := [(.int .i64 p0.W), (.int .i64 p0.H), (.int .i64 p0.Rail), (.int .i64 p0.Gap), (.slice Ap0_0 (p0.Kinds).length cp0_0), (.slice Ap0_1 (p0.Slots).length cp0_1), (.slice Ap0_2 (p0.Marks).length cp0_2)]) (k := 1) rfl 5) rfl) ?_
 refine Tr.mv rfl rfl ?_
 obtain ⟨x101, hx101, H⟩ := bnd H
 obtain ⟨hx1010, hx1011, hx1012⟩ := idx_some hx101
 refine Tr.va rfl (fun _ _ h1 h2 => run_indexAddr el_23 (h1.ev rfl) hp0_1.form (h1.ev rfl) hx1010 hx1011) ?_
 refine Tr.va rfl (fun _ _ h1 h2 => run_loadN (cs := [(.string x101.Board), (.int .i64 x101.Quarters), (.int .i64 x101.At.X), (.int .i64 x101.At.Y)]) ag_96 sz_96 (h1.ev rfl) (CellsAt.take (rdF ef_TSlot hp0_1 hx1012 h2) 4) rfl) ?_
 refine Tr.alloc 2 (wn rfl) rfl ze_96 fun b102 => ?_
 refine Tr.store 2 (cs := [(.string x101.Board), (.int .i64 x101.Quarters), (.int .i64 x101.At.X), (.int .i64 x101.At.Y)]) [(.string x101.Board), (.int .i64 x101.Quarters), (.int .i64 x101.At.X), (.int .i64 x101.At.Y)] (wn rfl) rfl rfl rfl rfl sz_96 rfl rfl rfl ?_
 refine Tr.nil (Tr.normThen ?_)
 refine Tr.sr ?_
 refine Tr.va rfl (fun _ _ h1 h2 => run_loadN (cs := [(.int .i64 p0.W), (.int .i64 p0.H), (.int .i64 p0.Rail), (.int .i64 p0.Gap), (.slice Ap0_0 (p0.Kinds).length cp0_0), (.slice Ap0_1 (p0.Slots).length cp0_1), (.slice Ap0_2 (p0.Marks).length cp0_2)]) ag_26 sz_26 (h1.ev rfl) (CellsAt.take (rdb h2 (vs := [(.int .i64 p0.W), (.int .i64 p0.H), (.int .i64 p0.Rail), (.int .i64 p0.Gap), (.slice Ap0_0 (p0.Kinds).length cp0_0), (.slice Ap0_1 (p0.Slots).length cp0_1), (.slice Ap0_2 (p0.Marks).length cp0_2)]) (k := 1) rfl 0) 7) rfl) ?_
 refine Tr.va rfl (fun _ _ h1 h2 => run_fieldAddr fo_96_0 (h1.ev rfl)) ?_
 refine Tr.va rfl (fun _ _ h1 h2 => run_load1 ag_9 (h1.ev rfl) (rdb h2 (vs := [(.string x101.Board), (.int .i64 x101.Quarters), (.int .i64 x101.At.X), (.int .i64 x101.At.Y)]) (k := 2) rfl 0) rfl) ?_
 obtain ⟨y103, hy103, H⟩ := bnd H
 refine Tr.call0 (r := (.int .i64 y103)) (wn rfl) rfl Try.call66 (evl_cons rfl (evl_cons rfl evl_nil)) (fun W hW => F_etchhouseref9_kind_ok N p0 Ap0_0 cp0_0 (hp0_0.ext hW.extAll) Ap0_1 cp0_1 (hp0_1.ext hW.extAll) Ap0_2 cp0_2 (hp0_2.ext hW.extAll) x101.Board y103 hy103 (HF.start _)) ?_
 refine Tr.asg rfl rfl ?_
 refine Tr.nil (Tr.normThen ?_)
 refine Tr.seq ?_
 refine Tr.sr ?_
 refine Tr.mv rfl rfl ?_
 refine Tr.va rfl (fun _ _ h1 h2 => run_lss (h1.ev rfl) (h1.ev rfl)) ?_
 refine Tr.nil (Tr.normThen ?_)
 refine Tr.cond rfl H (fun H => ?_) (fun H => ?_)
 ·refine Tr.sr ?_
  refine Tr.asg rfl rfl ?_
  refine Tr.nil (Tr.normThen ?_)
  refine Tr.ret (Tr.retThen ?_)
  obtain rfl := Option.some.inj H
  exact Tr.out (m := [(.int .i64 5)]) [] (res_tmp rfl res_nil) (fun W hW => ⟨rfl, hW.low leB⟩)
 ·refine Tr.skip (Tr.normThen ?_)
  refine Tr.seq ?_
  refine Tr.sr ?_
  refine Tr.va rfl (fun _ _ h1 h2 => run_fieldAddr fo_96_1 (h1.ev rfl)) ?_
  refine Tr.va rfl (fun _ _ h1 h2 => run_load1 ag_3 (h1.ev rfl) (rdb h2 (vs := [(.string x101.Board), (.int .i64 x101.Quarters), (.int .i64 x101.At.X), (.int .i64 x101.At.Y)]) (k := 2) rfl 1) rfl) ?_
  obtain ⟨y104, hy104, H⟩ := bnd H
  refine Tr.call0 (r := (.bool y104)) (wn rfl) rfl Try.call41 (evl_cons rfl (evl_cons rfl (evl_cons rfl evl_nil))) (fun W hW => F_etchhouseref9_within_ok x101.Quarters 0 3 y104 hy104 (HF.start _)) ?_
  refine Tr.va rfl (fun _ _ h1 h2 => run_not (h1.ev rfl)) ?_
  refine Tr.nil (Tr.normThen ?_)
  refine Tr.cond rfl H (fun H => ?_) (fun H => ?_)
  ·refine Tr.sr ?_
   refine Tr.asg rfl rfl ?_
   refine Tr.nil (Tr.normThen ?_)
   refine Tr.ret (Tr.retThen ?_)
   obtain rfl := Option.some.inj H
   exact Tr.out (m := [(.int .i64 1)]) [] (res_tmp rfl res_nil) (fun W hW => ⟨rfl, hW.low leB⟩)
  ·refine Tr.skip (Tr.normThen ?_)
   refine Tr.seq ?_
   refine Tr.seq ?_
   refine Tr.draw (by kernel_rfl) (by kernel_rfl) ?_
   refine Tq.va rfl (fun _ _ h1 h2 => run_fieldAddr fo_26_4 (h1.ev rfl)) ?_
   refine Tq.va rfl (fun _ _ h1 h2 => run_load1 ag_22 (h1.ev rfl) (rdb h2 (vs := [(.int .i64 p0.W), (.int .i64 p0.H), (.int .i64 p0.Rail), (.int .i64 p0.Gap), (.slice Ap0_0 (p0.Kinds).length cp0_0), (.slice Ap0_1 (p0.Slots).length cp0_1), (.slice Ap0_2 (p0.Marks).length cp0_2)]) (k := 1) rfl 4) rfl) ?_
   refine Tq.mv rfl rfl ?_
   obtain ⟨x105, hx105, H⟩ := bnd H
   obtain ⟨hx1050, hx1051, hx1052⟩ := idx_some hx105
   refine Tq.va rfl (fun _ _ h1 h2 => run_indexAddr el_22 (h1.ev rfl) hp0_0.form (h1.ev rfl) hx1050 hx1051) ?_
   refine Tq.va rfl (fun _ _ h1 h2 => run_loadN (cs := [(.string x105.Name), (.int .i64 x105.W), (.int .i64 x105.H)]) ag_74 sz_74 (h1.ev rfl) (CellsAt.take (rdF ef_TBoardKind hp0_0 hx1052 h2) 3) rfl) ?_
   refine Tq.va rfl (fun _ _ h1 h2 => run_fieldAddr fo_96_1 (h1.ev rfl)) ?_
   refine Tq.va rfl (fun _ _ h1 h2 => run_load1 ag_3 (h1.ev rfl) (rdb h2 (vs := [(.string x101.Board), (.int .i64 x101.Quarters), (.int .i64 x101.At.X), (.int .i64 x101.At.Y)]) (k := 2) rfl 1) rfl) ?_
   obtain ⟨y106, hy106, H⟩ := bnd H
   refine Tq.call0 (r := (.tuple #[(.int .i64 y106.1), (.int .i64 y106.2)])) (wn rfl) rfl Try.call67 (evl_cons rfl (evl_cons rfl evl_nil)) (fun W hW => F_etchhouseref9_sizeOf_ok x105 x101.Quarters y106 hy106 (HF.start _)) ?_
   refine Tq.mv rfl rfl ?_
   refine Tq.va rfl (fun _ _ h1 h2 => run_extract (h1.ev rfl) rfl) ?_
   refine Tq.va rfl (fun _ _ h1 h2 => run_extract (h1.ev rfl) rfl) ?_
   refine Tq.asg rfl rfl ?_
   refine Tq.asg rfl rfl ?_
   refine Tq.nil (Tr.normThen ?_)
   refine Tr.sr ?_
   refine Tr.va rfl (fun _ _ h1 h2 => run_loadN (cs := [(.int .i64 p0.W), (.int .i64 p0.H), (.int .i64 p0.Rail), (.int .i64 p0.Gap), (.slice Ap0_0 (p0.Kinds).length cp0_0), (.slice Ap0_1 (p0.Slots).length cp0_1), (.slice Ap0_2 (p0.Marks).length cp0_2)]) ag_26 sz_26 (h1.ev rfl) (CellsAt.take (rdb h2 (vs := [(.int .i64 p0.W), (.int .i64 p0.H), (.int .i64 p0.Rail), (.int .i64 p0.Gap), (.slice Ap0_0 (p0.Kinds).length cp0_0), (.slice Ap0_1 (p0.Slots).length cp0_1), (.slice Ap0_2 (p0.Marks).length cp0_2)]) (k := 1) rfl 0) 7) rfl) ?_
   refine Tr.va rfl (fun _ _ h1 h2 => run_fieldAddr fo_96_2 (h1.ev rfl)) ?_
   refine Tr.va rfl (fun _ _ h1 h2 => run_loadN (cs := [(.int .i64 x101.At.X), (.int .i64 x101.At.Y)]) ag_82 sz_82 (h1.ev rfl) (CellsAt.take (rdb h2 (vs := [(.string x101.Board), (.int .i64 x101.Quarters), (.int .i64 x101.At.X), (.int .i64 x101.At.Y)]) (k := 2) rfl 2) 2) rfl) ?_
   refine Tr.mv rfl rfl ?_
   refine Tr.mv rfl rfl ?_
   obtain ⟨y107, hy107, H⟩ := bnd H
   refine Tr.call0 (r := (.bool y107)) (wn rfl) rfl Try.call68 (evl_cons rfl (evl_cons rfl (evl_cons rfl (evl_cons rfl evl_nil)))) (fun W hW => F_etchhouseref9_lies_ok p0 Ap0_0 cp0_0 (hp0_0.ext hW.extAll) Ap0_1 cp0_1 (hp0_1.ext hW.extAll) Ap0_2 cp0_2 (hp0_2.ext hW.extAll) x101.At y106.1 y106.2 y107 hy107 (HF.start _)) ?_
   refine Tr.va rfl (fun _ _ h1 h2 => run_not (h1.ev rfl)) ?_
   refine Tr.nil (Tr.normThen ?_)
   refine Tr.cond rfl H (fun H => ?_) (fun H => ?_)
   ·refine Tr.sr ?_
    refine Tr.asg rfl rfl ?_
    refine Tr.nil (Tr.normThen ?_)
    refine Tr.ret (Tr.retThen ?_)
    obtain rfl := Option.some.inj H
    exact Tr.out (m := [(.int .i64 1)]) [] (res_tmp rfl res_nil) (fun W hW => ⟨rfl, hW.low leB⟩)
   ·refine Tr.skip (Tr.normThen ?_)
    refine Tr.seq ?_
    refine Tr.sr ?_
    refine Tr.asg rfl rfl ?_
    refine Tr.nil (Tr.normThen ?_)
    refine Tr.block ?_
    refine Tr.loop (σ := Int) (fun m w s => F_etchhouseref9_checkSlot_L1 N p0 p1 x101 m s = some r) (fun s => [(1, (.int .i64 p1)), (2, (.pointer (some ⟨b100, 0, none⟩))), (5, (.pointer (some ⟨b102, 0, none⟩))), (9, (.int .i64 s))]) (fun s => [(1, bx b100 #[(.int .i64 p0.W), (.int .i64 p0.H), (.int .i64 p0.Rail), (.int .i64 p0.Gap), (.slice Ap0_0 (p0.Kinds).length cp0_0), (.slice Ap0_1 (p0.Slots).length cp0_1), (.slice Ap0_2 (p0.Marks).length cp0_2)] 26), (2, bx b102 #[(.string x101.Board), (.int .i64 x101.Quarters), (.int .i64 x101.At.X), (.int .i64 x101.At.Y)] 96)]) N 0 H (.cons rfl (.cons rfl (.cons rfl (.cons rfl .nil)))) (.cons rfl (.cons rfl .nil)) (fun _ _ h => noSome (h)) ?_
    intro w leF_etchhouseref9_checkSlot_L1 mF_etchhouseref9_checkSlot_L1 x119 hs
    have H := hs
    replace H : F_etchhouseref9_checkSlot_L1 N p0 p1 x101 (mF_etchhouseref9_checkSlot_L1 + 1) x119 = some r := H
    replace hp0_0 := hp0_0.leR leF_etchhouseref9_checkSlot_L1
    replace hp0_1 := hp0_1.leR leF_etchhouseref9_checkSlot_L1
    replace hp0_2 := hp0_2.leR leF_etchhouseref9_checkSlot_L1
    replace leB := leB.trans leF_etchhouseref9_checkSlot_L1
    rw [F_etchhouseref9_checkSlot_L1.eq_2] at H
    show Tr _ _ (LF [(1, (.int .i64 p1)), (2, (.pointer (some ⟨b100, 0, none⟩))), (5, (.pointer (some ⟨b102, 0, none⟩))), (9, (.int .i64 x119))]) (LE [(1, bx b100 #[(.int .i64 p0.W), (.int .i64 p0.H), (.int .i64 p0.Rail), (.int .i64 p0.Gap), (.slice Ap0_0 (p0.Kinds).length cp0_0), (.slice Ap0_1 (p0.Slots).length cp0_1), (.slice Ap0_2 (p0.Marks).length cp0_2)] 26), (2, bx b102 #[(.string x101.Board), (.int .i64 x101.Quarters), (.int .i64 x101.At.X), (.int .i64 x101.At.Y)] 96)]) _
    refine Tr.seq ?_
    refine Tr.sr ?_
    refine Tr.mv rfl rfl ?_
    refine Tr.mv rfl rfl ?_
    refine Tr.va rfl (fun _ _ h1 h2 => run_lss (h1.ev rfl) (h1.ev rfl)) ?_
    refine Tr.nil (Tr.normThen ?_)
    refine Tr.cond rfl H (fun H => ?_) (fun H => ?_)
    ·refine Tr.skip (Tr.normThen ?_)
     refine Tr.seq ?_
     refine Tr.block ?_
     refine Tr.seq ?_
     refine Tr.draw (by kernel_rfl) (by kernel_rfl) ?_
     refine Tq.va rfl (fun _ _ h1 h2 => run_loadN (cs := [(.int .i64 p0.W), (.int .i64 p0.H), (.int .i64 p0.Rail), (.int .i64 p0.Gap), (.slice Ap0_0 (p0.Kinds).length cp0_0), (.slice Ap0_1 (p0.Slots).length cp0_1), (.slice Ap0_2 (p0.Marks).length cp0_2)]) ag_26 sz_26 (h1.ev rfl) (CellsAt.take (rdb h2 (vs := [(.int .i64 p0.W), (.int .i64 p0.H), (.int .i64 p0.Rail), (.int .i64 p0.Gap), (.slice Ap0_0 (p0.Kinds).length cp0_0), (.slice Ap0_1 (p0.Slots).length cp0_1), (.slice Ap0_2 (p0.Marks).length cp0_2)]) (k := 1) rfl 0) 7) rfl) ?_
     refine Tq.va rfl (fun _ _ h1 h2 => run_loadN (cs := [(.string x101.Board), (.int .i64 x101.Quarters), (.int .i64 x101.At.X), (.int .i64 x101.At.Y)]) ag_96 sz_96 (h1.ev rfl) (CellsAt.take (rdb h2 (vs := [(.string x101.Board), (.int .i64 x101.Quarters), (.int .i64 x101.At.X), (.int .i64 x101.At.Y)]) (k := 2) rfl 0) 4) rfl) ?_
     obtain ⟨y120, hy120, H⟩ := bnd H
     refine Tq.call0 (r := (.agg #[(.int .i64 y120.X0), (.int .i64 y120.Y0), (.int .i64 y120.X1), (.int .i64 y120.Y1)])) (wn rfl) rfl Try.call63 (evl_cons rfl (evl_cons rfl evl_nil)) (fun W hW => F_etchhouseref9_cellOf_ok N p0 Ap0_0 cp0_0 (hp0_0.ext hW.extAll) Ap0_1 cp0_1 (hp0_1.ext hW.extAll) Ap0_2 cp0_2 (hp0_2.ext hW.extAll) x101 y120 hy120 (HF.start _)) ?_
     refine Tq.va rfl (fun _ _ h1 h2 => run_loadN (cs := [(.int .i64 p0.W), (.int .i64 p0.H), (.int .i64 p0.Rail), (.int .i64 p0.Gap), (.slice Ap0_0 (p0.Kinds).length cp0_0), (.slice Ap0_1 (p0.Slots).length cp0_1), (.slice Ap0_2 (p0.Marks).length cp0_2)]) ag_26 sz_26 (h1.ev rfl) (CellsAt.take (rdb h2 (vs := [(.int .i64 p0.W), (.int .i64 p0.H), (.int .i64 p0.Rail), (.int .i64 p0.Gap), (.slice Ap0_0 (p0.Kinds).length cp0_0), (.slice Ap0_1 (p0.Slots).length cp0_1), (.slice Ap0_2 (p0.Marks).length cp0_2)]) (k := 1) rfl 0) 7) rfl) ?_
     refine Tq.va rfl (fun _ _ h1 h2 => run_fieldAddr fo_26_5 (h1.ev rfl)) ?_
     refine Tq.va rfl (fun _ _ h1 h2 => run_load1 ag_23 (h1.ev rfl) (rdb h2 (vs := [(.int .i64 p0.W), (.int .i64 p0.H), (.int .i64 p0.Rail), (.int .i64 p0.Gap), (.slice Ap0_0 (p0.Kinds).length cp0_0), (.slice Ap0_1 (p0.Slots).length cp0_1), (.slice Ap0_2 (p0.Marks).length cp0_2)]) (k := 1) rfl 5) rfl) ?_
     refine Tq.mv rfl rfl ?_
     obtain ⟨x121, hx121, H⟩ := bnd H
     obtain ⟨hx1210, hx1211, hx1212⟩ := idx_some hx121
     refine Tq.va rfl (fun _ _ h1 h2 => run_indexAddr el_23 (h1.ev rfl) hp0_1.form (h1.ev rfl) hx1210 hx1211) ?_
     refine Tq.va rfl (fun _ _ h1 h2 => run_loadN (cs := [(.string x121.Board), (.int .i64 x121.Quarters), (.int .i64 x121.At.X), (.int .i64 x121.At.Y)]) ag_96 sz_96 (h1.ev rfl) (CellsAt.take (rdF ef_TSlot hp0_1 hx1212 h2) 4) rfl) ?_
     obtain ⟨y122, hy122, H⟩ := bnd H
     refine Tq.call0 (r := (.agg #[(.int .i64 y122.X0), (.int .i64 y122.Y0), (.int .i64 y122.X1), (.int .i64 y122.Y1)])) (wn rfl) rfl Try.call63 (evl_cons rfl (evl_cons rfl evl_nil)) (fun W hW => F_etchhouseref9_cellOf_ok N p0 Ap0_0 cp0_0 (hp0_0.ext hW.extAll) Ap0_1 cp0_1 (hp0_1.ext hW.extAll) Ap0_2 cp0_2 (hp0_2.ext hW.extAll) x121 y122 hy122 (HF.start _)) ?_
     refine Tq.va rfl (fun _ _ h1 h2 => run_fieldAddr fo_26_3 (h1.ev rfl)) ?_
     refine Tq.va rfl (fun _ _ h1 h2 => run_load1 ag_3 (h1.ev rfl) (rdb h2 (vs := [(.int .i64 p0.W), (.int .i64 p0.H), (.int .i64 p0.Rail), (.int .i64 p0.Gap), (.slice Ap0_0 (p0.Kinds).length cp0_0), (.slice Ap0_1 (p0.Slots).length cp0_1), (.slice Ap0_2 (p0.Marks).length cp0_2)]) (k := 1) rfl 3) rfl) ?_
     obtain ⟨y123, hy123, H⟩ := bnd H
     refine Tq.call0 (r := (.bool y123)) (wn rfl) rfl Try.call69 (evl_cons rfl (evl_cons rfl (evl_cons rfl evl_nil))) (fun W hW => F_etchhouseref9_apart_ok y120 y122 p0.Gap y123 hy123 (HF.start _)) ?_
     refine Tq.va rfl (fun _ _ h1 h2 => run_not (h1.ev rfl)) ?_
     refine Tq.nil (Tr.normThen ?_)
     refine Tr.cond rfl H (fun H => ?_) (fun H => ?_)
     ·refine Tr.sr ?_
      refine Tr.asg rfl rfl ?_
      refine Tr.nil (Tr.normThen ?_)
      refine Tr.ret (Tr.retBlock (Tr.retThen (Tr.retThen (Tr.retBlock (Tr.retThen ?_)))))
      obtain rfl := Option.some.inj H
      exact Tr.out (m := [(.int .i64 12)]) [] (res_tmp rfl res_nil) (fun W hW => ⟨rfl, hW.low leB⟩)
     ·refine Tr.skip (Tr.normBlock (Tr.normThen ?_))
      refine Tr.region ?_
      refine Tr.mv rfl rfl ?_
      refine Tr.va rfl (fun _ _ h1 h2 => run_add (h1.ev rfl) (h1.ev rfl)) ?_
      refine Tr.asg rfl rfl ?_
      refine Tr.nil ?_
      exact Tr.backThen leF_etchhouseref9_checkSlot_L1 (w64 (x119 + 1)) H (.cons rfl (.cons rfl (.cons rfl (.cons rfl .nil)))) (.cons rfl (.cons rfl .nil))
    ·refine Tr.exit (Tr.exitThen (Tr.exitThen (Tr.exitBlock (Tr.normThen ?_))))
     refine Tr.sr ?_
     refine Tr.asg rfl rfl ?_
     refine Tr.nil (Tr.normThen ?_)
     refine Tr.ret ?_
     obtain rfl := Option.some.inj H
     exact Tr.out (m := [(.int .i64 0)]) [] (res_tmp rfl res_nil) (fun W hW => ⟨rfl, hW.low leB⟩)

theorem F_etchhouseref9_checkMark_ok (N : Nat) {w : Bs} (p0 : TPanel) (Ap0_0 : Option Addr) (cp0_0 : Nat) (hp0_0 : Sl w.R w.W fl_TBoardKind Ap0_0 cp0_0 p0.Kinds) (Ap0_1 : Option Addr) (cp0_1 : Nat) (hp0_1 : Sl w.R w.W fl_TSlot Ap0_1 cp0_1 p0.Slots) (Ap0_2 : Option Addr) (cp0_2 : Nat) (hp0_2 : Sl w.R w.W fl_TPoint Ap0_2 cp0_2 p0.Marks) (p1 : Int) (r : Int) (H : F_etchhouseref9_checkMark N p0 p1 = some r) (hE : HF w w.W E0) : Calls Try.prog 44 [(.agg #[(.int .i64 p0.W), (.int .i64 p0.H), (.int .i64 p0.Rail), (.int .i64 p0.Gap), (.slice Ap0_0 (p0.Kinds).length cp0_0), (.slice Ap0_1 (p0.Slots).length cp0_1), (.slice Ap0_2 (p0.Marks).length cp0_2)]), (.int .i64 p1)].toArray w.W fun e W' => e = .returned (.int .i64 r) ∧ HF w W' E0 := by
 unfold F_etchhouseref9_checkMark at H
 have leB := Bs.Le.refl w
 refine Tr.enter (n := 80) Try.func44 rfl rfl rfl hE ?_
 refine Tr.sr ?_
 refine Tr.box 1 (cs := [(.int .i64 p0.W), (.int .i64 p0.H), (.int .i64 p0.Rail), (.int .i64 p0.Gap), (.slice Ap0_0 (p0.Kinds).length cp0_0), (.slice Ap0_1 (p0.Slots).length cp0_1), (.slice Ap0_2 (p0.Marks).length cp0_2)]) (wn rfl) rfl rfl rfl fun b100 => ?_
 refine Tr.asg rfl rfl ?_
 refine Tr.nil (Tr.normThen ?_)
 refine Tr.sr ?_
 refine Tr.va rfl (fun _ _ h1 h2 => run_fieldAddr fo_26_6 (h1.ev rfl)) ?_
 refine Tr.va rfl (fun _ _ h1 h2 => run_load1 ag_24 (h1.ev rfl) (rdb h2 (vs := [(.int .i64 p0.W), (.int .i64 p0.H), (.int .i64 p0.Rail), (.int .i64 p0.Gap), (.slice Ap0_0 (p0.Kinds).length cp0_0), (.slice Ap0_1 (p0.Slots).length cp0_1), (.slice Ap0_2 (p0.Marks).length cp0_2)]) (k := 1) rfl 6) rfl) ?_
 refine Tr.mv rfl rfl ?_
 obtain ⟨x101, hx101, H⟩ := bnd H
 obtain ⟨hx1010, hx1011, hx1012⟩ := idx_some hx101
 refine Tr.va rfl (fun _ _ h1 h2 => run_indexAddr el_24 (h1.ev rfl) hp0_2.form (h1.ev rfl) hx1010 hx1011) ?_
 refine Tr.va rfl (fun _ _ h1 h2 => run_loadN (cs := [(.int .i64 x101.X), (.int .i64 x101.Y)]) ag_82 sz_82 (h1.ev rfl) (CellsAt.take (rdF ef_TPoint hp0_2 hx1012 h2) 2) rfl) ?_
 refine Tr.alloc 2 (wn rfl) rfl ze_82 fun b102 => ?_
 refine Tr.store 2 (cs := [(.int .i64 x101.X), (.int .i64 x101.Y)]) [(.int .i64 x101.X), (.int .i64 x101.Y)] (wn rfl) rfl rfl rfl rfl sz_82 rfl rfl rfl ?_
 refine Tr.nil (Tr.normThen ?_)
 refine Tr.seq ?_
 refine Tr.sr ?_
 refine Tr.va rfl (fun _ _ h1 h2 => run_fieldAddr fo_82_0 (h1.ev rfl)) ?_
 refine Tr.va rfl (fun _ _ h1 h2 => run_load1 ag_3 (h1.ev rfl) (rdb h2 (vs := [(.int .i64 x101.X), (.int .i64 x101.Y)]) (k := 2) rfl 0) rfl) ?_
 refine Tr.va rfl (fun _ _ h1 h2 => run_fieldAddr fo_26_0 (h1.ev rfl)) ?_
 refine Tr.va rfl (fun _ _ h1 h2 => run_load1 ag_3 (h1.ev rfl) (rdb h2 (vs := [(.int .i64 p0.W), (.int .i64 p0.H), (.int .i64 p0.Rail), (.int .i64 p0.Gap), (.slice Ap0_0 (p0.Kinds).length cp0_0), (.slice Ap0_1 (p0.Slots).length cp0_1), (.slice Ap0_2 (p0.Marks).length cp0_2)]) (k := 1) rfl 0) rfl) ?_
 obtain ⟨y103, hy103, H⟩ := bnd H
 refine Tr.call0 (r := (.bool y103)) (wn rfl) rfl Try.call41 (evl_cons rfl (evl_cons rfl (evl_cons rfl evl_nil))) (fun W hW => F_etchhouseref9_within_ok x101.X 0 p0.W y103 hy103 (HF.start _)) ?_
 refine Tr.va rfl (fun _ _ h1 h2 => run_not (h1.ev rfl)) ?_
 refine Tr.mv rfl rfl ?_
 obtain ⟨g105, hg105, H⟩ := bnd H
 refine Tr.mid0 7 [(1, (.int .i64 p1)), (2, (.pointer (some ⟨b100, 0, none⟩))), (5, (.pointer (some ⟨b102, 0, none⟩))), (27, (.bool g105))] [(1, bx b100 #[(.int .i64 p0.W), (.int .i64 p0.H), (.int .i64 p0.Rail), (.int .i64 p0.Gap), (.slice Ap0_0 (p0.Kinds).length cp0_0), (.slice Ap0_1 (p0.Slots).length cp0_1), (.slice Ap0_2 (p0.Marks).length cp0_2)] 26), (2, bx b102 #[(.int .i64 x101.X), (.int .i64 x101.Y)] 82)] ?_ ?_
 ·cases hg126 : (!y103)
  ·rw [hg126] at hg105
   rw [if_neg (by decide)] at hg105
   have H := hg105
   refine Tr.val (wg rfl rfl rfl) rfl (fun _ _ h1 h2 => run_fieldAddr fo_82_1 (h1.ev rfl)) ?_
   refine Tr.val (wg rfl rfl rfl) rfl (fun _ _ h1 h2 => run_load1 ag_3 (h1.ev rfl) (rdb h2 (vs := [(.int .i64 x101.X), (.int .i64 x101.Y)]) (k := 2) rfl 1) rfl) ?_
   refine Tr.val (wg rfl rfl rfl) rfl (fun _ _ h1 h2 => run_fieldAddr fo_26_1 (h1.ev rfl)) ?_
   refine Tr.val (wg rfl rfl rfl) rfl (fun _ _ h1 h2 => run_load1 ag_3 (h1.ev rfl) (rdb h2 (vs := [(.int .i64 p0.W), (.int .i64 p0.H), (.int .i64 p0.Rail), (.int .i64 p0.Gap), (.slice Ap0_0 (p0.Kinds).length cp0_0), (.slice Ap0_1 (p0.Slots).length cp0_1), (.slice Ap0_2 (p0.Marks).length cp0_2)]) (k := 1) rfl 1) rfl) ?_
   obtain ⟨y106, hy106, H⟩ := bnd H
   refine Tr.call0 (r := (.bool y106)) (wg rfl rfl rfl) rfl Try.call41 (evl_cons rfl (evl_cons rfl (evl_cons rfl evl_nil))) (fun W hW => F_etchhouseref9_within_ok x101.Y 0 p0.H y106 hy106 (HF.start _)) ?_
   refine Tr.val (wg rfl rfl rfl) rfl (fun _ _ h1 h2 => run_not (h1.ev rfl)) ?_
   refine Tr.va rfl (fun _ _ h1 h2 => run_pickF (h1.ev rfl) (h1.ev rfl)) ?_
   obtain rfl := Option.some.inj H
   exact Tr.nil (Tr.fin0 (.cons rfl (.cons rfl (.cons rfl (.cons rfl .nil)))) (.cons rfl (.cons rfl .nil)))
  ·rw [hg126] at hg105
   rw [if_pos rfl] at hg105
   have H := hg105
   obtain rfl := Option.some.inj H
   refine Tr.pass rfl rfl rfl rfl rfl (by decide) ?_
   refine Tr.pass rfl rfl rfl rfl rfl (by decide) ?_
   refine Tr.pass rfl rfl rfl rfl rfl (by decide) ?_
   refine Tr.pass rfl rfl rfl rfl rfl (by decide) ?_
   refine Tr.pass rfl rfl rfl rfl rfl (by decide) ?_
   refine Tr.pass rfl rfl rfl rfl rfl (by decide) ?_
   refine Tr.va rfl (fun _ _ h1 h2 => run_pickT (h1.ev rfl) (h1.ev rfl)) ?_
   exact Tr.nil (Tr.fin0 (.cons rfl (.cons rfl (.cons rfl (.cons rfl .nil)))) (.cons rfl (.cons rfl .nil)))
 ·show Tr _ _ (LF [(1, (.int .i64 p1)), (2, (.pointer (some ⟨b100, 0, none⟩))), (5, (.pointer (some ⟨b102, 0, none⟩))), (27, (.bool g105))]) (LE [(1, bx b100 #[(.int .i64 p0.W), (.int .i64 p0.H), (.int .i64 p0.Rail), (.int .i64 p0.Gap), (.slice Ap0_0 (p0.Kinds).length cp0_0), (.slice Ap0_1 (p0.Slots).length cp0_1), (.slice Ap0_2 (p0.Marks).length cp0_2)] 26), (2, bx b102 #[(.int .i64 x101.X), (.int .i64 x101.Y)] 82)]) _
  refine Tr.nil (Tr.normThen ?_)
  refine Tr.cond rfl H (fun H => ?_) (fun H => ?_)
  ·refine Tr.sr ?_
   refine Tr.asg rfl rfl ?_
   refine Tr.nil (Tr.normThen ?_)
   refine Tr.ret (Tr.retThen ?_)
   obtain rfl := Option.some.inj H
   exact Tr.out (m := [(.int .i64 1)]) [] (res_tmp rfl res_nil) (fun W hW => ⟨rfl, hW.low leB⟩)
  ·refine Tr.skip (Tr.normThen ?_)
   refine Tr.seq ?_
   refine Tr.sr ?_
   refine Tr.asg rfl rfl ?_
   refine Tr.nil (Tr.normThen ?_)
   refine Tr.block ?_
   refine Tr.loop (σ := Int) (fun m w s => F_etchhouseref9_checkMark_L1 N p0 p1 x101 m s = some r) (fun s => [(1, (.int .i64 p1)), (2, (.pointer (some ⟨b100, 0, none⟩))), (5, (.pointer (some ⟨b102, 0, none⟩))), (6, (.int .i64 s))]) (fun s => [(1, bx b100 #[(.int .i64 p0.W), (.int .i64 p0.H), (.int .i64 p0.Rail), (.int .i64 p0.Gap), (.slice Ap0_0 (p0.Kinds).length cp0_0), (.slice Ap0_1 (p0.Slots).length cp0_1), (.slice Ap0_2 (p0.Marks).length cp0_2)] 26), (2, bx b102 #[(.int .i64 x101.X), (.int .i64 x101.Y)] 82)]) N 0 H (.cons rfl (.cons rfl (.cons rfl (.cons rfl .nil)))) (.cons rfl (.cons rfl .nil)) (fun _ _ h => noSome (h)) ?_
   intro w leF_etchhouseref9_checkMark_L1 mF_etchhouseref9_checkMark_L1 x116 hs
   have H := hs
   replace H : F_etchhouseref9_checkMark_L1 N p0 p1 x101 (mF_etchhouseref9_checkMark_L1 + 1) x116 = some r := H
   replace hp0_0 := hp0_0.leR leF_etchhouseref9_checkMark_L1
   replace hp0_1 := hp0_1.leR leF_etchhouseref9_checkMark_L1
   replace hp0_2 := hp0_2.leR leF_etchhouseref9_checkMark_L1
   replace leB := leB.trans leF_etchhouseref9_checkMark_L1
   rw [F_etchhouseref9_checkMark_L1.eq_2] at H
   show Tr _ _ (LF [(1, (.int .i64 p1)), (2, (.pointer (some ⟨b100, 0, none⟩))), (5, (.pointer (some ⟨b102, 0, none⟩))), (6, (.int .i64 x116))]) (LE [(1, bx b100 #[(.int .i64 p0.W), (.int .i64 p0.H), (.int .i64 p0.Rail), (.int .i64 p0.Gap), (.slice Ap0_0 (p0.Kinds).length cp0_0), (.slice Ap0_1 (p0.Slots).length cp0_1), (.slice Ap0_2 (p0.Marks).length cp0_2)] 26), (2, bx b102 #[(.int .i64 x101.X), (.int .i64 x101.Y)] 82)]) _
   refine Tr.seq ?_
   refine Tr.sr ?_
   refine Tr.mv rfl rfl ?_
   refine Tr.va rfl (fun _ _ h1 h2 => run_fieldAddr fo_26_5 (h1.ev rfl)) ?_
   refine Tr.va rfl (fun _ _ h1 h2 => run_load1 ag_23 (h1.ev rfl) (rdb h2 (vs := [(.int .i64 p0.W), (.int .i64 p0.H), (.int .i64 p0.Rail), (.int .i64 p0.Gap), (.slice Ap0_0 (p0.Kinds).length cp0_0), (.slice Ap0_1 (p0.Slots).length cp0_1), (.slice Ap0_2 (p0.Marks).length cp0_2)]) (k := 1) rfl 5) rfl) ?_
   refine Tr.va rfl (fun _ _ h1 h2 => run_len un_23 (h1.ev rfl)) ?_
   refine Tr.va rfl (fun _ _ h1 h2 => run_lss (h1.ev rfl) (h1.ev rfl)) ?_
   refine Tr.nil (Tr.normThen ?_)
   refine Tr.cond rfl H (fun H => ?_) (fun H => ?_)
   ·refine Tr.skip (Tr.normThen ?_)
    refine Tr.seq ?_
    refine Tr.block ?_
    refine Tr.seq ?_
    obtain ⟨x118, hx118, H⟩ := bnd H
    obtain ⟨hx1180, hx1181, hx1182⟩ := idx_some hx118
    obtain ⟨y119, hy119, H⟩ := bnd H
    refine Tr.drawF 8 [(7, .makeFunc (.func 0) #[] #[])] [(7, ⟨7, 5, (.func (.func 0) #[] #[]), fun b => .pointer (some ⟨b, 0, none⟩), fun b => bx b #[(.int .i64 0), (.int .i64 0), (.int .i64 0), (.int .i64 0)] 38⟩)] [(1, (.int .i64 p1)), (2, (.pointer (some ⟨b100, 0, none⟩))), (5, (.pointer (some ⟨b102, 0, none⟩))), (6, (.int .i64 x116)), (7, (.func (.func 0) #[] #[])), (28, (.int .i64 x116)), (29, (.pointer (some ⟨b100, 5, none⟩))), (30, (.slice Ap0_1 (p0.Slots).length cp0_1)), (31, (.int .i64 (p0.Slots.length : Int))), (32, (.bool (decide (x116 < (p0.Slots.length : Int))))), (35, (.agg #[(.int .i64 p0.W), (.int .i64 p0.H), (.int .i64 p0.Rail), (.int .i64 p0.Gap), (.slice Ap0_0 (p0.Kinds).length cp0_0), (.slice Ap0_1 (p0.Slots).length cp0_1), (.slice Ap0_2 (p0.Marks).length cp0_2)])), (36, (.pointer (some ⟨b100, 5, none⟩))), (37, (.slice Ap0_1 (p0.Slots).length cp0_1)), (38, (.int .i64 x116)), (39, (.pointer (some ⟨adB Ap0_1, adO Ap0_1 + (x116).toNat * 4, none⟩))), (40, (.agg #[(.string x118.Board), (.int .i64 x118.Quarters), (.int .i64 x118.At.X), (.int .i64 x118.At.Y)])), (41, (.agg #[(.int .i64 y119.X0), (.int .i64 y119.Y0), (.int .i64 y119.X1), (.int .i64 y119.Y1)]))] (by kernel_rfl) (by kernel_rfl) (by kernel_rfl) (by kernel_rfl) (by kernel_rfl) (by kernel_rfl) (by kernel_rfl) (fall_cons (fr_alloc rfl rfl ze_38) fall_nil) (fall_cons rfl fall_nil) (fall_cons rfl fall_nil) ?_ ?_
    ·refine Tq.va rfl (fun _ _ h1 h2 => run_loadN (cs := [(.int .i64 p0.W), (.int .i64 p0.H), (.int .i64 p0.Rail), (.int .i64 p0.Gap), (.slice Ap0_0 (p0.Kinds).length cp0_0), (.slice Ap0_1 (p0.Slots).length cp0_1), (.slice Ap0_2 (p0.Marks).length cp0_2)]) ag_26 sz_26 (h1.ev rfl) (CellsAt.take (rdb h2 (vs := [(.int .i64 p0.W), (.int .i64 p0.H), (.int .i64 p0.Rail), (.int .i64 p0.Gap), (.slice Ap0_0 (p0.Kinds).length cp0_0), (.slice Ap0_1 (p0.Slots).length cp0_1), (.slice Ap0_2 (p0.Marks).length cp0_2)]) (k := 1) rfl 0) 7) rfl) ?_
     refine Tq.va rfl (fun _ _ h1 h2 => run_fieldAddr fo_26_5 (h1.ev rfl)) ?_
     refine Tq.va rfl (fun _ _ h1 h2 => run_load1 ag_23 (h1.ev rfl) (rdb h2 (vs := [(.int .i64 p0.W), (.int .i64 p0.H), (.int .i64 p0.Rail), (.int .i64 p0.Gap), (.slice Ap0_0 (p0.Kinds).length cp0_0), (.slice Ap0_1 (p0.Slots).length cp0_1), (.slice Ap0_2 (p0.Marks).length cp0_2)]) (k := 1) rfl 5) rfl) ?_
     refine Tq.mv rfl rfl ?_
     refine Tq.va rfl (fun _ _ h1 h2 => run_indexAddr el_23 (h1.ev rfl) hp0_1.form (h1.ev rfl) hx1180 hx1181) ?_
     refine Tq.va rfl (fun _ _ h1 h2 => run_loadN (cs := [(.string x118.Board), (.int .i64 x118.Quarters), (.int .i64 x118.At.X), (.int .i64 x118.At.Y)]) ag_96 sz_96 (h1.ev rfl) (CellsAt.take (rdF ef_TSlot hp0_1 hx1182 h2) 4) rfl) ?_
     refine Tq.call0 (r := (.agg #[(.int .i64 y119.X0), (.int .i64 y119.Y0), (.int .i64 y119.X1), (.int .i64 y119.Y1)])) (wn rfl) rfl Try.call63 (evl_cons rfl (evl_cons rfl evl_nil)) (fun W hW => F_etchhouseref9_cellOf_ok N p0 Ap0_0 cp0_0 (hp0_0.ext hW.extAll) Ap0_1 cp0_1 (hp0_1.ext hW.extAll) Ap0_2 cp0_2 (hp0_2.ext hW.extAll) x118 y119 hy119 (HF.start _)) ?_
     refine Tq.mkFunc (vs := []) (wn rfl) rfl evl_nil ?_
     exact Tq.fin (.cons rfl (.cons rfl (.cons rfl (.cons rfl (.cons rfl (.cons rfl (.cons rfl (.cons rfl (.cons rfl (.cons rfl (.cons rfl (.cons rfl (.cons rfl (.cons rfl (.cons rfl (.cons rfl (.cons rfl .nil)))))))))))))))))
    ·intro bs117
     refine Tr.sel (lf := [(1, (.int .i64 p1)), (2, (.pointer (some ⟨b100, 0, none⟩))), (5, (.pointer (some ⟨b102, 0, none⟩))), (6, (.int .i64 x116)), (7, (.pointer (some ⟨(bs117 7), 0, none⟩))), (41, (.agg #[(.int .i64 y119.X0), (.int .i64 y119.Y0), (.int .i64 y119.X1), (.int .i64 y119.Y1)]))]) (le := [(1, bx b100 #[(.int .i64 p0.W), (.int .i64 p0.H), (.int .i64 p0.Rail), (.int .i64 p0.Gap), (.slice Ap0_0 (p0.Kinds).length cp0_0), (.slice Ap0_1 (p0.Slots).length cp0_1), (.slice Ap0_2 (p0.Marks).length cp0_2)] 26), (2, bx b102 #[(.int .i64 x101.X), (.int .i64 x101.Y)] 82), (5, bx (bs117 7) #[(.int .i64 0), (.int .i64 0), (.int .i64 0), (.int .i64 0)] 38)]) (.cons rfl (.cons rfl (.cons rfl (.cons rfl (.cons rfl (.cons rfl .nil)))))) (.cons rfl (.cons rfl (.cons rfl .nil))) ?_
     refine Tr.store 5 (cs := [(.int .i64 y119.X0), (.int .i64 y119.Y0), (.int .i64 y119.X1), (.int .i64 y119.Y1)]) [(.int .i64 y119.X0), (.int .i64 y119.Y0), (.int .i64 y119.X1), (.int .i64 y119.Y1)] (wn rfl) rfl rfl rfl rfl sz_38 rfl rfl rfl ?_
     refine Tr.nil (Tr.normThen ?_)
     refine Tr.sr ?_
     refine Tr.va rfl (fun _ _ h1 h2 => run_fieldAddr fo_38_0 (h1.ev rfl)) ?_
     refine Tr.va rfl (fun _ _ h1 h2 => run_load1 ag_3 (h1.ev rfl) (rdb h2 (vs := [(.int .i64 y119.X0), (.int .i64 y119.Y0), (.int .i64 y119.X1), (.int .i64 y119.Y1)]) (k := 5) rfl 0) rfl) ?_
     refine Tr.va rfl (fun _ _ h1 h2 => run_fieldAddr fo_82_0 (h1.ev rfl)) ?_
     refine Tr.va rfl (fun _ _ h1 h2 => run_load1 ag_3 (h1.ev rfl) (rdb h2 (vs := [(.int .i64 x101.X), (.int .i64 x101.Y)]) (k := 2) rfl 0) rfl) ?_
     refine Tr.va rfl (fun _ _ h1 h2 => run_lss (h1.ev rfl) (h1.ev rfl)) ?_
     refine Tr.mv rfl rfl ?_
     refine Tr.mid0 6 [(1, (.int .i64 p1)), (2, (.pointer (some ⟨b100, 0, none⟩))), (5, (.pointer (some ⟨b102, 0, none⟩))), (6, (.int .i64 x116)), (7, (.pointer (some ⟨(bs117 7), 0, none⟩))), (53, (.bool ((decide (y119.X0 < x101.X)) && (decide (x101.X < y119.X1)))))] [(1, bx b100 #[(.int .i64 p0.W), (.int .i64 p0.H), (.int .i64 p0.Rail), (.int .i64 p0.Gap), (.slice Ap0_0 (p0.Kinds).length cp0_0), (.slice Ap0_1 (p0.Slots).length cp0_1), (.slice Ap0_2 (p0.Marks).length cp0_2)] 26), (2, bx b102 #[(.int .i64 x101.X), (.int .i64 x101.Y)] 82), (5, bx (bs117 7) #[(.int .i64 y119.X0), (.int .i64 y119.Y0), (.int .i64 y119.X1), (.int .i64 y119.Y1)] 38)] ?_ ?_
     ·cases hg119 : (decide (y119.X0 < x101.X))
      ·refine Tr.pass rfl rfl rfl rfl rfl (by decide) ?_
       refine Tr.pass rfl rfl rfl rfl rfl (by decide) ?_
       refine Tr.pass rfl rfl rfl rfl rfl (by decide) ?_
       refine Tr.pass rfl rfl rfl rfl rfl (by decide) ?_
       refine Tr.pass rfl rfl rfl rfl rfl (by decide) ?_
       refine Tr.va rfl (fun _ _ h1 h2 => run_pickF (h1.ev rfl) (h1.ev rfl)) ?_
       exact Tr.nil (Tr.fin0 (.cons rfl (.cons rfl (.cons rfl (.cons rfl (.cons rfl (.cons rfl .nil)))))) (.cons rfl (.cons rfl (.cons rfl .nil))))
      ·refine Tr.val (wg rfl rfl rfl) rfl (fun _ _ h1 h2 => run_fieldAddr fo_82_0 (h1.ev rfl)) ?_
       refine Tr.val (wg rfl rfl rfl) rfl (fun _ _ h1 h2 => run_load1 ag_3 (h1.ev rfl) (rdb h2 (vs := [(.int .i64 x101.X), (.int .i64 x101.Y)]) (k := 2) rfl 0) rfl) ?_
       refine Tr.val (wg rfl rfl rfl) rfl (fun _ _ h1 h2 => run_fieldAddr fo_38_2 (h1.ev rfl)) ?_
       refine Tr.val (wg rfl rfl rfl) rfl (fun _ _ h1 h2 => run_load1 ag_3 (h1.ev rfl) (rdb h2 (vs := [(.int .i64 y119.X0), (.int .i64 y119.Y0), (.int .i64 y119.X1), (.int .i64 y119.Y1)]) (k := 5) rfl 2) rfl) ?_
       refine Tr.val (wg rfl rfl rfl) rfl (fun _ _ h1 h2 => run_lss (h1.ev rfl) (h1.ev rfl)) ?_
       refine Tr.va rfl (fun _ _ h1 h2 => run_pickT (h1.ev rfl) (h1.ev rfl)) ?_
       exact Tr.nil (Tr.fin0 (.cons rfl (.cons rfl (.cons rfl (.cons rfl (.cons rfl (.cons rfl .nil)))))) (.cons rfl (.cons rfl (.cons rfl .nil))))
     ·show Tr _ _ (LF [(1, (.int .i64 p1)), (2, (.pointer (some ⟨b100, 0, none⟩))), (5, (.pointer (some ⟨b102, 0, none⟩))), (6, (.int .i64 x116)), (7, (.pointer (some ⟨(bs117 7), 0, none⟩))), (53, (.bool ((decide (y119.X0 < x101.X)) && (decide (x101.X < y119.X1)))))]) (LE [(1, bx b100 #[(.int .i64 p0.W), (.int .i64 p0.H), (.int .i64 p0.Rail), (.int .i64 p0.Gap), (.slice Ap0_0 (p0.Kinds).length cp0_0), (.slice Ap0_1 (p0.Slots).length cp0_1), (.slice Ap0_2 (p0.Marks).length cp0_2)] 26), (2, bx b102 #[(.int .i64 x101.X), (.int .i64 x101.Y)] 82), (5, bx (bs117 7) #[(.int .i64 y119.X0), (.int .i64 y119.Y0), (.int .i64 y119.X1), (.int .i64 y119.Y1)] 38)]) _
      refine Tr.mv rfl rfl ?_
      refine Tr.mid0 6 [(1, (.int .i64 p1)), (2, (.pointer (some ⟨b100, 0, none⟩))), (5, (.pointer (some ⟨b102, 0, none⟩))), (6, (.int .i64 x116)), (7, (.pointer (some ⟨(bs117 7), 0, none⟩))), (60, (.bool (((decide (y119.X0 < x101.X)) && (decide (x101.X < y119.X1))) && (decide (y119.Y0 < x101.Y)))))] [(1, bx b100 #[(.int .i64 p0.W), (.int .i64 p0.H), (.int .i64 p0.Rail), (.int .i64 p0.Gap), (.slice Ap0_0 (p0.Kinds).length cp0_0), (.slice Ap0_1 (p0.Slots).length cp0_1), (.slice Ap0_2 (p0.Marks).length cp0_2)] 26), (2, bx b102 #[(.int .i64 x101.X), (.int .i64 x101.Y)] 82), (5, bx (bs117 7) #[(.int .i64 y119.X0), (.int .i64 y119.Y0), (.int .i64 y119.X1), (.int .i64 y119.Y1)] 38)] ?_ ?_
      ·cases hg119 : ((decide (y119.X0 < x101.X)) && (decide (x101.X < y119.X1)))
       ·refine Tr.pass rfl rfl rfl rfl rfl (by decide) ?_
        refine Tr.pass rfl rfl rfl rfl rfl (by decide) ?_
        refine Tr.pass rfl rfl rfl rfl rfl (by decide) ?_
        refine Tr.pass rfl rfl rfl rfl rfl (by decide) ?_
        refine Tr.pass rfl rfl rfl rfl rfl (by decide) ?_
        refine Tr.va rfl (fun _ _ h1 h2 => run_pickF (h1.ev rfl) (h1.ev rfl)) ?_
        exact Tr.nil (Tr.fin0 (.cons rfl (.cons rfl (.cons rfl (.cons rfl (.cons rfl (.cons rfl .nil)))))) (.cons rfl (.cons rfl (.cons rfl .nil))))
       ·refine Tr.val (wg rfl rfl rfl) rfl (fun _ _ h1 h2 => run_fieldAddr fo_38_1 (h1.ev rfl)) ?_
        refine Tr.val (wg rfl rfl rfl) rfl (fun _ _ h1 h2 => run_load1 ag_3 (h1.ev rfl) (rdb h2 (vs := [(.int .i64 y119.X0), (.int .i64 y119.Y0), (.int .i64 y119.X1), (.int .i64 y119.Y1)]) (k := 5) rfl 1) rfl) ?_
        refine Tr.val (wg rfl rfl rfl) rfl (fun _ _ h1 h2 => run_fieldAddr fo_82_1 (h1.ev rfl)) ?_
        refine Tr.val (wg rfl rfl rfl) rfl (fun _ _ h1 h2 => run_load1 ag_3 (h1.ev rfl) (rdb h2 (vs := [(.int .i64 x101.X), (.int .i64 x101.Y)]) (k := 2) rfl 1) rfl) ?_
        refine Tr.val (wg rfl rfl rfl) rfl (fun _ _ h1 h2 => run_lss (h1.ev rfl) (h1.ev rfl)) ?_
        refine Tr.va rfl (fun _ _ h1 h2 => run_pickT (h1.ev rfl) (h1.ev rfl)) ?_
        exact Tr.nil (Tr.fin0 (.cons rfl (.cons rfl (.cons rfl (.cons rfl (.cons rfl (.cons rfl .nil)))))) (.cons rfl (.cons rfl (.cons rfl .nil))))
      ·show Tr _ _ (LF [(1, (.int .i64 p1)), (2, (.pointer (some ⟨b100, 0, none⟩))), (5, (.pointer (some ⟨b102, 0, none⟩))), (6, (.int .i64 x116)), (7, (.pointer (some ⟨(bs117 7), 0, none⟩))), (60, (.bool (((decide (y119.X0 < x101.X)) && (decide (x101.X < y119.X1))) && (decide (y119.Y0 < x101.Y)))))]) (LE [(1, bx b100 #[(.int .i64 p0.W), (.int .i64 p0.H), (.int .i64 p0.Rail), (.int .i64 p0.Gap), (.slice Ap0_0 (p0.Kinds).length cp0_0), (.slice Ap0_1 (p0.Slots).length cp0_1), (.slice Ap0_2 (p0.Marks).length cp0_2)] 26), (2, bx b102 #[(.int .i64 x101.X), (.int .i64 x101.Y)] 82), (5, bx (bs117 7) #[(.int .i64 y119.X0), (.int .i64 y119.Y0), (.int .i64 y119.X1), (.int .i64 y119.Y1)] 38)]) _
       refine Tr.mv rfl rfl ?_
       refine Tr.mid0 6 [(1, (.int .i64 p1)), (2, (.pointer (some ⟨b100, 0, none⟩))), (5, (.pointer (some ⟨b102, 0, none⟩))), (6, (.int .i64 x116)), (67, (.bool ((((decide (y119.X0 < x101.X)) && (decide (x101.X < y119.X1))) && (decide (y119.Y0 < x101.Y))) && (decide (x101.Y < y119.Y1)))))] [(1, bx b100 #[(.int .i64 p0.W), (.int .i64 p0.H), (.int .i64 p0.Rail), (.int .i64 p0.Gap), (.slice Ap0_0 (p0.Kinds).length cp0_0), (.slice Ap0_1 (p0.Slots).length cp0_1), (.slice Ap0_2 (p0.Marks).length cp0_2)] 26), (2, bx b102 #[(.int .i64 x101.X), (.int .i64 x101.Y)] 82), (5, bx (bs117 7) #[(.int .i64 y119.X0), (.int .i64 y119.Y0), (.int .i64 y119.X1), (.int .i64 y119.Y1)] 38)] ?_ ?_
       ·cases hg119 : (((decide (y119.X0 < x101.X)) && (decide (x101.X < y119.X1))) && (decide (y119.Y0 < x101.Y)))
        ·refine Tr.pass rfl rfl rfl rfl rfl (by decide) ?_
         refine Tr.pass rfl rfl rfl rfl rfl (by decide) ?_
         refine Tr.pass rfl rfl rfl rfl rfl (by decide) ?_
         refine Tr.pass rfl rfl rfl rfl rfl (by decide) ?_
         refine Tr.pass rfl rfl rfl rfl rfl (by decide) ?_
         refine Tr.va rfl (fun _ _ h1 h2 => run_pickF (h1.ev rfl) (h1.ev rfl)) ?_
         exact Tr.nil (Tr.fin0 (.cons rfl (.cons rfl (.cons rfl (.cons rfl (.cons rfl .nil))))) (.cons rfl (.cons rfl (.cons rfl .nil))))
        ·refine Tr.val (wg rfl rfl rfl) rfl (fun _ _ h1 h2 => run_fieldAddr fo_82_1 (h1.ev rfl)) ?_
         refine Tr.val (wg rfl rfl rfl) rfl (fun _ _ h1 h2 => run_load1 ag_3 (h1.ev rfl) (rdb h2 (vs := [(.int .i64 x101.X), (.int .i64 x101.Y)]) (k := 2) rfl 1) rfl) ?_
         refine Tr.val (wg rfl rfl rfl) rfl (fun _ _ h1 h2 => run_fieldAddr fo_38_3 (h1.ev rfl)) ?_
         refine Tr.val (wg rfl rfl rfl) rfl (fun _ _ h1 h2 => run_load1 ag_3 (h1.ev rfl) (rdb h2 (vs := [(.int .i64 y119.X0), (.int .i64 y119.Y0), (.int .i64 y119.X1), (.int .i64 y119.Y1)]) (k := 5) rfl 3) rfl) ?_
         refine Tr.val (wg rfl rfl rfl) rfl (fun _ _ h1 h2 => run_lss (h1.ev rfl) (h1.ev rfl)) ?_
         refine Tr.va rfl (fun _ _ h1 h2 => run_pickT (h1.ev rfl) (h1.ev rfl)) ?_
         exact Tr.nil (Tr.fin0 (.cons rfl (.cons rfl (.cons rfl (.cons rfl (.cons rfl .nil))))) (.cons rfl (.cons rfl (.cons rfl .nil))))
       ·show Tr _ _ (LF [(1, (.int .i64 p1)), (2, (.pointer (some ⟨b100, 0, none⟩))), (5, (.pointer (some ⟨b102, 0, none⟩))), (6, (.int .i64 x116)), (67, (.bool ((((decide (y119.X0 < x101.X)) && (decide (x101.X < y119.X1))) && (decide (y119.Y0 < x101.Y))) && (decide (x101.Y < y119.Y1)))))]) (LE [(1, bx b100 #[(.int .i64 p0.W), (.int .i64 p0.H), (.int .i64 p0.Rail), (.int .i64 p0.Gap), (.slice Ap0_0 (p0.Kinds).length cp0_0), (.slice Ap0_1 (p0.Slots).length cp0_1), (.slice Ap0_2 (p0.Marks).length cp0_2)] 26), (2, bx b102 #[(.int .i64 x101.X), (.int .i64 x101.Y)] 82), (5, bx (bs117 7) #[(.int .i64 y119.X0), (.int .i64 y119.Y0), (.int .i64 y119.X1), (.int .i64 y119.Y1)] 38)]) _
        refine Tr.nil (Tr.normThen ?_)
        refine Tr.cond rfl H (fun H => ?_) (fun H => ?_)
        ·refine Tr.sr ?_
         refine Tr.asg rfl rfl ?_
         refine Tr.nil (Tr.normThen ?_)
         refine Tr.ret (Tr.retBlock (Tr.retThen (Tr.retThen (Tr.retBlock (Tr.retThen ?_)))))
         obtain rfl := Option.some.inj H
         exact Tr.out (m := [(.int .i64 12)]) [] (res_tmp rfl res_nil) (fun W hW => ⟨rfl, hW.low leB⟩)
        ·refine Tr.skip (Tr.normBlock (Tr.normThen ?_))
         refine Tr.region ?_
         refine Tr.mv rfl rfl ?_
         refine Tr.va rfl (fun _ _ h1 h2 => run_add (h1.ev rfl) (h1.ev rfl)) ?_
         refine Tr.asg rfl rfl ?_
         refine Tr.nil ?_
         exact Tr.backThen leF_etchhouseref9_checkMark_L1 (w64 (x116 + 1)) H (.cons rfl (.cons rfl (.cons rfl (.cons rfl .nil)))) (.cons rfl (.cons rfl .nil))
   ·refine Tr.exit (Tr.exitThen (Tr.exitThen (Tr.exitBlock (Tr.normThen ?_))))
    refine Tr.seq ?_
    refine Tr.sr ?_
    refine Tr.asg rfl rfl ?_
    refine Tr.nil (Tr.normThen ?_)
    refine Tr.block ?_
    refine Tr.loop (σ := Int) (fun m w s => F_etchhouseref9_checkMark_L2 p0 p1 x101 m s = some r) (fun s => [(1, (.int .i64 p1)), (2, (.pointer (some ⟨b100, 0, none⟩))), (5, (.pointer (some ⟨b102, 0, none⟩))), (8, (.int .i64 s))]) (fun s => [(1, bx b100 #[(.int .i64 p0.W), (.int .i64 p0.H), (.int .i64 p0.Rail), (.int .i64 p0.Gap), (.slice Ap0_0 (p0.Kinds).length cp0_0), (.slice Ap0_1 (p0.Slots).length cp0_1), (.slice Ap0_2 (p0.Marks).length cp0_2)] 26), (2, bx b102 #[(.int .i64 x101.X), (.int .i64 x101.Y)] 82)]) N 0 H (.cons rfl (.cons rfl (.cons rfl (.cons rfl .nil)))) (.cons rfl (.cons rfl .nil)) (fun _ _ h => noSome (h)) ?_
    intro w leF_etchhouseref9_checkMark_L2 mF_etchhouseref9_checkMark_L2 x125 hs
    have H := hs
    replace H : F_etchhouseref9_checkMark_L2 p0 p1 x101 (mF_etchhouseref9_checkMark_L2 + 1) x125 = some r := H
    replace hp0_0 := hp0_0.leR leF_etchhouseref9_checkMark_L2
    replace hp0_1 := hp0_1.leR leF_etchhouseref9_checkMark_L2
    replace hp0_2 := hp0_2.leR leF_etchhouseref9_checkMark_L2
    replace leB := leB.trans leF_etchhouseref9_checkMark_L2
    replace leF_etchhouseref9_checkMark_L1 := leF_etchhouseref9_checkMark_L1.trans leF_etchhouseref9_checkMark_L2
    rw [F_etchhouseref9_checkMark_L2.eq_2] at H
    show Tr _ _ (LF [(1, (.int .i64 p1)), (2, (.pointer (some ⟨b100, 0, none⟩))), (5, (.pointer (some ⟨b102, 0, none⟩))), (8, (.int .i64 x125))]) (LE [(1, bx b100 #[(.int .i64 p0.W), (.int .i64 p0.H), (.int .i64 p0.Rail), (.int .i64 p0.Gap), (.slice Ap0_0 (p0.Kinds).length cp0_0), (.slice Ap0_1 (p0.Slots).length cp0_1), (.slice Ap0_2 (p0.Marks).length cp0_2)] 26), (2, bx b102 #[(.int .i64 x101.X), (.int .i64 x101.Y)] 82)]) _
    refine Tr.seq ?_
    refine Tr.sr ?_
    refine Tr.mv rfl rfl ?_
    refine Tr.mv rfl rfl ?_
    refine Tr.va rfl (fun _ _ h1 h2 => run_lss (h1.ev rfl) (h1.ev rfl)) ?_
    refine Tr.nil (Tr.normThen ?_)
    refine Tr.cond rfl H (fun H => ?_) (fun H => ?_)
    ·refine Tr.skip (Tr.normThen ?_)
     refine Tr.seq ?_
     refine Tr.block ?_
     refine Tr.seq ?_
     refine Tr.draw (by kernel_rfl) (by kernel_rfl) ?_
     refine Tq.va rfl (fun _ _ h1 h2 => run_fieldAddr fo_26_6 (h1.ev rfl)) ?_
     refine Tq.va rfl (fun _ _ h1 h2 => run_load1 ag_24 (h1.ev rfl) (rdb h2 (vs := [(.int .i64 p0.W), (.int .i64 p0.H), (.int .i64 p0.Rail), (.int .i64 p0.Gap), (.slice Ap0_0 (p0.Kinds).length cp0_0), (.slice Ap0_1 (p0.Slots).length cp0_1), (.slice Ap0_2 (p0.Marks).length cp0_2)]) (k := 1) rfl 6) rfl) ?_
     refine Tq.mv rfl rfl ?_
     obtain ⟨x126, hx126, H⟩ := bnd H
     obtain ⟨hx1260, hx1261, hx1262⟩ := idx_some hx126
     refine Tq.va rfl (fun _ _ h1 h2 => run_indexAddr el_24 (h1.ev rfl) hp0_2.form (h1.ev rfl) hx1260 hx1261) ?_
     refine Tq.va rfl (fun _ _ h1 h2 => run_loadN (cs := [(.int .i64 x126.X), (.int .i64 x126.Y)]) ag_82 sz_82 (h1.ev rfl) (CellsAt.take (rdF ef_TPoint hp0_2 hx1262 h2) 2) rfl) ?_
     refine Tq.va rfl (fun _ _ h1 h2 => run_loadN (cs := [(.int .i64 x101.X), (.int .i64 x101.Y)]) ag_82 sz_82 (h1.ev rfl) (CellsAt.take (rdb h2 (vs := [(.int .i64 x101.X), (.int .i64 x101.Y)]) (k := 2) rfl 0) 2) rfl) ?_
     refine Tq.va rfl (fun _ _ h1 h2 => run_eql_82 x126 x101 (h1.ev rfl) (h1.ev rfl)) ?_
     refine Tq.nil (Tr.normThen ?_)
     refine Tr.cond rfl H (fun H => ?_) (fun H => ?_)
     ·refine Tr.sr ?_
      refine Tr.asg rfl rfl ?_
      refine Tr.nil (Tr.normThen ?_)
      refine Tr.ret (Tr.retBlock (Tr.retThen (Tr.retThen (Tr.retBlock (Tr.retThen ?_)))))
      obtain rfl := Option.some.inj H
      exact Tr.out (m := [(.int .i64 7)]) [] (res_tmp rfl res_nil) (fun W hW => ⟨rfl, hW.low leB⟩)
     ·refine Tr.skip (Tr.normBlock (Tr.normThen ?_))
      refine Tr.region ?_
      refine Tr.mv rfl rfl ?_
      refine Tr.va rfl (fun _ _ h1 h2 => run_add (h1.ev rfl) (h1.ev rfl)) ?_
      refine Tr.asg rfl rfl ?_
      refine Tr.nil ?_
      exact Tr.backThen leF_etchhouseref9_checkMark_L2 (w64 (x125 + 1)) H (.cons rfl (.cons rfl (.cons rfl (.cons rfl .nil)))) (.cons rfl (.cons rfl .nil))
    ·refine Tr.exit (Tr.exitThen (Tr.exitThen (Tr.exitBlock (Tr.normThen ?_))))
     refine Tr.sr ?_
     refine Tr.asg rfl rfl ?_
     refine Tr.nil (Tr.normThen ?_)
     refine Tr.ret ?_
     obtain rfl := Option.some.inj H
     exact Tr.out (m := [(.int .i64 0)]) [] (res_tmp rfl res_nil) (fun W hW => ⟨rfl, hW.low leB⟩)

theorem F_etchhouseref9_CheckPanel_ok (N : Nat) {w : Bs} (p0 : TPanel) (Ap0_0 : Option Addr) (cp0_0 : Nat) (hp0_0 : Sl w.R w.W fl_TBoardKind Ap0_0 cp0_0 p0.Kinds) (Ap0_1 : Option Addr) (cp0_1 : Nat) (hp0_1 : Sl w.R w.W fl_TSlot Ap0_1 cp0_1 p0.Slots) (Ap0_2 : Option Addr) (cp0_2 : Nat) (hp0_2 : Sl w.R w.W fl_TPoint Ap0_2 cp0_2 p0.Marks) (r : Int) (H : F_etchhouseref9_CheckPanel N p0 = some r) (hE : HF w w.W E0) : Calls Try.prog 19 [(.agg #[(.int .i64 p0.W), (.int .i64 p0.H), (.int .i64 p0.Rail), (.int .i64 p0.Gap), (.slice Ap0_0 (p0.Kinds).length cp0_0), (.slice Ap0_1 (p0.Slots).length cp0_1), (.slice Ap0_2 (p0.Marks).length cp0_2)])].toArray w.W fun e W' => e = .returned (.int .i64 r) ∧ HF w W' E0 := by
 unfold F_etchhouseref9_CheckPanel at H
 have leB := Bs.Le.refl w
 refine Tr.enter (n := 109) Try.func19 rfl rfl rfl hE ?_
 refine Tr.sr ?_
 refine Tr.box 1 (cs := [(.int .i64 p0.W), (.int .i64 p0.H), (.int .i64 p0.Rail), (.int .i64 p0.Gap), (.slice Ap0_0 (p0.Kinds).length cp0_0), (.slice Ap0_1 (p0.Slots).length cp0_1), (.slice Ap0_2 (p0.Marks).length cp0_2)]) (wn rfl) rfl rfl rfl fun b100 => ?_
 refine Tr.asg rfl rfl ?_
 refine Tr.nil (Tr.normThen ?_)
 refine Tr.seq ?_
 refine Tr.sr ?_
 refine Tr.va rfl (fun _ _ h1 h2 => run_fieldAddr fo_26_0 (h1.ev rfl)) ?_
 refine Tr.va rfl (fun _ _ h1 h2 => run_load1 ag_3 (h1.ev rfl) (rdb h2 (vs := [(.int .i64 p0.W), (.int .i64 p0.H), (.int .i64 p0.Rail), (.int .i64 p0.Gap), (.slice Ap0_0 (p0.Kinds).length cp0_0), (.slice Ap0_1 (p0.Slots).length cp0_1), (.slice Ap0_2 (p0.Marks).length cp0_2)]) (k := 1) rfl 0) rfl) ?_
 obtain ⟨y101, hy101, H⟩ := bnd H
 refine Tr.call0 (r := (.bool y101)) (wn rfl) rfl Try.call41 (evl_cons rfl (evl_cons rfl (evl_cons rfl evl_nil))) (fun W hW => F_etchhouseref9_within_ok p0.W 1 1000000 y101 hy101 (HF.start _)) ?_
 refine Tr.va rfl (fun _ _ h1 h2 => run_not (h1.ev rfl)) ?_
 refine Tr.mv rfl rfl ?_
 obtain ⟨g103, hg103, H⟩ := bnd H
 refine Tr.mid0 5 [(1, (.pointer (some ⟨b100, 0, none⟩))), (18, (.bool g103))] [(1, bx b100 #[(.int .i64 p0.W), (.int .i64 p0.H), (.int .i64 p0.Rail), (.int .i64 p0.Gap), (.slice Ap0_0 (p0.Kinds).length cp0_0), (.slice Ap0_1 (p0.Slots).length cp0_1), (.slice Ap0_2 (p0.Marks).length cp0_2)] 26)] ?_ ?_
 ·cases hg158 : (!y101)
  ·rw [hg158] at hg103
   rw [if_neg (by decide)] at hg103
   have H := hg103
   refine Tr.val (wg rfl rfl rfl) rfl (fun _ _ h1 h2 => run_fieldAddr fo_26_1 (h1.ev rfl)) ?_
   refine Tr.val (wg rfl rfl rfl) rfl (fun _ _ h1 h2 => run_load1 ag_3 (h1.ev rfl) (rdb h2 (vs := [(.int .i64 p0.W), (.int .i64 p0.H), (.int .i64 p0.Rail), (.int .i64 p0.Gap), (.slice Ap0_0 (p0.Kinds).length cp0_0), (.slice Ap0_1 (p0.Slots).length cp0_1), (.slice Ap0_2 (p0.Marks).length cp0_2)]) (k := 1) rfl 1) rfl) ?_
   obtain ⟨y104, hy104, H⟩ := bnd H
   refine Tr.call0 (r := (.bool y104)) (wg rfl rfl rfl) rfl Try.call41 (evl_cons rfl (evl_cons rfl (evl_cons rfl evl_nil))) (fun W hW => F_etchhouseref9_within_ok p0.H 1 1000000 y104 hy104 (HF.start _)) ?_
   refine Tr.val (wg rfl rfl rfl) rfl (fun _ _ h1 h2 => run_not (h1.ev rfl)) ?_
   refine Tr.va rfl (fun _ _ h1 h2 => run_pickF (h1.ev rfl) (h1.ev rfl)) ?_
   obtain rfl := Option.some.inj H
   exact Tr.nil (Tr.fin0 (.cons rfl (.cons rfl .nil)) (.cons rfl .nil))
  ·rw [hg158] at hg103
   rw [if_pos rfl] at hg103
   have H := hg103
   obtain rfl := Option.some.inj H
   refine Tr.pass rfl rfl rfl rfl rfl (by decide) ?_
   refine Tr.pass rfl rfl rfl rfl rfl (by decide) ?_
   refine Tr.pass rfl rfl rfl rfl rfl (by decide) ?_
   refine Tr.pass rfl rfl rfl rfl rfl (by decide) ?_
   refine Tr.va rfl (fun _ _ h1 h2 => run_pickT (h1.ev rfl) (h1.ev rfl)) ?_
   exact Tr.nil (Tr.fin0 (.cons rfl (.cons rfl .nil)) (.cons rfl .nil))
 ·show Tr _ _ (LF [(1, (.pointer (some ⟨b100, 0, none⟩))), (18, (.bool g103))]) (LE [(1, bx b100 #[(.int .i64 p0.W), (.int .i64 p0.H), (.int .i64 p0.Rail), (.int .i64 p0.Gap), (.slice Ap0_0 (p0.Kinds).length cp0_0), (.slice Ap0_1 (p0.Slots).length cp0_1), (.slice Ap0_2 (p0.Marks).length cp0_2)] 26)]) _
  refine Tr.mv rfl rfl ?_
  obtain ⟨g106, hg106, H⟩ := bnd H
  refine Tr.mid0 5 [(1, (.pointer (some ⟨b100, 0, none⟩))), (24, (.bool g106))] [(1, bx b100 #[(.int .i64 p0.W), (.int .i64 p0.H), (.int .i64 p0.Rail), (.int .i64 p0.Gap), (.slice Ap0_0 (p0.Kinds).length cp0_0), (.slice Ap0_1 (p0.Slots).length cp0_1), (.slice Ap0_2 (p0.Marks).length cp0_2)] 26)] ?_ ?_
  ·cases hg158 : g103
   ·rw [hg158] at hg106
    rw [if_neg (by decide)] at hg106
    have H := hg106
    refine Tr.val (wg rfl rfl rfl) rfl (fun _ _ h1 h2 => run_fieldAddr fo_26_2 (h1.ev rfl)) ?_
    refine Tr.val (wg rfl rfl rfl) rfl (fun _ _ h1 h2 => run_load1 ag_3 (h1.ev rfl) (rdb h2 (vs := [(.int .i64 p0.W), (.int .i64 p0.H), (.int .i64 p0.Rail), (.int .i64 p0.Gap), (.slice Ap0_0 (p0.Kinds).length cp0_0), (.slice Ap0_1 (p0.Slots).length cp0_1), (.slice Ap0_2 (p0.Marks).length cp0_2)]) (k := 1) rfl 2) rfl) ?_
    obtain ⟨y107, hy107, H⟩ := bnd H
    refine Tr.call0 (r := (.bool y107)) (wg rfl rfl rfl) rfl Try.call41 (evl_cons rfl (evl_cons rfl (evl_cons rfl evl_nil))) (fun W hW => F_etchhouseref9_within_ok p0.Rail 0 1000000 y107 hy107 (HF.start _)) ?_
    refine Tr.val (wg rfl rfl rfl) rfl (fun _ _ h1 h2 => run_not (h1.ev rfl)) ?_
    refine Tr.va rfl (fun _ _ h1 h2 => run_pickF (h1.ev rfl) (h1.ev rfl)) ?_
    obtain rfl := Option.some.inj H
    exact Tr.nil (Tr.fin0 (.cons rfl (.cons rfl .nil)) (.cons rfl .nil))
   ·rw [hg158] at hg106
    rw [if_pos rfl] at hg106
    have H := hg106
    obtain rfl := Option.some.inj H
    refine Tr.pass rfl rfl rfl rfl rfl (by decide) ?_
    refine Tr.pass rfl rfl rfl rfl rfl (by decide) ?_
    refine Tr.pass rfl rfl rfl rfl rfl (by decide) ?_
    refine Tr.pass rfl rfl rfl rfl rfl (by decide) ?_
    refine Tr.va rfl (fun _ _ h1 h2 => run_pickT (h1.ev rfl) (h1.ev rfl)) ?_
    exact Tr.nil (Tr.fin0 (.cons rfl (.cons rfl .nil)) (.cons rfl .nil))
  ·show Tr _ _ (LF [(1, (.pointer (some ⟨b100, 0, none⟩))), (24, (.bool g106))]) (LE [(1, bx b100 #[(.int .i64 p0.W), (.int .i64 p0.H), (.int .i64 p0.Rail), (.int .i64 p0.Gap), (.slice Ap0_0 (p0.Kinds).length cp0_0), (.slice Ap0_1 (p0.Slots).length cp0_1), (.slice Ap0_2 (p0.Marks).length cp0_2)] 26)]) _
   refine Tr.mv rfl rfl ?_
   obtain ⟨g109, hg109, H⟩ := bnd H
   refine Tr.mid0 5 [(1, (.pointer (some ⟨b100, 0, none⟩))), (30, (.bool g109))] [(1, bx b100 #[(.int .i64 p0.W), (.int .i64 p0.H), (.int .i64 p0.Rail), (.int .i64 p0.Gap), (.slice Ap0_0 (p0.Kinds).length cp0_0), (.slice Ap0_1 (p0.Slots).length cp0_1), (.slice Ap0_2 (p0.Marks).length cp0_2)] 26)] ?_ ?_
   ·cases hg158 : g106
    ·rw [hg158] at hg109
     rw [if_neg (by decide)] at hg109
     have H := hg109
     refine Tr.val (wg rfl rfl rfl) rfl (fun _ _ h1 h2 => run_fieldAddr fo_26_3 (h1.ev rfl)) ?_
     refine Tr.val (wg rfl rfl rfl) rfl (fun _ _ h1 h2 => run_load1 ag_3 (h1.ev rfl) (rdb h2 (vs := [(.int .i64 p0.W), (.int .i64 p0.H), (.int .i64 p0.Rail), (.int .i64 p0.Gap), (.slice Ap0_0 (p0.Kinds).length cp0_0), (.slice Ap0_1 (p0.Slots).length cp0_1), (.slice Ap0_2 (p0.Marks).length cp0_2)]) (k := 1) rfl 3) rfl) ?_
     obtain ⟨y110, hy110, H⟩ := bnd H
     refine Tr.call0 (r := (.bool y110)) (wg rfl rfl rfl) rfl Try.call41 (evl_cons rfl (evl_cons rfl (evl_cons rfl evl_nil))) (fun W hW => F_etchhouseref9_within_ok p0.Gap 0 1000000 y110 hy110 (HF.start _)) ?_
     refine Tr.val (wg rfl rfl rfl) rfl (fun _ _ h1 h2 => run_not (h1.ev rfl)) ?_
     refine Tr.va rfl (fun _ _ h1 h2 => run_pickF (h1.ev rfl) (h1.ev rfl)) ?_
     obtain rfl := Option.some.inj H
     exact Tr.nil (Tr.fin0 (.cons rfl (.cons rfl .nil)) (.cons rfl .nil))
    ·rw [hg158] at hg109
     rw [if_pos rfl] at hg109
     have H := hg109
     obtain rfl := Option.some.inj H
     refine Tr.pass rfl rfl rfl rfl rfl (by decide) ?_
     refine Tr.pass rfl rfl rfl rfl rfl (by decide) ?_
     refine Tr.pass rfl rfl rfl rfl rfl (by decide) ?_
     refine Tr.pass rfl rfl rfl rfl rfl (by decide) ?_
     refine Tr.va rfl (fun _ _ h1 h2 => run_pickT (h1.ev rfl) (h1.ev rfl)) ?_
     exact Tr.nil (Tr.fin0 (.cons rfl (.cons rfl .nil)) (.cons rfl .nil))
   ·show Tr _ _ (LF [(1, (.pointer (some ⟨b100, 0, none⟩))), (30, (.bool g109))]) (LE [(1, bx b100 #[(.int .i64 p0.W), (.int .i64 p0.H), (.int .i64 p0.Rail), (.int .i64 p0.Gap), (.slice Ap0_0 (p0.Kinds).length cp0_0), (.slice Ap0_1 (p0.Slots).length cp0_1), (.slice Ap0_2 (p0.Marks).length cp0_2)] 26)]) _
    refine Tr.nil (Tr.normThen ?_)
    refine Tr.cond rfl H (fun H => ?_) (fun H => ?_)
    ·refine Tr.sr ?_
     refine Tr.asg rfl rfl ?_
     refine Tr.nil (Tr.normThen ?_)
     refine Tr.ret (Tr.retThen ?_)
     obtain rfl := Option.some.inj H
     exact Tr.out (m := [(.int .i64 1)]) [] (res_tmp rfl res_nil) (fun W hW => ⟨rfl, hW.low leB⟩)
    ·refine Tr.skip (Tr.normThen ?_)
     refine Tr.seq ?_
     refine Tr.sr ?_
     refine Tr.va rfl (fun _ _ h1 h2 => run_fieldAddr fo_26_4 (h1.ev rfl)) ?_
     refine Tr.va rfl (fun _ _ h1 h2 => run_load1 ag_22 (h1.ev rfl) (rdb h2 (vs := [(.int .i64 p0.W), (.int .i64 p0.H), (.int .i64 p0.Rail), (.int .i64 p0.Gap), (.slice Ap0_0 (p0.Kinds).length cp0_0), (.slice Ap0_1 (p0.Slots).length cp0_1), (.slice Ap0_2 (p0.Marks).length cp0_2)]) (k := 1) rfl 4) rfl) ?_
     refine Tr.va rfl (fun _ _ h1 h2 => run_len un_22 (h1.ev rfl)) ?_
     refine Tr.va rfl (fun _ _ h1 h2 => run_gtr (h1.ev rfl) (h1.ev rfl)) ?_
     refine Tr.nil (Tr.normThen ?_)
     refine Tr.cond rfl H (fun H => ?_) (fun H => ?_)
     ·refine Tr.sr ?_
      refine Tr.asg rfl rfl ?_
      refine Tr.nil (Tr.normThen ?_)
      refine Tr.ret (Tr.retThen ?_)
      obtain rfl := Option.some.inj H
      exact Tr.out (m := [(.int .i64 2)]) [] (res_tmp rfl res_nil) (fun W hW => ⟨rfl, hW.low leB⟩)
     ·refine Tr.skip (Tr.normThen ?_)
      refine Tr.seq ?_
      refine Tr.sr ?_
      refine Tr.asg rfl rfl ?_
      refine Tr.nil (Tr.normThen ?_)
      refine Tr.block ?_
      refine Tr.loop (σ := Int) (fun m w s => F_etchhouseref9_CheckPanel_L1 N p0 m s = some r) (fun s => [(1, (.pointer (some ⟨b100, 0, none⟩))), (3, (.int .i64 s))]) (fun s => [(1, bx b100 #[(.int .i64 p0.W), (.int .i64 p0.H), (.int .i64 p0.Rail), (.int .i64 p0.Gap), (.slice Ap0_0 (p0.Kinds).length cp0_0), (.slice Ap0_1 (p0.Slots).length cp0_1), (.slice Ap0_2 (p0.Marks).length cp0_2)] 26)]) N 0 H (.cons rfl (.cons rfl .nil)) (.cons rfl .nil) (fun _ _ h => noSome (h)) ?_
      intro w leF_etchhouseref9_CheckPanel_L1 mF_etchhouseref9_CheckPanel_L1 x134 hs
      have H := hs
      replace H : F_etchhouseref9_CheckPanel_L1 N p0 (mF_etchhouseref9_CheckPanel_L1 + 1) x134 = some r := H
      replace hp0_0 := hp0_0.leR leF_etchhouseref9_CheckPanel_L1
      replace hp0_1 := hp0_1.leR leF_etchhouseref9_CheckPanel_L1
      replace hp0_2 := hp0_2.leR leF_etchhouseref9_CheckPanel_L1
      replace leB := leB.trans leF_etchhouseref9_CheckPanel_L1
      rw [F_etchhouseref9_CheckPanel_L1.eq_2] at H
      show Tr _ _ (LF [(1, (.pointer (some ⟨b100, 0, none⟩))), (3, (.int .i64 x134))]) (LE [(1, bx b100 #[(.int .i64 p0.W), (.int .i64 p0.H), (.int .i64 p0.Rail), (.int .i64 p0.Gap), (.slice Ap0_0 (p0.Kinds).length cp0_0), (.slice Ap0_1 (p0.Slots).length cp0_1), (.slice Ap0_2 (p0.Marks).length cp0_2)] 26)]) _
      refine Tr.seq ?_
      refine Tr.sr ?_
      refine Tr.mv rfl rfl ?_
      refine Tr.va rfl (fun _ _ h1 h2 => run_fieldAddr fo_26_4 (h1.ev rfl)) ?_
      refine Tr.va rfl (fun _ _ h1 h2 => run_load1 ag_22 (h1.ev rfl) (rdb h2 (vs := [(.int .i64 p0.W), (.int .i64 p0.H), (.int .i64 p0.Rail), (.int .i64 p0.Gap), (.slice Ap0_0 (p0.Kinds).length cp0_0), (.slice Ap0_1 (p0.Slots).length cp0_1), (.slice Ap0_2 (p0.Marks).length cp0_2)]) (k := 1) rfl 4) rfl) ?_
      refine Tr.va rfl (fun _ _ h1 h2 => run_len un_22 (h1.ev rfl)) ?_
      refine Tr.va rfl (fun _ _ h1 h2 => run_lss (h1.ev rfl) (h1.ev rfl)) ?_
      refine Tr.nil (Tr.normThen ?_)
      refine Tr.cond rfl H (fun H => ?_) (fun H => ?_)
      ·refine Tr.skip (Tr.normThen ?_)
       refine Tr.seq ?_
       refine Tr.block ?_
       refine Tr.sr ?_
       refine Tr.va rfl (fun _ _ h1 h2 => run_fieldAddr fo_26_4 (h1.ev rfl)) ?_
       refine Tr.va rfl (fun _ _ h1 h2 => run_load1 ag_22 (h1.ev rfl) (rdb h2 (vs := [(.int .i64 p0.W), (.int .i64 p0.H), (.int .i64 p0.Rail), (.int .i64 p0.Gap), (.slice Ap0_0 (p0.Kinds).length cp0_0), (.slice Ap0_1 (p0.Slots).length cp0_1), (.slice Ap0_2 (p0.Marks).length cp0_2)]) (k := 1) rfl 4) rfl) ?_
       refine Tr.mv rfl rfl ?_
       obtain ⟨x135, hx135, H⟩ := bnd H
       obtain ⟨hx1350, hx1351, hx1352⟩ := idx_some hx135
       refine Tr.va rfl (fun _ _ h1 h2 => run_indexAddr el_22 (h1.ev rfl) hp0_0.form (h1.ev rfl) hx1350 hx1351) ?_
       refine Tr.va rfl (fun _ _ h1 h2 => run_loadN (cs := [(.string x135.Name), (.int .i64 x135.W), (.int .i64 x135.H)]) ag_74 sz_74 (h1.ev rfl) (CellsAt.take (rdF ef_TBoardKind hp0_0 hx1352 h2) 3) rfl) ?_
       refine Tr.alloc 4 (wn rfl) rfl ze_74 fun b136 => ?_
       refine Tr.store 4 (cs := [(.string x135.Name), (.int .i64 x135.W), (.int .i64 x135.H)]) [(.string x135.Name), (.int .i64 x135.W), (.int .i64 x135.H)] (wn rfl) rfl rfl rfl rfl sz_74 rfl rfl rfl ?_
       refine Tr.nil (Tr.normThen ?_)
       refine Tr.seq ?_
       refine Tr.sr ?_
       refine Tr.va rfl (fun _ _ h1 h2 => run_fieldAddr fo_74_0 (h1.ev rfl)) ?_
       refine Tr.va rfl (fun _ _ h1 h2 => run_load1 ag_9 (h1.ev rfl) (rdb h2 (vs := [(.string x135.Name), (.int .i64 x135.W), (.int .i64 x135.H)]) (k := 4) rfl 0) rfl) ?_
       obtain ⟨y137, hy137, H⟩ := bnd H
       refine Tr.call0 (r := (.bool y137)) (wn rfl) rfl Try.call42 (evl_cons rfl evl_nil) (fun W hW => F_etchhouseref3_IsName_ok N x135.Name y137 hy137 (HF.start _)) ?_
       refine Tr.va rfl (fun _ _ h1 h2 => run_not (h1.ev rfl)) ?_
       refine Tr.nil (Tr.normThen ?_)
       refine Tr.cond rfl H (fun H => ?_) (fun H => ?_)
       ·refine Tr.sr ?_
        refine Tr.asg rfl rfl ?_
        refine Tr.nil (Tr.normThen ?_)
        refine Tr.ret (Tr.retThen (Tr.retBlock (Tr.retThen (Tr.retThen (Tr.retBlock (Tr.retThen ?_))))))
        obtain rfl := Option.some.inj H
        exact Tr.out (m := [(.int .i64 5)]) [] (res_tmp rfl res_nil) (fun W hW => ⟨rfl, hW.low leB⟩)
       ·refine Tr.skip (Tr.normThen ?_)
        refine Tr.seq ?_
        refine Tr.sr ?_
        refine Tr.va rfl (fun _ _ h1 h2 => run_fieldAddr fo_74_1 (h1.ev rfl)) ?_
        refine Tr.va rfl (fun _ _ h1 h2 => run_load1 ag_3 (h1.ev rfl) (rdb h2 (vs := [(.string x135.Name), (.int .i64 x135.W), (.int .i64 x135.H)]) (k := 4) rfl 1) rfl) ?_
        obtain ⟨y138, hy138, H⟩ := bnd H
        refine Tr.call0 (r := (.bool y138)) (wn rfl) rfl Try.call41 (evl_cons rfl (evl_cons rfl (evl_cons rfl evl_nil))) (fun W hW => F_etchhouseref9_within_ok x135.W 1 1000000 y138 hy138 (HF.start _)) ?_
        refine Tr.va rfl (fun _ _ h1 h2 => run_not (h1.ev rfl)) ?_
        refine Tr.mv rfl rfl ?_
        obtain ⟨g140, hg140, H⟩ := bnd H
        refine Tr.mid0 5 [(1, (.pointer (some ⟨b100, 0, none⟩))), (3, (.int .i64 x134)), (4, (.pointer (some ⟨b136, 0, none⟩))), (60, (.bool g140))] [(1, bx b100 #[(.int .i64 p0.W), (.int .i64 p0.H), (.int .i64 p0.Rail), (.int .i64 p0.Gap), (.slice Ap0_0 (p0.Kinds).length cp0_0), (.slice Ap0_1 (p0.Slots).length cp0_1), (.slice Ap0_2 (p0.Marks).length cp0_2)] 26), (4, bx b136 #[(.string x135.Name), (.int .i64 x135.W), (.int .i64 x135.H)] 74)] ?_ ?_
        ·cases hg144 : (!y138)
         ·rw [hg144] at hg140
          rw [if_neg (by decide)] at hg140
          have H := hg140
          refine Tr.val (wg rfl rfl rfl) rfl (fun _ _ h1 h2 => run_fieldAddr fo_74_2 (h1.ev rfl)) ?_
          refine Tr.val (wg rfl rfl rfl) rfl (fun _ _ h1 h2 => run_load1 ag_3 (h1.ev rfl) (rdb h2 (vs := [(.string x135.Name), (.int .i64 x135.W), (.int .i64 x135.H)]) (k := 4) rfl 2) rfl) ?_
          obtain ⟨y141, hy141, H⟩ := bnd H
          refine Tr.call0 (r := (.bool y141)) (wg rfl rfl rfl) rfl Try.call41 (evl_cons rfl (evl_cons rfl (evl_cons rfl evl_nil))) (fun W hW => F_etchhouseref9_within_ok x135.H 1 1000000 y141 hy141 (HF.start _)) ?_
          refine Tr.val (wg rfl rfl rfl) rfl (fun _ _ h1 h2 => run_not (h1.ev rfl)) ?_
          refine Tr.va rfl (fun _ _ h1 h2 => run_pickF (h1.ev rfl) (h1.ev rfl)) ?_
          obtain rfl := Option.some.inj H
          exact Tr.nil (Tr.fin0 (.cons rfl (.cons rfl (.cons rfl (.cons rfl .nil)))) (.cons rfl (.cons rfl .nil)))
         ·rw [hg144] at hg140
          rw [if_pos rfl] at hg140
          have H := hg140
          obtain rfl := Option.some.inj H
          refine Tr.pass rfl rfl rfl rfl rfl (by decide) ?_
          refine Tr.pass rfl rfl rfl rfl rfl (by decide) ?_
          refine Tr.pass rfl rfl rfl rfl rfl (by decide) ?_
          refine Tr.pass rfl rfl rfl rfl rfl (by decide) ?_
          refine Tr.va rfl (fun _ _ h1 h2 => run_pickT (h1.ev rfl) (h1.ev rfl)) ?_
          exact Tr.nil (Tr.fin0 (.cons rfl (.cons rfl (.cons rfl (.cons rfl .nil)))) (.cons rfl (.cons rfl .nil)))
        ·show Tr _ _ (LF [(1, (.pointer (some ⟨b100, 0, none⟩))), (3, (.int .i64 x134)), (4, (.pointer (some ⟨b136, 0, none⟩))), (60, (.bool g140))]) (LE [(1, bx b100 #[(.int .i64 p0.W), (.int .i64 p0.H), (.int .i64 p0.Rail), (.int .i64 p0.Gap), (.slice Ap0_0 (p0.Kinds).length cp0_0), (.slice Ap0_1 (p0.Slots).length cp0_1), (.slice Ap0_2 (p0.Marks).length cp0_2)] 26), (4, bx b136 #[(.string x135.Name), (.int .i64 x135.W), (.int .i64 x135.H)] 74)]) _
         refine Tr.nil (Tr.normThen ?_)
         refine Tr.cond rfl H (fun H => ?_) (fun H => ?_)
         ·refine Tr.sr ?_
          refine Tr.asg rfl rfl ?_
          refine Tr.nil (Tr.normThen ?_)
          refine Tr.ret (Tr.retThen (Tr.retBlock (Tr.retThen (Tr.retThen (Tr.retBlock (Tr.retThen ?_))))))
          obtain rfl := Option.some.inj H
          exact Tr.out (m := [(.int .i64 1)]) [] (res_tmp rfl res_nil) (fun W hW => ⟨rfl, hW.low leB⟩)
         ·refine Tr.skip (Tr.normThen ?_)
          refine Tr.seq ?_
          refine Tr.draw (by kernel_rfl) (by kernel_rfl) ?_
          refine Tq.mv rfl rfl ?_
          refine Tq.va rfl (fun _ _ h1 h2 => run_gtr (h1.ev rfl) (h1.ev rfl)) ?_
          refine Tq.mv rfl rfl ?_
          obtain ⟨g143, hg143, H⟩ := bnd H
          refine Tq.mid 11 [(1, (.pointer (some ⟨b100, 0, none⟩))), (3, (.int .i64 x134)), (74, (.bool g143))] ?_ ?_
          ·cases hg144 : (decide (0 < x134))
           ·rw [hg144] at hg143
            rw [if_neg (by decide)] at hg143
            have H := hg143
            obtain rfl := Option.some.inj H
            refine Tq.pass rfl rfl rfl rfl rfl (by decide) ?_
            refine Tq.pass rfl rfl rfl rfl rfl (by decide) ?_
            refine Tq.pass rfl rfl rfl rfl rfl (by decide) ?_
            refine Tq.pass rfl rfl rfl rfl rfl (by decide) ?_
            refine Tq.pass rfl rfl rfl rfl rfl (by decide) ?_
            refine Tq.pass rfl rfl rfl rfl rfl (by decide) ?_
            refine Tq.pass rfl rfl rfl rfl rfl (by decide) ?_
            refine Tq.pass rfl rfl rfl rfl rfl (by decide) ?_
            refine Tq.pass rfl rfl rfl rfl rfl (by decide) ?_
            refine Tq.pass rfl rfl rfl rfl rfl (by decide) ?_
            refine Tq.va rfl (fun _ _ h1 h2 => run_pickF (h1.ev rfl) (h1.ev rfl)) ?_
            exact Tq.fin (.cons rfl (.cons rfl (.cons rfl .nil)))
           ·rw [hg144] at hg143
            rw [if_pos rfl] at hg143
            have H := hg143
            refine Tq.val (wg rfl rfl rfl) rfl (fun _ _ h1 h2 => run_fieldAddr fo_74_0 (h1.ev rfl)) ?_
            refine Tq.val (wg rfl rfl rfl) rfl (fun _ _ h1 h2 => run_load1 ag_9 (h1.ev rfl) (rdb h2 (vs := [(.string x135.Name), (.int .i64 x135.W), (.int .i64 x135.H)]) (k := 4) rfl 0) rfl) ?_
            refine Tq.val (wg rfl rfl rfl) rfl (fun _ _ h1 h2 => run_fieldAddr fo_26_4 (h1.ev rfl)) ?_
            refine Tq.val (wg rfl rfl rfl) rfl (fun _ _ h1 h2 => run_load1 ag_22 (h1.ev rfl) (rdb h2 (vs := [(.int .i64 p0.W), (.int .i64 p0.H), (.int .i64 p0.Rail), (.int .i64 p0.Gap), (.slice Ap0_0 (p0.Kinds).length cp0_0), (.slice Ap0_1 (p0.Slots).length cp0_1), (.slice Ap0_2 (p0.Marks).length cp0_2)]) (k := 1) rfl 4) rfl) ?_
            refine Tq.val (wg rfl rfl rfl) rfl (fun _ _ h1 h2 => run_move (h1.ev rfl)) ?_
            refine Tq.val (wg rfl rfl rfl) rfl (fun _ _ h1 h2 => run_sub (h1.ev rfl) (h1.ev rfl)) ?_
            obtain ⟨x144, hx144, H⟩ := bnd H
            obtain ⟨hx1440, hx1441, hx1442⟩ := idx_some hx144
            refine Tq.val (wg rfl rfl rfl) rfl (fun _ _ h1 h2 => run_indexAddr el_22 (h1.ev rfl) hp0_0.form (h1.ev rfl) hx1440 hx1441) ?_
            refine Tq.val (wg rfl rfl rfl) rfl (fun _ _ h1 h2 => run_fieldAddr fo_74_0 (h1.ev rfl)) ?_
            refine Tq.val (wg rfl rfl rfl) rfl (fun _ _ h1 h2 => run_load1 ag_9 (h1.ev rfl) (CellsAt.drop (rdF ef_TBoardKind hp0_0 hx1442 h2) 0) rfl) ?_
            refine Tq.val (wg rfl rfl rfl) rfl (fun _ _ h1 h2 => run_leqS (h1.ev rfl) (h1.ev rfl)) ?_
            refine Tq.va rfl (fun _ _ h1 h2 => run_pickT (h1.ev rfl) (h1.ev rfl)) ?_
            obtain rfl := Option.some.inj H
            exact Tq.fin (.cons rfl (.cons rfl (.cons rfl .nil)))
          ·refine Tq.nil (Tr.normThen ?_)
           refine Tr.cond rfl H (fun H => ?_) (fun H => ?_)
           ·refine Tr.sr ?_
            refine Tr.asg rfl rfl ?_
            refine Tr.nil (Tr.normThen ?_)
            refine Tr.ret (Tr.retBlock (Tr.retThen (Tr.retThen (Tr.retBlock (Tr.retThen ?_)))))
            obtain rfl := Option.some.inj H
            exact Tr.out (m := [(.int .i64 8)]) [] (res_tmp rfl res_nil) (fun W hW => ⟨rfl, hW.low leB⟩)
           ·refine Tr.skip (Tr.normBlock (Tr.normThen ?_))
            refine Tr.region ?_
            refine Tr.mv rfl rfl ?_
            refine Tr.va rfl (fun _ _ h1 h2 => run_add (h1.ev rfl) (h1.ev rfl)) ?_
            refine Tr.asg rfl rfl ?_
            refine Tr.nil ?_
            exact Tr.backThen leF_etchhouseref9_CheckPanel_L1 (w64 (x134 + 1)) H (.cons rfl (.cons rfl .nil)) (.cons rfl .nil)
      ·refine Tr.exit (Tr.exitThen (Tr.exitThen (Tr.exitBlock (Tr.normThen ?_))))
       refine Tr.seq ?_
       refine Tr.sr ?_
       refine Tr.va rfl (fun _ _ h1 h2 => run_fieldAddr fo_26_5 (h1.ev rfl)) ?_
       refine Tr.va rfl (fun _ _ h1 h2 => run_load1 ag_23 (h1.ev rfl) (rdb h2 (vs := [(.int .i64 p0.W), (.int .i64 p0.H), (.int .i64 p0.Rail), (.int .i64 p0.Gap), (.slice Ap0_0 (p0.Kinds).length cp0_0), (.slice Ap0_1 (p0.Slots).length cp0_1), (.slice Ap0_2 (p0.Marks).length cp0_2)]) (k := 1) rfl 5) rfl) ?_
       refine Tr.va rfl (fun _ _ h1 h2 => run_len un_23 (h1.ev rfl)) ?_
       refine Tr.va rfl (fun _ _ h1 h2 => run_gtr (h1.ev rfl) (h1.ev rfl)) ?_
       refine Tr.nil (Tr.normThen ?_)
       refine Tr.cond rfl H (fun H => ?_) (fun H => ?_)
       ·refine Tr.sr ?_
        refine Tr.asg rfl rfl ?_
        refine Tr.nil (Tr.normThen ?_)
        refine Tr.ret (Tr.retThen ?_)
        obtain rfl := Option.some.inj H
        exact Tr.out (m := [(.int .i64 2)]) [] (res_tmp rfl res_nil) (fun W hW => ⟨rfl, hW.low leB⟩)
       ·refine Tr.skip (Tr.normThen ?_)
        refine Tr.seq ?_
        refine Tr.sr ?_
        refine Tr.asg rfl rfl ?_
        refine Tr.nil (Tr.normThen ?_)
        refine Tr.block ?_
        refine Tr.loop (σ := Int) (fun m w s => F_etchhouseref9_CheckPanel_L2 N p0 m s = some r) (fun s => [(1, (.pointer (some ⟨b100, 0, none⟩))), (5, (.int .i64 s))]) (fun s => [(1, bx b100 #[(.int .i64 p0.W), (.int .i64 p0.H), (.int .i64 p0.Rail), (.int .i64 p0.Gap), (.slice Ap0_0 (p0.Kinds).length cp0_0), (.slice Ap0_1 (p0.Slots).length cp0_1), (.slice Ap0_2 (p0.Marks).length cp0_2)] 26)]) N 0 H (.cons rfl (.cons rfl .nil)) (.cons rfl .nil) (fun _ _ h => noSome (h)) ?_
        intro w leF_etchhouseref9_CheckPanel_L2 mF_etchhouseref9_CheckPanel_L2 x150 hs
        have H := hs
        replace H : F_etchhouseref9_CheckPanel_L2 N p0 (mF_etchhouseref9_CheckPanel_L2 + 1) x150 = some r := H
        replace hp0_0 := hp0_0.leR leF_etchhouseref9_CheckPanel_L2
        replace hp0_1 := hp0_1.leR leF_etchhouseref9_CheckPanel_L2
        replace hp0_2 := hp0_2.leR leF_etchhouseref9_CheckPanel_L2
        replace leB := leB.trans leF_etchhouseref9_CheckPanel_L2
        replace leF_etchhouseref9_CheckPanel_L1 := leF_etchhouseref9_CheckPanel_L1.trans leF_etchhouseref9_CheckPanel_L2
        rw [F_etchhouseref9_CheckPanel_L2.eq_2] at H
        show Tr _ _ (LF [(1, (.pointer (some ⟨b100, 0, none⟩))), (5, (.int .i64 x150))]) (LE [(1, bx b100 #[(.int .i64 p0.W), (.int .i64 p0.H), (.int .i64 p0.Rail), (.int .i64 p0.Gap), (.slice Ap0_0 (p0.Kinds).length cp0_0), (.slice Ap0_1 (p0.Slots).length cp0_1), (.slice Ap0_2 (p0.Marks).length cp0_2)] 26)]) _
        refine Tr.seq ?_
        refine Tr.sr ?_
        refine Tr.mv rfl rfl ?_
        refine Tr.va rfl (fun _ _ h1 h2 => run_fieldAddr fo_26_5 (h1.ev rfl)) ?_
        refine Tr.va rfl (fun _ _ h1 h2 => run_load1 ag_23 (h1.ev rfl) (rdb h2 (vs := [(.int .i64 p0.W), (.int .i64 p0.H), (.int .i64 p0.Rail), (.int .i64 p0.Gap), (.slice Ap0_0 (p0.Kinds).length cp0_0), (.slice Ap0_1 (p0.Slots).length cp0_1), (.slice Ap0_2 (p0.Marks).length cp0_2)]) (k := 1) rfl 5) rfl) ?_
        refine Tr.va rfl (fun _ _ h1 h2 => run_len un_23 (h1.ev rfl)) ?_
        refine Tr.va rfl (fun _ _ h1 h2 => run_lss (h1.ev rfl) (h1.ev rfl)) ?_
        refine Tr.nil (Tr.normThen ?_)
        refine Tr.cond rfl H (fun H => ?_) (fun H => ?_)
        ·refine Tr.skip (Tr.normThen ?_)
         refine Tr.seq ?_
         refine Tr.block ?_
         refine Tr.sr ?_
         refine Tr.va rfl (fun _ _ h1 h2 => run_loadN (cs := [(.int .i64 p0.W), (.int .i64 p0.H), (.int .i64 p0.Rail), (.int .i64 p0.Gap), (.slice Ap0_0 (p0.Kinds).length cp0_0), (.slice Ap0_1 (p0.Slots).length cp0_1), (.slice Ap0_2 (p0.Marks).length cp0_2)]) ag_26 sz_26 (h1.ev rfl) (CellsAt.take (rdb h2 (vs := [(.int .i64 p0.W), (.int .i64 p0.H), (.int .i64 p0.Rail), (.int .i64 p0.Gap), (.slice Ap0_0 (p0.Kinds).length cp0_0), (.slice Ap0_1 (p0.Slots).length cp0_1), (.slice Ap0_2 (p0.Marks).length cp0_2)]) (k := 1) rfl 0) 7) rfl) ?_
         refine Tr.mv rfl rfl ?_
         obtain ⟨y151, hy151, H⟩ := bnd H
         refine Tr.call0 (r := (.int .i64 y151)) (wn rfl) rfl Try.call43 (evl_cons rfl (evl_cons rfl evl_nil)) (fun W hW => F_etchhouseref9_checkSlot_ok N p0 Ap0_0 cp0_0 (hp0_0.ext hW.extAll) Ap0_1 cp0_1 (hp0_1.ext hW.extAll) Ap0_2 cp0_2 (hp0_2.ext hW.extAll) x150 y151 hy151 (HF.start _)) ?_
         refine Tr.asg rfl rfl ?_
         refine Tr.nil (Tr.normThen ?_)
         refine Tr.sr ?_
         refine Tr.mv rfl rfl ?_
         refine Tr.va rfl (fun _ _ h1 h2 => run_neq (h1.ev rfl) (h1.ev rfl)) ?_
         refine Tr.nil (Tr.normThen ?_)
         refine Tr.cond rfl H (fun H => ?_) (fun H => ?_)
         ·refine Tr.sr ?_
          refine Tr.mv rfl rfl ?_
          refine Tr.asg rfl rfl ?_
          refine Tr.nil (Tr.normThen ?_)
          refine Tr.ret (Tr.retBlock (Tr.retThen (Tr.retThen (Tr.retBlock (Tr.retThen ?_)))))
          obtain rfl := Option.some.inj H
          exact Tr.out (m := [(.int .i64 y151)]) [] (res_tmp rfl res_nil) (fun W hW => ⟨rfl, hW.low leB⟩)
         ·refine Tr.skip (Tr.normBlock (Tr.normThen ?_))
          refine Tr.region ?_
          refine Tr.mv rfl rfl ?_
          refine Tr.va rfl (fun _ _ h1 h2 => run_add (h1.ev rfl) (h1.ev rfl)) ?_
          refine Tr.asg rfl rfl ?_
          refine Tr.nil ?_
          exact Tr.backThen leF_etchhouseref9_CheckPanel_L2 (w64 (x150 + 1)) H (.cons rfl (.cons rfl .nil)) (.cons rfl .nil)
        ·refine Tr.exit (Tr.exitThen (Tr.exitThen (Tr.exitBlock (Tr.normThen ?_))))
         refine Tr.seq ?_
         refine Tr.sr ?_
         refine Tr.va rfl (fun _ _ h1 h2 => run_fieldAddr fo_26_6 (h1.ev rfl)) ?_
         refine Tr.va rfl (fun _ _ h1 h2 => run_load1 ag_24 (h1.ev rfl) (rdb h2 (vs := [(.int .i64 p0.W), (.int .i64 p0.H), (.int .i64 p0.Rail), (.int .i64 p0.Gap), (.slice Ap0_0 (p0.Kinds).length cp0_0), (.slice Ap0_1 (p0.Slots).length cp0_1), (.slice Ap0_2 (p0.Marks).length cp0_2)]) (k := 1) rfl 6) rfl) ?_
         refine Tr.va rfl (fun _ _ h1 h2 => run_len un_24 (h1.ev rfl)) ?_
         refine Tr.va rfl (fun _ _ h1 h2 => run_gtr (h1.ev rfl) (h1.ev rfl)) ?_
         refine Tr.nil (Tr.normThen ?_)
         refine Tr.cond rfl H (fun H => ?_) (fun H => ?_)
         ·refine Tr.sr ?_
          refine Tr.asg rfl rfl ?_
          refine Tr.nil (Tr.normThen ?_)
          refine Tr.ret (Tr.retThen ?_)
          obtain rfl := Option.some.inj H
          exact Tr.out (m := [(.int .i64 2)]) [] (res_tmp rfl res_nil) (fun W hW => ⟨rfl, hW.low leB⟩)
         ·refine Tr.skip (Tr.normThen ?_)
          refine Tr.seq ?_
          refine Tr.sr ?_
          refine Tr.asg rfl rfl ?_
          refine Tr.nil (Tr.normThen ?_)
          refine Tr.block ?_
          refine Tr.loop (σ := Int) (fun m w s => F_etchhouseref9_CheckPanel_L3 N p0 m s = some r) (fun s => [(1, (.pointer (some ⟨b100, 0, none⟩))), (7, (.int .i64 s))]) (fun s => [(1, bx b100 #[(.int .i64 p0.W), (.int .i64 p0.H), (.int .i64 p0.Rail), (.int .i64 p0.Gap), (.slice Ap0_0 (p0.Kinds).length cp0_0), (.slice Ap0_1 (p0.Slots).length cp0_1), (.slice Ap0_2 (p0.Marks).length cp0_2)] 26)]) N 0 H (.cons rfl (.cons rfl .nil)) (.cons rfl .nil) (fun _ _ h => noSome (h)) ?_
          intro w leF_etchhouseref9_CheckPanel_L3 mF_etchhouseref9_CheckPanel_L3 x157 hs
          have H := hs
          replace H : F_etchhouseref9_CheckPanel_L3 N p0 (mF_etchhouseref9_CheckPanel_L3 + 1) x157 = some r := H
          replace hp0_0 := hp0_0.leR leF_etchhouseref9_CheckPanel_L3
          replace hp0_1 := hp0_1.leR leF_etchhouseref9_CheckPanel_L3
          replace hp0_2 := hp0_2.leR leF_etchhouseref9_CheckPanel_L3
          replace leB := leB.trans leF_etchhouseref9_CheckPanel_L3
          replace leF_etchhouseref9_CheckPanel_L1 := leF_etchhouseref9_CheckPanel_L1.trans leF_etchhouseref9_CheckPanel_L3
          replace leF_etchhouseref9_CheckPanel_L2 := leF_etchhouseref9_CheckPanel_L2.trans leF_etchhouseref9_CheckPanel_L3
          rw [F_etchhouseref9_CheckPanel_L3.eq_2] at H
          show Tr _ _ (LF [(1, (.pointer (some ⟨b100, 0, none⟩))), (7, (.int .i64 x157))]) (LE [(1, bx b100 #[(.int .i64 p0.W), (.int .i64 p0.H), (.int .i64 p0.Rail), (.int .i64 p0.Gap), (.slice Ap0_0 (p0.Kinds).length cp0_0), (.slice Ap0_1 (p0.Slots).length cp0_1), (.slice Ap0_2 (p0.Marks).length cp0_2)] 26)]) _
          refine Tr.seq ?_
          refine Tr.sr ?_
          refine Tr.mv rfl rfl ?_
          refine Tr.va rfl (fun _ _ h1 h2 => run_fieldAddr fo_26_6 (h1.ev rfl)) ?_
          refine Tr.va rfl (fun _ _ h1 h2 => run_load1 ag_24 (h1.ev rfl) (rdb h2 (vs := [(.int .i64 p0.W), (.int .i64 p0.H), (.int .i64 p0.Rail), (.int .i64 p0.Gap), (.slice Ap0_0 (p0.Kinds).length cp0_0), (.slice Ap0_1 (p0.Slots).length cp0_1), (.slice Ap0_2 (p0.Marks).length cp0_2)]) (k := 1) rfl 6) rfl) ?_
          refine Tr.va rfl (fun _ _ h1 h2 => run_len un_24 (h1.ev rfl)) ?_
          refine Tr.va rfl (fun _ _ h1 h2 => run_lss (h1.ev rfl) (h1.ev rfl)) ?_
          refine Tr.nil (Tr.normThen ?_)
          refine Tr.cond rfl H (fun H => ?_) (fun H => ?_)
          ·refine Tr.skip (Tr.normThen ?_)
           refine Tr.seq ?_
           refine Tr.block ?_
           refine Tr.sr ?_
           refine Tr.va rfl (fun _ _ h1 h2 => run_loadN (cs := [(.int .i64 p0.W), (.int .i64 p0.H), (.int .i64 p0.Rail), (.int .i64 p0.Gap), (.slice Ap0_0 (p0.Kinds).length cp0_0), (.slice Ap0_1 (p0.Slots).length cp0_1), (.slice Ap0_2 (p0.Marks).length cp0_2)]) ag_26 sz_26 (h1.ev rfl) (CellsAt.take (rdb h2 (vs := [(.int .i64 p0.W), (.int .i64 p0.H), (.int .i64 p0.Rail), (.int .i64 p0.Gap), (.slice Ap0_0 (p0.Kinds).length cp0_0), (.slice Ap0_1 (p0.Slots).length cp0_1), (.slice Ap0_2 (p0.Marks).length cp0_2)]) (k := 1) rfl 0) 7) rfl) ?_
           refine Tr.mv rfl rfl ?_
           obtain ⟨y158, hy158, H⟩ := bnd H
           refine Tr.call0 (r := (.int .i64 y158)) (wn rfl) rfl Try.call44 (evl_cons rfl (evl_cons rfl evl_nil)) (fun W hW => F_etchhouseref9_checkMark_ok N p0 Ap0_0 cp0_0 (hp0_0.ext hW.extAll) Ap0_1 cp0_1 (hp0_1.ext hW.extAll) Ap0_2 cp0_2 (hp0_2.ext hW.extAll) x157 y158 hy158 (HF.start _)) ?_
           refine Tr.asg rfl rfl ?_
           refine Tr.nil (Tr.normThen ?_)
           refine Tr.sr ?_
           refine Tr.mv rfl rfl ?_
           refine Tr.va rfl (fun _ _ h1 h2 => run_neq (h1.ev rfl) (h1.ev rfl)) ?_
           refine Tr.nil (Tr.normThen ?_)
           refine Tr.cond rfl H (fun H => ?_) (fun H => ?_)
           ·refine Tr.sr ?_
            refine Tr.mv rfl rfl ?_
            refine Tr.asg rfl rfl ?_
            refine Tr.nil (Tr.normThen ?_)
            refine Tr.ret (Tr.retBlock (Tr.retThen (Tr.retThen (Tr.retBlock (Tr.retThen ?_)))))
            obtain rfl := Option.some.inj H
            exact Tr.out (m := [(.int .i64 y158)]) [] (res_tmp rfl res_nil) (fun W hW => ⟨rfl, hW.low leB⟩)
           ·refine Tr.skip (Tr.normBlock (Tr.normThen ?_))
            refine Tr.region ?_
            refine Tr.mv rfl rfl ?_
            refine Tr.va rfl (fun _ _ h1 h2 => run_add (h1.ev rfl) (h1.ev rfl)) ?_
            refine Tr.asg rfl rfl ?_
            refine Tr.nil ?_
            exact Tr.backThen leF_etchhouseref9_CheckPanel_L3 (w64 (x157 + 1)) H (.cons rfl (.cons rfl .nil)) (.cons rfl .nil)
          ·refine Tr.exit (Tr.exitThen (Tr.exitThen (Tr.exitBlock (Tr.normThen ?_))))
           refine Tr.sr ?_
           refine Tr.asg rfl rfl ?_
           refine Tr.nil (Tr.normThen ?_)
           refine Tr.ret ?_
           obtain rfl := Option.some.inj H
           exact Tr.out (m := [(.int .i64 0)]) [] (res_tmp rfl res_nil) (fun W hW => ⟨rfl, hW.low leB⟩)

theorem F_etchhouseref9_cells_ok (N : Nat) {w : Bs} (p0 : TPanel) (Ap0_0 : Option Addr) (cp0_0 : Nat) (hp0_0 : Sl w.R w.W fl_TBoardKind Ap0_0 cp0_0 p0.Kinds) (Ap0_1 : Option Addr) (cp0_1 : Nat) (hp0_1 : Sl w.R w.W fl_TSlot Ap0_1 cp0_1 p0.Slots) (Ap0_2 : Option Addr) (cp0_2 : Nat) (hp0_2 : Sl w.R w.W fl_TPoint Ap0_2 cp0_2 p0.Marks) (r : (List TRect)) (H : F_etchhouseref9_cells N p0 = some r) (hE : HF w w.W (LEn [emp])) : Calls Try.prog 34 [(.agg #[(.int .i64 p0.W), (.int .i64 p0.H), (.int .i64 p0.Rail), (.int .i64 p0.Gap), (.slice Ap0_0 (p0.Kinds).length cp0_0), (.slice Ap0_1 (p0.Slots).length cp0_1), (.slice Ap0_2 (p0.Marks).length cp0_2)])].toArray w.W fun e W' => ∃ u : (Option Addr × Nat), e = .returned (.slice u.1 (r).length u.2) ∧ (SlF u.1 (r).length u.2) ∧ HF w W' (LEn [ow u.1 u.2 38 fl_TRect r]) := by
 unfold F_etchhouseref9_cells at H
 have leB := Bs.Le.refl w
 refine Tr.enter (n := 23) Try.func34 rfl rfl rfl hE ?_
 refine Tr.sr ?_
 refine Tr.box 1 (cs := [(.int .i64 p0.W), (.int .i64 p0.H), (.int .i64 p0.Rail), (.int .i64 p0.Gap), (.slice Ap0_0 (p0.Kinds).length cp0_0), (.slice Ap0_1 (p0.Slots).length cp0_1), (.slice Ap0_2 (p0.Marks).length cp0_2)]) (wn rfl) rfl rfl rfl fun b100 => ?_
 refine Tr.asg rfl rfl ?_
 refine Tr.nilOwn 2 38 fl_TRect ?_
 show Tr _ _ (uf _ 2 (.slice none (([] : List TRect)).length 0)) _ _
 refine Tr.nil (Tr.normThen ?_)
 refine Tr.sr ?_
 refine Tr.asg rfl rfl ?_
 refine Tr.nilOwn 3 38 fl_TRect ?_
 show Tr _ _ (uf _ 3 (.slice none (([] : List TRect)).length 0)) _ _
 refine Tr.nil (Tr.normThen ?_)
 refine Tr.seq ?_
 refine Tr.sr ?_
 refine Tr.asg rfl rfl ?_
 refine Tr.nil (Tr.normThen ?_)
 refine Tr.block ?_
 refine Tr.loop (σ := (List TRect) × Int × (Option Addr) × Nat) (fun m w s => F_etchhouseref9_cells_L1 N p0 m s.1 s.2.1 = some r ∧ SlF s.2.2.1 (s.1).length s.2.2.2) (fun s => [(1, (.pointer (some ⟨b100, 0, none⟩))), (3, (.slice s.2.2.1 (s.1).length s.2.2.2)), (4, (.int .i64 s.2.1))]) (fun s => [(1, bx b100 #[(.int .i64 p0.W), (.int .i64 p0.H), (.int .i64 p0.Rail), (.int .i64 p0.Gap), (.slice Ap0_0 (p0.Kinds).length cp0_0), (.slice Ap0_1 (p0.Slots).length cp0_1), (.slice Ap0_2 (p0.Marks).length cp0_2)] 26), (3, ow s.2.2.1 s.2.2.2 38 fl_TRect s.1)]) N (([] : List TRect), 0, none, 0) ⟨H, slf_nil⟩ (.cons rfl (.cons rfl (.cons rfl .nil))) (.cons rfl (.cons rfl .nil)) (fun _ _ h => noSome (h.1)) ?_
 intro w leF_etchhouseref9_cells_L1 mF_etchhouseref9_cells_L1 s hs
 obtain ⟨l115, x116, Al115, cl115⟩ := s
 obtain ⟨H, hl115⟩ := hs
 replace H : F_etchhouseref9_cells_L1 N p0 (mF_etchhouseref9_cells_L1 + 1) l115 x116 = some r := H
 replace hp0_0 := hp0_0.leR leF_etchhouseref9_cells_L1
 replace hp0_1 := hp0_1.leR leF_etchhouseref9_cells_L1
 replace hp0_2 := hp0_2.leR leF_etchhouseref9_cells_L1
 replace leB := leB.trans leF_etchhouseref9_cells_L1
 replace hl115 : SlF Al115 (l115).length cl115 := hl115
 rw [F_etchhouseref9_cells_L1.eq_2] at H
 show Tr _ _ (LF [(1, (.pointer (some ⟨b100, 0, none⟩))), (3, (.slice Al115 (l115).length cl115)), (4, (.int .i64 x116))]) (LE [(1, bx b100 #[(.int .i64 p0.W), (.int .i64 p0.H), (.int .i64 p0.Rail), (.int .i64 p0.Gap), (.slice Ap0_0 (p0.Kinds).length cp0_0), (.slice Ap0_1 (p0.Slots).length cp0_1), (.slice Ap0_2 (p0.Marks).length cp0_2)] 26), (3, ow Al115 cl115 38 fl_TRect l115)]) _
 refine Tr.seq ?_
 refine Tr.sr ?_
 refine Tr.mv rfl rfl ?_
 refine Tr.va rfl (fun _ _ h1 h2 => run_fieldAddr fo_26_5 (h1.ev rfl)) ?_
 refine Tr.va rfl (fun _ _ h1 h2 => run_load1 ag_23 (h1.ev rfl) (rdb h2 (vs := [(.int .i64 p0.W), (.int .i64 p0.H), (.int .i64 p0.Rail), (.int .i64 p0.Gap), (.slice Ap0_0 (p0.Kinds).length cp0_0), (.slice Ap0_1 (p0.Slots).length cp0_1), (.slice Ap0_2 (p0.Marks).length cp0_2)]) (k := 1) rfl 5) rfl) ?_
 refine Tr.va rfl (fun _ _ h1 h2 => run_len un_23 (h1.ev rfl)) ?_
 refine Tr.va rfl (fun _ _ h1 h2 => run_lss (h1.ev rfl) (h1.ev rfl)) ?_
 refine Tr.nil (Tr.normThen ?_)
 refine Tr.cond rfl H (fun H => ?_) (fun H => ?_)
 ·refine Tr.skip (Tr.normThen ?_)
  refine Tr.seq ?_
  refine Tr.block ?_
  obtain ⟨x118, hx118, H⟩ := bnd H
  obtain ⟨hx1180, hx1181, hx1182⟩ := idx_some hx118
  obtain ⟨y119, hy119, H⟩ := bnd H
  refine Tr.drawF 9 [(8, .makeFunc (.func 0) #[] #[.tmp 19])] [(8, ⟨20, 6, (.func (.func 0) #[] #[(.agg #[(.int .i64 y119.X0), (.int .i64 y119.Y0), (.int .i64 y119.X1), (.int .i64 y119.Y1)])]), fun b => .slice (some ⟨b, 0, none⟩) 1 1, fun b => bx b #[(.int .i64 y119.X0), (.int .i64 y119.Y0), (.int .i64 y119.X1), (.int .i64 y119.Y1)] 38⟩)] [(1, (.pointer (some ⟨b100, 0, none⟩))), (3, (.slice Al115 (l115).length cl115)), (4, (.int .i64 x116)), (5, (.int .i64 x116)), (6, (.pointer (some ⟨b100, 5, none⟩))), (7, (.slice Ap0_1 (p0.Slots).length cp0_1)), (8, (.int .i64 (p0.Slots.length : Int))), (9, (.bool (decide (x116 < (p0.Slots.length : Int))))), (12, (.slice Al115 (l115).length cl115)), (13, (.agg #[(.int .i64 p0.W), (.int .i64 p0.H), (.int .i64 p0.Rail), (.int .i64 p0.Gap), (.slice Ap0_0 (p0.Kinds).length cp0_0), (.slice Ap0_1 (p0.Slots).length cp0_1), (.slice Ap0_2 (p0.Marks).length cp0_2)])), (14, (.pointer (some ⟨b100, 5, none⟩))), (15, (.slice Ap0_1 (p0.Slots).length cp0_1)), (16, (.int .i64 x116)), (17, (.pointer (some ⟨adB Ap0_1, adO Ap0_1 + (x116).toNat * 4, none⟩))), (18, (.agg #[(.string x118.Board), (.int .i64 x118.Quarters), (.int .i64 x118.At.X), (.int .i64 x118.At.Y)])), (19, (.agg #[(.int .i64 y119.X0), (.int .i64 y119.Y0), (.int .i64 y119.X1), (.int .i64 y119.Y1)])), (20, (.func (.func 0) #[] #[(.agg #[(.int .i64 y119.X0), (.int .i64 y119.Y0), (.int .i64 y119.X1), (.int .i64 y119.Y1)])]))] (by kernel_rfl) (by kernel_rfl) (by kernel_rfl) (by kernel_rfl) (by kernel_rfl) (by kernel_rfl) (by kernel_rfl) (fall_cons (fr_lit (vs := [(0, (.agg #[(.int .i64 y119.X0), (.int .i64 y119.Y0), (.int .i64 y119.X1), (.int .i64 y119.Y1)]))]) rfl rfl rfl (by kernel_rfl)) fall_nil) (fall_cons rfl fall_nil) (fall_cons rfl fall_nil) ?_ ?_
  ·refine Tq.mv rfl rfl ?_
   refine Tq.va rfl (fun _ _ h1 h2 => run_loadN (cs := [(.int .i64 p0.W), (.int .i64 p0.H), (.int .i64 p0.Rail), (.int .i64 p0.Gap), (.slice Ap0_0 (p0.Kinds).length cp0_0), (.slice Ap0_1 (p0.Slots).length cp0_1), (.slice Ap0_2 (p0.Marks).length cp0_2)]) ag_26 sz_26 (h1.ev rfl) (CellsAt.take (rdb h2 (vs := [(.int .i64 p0.W), (.int .i64 p0.H), (.int .i64 p0.Rail), (.int .i64 p0.Gap), (.slice Ap0_0 (p0.Kinds).length cp0_0), (.slice Ap0_1 (p0.Slots).length cp0_1), (.slice Ap0_2 (p0.Marks).length cp0_2)]) (k := 1) rfl 0) 7) rfl) ?_
   refine Tq.va rfl (fun _ _ h1 h2 => run_fieldAddr fo_26_5 (h1.ev rfl)) ?_
   refine Tq.va rfl (fun _ _ h1 h2 => run_load1 ag_23 (h1.ev rfl) (rdb h2 (vs := [(.int .i64 p0.W), (.int .i64 p0.H), (.int .i64 p0.Rail), (.int .i64 p0.Gap), (.slice Ap0_0 (p0.Kinds).length cp0_0), (.slice Ap0_1 (p0.Slots).length cp0_1), (.slice Ap0_2 (p0.Marks).length cp0_2)]) (k := 1) rfl 5) rfl) ?_
   refine Tq.mv rfl rfl ?_
   refine Tq.va rfl (fun _ _ h1 h2 => run_indexAddr el_23 (h1.ev rfl) hp0_1.form (h1.ev rfl) hx1180 hx1181) ?_
   refine Tq.va rfl (fun _ _ h1 h2 => run_loadN (cs := [(.string x118.Board), (.int .i64 x118.Quarters), (.int .i64 x118.At.X), (.int .i64 x118.At.Y)]) ag_96 sz_96 (h1.ev rfl) (CellsAt.take (rdF ef_TSlot hp0_1 hx1182 h2) 4) rfl) ?_
   refine Tq.call0 (r := (.agg #[(.int .i64 y119.X0), (.int .i64 y119.Y0), (.int .i64 y119.X1), (.int .i64 y119.Y1)])) (wn rfl) rfl Try.call63 (evl_cons rfl (evl_cons rfl evl_nil)) (fun W hW => F_etchhouseref9_cellOf_ok N p0 Ap0_0 cp0_0 (hp0_0.ext hW.extAll) Ap0_1 cp0_1 (hp0_1.ext hW.extAll) Ap0_2 cp0_2 (hp0_2.ext hW.extAll) x118 y119 hy119 (HF.start _)) ?_
   refine Tq.mkFunc (vs := [(.agg #[(.int .i64 y119.X0), (.int .i64 y119.Y0), (.int .i64 y119.X1), (.int .i64 y119.Y1)])]) (wn rfl) rfl (evl_cons rfl evl_nil) ?_
   exact Tq.fin (.cons rfl (.cons rfl (.cons rfl (.cons rfl (.cons rfl (.cons rfl (.cons rfl (.cons rfl (.cons rfl (.cons rfl (.cons rfl (.cons rfl (.cons rfl (.cons rfl (.cons rfl (.cons rfl (.cons rfl .nil)))))))))))))))))
  ·intro bs117
   refine Tr.sel (lf := [(1, (.pointer (some ⟨b100, 0, none⟩))), (4, (.int .i64 x116)), (12, (.slice Al115 (l115).length cl115)), (20, (.slice (some ⟨(bs117 8), 0, none⟩) 1 1))]) (le := [(1, bx b100 #[(.int .i64 p0.W), (.int .i64 p0.H), (.int .i64 p0.Rail), (.int .i64 p0.Gap), (.slice Ap0_0 (p0.Kinds).length cp0_0), (.slice Ap0_1 (p0.Slots).length cp0_1), (.slice Ap0_2 (p0.Marks).length cp0_2)] 26), (3, ow Al115 cl115 38 fl_TRect l115), (6, bx (bs117 8) #[(.int .i64 y119.X0), (.int .i64 y119.Y0), (.int .i64 y119.X1), (.int .i64 y119.Y1)] 38)]) (.cons rfl (.cons rfl (.cons rfl (.cons rfl .nil)))) (.cons rfl (.cons rfl (.cons rfl .nil))) ?_
   obtain ⟨l120, hl120, H⟩ := bnd H
   refine Tr.append 3 (t := fl_TRect) (l := l115) (l2 := [y119]) (wn rfl) rfl rfl rfl rfl (fun W hW => ⟨[[(.int .i64 y119.X0), (.int .i64 y119.Y0), (.int .i64 y119.X1), (.int .i64 y119.Y1)]], (.cons ⟨(), trivial, rfl⟩ .nil), rdb hW (vs := [(.int .i64 y119.X0), (.int .i64 y119.Y0), (.int .i64 y119.X1), (.int .i64 y119.Y1)]) (k := 6) rfl 0⟩) un_32 sz_38 zl_38 (by decide) by_38 rfl hl120 fun Al120 cl120 hAl120 => ?_
   refine Tr.asg rfl rfl ?_
   refine Tr.nil (Tr.normBlock (Tr.normThen ?_))
   refine Tr.region ?_
   refine Tr.mv rfl rfl ?_
   refine Tr.va rfl (fun _ _ h1 h2 => run_add (h1.ev rfl) (h1.ev rfl)) ?_
   refine Tr.asg rfl rfl ?_
   refine Tr.nil ?_
   exact Tr.backThen leF_etchhouseref9_cells_L1 (l120, (w64 (x116 + 1)), Al120, cl120) ⟨H, hAl120⟩ (.cons rfl (.cons rfl (.cons rfl .nil))) (.cons rfl (.cons rfl .nil))
 ·refine Tr.exit (Tr.exitThen (Tr.exitThen (Tr.exitBlock (Tr.normThen ?_))))
  refine Tr.sr ?_
  refine Tr.mv rfl rfl ?_
  refine Tr.asg rfl rfl ?_
  refine Tr.nil (Tr.normThen ?_)
  refine Tr.ret ?_
  obtain rfl := Option.some.inj H
  exact Tr.out (m := [(.slice Al115 (l115).length cl115)]) [] (res_tmp rfl res_nil) (fun W hW => ⟨(Al115, cl115), rfl, hl115, HF.lowE leB (hW.pick (ks := [3]) (by decide) (pk_cons rfl pk_nil)) ⟨ow_any _ _ _ _ tr_TRect, trivial⟩⟩)

theorem F_etchhouseref9_place_ok (N : Nat) {w : Bs} (p0 : (List TRect)) (Ap0_0 : Option Addr) (cp0_0 : Nat) (hp0_0 : Sl w.R w.W fl_TRect Ap0_0 cp0_0 p0) (r : (Int × Bool)) (H : F_etchhouseref9_place N p0 = some r) (hE : HF w w.W E0) : Calls Try.prog 62 [(.slice Ap0_0 (p0).length cp0_0)].toArray w.W fun e W' => e = .returned (.tuple #[(.int .i64 r.1), (.bool r.2)]) ∧ HF w W' E0 := by
 unfold F_etchhouseref9_place at H
 have leB := Bs.Le.refl w
 refine Tr.enter (n := 74) Try.func62 rfl rfl rfl hE ?_
 refine Tr.sr ?_
 refine Tr.asg rfl rfl ?_
 refine Tr.asg rfl rfl ?_
 refine Tr.nil (Tr.normThen ?_)
 refine Tr.sr ?_
 refine Tr.asg rfl rfl ?_
 refine Tr.asg rfl rfl ?_
 refine Tr.nil (Tr.normThen ?_)
 refine Tr.seq ?_
 refine Tr.sr ?_
 refine Tr.asg rfl rfl ?_
 refine Tr.nil (Tr.normThen ?_)
 refine Tr.block ?_
 refine Tr.loop (σ := Int × Bool × Int) (fun m w s => F_etchhouseref9_place_L3 N p0 m s.1 s.2.1 s.2.2 = some r) (fun s => [(0, (.slice Ap0_0 (p0).length cp0_0)), (4, (.int .i64 s.1)), (5, (.bool s.2.1)), (6, (.int .i64 s.2.2))]) (fun s => []) N (0, false, 0) H (.cons rfl (.cons rfl (.cons rfl (.cons rfl .nil)))) .nil (fun _ _ h => noSome (h)) ?_
 intro w leF_etchhouseref9_place_L3 mF_etchhouseref9_place_L3 s hs
 obtain ⟨x193, x194, x195⟩ := s
 have H := hs
 replace H : F_etchhouseref9_place_L3 N p0 (mF_etchhouseref9_place_L3 + 1) x193 x194 x195 = some r := H
 replace hp0_0 := hp0_0.leR leF_etchhouseref9_place_L3
 replace leB := leB.trans leF_etchhouseref9_place_L3
 rw [F_etchhouseref9_place_L3.eq_2] at H
 show Tr _ _ (LF [(0, (.slice Ap0_0 (p0).length cp0_0)), (4, (.int .i64 x193)), (5, (.bool x194)), (6, (.int .i64 x195))]) (LE []) _
 refine Tr.seq ?_
 refine Tr.sr ?_
 refine Tr.mv rfl rfl ?_
 refine Tr.mv rfl rfl ?_
 refine Tr.va rfl (fun _ _ h1 h2 => run_len un_32 (h1.ev rfl)) ?_
 refine Tr.va rfl (fun _ _ h1 h2 => run_lss (h1.ev rfl) (h1.ev rfl)) ?_
 refine Tr.nil (Tr.normThen ?_)
 refine Tr.cond rfl H (fun H => ?_) (fun H => ?_)
 ·refine Tr.skip (Tr.normThen ?_)
  refine Tr.seq ?_
  refine Tr.block ?_
  refine Tr.sr ?_
  refine Tr.mv rfl rfl ?_
  refine Tr.mv rfl rfl ?_
  obtain ⟨x196, hx196, H⟩ := bnd H
  obtain ⟨hx1960, hx1961, hx1962⟩ := idx_some hx196
  refine Tr.va rfl (fun _ _ h1 h2 => run_indexAddr el_32 (h1.ev rfl) hp0_0.form (h1.ev rfl) hx1960 hx1961) ?_
  refine Tr.va rfl (fun _ _ h1 h2 => run_fieldAddr fo_38_3 (h1.ev rfl)) ?_
  refine Tr.va rfl (fun _ _ h1 h2 => run_load1 ag_3 (h1.ev rfl) (CellsAt.drop (rdF ef_TRect hp0_0 hx1962 h2) 3) rfl) ?_
  refine Tr.asg rfl rfl ?_
  refine Tr.nil (Tr.normThen ?_)
  refine Tr.sr ?_
  refine Tr.asg rfl rfl ?_
  refine Tr.asg rfl rfl ?_
  refine Tr.nil (Tr.normThen ?_)
  refine Tr.seq ?_
  refine Tr.sr ?_
  refine Tr.asg rfl rfl ?_
  refine Tr.nil (Tr.normThen ?_)
  refine Tr.block ?_
  refine Tr.loop (σ := Bool × Bool × Int) (fun m w s => F_etchhouseref9_place_L4 p0 x193 x194 x195 (F_etchhouseref9_place_L3 N p0 mF_etchhouseref9_place_L3) x196 m s.1 s.2.1 s.2.2 = some r) (fun s => [(0, (.slice Ap0_0 (p0).length cp0_0)), (4, (.int .i64 x193)), (5, (.bool x194)), (6, (.int .i64 x195)), (7, (.int .i64 x196.Y1)), (8, (.bool s.1)), (9, (.bool s.2.1)), (10, (.int .i64 s.2.2))]) (fun s => []) N (false, false, 0) H (.cons rfl (.cons rfl (.cons rfl (.cons rfl (.cons rfl (.cons rfl (.cons rfl (.cons rfl .nil)))))))) .nil (fun _ _ h => noSome (h)) ?_
  intro w leF_etchhouseref9_place_L4 mF_etchhouseref9_place_L4 s hs
  obtain ⟨x223, x224, x225⟩ := s
  have H := hs
  replace H : F_etchhouseref9_place_L4 p0 x193 x194 x195 (F_etchhouseref9_place_L3 N p0 mF_etchhouseref9_place_L3) x196 (mF_etchhouseref9_place_L4 + 1) x223 x224 x225 = some r := H
  replace hp0_0 := hp0_0.leR leF_etchhouseref9_place_L4
  replace leB := leB.trans leF_etchhouseref9_place_L4
  replace leF_etchhouseref9_place_L3 := leF_etchhouseref9_place_L3.trans leF_etchhouseref9_place_L4
  rw [F_etchhouseref9_place_L4.eq_2] at H
  show Tr _ _ (LF [(0, (.slice Ap0_0 (p0).length cp0_0)), (4, (.int .i64 x193)), (5, (.bool x194)), (6, (.int .i64 x195)), (7, (.int .i64 x196.Y1)), (8, (.bool x223)), (9, (.bool x224)), (10, (.int .i64 x225))]) (LE []) _
  refine Tr.seq ?_
  refine Tr.sr ?_
  refine Tr.mv rfl rfl ?_
  refine Tr.mv rfl rfl ?_
  refine Tr.va rfl (fun _ _ h1 h2 => run_len un_32 (h1.ev rfl)) ?_
  refine Tr.va rfl (fun _ _ h1 h2 => run_lss (h1.ev rfl) (h1.ev rfl)) ?_
  refine Tr.nil (Tr.normThen ?_)
  refine Tr.cond rfl H (fun H => ?_) (fun H => ?_)
  ·refine Tr.skip (Tr.normThen ?_)
   refine Tr.seq ?_
   refine Tr.block ?_
   refine Tr.sr ?_
   refine Tr.mv rfl rfl ?_
   refine Tr.mv rfl rfl ?_
   obtain ⟨g230, hg230, H⟩ := bnd H
   refine Tr.mid0 17 [(0, (.slice Ap0_0 (p0).length cp0_0)), (4, (.int .i64 x193)), (5, (.bool x194)), (6, (.int .i64 x195)), (7, (.int .i64 x196.Y1)), (9, (.bool x224)), (10, (.int .i64 x225)), (46, (.bool g230))] [] ?_ ?_
   ·cases hg237 : x223
    ·rw [hg237] at hg230
     rw [if_neg (by decide)] at hg230
     have H := hg230
     refine Tr.val (wg rfl rfl rfl) rfl (fun _ _ h1 h2 => run_move (h1.ev rfl)) ?_
     refine Tr.val (wg rfl rfl rfl) rfl (fun _ _ h1 h2 => run_move (h1.ev rfl)) ?_
     obtain ⟨x231, hx231, H⟩ := bnd H
     obtain ⟨hx2310, hx2311, hx2312⟩ := idx_some hx231
     refine Tr.val (wg rfl rfl rfl) rfl (fun _ _ h1 h2 => run_indexAddr el_32 (h1.ev rfl) hp0_0.form (h1.ev rfl) hx2310 hx2311) ?_
     refine Tr.val (wg rfl rfl rfl) rfl (fun _ _ h1 h2 => run_fieldAddr fo_38_1 (h1.ev rfl)) ?_
     refine Tr.val (wg rfl rfl rfl) rfl (fun _ _ h1 h2 => run_load1 ag_3 (h1.ev rfl) (CellsAt.drop (rdF ef_TRect hp0_0 hx2312 h2) 1) rfl) ?_
     refine Tr.val (wg rfl rfl rfl) rfl (fun _ _ h1 h2 => run_move (h1.ev rfl)) ?_
     refine Tr.val (wg rfl rfl rfl) rfl (fun _ _ h1 h2 => run_lss (h1.ev rfl) (h1.ev rfl)) ?_
     refine Tr.val (wg rfl rfl rfl) rfl (fun _ _ h1 h2 => run_move (h1.ev rfl)) ?_
     obtain ⟨g233, hg233, H⟩ := bnd H
     refine Tr.mid0 8 [(0, (.slice Ap0_0 (p0).length cp0_0)), (4, (.int .i64 x193)), (5, (.bool x194)), (6, (.int .i64 x195)), (7, (.int .i64 x196.Y1)), (9, (.bool x224)), (10, (.int .i64 x225)), (29, (.bool false)), (45, (.bool g233))] [] ?_ ?_
     ·cases hg234 : (decide (x231.Y0 < x196.Y1))
      ·rw [hg234] at hg233
       rw [if_neg (by decide)] at hg233
       have H := hg233
       obtain rfl := Option.some.inj H
       refine Tr.pass rfl rfl rfl rfl rfl (by decide) ?_
       refine Tr.pass rfl rfl rfl rfl rfl (by decide) ?_
       refine Tr.pass rfl rfl rfl rfl rfl (by decide) ?_
       refine Tr.pass rfl rfl rfl rfl rfl (by decide) ?_
       refine Tr.pass rfl rfl rfl rfl rfl (by decide) ?_
       refine Tr.pass rfl rfl rfl rfl rfl (by decide) ?_
       refine Tr.pass rfl rfl rfl rfl rfl (by decide) ?_
       refine Tr.val (wg rfl rfl rfl) rfl (fun _ _ h1 h2 => run_pickF (h1.ev rfl) (h1.ev rfl)) ?_
       exact Tr.nil (Tr.fin0 (.cons rfl (.cons rfl (.cons rfl (.cons rfl (.cons rfl (.cons rfl (.cons rfl (.cons rfl (.cons rfl .nil))))))))) .nil)
      ·rw [hg234] at hg233
       rw [if_pos rfl] at hg233
       have H := hg233
       refine Tr.val (wg rfl rfl rfl) rfl (fun _ _ h1 h2 => run_move (h1.ev rfl)) ?_
       refine Tr.val (wg rfl rfl rfl) rfl (fun _ _ h1 h2 => run_move (h1.ev rfl)) ?_
       refine Tr.val (wg rfl rfl rfl) rfl (fun _ _ h1 h2 => run_move (h1.ev rfl)) ?_
       obtain ⟨x234, hx234, H⟩ := bnd H
       obtain ⟨hx2340, hx2341, hx2342⟩ := idx_some hx234
       refine Tr.val (wg rfl rfl rfl) rfl (fun _ _ h1 h2 => run_indexAddr el_32 (h1.ev rfl) hp0_0.form (h1.ev rfl) hx2340 hx2341) ?_
       refine Tr.val (wg rfl rfl rfl) rfl (fun _ _ h1 h2 => run_fieldAddr fo_38_3 (h1.ev rfl)) ?_
       refine Tr.val (wg rfl rfl rfl) rfl (fun _ _ h1 h2 => run_load1 ag_3 (h1.ev rfl) (CellsAt.drop (rdF ef_TRect hp0_0 hx2342 h2) 3) rfl) ?_
       refine Tr.val (wg rfl rfl rfl) rfl (fun _ _ h1 h2 => run_lss (h1.ev rfl) (h1.ev rfl)) ?_
       refine Tr.val (wg rfl rfl rfl) rfl (fun _ _ h1 h2 => run_pickT (h1.ev rfl) (h1.ev rfl)) ?_
       obtain rfl := Option.some.inj H
       exact Tr.nil (Tr.fin0 (.cons rfl (.cons rfl (.cons rfl (.cons rfl (.cons rfl (.cons rfl (.cons rfl (.cons rfl (.cons rfl .nil))))))))) .nil)
     ·show Tr _ _ (LF [(0, (.slice Ap0_0 (p0).length cp0_0)), (4, (.int .i64 x193)), (5, (.bool x194)), (6, (.int .i64 x195)), (7, (.int .i64 x196.Y1)), (9, (.bool x224)), (10, (.int .i64 x225)), (29, (.bool false)), (45, (.bool g233))]) (LE []) _
      refine Tr.va rfl (fun _ _ h1 h2 => run_pickF (h1.ev rfl) (h1.ev rfl)) ?_
      obtain rfl := Option.some.inj H
      exact Tr.nil (Tr.fin0 (.cons rfl (.cons rfl (.cons rfl (.cons rfl (.cons rfl (.cons rfl (.cons rfl (.cons rfl .nil)))))))) .nil)
    ·rw [hg237] at hg230
     rw [if_pos rfl] at hg230
     have H := hg230
     obtain rfl := Option.some.inj H
     refine Tr.pass rfl rfl rfl rfl rfl (by decide) ?_
     refine Tr.pass rfl rfl rfl rfl rfl (by decide) ?_
     refine Tr.pass rfl rfl rfl rfl rfl (by decide) ?_
     refine Tr.pass rfl rfl rfl rfl rfl (by decide) ?_
     refine Tr.pass rfl rfl rfl rfl rfl (by decide) ?_
     refine Tr.pass rfl rfl rfl rfl rfl (by decide) ?_
     refine Tr.pass rfl rfl rfl rfl rfl (by decide) ?_
     refine Tr.pass rfl rfl rfl rfl rfl (by decide) ?_
     refine Tr.passU rfl rfl rfl rfl (by decide) ?_
     refine Tr.passU rfl rfl rfl rfl (by decide) ?_
     refine Tr.passU rfl rfl rfl rfl (by decide) ?_
     refine Tr.passU rfl rfl rfl rfl (by decide) ?_
     refine Tr.passU rfl rfl rfl rfl (by decide) ?_
     refine Tr.passU rfl rfl rfl rfl (by decide) ?_
     refine Tr.passU rfl rfl rfl rfl (by decide) ?_
     refine Tr.pass rfl rfl rfl rfl rfl (by decide) ?_
     refine Tr.va rfl (fun _ _ h1 h2 => run_pickT (h1.ev rfl) (h1.ev rfl)) ?_
     exact Tr.nil (Tr.fin0 (.cons rfl (.cons rfl (.cons rfl (.cons rfl (.cons rfl (.cons rfl (.cons rfl (.cons rfl .nil)))))))) .nil)
   ·show Tr _ _ (LF [(0, (.slice Ap0_0 (p0).length cp0_0)), (4, (.int .i64 x193)), (5, (.bool x194)), (6, (.int .i64 x195)), (7, (.int .i64 x196.Y1)), (9, (.bool x224)), (10, (.int .i64 x225)), (46, (.bool g230))]) (LE []) _
    refine Tr.asg rfl rfl ?_
    refine Tr.nil (Tr.normThen ?_)
    refine Tr.region ?_
    refine Tr.mv rfl rfl ?_
    refine Tr.mv rfl rfl ?_
    obtain ⟨g236, hg236, H⟩ := bnd H
    refine Tr.mid0 8 [(0, (.slice Ap0_0 (p0).length cp0_0)), (4, (.int .i64 x193)), (5, (.bool x194)), (6, (.int .i64 x195)), (7, (.int .i64 x196.Y1)), (8, (.bool g230)), (10, (.int .i64 x225)), (56, (.bool g236))] [] ?_ ?_
    ·cases hg237 : x224
     ·rw [hg237] at hg236
      rw [if_neg (by decide)] at hg236
      have H := hg236
      refine Tr.val (wg rfl rfl rfl) rfl (fun _ _ h1 h2 => run_move (h1.ev rfl)) ?_
      refine Tr.val (wg rfl rfl rfl) rfl (fun _ _ h1 h2 => run_move (h1.ev rfl)) ?_
      obtain ⟨x237, hx237, H⟩ := bnd H
      obtain ⟨hx2370, hx2371, hx2372⟩ := idx_some hx237
      refine Tr.val (wg rfl rfl rfl) rfl (fun _ _ h1 h2 => run_indexAddr el_32 (h1.ev rfl) hp0_0.form (h1.ev rfl) hx2370 hx2371) ?_
      refine Tr.val (wg rfl rfl rfl) rfl (fun _ _ h1 h2 => run_fieldAddr fo_38_1 (h1.ev rfl)) ?_
      refine Tr.val (wg rfl rfl rfl) rfl (fun _ _ h1 h2 => run_load1 ag_3 (h1.ev rfl) (CellsAt.drop (rdF ef_TRect hp0_0 hx2372 h2) 1) rfl) ?_
      refine Tr.val (wg rfl rfl rfl) rfl (fun _ _ h1 h2 => run_move (h1.ev rfl)) ?_
      refine Tr.val (wg rfl rfl rfl) rfl (fun _ _ h1 h2 => run_geq (h1.ev rfl) (h1.ev rfl)) ?_
      refine Tr.va rfl (fun _ _ h1 h2 => run_pickF (h1.ev rfl) (h1.ev rfl)) ?_
      obtain rfl := Option.some.inj H
      exact Tr.nil (Tr.fin0 (.cons rfl (.cons rfl (.cons rfl (.cons rfl (.cons rfl (.cons rfl (.cons rfl (.cons rfl .nil)))))))) .nil)
     ·rw [hg237] at hg236
      rw [if_pos rfl] at hg236
      have H := hg236
      obtain rfl := Option.some.inj H
      refine Tr.pass rfl rfl rfl rfl rfl (by decide) ?_
      refine Tr.pass rfl rfl rfl rfl rfl (by decide) ?_
      refine Tr.pass rfl rfl rfl rfl rfl (by decide) ?_
      refine Tr.pass rfl rfl rfl rfl rfl (by decide) ?_
      refine Tr.pass rfl rfl rfl rfl rfl (by decide) ?_
      refine Tr.pass rfl rfl rfl rfl rfl (by decide) ?_
      refine Tr.pass rfl rfl rfl rfl rfl (by decide) ?_
      refine Tr.va rfl (fun _ _ h1 h2 => run_pickT (h1.ev rfl) (h1.ev rfl)) ?_
      exact Tr.nil (Tr.fin0 (.cons rfl (.cons rfl (.cons rfl (.cons rfl (.cons rfl (.cons rfl (.cons rfl (.cons rfl .nil)))))))) .nil)
    ·show Tr _ _ (LF [(0, (.slice Ap0_0 (p0).length cp0_0)), (4, (.int .i64 x193)), (5, (.bool x194)), (6, (.int .i64 x195)), (7, (.int .i64 x196.Y1)), (8, (.bool g230)), (10, (.int .i64 x225)), (56, (.bool g236))]) (LE []) _
     refine Tr.asg rfl rfl ?_
     refine Tr.nil (Tr.normBlock (Tr.normThen ?_))
     refine Tr.region ?_
     refine Tr.mv rfl rfl ?_
     refine Tr.va rfl (fun _ _ h1 h2 => run_add (h1.ev rfl) (h1.ev rfl)) ?_
     refine Tr.asg rfl rfl ?_
     refine Tr.nil ?_
     exact Tr.backThen leF_etchhouseref9_place_L4 (g230, g236, (w64 (x225 + 1))) H (.cons rfl (.cons rfl (.cons rfl (.cons rfl (.cons rfl (.cons rfl (.cons rfl (.cons rfl .nil)))))))) .nil
  ·refine Tr.exit (Tr.exitThen (Tr.exitThen (Tr.exitBlock (Tr.normThen ?_))))
   refine Tr.sr ?_
   refine Tr.mv rfl rfl ?_
   refine Tr.va rfl (fun _ _ h1 h2 => run_not (h1.ev rfl)) ?_
   refine Tr.mv rfl rfl ?_
   refine Tr.mid0 2 [(0, (.slice Ap0_0 (p0).length cp0_0)), (4, (.int .i64 x193)), (5, (.bool x194)), (6, (.int .i64 x195)), (7, (.int .i64 x196.Y1)), (61, (.bool ((!x223) && x224)))] [] ?_ ?_
   ·cases hg237 : (!x223)
    ·refine Tr.pass rfl rfl rfl rfl rfl (by decide) ?_
     refine Tr.va rfl (fun _ _ h1 h2 => run_pickF (h1.ev rfl) (h1.ev rfl)) ?_
     exact Tr.nil (Tr.fin0 (.cons rfl (.cons rfl (.cons rfl (.cons rfl (.cons rfl (.cons rfl .nil)))))) .nil)
    ·refine Tr.val (wg rfl rfl rfl) rfl (fun _ _ h1 h2 => run_move (h1.ev rfl)) ?_
     refine Tr.va rfl (fun _ _ h1 h2 => run_pickT (h1.ev rfl) (h1.ev rfl)) ?_
     exact Tr.nil (Tr.fin0 (.cons rfl (.cons rfl (.cons rfl (.cons rfl (.cons rfl (.cons rfl .nil)))))) .nil)
   ·show Tr _ _ (LF [(0, (.slice Ap0_0 (p0).length cp0_0)), (4, (.int .i64 x193)), (5, (.bool x194)), (6, (.int .i64 x195)), (7, (.int .i64 x196.Y1)), (61, (.bool ((!x223) && x224)))]) (LE []) _
    refine Tr.mv rfl rfl ?_
    refine Tr.mid0 8 [(0, (.slice Ap0_0 (p0).length cp0_0)), (4, (.int .i64 x193)), (5, (.bool x194)), (6, (.int .i64 x195)), (7, (.int .i64 x196.Y1)), (70, (.bool (((!x223) && x224) && ((!x194) || (decide (x196.Y1 < x193))))))] [] ?_ ?_
    ·cases hg237 : ((!x223) && x224)
     ·refine Tr.pass rfl rfl rfl rfl rfl (by decide) ?_
      refine Tr.pass rfl rfl rfl rfl rfl (by decide) ?_
      refine Tr.pass rfl rfl rfl rfl rfl (by decide) ?_
      refine Tr.passU rfl rfl rfl rfl (by decide) ?_
      refine Tr.passU rfl rfl rfl rfl (by decide) ?_
      refine Tr.passU rfl rfl rfl rfl (by decide) ?_
      refine Tr.pass rfl rfl rfl rfl rfl (by decide) ?_
      refine Tr.va rfl (fun _ _ h1 h2 => run_pickF (h1.ev rfl) (h1.ev rfl)) ?_
      exact Tr.nil (Tr.fin0 (.cons rfl (.cons rfl (.cons rfl (.cons rfl (.cons rfl (.cons rfl .nil)))))) .nil)
     ·refine Tr.val (wg rfl rfl rfl) rfl (fun _ _ h1 h2 => run_move (h1.ev rfl)) ?_
      refine Tr.val (wg rfl rfl rfl) rfl (fun _ _ h1 h2 => run_not (h1.ev rfl)) ?_
      refine Tr.val (wg rfl rfl rfl) rfl (fun _ _ h1 h2 => run_move (h1.ev rfl)) ?_
      refine Tr.mid0 4 [(0, (.slice Ap0_0 (p0).length cp0_0)), (4, (.int .i64 x193)), (5, (.bool x194)), (6, (.int .i64 x195)), (7, (.int .i64 x196.Y1)), (62, (.bool true)), (69, (.bool ((!x194) || (decide (x196.Y1 < x193)))))] [] ?_ ?_
      ·cases hg237 : (!x194)
       ·refine Tr.val (wg rfl rfl rfl) rfl (fun _ _ h1 h2 => run_move (h1.ev rfl)) ?_
        refine Tr.val (wg rfl rfl rfl) rfl (fun _ _ h1 h2 => run_move (h1.ev rfl)) ?_
        refine Tr.val (wg rfl rfl rfl) rfl (fun _ _ h1 h2 => run_lss (h1.ev rfl) (h1.ev rfl)) ?_
        refine Tr.val (wg rfl rfl rfl) rfl (fun _ _ h1 h2 => run_pickF (h1.ev rfl) (h1.ev rfl)) ?_
        exact Tr.nil (Tr.fin0 (.cons rfl (.cons rfl (.cons rfl (.cons rfl (.cons rfl (.cons rfl (.cons rfl .nil))))))) .nil)
       ·refine Tr.pass rfl rfl rfl rfl rfl (by decide) ?_
        refine Tr.pass rfl rfl rfl rfl rfl (by decide) ?_
        refine Tr.pass rfl rfl rfl rfl rfl (by decide) ?_
        refine Tr.val (wg rfl rfl rfl) rfl (fun _ _ h1 h2 => run_pickT (h1.ev rfl) (h1.ev rfl)) ?_
        exact Tr.nil (Tr.fin0 (.cons rfl (.cons rfl (.cons rfl (.cons rfl (.cons rfl (.cons rfl (.cons rfl .nil))))))) .nil)
      ·show Tr _ _ (LF [(0, (.slice Ap0_0 (p0).length cp0_0)), (4, (.int .i64 x193)), (5, (.bool x194)), (6, (.int .i64 x195)), (7, (.int .i64 x196.Y1)), (62, (.bool true)), (69, (.bool ((!x194) || (decide (x196.Y1 < x193)))))]) (LE []) _
       refine Tr.va rfl (fun _ _ h1 h2 => run_pickT (h1.ev rfl) (h1.ev rfl)) ?_
       exact Tr.nil (Tr.fin0 (.cons rfl (.cons rfl (.cons rfl (.cons rfl (.cons rfl (.cons rfl .nil)))))) .nil)
    ·show Tr _ _ (LF [(0, (.slice Ap0_0 (p0).length cp0_0)), (4, (.int .i64 x193)), (5, (.bool x194)), (6, (.int .i64 x195)), (7, (.int .i64 x196.Y1)), (70, (.bool (((!x223) && x224) && ((!x194) || (decide (x196.Y1 < x193))))))]) (LE []) _
     refine Tr.nil (Tr.normThen ?_)
     refine Tr.cond rfl H (fun H => ?_) (fun H => ?_)
     ·refine Tr.region ?_
      refine Tr.mv rfl rfl ?_
      refine Tr.asg rfl rfl ?_
      refine Tr.asg rfl rfl ?_
      refine Tr.nil (Tr.normBlock (Tr.normThen ?_))
      refine Tr.region ?_
      refine Tr.mv rfl rfl ?_
      refine Tr.va rfl (fun _ _ h1 h2 => run_add (h1.ev rfl) (h1.ev rfl)) ?_
      refine Tr.asg rfl rfl ?_
      refine Tr.nil ?_
      exact Tr.backThen leF_etchhouseref9_place_L3 (x196.Y1, true, (w64 (x195 + 1))) H (.cons rfl (.cons rfl (.cons rfl (.cons rfl .nil)))) .nil
     ·refine Tr.skip (Tr.normBlock (Tr.normThen ?_))
      refine Tr.region ?_
      refine Tr.mv rfl rfl ?_
      refine Tr.va rfl (fun _ _ h1 h2 => run_add (h1.ev rfl) (h1.ev rfl)) ?_
      refine Tr.asg rfl rfl ?_
      refine Tr.nil ?_
      exact Tr.backThen leF_etchhouseref9_place_L3 (x193, x194, (w64 (x195 + 1))) H (.cons rfl (.cons rfl (.cons rfl (.cons rfl .nil)))) .nil
 ·refine Tr.exit (Tr.exitThen (Tr.exitThen (Tr.exitBlock (Tr.normThen ?_))))
  refine Tr.sr ?_
  refine Tr.mv rfl rfl ?_
  refine Tr.mv rfl rfl ?_
  refine Tr.asg rfl rfl ?_
  refine Tr.asg rfl rfl ?_
  refine Tr.nil (Tr.normThen ?_)
  refine Tr.ret ?_
  obtain rfl := Option.some.inj H
  exact Tr.out (m := [(.int .i64 x193), (.bool x194)]) [] (res_tmp rfl (res_tmp rfl res_nil)) (fun W hW => ⟨rfl, hW.low leB⟩)

theorem F_etchhouseref9_turned_ok {w : Bs} (p0 : TRect) (r : TRect) (H : F_etchhouseref9_turned p0 = some r) (hE : HF w w.W E0) : Calls Try.prog 35 [(.agg #[(.int .i64 p0.X0), (.int .i64 p0.Y0), (.int .i64 p0.X1), (.int .i64 p0.Y1)])].toArray w.W fun e W' => e = .returned (.agg #[(.int .i64 r.X0), (.int .i64 r.Y0), (.int .i64 r.X1), (.int .i64 r.Y1)]) ∧ HF w W' E0 := by
 unfold F_etchhouseref9_turned at H
 have leB := Bs.Le.refl w
 refine Tr.enter (n := 12) Try.func35 rfl rfl rfl hE ?_
 refine Tr.sr ?_
 refine Tr.box 1 (cs := [(.int .i64 p0.X0), (.int .i64 p0.Y0), (.int .i64 p0.X1), (.int .i64 p0.Y1)]) (wn rfl) rfl rfl rfl fun b100 => ?_
 refine Tr.alloc 2 (wn rfl) rfl ze_38 fun b101 => ?_
 refine Tr.nil (Tr.normThen ?_)
 refine Tr.sr ?_
 refine Tr.va rfl (fun _ _ h1 h2 => run_fieldAddr fo_38_1 (h1.ev rfl)) ?_
 refine Tr.va rfl (fun _ _ h1 h2 => run_load1 ag_3 (h1.ev rfl) (rdb h2 (vs := [(.int .i64 p0.X0), (.int .i64 p0.Y0), (.int .i64 p0.X1), (.int .i64 p0.Y1)]) (k := 1) rfl 1) rfl) ?_
 refine Tr.va rfl (fun _ _ h1 h2 => run_fieldAddr fo_38_0 (h1.ev rfl)) ?_
 refine Tr.va rfl (fun _ _ h1 h2 => run_load1 ag_3 (h1.ev rfl) (rdb h2 (vs := [(.int .i64 p0.X0), (.int .i64 p0.Y0), (.int .i64 p0.X1), (.int .i64 p0.Y1)]) (k := 1) rfl 0) rfl) ?_
 refine Tr.va rfl (fun _ _ h1 h2 => run_fieldAddr fo_38_3 (h1.ev rfl)) ?_
 refine Tr.va rfl (fun _ _ h1 h2 => run_load1 ag_3 (h1.ev rfl) (rdb h2 (vs := [(.int .i64 p0.X0), (.int .i64 p0.Y0), (.int .i64 p0.X1), (.int .i64 p0.Y1)]) (k := 1) rfl 3) rfl) ?_
 refine Tr.va rfl (fun _ _ h1 h2 => run_fieldAddr fo_38_2 (h1.ev rfl)) ?_
 refine Tr.va rfl (fun _ _ h1 h2 => run_load1 ag_3 (h1.ev rfl) (rdb h2 (vs := [(.int .i64 p0.X0), (.int .i64 p0.Y0), (.int .i64 p0.X1), (.int .i64 p0.Y1)]) (k := 1) rfl 2) rfl) ?_
 refine Tr.build (vs := [(0, (.int .i64 p0.Y0)), (1, (.int .i64 p0.X0)), (2, (.int .i64 p0.Y1)), (3, (.int .i64 p0.X1))]) (cs := [(.int .i64 p0.Y0), (.int .i64 p0.X0), (.int .i64 p0.Y1), (.int .i64 p0.X1)]) (wn rfl) rfl (evs_cons rfl (evs_cons rfl (evs_cons rfl (evs_cons rfl evs_nil)))) (by kernel_rfl) ?_
 refine Tr.store 2 (cs := [(.int .i64 p0.Y0), (.int .i64 p0.X0), (.int .i64 p0.Y1), (.int .i64 p0.X1)]) [(.int .i64 p0.Y0), (.int .i64 p0.X0), (.int .i64 p0.Y1), (.int .i64 p0.X1)] (wn rfl) rfl rfl rfl rfl sz_38 rfl rfl rfl ?_
 refine Tr.nil (Tr.normThen ?_)
 refine Tr.ret ?_
 obtain rfl := Option.some.inj H
 exact Tr.out (m := [(.agg #[(.int .i64 p0.Y0), (.int .i64 p0.X0), (.int .i64 p0.Y1), (.int .i64 p0.X1)])]) [2] (res_cell rfl rfl ag_38 sz_38 res_nil) (fun W hW => ⟨rfl, hW.low leB⟩)

end Go.Proofs.Ytfddmjoldoddlaa
