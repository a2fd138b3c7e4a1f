/- The walks: each function computes its plain function. -/
import Derived.Test.YtfddmjoldoddlaaXWb
namespace Go.Proofs.Ytfddmjoldoddlaa
open Go.RowKit
set_option maxRecDepth 100000
set_option maxHeartbeats 1000000
theorem F_etchhouseref9_cut_b_ok (N : Nat) (rec : TRect → (List TRect) → Option ((List TCut) × Bool)) (hrec : ∀ {w : Bs} (p0 : TRect) (p1 : (List TRect)) (Ap1_0 : Option Addr) (cp1_0 : Nat) (hp1_0 : Sl w.R w.W fl_TRect Ap1_0 cp1_0 p1) (r : ((List TCut) × Bool)) (H : rec p0 p1 = some r) (hE : HF w w.W (LEn [emp])), Calls Try.prog 33 [(.agg #[(.int .i64 p0.X0), (.int .i64 p0.Y0), (.int .i64 p0.X1), (.int .i64 p0.Y1)]), (.slice Ap1_0 (p1).length cp1_0)].toArray w.W fun e W' => ∃ u : (Option Addr × Nat), e = .returned (.tuple #[(.slice u.1 (r.1).length u.2), (.bool r.2)]) ∧ (SlF u.1 (r.1).length u.2) ∧ HF w W' (LEn [ow u.1 u.2 40 fl_TCut r.1])) {w : Bs} (p0 : TRect) (p1 : (List TRect)) (Ap1_0 : Option Addr) (cp1_0 : Nat) (hp1_0 : Sl w.R w.W fl_TRect Ap1_0 cp1_0 p1) (r : ((List TCut) × Bool)) (H : F_etchhouseref9_cut_b N rec p0 p1 = some r) (hE : HF w w.W (LEn [emp])) : Calls Try.prog 33 [(.agg #[(.int .i64 p0.X0), (.int .i64 p0.Y0), (.int .i64 p0.X1), (.int .i64 p0.Y1)]), (.slice Ap1_0 (p1).length cp1_0)].toArray w.W fun e W' => ∃ u : (Option Addr × Nat), e = .returned (.tuple #[(.slice u.1 (r.1).length u.2), (.bool r.2)]) ∧ (SlF u.1 (r.1).length u.2) ∧ HF w W' (LEn [ow u.1 u.2 40 fl_TCut r.1]) := by
 unfold F_etchhouseref9_cut_b at H
 have leB := Bs.Le.refl w
 refine Tr.enter (n := 138) Try.func33 rfl rfl rfl hE ?_
 refine Tr.sr ?_
 refine Tr.box 1 (cs := [(.int .i64 p0.X0), (.int .i64 p0.Y0), (.int .i64 p0.X1), (.int .i64 p0.Y1)]) (wn rfl) rfl rfl rfl fun b100 => ?_
 refine Tr.asg rfl rfl ?_
 refine Tr.nilOwn 2 40 fl_TCut ?_
 show Tr _ _ (uf _ 4 (.slice none (([] : List TCut)).length 0)) _ _
 refine Tr.asg rfl rfl ?_
 refine Tr.nil (Tr.normThen ?_)
 refine Tr.seq ?_
 refine Tr.sr ?_
 refine Tr.mv rfl rfl ?_
 refine Tr.va rfl (fun _ _ h1 h2 => run_len un_32 (h1.ev rfl)) ?_
 refine Tr.va rfl (fun _ _ h1 h2 => run_lss (h1.ev rfl) (h1.ev rfl)) ?_
 refine Tr.nil (Tr.normThen ?_)
 refine Tr.cond rfl H (fun H => ?_) (fun H => ?_)
 ·refine Tr.sr ?_
  refine Tr.asg rfl rfl ?_
  refine Tr.nilOwn 3 40 fl_TCut ?_
  show Tr _ _ (uf _ 4 (.slice none (([] : List TCut)).length 0)) _ _
  refine Tr.asg rfl rfl ?_
  refine Tr.nil (Tr.normThen ?_)
  refine Tr.ret (Tr.retThen ?_)
  obtain rfl := Option.some.inj H
  exact Tr.out (m := [(.slice none (([] : List TCut)).length 0), (.bool true)]) [] (res_tmp rfl (res_tmp rfl res_nil)) (fun W hW => ⟨(none, 0), rfl, slf_nil, HF.lowE leB (hW.pick (ks := [3]) (by decide) (pk_cons rfl pk_nil)) ⟨ow_any _ _ _ _ tr_TCut, trivial⟩⟩)
 ·refine Tr.skip (Tr.normThen ?_)
  refine Tr.sr ?_
  refine Tr.mv rfl rfl ?_
  obtain ⟨y101, hy101, H⟩ := bnd H
  refine Tr.call0 (r := (.tuple #[(.int .i64 y101.1), (.bool y101.2)])) (wn rfl) rfl Try.call62 (evl_cons rfl evl_nil) (fun W hW => F_etchhouseref9_place_ok N p1 Ap1_0 cp1_0 (hp1_0.ext hW.extAll) y101 hy101 (HF.start _)) ?_
  refine Tr.mv rfl rfl ?_
  refine Tr.va rfl (fun _ _ h1 h2 => run_extract (h1.ev rfl) rfl) ?_
  refine Tr.va rfl (fun _ _ h1 h2 => run_extract (h1.ev rfl) rfl) ?_
  refine Tr.asg rfl rfl ?_
  refine Tr.asg rfl rfl ?_
  refine Tr.nil (Tr.normThen ?_)
  refine Tr.seq ?_
  refine Tr.drawC 5 [] [4] (by kernel_rfl) (by kernel_rfl) fun sz102 hlosz102 hEsz102 => ?_
  refine Dr.quiet 0 [(30, (.agg #[(.int .i64 p0.X0), (.int .i64 p0.Y0), (.int .i64 p0.X1), (.int .i64 p0.Y1)]))] (by kernel_rfl) rfl rfl (by kernel_rfl) ?_ rfl rfl ?_
  ·refine Tq.va rfl (fun _ _ h1 h2 => run_loadN (cs := [(.int .i64 p0.X0), (.int .i64 p0.Y0), (.int .i64 p0.X1), (.int .i64 p0.Y1)]) ag_38 sz_38 (h1.ev rfl) (CellsAt.take (rdb h2 (vs := [(.int .i64 p0.X0), (.int .i64 p0.Y0), (.int .i64 p0.X1), (.int .i64 p0.Y1)]) (k := 1) rfl 0) 4) rfl) ?_
   exact Tq.fin (.cons rfl .nil)
  refine Dr.quietZ 1 [(31, (.agg #[(.int .i64 p0.X0), (.int .i64 p0.Y0), (.int .i64 p0.X1), (.int .i64 p0.Y1)]))] [] true (by kernel_rfl) rfl rfl (by kernel_rfl) (fun W W' h2 hsW hk => HF.keepZ (le := [(1, bx b100 #[(.int .i64 p0.X0), (.int .i64 p0.Y0), (.int .i64 p0.X1), (.int .i64 p0.Y1)] 38)]) (ks := []) (s0 := sz102) true h2 hk (fun _ => hlosz102) (.cons rfl .nil) (fun b hb => hb.elim (fun ⟨_, hp, _⟩ => nomatch hp) (fun hb => .inr ⟨rfl, hb.2, (List.forall_mem_cons.2 ⟨fun b hb => hEsz102 1 b hb, (fun _ h => nomatch h)⟩)⟩)) (fun _ h => nomatch h) rfl) ?_ rfl rfl ?_
  ·refine Tq.va rfl (fun _ _ h1 h2 => run_loadN (cs := [(.int .i64 p0.X0), (.int .i64 p0.Y0), (.int .i64 p0.X1), (.int .i64 p0.Y1)]) ag_38 sz_38 (h1.ev rfl) (CellsAt.take (rdb h2 (vs := [(.int .i64 p0.X0), (.int .i64 p0.Y0), (.int .i64 p0.X1), (.int .i64 p0.Y1)]) (k := 1) rfl 0) 4) rfl) ?_
   exact Tq.fin (.cons rfl .nil)
  refine Dr.cut (U := Nat × Nat) [2, 3] 1 (fun u => sz102 ≤ u.1 ∧ sz102 ≤ u.2) (fun u => [(0, (.agg #[(.int .i64 p0.X0), (.int .i64 p0.Y0), (.int .i64 p0.X1), (.int .i64 p0.Y1)])), (1, (.slice Ap1_0 (p1).length cp1_0)), (2, (.pointer (some ⟨b100, 0, none⟩))), (4, (.slice none (([] : List TCut)).length 0)), (5, (.bool false)), (6, (.int .i64 y101.1)), (7, (.bool y101.2)), (8, (.pointer (some ⟨u.1, 0, none⟩))), (9, (.pointer (some ⟨u.2, 0, none⟩))), (22, (.slice Ap1_0 (p1).length cp1_0)), (23, (.int .i64 (p1.length : Int))), (24, (.bool (decide ((p1.length : Int) < 2)))), (25, (.tuple #[(.int .i64 y101.1), (.bool y101.2)])), (26, (.slice Ap1_0 (p1).length cp1_0)), (27, (.tuple #[(.int .i64 y101.1), (.bool y101.2)])), (28, (.int .i64 y101.1)), (29, (.bool y101.2)), (30, (.agg #[(.int .i64 p0.X0), (.int .i64 p0.Y0), (.int .i64 p0.X1), (.int .i64 p0.Y1)])), (31, (.agg #[(.int .i64 p0.X0), (.int .i64 p0.Y0), (.int .i64 p0.X1), (.int .i64 p0.Y1)]))]) (fun u => [(1, bx b100 #[(.int .i64 p0.X0), (.int .i64 p0.Y0), (.int .i64 p0.X1), (.int .i64 p0.Y1)] 38), (2, ow none 0 40 fl_TCut ([] : List TCut)), (4, bx u.1 #[(.int .i64 0), (.int .i64 0), (.int .i64 0), (.int .i64 0)] 38), (5, bx u.2 #[(.int .i64 0), (.int .i64 0), (.int .i64 0), (.int .i64 0)] 38)]) ?_ ?_
  ·intro hC
   refine Dr.pair 2 3 (by kernel_rfl) ?_ ?_
   ·refine St.alloc 2 4 rfl (wn rfl) rfl ze_38 fun b103 hb103 => ?_
    refine Dr.one 3 (by kernel_rfl) ?_
    refine St.alloc 3 5 rfl (wn rfl) rfl ze_38 fun b104 hb104 => ?_
    exact (hC ⟨b103, b104⟩ ⟨hb103, hb104⟩).use (by kernel_rfl) (.cons rfl (.cons rfl (.cons rfl (.cons rfl (.cons rfl (.cons rfl (.cons rfl (.cons rfl (.cons rfl (.cons rfl (.cons rfl (.cons rfl (.cons rfl (.cons rfl (.cons rfl (.cons rfl (.cons rfl (.cons rfl (.cons rfl .nil))))))))))))))))))) (.cons rfl (.cons rfl (.cons rfl (.cons rfl .nil))))
   ·refine St.alloc 3 5 rfl (wn rfl) rfl ze_38 fun b104 hb104 => ?_
    refine Dr.one 2 (by kernel_rfl) ?_
    refine St.alloc 2 4 rfl (wn rfl) rfl ze_38 fun b103 hb103 => ?_
    exact (hC ⟨b103, b104⟩ ⟨hb103, hb104⟩).use (by kernel_rfl) (.cons rfl (.cons rfl (.cons rfl (.cons rfl (.cons rfl (.cons rfl (.cons rfl (.cons rfl (.cons rfl (.cons rfl (.cons rfl (.cons rfl (.cons rfl (.cons rfl (.cons rfl (.cons rfl (.cons rfl (.cons rfl (.cons rfl .nil))))))))))))))))))) (.cons rfl (.cons rfl (.cons rfl (.cons rfl .nil))))
  intro u hu
  obtain ⟨b103, b104⟩ := u
  obtain ⟨hb103, hb104⟩ := hu
  replace hb103 : sz102 ≤ b103 := hb103
  replace hb104 : sz102 ≤ b104 := hb104
  show Dr _ _ _ _ _ _ _ _ _ (LF [(0, (.agg #[(.int .i64 p0.X0), (.int .i64 p0.Y0), (.int .i64 p0.X1), (.int .i64 p0.Y1)])), (1, (.slice Ap1_0 (p1).length cp1_0)), (2, (.pointer (some ⟨b100, 0, none⟩))), (4, (.slice none (([] : List TCut)).length 0)), (5, (.bool false)), (6, (.int .i64 y101.1)), (7, (.bool y101.2)), (8, (.pointer (some ⟨b103, 0, none⟩))), (9, (.pointer (some ⟨b104, 0, none⟩))), (22, (.slice Ap1_0 (p1).length cp1_0)), (23, (.int .i64 (p1.length : Int))), (24, (.bool (decide ((p1.length : Int) < 2)))), (25, (.tuple #[(.int .i64 y101.1), (.bool y101.2)])), (26, (.slice Ap1_0 (p1).length cp1_0)), (27, (.tuple #[(.int .i64 y101.1), (.bool y101.2)])), (28, (.int .i64 y101.1)), (29, (.bool y101.2)), (30, (.agg #[(.int .i64 p0.X0), (.int .i64 p0.Y0), (.int .i64 p0.X1), (.int .i64 p0.Y1)])), (31, (.agg #[(.int .i64 p0.X0), (.int .i64 p0.Y0), (.int .i64 p0.X1), (.int .i64 p0.Y1)]))]) (LE [(1, bx b100 #[(.int .i64 p0.X0), (.int .i64 p0.Y0), (.int .i64 p0.X1), (.int .i64 p0.Y1)] 38), (2, ow none 0 40 fl_TCut ([] : List TCut)), (4, bx b103 #[(.int .i64 0), (.int .i64 0), (.int .i64 0), (.int .i64 0)] 38), (5, bx b104 #[(.int .i64 0), (.int .i64 0), (.int .i64 0), (.int .i64 0)] 38)])
  refine Dr.one 4 (by kernel_rfl) ?_
  refine St.store 4 4 (cs := [(.int .i64 p0.X0), (.int .i64 p0.Y0), (.int .i64 p0.X1), (.int .i64 p0.Y1)]) [(.int .i64 p0.X0), (.int .i64 p0.Y0), (.int .i64 p0.X1), (.int .i64 p0.Y1)] rfl (wn rfl) (.inr ⟨by simp, hb103⟩) rfl rfl rfl rfl sz_38 rfl rfl rfl ?_
  refine Dr.tail (by kernel_rfl) ?_
  refine Tr.store 5 (cs := [(.int .i64 p0.X0), (.int .i64 p0.Y0), (.int .i64 p0.X1), (.int .i64 p0.Y1)]) [(.int .i64 p0.X0), (.int .i64 p0.Y0), (.int .i64 p0.X1), (.int .i64 p0.Y1)] (wn rfl) rfl rfl rfl rfl sz_38 rfl rfl rfl ?_
  refine Tr.nil (Tr.normThen ?_)
  refine Tr.sr ?_
  refine Tr.mv rfl rfl ?_
  refine Tr.mv rfl rfl ?_
  refine Tr.va rfl (fun _ _ h1 h2 => run_fieldAddr fo_38_3 (h1.ev rfl)) ?_
  refine Tr.store 4 (cs := [(.int .i64 y101.1)]) [(.int .i64 p0.X0), (.int .i64 p0.Y0), (.int .i64 p0.X1), (.int .i64 y101.1)] (wn rfl) rfl rfl rfl rfl sz_3 rfl rfl rfl ?_
  refine Tr.va rfl (fun _ _ h1 h2 => run_fieldAddr fo_38_1 (h1.ev rfl)) ?_
  refine Tr.store 5 (cs := [(.int .i64 y101.1)]) [(.int .i64 p0.X0), (.int .i64 y101.1), (.int .i64 p0.X1), (.int .i64 p0.Y1)] (wn rfl) rfl rfl rfl rfl sz_3 rfl rfl rfl ?_
  refine Tr.nil (Tr.normThen ?_)
  have leJ132 := Bs.Le.refl w
  refine Tr.cutJ (σ := Int × Int × Int × Int × Int) (fun w s => F_etchhouseref9_cut_J3 N p0 p1 rec y101 s.1 s.2.1 s.2.2.1 s.2.2.2.1 s.2.2.2.2 = some r) (fun s => [(1, (.slice Ap1_0 (p1).length cp1_0)), (2, (.pointer (some ⟨b100, 0, none⟩))), (6, (.int .i64 s.2.2.2.2)), (7, (.bool y101.2)), (8, (.pointer (some ⟨b103, 0, none⟩))), (9, (.pointer (some ⟨b104, 0, none⟩)))]) (fun s => [(1, bx b100 #[(.int .i64 p0.X0), (.int .i64 p0.Y0), (.int .i64 p0.X1), (.int .i64 p0.Y1)] 38), (4, bx b103 #[(.int .i64 p0.X0), (.int .i64 p0.Y0), (.int .i64 s.1), (.int .i64 s.2.1)] 38), (5, bx b104 #[(.int .i64 s.2.2.1), (.int .i64 s.2.2.2.1), (.int .i64 p0.X1), (.int .i64 p0.Y1)] 38)]) ?_ ?_
  ·refine Tr.sr ?_
   refine Tr.mv rfl rfl ?_
   refine Tr.va rfl (fun _ _ h1 h2 => run_not (h1.ev rfl)) ?_
   refine Tr.nil (Tr.normThen ?_)
   refine Tr.cond rfl H (fun H => ?_) (fun H => ?_)
   ·refine Tr.sr ?_
    refine Tr.asg rfl rfl ?_
    refine Tr.nilOwn 23 38 fl_TRect ?_
    show Tr _ _ (uf _ 10 (.slice none (([] : List TRect)).length 0)) _ _
    refine Tr.nil (Tr.normThen ?_)
    refine Tr.seq ?_
    refine Tr.sr ?_
    refine Tr.asg rfl rfl ?_
    refine Tr.nil (Tr.normThen ?_)
    refine Tr.block ?_
    refine Tr.loop (σ := (List TRect) × Int × (Option Addr) × Nat) (fun m w s => F_etchhouseref9_cut_L4 N p0 p1 rec y101 m s.1 s.2.1 = some r ∧ SlF s.2.2.1 (s.1).length s.2.2.2) (fun s => [(1, (.slice Ap1_0 (p1).length cp1_0)), (2, (.pointer (some ⟨b100, 0, none⟩))), (7, (.bool y101.2)), (8, (.pointer (some ⟨b103, 0, none⟩))), (9, (.pointer (some ⟨b104, 0, none⟩))), (10, (.slice s.2.2.1 (s.1).length s.2.2.2)), (11, (.int .i64 s.2.1))]) (fun s => [(1, bx b100 #[(.int .i64 p0.X0), (.int .i64 p0.Y0), (.int .i64 p0.X1), (.int .i64 p0.Y1)] 38), (4, bx b103 #[(.int .i64 p0.X0), (.int .i64 p0.Y0), (.int .i64 p0.X1), (.int .i64 y101.1)] 38), (5, bx b104 #[(.int .i64 p0.X0), (.int .i64 y101.1), (.int .i64 p0.X1), (.int .i64 p0.Y1)] 38), (23, ow s.2.2.1 s.2.2.2 38 fl_TRect s.1)]) N (([] : List TRect), 0, none, 0) ⟨H, slf_nil⟩ (.cons rfl (.cons rfl (.cons rfl (.cons rfl (.cons rfl (.cons rfl (.cons rfl .nil))))))) (.cons rfl (.cons rfl (.cons rfl (.cons rfl .nil)))) (fun _ _ h => noSome (h.1)) ?_
    intro w leF_etchhouseref9_cut_L4 mF_etchhouseref9_cut_L4 s hs
    obtain ⟨l215, x216, Al215, cl215⟩ := s
    obtain ⟨H, hl215⟩ := hs
    replace H : F_etchhouseref9_cut_L4 N p0 p1 rec y101 (mF_etchhouseref9_cut_L4 + 1) l215 x216 = some r := H
    replace hp1_0 := hp1_0.leR leF_etchhouseref9_cut_L4
    replace leB := leB.trans leF_etchhouseref9_cut_L4
    replace leJ132 := leJ132.trans leF_etchhouseref9_cut_L4
    replace hl215 : SlF Al215 (l215).length cl215 := hl215
    rw [F_etchhouseref9_cut_L4.eq_2] at H
    show Tr _ _ (LF [(1, (.slice Ap1_0 (p1).length cp1_0)), (2, (.pointer (some ⟨b100, 0, none⟩))), (7, (.bool y101.2)), (8, (.pointer (some ⟨b103, 0, none⟩))), (9, (.pointer (some ⟨b104, 0, none⟩))), (10, (.slice Al215 (l215).length cl215)), (11, (.int .i64 x216))]) (LE [(1, bx b100 #[(.int .i64 p0.X0), (.int .i64 p0.Y0), (.int .i64 p0.X1), (.int .i64 p0.Y1)] 38), (4, bx b103 #[(.int .i64 p0.X0), (.int .i64 p0.Y0), (.int .i64 p0.X1), (.int .i64 y101.1)] 38), (5, bx b104 #[(.int .i64 p0.X0), (.int .i64 y101.1), (.int .i64 p0.X1), (.int .i64 p0.Y1)] 38), (23, ow Al215 cl215 38 fl_TRect l215)]) _
    refine Tr.seq ?_
    refine Tr.sr ?_
    refine Tr.mv rfl rfl ?_
    refine Tr.mv rfl rfl ?_
    refine Tr.va rfl (fun _ _ h1 h2 => run_len un_32 (h1.ev rfl)) ?_
    refine Tr.va rfl (fun _ _ h1 h2 => run_lss (h1.ev rfl) (h1.ev rfl)) ?_
    refine Tr.nil (Tr.normThen ?_)
    refine Tr.cond rfl H (fun H => ?_) (fun H => ?_)
    ·refine Tr.skip (Tr.normThen ?_)
     refine Tr.seq ?_
     refine Tr.block ?_
     refine Tr.region ?_
     refine Tr.mv rfl rfl ?_
     refine Tr.mv rfl rfl ?_
     refine Tr.mv rfl rfl ?_
     obtain ⟨x217, hx217, H⟩ := bnd H
     obtain ⟨hx2170, hx2171, hx2172⟩ := idx_some hx217
     refine Tr.va rfl (fun _ _ h1 h2 => run_indexAddr el_32 (h1.ev rfl) hp1_0.form (h1.ev rfl) hx2170 hx2171) ?_
     refine Tr.va rfl (fun _ _ h1 h2 => run_loadN (cs := [(.int .i64 x217.X0), (.int .i64 x217.Y0), (.int .i64 x217.X1), (.int .i64 x217.Y1)]) ag_38 sz_38 (h1.ev rfl) (CellsAt.take (rdF ef_TRect hp1_0 hx2172 h2) 4) rfl) ?_
     obtain ⟨y218, hy218, H⟩ := bnd H
     refine Tr.call0 (r := (.agg #[(.int .i64 y218.X0), (.int .i64 y218.Y0), (.int .i64 y218.X1), (.int .i64 y218.Y1)])) (wn rfl) rfl Try.call35 (evl_cons rfl evl_nil) (fun W hW => F_etchhouseref9_turned_ok x217 y218 hy218 (HF.start _)) ?_
     refine Tr.buildSlice 26 (e := 38) (vs := [(0, (.agg #[(.int .i64 y218.X0), (.int .i64 y218.Y0), (.int .i64 y218.X1), (.int .i64 y218.Y1)]))]) (cs := [(.int .i64 y218.X0), (.int .i64 y218.Y0), (.int .i64 y218.X1), (.int .i64 y218.Y1)]) (wn rfl) rfl (evs_cons rfl evs_nil) (by kernel_rfl) fun b219 => ?_
     obtain ⟨l220, hl220, H⟩ := bnd H
     refine Tr.append 23 (t := fl_TRect) (l := l215) (l2 := [y218]) (wn rfl) rfl rfl rfl rfl (fun W hW => ⟨[[(.int .i64 y218.X0), (.int .i64 y218.Y0), (.int .i64 y218.X1), (.int .i64 y218.Y1)]], (.cons ⟨(), trivial, rfl⟩ .nil), rdb hW (vs := [(.int .i64 y218.X0), (.int .i64 y218.Y0), (.int .i64 y218.X1), (.int .i64 y218.Y1)]) (k := 26) rfl 0⟩) un_32 sz_38 zl_38 (by decide) by_38 rfl hl220 fun Al220 cl220 hAl220 => ?_
     refine Tr.asg rfl rfl ?_
     refine Tr.nil (Tr.normBlock (Tr.normThen ?_))
     refine Tr.region ?_
     refine Tr.mv rfl rfl ?_
     refine Tr.va rfl (fun _ _ h1 h2 => run_add (h1.ev rfl) (h1.ev rfl)) ?_
     refine Tr.asg rfl rfl ?_
     refine Tr.nil ?_
     exact Tr.backThen leF_etchhouseref9_cut_L4 (l220, (w64 (x216 + 1)), Al220, cl220) ⟨H, hAl220⟩ (.cons rfl (.cons rfl (.cons rfl (.cons rfl (.cons rfl (.cons rfl (.cons rfl .nil))))))) (.cons rfl (.cons rfl (.cons rfl (.cons rfl .nil))))
    ·refine Tr.exit (Tr.exitThen (Tr.exitThen (Tr.exitBlock (Tr.normThen ?_))))
     refine Tr.sr ?_
     refine Tr.mv rfl rfl ?_
     obtain ⟨y221, hy221, H⟩ := bnd H
     refine Tr.call0 (r := (.tuple #[(.int .i64 y221.1), (.bool y221.2)])) (wn rfl) rfl Try.call62 (evl_cons rfl evl_nil) (fun W hW => F_etchhouseref9_place_ok N l215 Al215 cl215 (hW.slCall (k := 23) rfl) y221 hy221 (HF.start _)) ?_
     refine Tr.mv rfl rfl ?_
     refine Tr.va rfl (fun _ _ h1 h2 => run_extract (h1.ev rfl) rfl) ?_
     refine Tr.va rfl (fun _ _ h1 h2 => run_extract (h1.ev rfl) rfl) ?_
     refine Tr.asg rfl rfl ?_
     refine Tr.asg rfl rfl ?_
     refine Tr.nil (Tr.normThen ?_)
     refine Tr.seq ?_
     refine Tr.sr ?_
     refine Tr.mv rfl rfl ?_
     refine Tr.va rfl (fun _ _ h1 h2 => run_not (h1.ev rfl)) ?_
     refine Tr.nil (Tr.normThen ?_)
     refine Tr.cond rfl H (fun H => ?_) (fun H => ?_)
     ·refine Tr.sr ?_
      refine Tr.asg rfl rfl ?_
      refine Tr.nilOwn 27 40 fl_TCut ?_
      show Tr _ _ (uf _ 4 (.slice none (([] : List TCut)).length 0)) _ _
      refine Tr.asg rfl rfl ?_
      refine Tr.nil (Tr.normThen ?_)
      refine Tr.ret (Tr.retThen (Tr.retThen ?_))
      obtain rfl := Option.some.inj H
      exact Tr.out (m := [(.slice none (([] : List TCut)).length 0), (.bool false)]) [] (res_tmp rfl (res_tmp rfl res_nil)) (fun W hW => ⟨(none, 0), rfl, slf_nil, HF.lowE leB (hW.pick (ks := [27]) (by decide) (pk_cons rfl pk_nil)) ⟨ow_any _ _ _ _ tr_TCut, trivial⟩⟩)
     ·refine Tr.skip (Tr.normThen ?_)
      refine Tr.sr ?_
      refine Tr.mv rfl rfl ?_
      refine Tr.asg rfl rfl ?_
      refine Tr.nil (Tr.normThen ?_)
      refine Tr.seq ?_
      refine Tr.drawC 3 [(2, fun x => x = b103)] [] (by kernel_rfl) (by kernel_rfl) fun sz222 hlosz222 hEsz222 => ?_
      refine Dr.quiet 0 [(60, (.agg #[(.int .i64 p0.X0), (.int .i64 p0.Y0), (.int .i64 p0.X1), (.int .i64 p0.Y1)]))] (by kernel_rfl) rfl rfl (by kernel_rfl) ?_ rfl rfl ?_
      ·refine Tq.va rfl (fun _ _ h1 h2 => run_loadN (cs := [(.int .i64 p0.X0), (.int .i64 p0.Y0), (.int .i64 p0.X1), (.int .i64 p0.Y1)]) ag_38 sz_38 (h1.ev rfl) (CellsAt.take (rdb h2 (vs := [(.int .i64 p0.X0), (.int .i64 p0.Y0), (.int .i64 p0.X1), (.int .i64 p0.Y1)]) (k := 1) rfl 0) 4) rfl) ?_
       exact Tq.fin (.cons rfl .nil)
      refine Dr.quietZ 1 [(61, (.agg #[(.int .i64 p0.X0), (.int .i64 p0.Y0), (.int .i64 p0.X1), (.int .i64 p0.Y1)]))] [2] false (by kernel_rfl) rfl rfl (by kernel_rfl) (fun W W' h2 hsW hk => HF.keepZ (le := [(1, bx b100 #[(.int .i64 p0.X0), (.int .i64 p0.Y0), (.int .i64 p0.X1), (.int .i64 p0.Y1)] 38)]) (ks := [(4, fun x => x = b103)]) (s0 := sz222) false h2 hk (fun h => absurd h (by decide)) (.cons rfl .nil) (fun b hb => hb.elim (fun ⟨p, hp, hf, hb⟩ => by simp only [List.mem_cons, List.not_mem_nil, or_false] at hp; rcases hp with rfl; exact .inl ⟨_, List.mem_cons_self, hb⟩) (fun hb => absurd hb.1 (by decide))) (List.forall_mem_cons.2 ⟨fun b hb => hb, (fun _ h => nomatch h)⟩) rfl) ?_ rfl rfl ?_
      ·refine Tq.va rfl (fun _ _ h1 h2 => run_loadN (cs := [(.int .i64 p0.X0), (.int .i64 p0.Y0), (.int .i64 p0.X1), (.int .i64 p0.Y1)]) ag_38 sz_38 (h1.ev rfl) (CellsAt.take (rdb h2 (vs := [(.int .i64 p0.X0), (.int .i64 p0.Y0), (.int .i64 p0.X1), (.int .i64 p0.Y1)]) (k := 1) rfl 0) 4) rfl) ?_
       exact Tq.fin (.cons rfl .nil)
      refine Dr.one 2 (by kernel_rfl) ?_
      refine St.store 2 4 (cs := [(.int .i64 p0.X0), (.int .i64 p0.Y0), (.int .i64 p0.X1), (.int .i64 p0.Y1)]) [(.int .i64 p0.X0), (.int .i64 p0.Y0), (.int .i64 p0.X1), (.int .i64 p0.Y1)] rfl (wn rfl) (.inl ⟨_, List.mem_cons_self, rfl, rfl⟩) rfl rfl rfl rfl sz_38 rfl rfl rfl ?_
      refine Dr.tail (by kernel_rfl) ?_
      refine Tr.store 5 (cs := [(.int .i64 p0.X0), (.int .i64 p0.Y0), (.int .i64 p0.X1), (.int .i64 p0.Y1)]) [(.int .i64 p0.X0), (.int .i64 p0.Y0), (.int .i64 p0.X1), (.int .i64 p0.Y1)] (wn rfl) rfl rfl rfl rfl sz_38 rfl rfl rfl ?_
      refine Tr.nil (Tr.normThen ?_)
      refine Tr.region ?_
      refine Tr.mv rfl rfl ?_
      refine Tr.mv rfl rfl ?_
      refine Tr.va rfl (fun _ _ h1 h2 => run_fieldAddr fo_38_2 (h1.ev rfl)) ?_
      refine Tr.store 4 (cs := [(.int .i64 y221.1)]) [(.int .i64 p0.X0), (.int .i64 p0.Y0), (.int .i64 y221.1), (.int .i64 p0.Y1)] (wn rfl) rfl rfl rfl rfl sz_3 rfl rfl rfl ?_
      refine Tr.va rfl (fun _ _ h1 h2 => run_fieldAddr fo_38_0 (h1.ev rfl)) ?_
      refine Tr.store 5 (cs := [(.int .i64 y221.1)]) [(.int .i64 y221.1), (.int .i64 p0.Y0), (.int .i64 p0.X1), (.int .i64 p0.Y1)] (wn rfl) rfl rfl rfl rfl sz_3 rfl rfl rfl ?_
      refine Tr.nil ?_
      exact Tr.backThen leJ132 (y221.1, p0.Y1, y221.1, p0.Y0, y221.1) H (.cons rfl (.cons rfl (.cons rfl (.cons rfl (.cons rfl (.cons rfl .nil)))))) (.cons rfl (.cons rfl (.cons rfl .nil)))
   ·refine Tr.skip ?_
    exact Tr.backThen leJ132 (p0.X1, y101.1, p0.X0, y101.1, y101.1) H (.cons rfl (.cons rfl (.cons rfl (.cons rfl (.cons rfl (.cons rfl .nil)))))) (.cons rfl (.cons rfl (.cons rfl .nil)))
  ·intro w s hlJ133 hs
   obtain ⟨x127, x128, x129, x130, x131⟩ := s
   have H := hs
   replace H : F_etchhouseref9_cut_J3 N p0 p1 rec y101 x127 x128 x129 x130 x131 = some r := H
   replace hp1_0 := hp1_0.leR hlJ133
   replace leB := leB.trans hlJ133
   unfold F_etchhouseref9_cut_J3 at H
   show Tr _ _ (LF [(1, (.slice Ap1_0 (p1).length cp1_0)), (2, (.pointer (some ⟨b100, 0, none⟩))), (6, (.int .i64 x131)), (7, (.bool y101.2)), (8, (.pointer (some ⟨b103, 0, none⟩))), (9, (.pointer (some ⟨b104, 0, none⟩)))]) (LE [(1, bx b100 #[(.int .i64 p0.X0), (.int .i64 p0.Y0), (.int .i64 p0.X1), (.int .i64 p0.Y1)] 38), (4, bx b103 #[(.int .i64 p0.X0), (.int .i64 p0.Y0), (.int .i64 x127), (.int .i64 x128)] 38), (5, bx b104 #[(.int .i64 x129), (.int .i64 x130), (.int .i64 p0.X1), (.int .i64 p0.Y1)] 38)]) _
   refine Tr.sr ?_
   refine Tr.asg rfl rfl ?_
   refine Tr.nilOwn 11 38 fl_TRect ?_
   show Tr _ _ (uf _ 14 (.slice none (([] : List TRect)).length 0)) _ _
   refine Tr.asg rfl rfl ?_
   refine Tr.nilOwn 12 38 fl_TRect ?_
   show Tr _ _ (uf _ 15 (.slice none (([] : List TRect)).length 0)) _ _
   refine Tr.nil (Tr.normThen ?_)
   refine Tr.seq ?_
   refine Tr.sr ?_
   refine Tr.asg rfl rfl ?_
   refine Tr.nil (Tr.normThen ?_)
   refine Tr.block ?_
   refine Tr.loop (σ := (List TRect) × (List TRect) × Int × (Option Addr) × Nat × (Option Addr) × Nat) (fun m w s => F_etchhouseref9_cut_L2 p0 p1 rec y101 x127 x128 x129 x130 x131 m s.1 s.2.1 s.2.2.1 = some r ∧ SlF s.2.2.2.1 (s.1).length s.2.2.2.2.1 ∧ SlF s.2.2.2.2.2.1 (s.2.1).length s.2.2.2.2.2.2) (fun s => [(1, (.slice Ap1_0 (p1).length cp1_0)), (2, (.pointer (some ⟨b100, 0, none⟩))), (6, (.int .i64 x131)), (7, (.bool y101.2)), (8, (.pointer (some ⟨b103, 0, none⟩))), (9, (.pointer (some ⟨b104, 0, none⟩))), (14, (.slice s.2.2.2.1 (s.1).length s.2.2.2.2.1)), (15, (.slice s.2.2.2.2.2.1 (s.2.1).length s.2.2.2.2.2.2)), (16, (.int .i64 s.2.2.1))]) (fun s => [(1, bx b100 #[(.int .i64 p0.X0), (.int .i64 p0.Y0), (.int .i64 p0.X1), (.int .i64 p0.Y1)] 38), (4, bx b103 #[(.int .i64 p0.X0), (.int .i64 p0.Y0), (.int .i64 x127), (.int .i64 x128)] 38), (5, bx b104 #[(.int .i64 x129), (.int .i64 x130), (.int .i64 p0.X1), (.int .i64 p0.Y1)] 38), (11, ow s.2.2.2.1 s.2.2.2.2.1 38 fl_TRect s.1), (12, ow s.2.2.2.2.2.1 s.2.2.2.2.2.2 38 fl_TRect s.2.1)]) N (([] : List TRect), ([] : List TRect), 0, none, 0, none, 0) ⟨H, slf_nil, slf_nil⟩ (.cons rfl (.cons rfl (.cons rfl (.cons rfl (.cons rfl (.cons rfl (.cons rfl (.cons rfl (.cons rfl .nil))))))))) (.cons rfl (.cons rfl (.cons rfl (.cons rfl (.cons rfl .nil))))) (fun _ _ h => noSome (h.1)) ?_
   intro w leF_etchhouseref9_cut_L2 mF_etchhouseref9_cut_L2 s hs
   obtain ⟨l175, l176, x177, Al175, cl175, Al176, cl176⟩ := s
   obtain ⟨H, hl175, hl176⟩ := hs
   replace H : F_etchhouseref9_cut_L2 p0 p1 rec y101 x127 x128 x129 x130 x131 (mF_etchhouseref9_cut_L2 + 1) l175 l176 x177 = some r := H
   replace hp1_0 := hp1_0.leR leF_etchhouseref9_cut_L2
   replace leB := leB.trans leF_etchhouseref9_cut_L2
   replace hl175 : SlF Al175 (l175).length cl175 := hl175
   replace hl176 : SlF Al176 (l176).length cl176 := hl176
   rw [F_etchhouseref9_cut_L2.eq_2] at H
   show Tr _ _ (LF [(1, (.slice Ap1_0 (p1).length cp1_0)), (2, (.pointer (some ⟨b100, 0, none⟩))), (6, (.int .i64 x131)), (7, (.bool y101.2)), (8, (.pointer (some ⟨b103, 0, none⟩))), (9, (.pointer (some ⟨b104, 0, none⟩))), (14, (.slice Al175 (l175).length cl175)), (15, (.slice Al176 (l176).length cl176)), (16, (.int .i64 x177))]) (LE [(1, bx b100 #[(.int .i64 p0.X0), (.int .i64 p0.Y0), (.int .i64 p0.X1), (.int .i64 p0.Y1)] 38), (4, bx b103 #[(.int .i64 p0.X0), (.int .i64 p0.Y0), (.int .i64 x127), (.int .i64 x128)] 38), (5, bx b104 #[(.int .i64 x129), (.int .i64 x130), (.int .i64 p0.X1), (.int .i64 p0.Y1)] 38), (11, ow Al175 cl175 38 fl_TRect l175), (12, ow Al176 cl176 38 fl_TRect l176)]) _
   refine Tr.seq ?_
   refine Tr.sr ?_
   refine Tr.mv rfl rfl ?_
   refine Tr.mv rfl rfl ?_
   refine Tr.va rfl (fun _ _ h1 h2 => run_len un_32 (h1.ev rfl)) ?_
   refine Tr.va rfl (fun _ _ h1 h2 => run_lss (h1.ev rfl) (h1.ev rfl)) ?_
   refine Tr.nil (Tr.normThen ?_)
   refine Tr.cond rfl H (fun H => ?_) (fun H => ?_)
   ·refine Tr.skip (Tr.normThen ?_)
    refine Tr.seq ?_
    refine Tr.block ?_
    refine Tr.sr ?_
    refine Tr.mv rfl rfl ?_
    refine Tr.mv rfl rfl ?_
    obtain ⟨g179, hg179, H⟩ := bnd H
    refine Tr.mid0 8 [(1, (.slice Ap1_0 (p1).length cp1_0)), (2, (.pointer (some ⟨b100, 0, none⟩))), (6, (.int .i64 x131)), (7, (.bool y101.2)), (8, (.pointer (some ⟨b103, 0, none⟩))), (9, (.pointer (some ⟨b104, 0, none⟩))), (14, (.slice Al175 (l175).length cl175)), (15, (.slice Al176 (l176).length cl176)), (16, (.int .i64 x177)), (81, (.bool g179))] [(1, bx b100 #[(.int .i64 p0.X0), (.int .i64 p0.Y0), (.int .i64 p0.X1), (.int .i64 p0.Y1)] 38), (4, bx b103 #[(.int .i64 p0.X0), (.int .i64 p0.Y0), (.int .i64 x127), (.int .i64 x128)] 38), (5, bx b104 #[(.int .i64 x129), (.int .i64 x130), (.int .i64 p0.X1), (.int .i64 p0.Y1)] 38), (11, ow Al175 cl175 38 fl_TRect l175), (12, ow Al176 cl176 38 fl_TRect l176)] ?_ ?_
    ·cases hg193 : y101.2
     ·rw [hg193] at hg179
      rw [if_neg (by decide)] at hg179
      have H := hg179
      obtain rfl := Option.some.inj H
      refine Tr.pass rfl rfl rfl rfl rfl (by decide) ?_
      refine Tr.pass rfl rfl rfl rfl rfl (by decide) ?_
      refine Tr.pass rfl rfl rfl rfl rfl (by decide) ?_
      refine Tr.pass rfl rfl rfl rfl rfl (by decide) ?_
      refine Tr.pass rfl rfl rfl rfl rfl (by decide) ?_
      refine Tr.pass rfl rfl rfl rfl rfl (by decide) ?_
      refine Tr.pass rfl rfl rfl rfl rfl (by decide) ?_
      refine Tr.va rfl (fun _ _ h1 h2 => run_pickF (h1.ev rfl) (h1.ev rfl)) ?_
      exact Tr.nil (Tr.fin0 (.cons rfl (.cons rfl (.cons rfl (.cons rfl (.cons rfl (.cons rfl (.cons rfl (.cons rfl (.cons rfl (.cons rfl .nil)))))))))) (.cons rfl (.cons rfl (.cons rfl (.cons rfl (.cons rfl .nil))))))
     ·rw [hg193] at hg179
      rw [if_pos rfl] at hg179
      have H := hg179
      refine Tr.val (wg rfl rfl rfl) rfl (fun _ _ h1 h2 => run_move (h1.ev rfl)) ?_
      refine Tr.val (wg rfl rfl rfl) rfl (fun _ _ h1 h2 => run_move (h1.ev rfl)) ?_
      obtain ⟨x180, hx180, H⟩ := bnd H
      obtain ⟨hx1800, hx1801, hx1802⟩ := idx_some hx180
      refine Tr.val (wg rfl rfl rfl) rfl (fun _ _ h1 h2 => run_indexAddr el_32 (h1.ev rfl) hp1_0.form (h1.ev rfl) hx1800 hx1801) ?_
      refine Tr.val (wg rfl rfl rfl) rfl (fun _ _ h1 h2 => run_fieldAddr fo_38_3 (h1.ev rfl)) ?_
      refine Tr.val (wg rfl rfl rfl) rfl (fun _ _ h1 h2 => run_load1 ag_3 (h1.ev rfl) (CellsAt.drop (rdF ef_TRect hp1_0 hx1802 h2) 3) rfl) ?_
      refine Tr.val (wg rfl rfl rfl) rfl (fun _ _ h1 h2 => run_move (h1.ev rfl)) ?_
      refine Tr.val (wg rfl rfl rfl) rfl (fun _ _ h1 h2 => run_leq (h1.ev rfl) (h1.ev rfl)) ?_
      refine Tr.va rfl (fun _ _ h1 h2 => run_pickT (h1.ev rfl) (h1.ev rfl)) ?_
      obtain rfl := Option.some.inj H
      exact Tr.nil (Tr.fin0 (.cons rfl (.cons rfl (.cons rfl (.cons rfl (.cons rfl (.cons rfl (.cons rfl (.cons rfl (.cons rfl (.cons rfl .nil)))))))))) (.cons rfl (.cons rfl (.cons rfl (.cons rfl (.cons rfl .nil))))))
    ·show Tr _ _ (LF [(1, (.slice Ap1_0 (p1).length cp1_0)), (2, (.pointer (some ⟨b100, 0, none⟩))), (6, (.int .i64 x131)), (7, (.bool y101.2)), (8, (.pointer (some ⟨b103, 0, none⟩))), (9, (.pointer (some ⟨b104, 0, none⟩))), (14, (.slice Al175 (l175).length cl175)), (15, (.slice Al176 (l176).length cl176)), (16, (.int .i64 x177)), (81, (.bool g179))]) (LE [(1, bx b100 #[(.int .i64 p0.X0), (.int .i64 p0.Y0), (.int .i64 p0.X1), (.int .i64 p0.Y1)] 38), (4, bx b103 #[(.int .i64 p0.X0), (.int .i64 p0.Y0), (.int .i64 x127), (.int .i64 x128)] 38), (5, bx b104 #[(.int .i64 x129), (.int .i64 x130), (.int .i64 p0.X1), (.int .i64 p0.Y1)] 38), (11, ow Al175 cl175 38 fl_TRect l175), (12, ow Al176 cl176 38 fl_TRect l176)]) _
     refine Tr.mv rfl rfl ?_
     obtain ⟨g184, hg184, H⟩ := bnd H
     refine Tr.mid0 12 [(1, (.slice Ap1_0 (p1).length cp1_0)), (2, (.pointer (some ⟨b100, 0, none⟩))), (6, (.int .i64 x131)), (7, (.bool y101.2)), (8, (.pointer (some ⟨b103, 0, none⟩))), (9, (.pointer (some ⟨b104, 0, none⟩))), (14, (.slice Al175 (l175).length cl175)), (15, (.slice Al176 (l176).length cl176)), (16, (.int .i64 x177)), (94, (.bool g184))] [(1, bx b100 #[(.int .i64 p0.X0), (.int .i64 p0.Y0), (.int .i64 p0.X1), (.int .i64 p0.Y1)] 38), (4, bx b103 #[(.int .i64 p0.X0), (.int .i64 p0.Y0), (.int .i64 x127), (.int .i64 x128)] 38), (5, bx b104 #[(.int .i64 x129), (.int .i64 x130), (.int .i64 p0.X1), (.int .i64 p0.Y1)] 38), (11, ow Al175 cl175 38 fl_TRect l175), (12, ow Al176 cl176 38 fl_TRect l176)] ?_ ?_
     ·cases hg193 : g179
      ·rw [hg193] at hg184
       rw [if_neg (by decide)] at hg184
       have H := hg184
       refine Tr.val (wg rfl rfl rfl) rfl (fun _ _ h1 h2 => run_move (h1.ev rfl)) ?_
       refine Tr.val (wg rfl rfl rfl) rfl (fun _ _ h1 h2 => run_not (h1.ev rfl)) ?_
       refine Tr.val (wg rfl rfl rfl) rfl (fun _ _ h1 h2 => run_move (h1.ev rfl)) ?_
       obtain ⟨g186, hg186, H⟩ := bnd H
       refine Tr.mid0 8 [(1, (.slice Ap1_0 (p1).length cp1_0)), (2, (.pointer (some ⟨b100, 0, none⟩))), (6, (.int .i64 x131)), (7, (.bool y101.2)), (8, (.pointer (some ⟨b103, 0, none⟩))), (9, (.pointer (some ⟨b104, 0, none⟩))), (14, (.slice Al175 (l175).length cl175)), (15, (.slice Al176 (l176).length cl176)), (16, (.int .i64 x177)), (82, (.bool false)), (93, (.bool g186))] [(1, bx b100 #[(.int .i64 p0.X0), (.int .i64 p0.Y0), (.int .i64 p0.X1), (.int .i64 p0.Y1)] 38), (4, bx b103 #[(.int .i64 p0.X0), (.int .i64 p0.Y0), (.int .i64 x127), (.int .i64 x128)] 38), (5, bx b104 #[(.int .i64 x129), (.int .i64 x130), (.int .i64 p0.X1), (.int .i64 p0.Y1)] 38), (11, ow Al175 cl175 38 fl_TRect l175), (12, ow Al176 cl176 38 fl_TRect l176)] ?_ ?_
       ·cases hg187 : (!y101.2)
        ·rw [hg187] at hg186
         rw [if_neg (by decide)] at hg186
         have H := hg186
         obtain rfl := Option.some.inj H
         refine Tr.pass rfl rfl rfl rfl rfl (by decide) ?_
         refine Tr.pass rfl rfl rfl rfl rfl (by decide) ?_
         refine Tr.pass rfl rfl rfl rfl rfl (by decide) ?_
         refine Tr.pass rfl rfl rfl rfl rfl (by decide) ?_
         refine Tr.pass rfl rfl rfl rfl rfl (by decide) ?_
         refine Tr.pass rfl rfl rfl rfl rfl (by decide) ?_
         refine Tr.pass rfl rfl rfl rfl rfl (by decide) ?_
         refine Tr.val (wg rfl rfl rfl) rfl (fun _ _ h1 h2 => run_pickF (h1.ev rfl) (h1.ev rfl)) ?_
         exact Tr.nil (Tr.fin0 (.cons rfl (.cons rfl (.cons rfl (.cons rfl (.cons rfl (.cons rfl (.cons rfl (.cons rfl (.cons rfl (.cons rfl (.cons rfl .nil))))))))))) (.cons rfl (.cons rfl (.cons rfl (.cons rfl (.cons rfl .nil))))))
        ·rw [hg187] at hg186
         rw [if_pos rfl] at hg186
         have H := hg186
         refine Tr.val (wg rfl rfl rfl) rfl (fun _ _ h1 h2 => run_move (h1.ev rfl)) ?_
         refine Tr.val (wg rfl rfl rfl) rfl (fun _ _ h1 h2 => run_move (h1.ev rfl)) ?_
         obtain ⟨x187, hx187, H⟩ := bnd H
         obtain ⟨hx1870, hx1871, hx1872⟩ := idx_some hx187
         refine Tr.val (wg rfl rfl rfl) rfl (fun _ _ h1 h2 => run_indexAddr el_32 (h1.ev rfl) hp1_0.form (h1.ev rfl) hx1870 hx1871) ?_
         refine Tr.val (wg rfl rfl rfl) rfl (fun _ _ h1 h2 => run_fieldAddr fo_38_2 (h1.ev rfl)) ?_
         refine Tr.val (wg rfl rfl rfl) rfl (fun _ _ h1 h2 => run_load1 ag_3 (h1.ev rfl) (CellsAt.drop (rdF ef_TRect hp1_0 hx1872 h2) 2) rfl) ?_
         refine Tr.val (wg rfl rfl rfl) rfl (fun _ _ h1 h2 => run_move (h1.ev rfl)) ?_
         refine Tr.val (wg rfl rfl rfl) rfl (fun _ _ h1 h2 => run_leq (h1.ev rfl) (h1.ev rfl)) ?_
         refine Tr.val (wg rfl rfl rfl) rfl (fun _ _ h1 h2 => run_pickT (h1.ev rfl) (h1.ev rfl)) ?_
         obtain rfl := Option.some.inj H
         exact Tr.nil (Tr.fin0 (.cons rfl (.cons rfl (.cons rfl (.cons rfl (.cons rfl (.cons rfl (.cons rfl (.cons rfl (.cons rfl (.cons rfl (.cons rfl .nil))))))))))) (.cons rfl (.cons rfl (.cons rfl (.cons rfl (.cons rfl .nil))))))
       ·show Tr _ _ (LF [(1, (.slice Ap1_0 (p1).length cp1_0)), (2, (.pointer (some ⟨b100, 0, none⟩))), (6, (.int .i64 x131)), (7, (.bool y101.2)), (8, (.pointer (some ⟨b103, 0, none⟩))), (9, (.pointer (some ⟨b104, 0, none⟩))), (14, (.slice Al175 (l175).length cl175)), (15, (.slice Al176 (l176).length cl176)), (16, (.int .i64 x177)), (82, (.bool false)), (93, (.bool g186))]) (LE [(1, bx b100 #[(.int .i64 p0.X0), (.int .i64 p0.Y0), (.int .i64 p0.X1), (.int .i64 p0.Y1)] 38), (4, bx b103 #[(.int .i64 p0.X0), (.int .i64 p0.Y0), (.int .i64 x127), (.int .i64 x128)] 38), (5, bx b104 #[(.int .i64 x129), (.int .i64 x130), (.int .i64 p0.X1), (.int .i64 p0.Y1)] 38), (11, ow Al175 cl175 38 fl_TRect l175), (12, ow Al176 cl176 38 fl_TRect l176)]) _
        refine Tr.va rfl (fun _ _ h1 h2 => run_pickF (h1.ev rfl) (h1.ev rfl)) ?_
        obtain rfl := Option.some.inj H
        exact Tr.nil (Tr.fin0 (.cons rfl (.cons rfl (.cons rfl (.cons rfl (.cons rfl (.cons rfl (.cons rfl (.cons rfl (.cons rfl (.cons rfl .nil)))))))))) (.cons rfl (.cons rfl (.cons rfl (.cons rfl (.cons rfl .nil))))))
      ·rw [hg193] at hg184
       rw [if_pos rfl] at hg184
       have H := hg184
       obtain rfl := Option.some.inj H
       refine Tr.pass rfl rfl rfl rfl rfl (by decide) ?_
       refine Tr.pass rfl rfl rfl rfl rfl (by decide) ?_
       refine Tr.pass rfl rfl rfl rfl rfl (by decide) ?_
       refine Tr.passU rfl rfl rfl rfl (by decide) ?_
       refine Tr.passU rfl rfl rfl rfl (by decide) ?_
       refine Tr.passU rfl rfl rfl rfl (by decide) ?_
       refine Tr.passU rfl rfl rfl rfl (by decide) ?_
       refine Tr.passU rfl rfl rfl rfl (by decide) ?_
       refine Tr.passU rfl rfl rfl rfl (by decide) ?_
       refine Tr.passU rfl rfl rfl rfl (by decide) ?_
       refine Tr.pass rfl rfl rfl rfl rfl (by decide) ?_
       refine Tr.va rfl (fun _ _ h1 h2 => run_pickT (h1.ev rfl) (h1.ev rfl)) ?_
       exact Tr.nil (Tr.fin0 (.cons rfl (.cons rfl (.cons rfl (.cons rfl (.cons rfl (.cons rfl (.cons rfl (.cons rfl (.cons rfl (.cons rfl .nil)))))))))) (.cons rfl (.cons rfl (.cons rfl (.cons rfl (.cons rfl .nil))))))
     ·show Tr _ _ (LF [(1, (.slice Ap1_0 (p1).length cp1_0)), (2, (.pointer (some ⟨b100, 0, none⟩))), (6, (.int .i64 x131)), (7, (.bool y101.2)), (8, (.pointer (some ⟨b103, 0, none⟩))), (9, (.pointer (some ⟨b104, 0, none⟩))), (14, (.slice Al175 (l175).length cl175)), (15, (.slice Al176 (l176).length cl176)), (16, (.int .i64 x177)), (94, (.bool g184))]) (LE [(1, bx b100 #[(.int .i64 p0.X0), (.int .i64 p0.Y0), (.int .i64 p0.X1), (.int .i64 p0.Y1)] 38), (4, bx b103 #[(.int .i64 p0.X0), (.int .i64 p0.Y0), (.int .i64 x127), (.int .i64 x128)] 38), (5, bx b104 #[(.int .i64 x129), (.int .i64 x130), (.int .i64 p0.X1), (.int .i64 p0.Y1)] 38), (11, ow Al175 cl175 38 fl_TRect l175), (12, ow Al176 cl176 38 fl_TRect l176)]) _
      refine Tr.nil (Tr.normThen ?_)
      refine Tr.cond rfl H (fun H => ?_) (fun H => ?_)
      ·refine Tr.region ?_
       refine Tr.mv rfl rfl ?_
       refine Tr.mv rfl rfl ?_
       refine Tr.mv rfl rfl ?_
       obtain ⟨x188, hx188, H⟩ := bnd H
       obtain ⟨hx1880, hx1881, hx1882⟩ := idx_some hx188
       refine Tr.va rfl (fun _ _ h1 h2 => run_indexAddr el_32 (h1.ev rfl) hp1_0.form (h1.ev rfl) hx1880 hx1881) ?_
       refine Tr.va rfl (fun _ _ h1 h2 => run_loadN (cs := [(.int .i64 x188.X0), (.int .i64 x188.Y0), (.int .i64 x188.X1), (.int .i64 x188.Y1)]) ag_38 sz_38 (h1.ev rfl) (CellsAt.take (rdF ef_TRect hp1_0 hx1882 h2) 4) rfl) ?_
       refine Tr.buildSlice 17 (e := 38) (vs := [(0, (.agg #[(.int .i64 x188.X0), (.int .i64 x188.Y0), (.int .i64 x188.X1), (.int .i64 x188.Y1)]))]) (cs := [(.int .i64 x188.X0), (.int .i64 x188.Y0), (.int .i64 x188.X1), (.int .i64 x188.Y1)]) (wn rfl) rfl (evs_cons rfl evs_nil) (by kernel_rfl) fun b189 => ?_
       obtain ⟨l190, hl190, H⟩ := bnd H
       refine Tr.append 11 (t := fl_TRect) (l := l175) (l2 := [x188]) (wn rfl) rfl rfl rfl rfl (fun W hW => ⟨[[(.int .i64 x188.X0), (.int .i64 x188.Y0), (.int .i64 x188.X1), (.int .i64 x188.Y1)]], (.cons ⟨(), trivial, rfl⟩ .nil), rdb hW (vs := [(.int .i64 x188.X0), (.int .i64 x188.Y0), (.int .i64 x188.X1), (.int .i64 x188.Y1)]) (k := 17) rfl 0⟩) un_32 sz_38 zl_38 (by decide) by_38 rfl hl190 fun Al190 cl190 hAl190 => ?_
       refine Tr.asg rfl rfl ?_
       refine Tr.nil (Tr.normBlock (Tr.normThen ?_))
       refine Tr.region ?_
       refine Tr.mv rfl rfl ?_
       refine Tr.va rfl (fun _ _ h1 h2 => run_add (h1.ev rfl) (h1.ev rfl)) ?_
       refine Tr.asg rfl rfl ?_
       refine Tr.nil ?_
       exact Tr.backThen leF_etchhouseref9_cut_L2 (l190, l176, (w64 (x177 + 1)), Al190, cl190, Al176, cl176) ⟨H, hAl190, hl176⟩ (.cons rfl (.cons rfl (.cons rfl (.cons rfl (.cons rfl (.cons rfl (.cons rfl (.cons rfl (.cons rfl .nil))))))))) (.cons rfl (.cons rfl (.cons rfl (.cons rfl (.cons rfl .nil)))))
      ·refine Tr.region ?_
       refine Tr.mv rfl rfl ?_
       refine Tr.mv rfl rfl ?_
       refine Tr.mv rfl rfl ?_
       obtain ⟨x191, hx191, H⟩ := bnd H
       obtain ⟨hx1910, hx1911, hx1912⟩ := idx_some hx191
       refine Tr.va rfl (fun _ _ h1 h2 => run_indexAddr el_32 (h1.ev rfl) hp1_0.form (h1.ev rfl) hx1910 hx1911) ?_
       refine Tr.va rfl (fun _ _ h1 h2 => run_loadN (cs := [(.int .i64 x191.X0), (.int .i64 x191.Y0), (.int .i64 x191.X1), (.int .i64 x191.Y1)]) ag_38 sz_38 (h1.ev rfl) (CellsAt.take (rdF ef_TRect hp1_0 hx1912 h2) 4) rfl) ?_
       refine Tr.buildSlice 18 (e := 38) (vs := [(0, (.agg #[(.int .i64 x191.X0), (.int .i64 x191.Y0), (.int .i64 x191.X1), (.int .i64 x191.Y1)]))]) (cs := [(.int .i64 x191.X0), (.int .i64 x191.Y0), (.int .i64 x191.X1), (.int .i64 x191.Y1)]) (wn rfl) rfl (evs_cons rfl evs_nil) (by kernel_rfl) fun b192 => ?_
       obtain ⟨l193, hl193, H⟩ := bnd H
       refine Tr.append 12 (t := fl_TRect) (l := l176) (l2 := [x191]) (wn rfl) rfl rfl rfl rfl (fun W hW => ⟨[[(.int .i64 x191.X0), (.int .i64 x191.Y0), (.int .i64 x191.X1), (.int .i64 x191.Y1)]], (.cons ⟨(), trivial, rfl⟩ .nil), rdb hW (vs := [(.int .i64 x191.X0), (.int .i64 x191.Y0), (.int .i64 x191.X1), (.int .i64 x191.Y1)]) (k := 18) rfl 0⟩) un_32 sz_38 zl_38 (by decide) by_38 rfl hl193 fun Al193 cl193 hAl193 => ?_
       refine Tr.asg rfl rfl ?_
       refine Tr.nil (Tr.normBlock (Tr.normThen ?_))
       refine Tr.region ?_
       refine Tr.mv rfl rfl ?_
       refine Tr.va rfl (fun _ _ h1 h2 => run_add (h1.ev rfl) (h1.ev rfl)) ?_
       refine Tr.asg rfl rfl ?_
       refine Tr.nil ?_
       exact Tr.backThen leF_etchhouseref9_cut_L2 (l175, l193, (w64 (x177 + 1)), Al175, cl175, Al193, cl193) ⟨H, hl175, hAl193⟩ (.cons rfl (.cons rfl (.cons rfl (.cons rfl (.cons rfl (.cons rfl (.cons rfl (.cons rfl (.cons rfl .nil))))))))) (.cons rfl (.cons rfl (.cons rfl (.cons rfl (.cons rfl .nil)))))
   ·refine Tr.exit (Tr.exitThen (Tr.exitThen (Tr.exitBlock (Tr.normThen ?_))))
    refine Tr.sr ?_
    refine Tr.va rfl (fun _ _ h1 h2 => run_loadN (cs := [(.int .i64 p0.X0), (.int .i64 p0.Y0), (.int .i64 x127), (.int .i64 x128)]) ag_38 sz_38 (h1.ev rfl) (CellsAt.take (rdb h2 (vs := [(.int .i64 p0.X0), (.int .i64 p0.Y0), (.int .i64 x127), (.int .i64 x128)]) (k := 4) rfl 0) 4) rfl) ?_
    refine Tr.mv rfl rfl ?_
    obtain ⟨y194, hy194, H⟩ := bnd H
    refine Tr.callM [19] [emp] (U := (Option Addr × Nat)) (fun u => (.tuple #[(.slice u.1 (y194.1).length u.2), (.bool y194.2)])) (fun u => SlF u.1 (y194.1).length u.2) (fun u => [ow u.1 u.2 40 fl_TCut y194.1]) rfl (pk_cons rfl pk_nil) (fun _ => rfl) (wn rfl) rfl Try.call33 (evl_cons rfl (evl_cons rfl evl_nil)) (fun W hW hp hE => hrec (TRect.mk p0.X0 p0.Y0 x127 x128) l175 Al175 cl175 (hW.slS (k := 11) rfl hp rfl) y194 hy194 hE) ?_
    intro u hu
    obtain ⟨Ay194_0, cy194_0⟩ := u
    have gy194_0 := hu
    have hgy194_0 : SlF Ay194_0 (y194.1).length cy194_0 := gy194_0 --@phi
    show Tr _ _ (uf _ 112 (.tuple #[(.slice Ay194_0 (y194.1).length cy194_0), (.bool y194.2)])) (up _ 19 (ow Ay194_0 cy194_0 40 fl_TCut y194.1)) _
    refine Tr.mv rfl rfl ?_
    refine Tr.va rfl (fun _ _ h1 h2 => run_extract (h1.ev rfl) rfl) ?_
    refine Tr.va rfl (fun _ _ h1 h2 => run_extract (h1.ev rfl) rfl) ?_
    refine Tr.asg rfl rfl ?_
    refine Tr.asg rfl rfl ?_
    refine Tr.nil (Tr.normThen ?_)
    refine Tr.sr ?_
    refine Tr.va rfl (fun _ _ h1 h2 => run_loadN (cs := [(.int .i64 x129), (.int .i64 x130), (.int .i64 p0.X1), (.int .i64 p0.Y1)]) ag_38 sz_38 (h1.ev rfl) (CellsAt.take (rdb h2 (vs := [(.int .i64 x129), (.int .i64 x130), (.int .i64 p0.X1), (.int .i64 p0.Y1)]) (k := 5) rfl 0) 4) rfl) ?_
    refine Tr.mv rfl rfl ?_
    obtain ⟨y196, hy196, H⟩ := bnd H
    refine Tr.callM [20] [emp] (U := (Option Addr × Nat)) (fun u => (.tuple #[(.slice u.1 (y196.1).length u.2), (.bool y196.2)])) (fun u => SlF u.1 (y196.1).length u.2) (fun u => [ow u.1 u.2 40 fl_TCut y196.1]) rfl (pk_cons rfl pk_nil) (fun _ => rfl) (wn rfl) rfl Try.call33 (evl_cons rfl (evl_cons rfl evl_nil)) (fun W hW hp hE => hrec (TRect.mk x129 x130 p0.X1 p0.Y1) l176 Al176 cl176 (hW.slS (k := 12) rfl hp rfl) y196 hy196 hE) ?_
    intro u hu
    obtain ⟨Ay196_0, cy196_0⟩ := u
    have gy196_0 := hu
    have hgy196_0 : SlF Ay196_0 (y196.1).length cy196_0 := gy196_0 --@phi
    show Tr _ _ (uf _ 118 (.tuple #[(.slice Ay196_0 (y196.1).length cy196_0), (.bool y196.2)])) (up _ 20 (ow Ay196_0 cy196_0 40 fl_TCut y196.1)) _
    refine Tr.mv rfl rfl ?_
    refine Tr.va rfl (fun _ _ h1 h2 => run_extract (h1.ev rfl) rfl) ?_
    refine Tr.va rfl (fun _ _ h1 h2 => run_extract (h1.ev rfl) rfl) ?_
    refine Tr.asg rfl rfl ?_
    refine Tr.asg rfl rfl ?_
    refine Tr.nil (Tr.normThen ?_)
    refine Tr.seq ?_
    refine Tr.sr ?_
    refine Tr.mv rfl rfl ?_
    refine Tr.va rfl (fun _ _ h1 h2 => run_not (h1.ev rfl)) ?_
    refine Tr.mv rfl rfl ?_
    refine Tr.mid0 3 [(2, (.pointer (some ⟨b100, 0, none⟩))), (6, (.int .i64 x131)), (7, (.bool y101.2)), (17, (.slice Ay194_0 (y194.1).length cy194_0)), (19, (.slice Ay196_0 (y196.1).length cy196_0)), (126, (.bool ((!y194.2) || (!y196.2))))] [(1, bx b100 #[(.int .i64 p0.X0), (.int .i64 p0.Y0), (.int .i64 p0.X1), (.int .i64 p0.Y1)] 38), (4, bx b103 #[(.int .i64 p0.X0), (.int .i64 p0.Y0), (.int .i64 x127), (.int .i64 x128)] 38), (5, bx b104 #[(.int .i64 x129), (.int .i64 x130), (.int .i64 p0.X1), (.int .i64 p0.Y1)] 38), (11, ow Al175 cl175 38 fl_TRect l175), (12, ow Al176 cl176 38 fl_TRect l176), (19, ow Ay194_0 cy194_0 40 fl_TCut y194.1), (20, ow Ay196_0 cy196_0 40 fl_TCut y196.1)] ?_ ?_
    ·cases hg200 : (!y194.2)
     ·refine Tr.val (wg rfl rfl rfl) rfl (fun _ _ h1 h2 => run_move (h1.ev rfl)) ?_
      refine Tr.val (wg rfl rfl rfl) rfl (fun _ _ h1 h2 => run_not (h1.ev rfl)) ?_
      refine Tr.va rfl (fun _ _ h1 h2 => run_pickF (h1.ev rfl) (h1.ev rfl)) ?_
      exact Tr.nil (Tr.fin0 (.cons rfl (.cons rfl (.cons rfl (.cons rfl (.cons rfl (.cons rfl .nil)))))) (.cons rfl (.cons rfl (.cons rfl (.cons rfl (.cons rfl (.cons rfl (.cons rfl .nil))))))))
     ·refine Tr.pass rfl rfl rfl rfl rfl (by decide) ?_
      refine Tr.pass rfl rfl rfl rfl rfl (by decide) ?_
      refine Tr.va rfl (fun _ _ h1 h2 => run_pickT (h1.ev rfl) (h1.ev rfl)) ?_
      exact Tr.nil (Tr.fin0 (.cons rfl (.cons rfl (.cons rfl (.cons rfl (.cons rfl (.cons rfl .nil)))))) (.cons rfl (.cons rfl (.cons rfl (.cons rfl (.cons rfl (.cons rfl (.cons rfl .nil))))))))
    ·show Tr _ _ (LF [(2, (.pointer (some ⟨b100, 0, none⟩))), (6, (.int .i64 x131)), (7, (.bool y101.2)), (17, (.slice Ay194_0 (y194.1).length cy194_0)), (19, (.slice Ay196_0 (y196.1).length cy196_0)), (126, (.bool ((!y194.2) || (!y196.2))))]) (LE [(1, bx b100 #[(.int .i64 p0.X0), (.int .i64 p0.Y0), (.int .i64 p0.X1), (.int .i64 p0.Y1)] 38), (4, bx b103 #[(.int .i64 p0.X0), (.int .i64 p0.Y0), (.int .i64 x127), (.int .i64 x128)] 38), (5, bx b104 #[(.int .i64 x129), (.int .i64 x130), (.int .i64 p0.X1), (.int .i64 p0.Y1)] 38), (11, ow Al175 cl175 38 fl_TRect l175), (12, ow Al176 cl176 38 fl_TRect l176), (19, ow Ay194_0 cy194_0 40 fl_TCut y194.1), (20, ow Ay196_0 cy196_0 40 fl_TCut y196.1)]) _
     refine Tr.nil (Tr.normThen ?_)
     refine Tr.cond rfl H (fun H => ?_) (fun H => ?_)
     ·refine Tr.sr ?_
      refine Tr.asg rfl rfl ?_
      refine Tr.nilOwn 21 40 fl_TCut ?_
      show Tr _ _ (uf _ 4 (.slice none (([] : List TCut)).length 0)) _ _
      refine Tr.asg rfl rfl ?_
      refine Tr.nil (Tr.normThen ?_)
      refine Tr.ret (Tr.retThen ?_)
      obtain rfl := Option.some.inj H
      exact Tr.out (m := [(.slice none (([] : List TCut)).length 0), (.bool false)]) [] (res_tmp rfl (res_tmp rfl res_nil)) (fun W hW => ⟨(none, 0), rfl, slf_nil, HF.lowE leB (hW.pick (ks := [21]) (by decide) (pk_cons rfl pk_nil)) ⟨ow_any _ _ _ _ tr_TCut, trivial⟩⟩)
     ·refine Tr.skip (Tr.normThen ?_)
      refine Tr.sr ?_
      refine Tr.va rfl (fun _ _ h1 h2 => run_loadN (cs := [(.int .i64 p0.X0), (.int .i64 p0.Y0), (.int .i64 p0.X1), (.int .i64 p0.Y1)]) ag_38 sz_38 (h1.ev rfl) (CellsAt.take (rdb h2 (vs := [(.int .i64 p0.X0), (.int .i64 p0.Y0), (.int .i64 p0.X1), (.int .i64 p0.Y1)]) (k := 1) rfl 0) 4) rfl) ?_
      refine Tr.mv rfl rfl ?_
      refine Tr.mv rfl rfl ?_
      refine Tr.build (vs := [(0, (.agg #[(.int .i64 p0.X0), (.int .i64 p0.Y0), (.int .i64 p0.X1), (.int .i64 p0.Y1)])), (1, (.bool y101.2)), (2, (.int .i64 x131))]) (cs := [(.int .i64 p0.X0), (.int .i64 p0.Y0), (.int .i64 p0.X1), (.int .i64 p0.Y1), (.bool y101.2), (.int .i64 x131)]) (wn rfl) rfl (evs_cons rfl (evs_cons rfl (evs_cons rfl evs_nil))) (by kernel_rfl) ?_
      refine Tr.buildSlice 22 (e := 40) (vs := [(0, (.agg #[(.int .i64 p0.X0), (.int .i64 p0.Y0), (.int .i64 p0.X1), (.int .i64 p0.Y1), (.bool y101.2), (.int .i64 x131)]))]) (cs := [(.int .i64 p0.X0), (.int .i64 p0.Y0), (.int .i64 p0.X1), (.int .i64 p0.Y1), (.bool y101.2), (.int .i64 x131)]) (wn rfl) rfl (evs_cons rfl evs_nil) (by kernel_rfl) fun b198 => ?_
      refine Tr.own 22 fl_TCut [(TCut.mk p0 y101.2 x131)] (css := [[(.int .i64 p0.X0), (.int .i64 p0.Y0), (.int .i64 p0.X1), (.int .i64 p0.Y1), (.bool y101.2), (.int .i64 x131)]]) rfl (.cons ⟨(), trivial, rfl⟩ .nil) rfl (by decide) (lit_max rfl) ?_
      refine Tr.asg rfl rfl ?_
      refine Tr.nil (Tr.normThen ?_)
      refine Tr.sr ?_
      refine Tr.mv rfl rfl ?_
      refine Tr.mv rfl rfl ?_
      obtain ⟨l199, hl199, H⟩ := bnd H
      refine Tr.appendS 22 (t := fl_TCut) (l := [(TCut.mk p0 y101.2 x131)]) (l2 := y194.1) (wn rfl) rfl rfl rfl rfl (apT tr_TCut (fun W hW => (hW.slB (k := 19) rfl))) un_27 sz_40 zl_40 (by decide) by_40 rfl hl199 fun Al199 cl199 hAl199 => ?_
      refine Tr.asg rfl rfl ?_
      refine Tr.nil (Tr.normThen ?_)
      refine Tr.sr ?_
      refine Tr.mv rfl rfl ?_
      refine Tr.mv rfl rfl ?_
      obtain ⟨l200, hl200, H⟩ := bnd H
      refine Tr.appendS 22 (t := fl_TCut) (l := l199) (l2 := y196.1) (wn rfl) rfl rfl rfl rfl (apT tr_TCut (fun W hW => (hW.slB (k := 20) rfl))) un_27 sz_40 zl_40 (by decide) by_40 rfl hl200 fun Al200 cl200 hAl200 => ?_
      refine Tr.asg rfl rfl ?_
      refine Tr.asg rfl rfl ?_
      refine Tr.nil (Tr.normThen ?_)
      refine Tr.ret ?_
      obtain rfl := Option.some.inj H
      exact Tr.out (m := [(.slice Al200 (l200).length cl200), (.bool true)]) [] (res_tmp rfl (res_tmp rfl res_nil)) (fun W hW => ⟨(Al200, cl200), rfl, hAl200, HF.lowE leB (hW.pick (ks := [22]) (by decide) (pk_cons rfl pk_nil)) ⟨ow_any _ _ _ _ tr_TCut, trivial⟩⟩)
theorem F_etchhouseref9_cut_ok : ∀ (N : Nat) {w : Bs} (p0 : TRect) (p1 : (List TRect)) (Ap1_0 : Option Addr) (cp1_0 : Nat) (hp1_0 : Sl w.R w.W fl_TRect Ap1_0 cp1_0 p1) (r : ((List TCut) × Bool)) (H : F_etchhouseref9_cut N p0 p1 = some r) (hE : HF w w.W (LEn [emp])), Calls Try.prog 33 [(.agg #[(.int .i64 p0.X0), (.int .i64 p0.Y0), (.int .i64 p0.X1), (.int .i64 p0.Y1)]), (.slice Ap1_0 (p1).length cp1_0)].toArray w.W fun e W' => ∃ u : (Option Addr × Nat), e = .returned (.tuple #[(.slice u.1 (r.1).length u.2), (.bool r.2)]) ∧ (SlF u.1 (r.1).length u.2) ∧ HF w W' (LEn [ow u.1 u.2 40 fl_TCut r.1])
 | 0 => by intros; rename_i H _; cases H
 | N + 1 => F_etchhouseref9_cut_b_ok N (F_etchhouseref9_cut N) (F_etchhouseref9_cut_ok N)

theorem F_etchhouseref9_Cuts_ok (N : Nat) {w : Bs} (p0 : TPanel) (Ap0_0 : Option Addr) (cp0_0 : Nat) (hp0_0 : Sl w.R w.W fl_TBoardKind Ap0_0 cp0_0 p0.Kinds) (Ap0_1 : Option Addr) (cp0_1 : Nat) (hp0_1 : Sl w.R w.W fl_TSlot Ap0_1 cp0_1 p0.Slots) (Ap0_2 : Option Addr) (cp0_2 : Nat) (hp0_2 : Sl w.R w.W fl_TPoint Ap0_2 cp0_2 p0.Marks) (r : ((List TCut) × Bool × Int)) (H : F_etchhouseref9_Cuts N p0 = some r) (hE : HF w w.W (LEn [emp])) : Calls Try.prog 12 [(.agg #[(.int .i64 p0.W), (.int .i64 p0.H), (.int .i64 p0.Rail), (.int .i64 p0.Gap), (.slice Ap0_0 (p0.Kinds).length cp0_0), (.slice Ap0_1 (p0.Slots).length cp0_1), (.slice Ap0_2 (p0.Marks).length cp0_2)])].toArray w.W fun e W' => ∃ u : (Option Addr × Nat), e = .returned (.tuple #[(.slice u.1 (r.1).length u.2), (.bool r.2.1), (.int .i64 r.2.2)]) ∧ (SlF u.1 (r.1).length u.2) ∧ HF w W' (LEn [ow u.1 u.2 40 fl_TCut r.1]) := by
 unfold F_etchhouseref9_Cuts at H
 have leB := Bs.Le.refl w
 refine Tr.enter (n := 26) Try.func12 rfl rfl rfl hE ?_
 refine Tr.sr ?_
 refine Tr.box 1 (cs := [(.int .i64 p0.W), (.int .i64 p0.H), (.int .i64 p0.Rail), (.int .i64 p0.Gap), (.slice Ap0_0 (p0.Kinds).length cp0_0), (.slice Ap0_1 (p0.Slots).length cp0_1), (.slice Ap0_2 (p0.Marks).length cp0_2)]) (wn rfl) rfl rfl rfl fun b100 => ?_
 refine Tr.asg rfl rfl ?_
 refine Tr.nilOwn 2 40 fl_TCut ?_
 show Tr _ _ (uf _ 2 (.slice none (([] : List TCut)).length 0)) _ _
 refine Tr.asg rfl rfl ?_
 refine Tr.asg rfl rfl ?_
 refine Tr.nil (Tr.normThen ?_)
 refine Tr.seq ?_
 refine Tr.sr ?_
 refine Tr.va rfl (fun _ _ h1 h2 => run_loadN (cs := [(.int .i64 p0.W), (.int .i64 p0.H), (.int .i64 p0.Rail), (.int .i64 p0.Gap), (.slice Ap0_0 (p0.Kinds).length cp0_0), (.slice Ap0_1 (p0.Slots).length cp0_1), (.slice Ap0_2 (p0.Marks).length cp0_2)]) ag_26 sz_26 (h1.ev rfl) (CellsAt.take (rdb h2 (vs := [(.int .i64 p0.W), (.int .i64 p0.H), (.int .i64 p0.Rail), (.int .i64 p0.Gap), (.slice Ap0_0 (p0.Kinds).length cp0_0), (.slice Ap0_1 (p0.Slots).length cp0_1), (.slice Ap0_2 (p0.Marks).length cp0_2)]) (k := 1) rfl 0) 7) rfl) ?_
 obtain ⟨y101, hy101, H⟩ := bnd H
 refine Tr.call0 (r := (.int .i64 y101)) (wn rfl) rfl Try.call19 (evl_cons rfl evl_nil) (fun W hW => F_etchhouseref9_CheckPanel_ok N p0 Ap0_0 cp0_0 (hp0_0.ext hW.extAll) Ap0_1 cp0_1 (hp0_1.ext hW.extAll) Ap0_2 cp0_2 (hp0_2.ext hW.extAll) y101 hy101 (HF.start _)) ?_
 refine Tr.asg rfl rfl ?_
 refine Tr.nil (Tr.normThen ?_)
 refine Tr.sr ?_
 refine Tr.mv rfl rfl ?_
 refine Tr.va rfl (fun _ _ h1 h2 => run_neq (h1.ev rfl) (h1.ev rfl)) ?_
 refine Tr.nil (Tr.normThen ?_)
 refine Tr.cond rfl H (fun H => ?_) (fun H => ?_)
 ·refine Tr.sr ?_
  refine Tr.mv rfl rfl ?_
  refine Tr.asg rfl rfl ?_
  refine Tr.nilOwn 3 40 fl_TCut ?_
  show Tr _ _ (uf _ 2 (.slice none (([] : List TCut)).length 0)) _ _
  refine Tr.asg rfl rfl ?_
  refine Tr.asg rfl rfl ?_
  refine Tr.nil (Tr.normThen ?_)
  refine Tr.ret (Tr.retThen ?_)
  obtain rfl := Option.some.inj H
  exact Tr.out (m := [(.slice none (([] : List TCut)).length 0), (.bool false), (.int .i64 y101)]) [] (res_tmp rfl (res_tmp rfl (res_tmp rfl res_nil))) (fun W hW => ⟨(none, 0), rfl, slf_nil, HF.lowE leB (hW.pick (ks := [3]) (by decide) (pk_cons rfl pk_nil)) ⟨ow_any _ _ _ _ tr_TCut, trivial⟩⟩)
 ·refine Tr.skip (Tr.normThen ?_)
  refine Tr.seq ?_
  refine Tr.drawC 12 [] [] (by kernel_rfl) (by kernel_rfl) fun sz102 hlosz102 hEsz102 => ?_
  refine Dr.quiet 0 [(14, (.pointer (some ⟨b100, 0, none⟩)))] (by kernel_rfl) rfl rfl (by kernel_rfl) ?_ rfl rfl ?_
  ·refine Tq.va rfl (fun _ _ h1 h2 => run_fieldAddr fo_26_0 (h1.ev rfl)) ?_
   exact Tq.fin (.cons rfl .nil)
  refine Dr.quiet 1 [(15, (.int .i64 p0.W))] (by kernel_rfl) rfl rfl (by kernel_rfl) ?_ rfl rfl ?_
  ·refine Tq.va rfl (fun _ _ h1 h2 => run_load1 ag_3 (h1.ev rfl) (rdb h2 (vs := [(.int .i64 p0.W), (.int .i64 p0.H), (.int .i64 p0.Rail), (.int .i64 p0.Gap), (.slice Ap0_0 (p0.Kinds).length cp0_0), (.slice Ap0_1 (p0.Slots).length cp0_1), (.slice Ap0_2 (p0.Marks).length cp0_2)]) (k := 1) rfl 0) rfl) ?_
   exact Tq.fin (.cons rfl .nil)
  refine Dr.quiet 2 [(16, (.pointer (some ⟨b100, 1, none⟩)))] (by kernel_rfl) rfl rfl (by kernel_rfl) ?_ rfl rfl ?_
  ·refine Tq.va rfl (fun _ _ h1 h2 => run_fieldAddr fo_26_1 (h1.ev rfl)) ?_
   exact Tq.fin (.cons rfl .nil)
  refine Dr.quiet 3 [(17, (.int .i64 p0.H))] (by kernel_rfl) rfl rfl (by kernel_rfl) ?_ rfl rfl ?_
  ·refine Tq.va rfl (fun _ _ h1 h2 => run_load1 ag_3 (h1.ev rfl) (rdb h2 (vs := [(.int .i64 p0.W), (.int .i64 p0.H), (.int .i64 p0.Rail), (.int .i64 p0.Gap), (.slice Ap0_0 (p0.Kinds).length cp0_0), (.slice Ap0_1 (p0.Slots).length cp0_1), (.slice Ap0_2 (p0.Marks).length cp0_2)]) (k := 1) rfl 1) rfl) ?_
   exact Tq.fin (.cons rfl .nil)
  refine Dr.quiet 4 [(18, (.agg #[(.int .i64 0), (.int .i64 0), (.int .i64 p0.W), (.int .i64 p0.H)]))] (by kernel_rfl) rfl rfl (by kernel_rfl) ?_ rfl rfl ?_
  ·refine Tq.build (vs := [(2, (.int .i64 p0.W)), (3, (.int .i64 p0.H))]) (cs := [(.int .i64 0), (.int .i64 0), (.int .i64 p0.W), (.int .i64 p0.H)]) (wn rfl) rfl (evs_cons rfl (evs_cons rfl evs_nil)) (by kernel_rfl) ?_
   exact Tq.fin (.cons rfl .nil)
  refine Dr.quiet 5 [(19, (.agg #[(.int .i64 p0.W), (.int .i64 p0.H), (.int .i64 p0.Rail), (.int .i64 p0.Gap), (.slice Ap0_0 (p0.Kinds).length cp0_0), (.slice Ap0_1 (p0.Slots).length cp0_1), (.slice Ap0_2 (p0.Marks).length cp0_2)]))] (by kernel_rfl) rfl rfl (by kernel_rfl) ?_ rfl rfl ?_
  ·refine Tq.va rfl (fun _ _ h1 h2 => run_loadN (cs := [(.int .i64 p0.W), (.int .i64 p0.H), (.int .i64 p0.Rail), (.int .i64 p0.Gap), (.slice Ap0_0 (p0.Kinds).length cp0_0), (.slice Ap0_1 (p0.Slots).length cp0_1), (.slice Ap0_2 (p0.Marks).length cp0_2)]) ag_26 sz_26 (h1.ev rfl) (CellsAt.take (rdb h2 (vs := [(.int .i64 p0.W), (.int .i64 p0.H), (.int .i64 p0.Rail), (.int .i64 p0.Gap), (.slice Ap0_0 (p0.Kinds).length cp0_0), (.slice Ap0_1 (p0.Slots).length cp0_1), (.slice Ap0_2 (p0.Marks).length cp0_2)]) (k := 1) rfl 0) 7) rfl) ?_
   exact Tq.fin (.cons rfl .nil)
  obtain ⟨y103, hy103, H⟩ := bnd H
  refine Dr.one 6 (by kernel_rfl) ?_
  refine St.callM 6 [4] [emp] (U := (Option Addr × Nat)) (fun u => (.slice u.1 (y103).length u.2)) (fun u => SlF u.1 (y103).length u.2) (fun u => [ow u.1 u.2 38 fl_TRect y103]) rfl (pk_cons rfl pk_nil) (fun _ => rfl) (insS_no rfl) rfl (wn rfl) rfl Try.call34 (evl_cons rfl evl_nil) (fun W hW hp hE => F_etchhouseref9_cells_ok N p0 Ap0_0 cp0_0 (hp0_0.ext (hW.extS hp)) Ap0_1 cp0_1 (hp0_1.ext (hW.extS hp)) Ap0_2 cp0_2 (hp0_2.ext (hW.extS hp)) y103 hy103 hE) ?_
  intro u hu hsy103
  obtain ⟨Ay103_0, cy103_0⟩ := u
  have gy103_0 := hu
  have hgy103_0 : SlF Ay103_0 (y103).length cy103_0 := gy103_0
  show Dr _ _ _ _ _ _ _ _ _ (uf _ 20 (.slice Ay103_0 (y103).length cy103_0)) (up _ 4 (ow Ay103_0 cy103_0 38 fl_TRect y103))
  obtain ⟨y105, hy105, H⟩ := bnd H
  refine Dr.one 7 (by kernel_rfl) ?_
  refine St.callM 7 [5] [emp] (U := (Option Addr × Nat)) (fun u => (.tuple #[(.slice u.1 (y105.1).length u.2), (.bool y105.2)])) (fun u => SlF u.1 (y105.1).length u.2) (fun u => [ow u.1 u.2 40 fl_TCut y105.1]) rfl (pk_cons rfl pk_nil) (fun _ => rfl) (insS_no rfl) rfl (wn rfl) rfl Try.call33 (evl_cons rfl (evl_cons rfl evl_nil)) (fun W hW hp hE => F_etchhouseref9_cut_ok N (TRect.mk 0 0 p0.W p0.H) y103 Ay103_0 cy103_0 (hW.slS (k := 4) rfl hp rfl) y105 hy105 hE) ?_
  intro u hu hsy105
  obtain ⟨Ay105_0, cy105_0⟩ := u
  have gy105_0 := hu
  have hgy105_0 : SlF Ay105_0 (y105.1).length cy105_0 := gy105_0
  show Dr _ _ _ _ _ _ _ _ _ (uf _ 21 (.tuple #[(.slice Ay105_0 (y105.1).length cy105_0), (.bool y105.2)])) (up _ 5 (ow Ay105_0 cy105_0 40 fl_TCut y105.1))
  refine Dr.quiet 8 [(13, (.tuple #[(.slice Ay105_0 (y105.1).length cy105_0), (.bool y105.2)]))] (by kernel_rfl) rfl rfl (by kernel_rfl) ?_ rfl rfl ?_
  ·refine Tq.mv rfl rfl ?_
   exact Tq.fin (.cons rfl .nil)
  refine Dr.quiet 9 [(22, (.slice Ay105_0 (y105.1).length cy105_0))] (by kernel_rfl) rfl rfl (by kernel_rfl) ?_ rfl rfl ?_
  ·refine Tq.va rfl (fun _ _ h1 h2 => run_extract (h1.ev rfl) rfl) ?_
   exact Tq.fin (.cons rfl .nil)
  refine Dr.quiet 10 [(23, (.bool y105.2))] (by kernel_rfl) rfl rfl (by kernel_rfl) ?_ rfl rfl ?_
  ·refine Tq.va rfl (fun _ _ h1 h2 => run_extract (h1.ev rfl) rfl) ?_
   exact Tq.fin (.cons rfl .nil)
  refine Dr.quiet 11 [(6, (.slice Ay105_0 (y105.1).length cy105_0))] (by kernel_rfl) rfl rfl (by kernel_rfl) ?_ rfl rfl ?_
  ·refine Tq.asg rfl rfl ?_
   exact Tq.fin (.cons rfl .nil)
  refine Dr.tail (by kernel_rfl) ?_
  refine Tr.asg rfl rfl ?_
  refine Tr.nil (Tr.normThen ?_)
  refine Tr.sr ?_
  refine Tr.mv rfl rfl ?_
  refine Tr.mv rfl rfl ?_
  refine Tr.asg rfl rfl ?_
  refine Tr.asg rfl rfl ?_
  refine Tr.asg rfl rfl ?_
  refine Tr.nil (Tr.normThen ?_)
  refine Tr.ret ?_
  obtain rfl := Option.some.inj H
  exact Tr.out (m := [(.slice Ay105_0 (y105.1).length cy105_0), (.bool y105.2), (.int .i64 0)]) [] (res_tmp rfl (res_tmp rfl (res_tmp rfl res_nil))) (fun W hW => ⟨(Ay105_0, cy105_0), rfl, hgy105_0, HF.lowE leB (hW.pick (ks := [5]) (by decide) (pk_cons rfl pk_nil)) ⟨ow_any _ _ _ _ tr_TCut, trivial⟩⟩)

theorem F_slices_Sort_int_ok {w : Bs} (p0 : List Int) (Ap0_0 : Option Addr) (cp0_0 : Nat) (r : List Int) (H : srtI p0 = some r) (hE : HF w w.W (LEn [ow Ap0_0 cp0_0 3 fl_i64 p0])) : Calls Try.prog 29 [(.slice Ap0_0 (p0).length cp0_0)].toArray w.W fun e W' => ∃ u : Unit, e = .returned (.tuple #[]) ∧ ((r).length = (p0).length) ∧ HF w W' (LEn [ow Ap0_0 cp0_0 3 fl_i64 r]) :=
 sortI_rule (ρ := Try.sort29_ren) Try.sort29 rfl ef_i64 tr_i64 () H hE

theorem F_slices_Compact_int_ok {w : Bs} (p0 : List Int) (Ap0_0 : Option Addr) (cp0_0 : Nat) (r : List Int) (H : cpI p0 = some r) (hE : HF w w.W (LEn [ow Ap0_0 cp0_0 3 fl_i64 p0])) : Calls Try.prog 30 [(.slice Ap0_0 (p0).length cp0_0)].toArray w.W fun e W' => ∃ u : (Option Addr × Nat), e = .returned (.slice u.1 (r).length u.2) ∧ (SlF u.1 (r).length u.2) ∧ HF w W' (LEn [ow u.1 u.2 3 fl_i64 r]) :=
 compactI_rule (ρ := Try.cmpc30_ren) Try.cmpc30 rfl ef_i64 tr_i64 () H hE

theorem F_panel_Scores_1_ok {w : Bs} (p0 : TRect) (q0 : Bool) (bq0 : Nat) (hb0 : w.R bq0) (hc0 : CellsAt w.W bq0 0 [(.bool q0)]) (q1 : Int) (bq1 : Nat) (hb1 : w.R bq1) (hc1 : CellsAt w.W bq1 0 [(.int .i64 q1)]) (r : Bool) (H : F_panel_Scores_1 p0 q0 q1 = some r) (hE : HF w w.W E0) : Calls Try.prog 32 [(.agg #[(.int .i64 p0.X0), (.int .i64 p0.Y0), (.int .i64 p0.X1), (.int .i64 p0.Y1)]), (.pointer (some ⟨bq0, 0, none⟩)), (.pointer (some ⟨bq1, 0, none⟩))].toArray w.W fun e W' => e = .returned (.bool r) ∧ HF w W' E0 := by
 unfold F_panel_Scores_1 at H
 have leB := Bs.Le.refl w
 refine Tr.enter (n := 21) Try.func32 rfl rfl rfl hE ?_
 refine Tr.sr ?_
 refine Tr.box 1 (cs := [(.int .i64 p0.X0), (.int .i64 p0.Y0), (.int .i64 p0.X1), (.int .i64 p0.Y1)]) (wn rfl) rfl rfl rfl fun b100 => ?_
 refine Tr.asg rfl rfl ?_
 refine Tr.nil (Tr.normThen ?_)
 refine Tr.sr ?_
 refine Tr.va rfl (fun _ _ h1 h2 => run_loadN (cs := [(.int .i64 p0.X0), (.int .i64 p0.Y0), (.int .i64 p0.X1), (.int .i64 p0.Y1)]) ag_38 sz_38 (h1.ev rfl) (CellsAt.take (rdb h2 (vs := [(.int .i64 p0.X0), (.int .i64 p0.Y0), (.int .i64 p0.X1), (.int .i64 p0.Y1)]) (k := 1) rfl 0) 4) rfl) ?_
 refine Tr.va rfl (fun _ _ h1 h2 => run_load1 ag_4 (h1.ev rfl) (rdR hb0 hc0 h2) rfl) ?_
 obtain ⟨y101, hy101, H⟩ := bnd H
 refine Tr.call0 (r := (.tuple #[(.int .i64 y101.1), (.int .i64 y101.2)])) (wn rfl) rfl Try.call28 (evl_cons rfl (evl_cons rfl evl_nil)) (fun W hW => F_panel_along_ok p0 q0 y101 hy101 (HF.start _)) ?_
 refine Tr.mv rfl rfl ?_
 refine Tr.va rfl (fun _ _ h1 h2 => run_extract (h1.ev rfl) rfl) ?_
 refine Tr.va rfl (fun _ _ h1 h2 => run_extract (h1.ev rfl) rfl) ?_
 refine Tr.asg rfl rfl ?_
 refine Tr.asg rfl rfl ?_
 refine Tr.nil (Tr.normThen ?_)
 refine Tr.sr ?_
 refine Tr.mv rfl rfl ?_
 refine Tr.va rfl (fun _ _ h1 h2 => run_load1 ag_3 (h1.ev rfl) (rdR hb1 hc1 h2) rfl) ?_
 refine Tr.va rfl (fun _ _ h1 h2 => run_lss (h1.ev rfl) (h1.ev rfl)) ?_
 refine Tr.mv rfl rfl ?_
 refine Tr.mid0 4 [(20, (.bool ((decide (y101.1 < q1)) && (decide (q1 < y101.2)))))] [(1, bx b100 #[(.int .i64 p0.X0), (.int .i64 p0.Y0), (.int .i64 p0.X1), (.int .i64 p0.Y1)] 38)] ?_ ?_
 ·cases hg101 : (decide (y101.1 < q1))
  ·refine Tr.pass rfl rfl rfl rfl rfl (by decide) ?_
   refine Tr.pass rfl rfl rfl rfl rfl (by decide) ?_
   refine Tr.pass rfl rfl rfl rfl rfl (by decide) ?_
   refine Tr.va rfl (fun _ _ h1 h2 => run_pickF (h1.ev rfl) (h1.ev rfl)) ?_
   exact Tr.nil (Tr.fin0 (.cons rfl .nil) (.cons rfl .nil))
  ·refine Tr.val (wg rfl rfl rfl) rfl (fun _ _ h1 h2 => run_move (h1.ev rfl)) ?_
   refine Tr.val (wg rfl rfl rfl) rfl (fun _ _ h1 h2 => run_load1 ag_3 (h1.ev rfl) (rdR hb1 hc1 h2) rfl) ?_
   refine Tr.val (wg rfl rfl rfl) rfl (fun _ _ h1 h2 => run_gtr (h1.ev rfl) (h1.ev rfl)) ?_
   refine Tr.va rfl (fun _ _ h1 h2 => run_pickT (h1.ev rfl) (h1.ev rfl)) ?_
   exact Tr.nil (Tr.fin0 (.cons rfl .nil) (.cons rfl .nil))
 ·show Tr _ _ (LF [(20, (.bool ((decide (y101.1 < q1)) && (decide (q1 < y101.2)))))]) (LE [(1, bx b100 #[(.int .i64 p0.X0), (.int .i64 p0.Y0), (.int .i64 p0.X1), (.int .i64 p0.Y1)] 38)]) _
  refine Tr.asg rfl rfl ?_
  refine Tr.nil (Tr.normThen ?_)
  refine Tr.ret ?_
  obtain rfl := Option.some.inj H
  exact Tr.out (m := [(.bool ((decide (y101.1 < q1)) && (decide (q1 < y101.2))))]) [] (res_tmp rfl res_nil) (fun W hW => ⟨rfl, hW.low leB⟩)

theorem F_panel_Scores_ok (N : Nat) {w : Bs} (p0 : TPanel) (Ap0_0 : Option Addr) (cp0_0 : Nat) (hp0_0 : Sl w.R w.W fl_TBoardKind Ap0_0 cp0_0 p0.Kinds) (Ap0_1 : Option Addr) (cp0_1 : Nat) (hp0_1 : Sl w.R w.W fl_TSlot Ap0_1 cp0_1 p0.Slots) (Ap0_2 : Option Addr) (cp0_2 : Nat) (hp0_2 : Sl w.R w.W fl_TPoint Ap0_2 cp0_2 p0.Marks) (r : ((List TCut) × Int)) (H : F_panel_Scores N p0 = some r) (hE : HF w w.W (LEn [emp])) : Calls Try.prog 10 [(.agg #[(.int .i64 p0.W), (.int .i64 p0.H), (.int .i64 p0.Rail), (.int .i64 p0.Gap), (.slice Ap0_0 (p0.Kinds).length cp0_0), (.slice Ap0_1 (p0.Slots).length cp0_1), (.slice Ap0_2 (p0.Marks).length cp0_2)])].toArray w.W fun e W' => ∃ u : (Option Addr × Nat), e = .returned (.tuple #[(.slice u.1 (r.1).length u.2), (.int .i64 r.2)]) ∧ (SlF u.1 (r.1).length u.2) ∧ HF w W' (LEn [ow u.1 u.2 40 fl_TCut r.1]) := by
 unfold F_panel_Scores at H
 have leB := Bs.Le.refl w
 refine Tr.enter (n := 72) Try.func10 rfl rfl rfl hE ?_
 refine Tr.sr ?_
 refine Tr.box 1 (cs := [(.int .i64 p0.W), (.int .i64 p0.H), (.int .i64 p0.Rail), (.int .i64 p0.Gap), (.slice Ap0_0 (p0.Kinds).length cp0_0), (.slice Ap0_1 (p0.Slots).length cp0_1), (.slice Ap0_2 (p0.Marks).length cp0_2)]) (wn rfl) rfl rfl rfl fun b100 => ?_
 refine Tr.asg rfl rfl ?_
 refine Tr.nilOwn 2 40 fl_TCut ?_
 show Tr _ _ (uf _ 2 (.slice none (([] : List TCut)).length 0)) _ _
 refine Tr.asg rfl rfl ?_
 refine Tr.nil (Tr.normThen ?_)
 refine Tr.sr ?_
 refine Tr.va rfl (fun _ _ h1 h2 => run_loadN (cs := [(.int .i64 p0.W), (.int .i64 p0.H), (.int .i64 p0.Rail), (.int .i64 p0.Gap), (.slice Ap0_0 (p0.Kinds).length cp0_0), (.slice Ap0_1 (p0.Slots).length cp0_1), (.slice Ap0_2 (p0.Marks).length cp0_2)]) ag_26 sz_26 (h1.ev rfl) (CellsAt.take (rdb h2 (vs := [(.int .i64 p0.W), (.int .i64 p0.H), (.int .i64 p0.Rail), (.int .i64 p0.Gap), (.slice Ap0_0 (p0.Kinds).length cp0_0), (.slice Ap0_1 (p0.Slots).length cp0_1), (.slice Ap0_2 (p0.Marks).length cp0_2)]) (k := 1) rfl 0) 7) rfl) ?_
 obtain ⟨y101, hy101, H⟩ := bnd H
 refine Tr.callM [3] [emp] (U := (Option Addr × Nat)) (fun u => (.tuple #[(.slice u.1 (y101.1).length u.2), (.int .i64 y101.2)])) (fun u => SlF u.1 (y101.1).length u.2) (fun u => [ow u.1 u.2 38 fl_TRect y101.1]) rfl (pk_cons rfl pk_nil) (fun _ => rfl) (wn rfl) rfl Try.call25 (evl_cons rfl evl_nil) (fun W hW hp hE => F_panel_open_ok N p0 Ap0_0 cp0_0 (hp0_0.ext (hW.extS hp)) Ap0_1 cp0_1 (hp0_1.ext (hW.extS hp)) Ap0_2 cp0_2 (hp0_2.ext (hW.extS hp)) y101 hy101 hE) ?_
 intro u hu
 obtain ⟨Ay101_0, cy101_0⟩ := u
 have gy101_0 := hu
 have hgy101_0 : SlF Ay101_0 (y101.1).length cy101_0 := gy101_0 --@phi
 show Tr _ _ (uf _ 18 (.tuple #[(.slice Ay101_0 (y101.1).length cy101_0), (.int .i64 y101.2)])) (up _ 3 (ow Ay101_0 cy101_0 38 fl_TRect y101.1)) _
 refine Tr.mv rfl rfl ?_
 refine Tr.va rfl (fun _ _ h1 h2 => run_extract (h1.ev rfl) rfl) ?_
 refine Tr.va rfl (fun _ _ h1 h2 => run_extract (h1.ev rfl) rfl) ?_
 refine Tr.asg rfl rfl ?_
 refine Tr.asg rfl rfl ?_
 refine Tr.nil (Tr.normThen ?_)
 refine Tr.seq ?_
 refine Tr.sr ?_
 refine Tr.mv rfl rfl ?_
 refine Tr.va rfl (fun _ _ h1 h2 => run_neq (h1.ev rfl) (h1.ev rfl)) ?_
 refine Tr.nil (Tr.normThen ?_)
 refine Tr.cond rfl H (fun H => ?_) (fun H => ?_)
 ·refine Tr.sr ?_
  refine Tr.mv rfl rfl ?_
  refine Tr.asg rfl rfl ?_
  refine Tr.nilOwn 4 40 fl_TCut ?_
  show Tr _ _ (uf _ 2 (.slice none (([] : List TCut)).length 0)) _ _
  refine Tr.asg rfl rfl ?_
  refine Tr.nil (Tr.normThen ?_)
  refine Tr.ret (Tr.retThen ?_)
  obtain rfl := Option.some.inj H
  exact Tr.out (m := [(.slice none (([] : List TCut)).length 0), (.int .i64 y101.2)]) [] (res_tmp rfl (res_tmp rfl res_nil)) (fun W hW => ⟨(none, 0), rfl, slf_nil, HF.lowE leB (hW.pick (ks := [4]) (by decide) (pk_cons rfl pk_nil)) ⟨ow_any _ _ _ _ tr_TCut, trivial⟩⟩)
 ·refine Tr.skip (Tr.normThen ?_)
  refine Tr.sr ?_
  refine Tr.asg rfl rfl ?_
  refine Tr.nilOwn 5 40 fl_TCut ?_
  show Tr _ _ (uf _ 6 (.slice none (([] : List TCut)).length 0)) _ _
  refine Tr.nil (Tr.normThen ?_)
  refine Tr.seq ?_
  refine Tr.sr ?_
  refine Tr.buildSlice 6 (e := 4) (vs := [(0, (.bool true)), (1, (.bool false))]) (cs := [(.bool true), (.bool false)]) (wn rfl) rfl (evs_cons rfl (evs_cons rfl evs_nil)) (by kernel_rfl) fun b103 => ?_
  refine Tr.va rfl (fun _ _ h1 h2 => run_len un_58 (h1.ev rfl)) ?_
  refine Tr.mv rfl rfl ?_
  refine Tr.nil (Tr.normThen ?_)
  refine Tr.block ?_
  refine Tr.own 6 fl_bool [true, false] (css := [[(.bool true)], [(.bool false)]]) rfl (.cons ⟨(), trivial, rfl⟩ (.cons ⟨(), trivial, rfl⟩ .nil)) rfl (by decide) (lit_max rfl) ?_
  refine Tr.ren 6 39 rfl rfl rfl ?_
  refine Tr.loop (σ := (List TCut) × (List Bool) × Int × (Option Addr) × Nat × (Option Addr) × Nat) (fun m w s => F_panel_Scores_L5 p0 y101 m s.1 s.2.1 s.2.2.1 = some r ∧ SlF s.2.2.2.1 (s.1).length s.2.2.2.2.1 ∧ SlF s.2.2.2.2.2.1 (s.2.1).length s.2.2.2.2.2.2) (fun s => [(1, (.pointer (some ⟨b100, 0, none⟩))), (4, (.slice Ay101_0 (y101.1).length cy101_0)), (6, (.slice s.2.2.2.1 (s.1).length s.2.2.2.2.1)), (24, (.slice s.2.2.2.2.2.1 (s.2.1).length s.2.2.2.2.2.2)), (25, (.int .i64 2)), (26, (.int .i64 s.2.2.1))]) (fun s => [(1, bx b100 #[(.int .i64 p0.W), (.int .i64 p0.H), (.int .i64 p0.Rail), (.int .i64 p0.Gap), (.slice Ap0_0 (p0.Kinds).length cp0_0), (.slice Ap0_1 (p0.Slots).length cp0_1), (.slice Ap0_2 (p0.Marks).length cp0_2)] 26), (3, ow Ay101_0 cy101_0 38 fl_TRect y101.1), (5, ow s.2.2.2.1 s.2.2.2.2.1 40 fl_TCut s.1), (39, ow s.2.2.2.2.2.1 s.2.2.2.2.2.2 4 fl_bool s.2.1)]) N (([] : List TCut), [true, false], 0, none, 0, (some ⟨b103, 0, none⟩), 2) ⟨H, slf_nil, (lit_form b103 rfl)⟩ (.cons rfl (.cons rfl (.cons rfl (.cons rfl (.cons rfl (.cons rfl .nil)))))) (.cons rfl (.cons rfl (.cons rfl (.cons rfl .nil)))) (fun _ _ h => noSome (h.1)) ?_
  intro w leF_panel_Scores_L5 mF_panel_Scores_L5 s hs
  obtain ⟨l216, l217, x218, Al216, cl216, Al217, cl217⟩ := s
  obtain ⟨H, hl216, hl217⟩ := hs
  replace H : F_panel_Scores_L5 p0 y101 (mF_panel_Scores_L5 + 1) l216 l217 x218 = some r := H
  replace hp0_0 := hp0_0.leR leF_panel_Scores_L5
  replace hp0_1 := hp0_1.leR leF_panel_Scores_L5
  replace hp0_2 := hp0_2.leR leF_panel_Scores_L5
  replace leB := leB.trans leF_panel_Scores_L5
  replace hl216 : SlF Al216 (l216).length cl216 := hl216
  replace hl217 : SlF Al217 (l217).length cl217 := hl217
  rw [F_panel_Scores_L5.eq_2] at H
  show Tr _ _ (LF [(1, (.pointer (some ⟨b100, 0, none⟩))), (4, (.slice Ay101_0 (y101.1).length cy101_0)), (6, (.slice Al216 (l216).length cl216)), (24, (.slice Al217 (l217).length cl217)), (25, (.int .i64 2)), (26, (.int .i64 x218))]) (LE [(1, bx b100 #[(.int .i64 p0.W), (.int .i64 p0.H), (.int .i64 p0.Rail), (.int .i64 p0.Gap), (.slice Ap0_0 (p0.Kinds).length cp0_0), (.slice Ap0_1 (p0.Slots).length cp0_1), (.slice Ap0_2 (p0.Marks).length cp0_2)] 26), (3, ow Ay101_0 cy101_0 38 fl_TRect y101.1), (5, ow Al216 cl216 40 fl_TCut l216), (39, ow Al217 cl217 4 fl_bool l217)]) _
  refine Tr.sr ?_
  refine Tr.va rfl (fun _ _ h1 h2 => run_lss (h1.ev rfl) (h1.ev rfl)) ?_
  refine Tr.nil (Tr.normThen ?_)
  refine Tr.seq ?_
  refine Tr.cond rfl H (fun H => ?_) (fun H => ?_)
  ·refine Tr.skip (Tr.normThen ?_)
   refine Tr.seq ?_
   refine Tr.block ?_
   refine Tr.sr ?_
   obtain ⟨x219, hx219, H⟩ := bnd H
   obtain ⟨hx2190, hx2191, hx2192⟩ := idx_some hx219
   refine Tr.va rfl (fun _ _ h1 h2 => run_indexAddr el_58 (h1.ev rfl) hl217 (h1.ev rfl) hx2190 hx2191) ?_
   refine Tr.va rfl (fun _ _ h1 h2 => run_load1 ag_4 (h1.ev rfl) (rdo ef_bool (k := 39) h2 rfl hx2192) rfl) ?_
   refine Tr.alloc 40 (wn rfl) rfl ze_4 fun b220 => ?_
   refine Tr.store 40 (cs := [(.bool x219)]) [(.bool x219)] (wn rfl) rfl rfl rfl rfl sz_4 rfl rfl rfl ?_
   refine Tr.nil (Tr.normThen ?_)
   refine Tr.sr ?_
   refine Tr.asg rfl rfl ?_
   refine Tr.nilOwn 41 3 fl_i64 ?_
   show Tr _ _ (uf _ 9 (.slice none (([] : List Int)).length 0)) _ _
   refine Tr.nil (Tr.normThen ?_)
   refine Tr.seq ?_
   refine Tr.sr ?_
   refine Tr.mv rfl rfl ?_
   refine Tr.va rfl (fun _ _ h1 h2 => run_len un_32 (h1.ev rfl)) ?_
   refine Tr.mv rfl rfl ?_
   refine Tr.nil (Tr.normThen ?_)
   refine Tr.block ?_
   refine Tr.loop (σ := (List TRect) × Nat × (List Int) × (Option Addr) × Nat) (fun m w s => m = s.1.length + 1 ∧ s.1 = List.drop s.2.1 y101.1 ∧ s.2.1 ≤ y101.1.length ∧ F_panel_Scores_L6 p0 y101 l216 l217 x218 (F_panel_Scores_L5 p0 y101 mF_panel_Scores_L5) x219 s.1 s.2.1 s.2.2.1 = some r ∧ SlF s.2.2.2.1 (s.2.2.1).length s.2.2.2.2) (fun s => [(1, (.pointer (some ⟨b100, 0, none⟩))), (4, (.slice Ay101_0 (y101.1).length cy101_0)), (6, (.slice Al216 (l216).length cl216)), (8, (.pointer (some ⟨b220, 0, none⟩))), (9, (.slice s.2.2.2.1 (s.2.2.1).length s.2.2.2.2)), (24, (.slice Al217 (l217).length cl217)), (25, (.int .i64 2)), (26, (.int .i64 x218)), (30, (.slice Ay101_0 (y101.1).length cy101_0)), (31, (.int .i64 (y101.1.length : Int))), (32, (.int .i64 (s.2.1 : Int)))]) (fun s => [(1, bx b100 #[(.int .i64 p0.W), (.int .i64 p0.H), (.int .i64 p0.Rail), (.int .i64 p0.Gap), (.slice Ap0_0 (p0.Kinds).length cp0_0), (.slice Ap0_1 (p0.Slots).length cp0_1), (.slice Ap0_2 (p0.Marks).length cp0_2)] 26), (3, ow Ay101_0 cy101_0 38 fl_TRect y101.1), (5, ow Al216 cl216 40 fl_TCut l216), (39, ow Al217 cl217 4 fl_bool l217), (40, bx b220 #[(.bool x219)] 4), (41, ow s.2.2.2.1 s.2.2.2.2 3 fl_i64 s.2.2.1)]) (y101.1.length + 1) (y101.1, 0, ([] : List Int), none, 0) ⟨rfl, rfl, Nat.zero_le _, H, slf_nil⟩ (.cons rfl (.cons rfl (.cons rfl (.cons rfl (.cons rfl (.cons rfl (.cons rfl (.cons rfl (.cons rfl (.cons rfl (.cons rfl .nil))))))))))) (.cons rfl (.cons rfl (.cons rfl (.cons rfl (.cons rfl (.cons rfl .nil)))))) (fun _ _ h => absurd h.1 (by simp)) ?_
   intro w leF_panel_Scores_L6 m s hs
   obtain ⟨restF_panel_Scores_L6, iF_panel_Scores_L6, l237, Al237, cl237⟩ := s
   obtain ⟨hmF_panel_Scores_L6, hdF_panel_Scores_L6, hiF_panel_Scores_L6, H, hl237⟩ := hs
   replace hdF_panel_Scores_L6 : restF_panel_Scores_L6 = List.drop iF_panel_Scores_L6 y101.1 := hdF_panel_Scores_L6
   replace H : F_panel_Scores_L6 p0 y101 l216 l217 x218 (F_panel_Scores_L5 p0 y101 mF_panel_Scores_L5) x219 restF_panel_Scores_L6 iF_panel_Scores_L6 l237 = some r := H
   replace hmF_panel_Scores_L6 : m + 1 = restF_panel_Scores_L6.length + 1 := hmF_panel_Scores_L6
   replace hp0_0 := hp0_0.leR leF_panel_Scores_L6
   replace hp0_1 := hp0_1.leR leF_panel_Scores_L6
   replace hp0_2 := hp0_2.leR leF_panel_Scores_L6
   replace leB := leB.trans leF_panel_Scores_L6
   replace leF_panel_Scores_L5 := leF_panel_Scores_L5.trans leF_panel_Scores_L6
   replace hl237 : SlF Al237 (l237).length cl237 := hl237
   obtain rfl : m = restF_panel_Scores_L6.length := by omega
   clear hmF_panel_Scores_L6
   show Tr _ _ (LF [(1, (.pointer (some ⟨b100, 0, none⟩))), (4, (.slice Ay101_0 (y101.1).length cy101_0)), (6, (.slice Al216 (l216).length cl216)), (8, (.pointer (some ⟨b220, 0, none⟩))), (9, (.slice Al237 (l237).length cl237)), (24, (.slice Al217 (l217).length cl217)), (25, (.int .i64 2)), (26, (.int .i64 x218)), (30, (.slice Ay101_0 (y101.1).length cy101_0)), (31, (.int .i64 (y101.1.length : Int))), (32, (.int .i64 (iF_panel_Scores_L6 : Int)))]) (LE [(1, bx b100 #[(.int .i64 p0.W), (.int .i64 p0.H), (.int .i64 p0.Rail), (.int .i64 p0.Gap), (.slice Ap0_0 (p0.Kinds).length cp0_0), (.slice Ap0_1 (p0.Slots).length cp0_1), (.slice Ap0_2 (p0.Marks).length cp0_2)] 26), (3, ow Ay101_0 cy101_0 38 fl_TRect y101.1), (5, ow Al216 cl216 40 fl_TCut l216), (39, ow Al217 cl217 4 fl_bool l217), (40, bx b220 #[(.bool x219)] 4), (41, ow Al237 cl237 3 fl_i64 l237)]) _
   cases restF_panel_Scores_L6 with
   | nil =>
    rw [F_panel_Scores_L6.eq_1] at H
    refine Tr.sr ?_
    refine Tr.va rfl (fun _ _ h1 h2 => run_lss (h1.ev rfl) (h1.ev rfl)) ?_
    refine Tr.nil (Tr.normThen ?_)
    refine Tr.seq ?_
    refine Tr.condF rfl (range_nil hdF_panel_Scores_L6) ?_
    refine Tr.exit (Tr.exitThen (Tr.exitThen (Tr.exitBlock (Tr.normThen ?_))))
    refine Tr.sr ?_
    refine Tr.mv rfl rfl ?_
    obtain ⟨y238, hy238, H⟩ := bnd H
    refine Tr.callM [41] [ow Al237 cl237 3 fl_i64 l237] (U := Unit) (fun u => (.tuple #[])) (fun u => (y238).length = (l237).length) (fun u => [ow Al237 cl237 3 fl_i64 y238]) rfl (pk_cons rfl pk_nil) (fun _ => rfl) (wn rfl) rfl Try.call29 (evl_cons rfl evl_nil) (fun W hW hp hE => F_slices_Sort_int_ok l237 Al237 cl237 y238 hy238 hE) ?_
    intro u hu
    have gky238_0 := hu
    have hgky238_0 : (y238).length = (l237).length := gky238_0 --@phi
    have hfky238_0 : SlF Al237 (y238).length cl237 := by rw [hgky238_0]; exact hl237
    show Tr _ _ (uf _ 49 (.tuple #[])) (up _ 41 (ow Al237 cl237 3 fl_i64 y238)) _
    refine Tr.sel (lf := [(1, (.pointer (some ⟨b100, 0, none⟩))), (4, (.slice Ay101_0 (y101.1).length cy101_0)), (6, (.slice Al216 (l216).length cl216)), (8, (.pointer (some ⟨b220, 0, none⟩))), (9, (.slice Al237 (y238).length cl237)), (24, (.slice Al217 (l217).length cl217)), (25, (.int .i64 2)), (26, (.int .i64 x218)), (30, (.slice Ay101_0 (y101.1).length cy101_0)), (31, (.int .i64 (y101.1.length : Int))), (32, (.int .i64 (iF_panel_Scores_L6 : Int))), (33, (.bool (decide ((iF_panel_Scores_L6 : Int) < (y101.1.length : Int))))), (48, (.slice Al237 (y238).length cl237)), (49, (.tuple #[]))]) (le := [(1, bx b100 #[(.int .i64 p0.W), (.int .i64 p0.H), (.int .i64 p0.Rail), (.int .i64 p0.Gap), (.slice Ap0_0 (p0.Kinds).length cp0_0), (.slice Ap0_1 (p0.Slots).length cp0_1), (.slice Ap0_2 (p0.Marks).length cp0_2)] 26), (3, ow Ay101_0 cy101_0 38 fl_TRect y101.1), (5, ow Al216 cl216 40 fl_TCut l216), (39, ow Al217 cl217 4 fl_bool l217), (40, bx b220 #[(.bool x219)] 4), (41, ow Al237 cl237 3 fl_i64 y238)]) (.cons rfl (.cons rfl (.cons rfl (.cons rfl (.cons (slenV rfl (by rw [hgky238_0])) (.cons rfl (.cons rfl (.cons rfl (.cons rfl (.cons rfl (.cons rfl (.cons rfl (.cons (slenV rfl (by rw [hgky238_0])) (.cons rfl .nil)))))))))))))) (.cons rfl (.cons rfl (.cons rfl (.cons rfl (.cons rfl (.cons rfl .nil)))))) ?_
    refine Tr.nil (Tr.normThen ?_)
    refine Tr.sr ?_
    refine Tr.mv rfl rfl ?_
    obtain ⟨y240, hy240, H⟩ := bnd H
    refine Tr.callM [41] [ow Al237 cl237 3 fl_i64 y238] (U := (Option Addr × Nat)) (fun u => (.slice u.1 (y240).length u.2)) (fun u => SlF u.1 (y240).length u.2) (fun u => [ow u.1 u.2 3 fl_i64 y240]) rfl (pk_cons rfl pk_nil) (fun _ => rfl) (wn rfl) rfl Try.call30 (evl_cons rfl evl_nil) (fun W hW hp hE => F_slices_Compact_int_ok y238 Al237 cl237 y240 hy240 hE) ?_
    intro u hu
    obtain ⟨Ay240_0, cy240_0⟩ := u
    have gy240_0 := hu
    have hgy240_0 : SlF Ay240_0 (y240).length cy240_0 := gy240_0 --@phi
    show Tr _ _ (uf _ 51 (.slice Ay240_0 (y240).length cy240_0)) (up _ 41 (ow Ay240_0 cy240_0 3 fl_i64 y240)) _
    refine Tr.va rfl (fun _ _ h1 h2 => run_len un_44 (h1.ev rfl)) ?_
    refine Tr.mv rfl rfl ?_
    refine Tr.nil (Tr.normThen ?_)
    refine Tr.block ?_
    refine Tr.loop (σ := (List Int) × Nat × (List TCut) × (Option Addr) × Nat) (fun m w s => m = s.1.length + 1 ∧ s.1 = List.drop s.2.1 y240 ∧ s.2.1 ≤ y240.length ∧ F_panel_Scores_L7 p0 y101 l217 x218 (F_panel_Scores_L5 p0 y101 mF_panel_Scores_L5) x219 s.1 s.2.1 s.2.2.1 = some r ∧ SlF s.2.2.2.1 (s.2.2.1).length s.2.2.2.2) (fun s => [(1, (.pointer (some ⟨b100, 0, none⟩))), (4, (.slice Ay101_0 (y101.1).length cy101_0)), (6, (.slice s.2.2.2.1 (s.2.2.1).length s.2.2.2.2)), (8, (.pointer (some ⟨b220, 0, none⟩))), (24, (.slice Al217 (l217).length cl217)), (25, (.int .i64 2)), (26, (.int .i64 x218)), (51, (.slice Ay240_0 (y240).length cy240_0)), (52, (.int .i64 (y240.length : Int))), (53, (.int .i64 (s.2.1 : Int)))]) (fun s => [(1, bx b100 #[(.int .i64 p0.W), (.int .i64 p0.H), (.int .i64 p0.Rail), (.int .i64 p0.Gap), (.slice Ap0_0 (p0.Kinds).length cp0_0), (.slice Ap0_1 (p0.Slots).length cp0_1), (.slice Ap0_2 (p0.Marks).length cp0_2)] 26), (3, ow Ay101_0 cy101_0 38 fl_TRect y101.1), (5, ow s.2.2.2.1 s.2.2.2.2 40 fl_TCut s.2.2.1), (39, ow Al217 cl217 4 fl_bool l217), (40, bx b220 #[(.bool x219)] 4), (41, ow Ay240_0 cy240_0 3 fl_i64 y240)]) (y240.length + 1) (y240, 0, l216, Al216, cl216) ⟨rfl, rfl, Nat.zero_le _, H, hl216⟩ (.cons rfl (.cons rfl (.cons rfl (.cons rfl (.cons rfl (.cons rfl (.cons rfl (.cons rfl (.cons rfl (.cons rfl .nil)))))))))) (.cons rfl (.cons rfl (.cons rfl (.cons rfl (.cons rfl (.cons rfl .nil)))))) (fun _ _ h => absurd h.1 (by simp)) ?_
    intro w leF_panel_Scores_L7 m s hs
    obtain ⟨restF_panel_Scores_L7, iF_panel_Scores_L7, l260, Al260, cl260⟩ := s
    obtain ⟨hmF_panel_Scores_L7, hdF_panel_Scores_L7, hiF_panel_Scores_L7, H, hl260⟩ := hs
    replace hdF_panel_Scores_L7 : restF_panel_Scores_L7 = List.drop iF_panel_Scores_L7 y240 := hdF_panel_Scores_L7
    replace H : F_panel_Scores_L7 p0 y101 l217 x218 (F_panel_Scores_L5 p0 y101 mF_panel_Scores_L5) x219 restF_panel_Scores_L7 iF_panel_Scores_L7 l260 = some r := H
    replace hmF_panel_Scores_L7 : m + 1 = restF_panel_Scores_L7.length + 1 := hmF_panel_Scores_L7
    replace hp0_0 := hp0_0.leR leF_panel_Scores_L7
    replace hp0_1 := hp0_1.leR leF_panel_Scores_L7
    replace hp0_2 := hp0_2.leR leF_panel_Scores_L7
    replace leB := leB.trans leF_panel_Scores_L7
    replace leF_panel_Scores_L5 := leF_panel_Scores_L5.trans leF_panel_Scores_L7
    replace leF_panel_Scores_L6 := leF_panel_Scores_L6.trans leF_panel_Scores_L7
    replace hl260 : SlF Al260 (l260).length cl260 := hl260
    obtain rfl : m = restF_panel_Scores_L7.length := by omega
    clear hmF_panel_Scores_L7
    show Tr _ _ (LF [(1, (.pointer (some ⟨b100, 0, none⟩))), (4, (.slice Ay101_0 (y101.1).length cy101_0)), (6, (.slice Al260 (l260).length cl260)), (8, (.pointer (some ⟨b220, 0, none⟩))), (24, (.slice Al217 (l217).length cl217)), (25, (.int .i64 2)), (26, (.int .i64 x218)), (51, (.slice Ay240_0 (y240).length cy240_0)), (52, (.int .i64 (y240.length : Int))), (53, (.int .i64 (iF_panel_Scores_L7 : Int)))]) (LE [(1, bx b100 #[(.int .i64 p0.W), (.int .i64 p0.H), (.int .i64 p0.Rail), (.int .i64 p0.Gap), (.slice Ap0_0 (p0.Kinds).length cp0_0), (.slice Ap0_1 (p0.Slots).length cp0_1), (.slice Ap0_2 (p0.Marks).length cp0_2)] 26), (3, ow Ay101_0 cy101_0 38 fl_TRect y101.1), (5, ow Al260 cl260 40 fl_TCut l260), (39, ow Al217 cl217 4 fl_bool l217), (40, bx b220 #[(.bool x219)] 4), (41, ow Ay240_0 cy240_0 3 fl_i64 y240)]) _
    cases restF_panel_Scores_L7 with
    | nil =>
     rw [F_panel_Scores_L7.eq_1] at H
     refine Tr.sr ?_
     refine Tr.va rfl (fun _ _ h1 h2 => run_lss (h1.ev rfl) (h1.ev rfl)) ?_
     refine Tr.nil (Tr.normThen ?_)
     refine Tr.seq ?_
     refine Tr.condF rfl (range_nil hdF_panel_Scores_L7) ?_
     refine Tr.exit (Tr.exitThen (Tr.exitThen (Tr.exitBlock (Tr.normBlock (Tr.normThen ?_)))))
     refine Tr.region ?_
     refine Tr.va rfl (fun _ _ h1 h2 => run_add (h1.ev rfl) (h1.ev rfl)) ?_
     refine Tr.mv rfl rfl ?_
     refine Tr.nil ?_
     exact Tr.backThen leF_panel_Scores_L5 (l260, l217, (w64 (x218 + 1)), Al260, cl260, Al217, cl217) ⟨H, hl260, hl217⟩ (.cons rfl (.cons rfl (.cons rfl (.cons rfl (.cons rfl (.cons rfl .nil)))))) (.cons rfl (.cons rfl (.cons rfl (.cons rfl .nil))))
    | cons xF_panel_Scores_L7 restF_panel_Scores_L7 =>
     rw [F_panel_Scores_L7.eq_2] at H
     refine Tr.sr ?_
     refine Tr.va rfl (fun _ _ h1 h2 => run_lss (h1.ev rfl) (h1.ev rfl)) ?_
     refine Tr.nil (Tr.normThen ?_)
     refine Tr.seq ?_
     refine Tr.condT rfl (range_on hdF_panel_Scores_L7) ?_
     refine Tr.skip (Tr.normThen ?_)
     refine Tr.seq ?_
     refine Tr.block ?_
     refine Tr.sr ?_
     refine Tr.va rfl (fun _ _ h1 h2 => run_indexAddr el_44 (h1.ev rfl) hgy240_0 (h1.ev rfl) (Int.natCast_nonneg _) (range_lt hdF_panel_Scores_L7)) ?_
     refine Tr.va rfl (fun _ _ h1 h2 => run_load1 ag_3 (h1.ev rfl) (rdo ef_i64 (k := 41) h2 rfl (range_at hdF_panel_Scores_L7)) rfl) ?_
     refine Tr.alloc 50 (wn rfl) rfl ze_3 fun b261 => ?_
     refine Tr.store 50 (cs := [(.int .i64 xF_panel_Scores_L7)]) [(.int .i64 xF_panel_Scores_L7)] (wn rfl) rfl rfl rfl rfl sz_3 rfl rfl rfl ?_
     refine Tr.nil (Tr.normThen ?_)
     refine Tr.sr ?_
     refine Tr.mv rfl rfl ?_
     refine Tr.mkFunc (vs := [(.pointer (some ⟨b220, 0, none⟩)), (.pointer (some ⟨b261, 0, none⟩))]) (wn rfl) rfl (evl_cons rfl (evl_cons rfl evl_nil)) ?_
     obtain ⟨y262, hy262, H⟩ := bnd H
     refine Tr.call0 (r := (.bool y262)) (wn rfl) rfl Try.call31 (evl_cons rfl (evl_cons rfl evl_nil)) (fun W hW => F_slices_ContainsFunc_Rect_ok y101.1 Ay101_0 cy101_0 (hW.slCall (k := 3) rfl) (fun z0 => F_panel_Scores_1 z0 x219 xF_panel_Scores_L7) 32 [(.pointer (some ⟨b220, 0, none⟩)), (.pointer (some ⟨b261, 0, none⟩))] Try.call32 (fun w' he z0 y hy => F_panel_Scores_1_ok z0 x219 b220 (he.r _ (hW.capR (k := 40) rfl)) (he.cells (hW.capR (k := 40) rfl) (hW.capC (k := 40) rfl)) xF_panel_Scores_L7 b261 (he.r _ (hW.capR (k := 50) rfl)) (he.cells (hW.capR (k := 50) rfl) (hW.capC (k := 50) rfl)) y hy (HF.start _)) y262 hy262 (HF.start _)) ?_
     refine Tr.va rfl (fun _ _ h1 h2 => run_not (h1.ev rfl)) ?_
     refine Tr.nil (Tr.normThen ?_)
     refine Tr.cond rfl H (fun H => ?_) (fun H => ?_)
     ·obtain ⟨y264, hy264, H⟩ := bnd H
      refine Tr.drawF 7 [(6, .makeFunc (.func 0) #[] #[.tmp 66])] [(6, ⟨67, 51, (.func (.func 0) #[] #[(.agg #[(.int .i64 y264.X0), (.int .i64 y264.Y0), (.int .i64 y264.X1), (.int .i64 y264.Y1), (.bool x219), (.int .i64 xF_panel_Scores_L7)])]), fun b => .slice (some ⟨b, 0, none⟩) 1 1, fun b => bx b #[(.int .i64 y264.X0), (.int .i64 y264.Y0), (.int .i64 y264.X1), (.int .i64 y264.Y1), (.bool x219), (.int .i64 xF_panel_Scores_L7)] 40⟩)] [(1, (.pointer (some ⟨b100, 0, none⟩))), (4, (.slice Ay101_0 (y101.1).length cy101_0)), (6, (.slice Al260 (l260).length cl260)), (8, (.pointer (some ⟨b220, 0, none⟩))), (15, (.pointer (some ⟨b261, 0, none⟩))), (24, (.slice Al217 (l217).length cl217)), (25, (.int .i64 2)), (26, (.int .i64 x218)), (51, (.slice Ay240_0 (y240).length cy240_0)), (52, (.int .i64 (y240.length : Int))), (53, (.int .i64 (iF_panel_Scores_L7 : Int))), (54, (.bool (decide ((iF_panel_Scores_L7 : Int) < (y240.length : Int))))), (55, (.pointer (some ⟨adB Ay240_0, adO Ay240_0 + ((iF_panel_Scores_L7 : Int)).toNat * 1, none⟩))), (56, (.int .i64 xF_panel_Scores_L7)), (57, (.slice Ay101_0 (y101.1).length cy101_0)), (58, (.func (.func 32) #[] #[(.pointer (some ⟨b220, 0, none⟩)), (.pointer (some ⟨b261, 0, none⟩))])), (59, (.bool y262)), (60, (.bool (!y262))), (61, (.slice Al260 (l260).length cl260)), (62, (.agg #[(.int .i64 p0.W), (.int .i64 p0.H), (.int .i64 p0.Rail), (.int .i64 p0.Gap), (.slice Ap0_0 (p0.Kinds).length cp0_0), (.slice Ap0_1 (p0.Slots).length cp0_1), (.slice Ap0_2 (p0.Marks).length cp0_2)])), (63, (.agg #[(.int .i64 y264.X0), (.int .i64 y264.Y0), (.int .i64 y264.X1), (.int .i64 y264.Y1)])), (64, (.bool x219)), (65, (.int .i64 xF_panel_Scores_L7)), (66, (.agg #[(.int .i64 y264.X0), (.int .i64 y264.Y0), (.int .i64 y264.X1), (.int .i64 y264.Y1), (.bool x219), (.int .i64 xF_panel_Scores_L7)])), (67, (.func (.func 0) #[] #[(.agg #[(.int .i64 y264.X0), (.int .i64 y264.Y0), (.int .i64 y264.X1), (.int .i64 y264.Y1), (.bool x219), (.int .i64 xF_panel_Scores_L7)])]))] (by kernel_rfl) (by kernel_rfl) (by kernel_rfl) (by kernel_rfl) (by kernel_rfl) (by kernel_rfl) (by kernel_rfl) (fall_cons (fr_lit (vs := [(0, (.agg #[(.int .i64 y264.X0), (.int .i64 y264.Y0), (.int .i64 y264.X1), (.int .i64 y264.Y1), (.bool x219), (.int .i64 xF_panel_Scores_L7)]))]) rfl rfl rfl (by kernel_rfl)) fall_nil) (fall_cons rfl fall_nil) (fall_cons rfl fall_nil) ?_ ?_
      ·refine Tq.mv rfl rfl ?_
       refine Tq.va rfl (fun _ _ h1 h2 => run_loadN (cs := [(.int .i64 p0.W), (.int .i64 p0.H), (.int .i64 p0.Rail), (.int .i64 p0.Gap), (.slice Ap0_0 (p0.Kinds).length cp0_0), (.slice Ap0_1 (p0.Slots).length cp0_1), (.slice Ap0_2 (p0.Marks).length cp0_2)]) ag_26 sz_26 (h1.ev rfl) (CellsAt.take (rdb h2 (vs := [(.int .i64 p0.W), (.int .i64 p0.H), (.int .i64 p0.Rail), (.int .i64 p0.Gap), (.slice Ap0_0 (p0.Kinds).length cp0_0), (.slice Ap0_1 (p0.Slots).length cp0_1), (.slice Ap0_2 (p0.Marks).length cp0_2)]) (k := 1) rfl 0) 7) rfl) ?_
       refine Tq.call0 (r := (.agg #[(.int .i64 y264.X0), (.int .i64 y264.Y0), (.int .i64 y264.X1), (.int .i64 y264.Y1)])) (wn rfl) rfl Try.call27 (evl_cons rfl evl_nil) (fun W hW => F_panel_whole_ok p0 Ap0_0 cp0_0 (hp0_0.ext hW.extAll) Ap0_1 cp0_1 (hp0_1.ext hW.extAll) Ap0_2 cp0_2 (hp0_2.ext hW.extAll) y264 hy264 (HF.start _)) ?_
       refine Tq.va rfl (fun _ _ h1 h2 => run_load1 ag_4 (h1.ev rfl) (rdb h2 (vs := [(.bool x219)]) (k := 40) rfl 0) rfl) ?_
       refine Tq.va rfl (fun _ _ h1 h2 => run_load1 ag_3 (h1.ev rfl) (rdb h2 (vs := [(.int .i64 xF_panel_Scores_L7)]) (k := 50) rfl 0) rfl) ?_
       refine Tq.build (vs := [(0, (.agg #[(.int .i64 y264.X0), (.int .i64 y264.Y0), (.int .i64 y264.X1), (.int .i64 y264.Y1)])), (1, (.bool x219)), (2, (.int .i64 xF_panel_Scores_L7))]) (cs := [(.int .i64 y264.X0), (.int .i64 y264.Y0), (.int .i64 y264.X1), (.int .i64 y264.Y1), (.bool x219), (.int .i64 xF_panel_Scores_L7)]) (wn rfl) rfl (evs_cons rfl (evs_cons rfl (evs_cons rfl evs_nil))) (by kernel_rfl) ?_
       refine Tq.mkFunc (vs := [(.agg #[(.int .i64 y264.X0), (.int .i64 y264.Y0), (.int .i64 y264.X1), (.int .i64 y264.Y1), (.bool x219), (.int .i64 xF_panel_Scores_L7)])]) (wn rfl) rfl (evl_cons rfl evl_nil) ?_
       exact Tq.fin (.cons rfl (.cons rfl (.cons rfl (.cons rfl (.cons rfl (.cons rfl (.cons rfl (.cons rfl (.cons rfl (.cons rfl (.cons rfl (.cons rfl (.cons rfl (.cons rfl (.cons rfl (.cons rfl (.cons rfl (.cons rfl (.cons rfl (.cons rfl (.cons rfl (.cons rfl (.cons rfl (.cons rfl (.cons rfl .nil)))))))))))))))))))))))))
      ·intro bs263
       refine Tr.sel (lf := [(1, (.pointer (some ⟨b100, 0, none⟩))), (4, (.slice Ay101_0 (y101.1).length cy101_0)), (8, (.pointer (some ⟨b220, 0, none⟩))), (24, (.slice Al217 (l217).length cl217)), (25, (.int .i64 2)), (26, (.int .i64 x218)), (51, (.slice Ay240_0 (y240).length cy240_0)), (52, (.int .i64 (y240.length : Int))), (53, (.int .i64 (iF_panel_Scores_L7 : Int))), (61, (.slice Al260 (l260).length cl260)), (67, (.slice (some ⟨(bs263 6), 0, none⟩) 1 1))]) (le := [(1, bx b100 #[(.int .i64 p0.W), (.int .i64 p0.H), (.int .i64 p0.Rail), (.int .i64 p0.Gap), (.slice Ap0_0 (p0.Kinds).length cp0_0), (.slice Ap0_1 (p0.Slots).length cp0_1), (.slice Ap0_2 (p0.Marks).length cp0_2)] 26), (3, ow Ay101_0 cy101_0 38 fl_TRect y101.1), (5, ow Al260 cl260 40 fl_TCut l260), (39, ow Al217 cl217 4 fl_bool l217), (40, bx b220 #[(.bool x219)] 4), (41, ow Ay240_0 cy240_0 3 fl_i64 y240), (50, bx b261 #[(.int .i64 xF_panel_Scores_L7)] 3), (51, bx (bs263 6) #[(.int .i64 y264.X0), (.int .i64 y264.Y0), (.int .i64 y264.X1), (.int .i64 y264.Y1), (.bool x219), (.int .i64 xF_panel_Scores_L7)] 40)]) (.cons rfl (.cons rfl (.cons rfl (.cons rfl (.cons rfl (.cons rfl (.cons rfl (.cons rfl (.cons rfl (.cons rfl (.cons rfl .nil))))))))))) (.cons rfl (.cons rfl (.cons rfl (.cons rfl (.cons rfl (.cons rfl (.cons rfl (.cons rfl .nil)))))))) ?_
       obtain ⟨l265, hl265, H⟩ := bnd H
       refine Tr.append 5 (t := fl_TCut) (l := l260) (l2 := [(TCut.mk y264 x219 xF_panel_Scores_L7)]) (wn rfl) rfl rfl rfl rfl (fun W hW => ⟨[[(.int .i64 y264.X0), (.int .i64 y264.Y0), (.int .i64 y264.X1), (.int .i64 y264.Y1), (.bool x219), (.int .i64 xF_panel_Scores_L7)]], (.cons ⟨(), trivial, rfl⟩ .nil), rdb hW (vs := [(.int .i64 y264.X0), (.int .i64 y264.Y0), (.int .i64 y264.X1), (.int .i64 y264.Y1), (.bool x219), (.int .i64 xF_panel_Scores_L7)]) (k := 51) rfl 0⟩) un_27 sz_40 zl_40 (by decide) by_40 rfl hl265 fun Al265 cl265 hAl265 => ?_
       refine Tr.asg rfl rfl ?_
       refine Tr.nil (Tr.normBlock (Tr.normThen ?_))
       refine Tr.region ?_
       refine Tr.va rfl (fun _ _ h1 h2 => run_add (h1.ev rfl) (h1.ev rfl)) ?_
       refine Tr.mv rfl rfl ?_
       refine Tr.nil ?_
       exact Tr.backThen leF_panel_Scores_L7 (restF_panel_Scores_L7, (iF_panel_Scores_L7 + 1), l265, Al265, cl265) ⟨rfl, range_tl hdF_panel_Scores_L7, range_lt hdF_panel_Scores_L7, H, hAl265⟩ (.cons rfl (.cons rfl (.cons rfl (.cons rfl (.cons rfl (.cons rfl (.cons rfl (.cons rfl (.cons rfl (.cons (congrArg (fun z => some (Value.int .i64 z)) (range_up hdF_panel_Scores_L7 hgy240_0)) .nil)))))))))) (.cons rfl (.cons rfl (.cons rfl (.cons rfl (.cons rfl (.cons rfl .nil))))))
     ·refine Tr.skip (Tr.normBlock (Tr.normThen ?_))
      refine Tr.region ?_
      refine Tr.va rfl (fun _ _ h1 h2 => run_add (h1.ev rfl) (h1.ev rfl)) ?_
      refine Tr.mv rfl rfl ?_
      refine Tr.nil ?_
      exact Tr.backThen leF_panel_Scores_L7 (restF_panel_Scores_L7, (iF_panel_Scores_L7 + 1), l260, Al260, cl260) ⟨rfl, range_tl hdF_panel_Scores_L7, range_lt hdF_panel_Scores_L7, H, hl260⟩ (.cons rfl (.cons rfl (.cons rfl (.cons rfl (.cons rfl (.cons rfl (.cons rfl (.cons rfl (.cons rfl (.cons (congrArg (fun z => some (Value.int .i64 z)) (range_up hdF_panel_Scores_L7 hgy240_0)) .nil)))))))))) (.cons rfl (.cons rfl (.cons rfl (.cons rfl (.cons rfl (.cons rfl .nil))))))
   | cons xF_panel_Scores_L6 restF_panel_Scores_L6 =>
    rw [F_panel_Scores_L6.eq_2] at H
    refine Tr.sr ?_
    refine Tr.va rfl (fun _ _ h1 h2 => run_lss (h1.ev rfl) (h1.ev rfl)) ?_
    refine Tr.nil (Tr.normThen ?_)
    refine Tr.seq ?_
    refine Tr.condT rfl (range_on hdF_panel_Scores_L6) ?_
    refine Tr.skip (Tr.normThen ?_)
    refine Tr.seq ?_
    refine Tr.block ?_
    refine Tr.sr ?_
    refine Tr.va rfl (fun _ _ h1 h2 => run_indexAddr el_32 (h1.ev rfl) hgy101_0 (h1.ev rfl) (Int.natCast_nonneg _) (range_lt hdF_panel_Scores_L6)) ?_
    refine Tr.va rfl (fun _ _ h1 h2 => run_loadN (cs := [(.int .i64 xF_panel_Scores_L6.X0), (.int .i64 xF_panel_Scores_L6.Y0), (.int .i64 xF_panel_Scores_L6.X1), (.int .i64 xF_panel_Scores_L6.Y1)]) ag_38 sz_38 (h1.ev rfl) (CellsAt.take (rdo ef_TRect (k := 3) h2 rfl (range_at hdF_panel_Scores_L6)) 4) rfl) ?_
    refine Tr.alloc 52 (wn rfl) rfl ze_38 fun b266 => ?_
    refine Tr.store 52 (cs := [(.int .i64 xF_panel_Scores_L6.X0), (.int .i64 xF_panel_Scores_L6.Y0), (.int .i64 xF_panel_Scores_L6.X1), (.int .i64 xF_panel_Scores_L6.Y1)]) [(.int .i64 xF_panel_Scores_L6.X0), (.int .i64 xF_panel_Scores_L6.Y0), (.int .i64 xF_panel_Scores_L6.X1), (.int .i64 xF_panel_Scores_L6.Y1)] (wn rfl) rfl rfl rfl rfl sz_38 rfl rfl rfl ?_
    refine Tr.nil (Tr.normThen ?_)
    refine Tr.sr ?_
    refine Tr.va rfl (fun _ _ h1 h2 => run_loadN (cs := [(.int .i64 xF_panel_Scores_L6.X0), (.int .i64 xF_panel_Scores_L6.Y0), (.int .i64 xF_panel_Scores_L6.X1), (.int .i64 xF_panel_Scores_L6.Y1)]) ag_38 sz_38 (h1.ev rfl) (CellsAt.take (rdb h2 (vs := [(.int .i64 xF_panel_Scores_L6.X0), (.int .i64 xF_panel_Scores_L6.Y0), (.int .i64 xF_panel_Scores_L6.X1), (.int .i64 xF_panel_Scores_L6.Y1)]) (k := 52) rfl 0) 4) rfl) ?_
    refine Tr.va rfl (fun _ _ h1 h2 => run_load1 ag_4 (h1.ev rfl) (rdb h2 (vs := [(.bool x219)]) (k := 40) rfl 0) rfl) ?_
    obtain ⟨y267, hy267, H⟩ := bnd H
    refine Tr.call0 (r := (.tuple #[(.int .i64 y267.1), (.int .i64 y267.2)])) (wn rfl) rfl Try.call28 (evl_cons rfl (evl_cons rfl evl_nil)) (fun W hW => F_panel_along_ok xF_panel_Scores_L6 x219 y267 hy267 (HF.start _)) ?_
    refine Tr.mv rfl rfl ?_
    refine Tr.va rfl (fun _ _ h1 h2 => run_extract (h1.ev rfl) rfl) ?_
    refine Tr.va rfl (fun _ _ h1 h2 => run_extract (h1.ev rfl) rfl) ?_
    refine Tr.asg rfl rfl ?_
    refine Tr.asg rfl rfl ?_
    refine Tr.nil (Tr.normThen ?_)
    refine Tr.region ?_
    refine Tr.mv rfl rfl ?_
    refine Tr.mv rfl rfl ?_
    refine Tr.mv rfl rfl ?_
    refine Tr.buildSlice 53 (e := 3) (vs := [(0, (.int .i64 y267.1)), (1, (.int .i64 y267.2))]) (cs := [(.int .i64 y267.1), (.int .i64 y267.2)]) (wn rfl) rfl (evs_cons rfl (evs_cons rfl evs_nil)) (by kernel_rfl) fun b268 => ?_
    obtain ⟨l269, hl269, H⟩ := bnd H
    refine Tr.append 41 (t := fl_i64) (l := l237) (l2 := [y267.1, y267.2]) (wn rfl) rfl rfl rfl rfl (fun W hW => ⟨[[(.int .i64 y267.1)], [(.int .i64 y267.2)]], (.cons ⟨(), trivial, rfl⟩ (.cons ⟨(), trivial, rfl⟩ .nil)), rdb hW (vs := [(.int .i64 y267.1), (.int .i64 y267.2)]) (k := 53) rfl 0⟩) un_44 sz_3 zl_3 (by decide) by_3 rfl hl269 fun Al269 cl269 hAl269 => ?_
    refine Tr.asg rfl rfl ?_
    refine Tr.nil (Tr.normBlock (Tr.normThen ?_))
    refine Tr.region ?_
    refine Tr.va rfl (fun _ _ h1 h2 => run_add (h1.ev rfl) (h1.ev rfl)) ?_
    refine Tr.mv rfl rfl ?_
    refine Tr.nil ?_
    exact Tr.backThen leF_panel_Scores_L6 (restF_panel_Scores_L6, (iF_panel_Scores_L6 + 1), l269, Al269, cl269) ⟨rfl, range_tl hdF_panel_Scores_L6, range_lt hdF_panel_Scores_L6, H, hAl269⟩ (.cons rfl (.cons rfl (.cons rfl (.cons rfl (.cons rfl (.cons rfl (.cons rfl (.cons rfl (.cons rfl (.cons rfl (.cons (congrArg (fun z => some (Value.int .i64 z)) (range_up hdF_panel_Scores_L6 hgy101_0)) .nil))))))))))) (.cons rfl (.cons rfl (.cons rfl (.cons rfl (.cons rfl (.cons rfl .nil))))))
  ·refine Tr.exit (Tr.exitThen (Tr.exitThen (Tr.exitBlock (Tr.normThen ?_))))
   refine Tr.sr ?_
   refine Tr.mv rfl rfl ?_
   refine Tr.asg rfl rfl ?_
   refine Tr.asg rfl rfl ?_
   refine Tr.nil (Tr.normThen ?_)
   refine Tr.ret ?_
   obtain rfl := Option.some.inj H
   exact Tr.out (m := [(.slice Al216 (l216).length cl216), (.int .i64 0)]) [] (res_tmp rfl (res_tmp rfl res_nil)) (fun W hW => ⟨(Al216, cl216), rfl, hl216, HF.lowE leB (hW.pick (ks := [5]) (by decide) (pk_cons rfl pk_nil)) ⟨ow_any _ _ _ _ tr_TCut, trivial⟩⟩)

theorem F_etchhouseref9_number_ok (N : Nat) {w : Bs} (p0 : (List Int)) (Ap0_0 : Option Addr) (cp0_0 : Nat) (hp0_0 : Sl w.O w.W fl_i64 Ap0_0 cp0_0 p0) (p1 : Int) (r : (List Int)) (H : F_etchhouseref9_number N p0 p1 = some r) (hE : HF w w.W (LEn [])) : Calls Try.prog 49 [(.slice Ap0_0 (p0).length cp0_0), (.int .i64 p1)].toArray w.W fun e W' => ∃ (w' : Bs) (u : (Option Addr × Nat)), w.Le w' ∧ e = .returned (.slice u.1 (r).length u.2) ∧ (Sl w'.O w'.W fl_i64 u.1 u.2 r) ∧ HF w' W' (LEn []) := by
 unfold F_etchhouseref9_number at H
 have leB := Bs.Le.refl w
 refine Tr.enter (n := 48) Try.func49 rfl rfl rfl hE ?_
 refine Tr.sr ?_
 refine Tr.asg rfl rfl ?_
 refine Tr.nilOwn 1 3 fl_i64 ?_
 show Tr _ _ (uf _ 4 (.slice none (([] : List Int)).length 0)) _ _
 refine Tr.nil (Tr.normThen ?_)
 refine Tr.sr ?_
 refine Tr.mv rfl rfl ?_
 refine Tr.va rfl (fun _ _ h1 h2 => run_len un_44 (h1.ev rfl)) ?_
 refine Tr.asg rfl rfl ?_
 refine Tr.nil (Tr.normThen ?_)
 refine Tr.seq ?_
 refine Tr.block ?_
 refine Tr.loop (σ := Int) (fun m w s => F_etchhouseref9_number_L1 p0 p1 m s = some r) (fun s => [(0, (.slice Ap0_0 (p0).length cp0_0)), (1, (.int .i64 p1)), (5, (.int .i64 s))]) (fun s => []) N (p0.length : Int) H (.cons rfl (.cons rfl (.cons rfl .nil))) .nil (fun _ _ h => noSome (h)) ?_
 intro w leF_etchhouseref9_number_L1 mF_etchhouseref9_number_L1 x109 hs
 have H := hs
 replace H : F_etchhouseref9_number_L1 p0 p1 (mF_etchhouseref9_number_L1 + 1) x109 = some r := H
 replace hp0_0 := hp0_0.le leF_etchhouseref9_number_L1
 replace leB := leB.trans leF_etchhouseref9_number_L1
 rw [F_etchhouseref9_number_L1.eq_2] at H
 show Tr _ _ (LF [(0, (.slice Ap0_0 (p0).length cp0_0)), (1, (.int .i64 p1)), (5, (.int .i64 x109))]) (LE []) _
 refine Tr.seq ?_
 refine Tr.sr ?_
 refine Tr.mv rfl rfl ?_
 refine Tr.va rfl (fun _ _ h1 h2 => run_gtr (h1.ev rfl) (h1.ev rfl)) ?_
 refine Tr.mv rfl rfl ?_
 obtain ⟨g111, hg111, H⟩ := bnd H
 refine Tr.mid0 8 [(0, (.slice Ap0_0 (p0).length cp0_0)), (1, (.int .i64 p1)), (5, (.int .i64 x109)), (19, (.bool g111))] [] ?_ ?_
 ·cases hg123 : (decide (0 < x109))
  ·rw [hg123] at hg111
   rw [if_neg (by decide)] at hg111
   have H := hg111
   obtain rfl := Option.some.inj H
   refine Tr.pass rfl rfl rfl rfl rfl (by decide) ?_
   refine Tr.pass rfl rfl rfl rfl rfl (by decide) ?_
   refine Tr.pass rfl rfl rfl rfl rfl (by decide) ?_
   refine Tr.pass rfl rfl rfl rfl rfl (by decide) ?_
   refine Tr.pass rfl rfl rfl rfl rfl (by decide) ?_
   refine Tr.pass rfl rfl rfl rfl rfl (by decide) ?_
   refine Tr.pass rfl rfl rfl rfl rfl (by decide) ?_
   refine Tr.va rfl (fun _ _ h1 h2 => run_pickF (h1.ev rfl) (h1.ev rfl)) ?_
   exact Tr.nil (Tr.fin0 (.cons rfl (.cons rfl (.cons rfl (.cons rfl .nil)))) .nil)
  ·rw [hg123] at hg111
   rw [if_pos rfl] at hg111
   have H := hg111
   refine Tr.val (wg rfl rfl rfl) rfl (fun _ _ h1 h2 => run_move (h1.ev rfl)) ?_
   refine Tr.val (wg rfl rfl rfl) rfl (fun _ _ h1 h2 => run_move (h1.ev rfl)) ?_
   refine Tr.val (wg rfl rfl rfl) rfl (fun _ _ h1 h2 => run_sub (h1.ev rfl) (h1.ev rfl)) ?_
   obtain ⟨x112, hx112, H⟩ := bnd H
   obtain ⟨hx1120, hx1121, hx1122⟩ := idx_some hx112
   refine Tr.val (wg rfl rfl rfl) rfl (fun _ _ h1 h2 => run_indexAddr el_44 (h1.ev rfl) hp0_0.form (h1.ev rfl) hx1120 hx1121) ?_
   refine Tr.val (wg rfl rfl rfl) rfl (fun _ _ h1 h2 => run_load1 ag_3 (h1.ev rfl) (rdF ef_i64 (hp0_0.rl) hx1122 h2) rfl) ?_
   refine Tr.val (wg rfl rfl rfl) rfl (fun _ _ h1 h2 => run_move (h1.ev rfl)) ?_
   refine Tr.val (wg rfl rfl rfl) rfl (fun _ _ h1 h2 => run_gtr (h1.ev rfl) (h1.ev rfl)) ?_
   refine Tr.va rfl (fun _ _ h1 h2 => run_pickT (h1.ev rfl) (h1.ev rfl)) ?_
   obtain rfl := Option.some.inj H
   exact Tr.nil (Tr.fin0 (.cons rfl (.cons rfl (.cons rfl (.cons rfl .nil)))) .nil)
 ·show Tr _ _ (LF [(0, (.slice Ap0_0 (p0).length cp0_0)), (1, (.int .i64 p1)), (5, (.int .i64 x109)), (19, (.bool g111))]) (LE []) _
  refine Tr.nil (Tr.normThen ?_)
  refine Tr.cond rfl H (fun H => ?_) (fun H => ?_)
  ·refine Tr.skip (Tr.normThen ?_)
   refine Tr.block ?_
   refine Tr.region ?_
   refine Tr.mv rfl rfl ?_
   refine Tr.va rfl (fun _ _ h1 h2 => run_sub (h1.ev rfl) (h1.ev rfl)) ?_
   refine Tr.asg rfl rfl ?_
   refine Tr.nil (Tr.normBlock ?_)
   exact Tr.backThen leF_etchhouseref9_number_L1 (w64 (x109 - 1)) H (.cons rfl (.cons rfl (.cons rfl .nil))) .nil
  ·refine Tr.exit (Tr.exitThen (Tr.exitThen (Tr.exitBlock (Tr.normThen ?_))))
   refine Tr.seq ?_
   refine Tr.sr ?_
   refine Tr.mv rfl rfl ?_
   refine Tr.va rfl (fun _ _ h1 h2 => run_gtr (h1.ev rfl) (h1.ev rfl)) ?_
   refine Tr.mv rfl rfl ?_
   obtain ⟨g114, hg114, H⟩ := bnd H
   refine Tr.mid0 8 [(0, (.slice Ap0_0 (p0).length cp0_0)), (1, (.int .i64 p1)), (5, (.int .i64 x109)), (32, (.bool g114))] [] ?_ ?_
   ·cases hg123 : (decide (0 < x109))
    ·rw [hg123] at hg114
     rw [if_neg (by decide)] at hg114
     have H := hg114
     obtain rfl := Option.some.inj H
     refine Tr.pass rfl rfl rfl rfl rfl (by decide) ?_
     refine Tr.pass rfl rfl rfl rfl rfl (by decide) ?_
     refine Tr.pass rfl rfl rfl rfl rfl (by decide) ?_
     refine Tr.pass rfl rfl rfl rfl rfl (by decide) ?_
     refine Tr.pass rfl rfl rfl rfl rfl (by decide) ?_
     refine Tr.pass rfl rfl rfl rfl rfl (by decide) ?_
     refine Tr.pass rfl rfl rfl rfl rfl (by decide) ?_
     refine Tr.va rfl (fun _ _ h1 h2 => run_pickF (h1.ev rfl) (h1.ev rfl)) ?_
     exact Tr.nil (Tr.fin0 (.cons rfl (.cons rfl (.cons rfl (.cons rfl .nil)))) .nil)
    ·rw [hg123] at hg114
     rw [if_pos rfl] at hg114
     have H := hg114
     refine Tr.val (wg rfl rfl rfl) rfl (fun _ _ h1 h2 => run_move (h1.ev rfl)) ?_
     refine Tr.val (wg rfl rfl rfl) rfl (fun _ _ h1 h2 => run_move (h1.ev rfl)) ?_
     refine Tr.val (wg rfl rfl rfl) rfl (fun _ _ h1 h2 => run_sub (h1.ev rfl) (h1.ev rfl)) ?_
     obtain ⟨x115, hx115, H⟩ := bnd H
     obtain ⟨hx1150, hx1151, hx1152⟩ := idx_some hx115
     refine Tr.val (wg rfl rfl rfl) rfl (fun _ _ h1 h2 => run_indexAddr el_44 (h1.ev rfl) hp0_0.form (h1.ev rfl) hx1150 hx1151) ?_
     refine Tr.val (wg rfl rfl rfl) rfl (fun _ _ h1 h2 => run_load1 ag_3 (h1.ev rfl) (rdF ef_i64 (hp0_0.rl) hx1152 h2) rfl) ?_
     refine Tr.val (wg rfl rfl rfl) rfl (fun _ _ h1 h2 => run_move (h1.ev rfl)) ?_
     refine Tr.val (wg rfl rfl rfl) rfl (fun _ _ h1 h2 => run_eql (h1.ev rfl) (h1.ev rfl)) ?_
     refine Tr.va rfl (fun _ _ h1 h2 => run_pickT (h1.ev rfl) (h1.ev rfl)) ?_
     obtain rfl := Option.some.inj H
     exact Tr.nil (Tr.fin0 (.cons rfl (.cons rfl (.cons rfl (.cons rfl .nil)))) .nil)
   ·show Tr _ _ (LF [(0, (.slice Ap0_0 (p0).length cp0_0)), (1, (.int .i64 p1)), (5, (.int .i64 x109)), (32, (.bool g114))]) (LE []) _
    refine Tr.nil (Tr.normThen ?_)
    refine Tr.cond rfl H (fun H => ?_) (fun H => ?_)
    ·refine Tr.sr ?_
     refine Tr.mv rfl rfl ?_
     refine Tr.asg rfl rfl ?_
     refine Tr.nil (Tr.normThen ?_)
     refine Tr.ret (Tr.retThen ?_)
     obtain rfl := Option.some.inj H
     exact Tr.out (m := [(.slice Ap0_0 (p0).length cp0_0)]) [] (res_tmp rfl res_nil) (fun W hW => ⟨w, (Ap0_0, cp0_0), leB, rfl, hp0_0, hW.pick (ks := []) (by decide) pk_nil⟩)
    ·refine Tr.skip (Tr.normThen ?_)
     refine Tr.sr ?_
     refine Tr.asg rfl rfl ?_
     refine Tr.nilOwn 2 3 fl_i64 ?_
     show Tr _ _ (uf _ 6 (.slice none (([] : List Int)).length 0)) _ _
     refine Tr.nil (Tr.normThen ?_)
     refine Tr.sr ?_
     refine Tr.mv rfl rfl ?_
     refine Tr.mv rfl rfl ?_
     refine Tr.mv rfl rfl ?_
     obtain ⟨l116, hl116, H⟩ := bnd H
     refine Tr.va rfl (fun _ _ h1 h2 => run_pre el_44 (h1.ev rfl) hp0_0.form (h1.ev rfl) hl116) ?_
     obtain ⟨l117, hl117, H⟩ := bnd H
     refine Tr.appendS 2 (t := fl_i64) (l := ([] : List Int)) (l2 := l116) (wn rfl) rfl rfl rfl rfl (apT tr_i64 (fun W hW => (Sl.pre (Sl.inB (hp0_0.rl) hW) hl116))) un_44 sz_3 zl_3 (by decide) by_3 rfl hl117 fun Al117 cl117 hAl117 => ?_
     refine Tr.asg rfl rfl ?_
     refine Tr.nil (Tr.normThen ?_)
     refine Tr.sr ?_
     refine Tr.mv rfl rfl ?_
     refine Tr.mv rfl rfl ?_
     refine Tr.buildSlice 3 (e := 3) (vs := [(0, (.int .i64 p1))]) (cs := [(.int .i64 p1)]) (wn rfl) rfl (evs_cons rfl evs_nil) (by kernel_rfl) fun b118 => ?_
     obtain ⟨l119, hl119, H⟩ := bnd H
     refine Tr.append 2 (t := fl_i64) (l := l117) (l2 := [p1]) (wn rfl) rfl rfl rfl rfl (fun W hW => ⟨[[(.int .i64 p1)]], (.cons ⟨(), trivial, rfl⟩ .nil), rdb hW (vs := [(.int .i64 p1)]) (k := 3) rfl 0⟩) un_44 sz_3 zl_3 (by decide) by_3 rfl hl119 fun Al119 cl119 hAl119 => ?_
     refine Tr.asg rfl rfl ?_
     refine Tr.nil (Tr.normThen ?_)
     refine Tr.sr ?_
     refine Tr.mv rfl rfl ?_
     refine Tr.mv rfl rfl ?_
     refine Tr.mv rfl rfl ?_
     obtain ⟨l120, hl120, H⟩ := bnd H
     refine Tr.va rfl (fun _ _ h1 h2 => run_cutL el_44 (h1.ev rfl) hp0_0.form (h1.ev rfl) hl120) ?_
     obtain ⟨l121, hl121, H⟩ := bnd H
     refine Tr.appendS 2 (t := fl_i64) (l := l119) (l2 := l120) (wn rfl) rfl rfl rfl rfl (apT tr_i64 (fun W hW => (Sl.cut (Sl.inB (hp0_0.rl) hW) hl120))) un_44 sz_3 zl_3 (by decide) by_3 rfl hl121 fun Al121 cl121 hAl121 => ?_
     refine Tr.asg rfl rfl ?_
     refine Tr.nil (Tr.normThen ?_)
     refine Tr.ret ?_
     obtain rfl := Option.some.inj H
     refine Tr.freeze 2 rfl fun w le123 hz122 => ?_
     replace hp0_0 := hp0_0.le le123
     replace leB := leB.trans le123
     replace leF_etchhouseref9_number_L1 := leF_etchhouseref9_number_L1.trans le123
     exact Tr.out (m := [(.slice Al121 (l121).length cl121)]) [] (res_tmp rfl res_nil) (fun W hW => ⟨w, (Al121, cl121), leB, rfl, hz122, hW.pick (ks := []) (by decide) pk_nil⟩)

theorem F_etchhouseref9_scores_ok (N : Nat) {w : Bs} (p0 : (List TRect)) (Ap0_0 : Option Addr) (cp0_0 : Nat) (hp0_0 : Sl w.R w.W fl_TRect Ap0_0 cp0_0 p0) (r : (List Int)) (H : F_etchhouseref9_scores N p0 = some r) (hE : HF w w.W (LEn [])) : Calls Try.prog 36 [(.slice Ap0_0 (p0).length cp0_0)].toArray w.W fun e W' => ∃ (w' : Bs) (u : (Option Addr × Nat)), w.Le w' ∧ e = .returned (.slice u.1 (r).length u.2) ∧ (Sl w'.O w'.W fl_i64 u.1 u.2 r) ∧ HF w' W' (LEn []) := by
 unfold F_etchhouseref9_scores at H
 have leB := Bs.Le.refl w
 refine Tr.enter (n := 62) Try.func36 rfl rfl rfl hE ?_
 refine Tr.sr ?_
 refine Tr.asg rfl rfl ?_
 refine Tr.nilOwn 1 3 fl_i64 ?_
 show Tr _ _ (uf _ 2 (.slice none (([] : List Int)).length 0)) _ _
 refine Tr.nil (Tr.normThen ?_)
 refine Tr.sr ?_
 refine Tr.asg rfl rfl ?_
 refine Tr.nilOwn 2 3 fl_i64 ?_
 show Tr _ _ (uf _ 3 (.slice none (([] : List Int)).length 0)) _ _
 refine Tr.nil (Tr.normThen ?_)
 refine Tr.seq ?_
 refine Tr.sr ?_
 refine Tr.asg rfl rfl ?_
 refine Tr.nil (Tr.normThen ?_)
 refine Tr.block ?_
 refine Tr.freeze 2 rfl fun w le357 hz356 => ?_
 replace hp0_0 := hp0_0.leR le357
 replace leB := leB.trans le357
 refine Tr.loop (σ := (List Int) × Int × (Option Addr) × Nat) (fun m w s => F_etchhouseref9_scores_L15 N p0 m s.1 s.2.1 = some r ∧ Sl w.O w.W fl_i64 s.2.2.1 s.2.2.2 s.1) (fun s => [(0, (.slice Ap0_0 (p0).length cp0_0)), (3, (.slice s.2.2.1 (s.1).length s.2.2.2)), (4, (.int .i64 s.2.1))]) (fun s => []) N (([] : List Int), 0, none, 0) ⟨H, hz356⟩ (.cons rfl (.cons rfl (.cons rfl .nil))) .nil (fun _ _ h => noSome (h.1)) ?_
 intro w leF_etchhouseref9_scores_L15 mF_etchhouseref9_scores_L15 s hs
 obtain ⟨l354, x355, Al354, cl354⟩ := s
 obtain ⟨H, hl354⟩ := hs
 replace H : F_etchhouseref9_scores_L15 N p0 (mF_etchhouseref9_scores_L15 + 1) l354 x355 = some r := H
 replace hp0_0 := hp0_0.leR leF_etchhouseref9_scores_L15
 replace leB := leB.trans leF_etchhouseref9_scores_L15
 replace hl354 : Sl w.O w.W fl_i64 Al354 cl354 l354 := hl354
 rw [F_etchhouseref9_scores_L15.eq_2] at H
 show Tr _ _ (LF [(0, (.slice Ap0_0 (p0).length cp0_0)), (3, (.slice Al354 (l354).length cl354)), (4, (.int .i64 x355))]) (LE []) _
 refine Tr.seq ?_
 refine Tr.sr ?_
 refine Tr.mv rfl rfl ?_
 refine Tr.mv rfl rfl ?_
 refine Tr.va rfl (fun _ _ h1 h2 => run_len un_32 (h1.ev rfl)) ?_
 refine Tr.va rfl (fun _ _ h1 h2 => run_lss (h1.ev rfl) (h1.ev rfl)) ?_
 refine Tr.nil (Tr.normThen ?_)
 refine Tr.cond rfl H (fun H => ?_) (fun H => ?_)
 ·refine Tr.skip (Tr.normThen ?_)
  refine Tr.seq ?_
  refine Tr.block ?_
  refine Tr.sr ?_
  refine Tr.asg rfl rfl ?_
  refine Tr.nil (Tr.normThen ?_)
  refine Tr.block ?_
  refine Tr.loop (σ := (List Int) × Int × (Option Addr) × Nat) (fun m w s => F_etchhouseref9_scores_L20 N p0 x355 (F_etchhouseref9_scores_L15 N p0 mF_etchhouseref9_scores_L15) m s.1 s.2.1 = some r ∧ Sl w.O w.W fl_i64 s.2.2.1 s.2.2.2 s.1) (fun s => [(0, (.slice Ap0_0 (p0).length cp0_0)), (3, (.slice s.2.2.1 (s.1).length s.2.2.2)), (4, (.int .i64 x355)), (5, (.int .i64 s.2.1))]) (fun s => []) N (l354, 0, Al354, cl354) ⟨H, hl354⟩ (.cons rfl (.cons rfl (.cons rfl (.cons rfl .nil)))) .nil (fun _ _ h => noSome (h.1)) ?_
  intro w leF_etchhouseref9_scores_L20 mF_etchhouseref9_scores_L20 s hs
  obtain ⟨l440, x441, Al440, cl440⟩ := s
  obtain ⟨H, hl440⟩ := hs
  replace H : F_etchhouseref9_scores_L20 N p0 x355 (F_etchhouseref9_scores_L15 N p0 mF_etchhouseref9_scores_L15) (mF_etchhouseref9_scores_L20 + 1) l440 x441 = some r := H
  replace hp0_0 := hp0_0.leR leF_etchhouseref9_scores_L20
  replace leB := leB.trans leF_etchhouseref9_scores_L20
  replace leF_etchhouseref9_scores_L15 := leF_etchhouseref9_scores_L15.trans leF_etchhouseref9_scores_L20
  replace hl440 : Sl w.O w.W fl_i64 Al440 cl440 l440 := hl440
  rw [F_etchhouseref9_scores_L20.eq_2] at H
  show Tr _ _ (LF [(0, (.slice Ap0_0 (p0).length cp0_0)), (3, (.slice Al440 (l440).length cl440)), (4, (.int .i64 x355)), (5, (.int .i64 x441))]) (LE []) _
  refine Tr.seq ?_
  refine Tr.sr ?_
  refine Tr.mv rfl rfl ?_
  refine Tr.va rfl (fun _ _ h1 h2 => run_lss (h1.ev rfl) (h1.ev rfl)) ?_
  refine Tr.nil (Tr.normThen ?_)
  refine Tr.cond rfl H (fun H => ?_) (fun H => ?_)
  ·refine Tr.skip (Tr.normThen ?_)
   refine Tr.seq ?_
   refine Tr.block ?_
   refine Tr.sr ?_
   refine Tr.mv rfl rfl ?_
   refine Tr.mv rfl rfl ?_
   obtain ⟨x442, hx442, H⟩ := bnd H
   obtain ⟨hx4420, hx4421, hx4422⟩ := idx_some hx442
   refine Tr.va rfl (fun _ _ h1 h2 => run_indexAddr el_32 (h1.ev rfl) hp0_0.form (h1.ev rfl) hx4420 hx4421) ?_
   refine Tr.va rfl (fun _ _ h1 h2 => run_fieldAddr fo_38_1 (h1.ev rfl)) ?_
   refine Tr.va rfl (fun _ _ h1 h2 => run_load1 ag_3 (h1.ev rfl) (CellsAt.drop (rdF ef_TRect hp0_0 hx4422 h2) 1) rfl) ?_
   refine Tr.asg rfl rfl ?_
   refine Tr.nil (Tr.normThen ?_)
   have leJ445 := Bs.Le.refl w
   refine Tr.cutJ (σ := Int) (fun w s => F_etchhouseref9_scores_J22 N p0 l440 x441 (F_etchhouseref9_scores_L20 N p0 x355 (F_etchhouseref9_scores_L15 N p0 mF_etchhouseref9_scores_L15) mF_etchhouseref9_scores_L20) s = some r) (fun s => [(0, (.slice Ap0_0 (p0).length cp0_0)), (3, (.slice Al440 (l440).length cl440)), (4, (.int .i64 x355)), (5, (.int .i64 x441)), (6, (.int .i64 s))]) (fun s => []) ?_ ?_
   ·refine Tr.sr ?_
    refine Tr.mv rfl rfl ?_
    refine Tr.va rfl (fun _ _ h1 h2 => run_eql (h1.ev rfl) (h1.ev rfl)) ?_
    refine Tr.nil (Tr.normThen ?_)
    refine Tr.cond rfl H (fun H => ?_) (fun H => ?_)
    ·refine Tr.region ?_
     refine Tr.mv rfl rfl ?_
     refine Tr.mv rfl rfl ?_
     obtain ⟨x479, hx479, H⟩ := bnd H
     obtain ⟨hx4790, hx4791, hx4792⟩ := idx_some hx479
     refine Tr.va rfl (fun _ _ h1 h2 => run_indexAddr el_32 (h1.ev rfl) hp0_0.form (h1.ev rfl) hx4790 hx4791) ?_
     refine Tr.va rfl (fun _ _ h1 h2 => run_fieldAddr fo_38_3 (h1.ev rfl)) ?_
     refine Tr.va rfl (fun _ _ h1 h2 => run_load1 ag_3 (h1.ev rfl) (CellsAt.drop (rdF ef_TRect hp0_0 hx4792 h2) 3) rfl) ?_
     refine Tr.asg rfl rfl ?_
     refine Tr.nil ?_
     exact Tr.backThen leJ445 x479.Y1 H (.cons rfl (.cons rfl (.cons rfl (.cons rfl (.cons rfl .nil))))) .nil
    ·refine Tr.skip ?_
     exact Tr.backThen leJ445 x442.Y0 H (.cons rfl (.cons rfl (.cons rfl (.cons rfl (.cons rfl .nil))))) .nil
   ·intro w x444 hlJ446 hs
    have H := hs
    replace H : F_etchhouseref9_scores_J22 N p0 l440 x441 (F_etchhouseref9_scores_L20 N p0 x355 (F_etchhouseref9_scores_L15 N p0 mF_etchhouseref9_scores_L15) mF_etchhouseref9_scores_L20) x444 = some r := H
    replace hp0_0 := hp0_0.leR hlJ446
    replace hl440 := hl440.le hlJ446
    replace leB := leB.trans hlJ446
    replace leF_etchhouseref9_scores_L15 := leF_etchhouseref9_scores_L15.trans hlJ446
    replace leF_etchhouseref9_scores_L20 := leF_etchhouseref9_scores_L20.trans hlJ446
    unfold F_etchhouseref9_scores_J22 at H
    show Tr _ _ (LF [(0, (.slice Ap0_0 (p0).length cp0_0)), (3, (.slice Al440 (l440).length cl440)), (4, (.int .i64 x355)), (5, (.int .i64 x441)), (6, (.int .i64 x444))]) (LE []) _
    refine Tr.sr ?_
    refine Tr.asg rfl rfl ?_
    refine Tr.nil (Tr.normThen ?_)
    refine Tr.seq ?_
    refine Tr.sr ?_
    refine Tr.asg rfl rfl ?_
    refine Tr.nil (Tr.normThen ?_)
    refine Tr.block ?_
    refine Tr.loop (σ := Bool × Int) (fun m w s => F_etchhouseref9_scores_L21 N p0 l440 x441 (F_etchhouseref9_scores_L20 N p0 x355 (F_etchhouseref9_scores_L15 N p0 mF_etchhouseref9_scores_L15) mF_etchhouseref9_scores_L20) x444 m s.1 s.2 = some r) (fun s => [(0, (.slice Ap0_0 (p0).length cp0_0)), (3, (.slice Al440 (l440).length cl440)), (4, (.int .i64 x355)), (5, (.int .i64 x441)), (6, (.int .i64 x444)), (7, (.bool s.1)), (8, (.int .i64 s.2))]) (fun s => []) N (false, 0) H (.cons rfl (.cons rfl (.cons rfl (.cons rfl (.cons rfl (.cons rfl (.cons rfl .nil))))))) .nil (fun _ _ h => noSome (h)) ?_
    intro w leF_etchhouseref9_scores_L21 mF_etchhouseref9_scores_L21 s hs
    obtain ⟨x466, x467⟩ := s
    have H := hs
    replace H : F_etchhouseref9_scores_L21 N p0 l440 x441 (F_etchhouseref9_scores_L20 N p0 x355 (F_etchhouseref9_scores_L15 N p0 mF_etchhouseref9_scores_L15) mF_etchhouseref9_scores_L20) x444 (mF_etchhouseref9_scores_L21 + 1) x466 x467 = some r := H
    replace hp0_0 := hp0_0.leR leF_etchhouseref9_scores_L21
    replace hl440 := hl440.le leF_etchhouseref9_scores_L21
    replace leB := leB.trans leF_etchhouseref9_scores_L21
    replace leF_etchhouseref9_scores_L15 := leF_etchhouseref9_scores_L15.trans leF_etchhouseref9_scores_L21
    replace leF_etchhouseref9_scores_L20 := leF_etchhouseref9_scores_L20.trans leF_etchhouseref9_scores_L21
    rw [F_etchhouseref9_scores_L21.eq_2] at H
    show Tr _ _ (LF [(0, (.slice Ap0_0 (p0).length cp0_0)), (3, (.slice Al440 (l440).length cl440)), (4, (.int .i64 x355)), (5, (.int .i64 x441)), (6, (.int .i64 x444)), (7, (.bool x466)), (8, (.int .i64 x467))]) (LE []) _
    refine Tr.seq ?_
    refine Tr.sr ?_
    refine Tr.mv rfl rfl ?_
    refine Tr.mv rfl rfl ?_
    refine Tr.va rfl (fun _ _ h1 h2 => run_len un_32 (h1.ev rfl)) ?_
    refine Tr.va rfl (fun _ _ h1 h2 => run_lss (h1.ev rfl) (h1.ev rfl)) ?_
    refine Tr.nil (Tr.normThen ?_)
    refine Tr.cond rfl H (fun H => ?_) (fun H => ?_)
    ·refine Tr.skip (Tr.normThen ?_)
     refine Tr.seq ?_
     refine Tr.block ?_
     refine Tr.region ?_
     refine Tr.mv rfl rfl ?_
     refine Tr.mv rfl rfl ?_
     obtain ⟨g472, hg472, H⟩ := bnd H
     refine Tr.mid0 17 [(0, (.slice Ap0_0 (p0).length cp0_0)), (3, (.slice Al440 (l440).length cl440)), (4, (.int .i64 x355)), (5, (.int .i64 x441)), (6, (.int .i64 x444)), (8, (.int .i64 x467)), (55, (.bool g472))] [] ?_ ?_
     ·cases hg476 : x466
      ·rw [hg476] at hg472
       rw [if_neg (by decide)] at hg472
       have H := hg472
       refine Tr.val (wg rfl rfl rfl) rfl (fun _ _ h1 h2 => run_move (h1.ev rfl)) ?_
       refine Tr.val (wg rfl rfl rfl) rfl (fun _ _ h1 h2 => run_move (h1.ev rfl)) ?_
       obtain ⟨x473, hx473, H⟩ := bnd H
       obtain ⟨hx4730, hx4731, hx4732⟩ := idx_some hx473
       refine Tr.val (wg rfl rfl rfl) rfl (fun _ _ h1 h2 => run_indexAddr el_32 (h1.ev rfl) hp0_0.form (h1.ev rfl) hx4730 hx4731) ?_
       refine Tr.val (wg rfl rfl rfl) rfl (fun _ _ h1 h2 => run_fieldAddr fo_38_1 (h1.ev rfl)) ?_
       refine Tr.val (wg rfl rfl rfl) rfl (fun _ _ h1 h2 => run_load1 ag_3 (h1.ev rfl) (CellsAt.drop (rdF ef_TRect hp0_0 hx4732 h2) 1) rfl) ?_
       refine Tr.val (wg rfl rfl rfl) rfl (fun _ _ h1 h2 => run_move (h1.ev rfl)) ?_
       refine Tr.val (wg rfl rfl rfl) rfl (fun _ _ h1 h2 => run_lss (h1.ev rfl) (h1.ev rfl)) ?_
       refine Tr.val (wg rfl rfl rfl) rfl (fun _ _ h1 h2 => run_move (h1.ev rfl)) ?_
       obtain ⟨g475, hg475, H⟩ := bnd H
       refine Tr.mid0 8 [(0, (.slice Ap0_0 (p0).length cp0_0)), (3, (.slice Al440 (l440).length cl440)), (4, (.int .i64 x355)), (5, (.int .i64 x441)), (6, (.int .i64 x444)), (8, (.int .i64 x467)), (38, (.bool false)), (54, (.bool g475))] [] ?_ ?_
       ·cases hg476 : (decide (x473.Y0 < x444))
        ·rw [hg476] at hg475
         rw [if_neg (by decide)] at hg475
         have H := hg475
         obtain rfl := Option.some.inj H
         refine Tr.pass rfl rfl rfl rfl rfl (by decide) ?_
         refine Tr.pass rfl rfl rfl rfl rfl (by decide) ?_
         refine Tr.pass rfl rfl rfl rfl rfl (by decide) ?_
         refine Tr.pass rfl rfl rfl rfl rfl (by decide) ?_
         refine Tr.pass rfl rfl rfl rfl rfl (by decide) ?_
         refine Tr.pass rfl rfl rfl rfl rfl (by decide) ?_
         refine Tr.pass rfl rfl rfl rfl rfl (by decide) ?_
         refine Tr.val (wg rfl rfl rfl) rfl (fun _ _ h1 h2 => run_pickF (h1.ev rfl) (h1.ev rfl)) ?_
         exact Tr.nil (Tr.fin0 (.cons rfl (.cons rfl (.cons rfl (.cons rfl (.cons rfl (.cons rfl (.cons rfl (.cons rfl .nil)))))))) .nil)
        ·rw [hg476] at hg475
         rw [if_pos rfl] at hg475
         have H := hg475
         refine Tr.val (wg rfl rfl rfl) rfl (fun _ _ h1 h2 => run_move (h1.ev rfl)) ?_
         refine Tr.val (wg rfl rfl rfl) rfl (fun _ _ h1 h2 => run_move (h1.ev rfl)) ?_
         refine Tr.val (wg rfl rfl rfl) rfl (fun _ _ h1 h2 => run_move (h1.ev rfl)) ?_
         obtain ⟨x476, hx476, H⟩ := bnd H
         obtain ⟨hx4760, hx4761, hx4762⟩ := idx_some hx476
         refine Tr.val (wg rfl rfl rfl) rfl (fun _ _ h1 h2 => run_indexAddr el_32 (h1.ev rfl) hp0_0.form (h1.ev rfl) hx4760 hx4761) ?_
         refine Tr.val (wg rfl rfl rfl) rfl (fun _ _ h1 h2 => run_fieldAddr fo_38_3 (h1.ev rfl)) ?_
         refine Tr.val (wg rfl rfl rfl) rfl (fun _ _ h1 h2 => run_load1 ag_3 (h1.ev rfl) (CellsAt.drop (rdF ef_TRect hp0_0 hx4762 h2) 3) rfl) ?_
         refine Tr.val (wg rfl rfl rfl) rfl (fun _ _ h1 h2 => run_lss (h1.ev rfl) (h1.ev rfl)) ?_
         refine Tr.val (wg rfl rfl rfl) rfl (fun _ _ h1 h2 => run_pickT (h1.ev rfl) (h1.ev rfl)) ?_
         obtain rfl := Option.some.inj H
         exact Tr.nil (Tr.fin0 (.cons rfl (.cons rfl (.cons rfl (.cons rfl (.cons rfl (.cons rfl (.cons rfl (.cons rfl .nil)))))))) .nil)
       ·show Tr _ _ (LF [(0, (.slice Ap0_0 (p0).length cp0_0)), (3, (.slice Al440 (l440).length cl440)), (4, (.int .i64 x355)), (5, (.int .i64 x441)), (6, (.int .i64 x444)), (8, (.int .i64 x467)), (38, (.bool false)), (54, (.bool g475))]) (LE []) _
        refine Tr.va rfl (fun _ _ h1 h2 => run_pickF (h1.ev rfl) (h1.ev rfl)) ?_
        obtain rfl := Option.some.inj H
        exact Tr.nil (Tr.fin0 (.cons rfl (.cons rfl (.cons rfl (.cons rfl (.cons rfl (.cons rfl (.cons rfl .nil))))))) .nil)
      ·rw [hg476] at hg472
       rw [if_pos rfl] at hg472
       have H := hg472
       obtain rfl := Option.some.inj H
       refine Tr.pass rfl rfl rfl rfl rfl (by decide) ?_
       refine Tr.pass rfl rfl rfl rfl rfl (by decide) ?_
       refine Tr.pass rfl rfl rfl rfl rfl (by decide) ?_
       refine Tr.pass rfl rfl rfl rfl rfl (by decide) ?_
       refine Tr.pass rfl rfl rfl rfl rfl (by decide) ?_
       refine Tr.pass rfl rfl rfl rfl rfl (by decide) ?_
       refine Tr.pass rfl rfl rfl rfl rfl (by decide) ?_
       refine Tr.pass rfl rfl rfl rfl rfl (by decide) ?_
       refine Tr.passU rfl rfl rfl rfl (by decide) ?_
       refine Tr.passU rfl rfl rfl rfl (by decide) ?_
       refine Tr.passU rfl rfl rfl rfl (by decide) ?_
       refine Tr.passU rfl rfl rfl rfl (by decide) ?_
       refine Tr.passU rfl rfl rfl rfl (by decide) ?_
       refine Tr.passU rfl rfl rfl rfl (by decide) ?_
       refine Tr.passU rfl rfl rfl rfl (by decide) ?_
       refine Tr.pass rfl rfl rfl rfl rfl (by decide) ?_
       refine Tr.va rfl (fun _ _ h1 h2 => run_pickT (h1.ev rfl) (h1.ev rfl)) ?_
       exact Tr.nil (Tr.fin0 (.cons rfl (.cons rfl (.cons rfl (.cons rfl (.cons rfl (.cons rfl (.cons rfl .nil))))))) .nil)
     ·show Tr _ _ (LF [(0, (.slice Ap0_0 (p0).length cp0_0)), (3, (.slice Al440 (l440).length cl440)), (4, (.int .i64 x355)), (5, (.int .i64 x441)), (6, (.int .i64 x444)), (8, (.int .i64 x467)), (55, (.bool g472))]) (LE []) _
      refine Tr.asg rfl rfl ?_
      refine Tr.nil (Tr.normBlock (Tr.normThen ?_))
      refine Tr.region ?_
      refine Tr.mv rfl rfl ?_
      refine Tr.va rfl (fun _ _ h1 h2 => run_add (h1.ev rfl) (h1.ev rfl)) ?_
      refine Tr.asg rfl rfl ?_
      refine Tr.nil ?_
      exact Tr.backThen leF_etchhouseref9_scores_L21 (g472, (w64 (x467 + 1))) H (.cons rfl (.cons rfl (.cons rfl (.cons rfl (.cons rfl (.cons rfl (.cons rfl .nil))))))) .nil
    ·refine Tr.exit (Tr.exitThen (Tr.exitThen (Tr.exitBlock (Tr.normThen ?_))))
     refine Tr.sr ?_
     refine Tr.mv rfl rfl ?_
     refine Tr.va rfl (fun _ _ h1 h2 => run_not (h1.ev rfl)) ?_
     refine Tr.nil (Tr.normThen ?_)
     refine Tr.cond rfl H (fun H => ?_) (fun H => ?_)
     ·refine Tr.region ?_
      refine Tr.mv rfl rfl ?_
      refine Tr.mv rfl rfl ?_
      obtain ⟨y477, hy477, H⟩ := bnd H
      refine Tr.callG [] [] (U := (Option Addr × Nat)) (fun u => (.slice u.1 (y477).length u.2)) (fun O W u => Sl O W fl_i64 u.1 u.2 y477) (fun u => []) rfl pk_nil (fun _ => rfl) (wn rfl) rfl Try.call49 (evl_cons rfl (evl_cons rfl evl_nil)) (fun W hW hp hE => F_etchhouseref9_number_ok N l440 Al440 cl440 (hl440.extO (hW.extS hp)) x444 y477 hy477 hE) ?_
      intro w u le478 hu
      obtain ⟨Ay477_0, cy477_0⟩ := u
      have gy477_0 := hu
      replace hp0_0 := hp0_0.leR le478
      replace hl440 := hl440.le le478
      replace leB := leB.trans le478
      replace leF_etchhouseref9_scores_L15 := leF_etchhouseref9_scores_L15.trans le478
      replace leF_etchhouseref9_scores_L20 := leF_etchhouseref9_scores_L20.trans le478
      replace leF_etchhouseref9_scores_L21 := leF_etchhouseref9_scores_L21.trans le478
      have hgy477_0 : Sl w.O w.W fl_i64 Ay477_0 cy477_0 y477 := gy477_0 --@phi
      show Tr _ _ (uf _ 60 (.slice Ay477_0 (y477).length cy477_0)) (_) _
      refine Tr.asg rfl rfl ?_
      refine Tr.nil (Tr.normBlock (Tr.normThen ?_))
      refine Tr.region ?_
      refine Tr.mv rfl rfl ?_
      refine Tr.va rfl (fun _ _ h1 h2 => run_add (h1.ev rfl) (h1.ev rfl)) ?_
      refine Tr.asg rfl rfl ?_
      refine Tr.nil ?_
      exact Tr.backThen leF_etchhouseref9_scores_L20 (y477, (w64 (x441 + 1)), Ay477_0, cy477_0) ⟨H, hgy477_0⟩ (.cons rfl (.cons rfl (.cons rfl (.cons rfl .nil)))) .nil
     ·refine Tr.skip (Tr.normBlock (Tr.normThen ?_))
      refine Tr.region ?_
      refine Tr.mv rfl rfl ?_
      refine Tr.va rfl (fun _ _ h1 h2 => run_add (h1.ev rfl) (h1.ev rfl)) ?_
      refine Tr.asg rfl rfl ?_
      refine Tr.nil ?_
      exact Tr.backThen leF_etchhouseref9_scores_L20 (l440, (w64 (x441 + 1)), Al440, cl440) ⟨H, hl440⟩ (.cons rfl (.cons rfl (.cons rfl (.cons rfl .nil)))) .nil
  ·refine Tr.exit (Tr.exitThen (Tr.exitThen (Tr.exitBlock (Tr.normBlock (Tr.normThen ?_)))))
   refine Tr.region ?_
   refine Tr.mv rfl rfl ?_
   refine Tr.va rfl (fun _ _ h1 h2 => run_add (h1.ev rfl) (h1.ev rfl)) ?_
   refine Tr.asg rfl rfl ?_
   refine Tr.nil ?_
   exact Tr.backThen leF_etchhouseref9_scores_L15 (l440, (w64 (x355 + 1)), Al440, cl440) ⟨H, hl440⟩ (.cons rfl (.cons rfl (.cons rfl .nil))) .nil
 ·refine Tr.exit (Tr.exitThen (Tr.exitThen (Tr.exitBlock (Tr.normThen ?_))))
  refine Tr.sr ?_
  refine Tr.mv rfl rfl ?_
  refine Tr.asg rfl rfl ?_
  refine Tr.nil (Tr.normThen ?_)
  refine Tr.ret ?_
  obtain rfl := Option.some.inj H
  exact Tr.out (m := [(.slice Al354 (l354).length cl354)]) [] (res_tmp rfl res_nil) (fun W hW => ⟨w, (Al354, cl354), leB, rfl, hl354, hW.pick (ks := []) (by decide) pk_nil⟩)

theorem F_etchhouseref9_Scores_ok (N : Nat) {w : Bs} (p0 : TPanel) (Ap0_0 : Option Addr) (cp0_0 : Nat) (hp0_0 : Sl w.R w.W fl_TBoardKind Ap0_0 cp0_0 p0.Kinds) (Ap0_1 : Option Addr) (cp0_1 : Nat) (hp0_1 : Sl w.R w.W fl_TSlot Ap0_1 cp0_1 p0.Slots) (Ap0_2 : Option Addr) (cp0_2 : Nat) (hp0_2 : Sl w.R w.W fl_TPoint Ap0_2 cp0_2 p0.Marks) (r : ((List TCut) × Int)) (H : F_etchhouseref9_Scores N p0 = some r) (hE : HF w w.W (LEn [emp])) : Calls Try.prog 13 [(.agg #[(.int .i64 p0.W), (.int .i64 p0.H), (.int .i64 p0.Rail), (.int .i64 p0.Gap), (.slice Ap0_0 (p0.Kinds).length cp0_0), (.slice Ap0_1 (p0.Slots).length cp0_1), (.slice Ap0_2 (p0.Marks).length cp0_2)])].toArray w.W fun e W' => ∃ u : (Option Addr × Nat), e = .returned (.tuple #[(.slice u.1 (r.1).length u.2), (.int .i64 r.2)]) ∧ (SlF u.1 (r.1).length u.2) ∧ HF w W' (LEn [ow u.1 u.2 40 fl_TCut r.1]) := by
 unfold F_etchhouseref9_Scores at H
 have leB := Bs.Le.refl w
 refine Tr.enter (n := 75) Try.func13 rfl rfl rfl hE ?_
 refine Tr.sr ?_
 refine Tr.box 1 (cs := [(.int .i64 p0.W), (.int .i64 p0.H), (.int .i64 p0.Rail), (.int .i64 p0.Gap), (.slice Ap0_0 (p0.Kinds).length cp0_0), (.slice Ap0_1 (p0.Slots).length cp0_1), (.slice Ap0_2 (p0.Marks).length cp0_2)]) (wn rfl) rfl rfl rfl fun b100 => ?_
 refine Tr.asg rfl rfl ?_
 refine Tr.nilOwn 2 40 fl_TCut ?_
 show Tr _ _ (uf _ 2 (.slice none (([] : List TCut)).length 0)) _ _
 refine Tr.asg rfl rfl ?_
 refine Tr.nil (Tr.normThen ?_)
 refine Tr.seq ?_
 refine Tr.sr ?_
 refine Tr.va rfl (fun _ _ h1 h2 => run_loadN (cs := [(.int .i64 p0.W), (.int .i64 p0.H), (.int .i64 p0.Rail), (.int .i64 p0.Gap), (.slice Ap0_0 (p0.Kinds).length cp0_0), (.slice Ap0_1 (p0.Slots).length cp0_1), (.slice Ap0_2 (p0.Marks).length cp0_2)]) ag_26 sz_26 (h1.ev rfl) (CellsAt.take (rdb h2 (vs := [(.int .i64 p0.W), (.int .i64 p0.H), (.int .i64 p0.Rail), (.int .i64 p0.Gap), (.slice Ap0_0 (p0.Kinds).length cp0_0), (.slice Ap0_1 (p0.Slots).length cp0_1), (.slice Ap0_2 (p0.Marks).length cp0_2)]) (k := 1) rfl 0) 7) rfl) ?_
 obtain ⟨y101, hy101, H⟩ := bnd H
 refine Tr.call0 (r := (.int .i64 y101)) (wn rfl) rfl Try.call19 (evl_cons rfl evl_nil) (fun W hW => F_etchhouseref9_CheckPanel_ok N p0 Ap0_0 cp0_0 (hp0_0.ext hW.extAll) Ap0_1 cp0_1 (hp0_1.ext hW.extAll) Ap0_2 cp0_2 (hp0_2.ext hW.extAll) y101 hy101 (HF.start _)) ?_
 refine Tr.asg rfl rfl ?_
 refine Tr.nil (Tr.normThen ?_)
 refine Tr.sr ?_
 refine Tr.mv rfl rfl ?_
 refine Tr.va rfl (fun _ _ h1 h2 => run_neq (h1.ev rfl) (h1.ev rfl)) ?_
 refine Tr.nil (Tr.normThen ?_)
 refine Tr.cond rfl H (fun H => ?_) (fun H => ?_)
 ·refine Tr.sr ?_
  refine Tr.mv rfl rfl ?_
  refine Tr.asg rfl rfl ?_
  refine Tr.nilOwn 3 40 fl_TCut ?_
  show Tr _ _ (uf _ 2 (.slice none (([] : List TCut)).length 0)) _ _
  refine Tr.asg rfl rfl ?_
  refine Tr.nil (Tr.normThen ?_)
  refine Tr.ret (Tr.retThen ?_)
  obtain rfl := Option.some.inj H
  exact Tr.out (m := [(.slice none (([] : List TCut)).length 0), (.int .i64 y101)]) [] (res_tmp rfl (res_tmp rfl res_nil)) (fun W hW => ⟨(none, 0), rfl, slf_nil, HF.lowE leB (hW.pick (ks := [3]) (by decide) (pk_cons rfl pk_nil)) ⟨ow_any _ _ _ _ tr_TCut, trivial⟩⟩)
 ·refine Tr.skip (Tr.normThen ?_)
  refine Tr.sr ?_
  refine Tr.va rfl (fun _ _ h1 h2 => run_loadN (cs := [(.int .i64 p0.W), (.int .i64 p0.H), (.int .i64 p0.Rail), (.int .i64 p0.Gap), (.slice Ap0_0 (p0.Kinds).length cp0_0), (.slice Ap0_1 (p0.Slots).length cp0_1), (.slice Ap0_2 (p0.Marks).length cp0_2)]) ag_26 sz_26 (h1.ev rfl) (CellsAt.take (rdb h2 (vs := [(.int .i64 p0.W), (.int .i64 p0.H), (.int .i64 p0.Rail), (.int .i64 p0.Gap), (.slice Ap0_0 (p0.Kinds).length cp0_0), (.slice Ap0_1 (p0.Slots).length cp0_1), (.slice Ap0_2 (p0.Marks).length cp0_2)]) (k := 1) rfl 0) 7) rfl) ?_
  obtain ⟨y102, hy102, H⟩ := bnd H
  refine Tr.callM [4] [emp] (U := (Option Addr × Nat)) (fun u => (.slice u.1 (y102).length u.2)) (fun u => SlF u.1 (y102).length u.2) (fun u => [ow u.1 u.2 38 fl_TRect y102]) rfl (pk_cons rfl pk_nil) (fun _ => rfl) (wn rfl) rfl Try.call34 (evl_cons rfl evl_nil) (fun W hW hp hE => F_etchhouseref9_cells_ok N p0 Ap0_0 cp0_0 (hp0_0.ext (hW.extS hp)) Ap0_1 cp0_1 (hp0_1.ext (hW.extS hp)) Ap0_2 cp0_2 (hp0_2.ext (hW.extS hp)) y102 hy102 hE) ?_
  intro u hu
  obtain ⟨Ay102_0, cy102_0⟩ := u
  have gy102_0 := hu
  have hgy102_0 : SlF Ay102_0 (y102).length cy102_0 := gy102_0 --@phi
  show Tr _ _ (uf _ 20 (.slice Ay102_0 (y102).length cy102_0)) (up _ 4 (ow Ay102_0 cy102_0 38 fl_TRect y102)) _
  refine Tr.asg rfl rfl ?_
  refine Tr.nil (Tr.normThen ?_)
  refine Tr.sr ?_
  refine Tr.asg rfl rfl ?_
  refine Tr.nilOwn 5 38 fl_TRect ?_
  show Tr _ _ (uf _ 6 (.slice none (([] : List TRect)).length 0)) _ _
  refine Tr.nil (Tr.normThen ?_)
  refine Tr.seq ?_
  refine Tr.sr ?_
  refine Tr.asg rfl rfl ?_
  refine Tr.nil (Tr.normThen ?_)
  refine Tr.block ?_
  refine Tr.loop (σ := (List TRect) × Int × (Option Addr) × Nat) (fun m w s => F_etchhouseref9_Scores_L1 N p0 y102 m s.1 s.2.1 = some r ∧ SlF s.2.2.1 (s.1).length s.2.2.2) (fun s => [(1, (.pointer (some ⟨b100, 0, none⟩))), (5, (.slice Ay102_0 (y102).length cy102_0)), (6, (.slice s.2.2.1 (s.1).length s.2.2.2)), (7, (.int .i64 s.2.1))]) (fun s => [(1, bx b100 #[(.int .i64 p0.W), (.int .i64 p0.H), (.int .i64 p0.Rail), (.int .i64 p0.Gap), (.slice Ap0_0 (p0.Kinds).length cp0_0), (.slice Ap0_1 (p0.Slots).length cp0_1), (.slice Ap0_2 (p0.Marks).length cp0_2)] 26), (4, ow Ay102_0 cy102_0 38 fl_TRect y102), (5, ow s.2.2.1 s.2.2.2 38 fl_TRect s.1)]) N (([] : List TRect), 0, none, 0) ⟨H, slf_nil⟩ (.cons rfl (.cons rfl (.cons rfl (.cons rfl .nil)))) (.cons rfl (.cons rfl (.cons rfl .nil))) (fun _ _ h => noSome (h.1)) ?_
  intro w leF_etchhouseref9_Scores_L1 mF_etchhouseref9_Scores_L1 s hs
  obtain ⟨l118, x119, Al118, cl118⟩ := s
  obtain ⟨H, hl118⟩ := hs
  replace H : F_etchhouseref9_Scores_L1 N p0 y102 (mF_etchhouseref9_Scores_L1 + 1) l118 x119 = some r := H
  replace hp0_0 := hp0_0.leR leF_etchhouseref9_Scores_L1
  replace hp0_1 := hp0_1.leR leF_etchhouseref9_Scores_L1
  replace hp0_2 := hp0_2.leR leF_etchhouseref9_Scores_L1
  replace leB := leB.trans leF_etchhouseref9_Scores_L1
  replace hl118 : SlF Al118 (l118).length cl118 := hl118
  rw [F_etchhouseref9_Scores_L1.eq_2] at H
  show Tr _ _ (LF [(1, (.pointer (some ⟨b100, 0, none⟩))), (5, (.slice Ay102_0 (y102).length cy102_0)), (6, (.slice Al118 (l118).length cl118)), (7, (.int .i64 x119))]) (LE [(1, bx b100 #[(.int .i64 p0.W), (.int .i64 p0.H), (.int .i64 p0.Rail), (.int .i64 p0.Gap), (.slice Ap0_0 (p0.Kinds).length cp0_0), (.slice Ap0_1 (p0.Slots).length cp0_1), (.slice Ap0_2 (p0.Marks).length cp0_2)] 26), (4, ow Ay102_0 cy102_0 38 fl_TRect y102), (5, ow Al118 cl118 38 fl_TRect l118)]) _
  refine Tr.seq ?_
  refine Tr.sr ?_
  refine Tr.mv rfl rfl ?_
  refine Tr.mv rfl rfl ?_
  refine Tr.va rfl (fun _ _ h1 h2 => run_len un_32 (h1.ev rfl)) ?_
  refine Tr.va rfl (fun _ _ h1 h2 => run_lss (h1.ev rfl) (h1.ev rfl)) ?_
  refine Tr.nil (Tr.normThen ?_)
  refine Tr.cond rfl H (fun H => ?_) (fun H => ?_)
  ·refine Tr.skip (Tr.normThen ?_)
   refine Tr.seq ?_
   refine Tr.block ?_
   refine Tr.region ?_
   refine Tr.mv rfl rfl ?_
   refine Tr.mv rfl rfl ?_
   refine Tr.mv rfl rfl ?_
   obtain ⟨x120, hx120, H⟩ := bnd H
   obtain ⟨hx1200, hx1201, hx1202⟩ := idx_some hx120
   refine Tr.va rfl (fun _ _ h1 h2 => run_indexAddr el_32 (h1.ev rfl) hgy102_0 (h1.ev rfl) hx1200 hx1201) ?_
   refine Tr.va rfl (fun _ _ h1 h2 => run_loadN (cs := [(.int .i64 x120.X0), (.int .i64 x120.Y0), (.int .i64 x120.X1), (.int .i64 x120.Y1)]) ag_38 sz_38 (h1.ev rfl) (CellsAt.take (rdo ef_TRect (k := 4) h2 rfl hx1202) 4) rfl) ?_
   obtain ⟨y121, hy121, H⟩ := bnd H
   refine Tr.call0 (r := (.agg #[(.int .i64 y121.X0), (.int .i64 y121.Y0), (.int .i64 y121.X1), (.int .i64 y121.Y1)])) (wn rfl) rfl Try.call35 (evl_cons rfl evl_nil) (fun W hW => F_etchhouseref9_turned_ok x120 y121 hy121 (HF.start _)) ?_
   refine Tr.buildSlice 8 (e := 38) (vs := [(0, (.agg #[(.int .i64 y121.X0), (.int .i64 y121.Y0), (.int .i64 y121.X1), (.int .i64 y121.Y1)]))]) (cs := [(.int .i64 y121.X0), (.int .i64 y121.Y0), (.int .i64 y121.X1), (.int .i64 y121.Y1)]) (wn rfl) rfl (evs_cons rfl evs_nil) (by kernel_rfl) fun b122 => ?_
   obtain ⟨l123, hl123, H⟩ := bnd H
   refine Tr.append 5 (t := fl_TRect) (l := l118) (l2 := [y121]) (wn rfl) rfl rfl rfl rfl (fun W hW => ⟨[[(.int .i64 y121.X0), (.int .i64 y121.Y0), (.int .i64 y121.X1), (.int .i64 y121.Y1)]], (.cons ⟨(), trivial, rfl⟩ .nil), rdb hW (vs := [(.int .i64 y121.X0), (.int .i64 y121.Y0), (.int .i64 y121.X1), (.int .i64 y121.Y1)]) (k := 8) rfl 0⟩) un_32 sz_38 zl_38 (by decide) by_38 rfl hl123 fun Al123 cl123 hAl123 => ?_
   refine Tr.asg rfl rfl ?_
   refine Tr.nil (Tr.normBlock (Tr.normThen ?_))
   refine Tr.region ?_
   refine Tr.mv rfl rfl ?_
   refine Tr.va rfl (fun _ _ h1 h2 => run_add (h1.ev rfl) (h1.ev rfl)) ?_
   refine Tr.asg rfl rfl ?_
   refine Tr.nil ?_
   exact Tr.backThen leF_etchhouseref9_Scores_L1 (l123, (w64 (x119 + 1)), Al123, cl123) ⟨H, hAl123⟩ (.cons rfl (.cons rfl (.cons rfl (.cons rfl .nil)))) (.cons rfl (.cons rfl (.cons rfl .nil)))
  ·refine Tr.exit (Tr.exitThen (Tr.exitThen (Tr.exitBlock (Tr.normThen ?_))))
   refine Tr.sr ?_
   refine Tr.va rfl (fun _ _ h1 h2 => run_fieldAddr fo_26_0 (h1.ev rfl)) ?_
   refine Tr.va rfl (fun _ _ h1 h2 => run_load1 ag_3 (h1.ev rfl) (rdb h2 (vs := [(.int .i64 p0.W), (.int .i64 p0.H), (.int .i64 p0.Rail), (.int .i64 p0.Gap), (.slice Ap0_0 (p0.Kinds).length cp0_0), (.slice Ap0_1 (p0.Slots).length cp0_1), (.slice Ap0_2 (p0.Marks).length cp0_2)]) (k := 1) rfl 0) rfl) ?_
   refine Tr.va rfl (fun _ _ h1 h2 => run_fieldAddr fo_26_1 (h1.ev rfl)) ?_
   refine Tr.va rfl (fun _ _ h1 h2 => run_load1 ag_3 (h1.ev rfl) (rdb h2 (vs := [(.int .i64 p0.W), (.int .i64 p0.H), (.int .i64 p0.Rail), (.int .i64 p0.Gap), (.slice Ap0_0 (p0.Kinds).length cp0_0), (.slice Ap0_1 (p0.Slots).length cp0_1), (.slice Ap0_2 (p0.Marks).length cp0_2)]) (k := 1) rfl 1) rfl) ?_
   refine Tr.build (vs := [(2, (.int .i64 p0.W)), (3, (.int .i64 p0.H))]) (cs := [(.int .i64 0), (.int .i64 0), (.int .i64 p0.W), (.int .i64 p0.H)]) (wn rfl) rfl (evs_cons rfl (evs_cons rfl evs_nil)) (by kernel_rfl) ?_
   refine Tr.alloc 9 (wn rfl) rfl ze_38 fun b124 => ?_
   refine Tr.store 9 (cs := [(.int .i64 0), (.int .i64 0), (.int .i64 p0.W), (.int .i64 p0.H)]) [(.int .i64 0), (.int .i64 0), (.int .i64 p0.W), (.int .i64 p0.H)] (wn rfl) rfl rfl rfl rfl sz_38 rfl rfl rfl ?_
   refine Tr.nil (Tr.normThen ?_)
   refine Tr.sr ?_
   refine Tr.asg rfl rfl ?_
   refine Tr.nilOwn 10 40 fl_TCut ?_
   show Tr _ _ (uf _ 9 (.slice none (([] : List TCut)).length 0)) _ _
   refine Tr.nil (Tr.normThen ?_)
   refine Tr.sr ?_
   refine Tr.mv rfl rfl ?_
   obtain ⟨y125, hy125, H⟩ := bnd H
   refine Tr.callG [] [] (U := (Option Addr × Nat)) (fun u => (.slice u.1 (y125).length u.2)) (fun O W u => Sl O W fl_i64 u.1 u.2 y125) (fun u => []) rfl pk_nil (fun _ => rfl) (wn rfl) rfl Try.call36 (evl_cons rfl evl_nil) (fun W hW hp hE => F_etchhouseref9_scores_ok N y102 Ay102_0 cy102_0 (hW.slS (k := 4) rfl hp rfl) y125 hy125 hE) ?_
   intro w u le126 hu
   obtain ⟨Ay125_0, cy125_0⟩ := u
   have gy125_0 := hu
   replace hp0_0 := hp0_0.leR le126
   replace hp0_1 := hp0_1.leR le126
   replace hp0_2 := hp0_2.leR le126
   replace leB := leB.trans le126
   replace leF_etchhouseref9_Scores_L1 := leF_etchhouseref9_Scores_L1.trans le126
   have hgy125_0 : Sl w.O w.W fl_i64 Ay125_0 cy125_0 y125 := gy125_0 --@phi
   show Tr _ _ (uf _ 41 (.slice Ay125_0 (y125).length cy125_0)) (_) _
   refine Tr.mv rfl rfl ?_
   obtain ⟨y127, hy127, H⟩ := bnd H
   refine Tr.callG [] [] (U := (Option Addr × Nat)) (fun u => (.slice u.1 (y127).length u.2)) (fun O W u => Sl O W fl_i64 u.1 u.2 y127) (fun u => []) rfl pk_nil (fun _ => rfl) (wn rfl) rfl Try.call36 (evl_cons rfl evl_nil) (fun W hW hp hE => F_etchhouseref9_scores_ok N l118 Al118 cl118 (hW.slS (k := 5) rfl hp rfl) y127 hy127 hE) ?_
   intro w u le128 hu
   obtain ⟨Ay127_0, cy127_0⟩ := u
   have gy127_0 := hu
   replace hp0_0 := hp0_0.leR le128
   replace hp0_1 := hp0_1.leR le128
   replace hp0_2 := hp0_2.leR le128
   replace hgy125_0 := hgy125_0.le le128
   replace leB := leB.trans le128
   replace leF_etchhouseref9_Scores_L1 := leF_etchhouseref9_Scores_L1.trans le128
   have hgy127_0 : Sl w.O w.W fl_i64 Ay127_0 cy127_0 y127 := gy127_0 --@phi
   show Tr _ _ (uf _ 43 (.slice Ay127_0 (y127).length cy127_0)) (_) _
   refine Tr.asg rfl rfl ?_
   refine Tr.asg rfl rfl ?_
   refine Tr.nil (Tr.normThen ?_)
   refine Tr.seq ?_
   refine Tr.sr ?_
   refine Tr.asg rfl rfl ?_
   refine Tr.nil (Tr.normThen ?_)
   refine Tr.block ?_
   refine Tr.loop (σ := (List TCut) × Int × (Option Addr) × Nat) (fun m w s => F_etchhouseref9_Scores_L2 N p0 y125 y127 m s.1 s.2.1 = some r ∧ SlF s.2.2.1 (s.1).length s.2.2.2) (fun s => [(8, (.pointer (some ⟨b124, 0, none⟩))), (9, (.slice s.2.2.1 (s.1).length s.2.2.2)), (10, (.slice Ay125_0 (y125).length cy125_0)), (11, (.slice Ay127_0 (y127).length cy127_0)), (12, (.int .i64 s.2.1))]) (fun s => [(9, bx b124 #[(.int .i64 0), (.int .i64 0), (.int .i64 p0.W), (.int .i64 p0.H)] 38), (10, ow s.2.2.1 s.2.2.2 40 fl_TCut s.1)]) N (([] : List TCut), 0, none, 0) ⟨H, slf_nil⟩ (.cons rfl (.cons rfl (.cons rfl (.cons rfl (.cons rfl .nil))))) (.cons rfl (.cons rfl .nil)) (fun _ _ h => noSome (h.1)) ?_
   intro w leF_etchhouseref9_Scores_L2 mF_etchhouseref9_Scores_L2 s hs
   obtain ⟨l141, x142, Al141, cl141⟩ := s
   obtain ⟨H, hl141⟩ := hs
   replace H : F_etchhouseref9_Scores_L2 N p0 y125 y127 (mF_etchhouseref9_Scores_L2 + 1) l141 x142 = some r := H
   replace hgy125_0 := hgy125_0.le leF_etchhouseref9_Scores_L2
   replace hgy127_0 := hgy127_0.le leF_etchhouseref9_Scores_L2
   replace leB := leB.trans leF_etchhouseref9_Scores_L2
   replace leF_etchhouseref9_Scores_L1 := leF_etchhouseref9_Scores_L1.trans leF_etchhouseref9_Scores_L2
   replace hl141 : SlF Al141 (l141).length cl141 := hl141
   rw [F_etchhouseref9_Scores_L2.eq_2] at H
   show Tr _ _ (LF [(8, (.pointer (some ⟨b124, 0, none⟩))), (9, (.slice Al141 (l141).length cl141)), (10, (.slice Ay125_0 (y125).length cy125_0)), (11, (.slice Ay127_0 (y127).length cy127_0)), (12, (.int .i64 x142))]) (LE [(9, bx b124 #[(.int .i64 0), (.int .i64 0), (.int .i64 p0.W), (.int .i64 p0.H)] 38), (10, ow Al141 cl141 40 fl_TCut l141)]) _
   refine Tr.seq ?_
   refine Tr.sr ?_
   refine Tr.mv rfl rfl ?_
   refine Tr.mv rfl rfl ?_
   refine Tr.va rfl (fun _ _ h1 h2 => run_len un_44 (h1.ev rfl)) ?_
   refine Tr.va rfl (fun _ _ h1 h2 => run_lss (h1.ev rfl) (h1.ev rfl)) ?_
   refine Tr.nil (Tr.normThen ?_)
   refine Tr.cond rfl H (fun H => ?_) (fun H => ?_)
   ·refine Tr.skip (Tr.normThen ?_)
    refine Tr.seq ?_
    refine Tr.block ?_
    obtain ⟨x144, hx144, H⟩ := bnd H
    obtain ⟨hx1440, hx1441, hx1442⟩ := idx_some hx144
    refine Tr.drawF 8 [(7, .makeFunc (.func 0) #[] #[.tmp 56])] [(7, ⟨57, 13, (.func (.func 0) #[] #[(.agg #[(.int .i64 0), (.int .i64 0), (.int .i64 p0.W), (.int .i64 p0.H), (.bool true), (.int .i64 x144)])]), fun b => .slice (some ⟨b, 0, none⟩) 1 1, fun b => bx b #[(.int .i64 0), (.int .i64 0), (.int .i64 p0.W), (.int .i64 p0.H), (.bool true), (.int .i64 x144)] 40⟩)] [(8, (.pointer (some ⟨b124, 0, none⟩))), (9, (.slice Al141 (l141).length cl141)), (10, (.slice Ay125_0 (y125).length cy125_0)), (11, (.slice Ay127_0 (y127).length cy127_0)), (12, (.int .i64 x142)), (44, (.int .i64 x142)), (45, (.slice Ay125_0 (y125).length cy125_0)), (46, (.int .i64 (y125.length : Int))), (47, (.bool (decide (x142 < (y125.length : Int))))), (50, (.slice Al141 (l141).length cl141)), (51, (.agg #[(.int .i64 0), (.int .i64 0), (.int .i64 p0.W), (.int .i64 p0.H)])), (52, (.slice Ay125_0 (y125).length cy125_0)), (53, (.int .i64 x142)), (54, (.pointer (some ⟨adB Ay125_0, adO Ay125_0 + (x142).toNat * 1, none⟩))), (55, (.int .i64 x144)), (56, (.agg #[(.int .i64 0), (.int .i64 0), (.int .i64 p0.W), (.int .i64 p0.H), (.bool true), (.int .i64 x144)])), (57, (.func (.func 0) #[] #[(.agg #[(.int .i64 0), (.int .i64 0), (.int .i64 p0.W), (.int .i64 p0.H), (.bool true), (.int .i64 x144)])]))] (by kernel_rfl) (by kernel_rfl) (by kernel_rfl) (by kernel_rfl) (by kernel_rfl) (by kernel_rfl) (by kernel_rfl) (fall_cons (fr_lit (vs := [(0, (.agg #[(.int .i64 0), (.int .i64 0), (.int .i64 p0.W), (.int .i64 p0.H), (.bool true), (.int .i64 x144)]))]) rfl rfl rfl (by kernel_rfl)) fall_nil) (fall_cons rfl fall_nil) (fall_cons rfl fall_nil) ?_ ?_
    ·refine Tq.mv rfl rfl ?_
     refine Tq.va rfl (fun _ _ h1 h2 => run_loadN (cs := [(.int .i64 0), (.int .i64 0), (.int .i64 p0.W), (.int .i64 p0.H)]) ag_38 sz_38 (h1.ev rfl) (CellsAt.take (rdb h2 (vs := [(.int .i64 0), (.int .i64 0), (.int .i64 p0.W), (.int .i64 p0.H)]) (k := 9) rfl 0) 4) rfl) ?_
     refine Tq.mv rfl rfl ?_
     refine Tq.mv rfl rfl ?_
     refine Tq.va rfl (fun _ _ h1 h2 => run_indexAddr el_44 (h1.ev rfl) hgy125_0.form (h1.ev rfl) hx1440 hx1441) ?_
     refine Tq.va rfl (fun _ _ h1 h2 => run_load1 ag_3 (h1.ev rfl) (rdF ef_i64 (hgy125_0.rl) hx1442 h2) rfl) ?_
     refine Tq.build (vs := [(0, (.agg #[(.int .i64 0), (.int .i64 0), (.int .i64 p0.W), (.int .i64 p0.H)])), (1, (.bool true)), (2, (.int .i64 x144))]) (cs := [(.int .i64 0), (.int .i64 0), (.int .i64 p0.W), (.int .i64 p0.H), (.bool true), (.int .i64 x144)]) (wn rfl) rfl (evs_cons rfl (evs_cons rfl (evs_cons rfl evs_nil))) (by kernel_rfl) ?_
     refine Tq.mkFunc (vs := [(.agg #[(.int .i64 0), (.int .i64 0), (.int .i64 p0.W), (.int .i64 p0.H), (.bool true), (.int .i64 x144)])]) (wn rfl) rfl (evl_cons rfl evl_nil) ?_
     exact Tq.fin (.cons rfl (.cons rfl (.cons rfl (.cons rfl (.cons rfl (.cons rfl (.cons rfl (.cons rfl (.cons rfl (.cons rfl (.cons rfl (.cons rfl (.cons rfl (.cons rfl (.cons rfl (.cons rfl (.cons rfl .nil)))))))))))))))))
    ·intro bs143
     refine Tr.sel (lf := [(8, (.pointer (some ⟨b124, 0, none⟩))), (10, (.slice Ay125_0 (y125).length cy125_0)), (11, (.slice Ay127_0 (y127).length cy127_0)), (12, (.int .i64 x142)), (50, (.slice Al141 (l141).length cl141)), (57, (.slice (some ⟨(bs143 7), 0, none⟩) 1 1))]) (le := [(9, bx b124 #[(.int .i64 0), (.int .i64 0), (.int .i64 p0.W), (.int .i64 p0.H)] 38), (10, ow Al141 cl141 40 fl_TCut l141), (13, bx (bs143 7) #[(.int .i64 0), (.int .i64 0), (.int .i64 p0.W), (.int .i64 p0.H), (.bool true), (.int .i64 x144)] 40)]) (.cons rfl (.cons rfl (.cons rfl (.cons rfl (.cons rfl (.cons rfl .nil)))))) (.cons rfl (.cons rfl (.cons rfl .nil))) ?_
     obtain ⟨l145, hl145, H⟩ := bnd H
     refine Tr.append 10 (t := fl_TCut) (l := l141) (l2 := [(TCut.mk (TRect.mk 0 0 p0.W p0.H) true x144)]) (wn rfl) rfl rfl rfl rfl (fun W hW => ⟨[[(.int .i64 0), (.int .i64 0), (.int .i64 p0.W), (.int .i64 p0.H), (.bool true), (.int .i64 x144)]], (.cons ⟨(), trivial, rfl⟩ .nil), rdb hW (vs := [(.int .i64 0), (.int .i64 0), (.int .i64 p0.W), (.int .i64 p0.H), (.bool true), (.int .i64 x144)]) (k := 13) rfl 0⟩) un_27 sz_40 zl_40 (by decide) by_40 rfl hl145 fun Al145 cl145 hAl145 => ?_
     refine Tr.asg rfl rfl ?_
     refine Tr.nil (Tr.normBlock (Tr.normThen ?_))
     refine Tr.region ?_
     refine Tr.mv rfl rfl ?_
     refine Tr.va rfl (fun _ _ h1 h2 => run_add (h1.ev rfl) (h1.ev rfl)) ?_
     refine Tr.asg rfl rfl ?_
     refine Tr.nil ?_
     exact Tr.backThen leF_etchhouseref9_Scores_L2 (l145, (w64 (x142 + 1)), Al145, cl145) ⟨H, hAl145⟩ (.cons rfl (.cons rfl (.cons rfl (.cons rfl (.cons rfl .nil))))) (.cons rfl (.cons rfl .nil))
   ·refine Tr.exit (Tr.exitThen (Tr.exitThen (Tr.exitBlock (Tr.normThen ?_))))
    refine Tr.seq ?_
    refine Tr.sr ?_
    refine Tr.asg rfl rfl ?_
    refine Tr.nil (Tr.normThen ?_)
    refine Tr.block ?_
    refine Tr.loop (σ := (List TCut) × Int × (Option Addr) × Nat) (fun m w s => F_etchhouseref9_Scores_L3 p0 y127 m s.1 s.2.1 = some r ∧ SlF s.2.2.1 (s.1).length s.2.2.2) (fun s => [(8, (.pointer (some ⟨b124, 0, none⟩))), (9, (.slice s.2.2.1 (s.1).length s.2.2.2)), (11, (.slice Ay127_0 (y127).length cy127_0)), (13, (.int .i64 s.2.1))]) (fun s => [(9, bx b124 #[(.int .i64 0), (.int .i64 0), (.int .i64 p0.W), (.int .i64 p0.H)] 38), (10, ow s.2.2.1 s.2.2.2 40 fl_TCut s.1)]) N (l141, 0, Al141, cl141) ⟨H, hl141⟩ (.cons rfl (.cons rfl (.cons rfl (.cons rfl .nil)))) (.cons rfl (.cons rfl .nil)) (fun _ _ h => noSome (h.1)) ?_
    intro w leF_etchhouseref9_Scores_L3 mF_etchhouseref9_Scores_L3 s hs
    obtain ⟨l158, x159, Al158, cl158⟩ := s
    obtain ⟨H, hl158⟩ := hs
    replace H : F_etchhouseref9_Scores_L3 p0 y127 (mF_etchhouseref9_Scores_L3 + 1) l158 x159 = some r := H
    replace hgy127_0 := hgy127_0.le leF_etchhouseref9_Scores_L3
    replace leB := leB.trans leF_etchhouseref9_Scores_L3
    replace leF_etchhouseref9_Scores_L1 := leF_etchhouseref9_Scores_L1.trans leF_etchhouseref9_Scores_L3
    replace leF_etchhouseref9_Scores_L2 := leF_etchhouseref9_Scores_L2.trans leF_etchhouseref9_Scores_L3
    replace hl158 : SlF Al158 (l158).length cl158 := hl158
    rw [F_etchhouseref9_Scores_L3.eq_2] at H
    show Tr _ _ (LF [(8, (.pointer (some ⟨b124, 0, none⟩))), (9, (.slice Al158 (l158).length cl158)), (11, (.slice Ay127_0 (y127).length cy127_0)), (13, (.int .i64 x159))]) (LE [(9, bx b124 #[(.int .i64 0), (.int .i64 0), (.int .i64 p0.W), (.int .i64 p0.H)] 38), (10, ow Al158 cl158 40 fl_TCut l158)]) _
    refine Tr.seq ?_
    refine Tr.sr ?_
    refine Tr.mv rfl rfl ?_
    refine Tr.mv rfl rfl ?_
    refine Tr.va rfl (fun _ _ h1 h2 => run_len un_44 (h1.ev rfl)) ?_
    refine Tr.va rfl (fun _ _ h1 h2 => run_lss (h1.ev rfl) (h1.ev rfl)) ?_
    refine Tr.nil (Tr.normThen ?_)
    refine Tr.cond rfl H (fun H => ?_) (fun H => ?_)
    ·refine Tr.skip (Tr.normThen ?_)
     refine Tr.seq ?_
     refine Tr.block ?_
     obtain ⟨x161, hx161, H⟩ := bnd H
     obtain ⟨hx1610, hx1611, hx1612⟩ := idx_some hx161
     refine Tr.drawF 8 [(7, .makeFunc (.func 0) #[] #[.tmp 71])] [(7, ⟨72, 16, (.func (.func 0) #[] #[(.agg #[(.int .i64 0), (.int .i64 0), (.int .i64 p0.W), (.int .i64 p0.H), (.bool false), (.int .i64 x161)])]), fun b => .slice (some ⟨b, 0, none⟩) 1 1, fun b => bx b #[(.int .i64 0), (.int .i64 0), (.int .i64 p0.W), (.int .i64 p0.H), (.bool false), (.int .i64 x161)] 40⟩)] [(8, (.pointer (some ⟨b124, 0, none⟩))), (9, (.slice Al158 (l158).length cl158)), (11, (.slice Ay127_0 (y127).length cy127_0)), (13, (.int .i64 x159)), (59, (.int .i64 x159)), (60, (.slice Ay127_0 (y127).length cy127_0)), (61, (.int .i64 (y127.length : Int))), (62, (.bool (decide (x159 < (y127.length : Int))))), (65, (.slice Al158 (l158).length cl158)), (66, (.agg #[(.int .i64 0), (.int .i64 0), (.int .i64 p0.W), (.int .i64 p0.H)])), (67, (.slice Ay127_0 (y127).length cy127_0)), (68, (.int .i64 x159)), (69, (.pointer (some ⟨adB Ay127_0, adO Ay127_0 + (x159).toNat * 1, none⟩))), (70, (.int .i64 x161)), (71, (.agg #[(.int .i64 0), (.int .i64 0), (.int .i64 p0.W), (.int .i64 p0.H), (.bool false), (.int .i64 x161)])), (72, (.func (.func 0) #[] #[(.agg #[(.int .i64 0), (.int .i64 0), (.int .i64 p0.W), (.int .i64 p0.H), (.bool false), (.int .i64 x161)])]))] (by kernel_rfl) (by kernel_rfl) (by kernel_rfl) (by kernel_rfl) (by kernel_rfl) (by kernel_rfl) (by kernel_rfl) (fall_cons (fr_lit (vs := [(0, (.agg #[(.int .i64 0), (.int .i64 0), (.int .i64 p0.W), (.int .i64 p0.H), (.bool false), (.int .i64 x161)]))]) rfl rfl rfl (by kernel_rfl)) fall_nil) (fall_cons rfl fall_nil) (fall_cons rfl fall_nil) ?_ ?_
     ·refine Tq.mv rfl rfl ?_
      refine Tq.va rfl (fun _ _ h1 h2 => run_loadN (cs := [(.int .i64 0), (.int .i64 0), (.int .i64 p0.W), (.int .i64 p0.H)]) ag_38 sz_38 (h1.ev rfl) (CellsAt.take (rdb h2 (vs := [(.int .i64 0), (.int .i64 0), (.int .i64 p0.W), (.int .i64 p0.H)]) (k := 9) rfl 0) 4) rfl) ?_
      refine Tq.mv rfl rfl ?_
      refine Tq.mv rfl rfl ?_
      refine Tq.va rfl (fun _ _ h1 h2 => run_indexAddr el_44 (h1.ev rfl) hgy127_0.form (h1.ev rfl) hx1610 hx1611) ?_
      refine Tq.va rfl (fun _ _ h1 h2 => run_load1 ag_3 (h1.ev rfl) (rdF ef_i64 (hgy127_0.rl) hx1612 h2) rfl) ?_
      refine Tq.build (vs := [(0, (.agg #[(.int .i64 0), (.int .i64 0), (.int .i64 p0.W), (.int .i64 p0.H)])), (2, (.int .i64 x161))]) (cs := [(.int .i64 0), (.int .i64 0), (.int .i64 p0.W), (.int .i64 p0.H), (.bool false), (.int .i64 x161)]) (wn rfl) rfl (evs_cons rfl (evs_cons rfl evs_nil)) (by kernel_rfl) ?_
      refine Tq.mkFunc (vs := [(.agg #[(.int .i64 0), (.int .i64 0), (.int .i64 p0.W), (.int .i64 p0.H), (.bool false), (.int .i64 x161)])]) (wn rfl) rfl (evl_cons rfl evl_nil) ?_
      exact Tq.fin (.cons rfl (.cons rfl (.cons rfl (.cons rfl (.cons rfl (.cons rfl (.cons rfl (.cons rfl (.cons rfl (.cons rfl (.cons rfl (.cons rfl (.cons rfl (.cons rfl (.cons rfl (.cons rfl .nil))))))))))))))))
     ·intro bs160
      refine Tr.sel (lf := [(8, (.pointer (some ⟨b124, 0, none⟩))), (11, (.slice Ay127_0 (y127).length cy127_0)), (13, (.int .i64 x159)), (65, (.slice Al158 (l158).length cl158)), (72, (.slice (some ⟨(bs160 7), 0, none⟩) 1 1))]) (le := [(9, bx b124 #[(.int .i64 0), (.int .i64 0), (.int .i64 p0.W), (.int .i64 p0.H)] 38), (10, ow Al158 cl158 40 fl_TCut l158), (16, bx (bs160 7) #[(.int .i64 0), (.int .i64 0), (.int .i64 p0.W), (.int .i64 p0.H), (.bool false), (.int .i64 x161)] 40)]) (.cons rfl (.cons rfl (.cons rfl (.cons rfl (.cons rfl .nil))))) (.cons rfl (.cons rfl (.cons rfl .nil))) ?_
      obtain ⟨l162, hl162, H⟩ := bnd H
      refine Tr.append 10 (t := fl_TCut) (l := l158) (l2 := [(TCut.mk (TRect.mk 0 0 p0.W p0.H) false x161)]) (wn rfl) rfl rfl rfl rfl (fun W hW => ⟨[[(.int .i64 0), (.int .i64 0), (.int .i64 p0.W), (.int .i64 p0.H), (.bool false), (.int .i64 x161)]], (.cons ⟨(), trivial, rfl⟩ .nil), rdb hW (vs := [(.int .i64 0), (.int .i64 0), (.int .i64 p0.W), (.int .i64 p0.H), (.bool false), (.int .i64 x161)]) (k := 16) rfl 0⟩) un_27 sz_40 zl_40 (by decide) by_40 rfl hl162 fun Al162 cl162 hAl162 => ?_
      refine Tr.asg rfl rfl ?_
      refine Tr.nil (Tr.normBlock (Tr.normThen ?_))
      refine Tr.region ?_
      refine Tr.mv rfl rfl ?_
      refine Tr.va rfl (fun _ _ h1 h2 => run_add (h1.ev rfl) (h1.ev rfl)) ?_
      refine Tr.asg rfl rfl ?_
      refine Tr.nil ?_
      exact Tr.backThen leF_etchhouseref9_Scores_L3 (l162, (w64 (x159 + 1)), Al162, cl162) ⟨H, hAl162⟩ (.cons rfl (.cons rfl (.cons rfl (.cons rfl .nil)))) (.cons rfl (.cons rfl .nil))
    ·refine Tr.exit (Tr.exitThen (Tr.exitThen (Tr.exitBlock (Tr.normThen ?_))))
     refine Tr.sr ?_
     refine Tr.mv rfl rfl ?_
     refine Tr.asg rfl rfl ?_
     refine Tr.asg rfl rfl ?_
     refine Tr.nil (Tr.normThen ?_)
     refine Tr.ret ?_
     obtain rfl := Option.some.inj H
     exact Tr.out (m := [(.slice Al158 (l158).length cl158), (.int .i64 0)]) [] (res_tmp rfl (res_tmp rfl res_nil)) (fun W hW => ⟨(Al158, cl158), rfl, hl158, HF.lowE leB (hW.pick (ks := [10]) (by decide) (pk_cons rfl pk_nil)) ⟨ow_any _ _ _ _ tr_TCut, trivial⟩⟩)

theorem F_slices_Equal_Cut_ok {w : Bs} (p0 : (List TCut)) (Ap0_0 : Option Addr) (cp0_0 : Nat) (hp0_0 : Sl w.R w.W fl_TCut Ap0_0 cp0_0 p0) (p1 : (List TCut)) (Ap1_0 : Option Addr) (cp1_0 : Nat) (hp1_0 : Sl w.R w.W fl_TCut Ap1_0 cp1_0 p1) (r : Bool) (H : F_slices_Equal_Cut p0 p1 = some r) (hE : HF w w.W E0) : Calls Try.prog 14 [(.slice Ap0_0 (p0).length cp0_0), (.slice Ap1_0 (p1).length cp1_0)].toArray w.W fun e W' => e = .returned (.bool r) ∧ HF w W' E0 := by
 unfold F_slices_Equal_Cut at H
 have leB := Bs.Le.refl w
 refine Tr.enter (n := 26) Try.func14 rfl rfl rfl hE ?_
 refine Tr.sr ?_
 refine Tr.asg rfl rfl ?_
 refine Tr.nil (Tr.normThen ?_)
 refine Tr.seq ?_
 refine Tr.sr ?_
 refine Tr.mv rfl rfl ?_
 refine Tr.va rfl (fun _ _ h1 h2 => run_len un_27 (h1.ev rfl)) ?_
 refine Tr.mv rfl rfl ?_
 refine Tr.va rfl (fun _ _ h1 h2 => run_len un_27 (h1.ev rfl)) ?_
 refine Tr.va rfl (fun _ _ h1 h2 => run_neq (h1.ev rfl) (h1.ev rfl)) ?_
 refine Tr.nil (Tr.normThen ?_)
 refine Tr.cond rfl H (fun H => ?_) (fun H => ?_)
 ·refine Tr.sr ?_
  refine Tr.asg rfl rfl ?_
  refine Tr.nil (Tr.normThen ?_)
  refine Tr.ret (Tr.retThen ?_)
  obtain rfl := Option.some.inj H
  exact Tr.out (m := [(.bool false)]) [] (res_tmp rfl res_nil) (fun W hW => ⟨rfl, hW.low leB⟩)
 ·refine Tr.skip (Tr.normThen ?_)
  refine Tr.seq ?_
  refine Tr.sr ?_
  refine Tr.mv rfl rfl ?_
  refine Tr.va rfl (fun _ _ h1 h2 => run_len un_27 (h1.ev rfl)) ?_
  refine Tr.mv rfl rfl ?_
  refine Tr.nil (Tr.normThen ?_)
  refine Tr.block ?_
  refine Tr.loop (σ := (List TCut) × Nat) (fun m w s => m = s.1.length + 1 ∧ s.1 = List.drop s.2 p0 ∧ s.2 ≤ p0.length ∧ F_slices_Equal_Cut_L1 p1 s.1 s.2 = some r) (fun s => [(0, (.slice Ap0_0 (p0).length cp0_0)), (1, (.slice Ap1_0 (p1).length cp1_0)), (12, (.int .i64 (p0.length : Int))), (13, (.int .i64 (s.2 : Int)))]) (fun s => []) (p0.length + 1) (p0, 0) ⟨rfl, rfl, Nat.zero_le _, H⟩ (.cons rfl (.cons rfl (.cons rfl (.cons rfl .nil)))) .nil (fun _ _ h => absurd h.1 (by simp)) ?_
  intro w leF_slices_Equal_Cut_L1 m s hs
  obtain ⟨restF_slices_Equal_Cut_L1, iF_slices_Equal_Cut_L1⟩ := s
  obtain ⟨hmF_slices_Equal_Cut_L1, hdF_slices_Equal_Cut_L1, hiF_slices_Equal_Cut_L1, H⟩ := hs
  replace hdF_slices_Equal_Cut_L1 : restF_slices_Equal_Cut_L1 = List.drop iF_slices_Equal_Cut_L1 p0 := hdF_slices_Equal_Cut_L1
  replace H : F_slices_Equal_Cut_L1 p1 restF_slices_Equal_Cut_L1 iF_slices_Equal_Cut_L1 = some r := H
  replace hmF_slices_Equal_Cut_L1 : m + 1 = restF_slices_Equal_Cut_L1.length + 1 := hmF_slices_Equal_Cut_L1
  replace hp0_0 := hp0_0.leR leF_slices_Equal_Cut_L1
  replace hp1_0 := hp1_0.leR leF_slices_Equal_Cut_L1
  replace leB := leB.trans leF_slices_Equal_Cut_L1
  obtain rfl : m = restF_slices_Equal_Cut_L1.length := by omega
  clear hmF_slices_Equal_Cut_L1
  show Tr _ _ (LF [(0, (.slice Ap0_0 (p0).length cp0_0)), (1, (.slice Ap1_0 (p1).length cp1_0)), (12, (.int .i64 (p0.length : Int))), (13, (.int .i64 (iF_slices_Equal_Cut_L1 : Int)))]) (LE []) _
  cases restF_slices_Equal_Cut_L1 with
  | nil =>
   rw [F_slices_Equal_Cut_L1.eq_1] at H
   refine Tr.sr ?_
   refine Tr.va rfl (fun _ _ h1 h2 => run_lss (h1.ev rfl) (h1.ev rfl)) ?_
   refine Tr.nil (Tr.normThen ?_)
   refine Tr.seq ?_
   refine Tr.condF rfl (range_nil hdF_slices_Equal_Cut_L1) ?_
   refine Tr.exit (Tr.exitThen (Tr.exitThen (Tr.exitBlock (Tr.normThen ?_))))
   refine Tr.sr ?_
   refine Tr.asg rfl rfl ?_
   refine Tr.nil (Tr.normThen ?_)
   refine Tr.ret ?_
   obtain rfl := Option.some.inj H
   exact Tr.out (m := [(.bool true)]) [] (res_tmp rfl res_nil) (fun W hW => ⟨rfl, hW.low leB⟩)
  | cons xF_slices_Equal_Cut_L1 restF_slices_Equal_Cut_L1 =>
   rw [F_slices_Equal_Cut_L1.eq_2] at H
   refine Tr.sr ?_
   refine Tr.va rfl (fun _ _ h1 h2 => run_lss (h1.ev rfl) (h1.ev rfl)) ?_
   refine Tr.nil (Tr.normThen ?_)
   refine Tr.seq ?_
   refine Tr.condT rfl (range_on hdF_slices_Equal_Cut_L1) ?_
   refine Tr.skip (Tr.normThen ?_)
   refine Tr.seq ?_
   refine Tr.block ?_
   refine Tr.sr ?_
   refine Tr.mv rfl rfl ?_
   refine Tr.asg rfl rfl ?_
   refine Tr.nil (Tr.normThen ?_)
   refine Tr.seq ?_
   refine Tr.draw (by kernel_rfl) (by kernel_rfl) ?_
   refine Tq.mv rfl rfl ?_
   refine Tq.mv rfl rfl ?_
   refine Tq.va rfl (fun _ _ h1 h2 => run_indexAddr el_27 (h1.ev rfl) hp0_0.form (h1.ev rfl) (Int.natCast_nonneg _) (range_lt hdF_slices_Equal_Cut_L1)) ?_
   refine Tq.va rfl (fun _ _ h1 h2 => run_loadN (cs := [(.int .i64 xF_slices_Equal_Cut_L1.Part.X0), (.int .i64 xF_slices_Equal_Cut_L1.Part.Y0), (.int .i64 xF_slices_Equal_Cut_L1.Part.X1), (.int .i64 xF_slices_Equal_Cut_L1.Part.Y1), (.bool xF_slices_Equal_Cut_L1.Across), (.int .i64 xF_slices_Equal_Cut_L1.At)]) ag_40 sz_40 (h1.ev rfl) (CellsAt.take (rdF ef_TCut hp0_0 (range_at hdF_slices_Equal_Cut_L1) h2) 6) rfl) ?_
   refine Tq.mv rfl rfl ?_
   refine Tq.mv rfl rfl ?_
   obtain ⟨x103, hx103, H⟩ := bnd H
   obtain ⟨hx1030, hx1031, hx1032⟩ := idx_some hx103
   refine Tq.va rfl (fun _ _ h1 h2 => run_indexAddr el_27 (h1.ev rfl) hp1_0.form (h1.ev rfl) hx1030 hx1031) ?_
   refine Tq.va rfl (fun _ _ h1 h2 => run_loadN (cs := [(.int .i64 x103.Part.X0), (.int .i64 x103.Part.Y0), (.int .i64 x103.Part.X1), (.int .i64 x103.Part.Y1), (.bool x103.Across), (.int .i64 x103.At)]) ag_40 sz_40 (h1.ev rfl) (CellsAt.take (rdF ef_TCut hp1_0 hx1032 h2) 6) rfl) ?_
   refine Tq.va rfl (fun _ _ h1 h2 => run_neq_40 xF_slices_Equal_Cut_L1 x103 (h1.ev rfl) (h1.ev rfl)) ?_
   refine Tq.nil (Tr.normThen ?_)
   refine Tr.cond rfl H (fun H => ?_) (fun H => ?_)
   ·refine Tr.sr ?_
    refine Tr.asg rfl rfl ?_
    refine Tr.nil (Tr.normThen ?_)
    refine Tr.ret (Tr.retBlock (Tr.retThen (Tr.retThen (Tr.retBlock (Tr.retThen ?_)))))
    obtain rfl := Option.some.inj H
    exact Tr.out (m := [(.bool false)]) [] (res_tmp rfl res_nil) (fun W hW => ⟨rfl, hW.low leB⟩)
   ·refine Tr.skip (Tr.normBlock (Tr.normThen ?_))
    refine Tr.region ?_
    refine Tr.va rfl (fun _ _ h1 h2 => run_add (h1.ev rfl) (h1.ev rfl)) ?_
    refine Tr.mv rfl rfl ?_
    refine Tr.nil ?_
    exact Tr.backThen leF_slices_Equal_Cut_L1 (restF_slices_Equal_Cut_L1, (iF_slices_Equal_Cut_L1 + 1)) ⟨rfl, range_tl hdF_slices_Equal_Cut_L1, range_lt hdF_slices_Equal_Cut_L1, H⟩ (.cons rfl (.cons rfl (.cons rfl (.cons (congrArg (fun z => some (Value.int .i64 z)) (range_up hdF_slices_Equal_Cut_L1 hp0_0.form)) .nil)))) .nil

theorem F_shape_AreaOf_ok {w : Bs} (p0 : (List TRect)) (Ap0_0 : Option Addr) (cp0_0 : Nat) (hp0_0 : Sl w.R w.W fl_TRect Ap0_0 cp0_0 p0) (r : Int) (H : F_shape_AreaOf p0 = some r) (hE : HF w w.W E0) : Calls Try.prog 46 [(.slice Ap0_0 (p0).length cp0_0)].toArray w.W fun e W' => e = .returned (.int .i64 r) ∧ HF w W' E0 := by
 unfold F_shape_AreaOf at H
 have leB := Bs.Le.refl w
 refine Tr.enter (n := 27) Try.func46 rfl rfl rfl hE ?_
 refine Tr.sr ?_
 refine Tr.asg rfl rfl ?_
 refine Tr.nil (Tr.normThen ?_)
 refine Tr.sr ?_
 refine Tr.asg rfl rfl ?_
 refine Tr.nil (Tr.normThen ?_)
 refine Tr.seq ?_
 refine Tr.sr ?_
 refine Tr.mv rfl rfl ?_
 refine Tr.va rfl (fun _ _ h1 h2 => run_len un_32 (h1.ev rfl)) ?_
 refine Tr.mv rfl rfl ?_
 refine Tr.nil (Tr.normThen ?_)
 refine Tr.block ?_
 refine Tr.loop (σ := (List TRect) × Nat × Int) (fun m w s => m = s.1.length + 1 ∧ s.1 = List.drop s.2.1 p0 ∧ s.2.1 ≤ p0.length ∧ F_shape_AreaOf_L1 s.1 s.2.1 s.2.2 = some r) (fun s => [(3, (.int .i64 s.2.2)), (6, (.slice Ap0_0 (p0).length cp0_0)), (7, (.int .i64 (p0.length : Int))), (8, (.int .i64 (s.2.1 : Int)))]) (fun s => []) (p0.length + 1) (p0, 0, 0) ⟨rfl, rfl, Nat.zero_le _, H⟩ (.cons rfl (.cons rfl (.cons rfl (.cons rfl .nil)))) .nil (fun _ _ h => absurd h.1 (by simp)) ?_
 intro w leF_shape_AreaOf_L1 m s hs
 obtain ⟨restF_shape_AreaOf_L1, iF_shape_AreaOf_L1, x110⟩ := s
 obtain ⟨hmF_shape_AreaOf_L1, hdF_shape_AreaOf_L1, hiF_shape_AreaOf_L1, H⟩ := hs
 replace hdF_shape_AreaOf_L1 : restF_shape_AreaOf_L1 = List.drop iF_shape_AreaOf_L1 p0 := hdF_shape_AreaOf_L1
 replace H : F_shape_AreaOf_L1 restF_shape_AreaOf_L1 iF_shape_AreaOf_L1 x110 = some r := H
 replace hmF_shape_AreaOf_L1 : m + 1 = restF_shape_AreaOf_L1.length + 1 := hmF_shape_AreaOf_L1
 replace hp0_0 := hp0_0.leR leF_shape_AreaOf_L1
 replace leB := leB.trans leF_shape_AreaOf_L1
 obtain rfl : m = restF_shape_AreaOf_L1.length := by omega
 clear hmF_shape_AreaOf_L1
 show Tr _ _ (LF [(3, (.int .i64 x110)), (6, (.slice Ap0_0 (p0).length cp0_0)), (7, (.int .i64 (p0.length : Int))), (8, (.int .i64 (iF_shape_AreaOf_L1 : Int)))]) (LE []) _
 cases restF_shape_AreaOf_L1 with
 | nil =>
  rw [F_shape_AreaOf_L1.eq_1] at H
  refine Tr.sr ?_
  refine Tr.va rfl (fun _ _ h1 h2 => run_lss (h1.ev rfl) (h1.ev rfl)) ?_
  refine Tr.nil (Tr.normThen ?_)
  refine Tr.seq ?_
  refine Tr.condF rfl (range_nil hdF_shape_AreaOf_L1) ?_
  refine Tr.exit (Tr.exitThen (Tr.exitThen (Tr.exitBlock (Tr.normThen ?_))))
  refine Tr.sr ?_
  refine Tr.mv rfl rfl ?_
  refine Tr.asg rfl rfl ?_
  refine Tr.nil (Tr.normThen ?_)
  refine Tr.ret ?_
  obtain rfl := Option.some.inj H
  exact Tr.out (m := [(.int .i64 x110)]) [] (res_tmp rfl res_nil) (fun W hW => ⟨rfl, hW.low leB⟩)
 | cons xF_shape_AreaOf_L1 restF_shape_AreaOf_L1 =>
  rw [F_shape_AreaOf_L1.eq_2] at H
  refine Tr.sr ?_
  refine Tr.va rfl (fun _ _ h1 h2 => run_lss (h1.ev rfl) (h1.ev rfl)) ?_
  refine Tr.nil (Tr.normThen ?_)
  refine Tr.seq ?_
  refine Tr.condT rfl (range_on hdF_shape_AreaOf_L1) ?_
  refine Tr.skip (Tr.normThen ?_)
  refine Tr.seq ?_
  refine Tr.block ?_
  refine Tr.sr ?_
  refine Tr.va rfl (fun _ _ h1 h2 => run_indexAddr el_32 (h1.ev rfl) hp0_0.form (h1.ev rfl) (Int.natCast_nonneg _) (range_lt hdF_shape_AreaOf_L1)) ?_
  refine Tr.va rfl (fun _ _ h1 h2 => run_loadN (cs := [(.int .i64 xF_shape_AreaOf_L1.X0), (.int .i64 xF_shape_AreaOf_L1.Y0), (.int .i64 xF_shape_AreaOf_L1.X1), (.int .i64 xF_shape_AreaOf_L1.Y1)]) ag_38 sz_38 (h1.ev rfl) (CellsAt.take (rdF ef_TRect hp0_0 (range_at hdF_shape_AreaOf_L1) h2) 4) rfl) ?_
  refine Tr.alloc 3 (wn rfl) rfl ze_38 fun b111 => ?_
  refine Tr.store 3 (cs := [(.int .i64 xF_shape_AreaOf_L1.X0), (.int .i64 xF_shape_AreaOf_L1.Y0), (.int .i64 xF_shape_AreaOf_L1.X1), (.int .i64 xF_shape_AreaOf_L1.Y1)]) [(.int .i64 xF_shape_AreaOf_L1.X0), (.int .i64 xF_shape_AreaOf_L1.Y0), (.int .i64 xF_shape_AreaOf_L1.X1), (.int .i64 xF_shape_AreaOf_L1.Y1)] (wn rfl) rfl rfl rfl rfl sz_38 rfl rfl rfl ?_
  refine Tr.nil (Tr.normThen ?_)
  refine Tr.region ?_
  refine Tr.mv rfl rfl ?_
  refine Tr.va rfl (fun _ _ h1 h2 => run_fieldAddr fo_38_2 (h1.ev rfl)) ?_
  refine Tr.va rfl (fun _ _ h1 h2 => run_load1 ag_3 (h1.ev rfl) (rdb h2 (vs := [(.int .i64 xF_shape_AreaOf_L1.X0), (.int .i64 xF_shape_AreaOf_L1.Y0), (.int .i64 xF_shape_AreaOf_L1.X1), (.int .i64 xF_shape_AreaOf_L1.Y1)]) (k := 3) rfl 2) rfl) ?_
  refine Tr.va rfl (fun _ _ h1 h2 => run_fieldAddr fo_38_0 (h1.ev rfl)) ?_
  refine Tr.va rfl (fun _ _ h1 h2 => run_load1 ag_3 (h1.ev rfl) (rdb h2 (vs := [(.int .i64 xF_shape_AreaOf_L1.X0), (.int .i64 xF_shape_AreaOf_L1.Y0), (.int .i64 xF_shape_AreaOf_L1.X1), (.int .i64 xF_shape_AreaOf_L1.Y1)]) (k := 3) rfl 0) rfl) ?_
  refine Tr.va rfl (fun _ _ h1 h2 => run_sub (h1.ev rfl) (h1.ev rfl)) ?_
  refine Tr.va rfl (fun _ _ h1 h2 => run_fieldAddr fo_38_3 (h1.ev rfl)) ?_
  refine Tr.va rfl (fun _ _ h1 h2 => run_load1 ag_3 (h1.ev rfl) (rdb h2 (vs := [(.int .i64 xF_shape_AreaOf_L1.X0), (.int .i64 xF_shape_AreaOf_L1.Y0), (.int .i64 xF_shape_AreaOf_L1.X1), (.int .i64 xF_shape_AreaOf_L1.Y1)]) (k := 3) rfl 3) rfl) ?_
  refine Tr.va rfl (fun _ _ h1 h2 => run_fieldAddr fo_38_1 (h1.ev rfl)) ?_
  refine Tr.va rfl (fun _ _ h1 h2 => run_load1 ag_3 (h1.ev rfl) (rdb h2 (vs := [(.int .i64 xF_shape_AreaOf_L1.X0), (.int .i64 xF_shape_AreaOf_L1.Y0), (.int .i64 xF_shape_AreaOf_L1.X1), (.int .i64 xF_shape_AreaOf_L1.Y1)]) (k := 3) rfl 1) rfl) ?_
  refine Tr.va rfl (fun _ _ h1 h2 => run_sub (h1.ev rfl) (h1.ev rfl)) ?_
  refine Tr.va rfl (fun _ _ h1 h2 => run_mul (h1.ev rfl) (h1.ev rfl)) ?_
  refine Tr.va rfl (fun _ _ h1 h2 => run_add (h1.ev rfl) (h1.ev rfl)) ?_
  refine Tr.asg rfl rfl ?_
  refine Tr.nil (Tr.normBlock (Tr.normThen ?_))
  refine Tr.region ?_
  refine Tr.va rfl (fun _ _ h1 h2 => run_add (h1.ev rfl) (h1.ev rfl)) ?_
  refine Tr.mv rfl rfl ?_
  refine Tr.nil ?_
  exact Tr.backThen leF_shape_AreaOf_L1 (restF_shape_AreaOf_L1, (iF_shape_AreaOf_L1 + 1), (w64 (x110 + (w64 ((w64 (xF_shape_AreaOf_L1.X1 - xF_shape_AreaOf_L1.X0)) * (w64 (xF_shape_AreaOf_L1.Y1 - xF_shape_AreaOf_L1.Y0))))))) ⟨rfl, range_tl hdF_shape_AreaOf_L1, range_lt hdF_shape_AreaOf_L1, H⟩ (.cons rfl (.cons rfl (.cons rfl (.cons (congrArg (fun z => some (Value.int .i64 z)) (range_up hdF_shape_AreaOf_L1 hp0_0.form)) .nil)))) .nil

theorem F_panel_Lowest_ok (N : Nat) {w : Bs} (p0 : Int) (p1 : Int) (r : TShare) (H : F_panel_Lowest N p0 p1 = some r) (hE : HF w w.W E0) : Calls Try.prog 45 [(.int .i64 p0), (.int .i64 p1)].toArray w.W fun e W' => e = .returned (.agg #[(.int .i64 r.Num), (.int .i64 r.Den)]) ∧ HF w W' E0 := by
 unfold F_panel_Lowest at H
 have leB := Bs.Le.refl w
 refine Tr.enter (n := 22) Try.func45 rfl rfl rfl hE ?_
 refine Tr.sr ?_
 refine Tr.alloc 1 (wn rfl) rfl ze_51 fun b100 => ?_
 refine Tr.nil (Tr.normThen ?_)
 refine Tr.sr ?_
 refine Tr.mv rfl rfl ?_
 refine Tr.mv rfl rfl ?_
 refine Tr.asg rfl rfl ?_
 refine Tr.asg rfl rfl ?_
 refine Tr.nil (Tr.normThen ?_)
 refine Tr.seq ?_
 refine Tr.block ?_
 refine Tr.loop (σ := Int × Int) (fun m w s => F_panel_Lowest_L1 p0 p1 m s.1 s.2 = some r) (fun s => [(0, (.int .i64 p0)), (1, (.int .i64 p1)), (4, (.pointer (some ⟨b100, 0, none⟩))), (5, (.int .i64 s.1)), (6, (.int .i64 s.2))]) (fun s => [(1, bx b100 #[(.int .i64 0), (.int .i64 0)] 51)]) N (p0, p1) H (.cons rfl (.cons rfl (.cons rfl (.cons rfl (.cons rfl .nil))))) (.cons rfl .nil) (fun _ _ h => noSome (h)) ?_
 intro w leF_panel_Lowest_L1 mF_panel_Lowest_L1 s hs
 obtain ⟨x109, x110⟩ := s
 have H := hs
 replace H : F_panel_Lowest_L1 p0 p1 (mF_panel_Lowest_L1 + 1) x109 x110 = some r := H
 replace leB := leB.trans leF_panel_Lowest_L1
 rw [F_panel_Lowest_L1.eq_2] at H
 show Tr _ _ (LF [(0, (.int .i64 p0)), (1, (.int .i64 p1)), (4, (.pointer (some ⟨b100, 0, none⟩))), (5, (.int .i64 x109)), (6, (.int .i64 x110))]) (LE [(1, bx b100 #[(.int .i64 0), (.int .i64 0)] 51)]) _
 refine Tr.seq ?_
 refine Tr.sr ?_
 refine Tr.mv rfl rfl ?_
 refine Tr.va rfl (fun _ _ h1 h2 => run_neq (h1.ev rfl) (h1.ev rfl)) ?_
 refine Tr.nil (Tr.normThen ?_)
 refine Tr.cond rfl H (fun H => ?_) (fun H => ?_)
 ·refine Tr.skip (Tr.normThen ?_)
  refine Tr.block ?_
  refine Tr.draw (by kernel_rfl) (by kernel_rfl) ?_
  refine Tq.mv rfl rfl ?_
  refine Tq.mv rfl rfl ?_
  refine Tq.mv rfl rfl ?_
  obtain ⟨q111, hq111, H⟩ := bnd H
  refine Tq.va rfl (fun _ _ h1 h2 => run_md (h1.ev rfl) (h1.ev rfl) hq111) ?_
  refine Tq.asg rfl rfl ?_
  refine Tq.asg rfl rfl ?_
  refine Tq.nil (Tr.normBlock ?_)
  exact Tr.backThen leF_panel_Lowest_L1 (x110, q111) H (.cons rfl (.cons rfl (.cons rfl (.cons rfl (.cons rfl .nil))))) (.cons rfl .nil)
 ·refine Tr.exit (Tr.exitThen (Tr.exitThen (Tr.exitBlock (Tr.normThen ?_))))
  refine Tr.seq ?_
  refine Tr.drawTail 6 (by kernel_rfl) (by kernel_rfl) ?_
  refine Tq.mv rfl rfl ?_
  refine Tq.mv rfl rfl ?_
  obtain ⟨q112, hq112, H⟩ := bnd H
  refine Tq.va rfl (fun _ _ h1 h2 => run_dv (h1.ev rfl) (h1.ev rfl) hq112) ?_
  refine Tq.mv rfl rfl ?_
  refine Tq.mv rfl rfl ?_
  obtain ⟨q113, hq113, H⟩ := bnd H
  refine Tq.va rfl (fun _ _ h1 h2 => run_dv (h1.ev rfl) (h1.ev rfl) hq113) ?_
  refine Tq.nil ?_
  refine Tr.build (vs := [(0, (.int .i64 q112)), (1, (.int .i64 q113))]) (cs := [(.int .i64 q112), (.int .i64 q113)]) (wn rfl) rfl (evs_cons rfl (evs_cons rfl evs_nil)) (by kernel_rfl) ?_
  refine Tr.store 1 (cs := [(.int .i64 q112), (.int .i64 q113)]) [(.int .i64 q112), (.int .i64 q113)] (wn rfl) rfl rfl rfl rfl sz_51 rfl rfl rfl ?_
  refine Tr.nil (Tr.normThen ?_)
  refine Tr.ret ?_
  obtain rfl := Option.some.inj H
  exact Tr.out (m := [(.agg #[(.int .i64 q112), (.int .i64 q113)])]) [1] (res_cell rfl rfl ag_51 sz_51 res_nil) (fun W hW => ⟨rfl, hW.low leB⟩)

theorem F_panel_Use_ok (N : Nat) {w : Bs} (p0 : TPanel) (Ap0_0 : Option Addr) (cp0_0 : Nat) (hp0_0 : Sl w.R w.W fl_TBoardKind Ap0_0 cp0_0 p0.Kinds) (Ap0_1 : Option Addr) (cp0_1 : Nat) (hp0_1 : Sl w.R w.W fl_TSlot Ap0_1 cp0_1 p0.Slots) (Ap0_2 : Option Addr) (cp0_2 : Nat) (hp0_2 : Sl w.R w.W fl_TPoint Ap0_2 cp0_2 p0.Marks) (r : (TShare × Int)) (H : F_panel_Use N p0 = some r) (hE : HF w w.W E0) : Calls Try.prog 21 [(.agg #[(.int .i64 p0.W), (.int .i64 p0.H), (.int .i64 p0.Rail), (.int .i64 p0.Gap), (.slice Ap0_0 (p0.Kinds).length cp0_0), (.slice Ap0_1 (p0.Slots).length cp0_1), (.slice Ap0_2 (p0.Marks).length cp0_2)])].toArray w.W fun e W' => e = .returned (.tuple #[(.agg #[(.int .i64 r.1.Num), (.int .i64 r.1.Den)]), (.int .i64 r.2)]) ∧ HF w W' E0 := by
 unfold F_panel_Use at H
 have leB := Bs.Le.refl w
 refine Tr.enter (n := 23) Try.func21 rfl rfl rfl hE ?_
 refine Tr.sr ?_
 refine Tr.box 1 (cs := [(.int .i64 p0.W), (.int .i64 p0.H), (.int .i64 p0.Rail), (.int .i64 p0.Gap), (.slice Ap0_0 (p0.Kinds).length cp0_0), (.slice Ap0_1 (p0.Slots).length cp0_1), (.slice Ap0_2 (p0.Marks).length cp0_2)]) (wn rfl) rfl rfl rfl fun b100 => ?_
 refine Tr.alloc 2 (wn rfl) rfl ze_51 fun b101 => ?_
 refine Tr.asg rfl rfl ?_
 refine Tr.nil (Tr.normThen ?_)
 refine Tr.sr ?_
 refine Tr.va rfl (fun _ _ h1 h2 => run_loadN (cs := [(.int .i64 p0.W), (.int .i64 p0.H), (.int .i64 p0.Rail), (.int .i64 p0.Gap), (.slice Ap0_0 (p0.Kinds).length cp0_0), (.slice Ap0_1 (p0.Slots).length cp0_1), (.slice Ap0_2 (p0.Marks).length cp0_2)]) ag_26 sz_26 (h1.ev rfl) (CellsAt.take (rdb h2 (vs := [(.int .i64 p0.W), (.int .i64 p0.H), (.int .i64 p0.Rail), (.int .i64 p0.Gap), (.slice Ap0_0 (p0.Kinds).length cp0_0), (.slice Ap0_1 (p0.Slots).length cp0_1), (.slice Ap0_2 (p0.Marks).length cp0_2)]) (k := 1) rfl 0) 7) rfl) ?_
 obtain ⟨y102, hy102, H⟩ := bnd H
 refine Tr.callM [3] [emp] (U := (Option Addr × Nat)) (fun u => (.tuple #[(.slice u.1 (y102.1).length u.2), (.int .i64 y102.2)])) (fun u => SlF u.1 (y102.1).length u.2) (fun u => [ow u.1 u.2 38 fl_TRect y102.1]) rfl (pk_cons rfl pk_nil) (fun _ => rfl) (wn rfl) rfl Try.call25 (evl_cons rfl evl_nil) (fun W hW hp hE => F_panel_open_ok N p0 Ap0_0 cp0_0 (hp0_0.ext (hW.extS hp)) Ap0_1 cp0_1 (hp0_1.ext (hW.extS hp)) Ap0_2 cp0_2 (hp0_2.ext (hW.extS hp)) y102 hy102 hE) ?_
 intro u hu
 obtain ⟨Ay102_0, cy102_0⟩ := u
 have gy102_0 := hu
 have hgy102_0 : SlF Ay102_0 (y102.1).length cy102_0 := gy102_0 --@phi
 show Tr _ _ (uf _ 8 (.tuple #[(.slice Ay102_0 (y102.1).length cy102_0), (.int .i64 y102.2)])) (up _ 3 (ow Ay102_0 cy102_0 38 fl_TRect y102.1)) _
 refine Tr.mv rfl rfl ?_
 refine Tr.va rfl (fun _ _ h1 h2 => run_extract (h1.ev rfl) rfl) ?_
 refine Tr.va rfl (fun _ _ h1 h2 => run_extract (h1.ev rfl) rfl) ?_
 refine Tr.asg rfl rfl ?_
 refine Tr.asg rfl rfl ?_
 refine Tr.nil (Tr.normThen ?_)
 refine Tr.seq ?_
 refine Tr.sr ?_
 refine Tr.mv rfl rfl ?_
 refine Tr.va rfl (fun _ _ h1 h2 => run_neq (h1.ev rfl) (h1.ev rfl)) ?_
 refine Tr.nil (Tr.normThen ?_)
 refine Tr.cond rfl H (fun H => ?_) (fun H => ?_)
 ·refine Tr.sr ?_
  refine Tr.build (vs := []) (cs := [(.int .i64 0), (.int .i64 0)]) (wn rfl) rfl evs_nil (by kernel_rfl) ?_
  refine Tr.mv rfl rfl ?_
  refine Tr.store 2 (cs := [(.int .i64 0), (.int .i64 0)]) [(.int .i64 0), (.int .i64 0)] (wn rfl) rfl rfl rfl rfl sz_51 rfl rfl rfl ?_
  refine Tr.asg rfl rfl ?_
  refine Tr.nil (Tr.normThen ?_)
  refine Tr.ret (Tr.retThen ?_)
  obtain rfl := Option.some.inj H
  exact Tr.out (m := [(.agg #[(.int .i64 0), (.int .i64 0)]), (.int .i64 y102.2)]) [2] (res_cell rfl rfl ag_51 sz_51 (res_tmp rfl res_nil)) (fun W hW => ⟨rfl, hW.low leB⟩)
 ·refine Tr.skip (Tr.normThen ?_)
  refine Tr.seq ?_
  refine Tr.drawTail 7 (by kernel_rfl) (by kernel_rfl) ?_
  refine Tq.mv rfl rfl ?_
  obtain ⟨y104, hy104, H⟩ := bnd H
  refine Tq.call0 (r := (.int .i64 y104)) (wn rfl) rfl Try.call46 (evl_cons rfl evl_nil) (fun W hW => F_shape_AreaOf_ok y102.1 Ay102_0 cy102_0 (hW.slCall (k := 3) rfl) y104 hy104 (HF.start _)) ?_
  refine Tq.va rfl (fun _ _ h1 h2 => run_fieldAddr fo_26_0 (h1.ev rfl)) ?_
  refine Tq.va rfl (fun _ _ h1 h2 => run_load1 ag_3 (h1.ev rfl) (rdb h2 (vs := [(.int .i64 p0.W), (.int .i64 p0.H), (.int .i64 p0.Rail), (.int .i64 p0.Gap), (.slice Ap0_0 (p0.Kinds).length cp0_0), (.slice Ap0_1 (p0.Slots).length cp0_1), (.slice Ap0_2 (p0.Marks).length cp0_2)]) (k := 1) rfl 0) rfl) ?_
  refine Tq.va rfl (fun _ _ h1 h2 => run_fieldAddr fo_26_1 (h1.ev rfl)) ?_
  refine Tq.va rfl (fun _ _ h1 h2 => run_load1 ag_3 (h1.ev rfl) (rdb h2 (vs := [(.int .i64 p0.W), (.int .i64 p0.H), (.int .i64 p0.Rail), (.int .i64 p0.Gap), (.slice Ap0_0 (p0.Kinds).length cp0_0), (.slice Ap0_1 (p0.Slots).length cp0_1), (.slice Ap0_2 (p0.Marks).length cp0_2)]) (k := 1) rfl 1) rfl) ?_
  refine Tq.va rfl (fun _ _ h1 h2 => run_mul (h1.ev rfl) (h1.ev rfl)) ?_
  refine Tq.nil ?_
  obtain ⟨y105, hy105, H⟩ := bnd H
  refine Tr.call0 (r := (.agg #[(.int .i64 y105.Num), (.int .i64 y105.Den)])) (wn rfl) rfl Try.call45 (evl_cons rfl (evl_cons rfl evl_nil)) (fun W hW => F_panel_Lowest_ok N y104 (w64 (p0.W * p0.H)) y105 hy105 (HF.start _)) ?_
  refine Tr.store 2 (cs := [(.int .i64 y105.Num), (.int .i64 y105.Den)]) [(.int .i64 y105.Num), (.int .i64 y105.Den)] (wn rfl) rfl rfl rfl rfl sz_51 rfl rfl rfl ?_
  refine Tr.asg rfl rfl ?_
  refine Tr.nil (Tr.normThen ?_)
  refine Tr.ret ?_
  obtain rfl := Option.some.inj H
  exact Tr.out (m := [(.agg #[(.int .i64 y105.Num), (.int .i64 y105.Den)]), (.int .i64 0)]) [2] (res_cell rfl rfl ag_51 sz_51 (res_tmp rfl res_nil)) (fun W hW => ⟨rfl, hW.low leB⟩)

theorem F_etchhouselaw9_awake_ok (N : Nat) {w : Bs}  (r : Bool) (H : F_etchhouselaw9_awake N = some r) (hE : HF w w.W E0) : Calls Try.prog 8 [].toArray w.W fun e W' => e = .returned (.bool r) ∧ HF w W' E0 := by
 unfold F_etchhouselaw9_awake at H
 have leB := Bs.Le.refl w
 refine Tr.enter (n := 15) Try.func8 rfl rfl rfl hE ?_
 refine Tr.sr ?_
 refine Tr.asg rfl rfl ?_
 refine Tr.nil (Tr.normThen ?_)
 refine Tr.sr ?_
 refine Tr.build (vs := [(0, (.int .i64 1)), (1, (.int .i64 1))]) (cs := [(.int .i64 1), (.int .i64 1), (.int .i64 0), (.int .i64 0), (.slice none 0 0), (.slice none 0 0), (.slice none 0 0)]) (wn rfl) rfl (evs_cons rfl (evs_cons rfl evs_nil)) (by kernel_rfl) ?_
 obtain ⟨y100, hy100, H⟩ := bnd H
 refine Tr.call0 (r := (.tuple #[(.agg #[(.int .i64 y100.1.Num), (.int .i64 y100.1.Den)]), (.int .i64 y100.2)])) (wn rfl) rfl Try.call21 (evl_cons rfl evl_nil) (fun W hW => F_panel_Use_ok N (TPanel.mk 1 1 0 0 [] [] []) none 0 (Sl.nil _ _ _) none 0 (Sl.nil _ _ _) none 0 (Sl.nil _ _ _) y100 hy100 (HF.start _)) ?_
 refine Tr.mv rfl rfl ?_
 refine Tr.va rfl (fun _ _ h1 h2 => run_extract (h1.ev rfl) rfl) ?_
 refine Tr.va rfl (fun _ _ h1 h2 => run_extract (h1.ev rfl) rfl) ?_
 refine Tr.alloc 1 (wn rfl) rfl ze_51 fun b101 => ?_
 refine Tr.store 1 (cs := [(.int .i64 y100.1.Num), (.int .i64 y100.1.Den)]) [(.int .i64 y100.1.Num), (.int .i64 y100.1.Den)] (wn rfl) rfl rfl rfl rfl sz_51 rfl rfl rfl ?_
 refine Tr.asg rfl rfl ?_
 refine Tr.nil (Tr.normThen ?_)
 refine Tr.sr ?_
 refine Tr.mv rfl rfl ?_
 refine Tr.va rfl (fun _ _ h1 h2 => run_eql (h1.ev rfl) (h1.ev rfl)) ?_
 refine Tr.mv rfl rfl ?_
 refine Tr.mid0 4 [(14, (.bool ((y100.2 == 0) && (eqTShare y100.1 (TShare.mk 0 1)))))] [(1, bx b101 #[(.int .i64 y100.1.Num), (.int .i64 y100.1.Den)] 51)] ?_ ?_
 ·cases hg101 : (y100.2 == 0)
  ·refine Tr.pass rfl rfl rfl rfl rfl (by decide) ?_
   refine Tr.pass rfl rfl rfl rfl rfl (by decide) ?_
   refine Tr.pass rfl rfl rfl rfl rfl (by decide) ?_
   refine Tr.va rfl (fun _ _ h1 h2 => run_pickF (h1.ev rfl) (h1.ev rfl)) ?_
   exact Tr.nil (Tr.fin0 (.cons rfl .nil) (.cons rfl .nil))
  ·refine Tr.val (wg rfl rfl rfl) rfl (fun _ _ h1 h2 => run_loadN (cs := [(.int .i64 y100.1.Num), (.int .i64 y100.1.Den)]) ag_51 sz_51 (h1.ev rfl) (CellsAt.take (rdb h2 (vs := [(.int .i64 y100.1.Num), (.int .i64 y100.1.Den)]) (k := 1) rfl 0) 2) rfl) ?_
   refine Tr.build (vs := [(1, (.int .i64 1))]) (cs := [(.int .i64 0), (.int .i64 1)]) (wg rfl rfl rfl) rfl (evs_cons rfl evs_nil) (by kernel_rfl) ?_
   refine Tr.val (wg rfl rfl rfl) rfl (fun _ _ h1 h2 => run_eql_51 y100.1 (TShare.mk 0 1) (h1.ev rfl) (h1.ev rfl)) ?_
   refine Tr.va rfl (fun _ _ h1 h2 => run_pickT (h1.ev rfl) (h1.ev rfl)) ?_
   exact Tr.nil (Tr.fin0 (.cons rfl .nil) (.cons rfl .nil))
 ·show Tr _ _ (LF [(14, (.bool ((y100.2 == 0) && (eqTShare y100.1 (TShare.mk 0 1)))))]) (LE [(1, bx b101 #[(.int .i64 y100.1.Num), (.int .i64 y100.1.Den)] 51)]) _
  refine Tr.asg rfl rfl ?_
  refine Tr.nil (Tr.normThen ?_)
  refine Tr.ret ?_
  obtain rfl := Option.some.inj H
  exact Tr.out (m := [(.bool ((y100.2 == 0) && (eqTShare y100.1 (TShare.mk 0 1))))]) [] (res_tmp rfl res_nil) (fun W hW => ⟨rfl, hW.low leB⟩)

theorem F_etchhouselaw9_CutsMatchSpec_ok (N : Nat) {w : Bs} (p0 : TPanel) (Ap0_0 : Option Addr) (cp0_0 : Nat) (hp0_0 : Sl w.R w.W fl_TBoardKind Ap0_0 cp0_0 p0.Kinds) (Ap0_1 : Option Addr) (cp0_1 : Nat) (hp0_1 : Sl w.R w.W fl_TSlot Ap0_1 cp0_1 p0.Slots) (Ap0_2 : Option Addr) (cp0_2 : Nat) (hp0_2 : Sl w.R w.W fl_TPoint Ap0_2 cp0_2 p0.Marks) (r : Bool) (H : F_etchhouselaw9_CutsMatchSpec N p0 = some r) (hE : HF w w.W E0) : Calls Try.prog 4 [(.agg #[(.int .i64 p0.W), (.int .i64 p0.H), (.int .i64 p0.Rail), (.int .i64 p0.Gap), (.slice Ap0_0 (p0.Kinds).length cp0_0), (.slice Ap0_1 (p0.Slots).length cp0_1), (.slice Ap0_2 (p0.Marks).length cp0_2)])].toArray w.W fun e W' => e = .returned (.bool r) ∧ HF w W' E0 := by
 unfold F_etchhouselaw9_CutsMatchSpec at H
 have leB := Bs.Le.refl w
 refine Tr.enter (n := 61) Try.func4 rfl rfl rfl hE ?_
 refine Tr.sr ?_
 refine Tr.box 1 (cs := [(.int .i64 p0.W), (.int .i64 p0.H), (.int .i64 p0.Rail), (.int .i64 p0.Gap), (.slice Ap0_0 (p0.Kinds).length cp0_0), (.slice Ap0_1 (p0.Slots).length cp0_1), (.slice Ap0_2 (p0.Marks).length cp0_2)]) (wn rfl) rfl rfl rfl fun b100 => ?_
 refine Tr.asg rfl rfl ?_
 refine Tr.nil (Tr.normThen ?_)
 refine Tr.sr ?_
 refine Tr.va rfl (fun _ _ h1 h2 => run_loadN (cs := [(.int .i64 p0.W), (.int .i64 p0.H), (.int .i64 p0.Rail), (.int .i64 p0.Gap), (.slice Ap0_0 (p0.Kinds).length cp0_0), (.slice Ap0_1 (p0.Slots).length cp0_1), (.slice Ap0_2 (p0.Marks).length cp0_2)]) ag_26 sz_26 (h1.ev rfl) (CellsAt.take (rdb h2 (vs := [(.int .i64 p0.W), (.int .i64 p0.H), (.int .i64 p0.Rail), (.int .i64 p0.Gap), (.slice Ap0_0 (p0.Kinds).length cp0_0), (.slice Ap0_1 (p0.Slots).length cp0_1), (.slice Ap0_2 (p0.Marks).length cp0_2)]) (k := 1) rfl 0) 7) rfl) ?_
 obtain ⟨y101, hy101, H⟩ := bnd H
 refine Tr.callM [2] [emp] (U := (Option Addr × Nat)) (fun u => (.tuple #[(.slice u.1 (y101.1).length u.2), (.bool y101.2.1), (.int .i64 y101.2.2)])) (fun u => SlF u.1 (y101.1).length u.2) (fun u => [ow u.1 u.2 40 fl_TCut y101.1]) rfl (pk_cons rfl pk_nil) (fun _ => rfl) (wn rfl) rfl Try.call7 (evl_cons rfl evl_nil) (fun W hW hp hE => F_panel_Cuts_ok N p0 Ap0_0 cp0_0 (hp0_0.ext (hW.extS hp)) Ap0_1 cp0_1 (hp0_1.ext (hW.extS hp)) Ap0_2 cp0_2 (hp0_2.ext (hW.extS hp)) y101 hy101 hE) ?_
 intro u hu
 obtain ⟨Ay101_0, cy101_0⟩ := u
 have gy101_0 := hu
 have hgy101_0 : SlF Ay101_0 (y101.1).length cy101_0 := gy101_0 --@phi
 show Tr _ _ (uf _ 15 (.tuple #[(.slice Ay101_0 (y101.1).length cy101_0), (.bool y101.2.1), (.int .i64 y101.2.2)])) (up _ 2 (ow Ay101_0 cy101_0 40 fl_TCut y101.1)) _
 refine Tr.mv rfl rfl ?_
 refine Tr.va rfl (fun _ _ h1 h2 => run_extract (h1.ev rfl) rfl) ?_
 refine Tr.va rfl (fun _ _ h1 h2 => run_extract (h1.ev rfl) rfl) ?_
 refine Tr.va rfl (fun _ _ h1 h2 => run_extract (h1.ev rfl) rfl) ?_
 refine Tr.asg rfl rfl ?_
 refine Tr.asg rfl rfl ?_
 refine Tr.asg rfl rfl ?_
 refine Tr.nil (Tr.normThen ?_)
 refine Tr.sr ?_
 refine Tr.va rfl (fun _ _ h1 h2 => run_loadN (cs := [(.int .i64 p0.W), (.int .i64 p0.H), (.int .i64 p0.Rail), (.int .i64 p0.Gap), (.slice Ap0_0 (p0.Kinds).length cp0_0), (.slice Ap0_1 (p0.Slots).length cp0_1), (.slice Ap0_2 (p0.Marks).length cp0_2)]) ag_26 sz_26 (h1.ev rfl) (CellsAt.take (rdb h2 (vs := [(.int .i64 p0.W), (.int .i64 p0.H), (.int .i64 p0.Rail), (.int .i64 p0.Gap), (.slice Ap0_0 (p0.Kinds).length cp0_0), (.slice Ap0_1 (p0.Slots).length cp0_1), (.slice Ap0_2 (p0.Marks).length cp0_2)]) (k := 1) rfl 0) 7) rfl) ?_
 obtain ⟨y103, hy103, H⟩ := bnd H
 refine Tr.callM [3] [emp] (U := (Option Addr × Nat)) (fun u => (.tuple #[(.slice u.1 (y103.1).length u.2), (.bool y103.2.1), (.int .i64 y103.2.2)])) (fun u => SlF u.1 (y103.1).length u.2) (fun u => [ow u.1 u.2 40 fl_TCut y103.1]) rfl (pk_cons rfl pk_nil) (fun _ => rfl) (wn rfl) rfl Try.call12 (evl_cons rfl evl_nil) (fun W hW hp hE => F_etchhouseref9_Cuts_ok N p0 Ap0_0 cp0_0 (hp0_0.ext (hW.extS hp)) Ap0_1 cp0_1 (hp0_1.ext (hW.extS hp)) Ap0_2 cp0_2 (hp0_2.ext (hW.extS hp)) y103 hy103 hE) ?_
 intro u hu
 obtain ⟨Ay103_0, cy103_0⟩ := u
 have gy103_0 := hu
 have hgy103_0 : SlF Ay103_0 (y103.1).length cy103_0 := gy103_0 --@phi
 show Tr _ _ (uf _ 21 (.tuple #[(.slice Ay103_0 (y103.1).length cy103_0), (.bool y103.2.1), (.int .i64 y103.2.2)])) (up _ 3 (ow Ay103_0 cy103_0 40 fl_TCut y103.1)) _
 refine Tr.mv rfl rfl ?_
 refine Tr.va rfl (fun _ _ h1 h2 => run_extract (h1.ev rfl) rfl) ?_
 refine Tr.va rfl (fun _ _ h1 h2 => run_extract (h1.ev rfl) rfl) ?_
 refine Tr.va rfl (fun _ _ h1 h2 => run_extract (h1.ev rfl) rfl) ?_
 refine Tr.asg rfl rfl ?_
 refine Tr.asg rfl rfl ?_
 refine Tr.asg rfl rfl ?_
 refine Tr.nil (Tr.normThen ?_)
 refine Tr.sr ?_
 refine Tr.va rfl (fun _ _ h1 h2 => run_loadN (cs := [(.int .i64 p0.W), (.int .i64 p0.H), (.int .i64 p0.Rail), (.int .i64 p0.Gap), (.slice Ap0_0 (p0.Kinds).length cp0_0), (.slice Ap0_1 (p0.Slots).length cp0_1), (.slice Ap0_2 (p0.Marks).length cp0_2)]) ag_26 sz_26 (h1.ev rfl) (CellsAt.take (rdb h2 (vs := [(.int .i64 p0.W), (.int .i64 p0.H), (.int .i64 p0.Rail), (.int .i64 p0.Gap), (.slice Ap0_0 (p0.Kinds).length cp0_0), (.slice Ap0_1 (p0.Slots).length cp0_1), (.slice Ap0_2 (p0.Marks).length cp0_2)]) (k := 1) rfl 0) 7) rfl) ?_
 obtain ⟨y105, hy105, H⟩ := bnd H
 refine Tr.callM [4] [emp] (U := (Option Addr × Nat)) (fun u => (.tuple #[(.slice u.1 (y105.1).length u.2), (.int .i64 y105.2)])) (fun u => SlF u.1 (y105.1).length u.2) (fun u => [ow u.1 u.2 40 fl_TCut y105.1]) rfl (pk_cons rfl pk_nil) (fun _ => rfl) (wn rfl) rfl Try.call10 (evl_cons rfl evl_nil) (fun W hW hp hE => F_panel_Scores_ok N p0 Ap0_0 cp0_0 (hp0_0.ext (hW.extS hp)) Ap0_1 cp0_1 (hp0_1.ext (hW.extS hp)) Ap0_2 cp0_2 (hp0_2.ext (hW.extS hp)) y105 hy105 hE) ?_
 intro u hu
 obtain ⟨Ay105_0, cy105_0⟩ := u
 have gy105_0 := hu
 have hgy105_0 : SlF Ay105_0 (y105.1).length cy105_0 := gy105_0 --@phi
 show Tr _ _ (uf _ 27 (.tuple #[(.slice Ay105_0 (y105.1).length cy105_0), (.int .i64 y105.2)])) (up _ 4 (ow Ay105_0 cy105_0 40 fl_TCut y105.1)) _
 refine Tr.mv rfl rfl ?_
 refine Tr.va rfl (fun _ _ h1 h2 => run_extract (h1.ev rfl) rfl) ?_
 refine Tr.va rfl (fun _ _ h1 h2 => run_extract (h1.ev rfl) rfl) ?_
 refine Tr.asg rfl rfl ?_
 refine Tr.asg rfl rfl ?_
 refine Tr.nil (Tr.normThen ?_)
 refine Tr.sr ?_
 refine Tr.va rfl (fun _ _ h1 h2 => run_loadN (cs := [(.int .i64 p0.W), (.int .i64 p0.H), (.int .i64 p0.Rail), (.int .i64 p0.Gap), (.slice Ap0_0 (p0.Kinds).length cp0_0), (.slice Ap0_1 (p0.Slots).length cp0_1), (.slice Ap0_2 (p0.Marks).length cp0_2)]) ag_26 sz_26 (h1.ev rfl) (CellsAt.take (rdb h2 (vs := [(.int .i64 p0.W), (.int .i64 p0.H), (.int .i64 p0.Rail), (.int .i64 p0.Gap), (.slice Ap0_0 (p0.Kinds).length cp0_0), (.slice Ap0_1 (p0.Slots).length cp0_1), (.slice Ap0_2 (p0.Marks).length cp0_2)]) (k := 1) rfl 0) 7) rfl) ?_
 obtain ⟨y107, hy107, H⟩ := bnd H
 refine Tr.callM [5] [emp] (U := (Option Addr × Nat)) (fun u => (.tuple #[(.slice u.1 (y107.1).length u.2), (.int .i64 y107.2)])) (fun u => SlF u.1 (y107.1).length u.2) (fun u => [ow u.1 u.2 40 fl_TCut y107.1]) rfl (pk_cons rfl pk_nil) (fun _ => rfl) (wn rfl) rfl Try.call13 (evl_cons rfl evl_nil) (fun W hW hp hE => F_etchhouseref9_Scores_ok N p0 Ap0_0 cp0_0 (hp0_0.ext (hW.extS hp)) Ap0_1 cp0_1 (hp0_1.ext (hW.extS hp)) Ap0_2 cp0_2 (hp0_2.ext (hW.extS hp)) y107 hy107 hE) ?_
 intro u hu
 obtain ⟨Ay107_0, cy107_0⟩ := u
 have gy107_0 := hu
 have hgy107_0 : SlF Ay107_0 (y107.1).length cy107_0 := gy107_0 --@phi
 show Tr _ _ (uf _ 32 (.tuple #[(.slice Ay107_0 (y107.1).length cy107_0), (.int .i64 y107.2)])) (up _ 5 (ow Ay107_0 cy107_0 40 fl_TCut y107.1)) _
 refine Tr.mv rfl rfl ?_
 refine Tr.va rfl (fun _ _ h1 h2 => run_extract (h1.ev rfl) rfl) ?_
 refine Tr.va rfl (fun _ _ h1 h2 => run_extract (h1.ev rfl) rfl) ?_
 refine Tr.asg rfl rfl ?_
 refine Tr.asg rfl rfl ?_
 refine Tr.nil (Tr.normThen ?_)
 refine Tr.sr ?_
 refine Tr.mv rfl rfl ?_
 refine Tr.mv rfl rfl ?_
 obtain ⟨y109, hy109, H⟩ := bnd H
 refine Tr.call0 (r := (.bool y109)) (wn rfl) rfl Try.call14 (evl_cons rfl (evl_cons rfl evl_nil)) (fun W hW => F_slices_Equal_Cut_ok y101.1 Ay101_0 cy101_0 (hW.slCall (k := 2) rfl) y103.1 Ay103_0 cy103_0 (hW.slCall (k := 3) rfl) y109 hy109 (HF.start _)) ?_
 refine Tr.mv rfl rfl ?_
 refine Tr.mid0 4 [(5, (.int .i64 y101.2.2)), (8, (.int .i64 y103.2.2)), (9, (.slice Ay105_0 (y105.1).length cy105_0)), (10, (.int .i64 y105.2)), (11, (.slice Ay107_0 (y107.1).length cy107_0)), (12, (.int .i64 y107.2)), (42, (.bool (y109 && (y101.2.1 == y103.2.1))))] [(1, bx b100 #[(.int .i64 p0.W), (.int .i64 p0.H), (.int .i64 p0.Rail), (.int .i64 p0.Gap), (.slice Ap0_0 (p0.Kinds).length cp0_0), (.slice Ap0_1 (p0.Slots).length cp0_1), (.slice Ap0_2 (p0.Marks).length cp0_2)] 26), (2, ow Ay101_0 cy101_0 40 fl_TCut y101.1), (3, ow Ay103_0 cy103_0 40 fl_TCut y103.1), (4, ow Ay105_0 cy105_0 40 fl_TCut y105.1), (5, ow Ay107_0 cy107_0 40 fl_TCut y107.1)] ?_ ?_
 ·cases hg115 : y109
  ·refine Tr.pass rfl rfl rfl rfl rfl (by decide) ?_
   refine Tr.pass rfl rfl rfl rfl rfl (by decide) ?_
   refine Tr.pass rfl rfl rfl rfl rfl (by decide) ?_
   refine Tr.va rfl (fun _ _ h1 h2 => run_pickF (h1.ev rfl) (h1.ev rfl)) ?_
   exact Tr.nil (Tr.fin0 (.cons rfl (.cons rfl (.cons rfl (.cons rfl (.cons rfl (.cons rfl (.cons rfl .nil))))))) (.cons rfl (.cons rfl (.cons rfl (.cons rfl (.cons rfl .nil))))))
  ·refine Tr.val (wg rfl rfl rfl) rfl (fun _ _ h1 h2 => run_move (h1.ev rfl)) ?_
   refine Tr.val (wg rfl rfl rfl) rfl (fun _ _ h1 h2 => run_move (h1.ev rfl)) ?_
   refine Tr.val (wg rfl rfl rfl) rfl (fun _ _ h1 h2 => run_eqlB un_4 (h1.ev rfl) (h1.ev rfl)) ?_
   refine Tr.va rfl (fun _ _ h1 h2 => run_pickT (h1.ev rfl) (h1.ev rfl)) ?_
   exact Tr.nil (Tr.fin0 (.cons rfl (.cons rfl (.cons rfl (.cons rfl (.cons rfl (.cons rfl (.cons rfl .nil))))))) (.cons rfl (.cons rfl (.cons rfl (.cons rfl (.cons rfl .nil))))))
 ·show Tr _ _ (LF [(5, (.int .i64 y101.2.2)), (8, (.int .i64 y103.2.2)), (9, (.slice Ay105_0 (y105.1).length cy105_0)), (10, (.int .i64 y105.2)), (11, (.slice Ay107_0 (y107.1).length cy107_0)), (12, (.int .i64 y107.2)), (42, (.bool (y109 && (y101.2.1 == y103.2.1))))]) (LE [(1, bx b100 #[(.int .i64 p0.W), (.int .i64 p0.H), (.int .i64 p0.Rail), (.int .i64 p0.Gap), (.slice Ap0_0 (p0.Kinds).length cp0_0), (.slice Ap0_1 (p0.Slots).length cp0_1), (.slice Ap0_2 (p0.Marks).length cp0_2)] 26), (2, ow Ay101_0 cy101_0 40 fl_TCut y101.1), (3, ow Ay103_0 cy103_0 40 fl_TCut y103.1), (4, ow Ay105_0 cy105_0 40 fl_TCut y105.1), (5, ow Ay107_0 cy107_0 40 fl_TCut y107.1)]) _
  refine Tr.mv rfl rfl ?_
  refine Tr.mid0 4 [(9, (.slice Ay105_0 (y105.1).length cy105_0)), (10, (.int .i64 y105.2)), (11, (.slice Ay107_0 (y107.1).length cy107_0)), (12, (.int .i64 y107.2)), (47, (.bool ((y109 && (y101.2.1 == y103.2.1)) && (y101.2.2 == y103.2.2))))] [(1, bx b100 #[(.int .i64 p0.W), (.int .i64 p0.H), (.int .i64 p0.Rail), (.int .i64 p0.Gap), (.slice Ap0_0 (p0.Kinds).length cp0_0), (.slice Ap0_1 (p0.Slots).length cp0_1), (.slice Ap0_2 (p0.Marks).length cp0_2)] 26), (2, ow Ay101_0 cy101_0 40 fl_TCut y101.1), (3, ow Ay103_0 cy103_0 40 fl_TCut y103.1), (4, ow Ay105_0 cy105_0 40 fl_TCut y105.1), (5, ow Ay107_0 cy107_0 40 fl_TCut y107.1)] ?_ ?_
  ·cases hg115 : (y109 && (y101.2.1 == y103.2.1))
   ·refine Tr.pass rfl rfl rfl rfl rfl (by decide) ?_
    refine Tr.pass rfl rfl rfl rfl rfl (by decide) ?_
    refine Tr.pass rfl rfl rfl rfl rfl (by decide) ?_
    refine Tr.va rfl (fun _ _ h1 h2 => run_pickF (h1.ev rfl) (h1.ev rfl)) ?_
    exact Tr.nil (Tr.fin0 (.cons rfl (.cons rfl (.cons rfl (.cons rfl (.cons rfl .nil))))) (.cons rfl (.cons rfl (.cons rfl (.cons rfl (.cons rfl .nil))))))
   ·refine Tr.val (wg rfl rfl rfl) rfl (fun _ _ h1 h2 => run_move (h1.ev rfl)) ?_
    refine Tr.val (wg rfl rfl rfl) rfl (fun _ _ h1 h2 => run_move (h1.ev rfl)) ?_
    refine Tr.val (wg rfl rfl rfl) rfl (fun _ _ h1 h2 => run_eql (h1.ev rfl) (h1.ev rfl)) ?_
    refine Tr.va rfl (fun _ _ h1 h2 => run_pickT (h1.ev rfl) (h1.ev rfl)) ?_
    exact Tr.nil (Tr.fin0 (.cons rfl (.cons rfl (.cons rfl (.cons rfl (.cons rfl .nil))))) (.cons rfl (.cons rfl (.cons rfl (.cons rfl (.cons rfl .nil))))))
  ·show Tr _ _ (LF [(9, (.slice Ay105_0 (y105.1).length cy105_0)), (10, (.int .i64 y105.2)), (11, (.slice Ay107_0 (y107.1).length cy107_0)), (12, (.int .i64 y107.2)), (47, (.bool ((y109 && (y101.2.1 == y103.2.1)) && (y101.2.2 == y103.2.2))))]) (LE [(1, bx b100 #[(.int .i64 p0.W), (.int .i64 p0.H), (.int .i64 p0.Rail), (.int .i64 p0.Gap), (.slice Ap0_0 (p0.Kinds).length cp0_0), (.slice Ap0_1 (p0.Slots).length cp0_1), (.slice Ap0_2 (p0.Marks).length cp0_2)] 26), (2, ow Ay101_0 cy101_0 40 fl_TCut y101.1), (3, ow Ay103_0 cy103_0 40 fl_TCut y103.1), (4, ow Ay105_0 cy105_0 40 fl_TCut y105.1), (5, ow Ay107_0 cy107_0 40 fl_TCut y107.1)]) _
   refine Tr.mv rfl rfl ?_
   obtain ⟨g111, hg111, H⟩ := bnd H
   refine Tr.mid0 4 [(10, (.int .i64 y105.2)), (12, (.int .i64 y107.2)), (52, (.bool g111))] [(1, bx b100 #[(.int .i64 p0.W), (.int .i64 p0.H), (.int .i64 p0.Rail), (.int .i64 p0.Gap), (.slice Ap0_0 (p0.Kinds).length cp0_0), (.slice Ap0_1 (p0.Slots).length cp0_1), (.slice Ap0_2 (p0.Marks).length cp0_2)] 26), (2, ow Ay101_0 cy101_0 40 fl_TCut y101.1), (3, ow Ay103_0 cy103_0 40 fl_TCut y103.1), (4, ow Ay105_0 cy105_0 40 fl_TCut y105.1), (5, ow Ay107_0 cy107_0 40 fl_TCut y107.1)] ?_ ?_
   ·cases hg115 : ((y109 && (y101.2.1 == y103.2.1)) && (y101.2.2 == y103.2.2))
    ·rw [hg115] at hg111
     rw [if_neg (by decide)] at hg111
     have H := hg111
     obtain rfl := Option.some.inj H
     refine Tr.pass rfl rfl rfl rfl rfl (by decide) ?_
     refine Tr.pass rfl rfl rfl rfl rfl (by decide) ?_
     refine Tr.pass rfl rfl rfl rfl rfl (by decide) ?_
     refine Tr.va rfl (fun _ _ h1 h2 => run_pickF (h1.ev rfl) (h1.ev rfl)) ?_
     exact Tr.nil (Tr.fin0 (.cons rfl (.cons rfl (.cons rfl .nil))) (.cons rfl (.cons rfl (.cons rfl (.cons rfl (.cons rfl .nil))))))
    ·rw [hg115] at hg111
     rw [if_pos rfl] at hg111
     have H := hg111
     refine Tr.val (wg rfl rfl rfl) rfl (fun _ _ h1 h2 => run_move (h1.ev rfl)) ?_
     refine Tr.val (wg rfl rfl rfl) rfl (fun _ _ h1 h2 => run_move (h1.ev rfl)) ?_
     obtain ⟨y112, hy112, H⟩ := bnd H
     refine Tr.call0 (r := (.bool y112)) (wg rfl rfl rfl) rfl Try.call14 (evl_cons rfl (evl_cons rfl evl_nil)) (fun W hW => F_slices_Equal_Cut_ok y105.1 Ay105_0 cy105_0 (hW.slCall (k := 4) rfl) y107.1 Ay107_0 cy107_0 (hW.slCall (k := 5) rfl) y112 hy112 (HF.start _)) ?_
     refine Tr.va rfl (fun _ _ h1 h2 => run_pickT (h1.ev rfl) (h1.ev rfl)) ?_
     obtain rfl := Option.some.inj H
     exact Tr.nil (Tr.fin0 (.cons rfl (.cons rfl (.cons rfl .nil))) (.cons rfl (.cons rfl (.cons rfl (.cons rfl (.cons rfl .nil))))))
   ·show Tr _ _ (LF [(10, (.int .i64 y105.2)), (12, (.int .i64 y107.2)), (52, (.bool g111))]) (LE [(1, bx b100 #[(.int .i64 p0.W), (.int .i64 p0.H), (.int .i64 p0.Rail), (.int .i64 p0.Gap), (.slice Ap0_0 (p0.Kinds).length cp0_0), (.slice Ap0_1 (p0.Slots).length cp0_1), (.slice Ap0_2 (p0.Marks).length cp0_2)] 26), (2, ow Ay101_0 cy101_0 40 fl_TCut y101.1), (3, ow Ay103_0 cy103_0 40 fl_TCut y103.1), (4, ow Ay105_0 cy105_0 40 fl_TCut y105.1), (5, ow Ay107_0 cy107_0 40 fl_TCut y107.1)]) _
    refine Tr.mv rfl rfl ?_
    refine Tr.mid0 4 [(57, (.bool (g111 && (y105.2 == y107.2))))] [(1, bx b100 #[(.int .i64 p0.W), (.int .i64 p0.H), (.int .i64 p0.Rail), (.int .i64 p0.Gap), (.slice Ap0_0 (p0.Kinds).length cp0_0), (.slice Ap0_1 (p0.Slots).length cp0_1), (.slice Ap0_2 (p0.Marks).length cp0_2)] 26), (2, ow Ay101_0 cy101_0 40 fl_TCut y101.1), (3, ow Ay103_0 cy103_0 40 fl_TCut y103.1), (4, ow Ay105_0 cy105_0 40 fl_TCut y105.1), (5, ow Ay107_0 cy107_0 40 fl_TCut y107.1)] ?_ ?_
    ·cases hg115 : g111
     ·refine Tr.pass rfl rfl rfl rfl rfl (by decide) ?_
      refine Tr.pass rfl rfl rfl rfl rfl (by decide) ?_
      refine Tr.pass rfl rfl rfl rfl rfl (by decide) ?_
      refine Tr.va rfl (fun _ _ h1 h2 => run_pickF (h1.ev rfl) (h1.ev rfl)) ?_
      exact Tr.nil (Tr.fin0 (.cons rfl .nil) (.cons rfl (.cons rfl (.cons rfl (.cons rfl (.cons rfl .nil))))))
     ·refine Tr.val (wg rfl rfl rfl) rfl (fun _ _ h1 h2 => run_move (h1.ev rfl)) ?_
      refine Tr.val (wg rfl rfl rfl) rfl (fun _ _ h1 h2 => run_move (h1.ev rfl)) ?_
      refine Tr.val (wg rfl rfl rfl) rfl (fun _ _ h1 h2 => run_eql (h1.ev rfl) (h1.ev rfl)) ?_
      refine Tr.va rfl (fun _ _ h1 h2 => run_pickT (h1.ev rfl) (h1.ev rfl)) ?_
      exact Tr.nil (Tr.fin0 (.cons rfl .nil) (.cons rfl (.cons rfl (.cons rfl (.cons rfl (.cons rfl .nil))))))
    ·show Tr _ _ (LF [(57, (.bool (g111 && (y105.2 == y107.2))))]) (LE [(1, bx b100 #[(.int .i64 p0.W), (.int .i64 p0.H), (.int .i64 p0.Rail), (.int .i64 p0.Gap), (.slice Ap0_0 (p0.Kinds).length cp0_0), (.slice Ap0_1 (p0.Slots).length cp0_1), (.slice Ap0_2 (p0.Marks).length cp0_2)] 26), (2, ow Ay101_0 cy101_0 40 fl_TCut y101.1), (3, ow Ay103_0 cy103_0 40 fl_TCut y103.1), (4, ow Ay105_0 cy105_0 40 fl_TCut y105.1), (5, ow Ay107_0 cy107_0 40 fl_TCut y107.1)]) _
     refine Tr.mv rfl rfl ?_
     obtain ⟨g114, hg114, H⟩ := bnd H
     refine Tr.mid0 2 [(60, (.bool g114))] [(1, bx b100 #[(.int .i64 p0.W), (.int .i64 p0.H), (.int .i64 p0.Rail), (.int .i64 p0.Gap), (.slice Ap0_0 (p0.Kinds).length cp0_0), (.slice Ap0_1 (p0.Slots).length cp0_1), (.slice Ap0_2 (p0.Marks).length cp0_2)] 26), (2, ow Ay101_0 cy101_0 40 fl_TCut y101.1), (3, ow Ay103_0 cy103_0 40 fl_TCut y103.1), (4, ow Ay105_0 cy105_0 40 fl_TCut y105.1), (5, ow Ay107_0 cy107_0 40 fl_TCut y107.1)] ?_ ?_
     ·cases hg115 : (g111 && (y105.2 == y107.2))
      ·rw [hg115] at hg114
       rw [if_neg (by decide)] at hg114
       have H := hg114
       obtain rfl := Option.some.inj H
       refine Tr.pass rfl rfl rfl rfl rfl (by decide) ?_
       refine Tr.va rfl (fun _ _ h1 h2 => run_pickF (h1.ev rfl) (h1.ev rfl)) ?_
       exact Tr.nil (Tr.fin0 (.cons rfl .nil) (.cons rfl (.cons rfl (.cons rfl (.cons rfl (.cons rfl .nil))))))
      ·rw [hg115] at hg114
       rw [if_pos rfl] at hg114
       have H := hg114
       obtain ⟨y115, hy115, H⟩ := bnd H
       refine Tr.call0 (r := (.bool y115)) (wg rfl rfl rfl) rfl Try.call8 evl_nil (fun W hW => F_etchhouselaw9_awake_ok N y115 hy115 (HF.start _)) ?_
       refine Tr.va rfl (fun _ _ h1 h2 => run_pickT (h1.ev rfl) (h1.ev rfl)) ?_
       obtain rfl := Option.some.inj H
       exact Tr.nil (Tr.fin0 (.cons rfl .nil) (.cons rfl (.cons rfl (.cons rfl (.cons rfl (.cons rfl .nil))))))
     ·show Tr _ _ (LF [(60, (.bool g114))]) (LE [(1, bx b100 #[(.int .i64 p0.W), (.int .i64 p0.H), (.int .i64 p0.Rail), (.int .i64 p0.Gap), (.slice Ap0_0 (p0.Kinds).length cp0_0), (.slice Ap0_1 (p0.Slots).length cp0_1), (.slice Ap0_2 (p0.Marks).length cp0_2)] 26), (2, ow Ay101_0 cy101_0 40 fl_TCut y101.1), (3, ow Ay103_0 cy103_0 40 fl_TCut y103.1), (4, ow Ay105_0 cy105_0 40 fl_TCut y105.1), (5, ow Ay107_0 cy107_0 40 fl_TCut y107.1)]) _
      refine Tr.asg rfl rfl ?_
      refine Tr.nil (Tr.normThen ?_)
      refine Tr.ret ?_
      obtain rfl := Option.some.inj H
      exact Tr.out (m := [(.bool g114)]) [] (res_tmp rfl res_nil) (fun W hW => ⟨rfl, hW.low leB⟩)

theorem F_panel_Cells_ok (N : Nat) {w : Bs} (p0 : TPanel) (Ap0_0 : Option Addr) (cp0_0 : Nat) (hp0_0 : Sl w.R w.W fl_TBoardKind Ap0_0 cp0_0 p0.Kinds) (Ap0_1 : Option Addr) (cp0_1 : Nat) (hp0_1 : Sl w.R w.W fl_TSlot Ap0_1 cp0_1 p0.Slots) (Ap0_2 : Option Addr) (cp0_2 : Nat) (hp0_2 : Sl w.R w.W fl_TPoint Ap0_2 cp0_2 p0.Marks) (r : ((List TRect) × Int)) (H : F_panel_Cells N p0 = some r) (hE : HF w w.W (LEn [emp])) : Calls Try.prog 9 [(.agg #[(.int .i64 p0.W), (.int .i64 p0.H), (.int .i64 p0.Rail), (.int .i64 p0.Gap), (.slice Ap0_0 (p0.Kinds).length cp0_0), (.slice Ap0_1 (p0.Slots).length cp0_1), (.slice Ap0_2 (p0.Marks).length cp0_2)])].toArray w.W fun e W' => ∃ u : (Option Addr × Nat), e = .returned (.tuple #[(.slice u.1 (r.1).length u.2), (.int .i64 r.2)]) ∧ (SlF u.1 (r.1).length u.2) ∧ HF w W' (LEn [ow u.1 u.2 38 fl_TRect r.1]) := by
 unfold F_panel_Cells at H
 have leB := Bs.Le.refl w
 refine Tr.enter (n := 8) Try.func9 rfl rfl rfl hE ?_
 refine Tr.sr ?_
 refine Tr.box 1 (cs := [(.int .i64 p0.W), (.int .i64 p0.H), (.int .i64 p0.Rail), (.int .i64 p0.Gap), (.slice Ap0_0 (p0.Kinds).length cp0_0), (.slice Ap0_1 (p0.Slots).length cp0_1), (.slice Ap0_2 (p0.Marks).length cp0_2)]) (wn rfl) rfl rfl rfl fun b100 => ?_
 refine Tr.asg rfl rfl ?_
 refine Tr.nilOwn 2 38 fl_TRect ?_
 show Tr _ _ (uf _ 2 (.slice none (([] : List TRect)).length 0)) _ _
 refine Tr.asg rfl rfl ?_
 refine Tr.nil (Tr.normThen ?_)
 refine Tr.sr ?_
 refine Tr.va rfl (fun _ _ h1 h2 => run_loadN (cs := [(.int .i64 p0.W), (.int .i64 p0.H), (.int .i64 p0.Rail), (.int .i64 p0.Gap), (.slice Ap0_0 (p0.Kinds).length cp0_0), (.slice Ap0_1 (p0.Slots).length cp0_1), (.slice Ap0_2 (p0.Marks).length cp0_2)]) ag_26 sz_26 (h1.ev rfl) (CellsAt.take (rdb h2 (vs := [(.int .i64 p0.W), (.int .i64 p0.H), (.int .i64 p0.Rail), (.int .i64 p0.Gap), (.slice Ap0_0 (p0.Kinds).length cp0_0), (.slice Ap0_1 (p0.Slots).length cp0_1), (.slice Ap0_2 (p0.Marks).length cp0_2)]) (k := 1) rfl 0) 7) rfl) ?_
 obtain ⟨y101, hy101, H⟩ := bnd H
 refine Tr.callM [3] [emp] (U := (Option Addr × Nat)) (fun u => (.tuple #[(.slice u.1 (y101.1).length u.2), (.int .i64 y101.2)])) (fun u => SlF u.1 (y101.1).length u.2) (fun u => [ow u.1 u.2 38 fl_TRect y101.1]) rfl (pk_cons rfl pk_nil) (fun _ => rfl) (wn rfl) rfl Try.call25 (evl_cons rfl evl_nil) (fun W hW hp hE => F_panel_open_ok N p0 Ap0_0 cp0_0 (hp0_0.ext (hW.extS hp)) Ap0_1 cp0_1 (hp0_1.ext (hW.extS hp)) Ap0_2 cp0_2 (hp0_2.ext (hW.extS hp)) y101 hy101 hE) ?_
 intro u hu
 obtain ⟨Ay101_0, cy101_0⟩ := u
 have gy101_0 := hu
 have hgy101_0 : SlF Ay101_0 (y101.1).length cy101_0 := gy101_0 --@phi
 show Tr _ _ (uf _ 5 (.tuple #[(.slice Ay101_0 (y101.1).length cy101_0), (.int .i64 y101.2)])) (up _ 3 (ow Ay101_0 cy101_0 38 fl_TRect y101.1)) _
 refine Tr.va rfl (fun _ _ h1 h2 => run_extract (h1.ev rfl) rfl) ?_
 refine Tr.va rfl (fun _ _ h1 h2 => run_extract (h1.ev rfl) rfl) ?_
 refine Tr.asg rfl rfl ?_
 refine Tr.asg rfl rfl ?_
 refine Tr.nil (Tr.normThen ?_)
 refine Tr.ret ?_
 obtain rfl := Option.some.inj H
 exact Tr.out (m := [(.slice Ay101_0 (y101.1).length cy101_0), (.int .i64 y101.2)]) [] (res_tmp rfl (res_tmp rfl res_nil)) (fun W hW => ⟨(Ay101_0, cy101_0), rfl, hgy101_0, HF.lowE leB (hW.pick (ks := [3]) (by decide) (pk_cons rfl pk_nil)) ⟨ow_any _ _ _ _ tr_TRect, trivial⟩⟩)

theorem F_etchhouselaw9_through_ok {w : Bs} (p0 : TCut) (p1 : TRect) (r : Bool) (H : F_etchhouselaw9_through p0 p1 = some r) (hE : HF w w.W E0) : Calls Try.prog 11 [(.agg #[(.int .i64 p0.Part.X0), (.int .i64 p0.Part.Y0), (.int .i64 p0.Part.X1), (.int .i64 p0.Part.Y1), (.bool p0.Across), (.int .i64 p0.At)]), (.agg #[(.int .i64 p1.X0), (.int .i64 p1.Y0), (.int .i64 p1.X1), (.int .i64 p1.Y1)])].toArray w.W fun e W' => e = .returned (.bool r) ∧ HF w W' E0 := by
 unfold F_etchhouselaw9_through at H
 have leB := Bs.Le.refl w
 refine Tr.enter (n := 61) Try.func11 rfl rfl rfl hE ?_
 refine Tr.sr ?_
 refine Tr.box 1 (cs := [(.int .i64 p0.Part.X0), (.int .i64 p0.Part.Y0), (.int .i64 p0.Part.X1), (.int .i64 p0.Part.Y1), (.bool p0.Across), (.int .i64 p0.At)]) (wn rfl) rfl rfl rfl fun b100 => ?_
 refine Tr.box 2 (cs := [(.int .i64 p1.X0), (.int .i64 p1.Y0), (.int .i64 p1.X1), (.int .i64 p1.Y1)]) (wn rfl) rfl rfl rfl fun b101 => ?_
 refine Tr.asg rfl rfl ?_
 refine Tr.nil (Tr.normThen ?_)
 refine Tr.seq ?_
 refine Tr.sr ?_
 refine Tr.va rfl (fun _ _ h1 h2 => run_fieldAddr fo_38_0 (h1.ev rfl)) ?_
 refine Tr.va rfl (fun _ _ h1 h2 => run_load1 ag_3 (h1.ev rfl) (rdb h2 (vs := [(.int .i64 p1.X0), (.int .i64 p1.Y0), (.int .i64 p1.X1), (.int .i64 p1.Y1)]) (k := 2) rfl 0) rfl) ?_
 refine Tr.va rfl (fun _ _ h1 h2 => run_fieldAddr fo_40_0 (h1.ev rfl)) ?_
 refine Tr.va rfl (fun _ _ h1 h2 => run_fieldAddr fo_38_2 (h1.ev rfl)) ?_
 refine Tr.va rfl (fun _ _ h1 h2 => run_load1 ag_3 (h1.ev rfl) (rdb h2 (vs := [(.int .i64 p0.Part.X0), (.int .i64 p0.Part.Y0), (.int .i64 p0.Part.X1), (.int .i64 p0.Part.Y1), (.bool p0.Across), (.int .i64 p0.At)]) (k := 1) rfl 2) rfl) ?_
 refine Tr.va rfl (fun _ _ h1 h2 => run_geq (h1.ev rfl) (h1.ev rfl)) ?_
 refine Tr.mv rfl rfl ?_
 refine Tr.mid0 7 [(2, (.pointer (some ⟨b100, 0, none⟩))), (3, (.pointer (some ⟨b101, 0, none⟩))), (18, (.bool ((decide (p0.Part.X1 ≤ p1.X0)) || (decide (p1.X1 ≤ p0.Part.X0)))))] [(1, bx b100 #[(.int .i64 p0.Part.X0), (.int .i64 p0.Part.Y0), (.int .i64 p0.Part.X1), (.int .i64 p0.Part.Y1), (.bool p0.Across), (.int .i64 p0.At)] 40), (2, bx b101 #[(.int .i64 p1.X0), (.int .i64 p1.Y0), (.int .i64 p1.X1), (.int .i64 p1.Y1)] 38)] ?_ ?_
 ·cases hg101 : (decide (p0.Part.X1 ≤ p1.X0))
  ·refine Tr.val (wg rfl rfl rfl) rfl (fun _ _ h1 h2 => run_fieldAddr fo_38_2 (h1.ev rfl)) ?_
   refine Tr.val (wg rfl rfl rfl) rfl (fun _ _ h1 h2 => run_load1 ag_3 (h1.ev rfl) (rdb h2 (vs := [(.int .i64 p1.X0), (.int .i64 p1.Y0), (.int .i64 p1.X1), (.int .i64 p1.Y1)]) (k := 2) rfl 2) rfl) ?_
   refine Tr.val (wg rfl rfl rfl) rfl (fun _ _ h1 h2 => run_fieldAddr fo_40_0 (h1.ev rfl)) ?_
   refine Tr.val (wg rfl rfl rfl) rfl (fun _ _ h1 h2 => run_fieldAddr fo_38_0 (h1.ev rfl)) ?_
   refine Tr.val (wg rfl rfl rfl) rfl (fun _ _ h1 h2 => run_load1 ag_3 (h1.ev rfl) (rdb h2 (vs := [(.int .i64 p0.Part.X0), (.int .i64 p0.Part.Y0), (.int .i64 p0.Part.X1), (.int .i64 p0.Part.Y1), (.bool p0.Across), (.int .i64 p0.At)]) (k := 1) rfl 0) rfl) ?_
   refine Tr.val (wg rfl rfl rfl) rfl (fun _ _ h1 h2 => run_leq (h1.ev rfl) (h1.ev rfl)) ?_
   refine Tr.va rfl (fun _ _ h1 h2 => run_pickF (h1.ev rfl) (h1.ev rfl)) ?_
   exact Tr.nil (Tr.fin0 (.cons rfl (.cons rfl (.cons rfl .nil))) (.cons rfl (.cons rfl .nil)))
  ·refine Tr.pass rfl rfl rfl rfl rfl (by decide) ?_
   refine Tr.pass rfl rfl rfl rfl rfl (by decide) ?_
   refine Tr.pass rfl rfl rfl rfl rfl (by decide) ?_
   refine Tr.pass rfl rfl rfl rfl rfl (by decide) ?_
   refine Tr.pass rfl rfl rfl rfl rfl (by decide) ?_
   refine Tr.pass rfl rfl rfl rfl rfl (by decide) ?_
   refine Tr.va rfl (fun _ _ h1 h2 => run_pickT (h1.ev rfl) (h1.ev rfl)) ?_
   exact Tr.nil (Tr.fin0 (.cons rfl (.cons rfl (.cons rfl .nil))) (.cons rfl (.cons rfl .nil)))
 ·show Tr _ _ (LF [(2, (.pointer (some ⟨b100, 0, none⟩))), (3, (.pointer (some ⟨b101, 0, none⟩))), (18, (.bool ((decide (p0.Part.X1 ≤ p1.X0)) || (decide (p1.X1 ≤ p0.Part.X0)))))]) (LE [(1, bx b100 #[(.int .i64 p0.Part.X0), (.int .i64 p0.Part.Y0), (.int .i64 p0.Part.X1), (.int .i64 p0.Part.Y1), (.bool p0.Across), (.int .i64 p0.At)] 40), (2, bx b101 #[(.int .i64 p1.X0), (.int .i64 p1.Y0), (.int .i64 p1.X1), (.int .i64 p1.Y1)] 38)]) _
  refine Tr.mv rfl rfl ?_
  refine Tr.mid0 7 [(2, (.pointer (some ⟨b100, 0, none⟩))), (3, (.pointer (some ⟨b101, 0, none⟩))), (26, (.bool (((decide (p0.Part.X1 ≤ p1.X0)) || (decide (p1.X1 ≤ p0.Part.X0))) || (decide (p0.Part.Y1 ≤ p1.Y0)))))] [(1, bx b100 #[(.int .i64 p0.Part.X0), (.int .i64 p0.Part.Y0), (.int .i64 p0.Part.X1), (.int .i64 p0.Part.Y1), (.bool p0.Across), (.int .i64 p0.At)] 40), (2, bx b101 #[(.int .i64 p1.X0), (.int .i64 p1.Y0), (.int .i64 p1.X1), (.int .i64 p1.Y1)] 38)] ?_ ?_
  ·cases hg101 : ((decide (p0.Part.X1 ≤ p1.X0)) || (decide (p1.X1 ≤ p0.Part.X0)))
   ·refine Tr.val (wg rfl rfl rfl) rfl (fun _ _ h1 h2 => run_fieldAddr fo_38_1 (h1.ev rfl)) ?_
    refine Tr.val (wg rfl rfl rfl) rfl (fun _ _ h1 h2 => run_load1 ag_3 (h1.ev rfl) (rdb h2 (vs := [(.int .i64 p1.X0), (.int .i64 p1.Y0), (.int .i64 p1.X1), (.int .i64 p1.Y1)]) (k := 2) rfl 1) rfl) ?_
    refine Tr.val (wg rfl rfl rfl) rfl (fun _ _ h1 h2 => run_fieldAddr fo_40_0 (h1.ev rfl)) ?_
    refine Tr.val (wg rfl rfl rfl) rfl (fun _ _ h1 h2 => run_fieldAddr fo_38_3 (h1.ev rfl)) ?_
    refine Tr.val (wg rfl rfl rfl) rfl (fun _ _ h1 h2 => run_load1 ag_3 (h1.ev rfl) (rdb h2 (vs := [(.int .i64 p0.Part.X0), (.int .i64 p0.Part.Y0), (.int .i64 p0.Part.X1), (.int .i64 p0.Part.Y1), (.bool p0.Across), (.int .i64 p0.At)]) (k := 1) rfl 3) rfl) ?_
    refine Tr.val (wg rfl rfl rfl) rfl (fun _ _ h1 h2 => run_geq (h1.ev rfl) (h1.ev rfl)) ?_
    refine Tr.va rfl (fun _ _ h1 h2 => run_pickF (h1.ev rfl) (h1.ev rfl)) ?_
    exact Tr.nil (Tr.fin0 (.cons rfl (.cons rfl (.cons rfl .nil))) (.cons rfl (.cons rfl .nil)))
   ·refine Tr.pass rfl rfl rfl rfl rfl (by decide) ?_
    refine Tr.pass rfl rfl rfl rfl rfl (by decide) ?_
    refine Tr.pass rfl rfl rfl rfl rfl (by decide) ?_
    refine Tr.pass rfl rfl rfl rfl rfl (by decide) ?_
    refine Tr.pass rfl rfl rfl rfl rfl (by decide) ?_
    refine Tr.pass rfl rfl rfl rfl rfl (by decide) ?_
    refine Tr.va rfl (fun _ _ h1 h2 => run_pickT (h1.ev rfl) (h1.ev rfl)) ?_
    exact Tr.nil (Tr.fin0 (.cons rfl (.cons rfl (.cons rfl .nil))) (.cons rfl (.cons rfl .nil)))
  ·show Tr _ _ (LF [(2, (.pointer (some ⟨b100, 0, none⟩))), (3, (.pointer (some ⟨b101, 0, none⟩))), (26, (.bool (((decide (p0.Part.X1 ≤ p1.X0)) || (decide (p1.X1 ≤ p0.Part.X0))) || (decide (p0.Part.Y1 ≤ p1.Y0)))))]) (LE [(1, bx b100 #[(.int .i64 p0.Part.X0), (.int .i64 p0.Part.Y0), (.int .i64 p0.Part.X1), (.int .i64 p0.Part.Y1), (.bool p0.Across), (.int .i64 p0.At)] 40), (2, bx b101 #[(.int .i64 p1.X0), (.int .i64 p1.Y0), (.int .i64 p1.X1), (.int .i64 p1.Y1)] 38)]) _
   refine Tr.mv rfl rfl ?_
   refine Tr.mid0 7 [(2, (.pointer (some ⟨b100, 0, none⟩))), (3, (.pointer (some ⟨b101, 0, none⟩))), (34, (.bool ((((decide (p0.Part.X1 ≤ p1.X0)) || (decide (p1.X1 ≤ p0.Part.X0))) || (decide (p0.Part.Y1 ≤ p1.Y0))) || (decide (p1.Y1 ≤ p0.Part.Y0)))))] [(1, bx b100 #[(.int .i64 p0.Part.X0), (.int .i64 p0.Part.Y0), (.int .i64 p0.Part.X1), (.int .i64 p0.Part.Y1), (.bool p0.Across), (.int .i64 p0.At)] 40), (2, bx b101 #[(.int .i64 p1.X0), (.int .i64 p1.Y0), (.int .i64 p1.X1), (.int .i64 p1.Y1)] 38)] ?_ ?_
   ·cases hg101 : (((decide (p0.Part.X1 ≤ p1.X0)) || (decide (p1.X1 ≤ p0.Part.X0))) || (decide (p0.Part.Y1 ≤ p1.Y0)))
    ·refine Tr.val (wg rfl rfl rfl) rfl (fun _ _ h1 h2 => run_fieldAddr fo_38_3 (h1.ev rfl)) ?_
     refine Tr.val (wg rfl rfl rfl) rfl (fun _ _ h1 h2 => run_load1 ag_3 (h1.ev rfl) (rdb h2 (vs := [(.int .i64 p1.X0), (.int .i64 p1.Y0), (.int .i64 p1.X1), (.int .i64 p1.Y1)]) (k := 2) rfl 3) rfl) ?_
     refine Tr.val (wg rfl rfl rfl) rfl (fun _ _ h1 h2 => run_fieldAddr fo_40_0 (h1.ev rfl)) ?_
     refine Tr.val (wg rfl rfl rfl) rfl (fun _ _ h1 h2 => run_fieldAddr fo_38_1 (h1.ev rfl)) ?_
     refine Tr.val (wg rfl rfl rfl) rfl (fun _ _ h1 h2 => run_load1 ag_3 (h1.ev rfl) (rdb h2 (vs := [(.int .i64 p0.Part.X0), (.int .i64 p0.Part.Y0), (.int .i64 p0.Part.X1), (.int .i64 p0.Part.Y1), (.bool p0.Across), (.int .i64 p0.At)]) (k := 1) rfl 1) rfl) ?_
     refine Tr.val (wg rfl rfl rfl) rfl (fun _ _ h1 h2 => run_leq (h1.ev rfl) (h1.ev rfl)) ?_
     refine Tr.va rfl (fun _ _ h1 h2 => run_pickF (h1.ev rfl) (h1.ev rfl)) ?_
     exact Tr.nil (Tr.fin0 (.cons rfl (.cons rfl (.cons rfl .nil))) (.cons rfl (.cons rfl .nil)))
    ·refine Tr.pass rfl rfl rfl rfl rfl (by decide) ?_
     refine Tr.pass rfl rfl rfl rfl rfl (by decide) ?_
     refine Tr.pass rfl rfl rfl rfl rfl (by decide) ?_
     refine Tr.pass rfl rfl rfl rfl rfl (by decide) ?_
     refine Tr.pass rfl rfl rfl rfl rfl (by decide) ?_
     refine Tr.pass rfl rfl rfl rfl rfl (by decide) ?_
     refine Tr.va rfl (fun _ _ h1 h2 => run_pickT (h1.ev rfl) (h1.ev rfl)) ?_
     exact Tr.nil (Tr.fin0 (.cons rfl (.cons rfl (.cons rfl .nil))) (.cons rfl (.cons rfl .nil)))
   ·show Tr _ _ (LF [(2, (.pointer (some ⟨b100, 0, none⟩))), (3, (.pointer (some ⟨b101, 0, none⟩))), (34, (.bool ((((decide (p0.Part.X1 ≤ p1.X0)) || (decide (p1.X1 ≤ p0.Part.X0))) || (decide (p0.Part.Y1 ≤ p1.Y0))) || (decide (p1.Y1 ≤ p0.Part.Y0)))))]) (LE [(1, bx b100 #[(.int .i64 p0.Part.X0), (.int .i64 p0.Part.Y0), (.int .i64 p0.Part.X1), (.int .i64 p0.Part.Y1), (.bool p0.Across), (.int .i64 p0.At)] 40), (2, bx b101 #[(.int .i64 p1.X0), (.int .i64 p1.Y0), (.int .i64 p1.X1), (.int .i64 p1.Y1)] 38)]) _
    refine Tr.nil (Tr.normThen ?_)
    refine Tr.cond rfl H (fun H => ?_) (fun H => ?_)
    ·refine Tr.sr ?_
     refine Tr.asg rfl rfl ?_
     refine Tr.nil (Tr.normThen ?_)
     refine Tr.ret (Tr.retThen ?_)
     obtain rfl := Option.some.inj H
     exact Tr.out (m := [(.bool false)]) [] (res_tmp rfl res_nil) (fun W hW => ⟨rfl, hW.low leB⟩)
    ·refine Tr.skip (Tr.normThen ?_)
     refine Tr.seq ?_
     refine Tr.sr ?_
     refine Tr.va rfl (fun _ _ h1 h2 => run_fieldAddr fo_40_1 (h1.ev rfl)) ?_
     refine Tr.va rfl (fun _ _ h1 h2 => run_load1 ag_4 (h1.ev rfl) (rdb h2 (vs := [(.int .i64 p0.Part.X0), (.int .i64 p0.Part.Y0), (.int .i64 p0.Part.X1), (.int .i64 p0.Part.Y1), (.bool p0.Across), (.int .i64 p0.At)]) (k := 1) rfl 4) rfl) ?_
     refine Tr.nil (Tr.normThen ?_)
     refine Tr.cond rfl H (fun H => ?_) (fun H => ?_)
     ·refine Tr.sr ?_
      refine Tr.va rfl (fun _ _ h1 h2 => run_fieldAddr fo_38_1 (h1.ev rfl)) ?_
      refine Tr.va rfl (fun _ _ h1 h2 => run_load1 ag_3 (h1.ev rfl) (rdb h2 (vs := [(.int .i64 p1.X0), (.int .i64 p1.Y0), (.int .i64 p1.X1), (.int .i64 p1.Y1)]) (k := 2) rfl 1) rfl) ?_
      refine Tr.va rfl (fun _ _ h1 h2 => run_fieldAddr fo_40_2 (h1.ev rfl)) ?_
      refine Tr.va rfl (fun _ _ h1 h2 => run_load1 ag_3 (h1.ev rfl) (rdb h2 (vs := [(.int .i64 p0.Part.X0), (.int .i64 p0.Part.Y0), (.int .i64 p0.Part.X1), (.int .i64 p0.Part.Y1), (.bool p0.Across), (.int .i64 p0.At)]) (k := 1) rfl 5) rfl) ?_
      refine Tr.va rfl (fun _ _ h1 h2 => run_lss (h1.ev rfl) (h1.ev rfl)) ?_
      refine Tr.mv rfl rfl ?_
      refine Tr.mid0 6 [(48, (.bool ((decide (p1.Y0 < p0.At)) && (decide (p0.At < p1.Y1)))))] [(1, bx b100 #[(.int .i64 p0.Part.X0), (.int .i64 p0.Part.Y0), (.int .i64 p0.Part.X1), (.int .i64 p0.Part.Y1), (.bool p0.Across), (.int .i64 p0.At)] 40), (2, bx b101 #[(.int .i64 p1.X0), (.int .i64 p1.Y0), (.int .i64 p1.X1), (.int .i64 p1.Y1)] 38)] ?_ ?_
      ·cases hg101 : (decide (p1.Y0 < p0.At))
       ·refine Tr.pass rfl rfl rfl rfl rfl (by decide) ?_
        refine Tr.pass rfl rfl rfl rfl rfl (by decide) ?_
        refine Tr.pass rfl rfl rfl rfl rfl (by decide) ?_
        refine Tr.pass rfl rfl rfl rfl rfl (by decide) ?_
        refine Tr.pass rfl rfl rfl rfl rfl (by decide) ?_
        refine Tr.va rfl (fun _ _ h1 h2 => run_pickF (h1.ev rfl) (h1.ev rfl)) ?_
        exact Tr.nil (Tr.fin0 (.cons rfl .nil) (.cons rfl (.cons rfl .nil)))
       ·refine Tr.val (wg rfl rfl rfl) rfl (fun _ _ h1 h2 => run_fieldAddr fo_40_2 (h1.ev rfl)) ?_
        refine Tr.val (wg rfl rfl rfl) rfl (fun _ _ h1 h2 => run_load1 ag_3 (h1.ev rfl) (rdb h2 (vs := [(.int .i64 p0.Part.X0), (.int .i64 p0.Part.Y0), (.int .i64 p0.Part.X1), (.int .i64 p0.Part.Y1), (.bool p0.Across), (.int .i64 p0.At)]) (k := 1) rfl 5) rfl) ?_
        refine Tr.val (wg rfl rfl rfl) rfl (fun _ _ h1 h2 => run_fieldAddr fo_38_3 (h1.ev rfl)) ?_
        refine Tr.val (wg rfl rfl rfl) rfl (fun _ _ h1 h2 => run_load1 ag_3 (h1.ev rfl) (rdb h2 (vs := [(.int .i64 p1.X0), (.int .i64 p1.Y0), (.int .i64 p1.X1), (.int .i64 p1.Y1)]) (k := 2) rfl 3) rfl) ?_
        refine Tr.val (wg rfl rfl rfl) rfl (fun _ _ h1 h2 => run_lss (h1.ev rfl) (h1.ev rfl)) ?_
        refine Tr.va rfl (fun _ _ h1 h2 => run_pickT (h1.ev rfl) (h1.ev rfl)) ?_
        exact Tr.nil (Tr.fin0 (.cons rfl .nil) (.cons rfl (.cons rfl .nil)))
      ·show Tr _ _ (LF [(48, (.bool ((decide (p1.Y0 < p0.At)) && (decide (p0.At < p1.Y1)))))]) (LE [(1, bx b100 #[(.int .i64 p0.Part.X0), (.int .i64 p0.Part.Y0), (.int .i64 p0.Part.X1), (.int .i64 p0.Part.Y1), (.bool p0.Across), (.int .i64 p0.At)] 40), (2, bx b101 #[(.int .i64 p1.X0), (.int .i64 p1.Y0), (.int .i64 p1.X1), (.int .i64 p1.Y1)] 38)]) _
       refine Tr.asg rfl rfl ?_
       refine Tr.nil (Tr.normThen ?_)
       refine Tr.ret (Tr.retThen ?_)
       obtain rfl := Option.some.inj H
       exact Tr.out (m := [(.bool ((decide (p1.Y0 < p0.At)) && (decide (p0.At < p1.Y1))))]) [] (res_tmp rfl res_nil) (fun W hW => ⟨rfl, hW.low leB⟩)
     ·refine Tr.skip (Tr.normThen ?_)
      refine Tr.sr ?_
      refine Tr.va rfl (fun _ _ h1 h2 => run_fieldAddr fo_38_0 (h1.ev rfl)) ?_
      refine Tr.va rfl (fun _ _ h1 h2 => run_load1 ag_3 (h1.ev rfl) (rdb h2 (vs := [(.int .i64 p1.X0), (.int .i64 p1.Y0), (.int .i64 p1.X1), (.int .i64 p1.Y1)]) (k := 2) rfl 0) rfl) ?_
      refine Tr.va rfl (fun _ _ h1 h2 => run_fieldAddr fo_40_2 (h1.ev rfl)) ?_
      refine Tr.va rfl (fun _ _ h1 h2 => run_load1 ag_3 (h1.ev rfl) (rdb h2 (vs := [(.int .i64 p0.Part.X0), (.int .i64 p0.Part.Y0), (.int .i64 p0.Part.X1), (.int .i64 p0.Part.Y1), (.bool p0.Across), (.int .i64 p0.At)]) (k := 1) rfl 5) rfl) ?_
      refine Tr.va rfl (fun _ _ h1 h2 => run_lss (h1.ev rfl) (h1.ev rfl)) ?_
      refine Tr.mv rfl rfl ?_
      refine Tr.mid0 6 [(60, (.bool ((decide (p1.X0 < p0.At)) && (decide (p0.At < p1.X1)))))] [(1, bx b100 #[(.int .i64 p0.Part.X0), (.int .i64 p0.Part.Y0), (.int .i64 p0.Part.X1), (.int .i64 p0.Part.Y1), (.bool p0.Across), (.int .i64 p0.At)] 40), (2, bx b101 #[(.int .i64 p1.X0), (.int .i64 p1.Y0), (.int .i64 p1.X1), (.int .i64 p1.Y1)] 38)] ?_ ?_
      ·cases hg101 : (decide (p1.X0 < p0.At))
       ·refine Tr.pass rfl rfl rfl rfl rfl (by decide) ?_
        refine Tr.pass rfl rfl rfl rfl rfl (by decide) ?_
        refine Tr.pass rfl rfl rfl rfl rfl (by decide) ?_
        refine Tr.pass rfl rfl rfl rfl rfl (by decide) ?_
        refine Tr.pass rfl rfl rfl rfl rfl (by decide) ?_
        refine Tr.va rfl (fun _ _ h1 h2 => run_pickF (h1.ev rfl) (h1.ev rfl)) ?_
        exact Tr.nil (Tr.fin0 (.cons rfl .nil) (.cons rfl (.cons rfl .nil)))
       ·refine Tr.val (wg rfl rfl rfl) rfl (fun _ _ h1 h2 => run_fieldAddr fo_40_2 (h1.ev rfl)) ?_
        refine Tr.val (wg rfl rfl rfl) rfl (fun _ _ h1 h2 => run_load1 ag_3 (h1.ev rfl) (rdb h2 (vs := [(.int .i64 p0.Part.X0), (.int .i64 p0.Part.Y0), (.int .i64 p0.Part.X1), (.int .i64 p0.Part.Y1), (.bool p0.Across), (.int .i64 p0.At)]) (k := 1) rfl 5) rfl) ?_
        refine Tr.val (wg rfl rfl rfl) rfl (fun _ _ h1 h2 => run_fieldAddr fo_38_2 (h1.ev rfl)) ?_
        refine Tr.val (wg rfl rfl rfl) rfl (fun _ _ h1 h2 => run_load1 ag_3 (h1.ev rfl) (rdb h2 (vs := [(.int .i64 p1.X0), (.int .i64 p1.Y0), (.int .i64 p1.X1), (.int .i64 p1.Y1)]) (k := 2) rfl 2) rfl) ?_
        refine Tr.val (wg rfl rfl rfl) rfl (fun _ _ h1 h2 => run_lss (h1.ev rfl) (h1.ev rfl)) ?_
        refine Tr.va rfl (fun _ _ h1 h2 => run_pickT (h1.ev rfl) (h1.ev rfl)) ?_
        exact Tr.nil (Tr.fin0 (.cons rfl .nil) (.cons rfl (.cons rfl .nil)))
      ·show Tr _ _ (LF [(60, (.bool ((decide (p1.X0 < p0.At)) && (decide (p0.At < p1.X1)))))]) (LE [(1, bx b100 #[(.int .i64 p0.Part.X0), (.int .i64 p0.Part.Y0), (.int .i64 p0.Part.X1), (.int .i64 p0.Part.Y1), (.bool p0.Across), (.int .i64 p0.At)] 40), (2, bx b101 #[(.int .i64 p1.X0), (.int .i64 p1.Y0), (.int .i64 p1.X1), (.int .i64 p1.Y1)] 38)]) _
       refine Tr.asg rfl rfl ?_
       refine Tr.nil (Tr.normThen ?_)
       refine Tr.ret ?_
       obtain rfl := Option.some.inj H
       exact Tr.out (m := [(.bool ((decide (p1.X0 < p0.At)) && (decide (p0.At < p1.X1))))]) [] (res_tmp rfl res_nil) (fun W hW => ⟨rfl, hW.low leB⟩)

end Go.Proofs.Ytfddmjoldoddlaa
