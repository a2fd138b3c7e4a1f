/- The walks: each function computes its plain function. -/
import Derived.Test.YtnlhigfglfahiaaXWb
namespace Go.Proofs.Ytnlhigfglfahiaa
open Go.RowKit
set_option maxRecDepth 100000
set_option maxHeartbeats 1000000
theorem F_shape_Merge_ok (N : Nat) {w : Bs} (p0 : (List TBand)) (Ap0_0 : Option Addr) (cp0_0 : Nat) (hp0_0 : Sl w.O w.W fl_TBand Ap0_0 cp0_0 p0) (p1 : (List TBand)) (Ap1_0 : Option Addr) (cp1_0 : Nat) (hp1_0 : Sl w.O w.W fl_TBand Ap1_0 cp1_0 p1) (p2 : Bool → Bool → Option Bool) (fid2 : Nat) (cap2 : List Value) (hg2 : ∀ args W, (callFunc fid2 args).run Try.prog W = .ok (.enter fid2 args) W) (hf2 : ∀ (w' : Bs), w.Ext w' → ∀ (z0 : Bool) (z1 : Bool), ∀ y, p2 z0 z1 = some y → Calls Try.prog fid2 (([(.bool z0), (.bool z1)] : List Value) ++ cap2).toArray w'.W fun e W'' => e = .returned (.bool y) ∧ HF w' W'' E0) (r : (List TBand)) (H : F_shape_Merge N p0 p1 p2 = some r) (hE : HF w w.W (LEn [emp])) : Calls Try.prog 78 [(.slice Ap0_0 (p0).length cp0_0), (.slice Ap1_0 (p1).length cp1_0), (.func (.func fid2) #[] cap2.toArray)].toArray w.W fun e W' => ∃ (w' : Bs) (u : (Option Addr × Nat)), w.Le w' ∧ e = .returned (.slice u.1 (r).length u.2) ∧ (SlF u.1 (r).length u.2) ∧ HF w' W' (LEn [ow u.1 u.2 104 fl_TBand r]) := by
  unfold F_shape_Merge at H
  have leB := Bs.Le.refl w
  refine Tr.enter (n := 126) Try.func78 rfl rfl rfl hE ?_
  refine Tr.seq ?_
  refine Tr.region ?_
  refine Tr.val (wn rfl) rfl (fun _ _ h1 h2 => run_assign (h1.ev rfl)) ?_
  refine Tr.nilOwn 1 104 fl_TBand ?_
  show Tr _ _ (uf _ 6 (.slice none (([] : List TBand)).length 0)) _ _
  refine Tr.nil (Tr.normThen ?_)
  refine Tr.seq ?_
  refine Tr.region ?_
  refine Tr.val (wn rfl) rfl (fun _ _ h1 h2 => run_assign (h1.ev rfl)) ?_
  refine Tr.nilOwn 2 104 fl_TBand ?_
  show Tr _ _ (uf _ 7 (.slice none (([] : List TBand)).length 0)) _ _
  refine Tr.nil (Tr.normThen ?_)
  refine Tr.seq ?_
  refine Tr.seq ?_
  refine Tr.region ?_
  refine Tr.val (wn rfl) rfl (fun _ _ h1 h2 => run_move (h1.ev rfl)) ?_
  refine Tr.val (wn rfl) rfl (fun _ _ h1 h2 => run_len un_65 (h1.ev rfl)) ?_
  refine Tr.val (wn rfl) rfl (fun _ _ h1 h2 => run_move (h1.ev rfl)) ?_
  refine Tr.val (wn rfl) rfl (fun _ _ h1 h2 => run_len un_65 (h1.ev rfl)) ?_
  refine Tr.val (wn rfl) rfl (fun _ _ h1 h2 => run_add (h1.ev rfl) (h1.ev rfl)) ?_
  refine Tr.val (wn rfl) rfl (fun _ _ h1 h2 => run_eql (h1.ev rfl) (h1.ev rfl)) ?_
  refine Tr.nil (Tr.normThen ?_)
  refine Tr.cond rfl H (fun H => ?_) (fun H => ?_)
  · refine Tr.seq ?_
    refine Tr.region ?_
    refine Tr.val (wn rfl) rfl (fun _ _ h1 h2 => run_assign (h1.ev rfl)) ?_
    refine Tr.nilOwn 3 104 fl_TBand ?_
    show Tr _ _ (uf _ 6 (.slice none (([] : List TBand)).length 0)) _ _
    refine Tr.nil (Tr.normThen ?_)
    refine Tr.ret (Tr.retThen ?_)
    obtain rfl := Option.some.inj H
    exact Tr.out (m := [(.slice none (([] : List TBand)).length 0)]) [] (res_tmp rfl res_nil) (fun W hW => ⟨w, (none, 0), leB, rfl, slf_nil, hW.pick (ks := [3]) (by decide) (pk_cons rfl pk_nil)⟩)
  · refine Tr.skip (Tr.normThen ?_)
    refine Tr.seq ?_
    refine Tr.region ?_
    refine Tr.val (wn rfl) rfl (fun _ _ h1 h2 => run_assign (h1.ev rfl)) ?_
    refine Tr.val (wn rfl) rfl (fun _ _ h1 h2 => run_assign (h1.ev rfl)) ?_
    refine Tr.nil (Tr.normThen ?_)
    refine Tr.seq ?_
    refine Tr.seq ?_
    refine Tr.region ?_
    refine Tr.val (wn rfl) rfl (fun _ _ h1 h2 => run_move (h1.ev rfl)) ?_
    refine Tr.val (wn rfl) rfl (fun _ _ h1 h2 => run_move (h1.ev rfl)) ?_
    refine Tr.buildSlice 4 (e := 65) (vs := [(0, (.slice Ap0_0 (p0).length cp0_0)), (1, (.slice Ap1_0 (p1).length cp1_0))]) (cs := [(.slice Ap0_0 (p0).length cp0_0), (.slice Ap1_0 (p1).length cp1_0)]) (wn rfl) rfl (evs_cons rfl (evs_cons rfl evs_nil)) (by kernel_rfl) fun b100 => ?_
    refine Tr.val (wn rfl) rfl (fun _ _ h1 h2 => run_len un_75 (h1.ev rfl)) ?_
    refine Tr.val (wn rfl) rfl (fun _ _ h1 h2 => run_move (h1.ev rfl)) ?_
    refine Tr.nil (Tr.normThen ?_)
    refine Tr.block ?_
    refine Tr.own 4 fl_LTBand [p0, p1] (css := [[(.slice Ap0_0 (p0).length cp0_0)], [(.slice Ap1_0 (p1).length cp1_0)]]) rfl (.cons ⟨(Ap0_0, cp0_0), hp0_0, rfl⟩ (.cons ⟨(Ap1_0, cp1_0), hp1_0, rfl⟩ .nil)) rfl (by decide) (lit_max rfl) ?_
    refine Tr.ren 4 9 rfl rfl rfl ?_
    refine Tr.loop (σ := Int × Int × (List (List TBand)) × Int × (Option Addr) × Nat) (fun m w s => F_shape_Merge_L3 N p0 p1 p2 m s.1 s.2.1 s.2.2.1 s.2.2.2.1 = some r ∧ SlF s.2.2.2.2.1 (s.2.2.1).length s.2.2.2.2.2) (fun s => [(0, (.slice Ap0_0 (p0).length cp0_0)), (1, (.slice Ap1_0 (p1).length cp1_0)), (2, (.func (.func fid2) #[] cap2.toArray)), (7, (.slice none (([] : List TBand)).length 0)), (8, (.int .i64 s.1)), (9, (.int .i64 s.2.1)), (25, (.slice s.2.2.2.2.1 (s.2.2.1).length s.2.2.2.2.2)), (26, (.int .i64 2)), (27, (.int .i64 s.2.2.2.1))]) (fun s => [(2, ow none 0 104 fl_TBand ([] : List TBand)), (9, ow s.2.2.2.2.1 s.2.2.2.2.2 65 fl_LTBand s.2.2.1)]) N (0, 0, [p0, p1], 0, (some ⟨b100, 0, none⟩), 2) ⟨H, (lit_form b100 rfl)⟩ (.cons rfl (.cons rfl (.cons rfl (.cons rfl (.cons rfl (.cons rfl (.cons rfl (.cons rfl (.cons rfl .nil))))))))) (.cons rfl (.cons rfl .nil)) (fun _ _ h => noSome (h.1)) ?_
    intro w leF_shape_Merge_L3 mF_shape_Merge_L3 s hs
    obtain ⟨x150, x151, l152, x153, Al152, cl152⟩ := s
    obtain ⟨H, hl152⟩ := hs
    replace H : F_shape_Merge_L3 N p0 p1 p2 (mF_shape_Merge_L3 + 1) x150 x151 l152 x153 = some r := H
    replace hp0_0 := hp0_0.le leF_shape_Merge_L3
    replace hp1_0 := hp1_0.le leF_shape_Merge_L3
    replace hf2 := fun w' he => hf2 w' (leF_shape_Merge_L3.ext.trans he)
    replace leB := leB.trans leF_shape_Merge_L3
    replace hl152 : SlF Al152 (l152).length cl152 := hl152
    rw [F_shape_Merge_L3.eq_2] at H
    show Tr _ _ (LF [(0, (.slice Ap0_0 (p0).length cp0_0)), (1, (.slice Ap1_0 (p1).length cp1_0)), (2, (.func (.func fid2) #[] cap2.toArray)), (7, (.slice none (([] : List TBand)).length 0)), (8, (.int .i64 x150)), (9, (.int .i64 x151)), (25, (.slice Al152 (l152).length cl152)), (26, (.int .i64 2)), (27, (.int .i64 x153))]) (LE [(2, ow none 0 104 fl_TBand ([] : List TBand)), (9, ow Al152 cl152 65 fl_LTBand l152)]) _
    refine Tr.seq ?_
    refine Tr.region ?_
    refine Tr.val (wn rfl) rfl (fun _ _ h1 h2 => run_lss (h1.ev rfl) (h1.ev rfl)) ?_
    refine Tr.nil (Tr.normThen ?_)
    refine Tr.seq ?_
    refine Tr.cond rfl H (fun H => ?_) (fun H => ?_)
    · refine Tr.skip (Tr.normThen ?_)
      refine Tr.seq ?_
      refine Tr.block ?_
      refine Tr.seq ?_
      refine Tr.region ?_
      refine Tr.val (wn rfl) rfl (fun _ _ h1 h2 => run_move (h1.ev rfl)) ?_
      obtain ⟨x154, hx154, H⟩ := bnd H
      obtain ⟨hx1540, hx1541, hx1542⟩ := idx_some hx154
      refine Tr.val (wn rfl) rfl (fun _ _ h1 h2 => run_indexAddr el_75 (h1.ev rfl) hl152 (h1.ev rfl) hx1540 hx1541) ?_
      refine Tr.valE (U := (fl_LTBand).Ad) (fun u => (fl_LTBand).ok w.O w.W u x154) (fun u => (.slice u.1 (x154).length u.2)) (wn rfl) rfl (ldN (κ := 9) (t := fl_LTBand) (V := fun u => (.slice u.1 (x154).length u.2)) rfl hx1542 (fun _ _ u h1 hc => run_load1 ag_65 (h1.ev rfl) hc rfl)) ?_
      intro u155 hoku155
      obtain ⟨Au155_0, cu155_0⟩ := u155
      have hoku155_0 := hoku155
      replace hoku155_0 : Sl w.O w.W fl_TBand Au155_0 cu155_0 x154 := hoku155_0
      show Tr _ _ (uf _ 31 (.slice Au155_0 (x154).length cu155_0)) _ _
      refine Tr.val (wn rfl) rfl (fun _ _ h1 h2 => run_assign (h1.ev rfl)) ?_
      refine Tr.val (wn rfl) rfl (fun _ _ h1 h2 => run_assign (h1.ev rfl)) ?_
      refine Tr.nil (Tr.normThen ?_)
      refine Tr.seq ?_
      refine Tr.region ?_
      refine Tr.val (wn rfl) rfl (fun _ _ h1 h2 => run_move (h1.ev rfl)) ?_
      refine Tr.val (wn rfl) rfl (fun _ _ h1 h2 => run_len un_65 (h1.ev rfl)) ?_
      refine Tr.val (wn rfl) rfl (fun _ _ h1 h2 => run_gtr (h1.ev rfl) (h1.ev rfl)) ?_
      refine Tr.nil (Tr.normThen ?_)
      refine Tr.cond rfl H (fun H => ?_) (fun H => ?_)
      · have leJ162 := Bs.Le.refl w
        refine Tr.cutJ (σ := Int × Int) (fun w s => F_shape_Merge_J4 l152 x153 (F_shape_Merge_L3 N p0 p1 p2 mF_shape_Merge_L3) x154 s.1 s.2 = some r) (fun s => [(0, (.slice Ap0_0 (p0).length cp0_0)), (1, (.slice Ap1_0 (p1).length cp1_0)), (2, (.func (.func fid2) #[] cap2.toArray)), (7, (.slice none (([] : List TBand)).length 0)), (8, (.int .i64 s.1)), (9, (.int .i64 s.2)), (11, (.slice Au155_0 (x154).length cu155_0)), (25, (.slice Al152 (l152).length cl152)), (26, (.int .i64 2)), (27, (.int .i64 x153))]) (fun s => [(2, ow none 0 104 fl_TBand ([] : List TBand)), (9, ow Al152 cl152 65 fl_LTBand l152)]) ?_ ?_
        · refine Tr.seq ?_
          refine Tr.region ?_
          refine Tr.val (wn rfl) rfl (fun _ _ h1 h2 => run_move (h1.ev rfl)) ?_
          refine Tr.val (wn rfl) rfl (fun _ _ h1 h2 => run_eql (h1.ev rfl) (h1.ev rfl)) ?_
          refine Tr.val (wn rfl) rfl (fun _ _ h1 h2 => run_move (h1.ev rfl)) ?_
          refine Tr.mid0 4 [(0, (.slice Ap0_0 (p0).length cp0_0)), (1, (.slice Ap1_0 (p1).length cp1_0)), (2, (.func (.func fid2) #[] cap2.toArray)), (7, (.slice none (([] : List TBand)).length 0)), (8, (.int .i64 x150)), (9, (.int .i64 x151)), (11, (.slice Au155_0 (x154).length cu155_0)), (25, (.slice Al152 (l152).length cl152)), (26, (.int .i64 2)), (27, (.int .i64 x153)), (41, (.bool ((x153 == 0) || ((p0.length : Int) == 0))))] [(2, ow none 0 104 fl_TBand ([] : List TBand)), (9, ow Al152 cl152 65 fl_LTBand l152)] ?_ ?_
          · cases hg171 : (x153 == 0)
            · refine Tr.val (wg rfl rfl rfl) rfl (fun _ _ h1 h2 => run_move (h1.ev rfl)) ?_
              refine Tr.val (wg rfl rfl rfl) rfl (fun _ _ h1 h2 => run_len un_65 (h1.ev rfl)) ?_
              refine Tr.val (wg rfl rfl rfl) rfl (fun _ _ h1 h2 => run_eql (h1.ev rfl) (h1.ev rfl)) ?_
              refine Tr.val (wn rfl) rfl (fun _ _ h1 h2 => run_pickF (h1.ev rfl) (h1.ev rfl)) ?_
              exact Tr.nil (Tr.fin0 (.cons rfl (.cons rfl (.cons rfl (.cons rfl (.cons rfl (.cons rfl (.cons rfl (.cons rfl (.cons rfl (.cons rfl (.cons rfl .nil))))))))))) (.cons rfl (.cons rfl .nil)))
            · refine Tr.pass rfl rfl rfl rfl rfl (by decide) ?_
              refine Tr.pass rfl rfl rfl rfl rfl (by decide) ?_
              refine Tr.pass rfl rfl rfl rfl rfl (by decide) ?_
              refine Tr.val (wn rfl) rfl (fun _ _ h1 h2 => run_pickT (h1.ev rfl) (h1.ev rfl)) ?_
              exact Tr.nil (Tr.fin0 (.cons rfl (.cons rfl (.cons rfl (.cons rfl (.cons rfl (.cons rfl (.cons rfl (.cons rfl (.cons rfl (.cons rfl (.cons rfl .nil))))))))))) (.cons rfl (.cons rfl .nil)))
          · show Tr _ _ (LF [(0, (.slice Ap0_0 (p0).length cp0_0)), (1, (.slice Ap1_0 (p1).length cp1_0)), (2, (.func (.func fid2) #[] cap2.toArray)), (7, (.slice none (([] : List TBand)).length 0)), (8, (.int .i64 x150)), (9, (.int .i64 x151)), (11, (.slice Au155_0 (x154).length cu155_0)), (25, (.slice Al152 (l152).length cl152)), (26, (.int .i64 2)), (27, (.int .i64 x153)), (41, (.bool ((x153 == 0) || ((p0.length : Int) == 0))))]) (LE [(2, ow none 0 104 fl_TBand ([] : List TBand)), (9, ow Al152 cl152 65 fl_LTBand l152)]) _
            refine Tr.nil (Tr.normThen ?_)
            refine Tr.cond rfl H (fun H => ?_) (fun H => ?_)
            · refine Tr.draw (by kernel_rfl) (by kernel_rfl) ?_
              refine Tq.val (wn rfl) rfl (fun _ _ h1 h2 => run_move (h1.ev rfl)) ?_
              obtain ⟨x168, hx168, H⟩ := bnd H
              obtain ⟨hx1680, hx1681, hx1682⟩ := idx_some hx168
              obtain ⟨u169, hRu169, hoku169, hcu169⟩ := (hoku155_0).el hx1682
              obtain ⟨Au169_0, cu169_0⟩ := u169
              have hoku169_0 := hoku169
              replace hoku169_0 : Sl w.O w.W fl_i64 Au169_0 cu169_0 x168.Xs := hoku169_0
              replace hRu169 : w.R (adB Au155_0) := Or.inl hRu169
              refine Tq.val (wn rfl) rfl (fun _ _ h1 h2 => run_indexAddr el_65 (h1.ev rfl) hoku155_0.form (h1.ev rfl) hx1680 hx1681) ?_
              refine Tq.val (wn rfl) rfl (fun _ _ h1 h2 => run_fieldAddr fo_104_0 (h1.ev rfl)) ?_
              refine Tq.val (wn rfl) rfl (fun _ _ h1 h2 => run_load1 ag_3 (h1.ev rfl) (CellsAt.drop (rdR hRu169 hcu169 h2) 0) rfl) ?_
              refine Tq.val (wn rfl) rfl (fun _ _ h1 h2 => run_move (h1.ev rfl)) ?_
              refine Tq.val (wn rfl) rfl (fun _ _ h1 h2 => run_move (h1.ev rfl)) ?_
              refine Tq.val (wn rfl) rfl (fun _ _ h1 h2 => run_len un_65 (h1.ev rfl)) ?_
              refine Tq.val (wn rfl) rfl (fun _ _ h1 h2 => run_sub (h1.ev rfl) (h1.ev rfl)) ?_
              obtain ⟨x170, hx170, H⟩ := bnd H
              obtain ⟨hx1700, hx1701, hx1702⟩ := idx_some hx170
              obtain ⟨u171, hRu171, hoku171, hcu171⟩ := (hoku155_0).el hx1702
              obtain ⟨Au171_0, cu171_0⟩ := u171
              have hoku171_0 := hoku171
              replace hoku171_0 : Sl w.O w.W fl_i64 Au171_0 cu171_0 x170.Xs := hoku171_0
              replace hRu171 : w.R (adB Au155_0) := Or.inl hRu171
              refine Tq.val (wn rfl) rfl (fun _ _ h1 h2 => run_indexAddr el_65 (h1.ev rfl) hoku155_0.form (h1.ev rfl) hx1700 hx1701) ?_
              refine Tq.val (wn rfl) rfl (fun _ _ h1 h2 => run_fieldAddr fo_104_1 (h1.ev rfl)) ?_
              refine Tq.val (wn rfl) rfl (fun _ _ h1 h2 => run_load1 ag_3 (h1.ev rfl) (CellsAt.drop (rdR hRu171 hcu171 h2) 1) rfl) ?_
              refine Tq.val (wn rfl) rfl (fun _ _ h1 h2 => run_assign (h1.ev rfl)) ?_
              refine Tq.val (wn rfl) rfl (fun _ _ h1 h2 => run_assign (h1.ev rfl)) ?_
              refine Tq.nil ?_
              exact Tr.backThen leJ162 (x168.Y0, x170.Y1) H (.cons rfl (.cons rfl (.cons rfl (.cons rfl (.cons rfl (.cons rfl (.cons rfl (.cons rfl (.cons rfl (.cons rfl .nil)))))))))) (.cons rfl (.cons rfl .nil))
            · refine Tr.skip ?_
              exact Tr.backThen leJ162 (x150, x151) H (.cons rfl (.cons rfl (.cons rfl (.cons rfl (.cons rfl (.cons rfl (.cons rfl (.cons rfl (.cons rfl (.cons rfl .nil)))))))))) (.cons rfl (.cons rfl .nil))
        · intro w s hlJ163 hs
          obtain ⟨x160, x161⟩ := s
          have H := hs
          replace H : F_shape_Merge_J4 l152 x153 (F_shape_Merge_L3 N p0 p1 p2 mF_shape_Merge_L3) x154 x160 x161 = some r := H
          replace hp0_0 := hp0_0.le hlJ163
          replace hp1_0 := hp1_0.le hlJ163
          replace hf2 := fun w' he => hf2 w' (hlJ163.ext.trans he)
          replace hoku155_0 := hoku155_0.le hlJ163
          replace leB := leB.trans hlJ163
          replace leF_shape_Merge_L3 := leF_shape_Merge_L3.trans hlJ163
          unfold F_shape_Merge_J4 at H
          show Tr _ _ (LF [(0, (.slice Ap0_0 (p0).length cp0_0)), (1, (.slice Ap1_0 (p1).length cp1_0)), (2, (.func (.func fid2) #[] cap2.toArray)), (7, (.slice none (([] : List TBand)).length 0)), (8, (.int .i64 x160)), (9, (.int .i64 x161)), (11, (.slice Au155_0 (x154).length cu155_0)), (25, (.slice Al152 (l152).length cl152)), (26, (.int .i64 2)), (27, (.int .i64 x153))]) (LE [(2, ow none 0 104 fl_TBand ([] : List TBand)), (9, ow Al152 cl152 65 fl_LTBand l152)]) _
          refine Tr.draw (by kernel_rfl) (by kernel_rfl) ?_
          refine Tq.val (wn rfl) rfl (fun _ _ h1 h2 => run_move (h1.ev rfl)) ?_
          refine Tq.val (wn rfl) rfl (fun _ _ h1 h2 => run_move (h1.ev rfl)) ?_
          obtain ⟨x164, hx164, H⟩ := bnd H
          obtain ⟨hx1640, hx1641, hx1642⟩ := idx_some hx164
          obtain ⟨u165, hRu165, hoku165, hcu165⟩ := (hoku155_0).el hx1642
          obtain ⟨Au165_0, cu165_0⟩ := u165
          have hoku165_0 := hoku165
          replace hoku165_0 : Sl w.O w.W fl_i64 Au165_0 cu165_0 x164.Xs := hoku165_0
          replace hRu165 : w.R (adB Au155_0) := Or.inl hRu165
          refine Tq.val (wn rfl) rfl (fun _ _ h1 h2 => run_indexAddr el_65 (h1.ev rfl) hoku155_0.form (h1.ev rfl) hx1640 hx1641) ?_
          refine Tq.val (wn rfl) rfl (fun _ _ h1 h2 => run_fieldAddr fo_104_0 (h1.ev rfl)) ?_
          refine Tq.val (wn rfl) rfl (fun _ _ h1 h2 => run_load1 ag_3 (h1.ev rfl) (CellsAt.drop (rdR hRu165 hcu165 h2) 0) rfl) ?_
          refine Tq.val (wn rfl) rfl (fun _ _ h1 h2 => run_min (h1.ev rfl) (h1.ev rfl) _) ?_
          refine Tq.val (wn rfl) rfl (fun _ _ h1 h2 => run_move (h1.ev rfl)) ?_
          refine Tq.val (wn rfl) rfl (fun _ _ h1 h2 => run_move (h1.ev rfl)) ?_
          refine Tq.val (wn rfl) rfl (fun _ _ h1 h2 => run_move (h1.ev rfl)) ?_
          refine Tq.val (wn rfl) rfl (fun _ _ h1 h2 => run_len un_65 (h1.ev rfl)) ?_
          refine Tq.val (wn rfl) rfl (fun _ _ h1 h2 => run_sub (h1.ev rfl) (h1.ev rfl)) ?_
          obtain ⟨x166, hx166, H⟩ := bnd H
          obtain ⟨hx1660, hx1661, hx1662⟩ := idx_some hx166
          obtain ⟨u167, hRu167, hoku167, hcu167⟩ := (hoku155_0).el hx1662
          obtain ⟨Au167_0, cu167_0⟩ := u167
          have hoku167_0 := hoku167
          replace hoku167_0 : Sl w.O w.W fl_i64 Au167_0 cu167_0 x166.Xs := hoku167_0
          replace hRu167 : w.R (adB Au155_0) := Or.inl hRu167
          refine Tq.val (wn rfl) rfl (fun _ _ h1 h2 => run_indexAddr el_65 (h1.ev rfl) hoku155_0.form (h1.ev rfl) hx1660 hx1661) ?_
          refine Tq.val (wn rfl) rfl (fun _ _ h1 h2 => run_fieldAddr fo_104_1 (h1.ev rfl)) ?_
          refine Tq.val (wn rfl) rfl (fun _ _ h1 h2 => run_load1 ag_3 (h1.ev rfl) (CellsAt.drop (rdR hRu167 hcu167 h2) 1) rfl) ?_
          refine Tq.val (wn rfl) rfl (fun _ _ h1 h2 => run_max (h1.ev rfl) (h1.ev rfl) _) ?_
          refine Tq.val (wn rfl) rfl (fun _ _ h1 h2 => run_assign (h1.ev rfl)) ?_
          refine Tq.val (wn rfl) rfl (fun _ _ h1 h2 => run_assign (h1.ev rfl)) ?_
          refine Tq.nil (Tr.normBlock (Tr.normThen ?_))
          refine Tr.region ?_
          refine Tr.val (wn rfl) rfl (fun _ _ h1 h2 => run_add (h1.ev rfl) (h1.ev rfl)) ?_
          refine Tr.val (wn rfl) rfl (fun _ _ h1 h2 => run_move (h1.ev rfl)) ?_
          refine Tr.nil ?_
          exact Tr.backThen leF_shape_Merge_L3 ((min x160 x164.Y0), (max x161 x166.Y1), l152, (w64 (x153 + 1)), Al152, cl152) ⟨H, hl152⟩ (.cons rfl (.cons rfl (.cons rfl (.cons rfl (.cons rfl (.cons rfl (.cons rfl (.cons rfl (.cons rfl .nil))))))))) (.cons rfl (.cons rfl .nil))
      · refine Tr.skip (Tr.normBlock (Tr.normThen ?_))
        refine Tr.region ?_
        refine Tr.val (wn rfl) rfl (fun _ _ h1 h2 => run_add (h1.ev rfl) (h1.ev rfl)) ?_
        refine Tr.val (wn rfl) rfl (fun _ _ h1 h2 => run_move (h1.ev rfl)) ?_
        refine Tr.nil ?_
        exact Tr.backThen leF_shape_Merge_L3 (x150, x151, l152, (w64 (x153 + 1)), Al152, cl152) ⟨H, hl152⟩ (.cons rfl (.cons rfl (.cons rfl (.cons rfl (.cons rfl (.cons rfl (.cons rfl (.cons rfl (.cons rfl .nil))))))))) (.cons rfl (.cons rfl .nil))
    · refine Tr.exit (Tr.exitThen (Tr.exitThen (Tr.exitBlock (Tr.normThen ?_))))
      refine Tr.seq ?_
      refine Tr.block ?_
      refine Tr.loop (σ := (List TBand) × (List TBand) × (List TBand) × Int × (Option Addr) × Nat × (Option Addr) × Nat × (Option Addr) × Nat) (fun m w s => F_shape_Merge_L9 N p2 x151 m s.1 s.2.1 s.2.2.1 s.2.2.2.1 = some r ∧ Sl w.O w.W fl_TBand s.2.2.2.2.1 s.2.2.2.2.2.1 s.1 ∧ Sl w.O w.W fl_TBand s.2.2.2.2.2.2.1 s.2.2.2.2.2.2.2.1 s.2.1 ∧ SlF s.2.2.2.2.2.2.2.2.1 (s.2.2.1).length s.2.2.2.2.2.2.2.2.2) (fun s => [(0, (.slice s.2.2.2.2.1 (s.1).length s.2.2.2.2.2.1)), (1, (.slice s.2.2.2.2.2.2.1 (s.2.1).length s.2.2.2.2.2.2.2.1)), (2, (.func (.func fid2) #[] cap2.toArray)), (7, (.slice s.2.2.2.2.2.2.2.2.1 (s.2.2.1).length s.2.2.2.2.2.2.2.2.2)), (8, (.int .i64 s.2.2.2.1)), (9, (.int .i64 x151))]) (fun s => [(2, ow s.2.2.2.2.2.2.2.2.1 s.2.2.2.2.2.2.2.2.2 104 fl_TBand s.2.2.1)]) N (p0, p1, ([] : List TBand), x150, Ap0_0, cp0_0, Ap1_0, cp1_0, none, 0) ⟨H, hp0_0, hp1_0, slf_nil⟩ (.cons rfl (.cons rfl (.cons rfl (.cons rfl (.cons rfl (.cons rfl .nil)))))) (.cons rfl .nil) (fun _ _ h => noSome (h.1)) ?_
      intro w leF_shape_Merge_L9 mF_shape_Merge_L9 s hs
      obtain ⟨l292, l293, l294, x295, Al292, cl292, Al293, cl293, Al294, cl294⟩ := s
      obtain ⟨H, hl292, hl293, hl294⟩ := hs
      replace H : F_shape_Merge_L9 N p2 x151 (mF_shape_Merge_L9 + 1) l292 l293 l294 x295 = some r := H
      replace hf2 := fun w' he => hf2 w' (leF_shape_Merge_L9.ext.trans he)
      replace leB := leB.trans leF_shape_Merge_L9
      replace leF_shape_Merge_L3 := leF_shape_Merge_L3.trans leF_shape_Merge_L9
      replace hl292 : Sl w.O w.W fl_TBand Al292 cl292 l292 := hl292
      replace hl293 : Sl w.O w.W fl_TBand Al293 cl293 l293 := hl293
      replace hl294 : SlF Al294 (l294).length cl294 := hl294
      rw [F_shape_Merge_L9.eq_2] at H
      show Tr _ _ (LF [(0, (.slice Al292 (l292).length cl292)), (1, (.slice Al293 (l293).length cl293)), (2, (.func (.func fid2) #[] cap2.toArray)), (7, (.slice Al294 (l294).length cl294)), (8, (.int .i64 x295)), (9, (.int .i64 x151))]) (LE [(2, ow Al294 cl294 104 fl_TBand l294)]) _
      refine Tr.seq ?_
      refine Tr.seq ?_
      refine Tr.region ?_
      refine Tr.val (wn rfl) rfl (fun _ _ h1 h2 => run_move (h1.ev rfl)) ?_
      refine Tr.val (wn rfl) rfl (fun _ _ h1 h2 => run_move (h1.ev rfl)) ?_
      refine Tr.val (wn rfl) rfl (fun _ _ h1 h2 => run_lss (h1.ev rfl) (h1.ev rfl)) ?_
      refine Tr.nil (Tr.normThen ?_)
      refine Tr.cond rfl H (fun H => ?_) (fun H => ?_)
      · refine Tr.skip (Tr.normThen ?_)
        refine Tr.block ?_
        refine Tr.seq ?_
        refine Tr.block ?_
        refine Tr.loop (σ := (List TBand) × (Option Addr) × Nat) (fun m w s => F_shape_Merge_L10 N p2 x151 l293 l294 x295 (F_shape_Merge_L9 N p2 x151 mF_shape_Merge_L9) m s.1 = some r ∧ Sl w.O w.W fl_TBand s.2.1 s.2.2 s.1) (fun s => [(0, (.slice s.2.1 (s.1).length s.2.2)), (1, (.slice Al293 (l293).length cl293)), (2, (.func (.func fid2) #[] cap2.toArray)), (7, (.slice Al294 (l294).length cl294)), (8, (.int .i64 x295)), (9, (.int .i64 x151))]) (fun s => [(2, ow Al294 cl294 104 fl_TBand l294)]) N (l292, Al292, cl292) ⟨H, hl292⟩ (.cons rfl (.cons rfl (.cons rfl (.cons rfl (.cons rfl (.cons rfl .nil)))))) (.cons rfl .nil) (fun _ _ h => noSome (h.1)) ?_
        intro w leF_shape_Merge_L10 mF_shape_Merge_L10 s hs
        obtain ⟨l311, Al311, cl311⟩ := s
        obtain ⟨H, hl311⟩ := hs
        replace H : F_shape_Merge_L10 N p2 x151 l293 l294 x295 (F_shape_Merge_L9 N p2 x151 mF_shape_Merge_L9) (mF_shape_Merge_L10 + 1) l311 = some r := H
        replace hl293 := hl293.le leF_shape_Merge_L10
        replace hf2 := fun w' he => hf2 w' (leF_shape_Merge_L10.ext.trans he)
        replace leB := leB.trans leF_shape_Merge_L10
        replace leF_shape_Merge_L3 := leF_shape_Merge_L3.trans leF_shape_Merge_L10
        replace leF_shape_Merge_L9 := leF_shape_Merge_L9.trans leF_shape_Merge_L10
        replace hl311 : Sl w.O w.W fl_TBand Al311 cl311 l311 := hl311
        rw [F_shape_Merge_L10.eq_2] at H
        show Tr _ _ (LF [(0, (.slice Al311 (l311).length cl311)), (1, (.slice Al293 (l293).length cl293)), (2, (.func (.func fid2) #[] cap2.toArray)), (7, (.slice Al294 (l294).length cl294)), (8, (.int .i64 x295)), (9, (.int .i64 x151))]) (LE [(2, ow Al294 cl294 104 fl_TBand l294)]) _
        refine Tr.seq ?_
        refine Tr.seq ?_
        refine Tr.region ?_
        refine Tr.val (wn rfl) rfl (fun _ _ h1 h2 => run_move (h1.ev rfl)) ?_
        refine Tr.val (wn rfl) rfl (fun _ _ h1 h2 => run_len un_65 (h1.ev rfl)) ?_
        refine Tr.val (wn rfl) rfl (fun _ _ h1 h2 => run_gtr (h1.ev rfl) (h1.ev rfl)) ?_
        refine Tr.val (wn rfl) rfl (fun _ _ h1 h2 => run_move (h1.ev rfl)) ?_
        obtain ⟨g314, hg314, H⟩ := bnd H
        refine Tr.mid0 7 [(0, (.slice Al311 (l311).length cl311)), (1, (.slice Al293 (l293).length cl293)), (2, (.func (.func fid2) #[] cap2.toArray)), (7, (.slice Al294 (l294).length cl294)), (8, (.int .i64 x295)), (9, (.int .i64 x151)), (82, (.bool g314))] [(2, ow Al294 cl294 104 fl_TBand l294)] ?_ ?_
        · cases hg349 : (decide (0 < (l311.length : Int)))
          · rw [hg349] at hg314
            rw [if_neg (by decide)] at hg314
            have H := hg314
            obtain rfl := Option.some.inj H
            refine Tr.pass rfl rfl rfl rfl rfl (by decide) ?_
            refine Tr.pass rfl rfl rfl rfl rfl (by decide) ?_
            refine Tr.pass rfl rfl rfl rfl rfl (by decide) ?_
            refine Tr.pass rfl rfl rfl rfl rfl (by decide) ?_
            refine Tr.pass rfl rfl rfl rfl rfl (by decide) ?_
            refine Tr.pass rfl rfl rfl rfl rfl (by decide) ?_
            refine Tr.val (wn rfl) rfl (fun _ _ h1 h2 => run_pickF (h1.ev rfl) (h1.ev rfl)) ?_
            exact Tr.nil (Tr.fin0 (.cons rfl (.cons rfl (.cons rfl (.cons rfl (.cons rfl (.cons rfl (.cons rfl .nil))))))) (.cons rfl .nil))
          · rw [hg349] at hg314
            rw [if_pos rfl] at hg314
            have H := hg314
            refine Tr.val (wg rfl rfl rfl) rfl (fun _ _ h1 h2 => run_move (h1.ev rfl)) ?_
            obtain ⟨x315, hx315, H⟩ := bnd H
            obtain ⟨hx3150, hx3151, hx3152⟩ := idx_some hx315
            obtain ⟨u316, hRu316, hoku316, hcu316⟩ := (hl311).el hx3152
            obtain ⟨Au316_0, cu316_0⟩ := u316
            have hoku316_0 := hoku316
            replace hoku316_0 : Sl w.O w.W fl_i64 Au316_0 cu316_0 x315.Xs := hoku316_0
            replace hRu316 : w.R (adB Al311) := Or.inl hRu316
            refine Tr.val (wg rfl rfl rfl) rfl (fun _ _ h1 h2 => run_indexAddr el_65 (h1.ev rfl) hl311.form (h1.ev rfl) hx3150 hx3151) ?_
            refine Tr.val (wg rfl rfl rfl) rfl (fun _ _ h1 h2 => run_fieldAddr fo_104_1 (h1.ev rfl)) ?_
            refine Tr.val (wg rfl rfl rfl) rfl (fun _ _ h1 h2 => run_load1 ag_3 (h1.ev rfl) (CellsAt.drop (rdR hRu316 hcu316 h2) 1) rfl) ?_
            refine Tr.val (wg rfl rfl rfl) rfl (fun _ _ h1 h2 => run_move (h1.ev rfl)) ?_
            refine Tr.val (wg rfl rfl rfl) rfl (fun _ _ h1 h2 => run_leq (h1.ev rfl) (h1.ev rfl)) ?_
            refine Tr.val (wn rfl) rfl (fun _ _ h1 h2 => run_pickT (h1.ev rfl) (h1.ev rfl)) ?_
            obtain rfl := Option.some.inj H
            exact Tr.nil (Tr.fin0 (.cons rfl (.cons rfl (.cons rfl (.cons rfl (.cons rfl (.cons rfl (.cons rfl .nil))))))) (.cons rfl .nil))
        · show Tr _ _ (LF [(0, (.slice Al311 (l311).length cl311)), (1, (.slice Al293 (l293).length cl293)), (2, (.func (.func fid2) #[] cap2.toArray)), (7, (.slice Al294 (l294).length cl294)), (8, (.int .i64 x295)), (9, (.int .i64 x151)), (82, (.bool g314))]) (LE [(2, ow Al294 cl294 104 fl_TBand l294)]) _
          refine Tr.nil (Tr.normThen ?_)
          refine Tr.cond rfl H (fun H => ?_) (fun H => ?_)
          · refine Tr.skip (Tr.normThen ?_)
            refine Tr.block ?_
            refine Tr.region ?_
            refine Tr.val (wn rfl) rfl (fun _ _ h1 h2 => run_move (h1.ev rfl)) ?_
            obtain ⟨l317, hl317, H⟩ := bnd H
            refine Tr.val (wn rfl) rfl (fun _ _ h1 h2 => run_cutL el_65 (h1.ev rfl) hl311.form (h1.ev rfl) hl317) ?_
            refine Tr.val (wn rfl) rfl (fun _ _ h1 h2 => run_assign (h1.ev rfl)) ?_
            refine Tr.nil (Tr.normBlock ?_)
            exact Tr.backThen leF_shape_Merge_L10 (l317, (cutA Al311 (1 : Int).toNat 3 cl311), (cl311 - (1 : Int).toNat)) ⟨H, (Sl.cut hl311 hl317)⟩ (.cons rfl (.cons rfl (.cons rfl (.cons rfl (.cons rfl (.cons rfl .nil)))))) (.cons rfl .nil)
          · refine Tr.exit (Tr.exitThen (Tr.exitThen (Tr.exitBlock (Tr.normThen ?_))))
            refine Tr.seq ?_
            refine Tr.block ?_
            refine Tr.loop (σ := (List TBand) × (Option Addr) × Nat) (fun m w s => F_shape_Merge_L11 N p2 x151 l294 x295 (F_shape_Merge_L9 N p2 x151 mF_shape_Merge_L9) l311 m s.1 = some r ∧ Sl w.O w.W fl_TBand s.2.1 s.2.2 s.1) (fun s => [(0, (.slice Al311 (l311).length cl311)), (1, (.slice s.2.1 (s.1).length s.2.2)), (2, (.func (.func fid2) #[] cap2.toArray)), (7, (.slice Al294 (l294).length cl294)), (8, (.int .i64 x295)), (9, (.int .i64 x151))]) (fun s => [(2, ow Al294 cl294 104 fl_TBand l294)]) N (l293, Al293, cl293) ⟨H, hl293⟩ (.cons rfl (.cons rfl (.cons rfl (.cons rfl (.cons rfl (.cons rfl .nil)))))) (.cons rfl .nil) (fun _ _ h => noSome (h.1)) ?_
            intro w leF_shape_Merge_L11 mF_shape_Merge_L11 s hs
            obtain ⟨l333, Al333, cl333⟩ := s
            obtain ⟨H, hl333⟩ := hs
            replace H : F_shape_Merge_L11 N p2 x151 l294 x295 (F_shape_Merge_L9 N p2 x151 mF_shape_Merge_L9) l311 (mF_shape_Merge_L11 + 1) l333 = some r := H
            replace hl311 := hl311.le leF_shape_Merge_L11
            replace hf2 := fun w' he => hf2 w' (leF_shape_Merge_L11.ext.trans he)
            replace leB := leB.trans leF_shape_Merge_L11
            replace leF_shape_Merge_L3 := leF_shape_Merge_L3.trans leF_shape_Merge_L11
            replace leF_shape_Merge_L9 := leF_shape_Merge_L9.trans leF_shape_Merge_L11
            replace leF_shape_Merge_L10 := leF_shape_Merge_L10.trans leF_shape_Merge_L11
            replace hl333 : Sl w.O w.W fl_TBand Al333 cl333 l333 := hl333
            rw [F_shape_Merge_L11.eq_2] at H
            show Tr _ _ (LF [(0, (.slice Al311 (l311).length cl311)), (1, (.slice Al333 (l333).length cl333)), (2, (.func (.func fid2) #[] cap2.toArray)), (7, (.slice Al294 (l294).length cl294)), (8, (.int .i64 x295)), (9, (.int .i64 x151))]) (LE [(2, ow Al294 cl294 104 fl_TBand l294)]) _
            refine Tr.seq ?_
            refine Tr.seq ?_
            refine Tr.region ?_
            refine Tr.val (wn rfl) rfl (fun _ _ h1 h2 => run_move (h1.ev rfl)) ?_
            refine Tr.val (wn rfl) rfl (fun _ _ h1 h2 => run_len un_65 (h1.ev rfl)) ?_
            refine Tr.val (wn rfl) rfl (fun _ _ h1 h2 => run_gtr (h1.ev rfl) (h1.ev rfl)) ?_
            refine Tr.val (wn rfl) rfl (fun _ _ h1 h2 => run_move (h1.ev rfl)) ?_
            obtain ⟨g336, hg336, H⟩ := bnd H
            refine Tr.mid0 7 [(0, (.slice Al311 (l311).length cl311)), (1, (.slice Al333 (l333).length cl333)), (2, (.func (.func fid2) #[] cap2.toArray)), (7, (.slice Al294 (l294).length cl294)), (8, (.int .i64 x295)), (9, (.int .i64 x151)), (95, (.bool g336))] [(2, ow Al294 cl294 104 fl_TBand l294)] ?_ ?_
            · cases hg349 : (decide (0 < (l333.length : Int)))
              · rw [hg349] at hg336
                rw [if_neg (by decide)] at hg336
                have H := hg336
                obtain rfl := Option.some.inj H
                refine Tr.pass rfl rfl rfl rfl rfl (by decide) ?_
                refine Tr.pass rfl rfl rfl rfl rfl (by decide) ?_
                refine Tr.pass rfl rfl rfl rfl rfl (by decide) ?_
                refine Tr.pass rfl rfl rfl rfl rfl (by decide) ?_
                refine Tr.pass rfl rfl rfl rfl rfl (by decide) ?_
                refine Tr.pass rfl rfl rfl rfl rfl (by decide) ?_
                refine Tr.val (wn rfl) rfl (fun _ _ h1 h2 => run_pickF (h1.ev rfl) (h1.ev rfl)) ?_
                exact Tr.nil (Tr.fin0 (.cons rfl (.cons rfl (.cons rfl (.cons rfl (.cons rfl (.cons rfl (.cons rfl .nil))))))) (.cons rfl .nil))
              · rw [hg349] at hg336
                rw [if_pos rfl] at hg336
                have H := hg336
                refine Tr.val (wg rfl rfl rfl) rfl (fun _ _ h1 h2 => run_move (h1.ev rfl)) ?_
                obtain ⟨x337, hx337, H⟩ := bnd H
                obtain ⟨hx3370, hx3371, hx3372⟩ := idx_some hx337
                obtain ⟨u338, hRu338, hoku338, hcu338⟩ := (hl333).el hx3372
                obtain ⟨Au338_0, cu338_0⟩ := u338
                have hoku338_0 := hoku338
                replace hoku338_0 : Sl w.O w.W fl_i64 Au338_0 cu338_0 x337.Xs := hoku338_0
                replace hRu338 : w.R (adB Al333) := Or.inl hRu338
                refine Tr.val (wg rfl rfl rfl) rfl (fun _ _ h1 h2 => run_indexAddr el_65 (h1.ev rfl) hl333.form (h1.ev rfl) hx3370 hx3371) ?_
                refine Tr.val (wg rfl rfl rfl) rfl (fun _ _ h1 h2 => run_fieldAddr fo_104_1 (h1.ev rfl)) ?_
                refine Tr.val (wg rfl rfl rfl) rfl (fun _ _ h1 h2 => run_load1 ag_3 (h1.ev rfl) (CellsAt.drop (rdR hRu338 hcu338 h2) 1) rfl) ?_
                refine Tr.val (wg rfl rfl rfl) rfl (fun _ _ h1 h2 => run_move (h1.ev rfl)) ?_
                refine Tr.val (wg rfl rfl rfl) rfl (fun _ _ h1 h2 => run_leq (h1.ev rfl) (h1.ev rfl)) ?_
                refine Tr.val (wn rfl) rfl (fun _ _ h1 h2 => run_pickT (h1.ev rfl) (h1.ev rfl)) ?_
                obtain rfl := Option.some.inj H
                exact Tr.nil (Tr.fin0 (.cons rfl (.cons rfl (.cons rfl (.cons rfl (.cons rfl (.cons rfl (.cons rfl .nil))))))) (.cons rfl .nil))
            · show Tr _ _ (LF [(0, (.slice Al311 (l311).length cl311)), (1, (.slice Al333 (l333).length cl333)), (2, (.func (.func fid2) #[] cap2.toArray)), (7, (.slice Al294 (l294).length cl294)), (8, (.int .i64 x295)), (9, (.int .i64 x151)), (95, (.bool g336))]) (LE [(2, ow Al294 cl294 104 fl_TBand l294)]) _
              refine Tr.nil (Tr.normThen ?_)
              refine Tr.cond rfl H (fun H => ?_) (fun H => ?_)
              · refine Tr.skip (Tr.normThen ?_)
                refine Tr.block ?_
                refine Tr.region ?_
                refine Tr.val (wn rfl) rfl (fun _ _ h1 h2 => run_move (h1.ev rfl)) ?_
                obtain ⟨l339, hl339, H⟩ := bnd H
                refine Tr.val (wn rfl) rfl (fun _ _ h1 h2 => run_cutL el_65 (h1.ev rfl) hl333.form (h1.ev rfl) hl339) ?_
                refine Tr.val (wn rfl) rfl (fun _ _ h1 h2 => run_assign (h1.ev rfl)) ?_
                refine Tr.nil (Tr.normBlock ?_)
                exact Tr.backThen leF_shape_Merge_L11 (l339, (cutA Al333 (1 : Int).toNat 3 cl333), (cl333 - (1 : Int).toNat)) ⟨H, (Sl.cut hl333 hl339)⟩ (.cons rfl (.cons rfl (.cons rfl (.cons rfl (.cons rfl (.cons rfl .nil)))))) (.cons rfl .nil)
              · refine Tr.exit (Tr.exitThen (Tr.exitThen (Tr.exitBlock (Tr.normThen ?_))))
                refine Tr.seq ?_
                refine Tr.region ?_
                refine Tr.val (wn rfl) rfl (fun _ _ h1 h2 => run_move (h1.ev rfl)) ?_
                refine Tr.val (wn rfl) rfl (fun _ _ h1 h2 => run_move (h1.ev rfl)) ?_
                refine Tr.val (wn rfl) rfl (fun _ _ h1 h2 => run_move (h1.ev rfl)) ?_
                obtain ⟨y340, hy340, H⟩ := bnd H
                refine Tr.callG [] [] (U := (Option Addr × Nat)) (fun u => (.tuple #[(.slice u.1 (y340.1).length u.2), (.int .i64 y340.2)])) (fun O W u => Sl O W fl_i64 u.1 u.2 y340.1) (fun u => []) rfl pk_nil (fun _ => rfl) (wn rfl) rfl Try.call115 (evl_cons rfl (evl_cons rfl (evl_cons rfl evl_nil))) (fun W hW hp hE => F_shape_Set__at_ok l311 Al311 cl311 (hl311.extO (hW.extS hp)) x295 x151 y340 hy340 hE) ?_
                intro w u le341 hu
                obtain ⟨Ay340_0, cy340_0⟩ := u
                have gy340_0 := hu
                replace hl311 := hl311.le le341
                replace hl333 := hl333.le le341
                replace hf2 := fun w' he => hf2 w' (le341.ext.trans he)
                replace leB := leB.trans le341
                replace leF_shape_Merge_L3 := leF_shape_Merge_L3.trans le341
                replace leF_shape_Merge_L9 := leF_shape_Merge_L9.trans le341
                replace leF_shape_Merge_L10 := leF_shape_Merge_L10.trans le341
                replace leF_shape_Merge_L11 := leF_shape_Merge_L11.trans le341
                have hgy340_0 : Sl w.O w.W fl_i64 Ay340_0 cy340_0 y340.1 := gy340_0 --@phi
                show Tr _ _ (uf _ 102 (.tuple #[(.slice Ay340_0 (y340.1).length cy340_0), (.int .i64 y340.2)])) (_) _
                refine Tr.val (wn rfl) rfl (fun _ _ h1 h2 => run_move (h1.ev rfl)) ?_
                refine Tr.val (wn rfl) rfl (fun _ _ h1 h2 => run_extract (h1.ev rfl) rfl) ?_
                refine Tr.val (wn rfl) rfl (fun _ _ h1 h2 => run_extract (h1.ev rfl) rfl) ?_
                refine Tr.val (wn rfl) rfl (fun _ _ h1 h2 => run_assign (h1.ev rfl)) ?_
                refine Tr.val (wn rfl) rfl (fun _ _ h1 h2 => run_assign (h1.ev rfl)) ?_
                refine Tr.nil (Tr.normThen ?_)
                refine Tr.seq ?_
                refine Tr.region ?_
                refine Tr.val (wn rfl) rfl (fun _ _ h1 h2 => run_move (h1.ev rfl)) ?_
                refine Tr.val (wn rfl) rfl (fun _ _ h1 h2 => run_move (h1.ev rfl)) ?_
                refine Tr.val (wn rfl) rfl (fun _ _ h1 h2 => run_move (h1.ev rfl)) ?_
                obtain ⟨y342, hy342, H⟩ := bnd H
                refine Tr.callG [] [] (U := (Option Addr × Nat)) (fun u => (.tuple #[(.slice u.1 (y342.1).length u.2), (.int .i64 y342.2)])) (fun O W u => Sl O W fl_i64 u.1 u.2 y342.1) (fun u => []) rfl pk_nil (fun _ => rfl) (wn rfl) rfl Try.call115 (evl_cons rfl (evl_cons rfl (evl_cons rfl evl_nil))) (fun W hW hp hE => F_shape_Set__at_ok l333 Al333 cl333 (hl333.extO (hW.extS hp)) x295 x151 y342 hy342 hE) ?_
                intro w u le343 hu
                obtain ⟨Ay342_0, cy342_0⟩ := u
                have gy342_0 := hu
                replace hl311 := hl311.le le343
                replace hl333 := hl333.le le343
                replace hf2 := fun w' he => hf2 w' (le343.ext.trans he)
                replace hgy340_0 := hgy340_0.le le343
                replace leB := leB.trans le343
                replace leF_shape_Merge_L3 := leF_shape_Merge_L3.trans le343
                replace leF_shape_Merge_L9 := leF_shape_Merge_L9.trans le343
                replace leF_shape_Merge_L10 := leF_shape_Merge_L10.trans le343
                replace leF_shape_Merge_L11 := leF_shape_Merge_L11.trans le343
                have hgy342_0 : Sl w.O w.W fl_i64 Ay342_0 cy342_0 y342.1 := gy342_0 --@phi
                show Tr _ _ (uf _ 109 (.tuple #[(.slice Ay342_0 (y342.1).length cy342_0), (.int .i64 y342.2)])) (_) _
                refine Tr.val (wn rfl) rfl (fun _ _ h1 h2 => run_move (h1.ev rfl)) ?_
                refine Tr.val (wn rfl) rfl (fun _ _ h1 h2 => run_extract (h1.ev rfl) rfl) ?_
                refine Tr.val (wn rfl) rfl (fun _ _ h1 h2 => run_extract (h1.ev rfl) rfl) ?_
                refine Tr.val (wn rfl) rfl (fun _ _ h1 h2 => run_assign (h1.ev rfl)) ?_
                refine Tr.val (wn rfl) rfl (fun _ _ h1 h2 => run_assign (h1.ev rfl)) ?_
                refine Tr.nil (Tr.normThen ?_)
                refine Tr.seq ?_
                refine Tr.region ?_
                refine Tr.val (wn rfl) rfl (fun _ _ h1 h2 => run_move (h1.ev rfl)) ?_
                refine Tr.val (wn rfl) rfl (fun _ _ h1 h2 => run_move (h1.ev rfl)) ?_
                refine Tr.val (wn rfl) rfl (fun _ _ h1 h2 => run_min (h1.ev rfl) (h1.ev rfl) _) ?_
                refine Tr.val (wn rfl) rfl (fun _ _ h1 h2 => run_assign (h1.ev rfl)) ?_
                refine Tr.nil (Tr.normThen ?_)
                refine Tr.seq ?_
                refine Tr.region ?_
                refine Tr.val (wn rfl) rfl (fun _ _ h1 h2 => run_move (h1.ev rfl)) ?_
                refine Tr.val (wn rfl) rfl (fun _ _ h1 h2 => run_move (h1.ev rfl)) ?_
                refine Tr.val (wn rfl) rfl (fun _ _ h1 h2 => run_move (h1.ev rfl)) ?_
                refine Tr.val (wn rfl) rfl (fun _ _ h1 h2 => run_move (h1.ev rfl)) ?_
                refine Tr.val (wn rfl) rfl (fun _ _ h1 h2 => run_move (h1.ev rfl)) ?_
                refine Tr.val (wn rfl) rfl (fun _ _ h1 h2 => run_move (h1.ev rfl)) ?_
                obtain ⟨y344, hy344, H⟩ := bnd H
                refine Tr.callM [12] [emp] (U := (Option Addr × Nat)) (fun u => (.slice u.1 (y344).length u.2)) (fun u => SlF u.1 (y344).length u.2) (fun u => [ow u.1 u.2 3 fl_i64 y344]) rfl (pk_cons rfl pk_nil) (fun _ => rfl) (wn rfl) rfl Try.call116 (evl_cons rfl (evl_cons rfl (evl_cons rfl evl_nil))) (fun W hW hp hE => F_shape_line_ok N y340.1 Ay340_0 cy340_0 (hgy340_0.rl.ext (hW.extS hp)) y342.1 Ay342_0 cy342_0 (hgy342_0.rl.ext (hW.extS hp)) p2 fid2 cap2 hg2 (fun w' he => hf2 w' ((hW.extS hp).trans he)) y344 hy344 hE) ?_
                intro u hu
                obtain ⟨Ay344_0, cy344_0⟩ := u
                have gy344_0 := hu
                have hgy344_0 : SlF Ay344_0 (y344).length cy344_0 := gy344_0 --@phi
                show Tr _ _ (uf _ 121 (.slice Ay344_0 (y344).length cy344_0)) (up _ 12 (ow Ay344_0 cy344_0 3 fl_i64 y344)) _
                refine Tr.build (vs := [(0, (.int .i64 x295)), (1, (.int .i64 (min y340.2 y342.2))), (2, (.slice Ay344_0 (y344).length cy344_0))]) (cs := [(.int .i64 x295), (.int .i64 (min y340.2 y342.2)), (.slice Ay344_0 (y344).length cy344_0)]) (wn rfl) rfl (evs_cons rfl (evs_cons rfl (evs_cons rfl evs_nil))) (by kernel_rfl) ?_
                refine Tr.freeze 12 rfl fun w le347 hz346 => ?_
                replace hl311 := hl311.le le347
                replace hl333 := hl333.le le347
                replace hf2 := fun w' he => hf2 w' (le347.ext.trans he)
                replace hgy340_0 := hgy340_0.le le347
                replace hgy342_0 := hgy342_0.le le347
                replace leB := leB.trans le347
                replace leF_shape_Merge_L3 := leF_shape_Merge_L3.trans le347
                replace leF_shape_Merge_L9 := leF_shape_Merge_L9.trans le347
                replace leF_shape_Merge_L10 := leF_shape_Merge_L10.trans le347
                replace leF_shape_Merge_L11 := leF_shape_Merge_L11.trans le347
                obtain ⟨y348, hy348, H⟩ := bnd H
                refine Tr.callG [2] [ow Al294 cl294 104 fl_TBand l294] (U := (Option Addr × Nat)) (fun u => (.slice u.1 (y348).length u.2)) (fun O W u => SlF u.1 (y348).length u.2) (fun u => [ow u.1 u.2 104 fl_TBand y348]) rfl (pk_cons rfl pk_nil) (fun _ => rfl) (wn rfl) rfl Try.call76 (evl_cons rfl (evl_cons rfl evl_nil)) (fun W hW hp hE => F_shape_Set__push_ok l294 Al294 cl294 (TBand.mk x295 (min y340.2 y342.2) y344) Ay344_0 cy344_0 (hz346.extO (hW.extS hp)) y348 hy348 hE) ?_
                intro w u le349 hu
                obtain ⟨Ay348_0, cy348_0⟩ := u
                have gy348_0 := hu
                replace hl311 := hl311.le le349
                replace hl333 := hl333.le le349
                replace hf2 := fun w' he => hf2 w' (le349.ext.trans he)
                replace hgy340_0 := hgy340_0.le le349
                replace hgy342_0 := hgy342_0.le le349
                replace hz346 := hz346.le le349
                replace leB := leB.trans le349
                replace leF_shape_Merge_L3 := leF_shape_Merge_L3.trans le349
                replace leF_shape_Merge_L9 := leF_shape_Merge_L9.trans le349
                replace leF_shape_Merge_L10 := leF_shape_Merge_L10.trans le349
                replace leF_shape_Merge_L11 := leF_shape_Merge_L11.trans le349
                have hgy348_0 : SlF Ay348_0 (y348).length cy348_0 := gy348_0 --@phi
                show Tr _ _ (uf _ 123 (.slice Ay348_0 (y348).length cy348_0)) (up _ 2 (ow Ay348_0 cy348_0 104 fl_TBand y348)) _
                refine Tr.val (wn rfl) rfl (fun _ _ h1 h2 => run_assign (h1.ev rfl)) ?_
                refine Tr.nil (Tr.normThen ?_)
                refine Tr.region ?_
                refine Tr.val (wn rfl) rfl (fun _ _ h1 h2 => run_move (h1.ev rfl)) ?_
                refine Tr.val (wn rfl) rfl (fun _ _ h1 h2 => run_assign (h1.ev rfl)) ?_
                refine Tr.nil (Tr.normBlock ?_)
                exact Tr.backThen leF_shape_Merge_L9 (l311, l333, y348, (min y340.2 y342.2), Al311, cl311, Al333, cl333, Ay348_0, cy348_0) ⟨H, hl311, hl333, hgy348_0⟩ (.cons rfl (.cons rfl (.cons rfl (.cons rfl (.cons rfl (.cons rfl .nil)))))) (.cons rfl .nil)
      · refine Tr.exit (Tr.exitThen (Tr.exitThen (Tr.exitBlock (Tr.normThen ?_))))
        refine Tr.seq ?_
        refine Tr.region ?_
        refine Tr.val (wn rfl) rfl (fun _ _ h1 h2 => run_move (h1.ev rfl)) ?_
        refine Tr.val (wn rfl) rfl (fun _ _ h1 h2 => run_assign (h1.ev rfl)) ?_
        refine Tr.nil (Tr.normThen ?_)
        refine Tr.ret ?_
        obtain rfl := Option.some.inj H
        exact Tr.out (m := [(.slice Al294 (l294).length cl294)]) [] (res_tmp rfl res_nil) (fun W hW => ⟨w, (Al294, cl294), leB, rfl, hl294, hW.pick (ks := [2]) (by decide) (pk_cons rfl pk_nil)⟩)

theorem F_shape_Set__Less_1_ok {w : Bs} (p0 : Bool) (p1 : Bool) (r : Bool) (H : F_shape_Set__Less_1 p0 p1 = some r) (hE : HF w w.W E0) : Calls Try.prog 92 [(.bool p0), (.bool p1)].toArray w.W fun e W' => e = .returned (.bool r) ∧ HF w W' E0 := by
  unfold F_shape_Set__Less_1 at H
  have leB := Bs.Le.refl w
  refine Tr.enter (n := 10) Try.func92 rfl rfl rfl hE ?_
  refine Tr.seq ?_
  refine Tr.region ?_
  refine Tr.val (wn rfl) rfl (fun _ _ h1 h2 => run_assign (h1.ev rfl)) ?_
  refine Tr.nil (Tr.normThen ?_)
  refine Tr.seq ?_
  refine Tr.region ?_
  refine Tr.val (wn rfl) rfl (fun _ _ h1 h2 => run_move (h1.ev rfl)) ?_
  refine Tr.val (wn rfl) rfl (fun _ _ h1 h2 => run_move (h1.ev rfl)) ?_
  refine Tr.mid0 3 [(9, (.bool (p0 && (!p1))))] [] ?_ ?_
  · cases hg99 : p0
    · refine Tr.pass rfl rfl rfl rfl rfl (by decide) ?_
      refine Tr.pass rfl rfl rfl rfl rfl (by decide) ?_
      refine Tr.val (wn rfl) rfl (fun _ _ h1 h2 => run_pickF (h1.ev rfl) (h1.ev rfl)) ?_
      exact Tr.nil (Tr.fin0 (.cons rfl .nil) .nil)
    · refine Tr.val (wg rfl rfl rfl) rfl (fun _ _ h1 h2 => run_move (h1.ev rfl)) ?_
      refine Tr.val (wg rfl rfl rfl) rfl (fun _ _ h1 h2 => run_not (h1.ev rfl)) ?_
      refine Tr.val (wn rfl) rfl (fun _ _ h1 h2 => run_pickT (h1.ev rfl) (h1.ev rfl)) ?_
      exact Tr.nil (Tr.fin0 (.cons rfl .nil) .nil)
  · show Tr _ _ (LF [(9, (.bool (p0 && (!p1))))]) (LE []) _
    refine Tr.val (wn rfl) rfl (fun _ _ h1 h2 => run_assign (h1.ev rfl)) ?_
    refine Tr.nil (Tr.normThen ?_)
    refine Tr.ret ?_
    obtain rfl := Option.some.inj H
    exact Tr.out (m := [(.bool (p0 && (!p1)))]) [] (res_tmp rfl res_nil) (fun W hW => ⟨rfl, hW.low leB⟩)

theorem F_shape_Set__Less_ok (N : Nat) {w : Bs} (p0 : (List TBand)) (Ap0_0 : Option Addr) (cp0_0 : Nat) (hp0_0 : Sl w.O w.W fl_TBand Ap0_0 cp0_0 p0) (p1 : (List TBand)) (Ap1_0 : Option Addr) (cp1_0 : Nat) (hp1_0 : Sl w.O w.W fl_TBand Ap1_0 cp1_0 p1) (r : (List TBand)) (H : F_shape_Set__Less N p0 p1 = some r) (hE : HF w w.W (LEn [emp])) : Calls Try.prog 53 [(.slice Ap0_0 (p0).length cp0_0), (.slice Ap1_0 (p1).length cp1_0)].toArray w.W fun e W' => ∃ (w' : Bs) (u : (Option Addr × Nat)), w.Le w' ∧ e = .returned (.slice u.1 (r).length u.2) ∧ (SlF u.1 (r).length u.2) ∧ HF w' W' (LEn [ow u.1 u.2 104 fl_TBand r]) := by
  unfold F_shape_Set__Less at H
  have leB := Bs.Le.refl w
  refine Tr.enter (n := 8) Try.func53 rfl rfl rfl hE ?_
  refine Tr.seq ?_
  refine Tr.region ?_
  refine Tr.val (wn rfl) rfl (fun _ _ h1 h2 => run_assign (h1.ev rfl)) ?_
  refine Tr.nilOwn 1 104 fl_TBand ?_
  show Tr _ _ (uf _ 4 (.slice none (([] : List TBand)).length 0)) _ _
  refine Tr.nil (Tr.normThen ?_)
  refine Tr.seq ?_
  refine Tr.region ?_
  refine Tr.val (wn rfl) rfl (fun _ _ h1 h2 => run_move (h1.ev rfl)) ?_
  refine Tr.val (wn rfl) rfl (fun _ _ h1 h2 => run_move (h1.ev rfl)) ?_
  obtain ⟨y100, hy100, H⟩ := bnd H
  refine Tr.callG [2] [emp] (U := (Option Addr × Nat)) (fun u => (.slice u.1 (y100).length u.2)) (fun O W u => SlF u.1 (y100).length u.2) (fun u => [ow u.1 u.2 104 fl_TBand y100]) rfl (pk_cons rfl pk_nil) (fun _ => rfl) (wn rfl) rfl Try.call78 (evl_cons rfl (evl_cons rfl (evl_cons rfl evl_nil))) (fun W hW hp hE => F_shape_Merge_ok N p0 Ap0_0 cp0_0 (hp0_0.extO (hW.extS hp)) p1 Ap1_0 cp1_0 (hp1_0.extO (hW.extS hp)) (fun z0 z1 => F_shape_Set__Less_1 z0 z1) 92 [] Try.call92 (fun w' he z0 z1 y hy => F_shape_Set__Less_1_ok z0 z1 y hy (HF.start _)) y100 hy100 hE) ?_
  intro w u le101 hu
  obtain ⟨Ay100_0, cy100_0⟩ := u
  have gy100_0 := hu
  replace hp0_0 := hp0_0.le le101
  replace hp1_0 := hp1_0.le le101
  replace leB := leB.trans le101
  have hgy100_0 : SlF Ay100_0 (y100).length cy100_0 := gy100_0 --@phi
  show Tr _ _ (uf _ 7 (.slice Ay100_0 (y100).length cy100_0)) (up _ 2 (ow Ay100_0 cy100_0 104 fl_TBand y100)) _
  refine Tr.val (wn rfl) rfl (fun _ _ h1 h2 => run_assign (h1.ev rfl)) ?_
  refine Tr.nil (Tr.normThen ?_)
  refine Tr.ret ?_
  obtain rfl := Option.some.inj H
  exact Tr.out (m := [(.slice Ay100_0 (y100).length cy100_0)]) [] (res_tmp rfl res_nil) (fun W hW => ⟨w, (Ay100_0, cy100_0), leB, rfl, hgy100_0, hW.pick (ks := [2]) (by decide) (pk_cons rfl pk_nil)⟩)

theorem F_shape_Set__First_ok {w : Bs} (p0 : (List TBand)) (Ap0_0 : Option Addr) (cp0_0 : Nat) (hp0_0 : Sl w.R w.W fl_TBand Ap0_0 cp0_0 p0) (r : TPoint) (H : F_shape_Set__First p0 = some r) (hE : HF w w.W E0) : Calls Try.prog 54 [(.slice Ap0_0 (p0).length cp0_0)].toArray w.W fun e W' => e = .returned (.agg #[(.int .i64 r.X), (.int .i64 r.Y)]) ∧ HF w W' E0 := by
  unfold F_shape_Set__First at H
  have leB := Bs.Le.refl w
  refine Tr.enter (n := 14) Try.func54 rfl rfl rfl hE ?_
  refine Tr.seq ?_
  refine Tr.region ?_
  refine Tr.alloc 1 (wn rfl) rfl ze_32 fun b100 => ?_
  refine Tr.nil (Tr.normThen ?_)
  refine Tr.seq ?_
  refine Tr.drawTail 10 (by kernel_rfl) (by kernel_rfl) ?_
  refine Tq.val (wn rfl) rfl (fun _ _ h1 h2 => run_move (h1.ev rfl)) ?_
  obtain ⟨x101, hx101, H⟩ := bnd H
  obtain ⟨hx1010, hx1011, hx1012⟩ := idx_some hx101
  obtain ⟨u102, hRu102, hoku102, hcu102⟩ := (hp0_0).el hx1012
  obtain ⟨Au102_0, cu102_0⟩ := u102
  have hoku102_0 := hoku102
  replace hoku102_0 : Sl w.R w.W fl_i64 Au102_0 cu102_0 x101.Xs := hoku102_0
  refine Tq.val (wn rfl) rfl (fun _ _ h1 h2 => run_indexAddr el_65 (h1.ev rfl) hp0_0.form (h1.ev rfl) hx1010 hx1011) ?_
  refine Tq.val (wn rfl) rfl (fun _ _ h1 h2 => run_fieldAddr fo_104_2 (h1.ev rfl)) ?_
  refine Tq.val (wn rfl) rfl (fun _ _ h1 h2 => run_load1 ag_97 (h1.ev rfl) (CellsAt.drop (rdR hRu102 hcu102 h2) 2) rfl) ?_
  obtain ⟨x103, hx103, H⟩ := bnd H
  obtain ⟨hx1030, hx1031, hx1032⟩ := idx_some hx103
  refine Tq.val (wn rfl) rfl (fun _ _ h1 h2 => run_indexAddr el_97 (h1.ev rfl) hoku102_0.form (h1.ev rfl) hx1030 hx1031) ?_
  refine Tq.val (wn rfl) rfl (fun _ _ h1 h2 => run_load1 ag_3 (h1.ev rfl) (rdF ef_i64 hoku102_0 hx1032 h2) rfl) ?_
  refine Tq.val (wn rfl) rfl (fun _ _ h1 h2 => run_move (h1.ev rfl)) ?_
  obtain ⟨x104, hx104, H⟩ := bnd H
  obtain ⟨hx1040, hx1041, hx1042⟩ := idx_some hx104
  obtain ⟨u105, hRu105, hoku105, hcu105⟩ := (hp0_0).el hx1042
  obtain ⟨Au105_0, cu105_0⟩ := u105
  have hoku105_0 := hoku105
  replace hoku105_0 : Sl w.R w.W fl_i64 Au105_0 cu105_0 x104.Xs := hoku105_0
  refine Tq.val (wn rfl) rfl (fun _ _ h1 h2 => run_indexAddr el_65 (h1.ev rfl) hp0_0.form (h1.ev rfl) hx1040 hx1041) ?_
  refine Tq.val (wn rfl) rfl (fun _ _ h1 h2 => run_fieldAddr fo_104_0 (h1.ev rfl)) ?_
  refine Tq.val (wn rfl) rfl (fun _ _ h1 h2 => run_load1 ag_3 (h1.ev rfl) (CellsAt.drop (rdR hRu105 hcu105 h2) 0) rfl) ?_
  refine Tq.nil ?_
  refine Tr.build (vs := [(0, (.int .i64 x103)), (1, (.int .i64 x104.Y0))]) (cs := [(.int .i64 x103), (.int .i64 x104.Y0)]) (wn rfl) rfl (evs_cons rfl (evs_cons rfl evs_nil)) (by kernel_rfl) ?_
  refine Tr.store 1 (cs := [(.int .i64 x103), (.int .i64 x104.Y0)]) [(.int .i64 x103), (.int .i64 x104.Y0)] (wn rfl) rfl rfl rfl rfl sz_32 rfl rfl rfl ?_
  refine Tr.nil (Tr.normThen ?_)
  refine Tr.ret ?_
  obtain rfl := Option.some.inj H
  exact Tr.out (m := [(.agg #[(.int .i64 x103), (.int .i64 x104.Y0)])]) [1] (res_cell rfl rfl ag_32 sz_32 res_nil) (fun W hW => ⟨rfl, hW.low leB⟩)

theorem F_shape_Holes_ok (N : Nat) {w : Bs} (p0 : (List TRect)) (Ap0_0 : Option Addr) (cp0_0 : Nat) (hp0_0 : Sl w.R w.W fl_TRect Ap0_0 cp0_0 p0) (r : ((List (List TRect)) × Int)) (H : F_shape_Holes N p0 = some r) (hE : HF w w.W (LEn [emp])) : Calls Try.prog 26 [(.slice Ap0_0 (p0).length cp0_0)].toArray w.W fun e W' => ∃ (w' : Bs) (u : (Option Addr × Nat)), w.Le w' ∧ e = .returned (.tuple #[(.slice u.1 (r.1).length u.2), (.int .i64 r.2)]) ∧ (SlF u.1 (r.1).length u.2) ∧ HF w' W' (LEn [ow u.1 u.2 22 fl_LTRect r.1]) := by
  unfold F_shape_Holes at H
  have leB := Bs.Le.refl w
  refine Tr.enter (n := 50) Try.func26 rfl rfl rfl hE ?_
  refine Tr.seq ?_
  refine Tr.region ?_
  refine Tr.val (wn rfl) rfl (fun _ _ h1 h2 => run_assign (h1.ev rfl)) ?_
  refine Tr.nilOwn 1 22 fl_LTRect ?_
  show Tr _ _ (uf _ 2 (.slice none (([] : List (List TRect))).length 0)) _ _
  refine Tr.val (wn rfl) rfl (fun _ _ h1 h2 => run_assign (h1.ev rfl)) ?_
  refine Tr.nil (Tr.normThen ?_)
  refine Tr.seq ?_
  refine Tr.seq ?_
  refine Tr.region ?_
  refine Tr.val (wn rfl) rfl (fun _ _ h1 h2 => run_move (h1.ev rfl)) ?_
  obtain ⟨y100, hy100, H⟩ := bnd H
  refine Tr.call0 (r := (.int .i64 y100)) (wn rfl) rfl Try.call18 (evl_cons rfl evl_nil) (fun W hW => F_shape_CheckRegion_ok N p0 Ap0_0 cp0_0 (hp0_0.ext hW.extAll) y100 hy100 (HF.start _)) ?_
  refine Tr.val (wn rfl) rfl (fun _ _ h1 h2 => run_assign (h1.ev rfl)) ?_
  refine Tr.nil (Tr.normThen ?_)
  refine Tr.seq ?_
  refine Tr.region ?_
  refine Tr.val (wn rfl) rfl (fun _ _ h1 h2 => run_move (h1.ev rfl)) ?_
  refine Tr.val (wn rfl) rfl (fun _ _ h1 h2 => run_neq (h1.ev rfl) (h1.ev rfl)) ?_
  refine Tr.val (wn rfl) rfl (fun _ _ h1 h2 => run_move (h1.ev rfl)) ?_
  refine Tr.mid0 4 [(0, (.slice Ap0_0 (p0).length cp0_0)), (4, (.int .i64 y100)), (19, (.bool ((y100 != 0) || ((p0.length : Int) == 0))))] [(1, ow none 0 22 fl_LTRect ([] : List (List TRect)))] ?_ ?_
  · cases hg153 : (y100 != 0)
    · refine Tr.val (wg rfl rfl rfl) rfl (fun _ _ h1 h2 => run_move (h1.ev rfl)) ?_
      refine Tr.val (wg rfl rfl rfl) rfl (fun _ _ h1 h2 => run_len un_22 (h1.ev rfl)) ?_
      refine Tr.val (wg rfl rfl rfl) rfl (fun _ _ h1 h2 => run_eql (h1.ev rfl) (h1.ev rfl)) ?_
      refine Tr.val (wn rfl) rfl (fun _ _ h1 h2 => run_pickF (h1.ev rfl) (h1.ev rfl)) ?_
      exact Tr.nil (Tr.fin0 (.cons rfl (.cons rfl (.cons rfl .nil))) (.cons rfl .nil))
    · refine Tr.pass rfl rfl rfl rfl rfl (by decide) ?_
      refine Tr.pass rfl rfl rfl rfl rfl (by decide) ?_
      refine Tr.pass rfl rfl rfl rfl rfl (by decide) ?_
      refine Tr.val (wn rfl) rfl (fun _ _ h1 h2 => run_pickT (h1.ev rfl) (h1.ev rfl)) ?_
      exact Tr.nil (Tr.fin0 (.cons rfl (.cons rfl (.cons rfl .nil))) (.cons rfl .nil))
  · show Tr _ _ (LF [(0, (.slice Ap0_0 (p0).length cp0_0)), (4, (.int .i64 y100)), (19, (.bool ((y100 != 0) || ((p0.length : Int) == 0))))]) (LE [(1, ow none 0 22 fl_LTRect ([] : List (List TRect)))]) _
    refine Tr.nil (Tr.normThen ?_)
    refine Tr.cond rfl H (fun H => ?_) (fun H => ?_)
    · refine Tr.seq ?_
      refine Tr.region ?_
      refine Tr.val (wn rfl) rfl (fun _ _ h1 h2 => run_move (h1.ev rfl)) ?_
      refine Tr.val (wn rfl) rfl (fun _ _ h1 h2 => run_assign (h1.ev rfl)) ?_
      refine Tr.nilOwn 2 22 fl_LTRect ?_
      show Tr _ _ (uf _ 2 (.slice none (([] : List (List TRect))).length 0)) _ _
      refine Tr.val (wn rfl) rfl (fun _ _ h1 h2 => run_assign (h1.ev rfl)) ?_
      refine Tr.nil (Tr.normThen ?_)
      refine Tr.ret (Tr.retThen ?_)
      obtain rfl := Option.some.inj H
      exact Tr.out (m := [(.slice none (([] : List (List TRect))).length 0), (.int .i64 y100)]) [] (res_tmp rfl (res_tmp rfl res_nil)) (fun W hW => ⟨w, (none, 0), leB, rfl, slf_nil, hW.pick (ks := [2]) (by decide) (pk_cons rfl pk_nil)⟩)
    · refine Tr.skip (Tr.normThen ?_)
      refine Tr.seq ?_
      refine Tr.region ?_
      refine Tr.val (wn rfl) rfl (fun _ _ h1 h2 => run_move (h1.ev rfl)) ?_
      obtain ⟨y101, hy101, H⟩ := bnd H
      refine Tr.callG [3] [emp] (U := (Option Addr × Nat)) (fun u => (.slice u.1 (y101).length u.2)) (fun O W u => SlF u.1 (y101).length u.2) (fun u => [ow u.1 u.2 104 fl_TBand y101]) rfl (pk_cons rfl pk_nil) (fun _ => rfl) (wn rfl) rfl Try.call40 (evl_cons rfl evl_nil) (fun W hW hp hE => F_shape_SetOf_ok N p0 Ap0_0 cp0_0 (hp0_0.ext (hW.extS hp)) y101 hy101 hE) ?_
      intro w u le102 hu
      obtain ⟨Ay101_0, cy101_0⟩ := u
      have gy101_0 := hu
      replace hp0_0 := hp0_0.leR le102
      replace leB := leB.trans le102
      have hgy101_0 : SlF Ay101_0 (y101).length cy101_0 := gy101_0 --@phi
      show Tr _ _ (uf _ 22 (.slice Ay101_0 (y101).length cy101_0)) (up _ 3 (ow Ay101_0 cy101_0 104 fl_TBand y101)) _
      refine Tr.val (wn rfl) rfl (fun _ _ h1 h2 => run_assign (h1.ev rfl)) ?_
      refine Tr.nil (Tr.normThen ?_)
      refine Tr.seq ?_
      refine Tr.region ?_
      refine Tr.val (wn rfl) rfl (fun _ _ h1 h2 => run_move (h1.ev rfl)) ?_
      obtain ⟨y103, hy103, H⟩ := bnd H
      refine Tr.call0 (r := (.agg #[(.int .i64 y103.X0), (.int .i64 y103.Y0), (.int .i64 y103.X1), (.int .i64 y103.Y1)])) (wn rfl) rfl Try.call51 (evl_cons rfl evl_nil) (fun W hW => F_shape_Set__Around_ok y101 Ay101_0 cy101_0 (hW.slCall (k := 3) rfl) y103 hy103 (HF.start _)) ?_
      refine Tr.alloc 4 (wn rfl) rfl ze_29 fun b104 => ?_
      refine Tr.store 4 (cs := [(.int .i64 y103.X0), (.int .i64 y103.Y0), (.int .i64 y103.X1), (.int .i64 y103.Y1)]) [(.int .i64 y103.X0), (.int .i64 y103.Y0), (.int .i64 y103.X1), (.int .i64 y103.Y1)] (wn rfl) rfl rfl rfl rfl sz_29 rfl rfl rfl ?_
      refine Tr.nil (Tr.normThen ?_)
      refine Tr.seq ?_
      refine Tr.region ?_
      refine Tr.val (wn rfl) rfl (fun _ _ h1 h2 => run_loadN (cs := [(.int .i64 y103.X0), (.int .i64 y103.Y0), (.int .i64 y103.X1), (.int .i64 y103.Y1)]) ag_29 sz_29 (h1.ev rfl) (CellsAt.take (rdb h2 (vs := [(.int .i64 y103.X0), (.int .i64 y103.Y0), (.int .i64 y103.X1), (.int .i64 y103.Y1)]) (k := 4) rfl 0) 4) rfl) ?_
      refine Tr.buildSlice 5 (e := 29) (vs := [(0, (.agg #[(.int .i64 y103.X0), (.int .i64 y103.Y0), (.int .i64 y103.X1), (.int .i64 y103.Y1)]))]) (cs := [(.int .i64 y103.X0), (.int .i64 y103.Y0), (.int .i64 y103.X1), (.int .i64 y103.Y1)]) (wn rfl) rfl (evs_cons rfl evs_nil) (by kernel_rfl) fun b105 => ?_
      refine Tr.own 5 fl_TRect [y103] (css := [[(.int .i64 y103.X0), (.int .i64 y103.Y0), (.int .i64 y103.X1), (.int .i64 y103.Y1)]]) rfl (.cons ⟨(), trivial, rfl⟩ .nil) rfl (by decide) (lit_max rfl) ?_
      obtain ⟨y106, hy106, H⟩ := bnd H
      refine Tr.callG [6] [emp] (U := (Option Addr × Nat)) (fun u => (.slice u.1 (y106).length u.2)) (fun O W u => SlF u.1 (y106).length u.2) (fun u => [ow u.1 u.2 104 fl_TBand y106]) rfl (pk_cons rfl pk_nil) (fun _ => rfl) (wn rfl) rfl Try.call40 (evl_cons rfl evl_nil) (fun W hW hp hE => F_shape_SetOf_ok N [y103] (some ⟨b105, 0, none⟩) 1 (hW.slS (k := 5) rfl hp rfl) y106 hy106 hE) ?_
      intro w u le107 hu
      obtain ⟨Ay106_0, cy106_0⟩ := u
      have gy106_0 := hu
      replace hp0_0 := hp0_0.leR le107
      replace leB := leB.trans le107
      have hgy106_0 : SlF Ay106_0 (y106).length cy106_0 := gy106_0 --@phi
      show Tr _ _ (uf _ 27 (.slice Ay106_0 (y106).length cy106_0)) (up _ 6 (ow Ay106_0 cy106_0 104 fl_TBand y106)) _
      obtain ⟨y108, hy108, H⟩ := bnd H
      refine Tr.callG [7] [emp] (U := (Option Addr × Nat)) (fun u => (.slice u.1 (y108).length u.2)) (fun O W u => SlF u.1 (y108).length u.2) (fun u => [ow u.1 u.2 104 fl_TBand y108]) rfl (pk_cons rfl pk_nil) (fun _ => rfl) (wn rfl) rfl Try.call52 (evl_cons rfl (evl_cons rfl evl_nil)) (fun W hW hp hE => F_shape_Set__Wide_ok N y106 Ay106_0 cy106_0 (hW.slS (k := 6) rfl hp rfl) 1 y108 hy108 hE) ?_
      intro w u le109 hu
      obtain ⟨Ay108_0, cy108_0⟩ := u
      have gy108_0 := hu
      replace hp0_0 := hp0_0.leR le109
      replace leB := leB.trans le109
      have hgy108_0 : SlF Ay108_0 (y108).length cy108_0 := gy108_0 --@phi
      show Tr _ _ (uf _ 28 (.slice Ay108_0 (y108).length cy108_0)) (up _ 7 (ow Ay108_0 cy108_0 104 fl_TBand y108)) _
      refine Tr.val (wn rfl) rfl (fun _ _ h1 h2 => run_assign (h1.ev rfl)) ?_
      refine Tr.nil (Tr.normThen ?_)
      refine Tr.seq ?_
      refine Tr.region ?_
      refine Tr.val (wn rfl) rfl (fun _ _ h1 h2 => run_assign (h1.ev rfl)) ?_
      refine Tr.nilOwn 8 22 fl_LTRect ?_
      show Tr _ _ (uf _ 8 (.slice none (([] : List (List TRect))).length 0)) _ _
      refine Tr.nil (Tr.normThen ?_)
      refine Tr.seq ?_
      refine Tr.seq ?_
      refine Tr.region ?_
      refine Tr.val (wn rfl) rfl (fun _ _ h1 h2 => run_move (h1.ev rfl)) ?_
      refine Tr.val (wn rfl) rfl (fun _ _ h1 h2 => run_move (h1.ev rfl)) ?_
      refine Tr.freeze 7 rfl fun w le111 hz110 => ?_
      replace hp0_0 := hp0_0.leR le111
      replace leB := leB.trans le111
      refine Tr.freeze 3 rfl fun w le113 hz112 => ?_
      replace hp0_0 := hp0_0.leR le113
      replace hz110 := hz110.le le113
      replace leB := leB.trans le113
      obtain ⟨y114, hy114, H⟩ := bnd H
      refine Tr.callG [9] [emp] (U := (Option Addr × Nat)) (fun u => (.slice u.1 (y114).length u.2)) (fun O W u => SlF u.1 (y114).length u.2) (fun u => [ow u.1 u.2 104 fl_TBand y114]) rfl (pk_cons rfl pk_nil) (fun _ => rfl) (wn rfl) rfl Try.call53 (evl_cons rfl (evl_cons rfl evl_nil)) (fun W hW hp hE => F_shape_Set__Less_ok N y108 Ay108_0 cy108_0 (hz110.extO (hW.extS hp)) y101 Ay101_0 cy101_0 (hz112.extO (hW.extS hp)) y114 hy114 hE) ?_
      intro w u le115 hu
      obtain ⟨Ay114_0, cy114_0⟩ := u
      have gy114_0 := hu
      replace hp0_0 := hp0_0.leR le115
      replace hz112 := hz112.le le115
      replace hz110 := hz110.le le115
      replace leB := leB.trans le115
      have hgy114_0 : SlF Ay114_0 (y114).length cy114_0 := gy114_0 --@phi
      show Tr _ _ (uf _ 31 (.slice Ay114_0 (y114).length cy114_0)) (up _ 9 (ow Ay114_0 cy114_0 104 fl_TBand y114)) _
      obtain ⟨y116, hy116, H⟩ := bnd H
      refine Tr.callG [10] [emp] (U := (Option Addr × Nat)) (fun u => (.slice u.1 (y116).length u.2)) (fun O W u => SlF u.1 (y116).length u.2) (fun u => [ow u.1 u.2 65 fl_LTBand y116]) rfl (pk_cons rfl pk_nil) (fun _ => rfl) (wn rfl) rfl Try.call47 (evl_cons rfl evl_nil) (fun W hW hp hE => F_shape_Set__Parts_ok N y114 Ay114_0 cy114_0 (hW.slS (k := 9) rfl hp rfl) y116 hy116 hE) ?_
      intro w u le117 hu
      obtain ⟨Ay116_0, cy116_0⟩ := u
      have gy116_0 := hu
      replace hp0_0 := hp0_0.leR le117
      replace hz112 := hz112.le le117
      replace hz110 := hz110.le le117
      replace leB := leB.trans le117
      have hgy116_0 : SlF Ay116_0 (y116).length cy116_0 := gy116_0 --@phi
      show Tr _ _ (uf _ 32 (.slice Ay116_0 (y116).length cy116_0)) (up _ 10 (ow Ay116_0 cy116_0 65 fl_LTBand y116)) _
      refine Tr.val (wn rfl) rfl (fun _ _ h1 h2 => run_len un_75 (h1.ev rfl)) ?_
      refine Tr.val (wn rfl) rfl (fun _ _ h1 h2 => run_move (h1.ev rfl)) ?_
      refine Tr.nil (Tr.normThen ?_)
      refine Tr.block ?_
      refine Tr.loop (σ := (List (List TBand)) × Nat × (List (List TRect)) × (Option Addr) × Nat) (fun m w s => m = s.1.length + 1 ∧ s.1 = List.drop s.2.1 y116 ∧ s.2.1 ≤ y116.length ∧ F_shape_Holes_L1 N y108 s.1 s.2.1 s.2.2.1 = some r ∧ SlF s.2.2.2.1 (s.2.2.1).length s.2.2.2.2) (fun s => [(7, (.slice Ay108_0 (y108).length cy108_0)), (8, (.slice s.2.2.2.1 (s.2.2.1).length s.2.2.2.2)), (32, (.slice Ay116_0 (y116).length cy116_0)), (33, (.int .i64 (y116.length : Int))), (34, (.int .i64 (s.2.1 : Int)))]) (fun s => [(8, ow s.2.2.2.1 s.2.2.2.2 22 fl_LTRect s.2.2.1), (10, ow Ay116_0 cy116_0 65 fl_LTBand y116)]) (y116.length + 1) (y116, 0, ([] : List (List TRect)), none, 0) ⟨rfl, rfl, Nat.zero_le _, H, slf_nil⟩ (.cons rfl (.cons rfl (.cons rfl (.cons rfl (.cons rfl .nil))))) (.cons rfl (.cons rfl .nil)) (fun _ _ h => absurd h.1 (by simp)) ?_
      intro w leF_shape_Holes_L1 m s hs
      obtain ⟨restF_shape_Holes_L1, iF_shape_Holes_L1, l144, Al144, cl144⟩ := s
      obtain ⟨hmF_shape_Holes_L1, hdF_shape_Holes_L1, hiF_shape_Holes_L1, H, hl144⟩ := hs
      replace hdF_shape_Holes_L1 : restF_shape_Holes_L1 = List.drop iF_shape_Holes_L1 y116 := hdF_shape_Holes_L1
      replace H : F_shape_Holes_L1 N y108 restF_shape_Holes_L1 iF_shape_Holes_L1 l144 = some r := H
      replace hmF_shape_Holes_L1 : m + 1 = restF_shape_Holes_L1.length + 1 := hmF_shape_Holes_L1
      replace hz110 := hz110.le leF_shape_Holes_L1
      replace leB := leB.trans leF_shape_Holes_L1
      replace hl144 : SlF Al144 (l144).length cl144 := hl144
      obtain rfl : m = restF_shape_Holes_L1.length := by omega
      clear hmF_shape_Holes_L1
      show Tr _ _ (LF [(7, (.slice Ay108_0 (y108).length cy108_0)), (8, (.slice Al144 (l144).length cl144)), (32, (.slice Ay116_0 (y116).length cy116_0)), (33, (.int .i64 (y116.length : Int))), (34, (.int .i64 (iF_shape_Holes_L1 : Int)))]) (LE [(8, ow Al144 cl144 22 fl_LTRect l144), (10, ow Ay116_0 cy116_0 65 fl_LTBand y116)]) _
      cases restF_shape_Holes_L1 with
      | nil =>
        rw [F_shape_Holes_L1.eq_1] at H
        refine Tr.seq ?_
        refine Tr.region ?_
        refine Tr.val (wn rfl) rfl (fun _ _ h1 h2 => run_lss (h1.ev rfl) (h1.ev rfl)) ?_
        refine Tr.nil (Tr.normThen ?_)
        refine Tr.seq ?_
        refine Tr.condF rfl (range_nil hdF_shape_Holes_L1) ?_
        refine Tr.exit (Tr.exitThen (Tr.exitThen (Tr.exitBlock (Tr.normThen ?_))))
        refine Tr.seq ?_
        refine Tr.region ?_
        refine Tr.val (wn rfl) rfl (fun _ _ h1 h2 => run_move (h1.ev rfl)) ?_
        refine Tr.val (wn rfl) rfl (fun _ _ h1 h2 => run_assign (h1.ev rfl)) ?_
        refine Tr.val (wn rfl) rfl (fun _ _ h1 h2 => run_assign (h1.ev rfl)) ?_
        refine Tr.nil (Tr.normThen ?_)
        refine Tr.ret ?_
        obtain rfl := Option.some.inj H
        exact Tr.out (m := [(.slice Al144 (l144).length cl144), (.int .i64 0)]) [] (res_tmp rfl (res_tmp rfl res_nil)) (fun W hW => ⟨w, (Al144, cl144), leB, rfl, hl144, hW.pick (ks := [8]) (by decide) (pk_cons rfl pk_nil)⟩)
      | cons xF_shape_Holes_L1 restF_shape_Holes_L1 =>
        rw [F_shape_Holes_L1.eq_2] at H
        refine Tr.seq ?_
        refine Tr.region ?_
        refine Tr.val (wn rfl) rfl (fun _ _ h1 h2 => run_lss (h1.ev rfl) (h1.ev rfl)) ?_
        refine Tr.nil (Tr.normThen ?_)
        refine Tr.seq ?_
        refine Tr.condT rfl (range_on hdF_shape_Holes_L1) ?_
        refine Tr.skip (Tr.normThen ?_)
        refine Tr.seq ?_
        refine Tr.block ?_
        refine Tr.seq ?_
        refine Tr.region ?_
        refine Tr.val (wn rfl) rfl (fun _ _ h1 h2 => run_indexAddr el_75 (h1.ev rfl) hgy116_0 (h1.ev rfl) (Int.natCast_nonneg _) (range_lt hdF_shape_Holes_L1)) ?_
        refine Tr.valE (U := (fl_LTBand).Ad) (fun u => (fl_LTBand).ok w.O w.W u xF_shape_Holes_L1) (fun u => (.slice u.1 (xF_shape_Holes_L1).length u.2)) (wn rfl) rfl (ldN (κ := 10) (t := fl_LTBand) (V := fun u => (.slice u.1 (xF_shape_Holes_L1).length u.2)) rfl (range_at hdF_shape_Holes_L1) (fun _ _ u h1 hc => run_load1 ag_65 (h1.ev rfl) hc rfl)) ?_
        intro u145 hoku145
        obtain ⟨Au145_0, cu145_0⟩ := u145
        have hoku145_0 := hoku145
        replace hoku145_0 : Sl w.O w.W fl_TBand Au145_0 cu145_0 xF_shape_Holes_L1 := hoku145_0
        show Tr _ _ (uf _ 37 (.slice Au145_0 (xF_shape_Holes_L1).length cu145_0)) _ _
        refine Tr.val (wn rfl) rfl (fun _ _ h1 h2 => run_assign (h1.ev rfl)) ?_
        refine Tr.nil (Tr.normThen ?_)
        refine Tr.seq ?_
        refine Tr.region ?_
        refine Tr.val (wn rfl) rfl (fun _ _ h1 h2 => run_move (h1.ev rfl)) ?_
        obtain ⟨y146, hy146, H⟩ := bnd H
        refine Tr.call0 (r := (.agg #[(.int .i64 y146.X), (.int .i64 y146.Y)])) (wn rfl) rfl Try.call54 (evl_cons rfl evl_nil) (fun W hW => F_shape_Set__First_ok xF_shape_Holes_L1 Au145_0 cu145_0 (hoku145_0.rl.ext hW.extAll) y146 hy146 (HF.start _)) ?_
        refine Tr.val (wn rfl) rfl (fun _ _ h1 h2 => run_move (h1.ev rfl)) ?_
        obtain ⟨y147, hy147, H⟩ := bnd H
        refine Tr.call0 (r := (.agg #[(.int .i64 y147.X), (.int .i64 y147.Y)])) (wn rfl) rfl Try.call54 (evl_cons rfl evl_nil) (fun W hW => F_shape_Set__First_ok y108 Ay108_0 cy108_0 (hz110.rl.ext hW.extAll) y147 hy147 (HF.start _)) ?_
        refine Tr.val (wn rfl) rfl (fun _ _ h1 h2 => run_neq_32 y146 y147 (h1.ev rfl) (h1.ev rfl)) ?_
        refine Tr.nil (Tr.normThen ?_)
        refine Tr.cond rfl H (fun H => ?_) (fun H => ?_)
        · refine Tr.region ?_
          refine Tr.val (wn rfl) rfl (fun _ _ h1 h2 => run_move (h1.ev rfl)) ?_
          refine Tr.val (wn rfl) rfl (fun _ _ h1 h2 => run_move (h1.ev rfl)) ?_
          obtain ⟨y148, hy148, H⟩ := bnd H
          refine Tr.callM [15] [emp] (U := (Option Addr × Nat)) (fun u => (.slice u.1 (y148).length u.2)) (fun u => SlF u.1 (y148).length u.2) (fun u => [ow u.1 u.2 29 fl_TRect y148]) rfl (pk_cons rfl pk_nil) (fun _ => rfl) (wn rfl) rfl Try.call41 (evl_cons rfl evl_nil) (fun W hW hp hE => F_shape_Set__Rects_ok N xF_shape_Holes_L1 Au145_0 cu145_0 (hoku145_0.rl.ext (hW.extS hp)) y148 hy148 hE) ?_
          intro u hu
          obtain ⟨Ay148_0, cy148_0⟩ := u
          have gy148_0 := hu
          have hgy148_0 : SlF Ay148_0 (y148).length cy148_0 := gy148_0 --@phi
          show Tr _ _ (uf _ 45 (.slice Ay148_0 (y148).length cy148_0)) (up _ 15 (ow Ay148_0 cy148_0 29 fl_TRect y148)) _
          refine Tr.freeze 15 rfl fun w le151 hz150 => ?_
          replace hz110 := hz110.le le151
          replace hoku145_0 := hoku145_0.le le151
          replace leB := leB.trans le151
          replace leF_shape_Holes_L1 := leF_shape_Holes_L1.trans le151
          refine Tr.buildSlice 16 (e := 22) (vs := [(0, (.slice Ay148_0 (y148).length cy148_0))]) (cs := [(.slice Ay148_0 (y148).length cy148_0)]) (wn rfl) rfl (evs_cons rfl evs_nil) (by kernel_rfl) fun b152 => ?_
          obtain ⟨l153, hl153, H⟩ := bnd H
          refine Tr.append 8 (t := fl_LTRect) (l := l144) (l2 := [y148]) (wn rfl) rfl rfl rfl rfl (fun W hW => ⟨[[(.slice Ay148_0 (y148).length cy148_0)]], (.cons ⟨(Ay148_0, cy148_0), hz150, rfl⟩ .nil), rdb hW (vs := [(.slice Ay148_0 (y148).length cy148_0)]) (k := 16) rfl 0⟩) un_40 sz_22 zl_22 (by decide) by_22 rfl hl153 fun Al153 cl153 hAl153 => ?_
          refine Tr.val (wn rfl) rfl (fun _ _ h1 h2 => run_assign (h1.ev rfl)) ?_
          refine Tr.nil (Tr.normBlock (Tr.normThen ?_))
          refine Tr.region ?_
          refine Tr.val (wn rfl) rfl (fun _ _ h1 h2 => run_add (h1.ev rfl) (h1.ev rfl)) ?_
          refine Tr.val (wn rfl) rfl (fun _ _ h1 h2 => run_move (h1.ev rfl)) ?_
          refine Tr.nil ?_
          exact Tr.backThen leF_shape_Holes_L1 (restF_shape_Holes_L1, (iF_shape_Holes_L1 + 1), l153, Al153, cl153) ⟨rfl, range_tl hdF_shape_Holes_L1, range_lt hdF_shape_Holes_L1, H, hAl153⟩ (.cons rfl (.cons rfl (.cons rfl (.cons rfl (.cons (congrArg (fun z => some (Value.int .i64 z)) (range_up hdF_shape_Holes_L1 hgy116_0)) .nil))))) (.cons rfl (.cons rfl .nil))
        · refine Tr.skip (Tr.normBlock (Tr.normThen ?_))
          refine Tr.region ?_
          refine Tr.val (wn rfl) rfl (fun _ _ h1 h2 => run_add (h1.ev rfl) (h1.ev rfl)) ?_
          refine Tr.val (wn rfl) rfl (fun _ _ h1 h2 => run_move (h1.ev rfl)) ?_
          refine Tr.nil ?_
          exact Tr.backThen leF_shape_Holes_L1 (restF_shape_Holes_L1, (iF_shape_Holes_L1 + 1), l144, Al144, cl144) ⟨rfl, range_tl hdF_shape_Holes_L1, range_lt hdF_shape_Holes_L1, H, hl144⟩ (.cons rfl (.cons rfl (.cons rfl (.cons rfl (.cons (congrArg (fun z => some (Value.int .i64 z)) (range_up hdF_shape_Holes_L1 hgy116_0)) .nil))))) (.cons rfl (.cons rfl .nil))

theorem F_etchhouselaw1_area_ok (N : Nat) {w : Bs} (p0 : (List TRect)) (Ap0_0 : Option Addr) (cp0_0 : Nat) (hp0_0 : Sl w.R w.W fl_TRect Ap0_0 cp0_0 p0) (r : Int) (H : F_etchhouselaw1_area N p0 = some r) (hE : HF w w.W E0) : Calls Try.prog 23 [(.slice Ap0_0 (p0).length cp0_0)].toArray w.W fun e W' => e = .returned (.int .i64 r) ∧ HF w W' E0 := by
  unfold F_etchhouselaw1_area at H
  have leB := Bs.Le.refl w
  refine Tr.enter (n := 13) Try.func23 rfl rfl rfl hE ?_
  refine Tr.seq ?_
  refine Tr.region ?_
  refine Tr.val (wn rfl) rfl (fun _ _ h1 h2 => run_assign (h1.ev rfl)) ?_
  refine Tr.nil (Tr.normThen ?_)
  refine Tr.seq ?_
  refine Tr.region ?_
  refine Tr.val (wn rfl) rfl (fun _ _ h1 h2 => run_move (h1.ev rfl)) ?_
  obtain ⟨y100, hy100, H⟩ := bnd H
  refine Tr.call0 (r := (.tuple #[(.int .i64 y100.1), (.int .i64 y100.2)])) (wn rfl) rfl Try.call36 (evl_cons rfl evl_nil) (fun W hW => F_shape_Area_ok N p0 Ap0_0 cp0_0 (hp0_0.ext hW.extAll) y100 hy100 (HF.start _)) ?_
  refine Tr.val (wn rfl) rfl (fun _ _ h1 h2 => run_move (h1.ev rfl)) ?_
  refine Tr.val (wn rfl) rfl (fun _ _ h1 h2 => run_extract (h1.ev rfl) rfl) ?_
  refine Tr.val (wn rfl) rfl (fun _ _ h1 h2 => run_extract (h1.ev rfl) rfl) ?_
  refine Tr.val (wn rfl) rfl (fun _ _ h1 h2 => run_assign (h1.ev rfl)) ?_
  refine Tr.val (wn rfl) rfl (fun _ _ h1 h2 => run_assign (h1.ev rfl)) ?_
  refine Tr.nil (Tr.normThen ?_)
  refine Tr.seq ?_
  refine Tr.seq ?_
  refine Tr.region ?_
  refine Tr.val (wn rfl) rfl (fun _ _ h1 h2 => run_move (h1.ev rfl)) ?_
  refine Tr.val (wn rfl) rfl (fun _ _ h1 h2 => run_neq (h1.ev rfl) (h1.ev rfl)) ?_
  refine Tr.nil (Tr.normThen ?_)
  refine Tr.cond rfl H (fun H => ?_) (fun H => ?_)
  · refine Tr.seq ?_
    refine Tr.region ?_
    refine Tr.val (wn rfl) rfl (fun _ _ h1 h2 => run_assign (h1.ev rfl)) ?_
    refine Tr.nil (Tr.normThen ?_)
    refine Tr.ret (Tr.retThen ?_)
    obtain rfl := Option.some.inj H
    exact Tr.out (m := [(.int .i64 (-1))]) [] (res_tmp rfl res_nil) (fun W hW => ⟨rfl, hW.low leB⟩)
  · refine Tr.skip (Tr.normThen ?_)
    refine Tr.seq ?_
    refine Tr.region ?_
    refine Tr.val (wn rfl) rfl (fun _ _ h1 h2 => run_move (h1.ev rfl)) ?_
    refine Tr.val (wn rfl) rfl (fun _ _ h1 h2 => run_assign (h1.ev rfl)) ?_
    refine Tr.nil (Tr.normThen ?_)
    refine Tr.ret ?_
    obtain rfl := Option.some.inj H
    exact Tr.out (m := [(.int .i64 y100.1)]) [] (res_tmp rfl res_nil) (fun W hW => ⟨rfl, hW.low leB⟩)

theorem F_etchhouselaw1_TurnedRegionsKeep_ok (N : Nat) {w : Bs} (p0 : (List TRect)) (Ap0_0 : Option Addr) (cp0_0 : Nat) (hp0_0 : Sl w.R w.W fl_TRect Ap0_0 cp0_0 p0) (p1 : TTurn) (r : Bool) (H : F_etchhouselaw1_TurnedRegionsKeep N p0 p1 = some r) (hE : HF w w.W E0) : Calls Try.prog 9 [(.slice Ap0_0 (p0).length cp0_0), (.agg #[(.bool p1.Flip), (.int .i64 p1.Quarters), (.int .i64 p1.At.X), (.int .i64 p1.At.Y)])].toArray w.W fun e W' => e = .returned (.bool r) ∧ HF w W' E0 := by
  unfold F_etchhouselaw1_TurnedRegionsKeep at H
  have leB := Bs.Le.refl w
  refine Tr.enter (n := 114) Try.func9 rfl rfl rfl hE ?_
  refine Tr.seq ?_
  refine Tr.region ?_
  refine Tr.box 1 (cs := [(.bool p1.Flip), (.int .i64 p1.Quarters), (.int .i64 p1.At.X), (.int .i64 p1.At.Y)]) (wn rfl) rfl rfl rfl fun b100 => ?_
  refine Tr.val (wn rfl) rfl (fun _ _ h1 h2 => run_assign (h1.ev rfl)) ?_
  refine Tr.nil (Tr.normThen ?_)
  refine Tr.seq ?_
  refine Tr.region ?_
  refine Tr.val (wn rfl) rfl (fun _ _ h1 h2 => run_move (h1.ev rfl)) ?_
  refine Tr.val (wn rfl) rfl (fun _ _ h1 h2 => run_loadN (cs := [(.bool p1.Flip), (.int .i64 p1.Quarters), (.int .i64 p1.At.X), (.int .i64 p1.At.Y)]) ag_51 sz_51 (h1.ev rfl) (CellsAt.take (rdb h2 (vs := [(.bool p1.Flip), (.int .i64 p1.Quarters), (.int .i64 p1.At.X), (.int .i64 p1.At.Y)]) (k := 1) rfl 0) 4) rfl) ?_
  obtain ⟨y101, hy101, H⟩ := bnd H
  refine Tr.callM [2] [emp] (U := (Option Addr × Nat)) (fun u => (.tuple #[(.slice u.1 (y101.1).length u.2), (.int .i64 y101.2)])) (fun u => SlF u.1 (y101.1).length u.2) (fun u => [ow u.1 u.2 29 fl_TRect y101.1]) rfl (pk_cons rfl pk_nil) (fun _ => rfl) (wn rfl) rfl Try.call30 (evl_cons rfl (evl_cons rfl evl_nil)) (fun W hW hp hE => F_shape_TurnedRegion_ok N p0 Ap0_0 cp0_0 (hp0_0.ext (hW.extS hp)) p1 y101 hy101 hE) ?_
  intro u hu
  obtain ⟨Ay101_0, cy101_0⟩ := u
  have gy101_0 := hu
  have hgy101_0 : SlF Ay101_0 (y101.1).length cy101_0 := gy101_0 --@phi
  show Tr _ _ (uf _ 21 (.tuple #[(.slice Ay101_0 (y101.1).length cy101_0), (.int .i64 y101.2)])) (up _ 2 (ow Ay101_0 cy101_0 29 fl_TRect y101.1)) _
  refine Tr.val (wn rfl) rfl (fun _ _ h1 h2 => run_move (h1.ev rfl)) ?_
  refine Tr.val (wn rfl) rfl (fun _ _ h1 h2 => run_extract (h1.ev rfl) rfl) ?_
  refine Tr.val (wn rfl) rfl (fun _ _ h1 h2 => run_extract (h1.ev rfl) rfl) ?_
  refine Tr.val (wn rfl) rfl (fun _ _ h1 h2 => run_assign (h1.ev rfl)) ?_
  refine Tr.val (wn rfl) rfl (fun _ _ h1 h2 => run_assign (h1.ev rfl)) ?_
  refine Tr.nil (Tr.normThen ?_)
  refine Tr.seq ?_
  refine Tr.seq ?_
  refine Tr.region ?_
  refine Tr.val (wn rfl) rfl (fun _ _ h1 h2 => run_move (h1.ev rfl)) ?_
  refine Tr.val (wn rfl) rfl (fun _ _ h1 h2 => run_neq (h1.ev rfl) (h1.ev rfl)) ?_
  refine Tr.nil (Tr.normThen ?_)
  refine Tr.cond rfl H (fun H => ?_) (fun H => ?_)
  · refine Tr.seq ?_
    refine Tr.region ?_
    refine Tr.val (wn rfl) rfl (fun _ _ h1 h2 => run_move (h1.ev rfl)) ?_
    refine Tr.val (wn rfl) rfl (fun _ _ h1 h2 => run_len un_22 (h1.ev rfl)) ?_
    refine Tr.val (wn rfl) rfl (fun _ _ h1 h2 => run_eql (h1.ev rfl) (h1.ev rfl)) ?_
    refine Tr.val (wn rfl) rfl (fun _ _ h1 h2 => run_move (h1.ev rfl)) ?_
    obtain ⟨g104, hg104, H⟩ := bnd H
    refine Tr.mid0 2 [(31, (.bool g104))] [(1, bx b100 #[(.bool p1.Flip), (.int .i64 p1.Quarters), (.int .i64 p1.At.X), (.int .i64 p1.At.Y)] 51), (2, ow Ay101_0 cy101_0 29 fl_TRect y101.1)] ?_ ?_
    · cases hg105 : ((y101.1.length : Int) == 0)
      · rw [hg105] at hg104
        rw [if_neg (by decide)] at hg104
        have H := hg104
        obtain rfl := Option.some.inj H
        refine Tr.pass rfl rfl rfl rfl rfl (by decide) ?_
        refine Tr.val (wn rfl) rfl (fun _ _ h1 h2 => run_pickF (h1.ev rfl) (h1.ev rfl)) ?_
        exact Tr.nil (Tr.fin0 (.cons rfl .nil) (.cons rfl (.cons rfl .nil)))
      · rw [hg105] at hg104
        rw [if_pos rfl] at hg104
        have H := hg104
        obtain ⟨y105, hy105, H⟩ := bnd H
        refine Tr.call0 (r := (.bool y105)) (wg rfl rfl rfl) rfl Try.call12 evl_nil (fun W hW => F_etchhouselaw1_awake_ok N y105 hy105 (HF.start _)) ?_
        refine Tr.val (wn rfl) rfl (fun _ _ h1 h2 => run_pickT (h1.ev rfl) (h1.ev rfl)) ?_
        obtain rfl := Option.some.inj H
        exact Tr.nil (Tr.fin0 (.cons rfl .nil) (.cons rfl (.cons rfl .nil)))
    · show Tr _ _ (LF [(31, (.bool g104))]) (LE [(1, bx b100 #[(.bool p1.Flip), (.int .i64 p1.Quarters), (.int .i64 p1.At.X), (.int .i64 p1.At.Y)] 51), (2, ow Ay101_0 cy101_0 29 fl_TRect y101.1)]) _
      refine Tr.val (wn rfl) rfl (fun _ _ h1 h2 => run_assign (h1.ev rfl)) ?_
      refine Tr.nil (Tr.normThen ?_)
      refine Tr.ret (Tr.retThen ?_)
      obtain rfl := Option.some.inj H
      exact Tr.out (m := [(.bool g104)]) [] (res_tmp rfl res_nil) (fun W hW => ⟨rfl, hW.low leB⟩)
  · refine Tr.skip (Tr.normThen ?_)
    refine Tr.seq ?_
    refine Tr.region ?_
    refine Tr.val (wn rfl) rfl (fun _ _ h1 h2 => run_loadN (cs := [(.bool p1.Flip), (.int .i64 p1.Quarters), (.int .i64 p1.At.X), (.int .i64 p1.At.Y)]) ag_51 sz_51 (h1.ev rfl) (CellsAt.take (rdb h2 (vs := [(.bool p1.Flip), (.int .i64 p1.Quarters), (.int .i64 p1.At.X), (.int .i64 p1.At.Y)]) (k := 1) rfl 0) 4) rfl) ?_
    obtain ⟨y106, hy106, H⟩ := bnd H
    refine Tr.call0 (r := (.tuple #[(.agg #[(.bool y106.1.Flip), (.int .i64 y106.1.Quarters), (.int .i64 y106.1.At.X), (.int .i64 y106.1.At.Y)]), (.int .i64 y106.2)])) (wn rfl) rfl Try.call31 (evl_cons rfl evl_nil) (fun W hW => F_shape_Back_ok N p1 y106 hy106 (HF.start _)) ?_
    refine Tr.val (wn rfl) rfl (fun _ _ h1 h2 => run_move (h1.ev rfl)) ?_
    refine Tr.val (wn rfl) rfl (fun _ _ h1 h2 => run_extract (h1.ev rfl) rfl) ?_
    refine Tr.val (wn rfl) rfl (fun _ _ h1 h2 => run_extract (h1.ev rfl) rfl) ?_
    refine Tr.alloc 3 (wn rfl) rfl ze_51 fun b107 => ?_
    refine Tr.store 3 (cs := [(.bool y106.1.Flip), (.int .i64 y106.1.Quarters), (.int .i64 y106.1.At.X), (.int .i64 y106.1.At.Y)]) [(.bool y106.1.Flip), (.int .i64 y106.1.Quarters), (.int .i64 y106.1.At.X), (.int .i64 y106.1.At.Y)] (wn rfl) rfl rfl rfl rfl sz_51 rfl rfl rfl ?_
    refine Tr.val (wn rfl) rfl (fun _ _ h1 h2 => run_assign (h1.ev rfl)) ?_
    refine Tr.nil (Tr.normThen ?_)
    refine Tr.seq ?_
    refine Tr.region ?_
    refine Tr.val (wn rfl) rfl (fun _ _ h1 h2 => run_move (h1.ev rfl)) ?_
    refine Tr.val (wn rfl) rfl (fun _ _ h1 h2 => run_loadN (cs := [(.bool y106.1.Flip), (.int .i64 y106.1.Quarters), (.int .i64 y106.1.At.X), (.int .i64 y106.1.At.Y)]) ag_51 sz_51 (h1.ev rfl) (CellsAt.take (rdb h2 (vs := [(.bool y106.1.Flip), (.int .i64 y106.1.Quarters), (.int .i64 y106.1.At.X), (.int .i64 y106.1.At.Y)]) (k := 3) rfl 0) 4) rfl) ?_
    obtain ⟨y108, hy108, H⟩ := bnd H
    refine Tr.callM [4] [emp] (U := (Option Addr × Nat)) (fun u => (.tuple #[(.slice u.1 (y108.1).length u.2), (.int .i64 y108.2)])) (fun u => SlF u.1 (y108.1).length u.2) (fun u => [ow u.1 u.2 29 fl_TRect y108.1]) rfl (pk_cons rfl pk_nil) (fun _ => rfl) (wn rfl) rfl Try.call30 (evl_cons rfl (evl_cons rfl evl_nil)) (fun W hW hp hE => F_shape_TurnedRegion_ok N y101.1 Ay101_0 cy101_0 (hW.slS (k := 2) rfl hp rfl) y106.1 y108 hy108 hE) ?_
    intro u hu
    obtain ⟨Ay108_0, cy108_0⟩ := u
    have gy108_0 := hu
    have hgy108_0 : SlF Ay108_0 (y108.1).length cy108_0 := gy108_0 --@phi
    show Tr _ _ (uf _ 40 (.tuple #[(.slice Ay108_0 (y108.1).length cy108_0), (.int .i64 y108.2)])) (up _ 4 (ow Ay108_0 cy108_0 29 fl_TRect y108.1)) _
    refine Tr.val (wn rfl) rfl (fun _ _ h1 h2 => run_move (h1.ev rfl)) ?_
    refine Tr.val (wn rfl) rfl (fun _ _ h1 h2 => run_extract (h1.ev rfl) rfl) ?_
    refine Tr.val (wn rfl) rfl (fun _ _ h1 h2 => run_extract (h1.ev rfl) rfl) ?_
    refine Tr.val (wn rfl) rfl (fun _ _ h1 h2 => run_assign (h1.ev rfl)) ?_
    refine Tr.val (wn rfl) rfl (fun _ _ h1 h2 => run_assign (h1.ev rfl)) ?_
    refine Tr.nil (Tr.normThen ?_)
    refine Tr.seq ?_
    refine Tr.region ?_
    refine Tr.val (wn rfl) rfl (fun _ _ h1 h2 => run_move (h1.ev rfl)) ?_
    obtain ⟨y110, hy110, H⟩ := bnd H
    refine Tr.callG [5] [emp] (U := (Option Addr × Nat)) (fun u => (.tuple #[(.slice u.1 (y110.1).length u.2), (.int .i64 y110.2)])) (fun O W u => SlF u.1 (y110.1).length u.2) (fun u => [ow u.1 u.2 22 fl_LTRect y110.1]) rfl (pk_cons rfl pk_nil) (fun _ => rfl) (wn rfl) rfl Try.call22 (evl_cons rfl evl_nil) (fun W hW hp hE => F_shape_Pieces_ok N p0 Ap0_0 cp0_0 (hp0_0.ext (hW.extS hp)) y110 hy110 hE) ?_
    intro w u le111 hu
    obtain ⟨Ay110_0, cy110_0⟩ := u
    have gy110_0 := hu
    replace hp0_0 := hp0_0.leR le111
    replace leB := leB.trans le111
    have hgy110_0 : SlF Ay110_0 (y110.1).length cy110_0 := gy110_0 --@phi
    show Tr _ _ (uf _ 45 (.tuple #[(.slice Ay110_0 (y110.1).length cy110_0), (.int .i64 y110.2)])) (up _ 5 (ow Ay110_0 cy110_0 22 fl_LTRect y110.1)) _
    refine Tr.val (wn rfl) rfl (fun _ _ h1 h2 => run_move (h1.ev rfl)) ?_
    refine Tr.val (wn rfl) rfl (fun _ _ h1 h2 => run_extract (h1.ev rfl) rfl) ?_
    refine Tr.val (wn rfl) rfl (fun _ _ h1 h2 => run_extract (h1.ev rfl) rfl) ?_
    refine Tr.val (wn rfl) rfl (fun _ _ h1 h2 => run_assign (h1.ev rfl)) ?_
    refine Tr.val (wn rfl) rfl (fun _ _ h1 h2 => run_assign (h1.ev rfl)) ?_
    refine Tr.nil (Tr.normThen ?_)
    refine Tr.seq ?_
    refine Tr.region ?_
    refine Tr.val (wn rfl) rfl (fun _ _ h1 h2 => run_move (h1.ev rfl)) ?_
    obtain ⟨y112, hy112, H⟩ := bnd H
    refine Tr.callG [6] [emp] (U := (Option Addr × Nat)) (fun u => (.tuple #[(.slice u.1 (y112.1).length u.2), (.int .i64 y112.2)])) (fun O W u => SlF u.1 (y112.1).length u.2) (fun u => [ow u.1 u.2 22 fl_LTRect y112.1]) rfl (pk_cons rfl pk_nil) (fun _ => rfl) (wn rfl) rfl Try.call22 (evl_cons rfl evl_nil) (fun W hW hp hE => F_shape_Pieces_ok N y101.1 Ay101_0 cy101_0 (hW.slS (k := 2) rfl hp rfl) y112 hy112 hE) ?_
    intro w u le113 hu
    obtain ⟨Ay112_0, cy112_0⟩ := u
    have gy112_0 := hu
    replace hp0_0 := hp0_0.leR le113
    replace leB := leB.trans le113
    have hgy112_0 : SlF Ay112_0 (y112.1).length cy112_0 := gy112_0 --@phi
    show Tr _ _ (uf _ 50 (.tuple #[(.slice Ay112_0 (y112.1).length cy112_0), (.int .i64 y112.2)])) (up _ 6 (ow Ay112_0 cy112_0 22 fl_LTRect y112.1)) _
    refine Tr.val (wn rfl) rfl (fun _ _ h1 h2 => run_move (h1.ev rfl)) ?_
    refine Tr.val (wn rfl) rfl (fun _ _ h1 h2 => run_extract (h1.ev rfl) rfl) ?_
    refine Tr.val (wn rfl) rfl (fun _ _ h1 h2 => run_extract (h1.ev rfl) rfl) ?_
    refine Tr.val (wn rfl) rfl (fun _ _ h1 h2 => run_assign (h1.ev rfl)) ?_
    refine Tr.val (wn rfl) rfl (fun _ _ h1 h2 => run_assign (h1.ev rfl)) ?_
    refine Tr.nil (Tr.normThen ?_)
    refine Tr.seq ?_
    refine Tr.region ?_
    refine Tr.val (wn rfl) rfl (fun _ _ h1 h2 => run_move (h1.ev rfl)) ?_
    obtain ⟨y114, hy114, H⟩ := bnd H
    refine Tr.callG [7] [emp] (U := (Option Addr × Nat)) (fun u => (.tuple #[(.slice u.1 (y114.1).length u.2), (.int .i64 y114.2)])) (fun O W u => SlF u.1 (y114.1).length u.2) (fun u => [ow u.1 u.2 22 fl_LTRect y114.1]) rfl (pk_cons rfl pk_nil) (fun _ => rfl) (wn rfl) rfl Try.call26 (evl_cons rfl evl_nil) (fun W hW hp hE => F_shape_Holes_ok N p0 Ap0_0 cp0_0 (hp0_0.ext (hW.extS hp)) y114 hy114 hE) ?_
    intro w u le115 hu
    obtain ⟨Ay114_0, cy114_0⟩ := u
    have gy114_0 := hu
    replace hp0_0 := hp0_0.leR le115
    replace leB := leB.trans le115
    have hgy114_0 : SlF Ay114_0 (y114.1).length cy114_0 := gy114_0 --@phi
    show Tr _ _ (uf _ 55 (.tuple #[(.slice Ay114_0 (y114.1).length cy114_0), (.int .i64 y114.2)])) (up _ 7 (ow Ay114_0 cy114_0 22 fl_LTRect y114.1)) _
    refine Tr.val (wn rfl) rfl (fun _ _ h1 h2 => run_move (h1.ev rfl)) ?_
    refine Tr.val (wn rfl) rfl (fun _ _ h1 h2 => run_extract (h1.ev rfl) rfl) ?_
    refine Tr.val (wn rfl) rfl (fun _ _ h1 h2 => run_extract (h1.ev rfl) rfl) ?_
    refine Tr.val (wn rfl) rfl (fun _ _ h1 h2 => run_assign (h1.ev rfl)) ?_
    refine Tr.val (wn rfl) rfl (fun _ _ h1 h2 => run_assign (h1.ev rfl)) ?_
    refine Tr.nil (Tr.normThen ?_)
    refine Tr.seq ?_
    refine Tr.region ?_
    refine Tr.val (wn rfl) rfl (fun _ _ h1 h2 => run_move (h1.ev rfl)) ?_
    obtain ⟨y116, hy116, H⟩ := bnd H
    refine Tr.callG [8] [emp] (U := (Option Addr × Nat)) (fun u => (.tuple #[(.slice u.1 (y116.1).length u.2), (.int .i64 y116.2)])) (fun O W u => SlF u.1 (y116.1).length u.2) (fun u => [ow u.1 u.2 22 fl_LTRect y116.1]) rfl (pk_cons rfl pk_nil) (fun _ => rfl) (wn rfl) rfl Try.call26 (evl_cons rfl evl_nil) (fun W hW hp hE => F_shape_Holes_ok N y101.1 Ay101_0 cy101_0 (hW.slS (k := 2) rfl hp rfl) y116 hy116 hE) ?_
    intro w u le117 hu
    obtain ⟨Ay116_0, cy116_0⟩ := u
    have gy116_0 := hu
    replace hp0_0 := hp0_0.leR le117
    replace leB := leB.trans le117
    have hgy116_0 : SlF Ay116_0 (y116.1).length cy116_0 := gy116_0 --@phi
    show Tr _ _ (uf _ 60 (.tuple #[(.slice Ay116_0 (y116.1).length cy116_0), (.int .i64 y116.2)])) (up _ 8 (ow Ay116_0 cy116_0 22 fl_LTRect y116.1)) _
    refine Tr.val (wn rfl) rfl (fun _ _ h1 h2 => run_move (h1.ev rfl)) ?_
    refine Tr.val (wn rfl) rfl (fun _ _ h1 h2 => run_extract (h1.ev rfl) rfl) ?_
    refine Tr.val (wn rfl) rfl (fun _ _ h1 h2 => run_extract (h1.ev rfl) rfl) ?_
    refine Tr.val (wn rfl) rfl (fun _ _ h1 h2 => run_assign (h1.ev rfl)) ?_
    refine Tr.val (wn rfl) rfl (fun _ _ h1 h2 => run_assign (h1.ev rfl)) ?_
    refine Tr.nil (Tr.normThen ?_)
    refine Tr.seq ?_
    refine Tr.region ?_
    refine Tr.val (wn rfl) rfl (fun _ _ h1 h2 => run_move (h1.ev rfl)) ?_
    refine Tr.val (wn rfl) rfl (fun _ _ h1 h2 => run_eql (h1.ev rfl) (h1.ev rfl)) ?_
    refine Tr.val (wn rfl) rfl (fun _ _ h1 h2 => run_move (h1.ev rfl)) ?_
    refine Tr.mid0 3 [(0, (.slice Ap0_0 (p0).length cp0_0)), (5, (.slice Ay101_0 (y101.1).length cy101_0)), (8, (.slice Ay108_0 (y108.1).length cy108_0)), (10, (.slice Ay110_0 (y110.1).length cy110_0)), (11, (.int .i64 y110.2)), (12, (.slice Ay112_0 (y112.1).length cy112_0)), (13, (.int .i64 y112.2)), (14, (.slice Ay114_0 (y114.1).length cy114_0)), (15, (.int .i64 y114.2)), (16, (.slice Ay116_0 (y116.1).length cy116_0)), (17, (.int .i64 y116.2)), (68, (.bool ((y106.2 == 0) && (y108.2 == 0))))] [(1, bx b100 #[(.bool p1.Flip), (.int .i64 p1.Quarters), (.int .i64 p1.At.X), (.int .i64 p1.At.Y)] 51), (2, ow Ay101_0 cy101_0 29 fl_TRect y101.1), (3, bx b107 #[(.bool y106.1.Flip), (.int .i64 y106.1.Quarters), (.int .i64 y106.1.At.X), (.int .i64 y106.1.At.Y)] 51), (4, ow Ay108_0 cy108_0 29 fl_TRect y108.1), (5, ow Ay110_0 cy110_0 22 fl_LTRect y110.1), (6, ow Ay112_0 cy112_0 22 fl_LTRect y112.1), (7, ow Ay114_0 cy114_0 22 fl_LTRect y114.1), (8, ow Ay116_0 cy116_0 22 fl_LTRect y116.1)] ?_ ?_
    · cases hg128 : (y106.2 == 0)
      · refine Tr.pass rfl rfl rfl rfl rfl (by decide) ?_
        refine Tr.pass rfl rfl rfl rfl rfl (by decide) ?_
        refine Tr.val (wn rfl) rfl (fun _ _ h1 h2 => run_pickF (h1.ev rfl) (h1.ev rfl)) ?_
        exact Tr.nil (Tr.fin0 (.cons rfl (.cons rfl (.cons rfl (.cons rfl (.cons rfl (.cons rfl (.cons rfl (.cons rfl (.cons rfl (.cons rfl (.cons rfl (.cons rfl .nil)))))))))))) (.cons rfl (.cons rfl (.cons rfl (.cons rfl (.cons rfl (.cons rfl (.cons rfl (.cons rfl .nil)))))))))
      · refine Tr.val (wg rfl rfl rfl) rfl (fun _ _ h1 h2 => run_move (h1.ev rfl)) ?_
        refine Tr.val (wg rfl rfl rfl) rfl (fun _ _ h1 h2 => run_eql (h1.ev rfl) (h1.ev rfl)) ?_
        refine Tr.val (wn rfl) rfl (fun _ _ h1 h2 => run_pickT (h1.ev rfl) (h1.ev rfl)) ?_
        exact Tr.nil (Tr.fin0 (.cons rfl (.cons rfl (.cons rfl (.cons rfl (.cons rfl (.cons rfl (.cons rfl (.cons rfl (.cons rfl (.cons rfl (.cons rfl (.cons rfl .nil)))))))))))) (.cons rfl (.cons rfl (.cons rfl (.cons rfl (.cons rfl (.cons rfl (.cons rfl (.cons rfl .nil)))))))))
    · show Tr _ _ (LF [(0, (.slice Ap0_0 (p0).length cp0_0)), (5, (.slice Ay101_0 (y101.1).length cy101_0)), (8, (.slice Ay108_0 (y108.1).length cy108_0)), (10, (.slice Ay110_0 (y110.1).length cy110_0)), (11, (.int .i64 y110.2)), (12, (.slice Ay112_0 (y112.1).length cy112_0)), (13, (.int .i64 y112.2)), (14, (.slice Ay114_0 (y114.1).length cy114_0)), (15, (.int .i64 y114.2)), (16, (.slice Ay116_0 (y116.1).length cy116_0)), (17, (.int .i64 y116.2)), (68, (.bool ((y106.2 == 0) && (y108.2 == 0))))]) (LE [(1, bx b100 #[(.bool p1.Flip), (.int .i64 p1.Quarters), (.int .i64 p1.At.X), (.int .i64 p1.At.Y)] 51), (2, ow Ay101_0 cy101_0 29 fl_TRect y101.1), (3, bx b107 #[(.bool y106.1.Flip), (.int .i64 y106.1.Quarters), (.int .i64 y106.1.At.X), (.int .i64 y106.1.At.Y)] 51), (4, ow Ay108_0 cy108_0 29 fl_TRect y108.1), (5, ow Ay110_0 cy110_0 22 fl_LTRect y110.1), (6, ow Ay112_0 cy112_0 22 fl_LTRect y112.1), (7, ow Ay114_0 cy114_0 22 fl_LTRect y114.1), (8, ow Ay116_0 cy116_0 22 fl_LTRect y116.1)]) _
      refine Tr.val (wn rfl) rfl (fun _ _ h1 h2 => run_move (h1.ev rfl)) ?_
      obtain ⟨g119, hg119, H⟩ := bnd H
      refine Tr.mid0 4 [(0, (.slice Ap0_0 (p0).length cp0_0)), (5, (.slice Ay101_0 (y101.1).length cy101_0)), (10, (.slice Ay110_0 (y110.1).length cy110_0)), (11, (.int .i64 y110.2)), (12, (.slice Ay112_0 (y112.1).length cy112_0)), (13, (.int .i64 y112.2)), (14, (.slice Ay114_0 (y114.1).length cy114_0)), (15, (.int .i64 y114.2)), (16, (.slice Ay116_0 (y116.1).length cy116_0)), (17, (.int .i64 y116.2)), (73, (.bool g119))] [(1, bx b100 #[(.bool p1.Flip), (.int .i64 p1.Quarters), (.int .i64 p1.At.X), (.int .i64 p1.At.Y)] 51), (2, ow Ay101_0 cy101_0 29 fl_TRect y101.1), (3, bx b107 #[(.bool y106.1.Flip), (.int .i64 y106.1.Quarters), (.int .i64 y106.1.At.X), (.int .i64 y106.1.At.Y)] 51), (4, ow Ay108_0 cy108_0 29 fl_TRect y108.1), (5, ow Ay110_0 cy110_0 22 fl_LTRect y110.1), (6, ow Ay112_0 cy112_0 22 fl_LTRect y112.1), (7, ow Ay114_0 cy114_0 22 fl_LTRect y114.1), (8, ow Ay116_0 cy116_0 22 fl_LTRect y116.1)] ?_ ?_
      · cases hg128 : ((y106.2 == 0) && (y108.2 == 0))
        · rw [hg128] at hg119
          rw [if_neg (by decide)] at hg119
          have H := hg119
          obtain rfl := Option.some.inj H
          refine Tr.pass rfl rfl rfl rfl rfl (by decide) ?_
          refine Tr.pass rfl rfl rfl rfl rfl (by decide) ?_
          refine Tr.pass rfl rfl rfl rfl rfl (by decide) ?_
          refine Tr.val (wn rfl) rfl (fun _ _ h1 h2 => run_pickF (h1.ev rfl) (h1.ev rfl)) ?_
          exact Tr.nil (Tr.fin0 (.cons rfl (.cons rfl (.cons rfl (.cons rfl (.cons rfl (.cons rfl (.cons rfl (.cons rfl (.cons rfl (.cons rfl (.cons rfl .nil))))))))))) (.cons rfl (.cons rfl (.cons rfl (.cons rfl (.cons rfl (.cons rfl (.cons rfl (.cons rfl .nil)))))))))
        · rw [hg128] at hg119
          rw [if_pos rfl] at hg119
          have H := hg119
          refine Tr.val (wg rfl rfl rfl) rfl (fun _ _ h1 h2 => run_move (h1.ev rfl)) ?_
          refine Tr.val (wg rfl rfl rfl) rfl (fun _ _ h1 h2 => run_move (h1.ev rfl)) ?_
          obtain ⟨y120, hy120, H⟩ := bnd H
          refine Tr.call0 (r := (.bool y120)) (wg rfl rfl rfl) rfl Try.call13 (evl_cons rfl (evl_cons rfl evl_nil)) (fun W hW => F_slices_Equal_Rect_ok y108.1 Ay108_0 cy108_0 (hW.slCall (k := 4) rfl) p0 Ap0_0 cp0_0 (hp0_0.ext hW.extAll) y120 hy120 (HF.start _)) ?_
          refine Tr.val (wn rfl) rfl (fun _ _ h1 h2 => run_pickT (h1.ev rfl) (h1.ev rfl)) ?_
          obtain rfl := Option.some.inj H
          exact Tr.nil (Tr.fin0 (.cons rfl (.cons rfl (.cons rfl (.cons rfl (.cons rfl (.cons rfl (.cons rfl (.cons rfl (.cons rfl (.cons rfl (.cons rfl .nil))))))))))) (.cons rfl (.cons rfl (.cons rfl (.cons rfl (.cons rfl (.cons rfl (.cons rfl (.cons rfl .nil)))))))))
      · show Tr _ _ (LF [(0, (.slice Ap0_0 (p0).length cp0_0)), (5, (.slice Ay101_0 (y101.1).length cy101_0)), (10, (.slice Ay110_0 (y110.1).length cy110_0)), (11, (.int .i64 y110.2)), (12, (.slice Ay112_0 (y112.1).length cy112_0)), (13, (.int .i64 y112.2)), (14, (.slice Ay114_0 (y114.1).length cy114_0)), (15, (.int .i64 y114.2)), (16, (.slice Ay116_0 (y116.1).length cy116_0)), (17, (.int .i64 y116.2)), (73, (.bool g119))]) (LE [(1, bx b100 #[(.bool p1.Flip), (.int .i64 p1.Quarters), (.int .i64 p1.At.X), (.int .i64 p1.At.Y)] 51), (2, ow Ay101_0 cy101_0 29 fl_TRect y101.1), (3, bx b107 #[(.bool y106.1.Flip), (.int .i64 y106.1.Quarters), (.int .i64 y106.1.At.X), (.int .i64 y106.1.At.Y)] 51), (4, ow Ay108_0 cy108_0 29 fl_TRect y108.1), (5, ow Ay110_0 cy110_0 22 fl_LTRect y110.1), (6, ow Ay112_0 cy112_0 22 fl_LTRect y112.1), (7, ow Ay114_0 cy114_0 22 fl_LTRect y114.1), (8, ow Ay116_0 cy116_0 22 fl_LTRect y116.1)]) _
        refine Tr.val (wn rfl) rfl (fun _ _ h1 h2 => run_move (h1.ev rfl)) ?_
        obtain ⟨g123, hg123, H⟩ := bnd H
        refine Tr.mid0 6 [(10, (.slice Ay110_0 (y110.1).length cy110_0)), (11, (.int .i64 y110.2)), (12, (.slice Ay112_0 (y112.1).length cy112_0)), (13, (.int .i64 y112.2)), (14, (.slice Ay114_0 (y114.1).length cy114_0)), (15, (.int .i64 y114.2)), (16, (.slice Ay116_0 (y116.1).length cy116_0)), (17, (.int .i64 y116.2)), (80, (.bool g123))] [(1, bx b100 #[(.bool p1.Flip), (.int .i64 p1.Quarters), (.int .i64 p1.At.X), (.int .i64 p1.At.Y)] 51), (2, ow Ay101_0 cy101_0 29 fl_TRect y101.1), (3, bx b107 #[(.bool y106.1.Flip), (.int .i64 y106.1.Quarters), (.int .i64 y106.1.At.X), (.int .i64 y106.1.At.Y)] 51), (4, ow Ay108_0 cy108_0 29 fl_TRect y108.1), (5, ow Ay110_0 cy110_0 22 fl_LTRect y110.1), (6, ow Ay112_0 cy112_0 22 fl_LTRect y112.1), (7, ow Ay114_0 cy114_0 22 fl_LTRect y114.1), (8, ow Ay116_0 cy116_0 22 fl_LTRect y116.1)] ?_ ?_
        · cases hg128 : g119
          · rw [hg128] at hg123
            rw [if_neg (by decide)] at hg123
            have H := hg123
            obtain rfl := Option.some.inj H
            refine Tr.pass rfl rfl rfl rfl rfl (by decide) ?_
            refine Tr.pass rfl rfl rfl rfl rfl (by decide) ?_
            refine Tr.pass rfl rfl rfl rfl rfl (by decide) ?_
            refine Tr.pass rfl rfl rfl rfl rfl (by decide) ?_
            refine Tr.pass rfl rfl rfl rfl rfl (by decide) ?_
            refine Tr.val (wn rfl) rfl (fun _ _ h1 h2 => run_pickF (h1.ev rfl) (h1.ev rfl)) ?_
            exact Tr.nil (Tr.fin0 (.cons rfl (.cons rfl (.cons rfl (.cons rfl (.cons rfl (.cons rfl (.cons rfl (.cons rfl (.cons rfl .nil))))))))) (.cons rfl (.cons rfl (.cons rfl (.cons rfl (.cons rfl (.cons rfl (.cons rfl (.cons rfl .nil)))))))))
          · rw [hg128] at hg123
            rw [if_pos rfl] at hg123
            have H := hg123
            refine Tr.val (wg rfl rfl rfl) rfl (fun _ _ h1 h2 => run_move (h1.ev rfl)) ?_
            obtain ⟨y124, hy124, H⟩ := bnd H
            refine Tr.call0 (r := (.int .i64 y124)) (wg rfl rfl rfl) rfl Try.call23 (evl_cons rfl evl_nil) (fun W hW => F_etchhouselaw1_area_ok N y101.1 Ay101_0 cy101_0 (hW.slCall (k := 2) rfl) y124 hy124 (HF.start _)) ?_
            refine Tr.val (wg rfl rfl rfl) rfl (fun _ _ h1 h2 => run_move (h1.ev rfl)) ?_
            obtain ⟨y125, hy125, H⟩ := bnd H
            refine Tr.call0 (r := (.int .i64 y125)) (wg rfl rfl rfl) rfl Try.call23 (evl_cons rfl evl_nil) (fun W hW => F_etchhouselaw1_area_ok N p0 Ap0_0 cp0_0 (hp0_0.ext hW.extAll) y125 hy125 (HF.start _)) ?_
            refine Tr.val (wg rfl rfl rfl) rfl (fun _ _ h1 h2 => run_eql (h1.ev rfl) (h1.ev rfl)) ?_
            refine Tr.val (wn rfl) rfl (fun _ _ h1 h2 => run_pickT (h1.ev rfl) (h1.ev rfl)) ?_
            obtain rfl := Option.some.inj H
            exact Tr.nil (Tr.fin0 (.cons rfl (.cons rfl (.cons rfl (.cons rfl (.cons rfl (.cons rfl (.cons rfl (.cons rfl (.cons rfl .nil))))))))) (.cons rfl (.cons rfl (.cons rfl (.cons rfl (.cons rfl (.cons rfl (.cons rfl (.cons rfl .nil)))))))))
        · show Tr _ _ (LF [(10, (.slice Ay110_0 (y110.1).length cy110_0)), (11, (.int .i64 y110.2)), (12, (.slice Ay112_0 (y112.1).length cy112_0)), (13, (.int .i64 y112.2)), (14, (.slice Ay114_0 (y114.1).length cy114_0)), (15, (.int .i64 y114.2)), (16, (.slice Ay116_0 (y116.1).length cy116_0)), (17, (.int .i64 y116.2)), (80, (.bool g123))]) (LE [(1, bx b100 #[(.bool p1.Flip), (.int .i64 p1.Quarters), (.int .i64 p1.At.X), (.int .i64 p1.At.Y)] 51), (2, ow Ay101_0 cy101_0 29 fl_TRect y101.1), (3, bx b107 #[(.bool y106.1.Flip), (.int .i64 y106.1.Quarters), (.int .i64 y106.1.At.X), (.int .i64 y106.1.At.Y)] 51), (4, ow Ay108_0 cy108_0 29 fl_TRect y108.1), (5, ow Ay110_0 cy110_0 22 fl_LTRect y110.1), (6, ow Ay112_0 cy112_0 22 fl_LTRect y112.1), (7, ow Ay114_0 cy114_0 22 fl_LTRect y114.1), (8, ow Ay116_0 cy116_0 22 fl_LTRect y116.1)]) _
          refine Tr.val (wn rfl) rfl (fun _ _ h1 h2 => run_move (h1.ev rfl)) ?_
          refine Tr.mid0 3 [(10, (.slice Ay110_0 (y110.1).length cy110_0)), (12, (.slice Ay112_0 (y112.1).length cy112_0)), (13, (.int .i64 y112.2)), (14, (.slice Ay114_0 (y114.1).length cy114_0)), (15, (.int .i64 y114.2)), (16, (.slice Ay116_0 (y116.1).length cy116_0)), (17, (.int .i64 y116.2)), (84, (.bool (g123 && (y110.2 == 0))))] [(1, bx b100 #[(.bool p1.Flip), (.int .i64 p1.Quarters), (.int .i64 p1.At.X), (.int .i64 p1.At.Y)] 51), (2, ow Ay101_0 cy101_0 29 fl_TRect y101.1), (3, bx b107 #[(.bool y106.1.Flip), (.int .i64 y106.1.Quarters), (.int .i64 y106.1.At.X), (.int .i64 y106.1.At.Y)] 51), (4, ow Ay108_0 cy108_0 29 fl_TRect y108.1), (5, ow Ay110_0 cy110_0 22 fl_LTRect y110.1), (6, ow Ay112_0 cy112_0 22 fl_LTRect y112.1), (7, ow Ay114_0 cy114_0 22 fl_LTRect y114.1), (8, ow Ay116_0 cy116_0 22 fl_LTRect y116.1)] ?_ ?_
          · cases hg128 : g123
            · refine Tr.pass rfl rfl rfl rfl rfl (by decide) ?_
              refine Tr.pass rfl rfl rfl rfl rfl (by decide) ?_
              refine Tr.val (wn rfl) rfl (fun _ _ h1 h2 => run_pickF (h1.ev rfl) (h1.ev rfl)) ?_
              exact Tr.nil (Tr.fin0 (.cons rfl (.cons rfl (.cons rfl (.cons rfl (.cons rfl (.cons rfl (.cons rfl (.cons rfl .nil)))))))) (.cons rfl (.cons rfl (.cons rfl (.cons rfl (.cons rfl (.cons rfl (.cons rfl (.cons rfl .nil)))))))))
            · refine Tr.val (wg rfl rfl rfl) rfl (fun _ _ h1 h2 => run_move (h1.ev rfl)) ?_
              refine Tr.val (wg rfl rfl rfl) rfl (fun _ _ h1 h2 => run_eql (h1.ev rfl) (h1.ev rfl)) ?_
              refine Tr.val (wn rfl) rfl (fun _ _ h1 h2 => run_pickT (h1.ev rfl) (h1.ev rfl)) ?_
              exact Tr.nil (Tr.fin0 (.cons rfl (.cons rfl (.cons rfl (.cons rfl (.cons rfl (.cons rfl (.cons rfl (.cons rfl .nil)))))))) (.cons rfl (.cons rfl (.cons rfl (.cons rfl (.cons rfl (.cons rfl (.cons rfl (.cons rfl .nil)))))))))
          · show Tr _ _ (LF [(10, (.slice Ay110_0 (y110.1).length cy110_0)), (12, (.slice Ay112_0 (y112.1).length cy112_0)), (13, (.int .i64 y112.2)), (14, (.slice Ay114_0 (y114.1).length cy114_0)), (15, (.int .i64 y114.2)), (16, (.slice Ay116_0 (y116.1).length cy116_0)), (17, (.int .i64 y116.2)), (84, (.bool (g123 && (y110.2 == 0))))]) (LE [(1, bx b100 #[(.bool p1.Flip), (.int .i64 p1.Quarters), (.int .i64 p1.At.X), (.int .i64 p1.At.Y)] 51), (2, ow Ay101_0 cy101_0 29 fl_TRect y101.1), (3, bx b107 #[(.bool y106.1.Flip), (.int .i64 y106.1.Quarters), (.int .i64 y106.1.At.X), (.int .i64 y106.1.At.Y)] 51), (4, ow Ay108_0 cy108_0 29 fl_TRect y108.1), (5, ow Ay110_0 cy110_0 22 fl_LTRect y110.1), (6, ow Ay112_0 cy112_0 22 fl_LTRect y112.1), (7, ow Ay114_0 cy114_0 22 fl_LTRect y114.1), (8, ow Ay116_0 cy116_0 22 fl_LTRect y116.1)]) _
            refine Tr.val (wn rfl) rfl (fun _ _ h1 h2 => run_move (h1.ev rfl)) ?_
            refine Tr.mid0 3 [(10, (.slice Ay110_0 (y110.1).length cy110_0)), (12, (.slice Ay112_0 (y112.1).length cy112_0)), (14, (.slice Ay114_0 (y114.1).length cy114_0)), (15, (.int .i64 y114.2)), (16, (.slice Ay116_0 (y116.1).length cy116_0)), (17, (.int .i64 y116.2)), (88, (.bool ((g123 && (y110.2 == 0)) && (y112.2 == 0))))] [(1, bx b100 #[(.bool p1.Flip), (.int .i64 p1.Quarters), (.int .i64 p1.At.X), (.int .i64 p1.At.Y)] 51), (2, ow Ay101_0 cy101_0 29 fl_TRect y101.1), (3, bx b107 #[(.bool y106.1.Flip), (.int .i64 y106.1.Quarters), (.int .i64 y106.1.At.X), (.int .i64 y106.1.At.Y)] 51), (4, ow Ay108_0 cy108_0 29 fl_TRect y108.1), (5, ow Ay110_0 cy110_0 22 fl_LTRect y110.1), (6, ow Ay112_0 cy112_0 22 fl_LTRect y112.1), (7, ow Ay114_0 cy114_0 22 fl_LTRect y114.1), (8, ow Ay116_0 cy116_0 22 fl_LTRect y116.1)] ?_ ?_
            · cases hg128 : (g123 && (y110.2 == 0))
              · refine Tr.pass rfl rfl rfl rfl rfl (by decide) ?_
                refine Tr.pass rfl rfl rfl rfl rfl (by decide) ?_
                refine Tr.val (wn rfl) rfl (fun _ _ h1 h2 => run_pickF (h1.ev rfl) (h1.ev rfl)) ?_
                exact Tr.nil (Tr.fin0 (.cons rfl (.cons rfl (.cons rfl (.cons rfl (.cons rfl (.cons rfl (.cons rfl .nil))))))) (.cons rfl (.cons rfl (.cons rfl (.cons rfl (.cons rfl (.cons rfl (.cons rfl (.cons rfl .nil)))))))))
              · refine Tr.val (wg rfl rfl rfl) rfl (fun _ _ h1 h2 => run_move (h1.ev rfl)) ?_
                refine Tr.val (wg rfl rfl rfl) rfl (fun _ _ h1 h2 => run_eql (h1.ev rfl) (h1.ev rfl)) ?_
                refine Tr.val (wn rfl) rfl (fun _ _ h1 h2 => run_pickT (h1.ev rfl) (h1.ev rfl)) ?_
                exact Tr.nil (Tr.fin0 (.cons rfl (.cons rfl (.cons rfl (.cons rfl (.cons rfl (.cons rfl (.cons rfl .nil))))))) (.cons rfl (.cons rfl (.cons rfl (.cons rfl (.cons rfl (.cons rfl (.cons rfl (.cons rfl .nil)))))))))
            · show Tr _ _ (LF [(10, (.slice Ay110_0 (y110.1).length cy110_0)), (12, (.slice Ay112_0 (y112.1).length cy112_0)), (14, (.slice Ay114_0 (y114.1).length cy114_0)), (15, (.int .i64 y114.2)), (16, (.slice Ay116_0 (y116.1).length cy116_0)), (17, (.int .i64 y116.2)), (88, (.bool ((g123 && (y110.2 == 0)) && (y112.2 == 0))))]) (LE [(1, bx b100 #[(.bool p1.Flip), (.int .i64 p1.Quarters), (.int .i64 p1.At.X), (.int .i64 p1.At.Y)] 51), (2, ow Ay101_0 cy101_0 29 fl_TRect y101.1), (3, bx b107 #[(.bool y106.1.Flip), (.int .i64 y106.1.Quarters), (.int .i64 y106.1.At.X), (.int .i64 y106.1.At.Y)] 51), (4, ow Ay108_0 cy108_0 29 fl_TRect y108.1), (5, ow Ay110_0 cy110_0 22 fl_LTRect y110.1), (6, ow Ay112_0 cy112_0 22 fl_LTRect y112.1), (7, ow Ay114_0 cy114_0 22 fl_LTRect y114.1), (8, ow Ay116_0 cy116_0 22 fl_LTRect y116.1)]) _
              refine Tr.val (wn rfl) rfl (fun _ _ h1 h2 => run_move (h1.ev rfl)) ?_
              refine Tr.mid0 6 [(14, (.slice Ay114_0 (y114.1).length cy114_0)), (15, (.int .i64 y114.2)), (16, (.slice Ay116_0 (y116.1).length cy116_0)), (17, (.int .i64 y116.2)), (95, (.bool (((g123 && (y110.2 == 0)) && (y112.2 == 0)) && ((y110.1.length : Int) == (y112.1.length : Int)))))] [(1, bx b100 #[(.bool p1.Flip), (.int .i64 p1.Quarters), (.int .i64 p1.At.X), (.int .i64 p1.At.Y)] 51), (2, ow Ay101_0 cy101_0 29 fl_TRect y101.1), (3, bx b107 #[(.bool y106.1.Flip), (.int .i64 y106.1.Quarters), (.int .i64 y106.1.At.X), (.int .i64 y106.1.At.Y)] 51), (4, ow Ay108_0 cy108_0 29 fl_TRect y108.1), (5, ow Ay110_0 cy110_0 22 fl_LTRect y110.1), (6, ow Ay112_0 cy112_0 22 fl_LTRect y112.1), (7, ow Ay114_0 cy114_0 22 fl_LTRect y114.1), (8, ow Ay116_0 cy116_0 22 fl_LTRect y116.1)] ?_ ?_
              · cases hg128 : ((g123 && (y110.2 == 0)) && (y112.2 == 0))
                · refine Tr.pass rfl rfl rfl rfl rfl (by decide) ?_
                  refine Tr.pass rfl rfl rfl rfl rfl (by decide) ?_
                  refine Tr.pass rfl rfl rfl rfl rfl (by decide) ?_
                  refine Tr.pass rfl rfl rfl rfl rfl (by decide) ?_
                  refine Tr.pass rfl rfl rfl rfl rfl (by decide) ?_
                  refine Tr.val (wn rfl) rfl (fun _ _ h1 h2 => run_pickF (h1.ev rfl) (h1.ev rfl)) ?_
                  exact Tr.nil (Tr.fin0 (.cons rfl (.cons rfl (.cons rfl (.cons rfl (.cons rfl .nil))))) (.cons rfl (.cons rfl (.cons rfl (.cons rfl (.cons rfl (.cons rfl (.cons rfl (.cons rfl .nil)))))))))
                · refine Tr.val (wg rfl rfl rfl) rfl (fun _ _ h1 h2 => run_move (h1.ev rfl)) ?_
                  refine Tr.val (wg rfl rfl rfl) rfl (fun _ _ h1 h2 => run_len un_40 (h1.ev rfl)) ?_
                  refine Tr.val (wg rfl rfl rfl) rfl (fun _ _ h1 h2 => run_move (h1.ev rfl)) ?_
                  refine Tr.val (wg rfl rfl rfl) rfl (fun _ _ h1 h2 => run_len un_40 (h1.ev rfl)) ?_
                  refine Tr.val (wg rfl rfl rfl) rfl (fun _ _ h1 h2 => run_eql (h1.ev rfl) (h1.ev rfl)) ?_
                  refine Tr.val (wn rfl) rfl (fun _ _ h1 h2 => run_pickT (h1.ev rfl) (h1.ev rfl)) ?_
                  exact Tr.nil (Tr.fin0 (.cons rfl (.cons rfl (.cons rfl (.cons rfl (.cons rfl .nil))))) (.cons rfl (.cons rfl (.cons rfl (.cons rfl (.cons rfl (.cons rfl (.cons rfl (.cons rfl .nil)))))))))
              · show Tr _ _ (LF [(14, (.slice Ay114_0 (y114.1).length cy114_0)), (15, (.int .i64 y114.2)), (16, (.slice Ay116_0 (y116.1).length cy116_0)), (17, (.int .i64 y116.2)), (95, (.bool (((g123 && (y110.2 == 0)) && (y112.2 == 0)) && ((y110.1.length : Int) == (y112.1.length : Int)))))]) (LE [(1, bx b100 #[(.bool p1.Flip), (.int .i64 p1.Quarters), (.int .i64 p1.At.X), (.int .i64 p1.At.Y)] 51), (2, ow Ay101_0 cy101_0 29 fl_TRect y101.1), (3, bx b107 #[(.bool y106.1.Flip), (.int .i64 y106.1.Quarters), (.int .i64 y106.1.At.X), (.int .i64 y106.1.At.Y)] 51), (4, ow Ay108_0 cy108_0 29 fl_TRect y108.1), (5, ow Ay110_0 cy110_0 22 fl_LTRect y110.1), (6, ow Ay112_0 cy112_0 22 fl_LTRect y112.1), (7, ow Ay114_0 cy114_0 22 fl_LTRect y114.1), (8, ow Ay116_0 cy116_0 22 fl_LTRect y116.1)]) _
                refine Tr.val (wn rfl) rfl (fun _ _ h1 h2 => run_move (h1.ev rfl)) ?_
                refine Tr.mid0 3 [(14, (.slice Ay114_0 (y114.1).length cy114_0)), (16, (.slice Ay116_0 (y116.1).length cy116_0)), (17, (.int .i64 y116.2)), (99, (.bool ((((g123 && (y110.2 == 0)) && (y112.2 == 0)) && ((y110.1.length : Int) == (y112.1.length : Int))) && (y114.2 == 0))))] [(1, bx b100 #[(.bool p1.Flip), (.int .i64 p1.Quarters), (.int .i64 p1.At.X), (.int .i64 p1.At.Y)] 51), (2, ow Ay101_0 cy101_0 29 fl_TRect y101.1), (3, bx b107 #[(.bool y106.1.Flip), (.int .i64 y106.1.Quarters), (.int .i64 y106.1.At.X), (.int .i64 y106.1.At.Y)] 51), (4, ow Ay108_0 cy108_0 29 fl_TRect y108.1), (5, ow Ay110_0 cy110_0 22 fl_LTRect y110.1), (6, ow Ay112_0 cy112_0 22 fl_LTRect y112.1), (7, ow Ay114_0 cy114_0 22 fl_LTRect y114.1), (8, ow Ay116_0 cy116_0 22 fl_LTRect y116.1)] ?_ ?_
                · cases hg128 : (((g123 && (y110.2 == 0)) && (y112.2 == 0)) && ((y110.1.length : Int) == (y112.1.length : Int)))
                  · refine Tr.pass rfl rfl rfl rfl rfl (by decide) ?_
                    refine Tr.pass rfl rfl rfl rfl rfl (by decide) ?_
                    refine Tr.val (wn rfl) rfl (fun _ _ h1 h2 => run_pickF (h1.ev rfl) (h1.ev rfl)) ?_
                    exact Tr.nil (Tr.fin0 (.cons rfl (.cons rfl (.cons rfl (.cons rfl .nil)))) (.cons rfl (.cons rfl (.cons rfl (.cons rfl (.cons rfl (.cons rfl (.cons rfl (.cons rfl .nil)))))))))
                  · refine Tr.val (wg rfl rfl rfl) rfl (fun _ _ h1 h2 => run_move (h1.ev rfl)) ?_
                    refine Tr.val (wg rfl rfl rfl) rfl (fun _ _ h1 h2 => run_eql (h1.ev rfl) (h1.ev rfl)) ?_
                    refine Tr.val (wn rfl) rfl (fun _ _ h1 h2 => run_pickT (h1.ev rfl) (h1.ev rfl)) ?_
                    exact Tr.nil (Tr.fin0 (.cons rfl (.cons rfl (.cons rfl (.cons rfl .nil)))) (.cons rfl (.cons rfl (.cons rfl (.cons rfl (.cons rfl (.cons rfl (.cons rfl (.cons rfl .nil)))))))))
                · show Tr _ _ (LF [(14, (.slice Ay114_0 (y114.1).length cy114_0)), (16, (.slice Ay116_0 (y116.1).length cy116_0)), (17, (.int .i64 y116.2)), (99, (.bool ((((g123 && (y110.2 == 0)) && (y112.2 == 0)) && ((y110.1.length : Int) == (y112.1.length : Int))) && (y114.2 == 0))))]) (LE [(1, bx b100 #[(.bool p1.Flip), (.int .i64 p1.Quarters), (.int .i64 p1.At.X), (.int .i64 p1.At.Y)] 51), (2, ow Ay101_0 cy101_0 29 fl_TRect y101.1), (3, bx b107 #[(.bool y106.1.Flip), (.int .i64 y106.1.Quarters), (.int .i64 y106.1.At.X), (.int .i64 y106.1.At.Y)] 51), (4, ow Ay108_0 cy108_0 29 fl_TRect y108.1), (5, ow Ay110_0 cy110_0 22 fl_LTRect y110.1), (6, ow Ay112_0 cy112_0 22 fl_LTRect y112.1), (7, ow Ay114_0 cy114_0 22 fl_LTRect y114.1), (8, ow Ay116_0 cy116_0 22 fl_LTRect y116.1)]) _
                  refine Tr.val (wn rfl) rfl (fun _ _ h1 h2 => run_move (h1.ev rfl)) ?_
                  refine Tr.mid0 3 [(14, (.slice Ay114_0 (y114.1).length cy114_0)), (16, (.slice Ay116_0 (y116.1).length cy116_0)), (103, (.bool (((((g123 && (y110.2 == 0)) && (y112.2 == 0)) && ((y110.1.length : Int) == (y112.1.length : Int))) && (y114.2 == 0)) && (y116.2 == 0))))] [(1, bx b100 #[(.bool p1.Flip), (.int .i64 p1.Quarters), (.int .i64 p1.At.X), (.int .i64 p1.At.Y)] 51), (2, ow Ay101_0 cy101_0 29 fl_TRect y101.1), (3, bx b107 #[(.bool y106.1.Flip), (.int .i64 y106.1.Quarters), (.int .i64 y106.1.At.X), (.int .i64 y106.1.At.Y)] 51), (4, ow Ay108_0 cy108_0 29 fl_TRect y108.1), (5, ow Ay110_0 cy110_0 22 fl_LTRect y110.1), (6, ow Ay112_0 cy112_0 22 fl_LTRect y112.1), (7, ow Ay114_0 cy114_0 22 fl_LTRect y114.1), (8, ow Ay116_0 cy116_0 22 fl_LTRect y116.1)] ?_ ?_
                  · cases hg128 : ((((g123 && (y110.2 == 0)) && (y112.2 == 0)) && ((y110.1.length : Int) == (y112.1.length : Int))) && (y114.2 == 0))
                    · refine Tr.pass rfl rfl rfl rfl rfl (by decide) ?_
                      refine Tr.pass rfl rfl rfl rfl rfl (by decide) ?_
                      refine Tr.val (wn rfl) rfl (fun _ _ h1 h2 => run_pickF (h1.ev rfl) (h1.ev rfl)) ?_
                      exact Tr.nil (Tr.fin0 (.cons rfl (.cons rfl (.cons rfl .nil))) (.cons rfl (.cons rfl (.cons rfl (.cons rfl (.cons rfl (.cons rfl (.cons rfl (.cons rfl .nil)))))))))
                    · refine Tr.val (wg rfl rfl rfl) rfl (fun _ _ h1 h2 => run_move (h1.ev rfl)) ?_
                      refine Tr.val (wg rfl rfl rfl) rfl (fun _ _ h1 h2 => run_eql (h1.ev rfl) (h1.ev rfl)) ?_
                      refine Tr.val (wn rfl) rfl (fun _ _ h1 h2 => run_pickT (h1.ev rfl) (h1.ev rfl)) ?_
                      exact Tr.nil (Tr.fin0 (.cons rfl (.cons rfl (.cons rfl .nil))) (.cons rfl (.cons rfl (.cons rfl (.cons rfl (.cons rfl (.cons rfl (.cons rfl (.cons rfl .nil)))))))))
                  · show Tr _ _ (LF [(14, (.slice Ay114_0 (y114.1).length cy114_0)), (16, (.slice Ay116_0 (y116.1).length cy116_0)), (103, (.bool (((((g123 && (y110.2 == 0)) && (y112.2 == 0)) && ((y110.1.length : Int) == (y112.1.length : Int))) && (y114.2 == 0)) && (y116.2 == 0))))]) (LE [(1, bx b100 #[(.bool p1.Flip), (.int .i64 p1.Quarters), (.int .i64 p1.At.X), (.int .i64 p1.At.Y)] 51), (2, ow Ay101_0 cy101_0 29 fl_TRect y101.1), (3, bx b107 #[(.bool y106.1.Flip), (.int .i64 y106.1.Quarters), (.int .i64 y106.1.At.X), (.int .i64 y106.1.At.Y)] 51), (4, ow Ay108_0 cy108_0 29 fl_TRect y108.1), (5, ow Ay110_0 cy110_0 22 fl_LTRect y110.1), (6, ow Ay112_0 cy112_0 22 fl_LTRect y112.1), (7, ow Ay114_0 cy114_0 22 fl_LTRect y114.1), (8, ow Ay116_0 cy116_0 22 fl_LTRect y116.1)]) _
                    refine Tr.val (wn rfl) rfl (fun _ _ h1 h2 => run_move (h1.ev rfl)) ?_
                    refine Tr.mid0 6 [(110, (.bool ((((((g123 && (y110.2 == 0)) && (y112.2 == 0)) && ((y110.1.length : Int) == (y112.1.length : Int))) && (y114.2 == 0)) && (y116.2 == 0)) && ((y114.1.length : Int) == (y116.1.length : Int)))))] [(1, bx b100 #[(.bool p1.Flip), (.int .i64 p1.Quarters), (.int .i64 p1.At.X), (.int .i64 p1.At.Y)] 51), (2, ow Ay101_0 cy101_0 29 fl_TRect y101.1), (3, bx b107 #[(.bool y106.1.Flip), (.int .i64 y106.1.Quarters), (.int .i64 y106.1.At.X), (.int .i64 y106.1.At.Y)] 51), (4, ow Ay108_0 cy108_0 29 fl_TRect y108.1), (5, ow Ay110_0 cy110_0 22 fl_LTRect y110.1), (6, ow Ay112_0 cy112_0 22 fl_LTRect y112.1), (7, ow Ay114_0 cy114_0 22 fl_LTRect y114.1), (8, ow Ay116_0 cy116_0 22 fl_LTRect y116.1)] ?_ ?_
                    · cases hg128 : (((((g123 && (y110.2 == 0)) && (y112.2 == 0)) && ((y110.1.length : Int) == (y112.1.length : Int))) && (y114.2 == 0)) && (y116.2 == 0))
                      · refine Tr.pass rfl rfl rfl rfl rfl (by decide) ?_
                        refine Tr.pass rfl rfl rfl rfl rfl (by decide) ?_
                        refine Tr.pass rfl rfl rfl rfl rfl (by decide) ?_
                        refine Tr.pass rfl rfl rfl rfl rfl (by decide) ?_
                        refine Tr.pass rfl rfl rfl rfl rfl (by decide) ?_
                        refine Tr.val (wn rfl) rfl (fun _ _ h1 h2 => run_pickF (h1.ev rfl) (h1.ev rfl)) ?_
                        exact Tr.nil (Tr.fin0 (.cons rfl .nil) (.cons rfl (.cons rfl (.cons rfl (.cons rfl (.cons rfl (.cons rfl (.cons rfl (.cons rfl .nil)))))))))
                      · refine Tr.val (wg rfl rfl rfl) rfl (fun _ _ h1 h2 => run_move (h1.ev rfl)) ?_
                        refine Tr.val (wg rfl rfl rfl) rfl (fun _ _ h1 h2 => run_len un_40 (h1.ev rfl)) ?_
                        refine Tr.val (wg rfl rfl rfl) rfl (fun _ _ h1 h2 => run_move (h1.ev rfl)) ?_
                        refine Tr.val (wg rfl rfl rfl) rfl (fun _ _ h1 h2 => run_len un_40 (h1.ev rfl)) ?_
                        refine Tr.val (wg rfl rfl rfl) rfl (fun _ _ h1 h2 => run_eql (h1.ev rfl) (h1.ev rfl)) ?_
                        refine Tr.val (wn rfl) rfl (fun _ _ h1 h2 => run_pickT (h1.ev rfl) (h1.ev rfl)) ?_
                        exact Tr.nil (Tr.fin0 (.cons rfl .nil) (.cons rfl (.cons rfl (.cons rfl (.cons rfl (.cons rfl (.cons rfl (.cons rfl (.cons rfl .nil)))))))))
                    · show Tr _ _ (LF [(110, (.bool ((((((g123 && (y110.2 == 0)) && (y112.2 == 0)) && ((y110.1.length : Int) == (y112.1.length : Int))) && (y114.2 == 0)) && (y116.2 == 0)) && ((y114.1.length : Int) == (y116.1.length : Int)))))]) (LE [(1, bx b100 #[(.bool p1.Flip), (.int .i64 p1.Quarters), (.int .i64 p1.At.X), (.int .i64 p1.At.Y)] 51), (2, ow Ay101_0 cy101_0 29 fl_TRect y101.1), (3, bx b107 #[(.bool y106.1.Flip), (.int .i64 y106.1.Quarters), (.int .i64 y106.1.At.X), (.int .i64 y106.1.At.Y)] 51), (4, ow Ay108_0 cy108_0 29 fl_TRect y108.1), (5, ow Ay110_0 cy110_0 22 fl_LTRect y110.1), (6, ow Ay112_0 cy112_0 22 fl_LTRect y112.1), (7, ow Ay114_0 cy114_0 22 fl_LTRect y114.1), (8, ow Ay116_0 cy116_0 22 fl_LTRect y116.1)]) _
                      refine Tr.val (wn rfl) rfl (fun _ _ h1 h2 => run_move (h1.ev rfl)) ?_
                      obtain ⟨g127, hg127, H⟩ := bnd H
                      refine Tr.mid0 2 [(113, (.bool g127))] [(1, bx b100 #[(.bool p1.Flip), (.int .i64 p1.Quarters), (.int .i64 p1.At.X), (.int .i64 p1.At.Y)] 51), (2, ow Ay101_0 cy101_0 29 fl_TRect y101.1), (3, bx b107 #[(.bool y106.1.Flip), (.int .i64 y106.1.Quarters), (.int .i64 y106.1.At.X), (.int .i64 y106.1.At.Y)] 51), (4, ow Ay108_0 cy108_0 29 fl_TRect y108.1), (5, ow Ay110_0 cy110_0 22 fl_LTRect y110.1), (6, ow Ay112_0 cy112_0 22 fl_LTRect y112.1), (7, ow Ay114_0 cy114_0 22 fl_LTRect y114.1), (8, ow Ay116_0 cy116_0 22 fl_LTRect y116.1)] ?_ ?_
                      · cases hg128 : ((((((g123 && (y110.2 == 0)) && (y112.2 == 0)) && ((y110.1.length : Int) == (y112.1.length : Int))) && (y114.2 == 0)) && (y116.2 == 0)) && ((y114.1.length : Int) == (y116.1.length : Int)))
                        · rw [hg128] at hg127
                          rw [if_neg (by decide)] at hg127
                          have H := hg127
                          obtain rfl := Option.some.inj H
                          refine Tr.pass rfl rfl rfl rfl rfl (by decide) ?_
                          refine Tr.val (wn rfl) rfl (fun _ _ h1 h2 => run_pickF (h1.ev rfl) (h1.ev rfl)) ?_
                          exact Tr.nil (Tr.fin0 (.cons rfl .nil) (.cons rfl (.cons rfl (.cons rfl (.cons rfl (.cons rfl (.cons rfl (.cons rfl (.cons rfl .nil)))))))))
                        · rw [hg128] at hg127
                          rw [if_pos rfl] at hg127
                          have H := hg127
                          obtain ⟨y128, hy128, H⟩ := bnd H
                          refine Tr.call0 (r := (.bool y128)) (wg rfl rfl rfl) rfl Try.call12 evl_nil (fun W hW => F_etchhouselaw1_awake_ok N y128 hy128 (HF.start _)) ?_
                          refine Tr.val (wn rfl) rfl (fun _ _ h1 h2 => run_pickT (h1.ev rfl) (h1.ev rfl)) ?_
                          obtain rfl := Option.some.inj H
                          exact Tr.nil (Tr.fin0 (.cons rfl .nil) (.cons rfl (.cons rfl (.cons rfl (.cons rfl (.cons rfl (.cons rfl (.cons rfl (.cons rfl .nil)))))))))
                      · show Tr _ _ (LF [(113, (.bool g127))]) (LE [(1, bx b100 #[(.bool p1.Flip), (.int .i64 p1.Quarters), (.int .i64 p1.At.X), (.int .i64 p1.At.Y)] 51), (2, ow Ay101_0 cy101_0 29 fl_TRect y101.1), (3, bx b107 #[(.bool y106.1.Flip), (.int .i64 y106.1.Quarters), (.int .i64 y106.1.At.X), (.int .i64 y106.1.At.Y)] 51), (4, ow Ay108_0 cy108_0 29 fl_TRect y108.1), (5, ow Ay110_0 cy110_0 22 fl_LTRect y110.1), (6, ow Ay112_0 cy112_0 22 fl_LTRect y112.1), (7, ow Ay114_0 cy114_0 22 fl_LTRect y114.1), (8, ow Ay116_0 cy116_0 22 fl_LTRect y116.1)]) _
                        refine Tr.val (wn rfl) rfl (fun _ _ h1 h2 => run_assign (h1.ev rfl)) ?_
                        refine Tr.nil (Tr.normThen ?_)
                        refine Tr.ret ?_
                        obtain rfl := Option.some.inj H
                        exact Tr.out (m := [(.bool g127)]) [] (res_tmp rfl res_nil) (fun W hW => ⟨rfl, hW.low leB⟩)

theorem F_shape_Region_ok (N : Nat) {w : Bs} (p0 : (List TRect)) (Ap0_0 : Option Addr) (cp0_0 : Nat) (hp0_0 : Sl w.R w.W fl_TRect Ap0_0 cp0_0 p0) (r : ((List TRect) × Int)) (H : F_shape_Region N p0 = some r) (hE : HF w w.W (LEn [emp])) : Calls Try.prog 24 [(.slice Ap0_0 (p0).length cp0_0)].toArray w.W fun e W' => ∃ u : (Option Addr × Nat), e = .returned (.tuple #[(.slice u.1 (r.1).length u.2), (.int .i64 r.2)]) ∧ (SlF u.1 (r.1).length u.2) ∧ HF w W' (LEn [ow u.1 u.2 29 fl_TRect r.1]) := by
  unfold F_shape_Region at H
  have leB := Bs.Le.refl w
  refine Tr.enter (n := 15) Try.func24 rfl rfl rfl hE ?_
  refine Tr.seq ?_
  refine Tr.region ?_
  refine Tr.val (wn rfl) rfl (fun _ _ h1 h2 => run_assign (h1.ev rfl)) ?_
  refine Tr.nilOwn 1 29 fl_TRect ?_
  show Tr _ _ (uf _ 2 (.slice none (([] : List TRect)).length 0)) _ _
  refine Tr.val (wn rfl) rfl (fun _ _ h1 h2 => run_assign (h1.ev rfl)) ?_
  refine Tr.nil (Tr.normThen ?_)
  refine Tr.seq ?_
  refine Tr.seq ?_
  refine Tr.region ?_
  refine Tr.val (wn rfl) rfl (fun _ _ h1 h2 => run_move (h1.ev rfl)) ?_
  obtain ⟨y100, hy100, H⟩ := bnd H
  refine Tr.call0 (r := (.int .i64 y100)) (wn rfl) rfl Try.call39 (evl_cons rfl evl_nil) (fun W hW => F_shape_CheckRects_ok p0 Ap0_0 cp0_0 (hp0_0.ext hW.extAll) y100 hy100 (HF.start _)) ?_
  refine Tr.val (wn rfl) rfl (fun _ _ h1 h2 => run_assign (h1.ev rfl)) ?_
  refine Tr.nil (Tr.normThen ?_)
  refine Tr.seq ?_
  refine Tr.region ?_
  refine Tr.val (wn rfl) rfl (fun _ _ h1 h2 => run_move (h1.ev rfl)) ?_
  refine Tr.val (wn rfl) rfl (fun _ _ h1 h2 => run_neq (h1.ev rfl) (h1.ev rfl)) ?_
  refine Tr.nil (Tr.normThen ?_)
  refine Tr.cond rfl H (fun H => ?_) (fun H => ?_)
  · refine Tr.seq ?_
    refine Tr.region ?_
    refine Tr.val (wn rfl) rfl (fun _ _ h1 h2 => run_move (h1.ev rfl)) ?_
    refine Tr.val (wn rfl) rfl (fun _ _ h1 h2 => run_assign (h1.ev rfl)) ?_
    refine Tr.nilOwn 2 29 fl_TRect ?_
    show Tr _ _ (uf _ 2 (.slice none (([] : List TRect)).length 0)) _ _
    refine Tr.val (wn rfl) rfl (fun _ _ h1 h2 => run_assign (h1.ev rfl)) ?_
    refine Tr.nil (Tr.normThen ?_)
    refine Tr.ret (Tr.retThen ?_)
    obtain rfl := Option.some.inj H
    exact Tr.out (m := [(.slice none (([] : List TRect)).length 0), (.int .i64 y100)]) [] (res_tmp rfl (res_tmp rfl res_nil)) (fun W hW => ⟨(none, 0), rfl, slf_nil, HF.lowE leB (hW.pick (ks := [2]) (by decide) (pk_cons rfl pk_nil)) ⟨ow_any _ _ _ _ tr_TRect, trivial⟩⟩)
  · refine Tr.skip (Tr.normThen ?_)
    refine Tr.seq ?_
    refine Tr.region ?_
    refine Tr.val (wn rfl) rfl (fun _ _ h1 h2 => run_move (h1.ev rfl)) ?_
    obtain ⟨y101, hy101, H⟩ := bnd H
    refine Tr.callG [3] [emp] (U := (Option Addr × Nat)) (fun u => (.slice u.1 (y101).length u.2)) (fun O W u => SlF u.1 (y101).length u.2) (fun u => [ow u.1 u.2 104 fl_TBand y101]) rfl (pk_cons rfl pk_nil) (fun _ => rfl) (wn rfl) rfl Try.call40 (evl_cons rfl evl_nil) (fun W hW hp hE => F_shape_SetOf_ok N p0 Ap0_0 cp0_0 (hp0_0.ext (hW.extS hp)) y101 hy101 hE) ?_
    intro w u le102 hu
    obtain ⟨Ay101_0, cy101_0⟩ := u
    have gy101_0 := hu
    replace hp0_0 := hp0_0.leR le102
    replace leB := leB.trans le102
    have hgy101_0 : SlF Ay101_0 (y101).length cy101_0 := gy101_0 --@phi
    show Tr _ _ (uf _ 11 (.slice Ay101_0 (y101).length cy101_0)) (up _ 3 (ow Ay101_0 cy101_0 104 fl_TBand y101)) _
    obtain ⟨y103, hy103, H⟩ := bnd H
    refine Tr.callM [4] [emp] (U := (Option Addr × Nat)) (fun u => (.tuple #[(.slice u.1 (y103.1).length u.2), (.int .i64 y103.2)])) (fun u => SlF u.1 (y103.1).length u.2) (fun u => [ow u.1 u.2 29 fl_TRect y103.1]) rfl (pk_cons rfl pk_nil) (fun _ => rfl) (wn rfl) rfl Try.call48 (evl_cons rfl evl_nil) (fun W hW hp hE => F_shape_Set__Told_ok N y101 Ay101_0 cy101_0 (hW.slS (k := 3) rfl hp rfl) y103 hy103 hE) ?_
    intro u hu
    obtain ⟨Ay103_0, cy103_0⟩ := u
    have gy103_0 := hu
    have hgy103_0 : SlF Ay103_0 (y103.1).length cy103_0 := gy103_0 --@phi
    show Tr _ _ (uf _ 12 (.tuple #[(.slice Ay103_0 (y103.1).length cy103_0), (.int .i64 y103.2)])) (up _ 4 (ow Ay103_0 cy103_0 29 fl_TRect y103.1)) _
    refine Tr.val (wn rfl) rfl (fun _ _ h1 h2 => run_extract (h1.ev rfl) rfl) ?_
    refine Tr.val (wn rfl) rfl (fun _ _ h1 h2 => run_extract (h1.ev rfl) rfl) ?_
    refine Tr.val (wn rfl) rfl (fun _ _ h1 h2 => run_assign (h1.ev rfl)) ?_
    refine Tr.val (wn rfl) rfl (fun _ _ h1 h2 => run_assign (h1.ev rfl)) ?_
    refine Tr.nil (Tr.normThen ?_)
    refine Tr.ret ?_
    obtain rfl := Option.some.inj H
    exact Tr.out (m := [(.slice Ay103_0 (y103.1).length cy103_0), (.int .i64 y103.2)]) [] (res_tmp rfl (res_tmp rfl res_nil)) (fun W hW => ⟨(Ay103_0, cy103_0), rfl, hgy103_0, HF.lowE leB (hW.pick (ks := [4]) (by decide) (pk_cons rfl pk_nil)) ⟨ow_any _ _ _ _ tr_TRect, trivial⟩⟩)

end Go.Proofs.Ytnlhigfglfahiaa
