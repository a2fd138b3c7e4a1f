/- The walks: each function computes its plain function. -/
import Derived.Test.YtcebbfodkadggaaYWb
namespace Go.Proofs.Ytcebbfodkadggaa
open Go.RowKit
set_option maxRecDepth 100000
set_option maxHeartbeats 1000000
theorem F_etchhouseref1_TurnedRegion_ok (N : Nat) {w : Bs} (p0 : (List TRect)) (Ap0_0 : Option Addr) (cp0_0 : Nat) (hp0_0 : Sl w.R w.W fl_TRect Ap0_0 cp0_0 p0) (p1 : TTurn) (r : ((List TRect) × Int)) (H : F_etchhouseref1_TurnedRegion N p0 p1 = some r) (hE : HF w w.W (LEn [])) : Calls Try.prog 36 [(.slice Ap0_0 (p0).length cp0_0), (.agg #[(.bool p1.Flip), (.int .i64 p1.Quarters), (.int .i64 p1.At.X), (.int .i64 p1.At.Y)])].toArray w.W fun e W' => ∃ (w' : Bs) (u : (Option Addr × Nat)), w.Le w' ∧ e = .returned (.tuple #[(.slice u.1 (r.1).length u.2), (.int .i64 r.2)]) ∧ (Sl w'.O w'.W fl_TRect u.1 u.2 r.1) ∧ HF w' W' (LEn []) := by
  unfold F_etchhouseref1_TurnedRegion at H
  have leB := Bs.Le.refl w
  refine Tr.enter (n := 64) Try.func36 rfl rfl rfl hE ?_
  refine Tr.seq ?_
  refine Tr.region ?_
  refine Tr.box 1 (cs := [(.bool p1.Flip), (.int .i64 p1.Quarters), (.int .i64 p1.At.X), (.int .i64 p1.At.Y)]) (wn rfl) rfl rfl rfl fun b100 => ?_
  refine Tr.val (wn rfl) rfl (fun _ _ h1 h2 => run_assign (h1.ev rfl)) ?_
  refine Tr.nilOwn 2 29 fl_TRect ?_
  show Tr _ _ (uf _ 4 (.slice none (([] : List TRect)).length 0)) _ _
  refine Tr.val (wn rfl) rfl (fun _ _ h1 h2 => run_assign (h1.ev rfl)) ?_
  refine Tr.nil (Tr.normThen ?_)
  refine Tr.seq ?_
  refine Tr.seq ?_
  refine Tr.region ?_
  refine Tr.val (wn rfl) rfl (fun _ _ h1 h2 => run_move (h1.ev rfl)) ?_
  obtain ⟨y101, hy101, H⟩ := bnd H
  refine Tr.call0 (r := (.int .i64 y101)) (wn rfl) rfl Try.call18 (evl_cons rfl evl_nil) (fun W hW => F_etchhouseref1_CheckRegion_ok N p0 Ap0_0 cp0_0 (hp0_0.ext hW.extAll) y101 hy101 (HF.start _)) ?_
  refine Tr.val (wn rfl) rfl (fun _ _ h1 h2 => run_assign (h1.ev rfl)) ?_
  refine Tr.nil (Tr.normThen ?_)
  refine Tr.seq ?_
  refine Tr.region ?_
  refine Tr.val (wn rfl) rfl (fun _ _ h1 h2 => run_move (h1.ev rfl)) ?_
  refine Tr.val (wn rfl) rfl (fun _ _ h1 h2 => run_neq (h1.ev rfl) (h1.ev rfl)) ?_
  refine Tr.nil (Tr.normThen ?_)
  refine Tr.cond rfl H (fun H => ?_) (fun H => ?_)
  · refine Tr.seq ?_
    refine Tr.region ?_
    refine Tr.val (wn rfl) rfl (fun _ _ h1 h2 => run_move (h1.ev rfl)) ?_
    refine Tr.val (wn rfl) rfl (fun _ _ h1 h2 => run_assign (h1.ev rfl)) ?_
    refine Tr.nilOwn 3 29 fl_TRect ?_
    show Tr _ _ (uf _ 4 (.slice none (([] : List TRect)).length 0)) _ _
    refine Tr.val (wn rfl) rfl (fun _ _ h1 h2 => run_assign (h1.ev rfl)) ?_
    refine Tr.nil (Tr.normThen ?_)
    refine Tr.ret (Tr.retThen ?_)
    obtain rfl := Option.some.inj H
    refine Tr.freeze 3 rfl fun w le103 hz102 => ?_
    replace hp0_0 := hp0_0.leR le103
    replace leB := leB.trans le103
    exact Tr.out (m := [(.slice none (([] : List TRect)).length 0), (.int .i64 y101)]) [] (res_tmp rfl (res_tmp rfl res_nil)) (fun W hW => ⟨w, (none, 0), leB, rfl, hz102, hW.pick (ks := []) (by decide) pk_nil⟩)
  · refine Tr.skip (Tr.normThen ?_)
    refine Tr.seq ?_
    refine Tr.seq ?_
    refine Tr.region ?_
    refine Tr.val (wn rfl) rfl (fun _ _ h1 h2 => run_loadN (cs := [(.bool p1.Flip), (.int .i64 p1.Quarters), (.int .i64 p1.At.X), (.int .i64 p1.At.Y)]) ag_42 sz_42 (h1.ev rfl) (CellsAt.take (rdb h2 (vs := [(.bool p1.Flip), (.int .i64 p1.Quarters), (.int .i64 p1.At.X), (.int .i64 p1.At.Y)]) (k := 1) rfl 0) 4) rfl) ?_
    obtain ⟨y104, hy104, H⟩ := bnd H
    refine Tr.call0 (r := (.int .i64 y104)) (wn rfl) rfl Try.call30 (evl_cons rfl evl_nil) (fun W hW => F_etchhouseref1_CheckTurn_ok p1 y104 hy104 (HF.start _)) ?_
    refine Tr.val (wn rfl) rfl (fun _ _ h1 h2 => run_assign (h1.ev rfl)) ?_
    refine Tr.nil (Tr.normThen ?_)
    refine Tr.seq ?_
    refine Tr.region ?_
    refine Tr.val (wn rfl) rfl (fun _ _ h1 h2 => run_move (h1.ev rfl)) ?_
    refine Tr.val (wn rfl) rfl (fun _ _ h1 h2 => run_neq (h1.ev rfl) (h1.ev rfl)) ?_
    refine Tr.nil (Tr.normThen ?_)
    refine Tr.cond rfl H (fun H => ?_) (fun H => ?_)
    · refine Tr.seq ?_
      refine Tr.region ?_
      refine Tr.val (wn rfl) rfl (fun _ _ h1 h2 => run_move (h1.ev rfl)) ?_
      refine Tr.val (wn rfl) rfl (fun _ _ h1 h2 => run_assign (h1.ev rfl)) ?_
      refine Tr.nilOwn 4 29 fl_TRect ?_
      show Tr _ _ (uf _ 4 (.slice none (([] : List TRect)).length 0)) _ _
      refine Tr.val (wn rfl) rfl (fun _ _ h1 h2 => run_assign (h1.ev rfl)) ?_
      refine Tr.nil (Tr.normThen ?_)
      refine Tr.ret (Tr.retThen ?_)
      obtain rfl := Option.some.inj H
      refine Tr.freeze 4 rfl fun w le106 hz105 => ?_
      replace hp0_0 := hp0_0.leR le106
      replace leB := leB.trans le106
      exact Tr.out (m := [(.slice none (([] : List TRect)).length 0), (.int .i64 y104)]) [] (res_tmp rfl (res_tmp rfl res_nil)) (fun W hW => ⟨w, (none, 0), leB, rfl, hz105, hW.pick (ks := []) (by decide) pk_nil⟩)
    · refine Tr.skip (Tr.normThen ?_)
      refine Tr.seq ?_
      refine Tr.region ?_
      refine Tr.val (wn rfl) rfl (fun _ _ h1 h2 => run_assign (h1.ev rfl)) ?_
      refine Tr.nilOwn 5 29 fl_TRect ?_
      show Tr _ _ (uf _ 8 (.slice none (([] : List TRect)).length 0)) _ _
      refine Tr.nil (Tr.normThen ?_)
      refine Tr.seq ?_
      refine Tr.seq ?_
      refine Tr.region ?_
      refine Tr.val (wn rfl) rfl (fun _ _ h1 h2 => run_assign (h1.ev rfl)) ?_
      refine Tr.nil (Tr.normThen ?_)
      refine Tr.block ?_
      refine Tr.loop (σ := (List TRect) × Int × (Option Addr) × Nat) (fun m w s => F_etchhouseref1_TurnedRegion_L1 N p0 p1 m s.1 s.2.1 = some r ∧ SlF s.2.2.1 (s.1).length s.2.2.2) (fun s => [(0, (.slice Ap0_0 (p0).length cp0_0)), (3, (.pointer (some ⟨b100, 0, none⟩))), (8, (.slice s.2.2.1 (s.1).length s.2.2.2)), (9, (.int .i64 s.2.1))]) (fun s => [(1, bx b100 #[(.bool p1.Flip), (.int .i64 p1.Quarters), (.int .i64 p1.At.X), (.int .i64 p1.At.Y)] 42), (5, ow s.2.2.1 s.2.2.2 29 fl_TRect s.1)]) N (([] : List TRect), 0, none, 0) ⟨H, slf_nil⟩ (.cons rfl (.cons rfl (.cons rfl (.cons rfl .nil)))) (.cons rfl (.cons rfl .nil)) (fun _ _ h => noSome (h.1)) ?_
      intro w leF_etchhouseref1_TurnedRegion_L1 mF_etchhouseref1_TurnedRegion_L1 s hs
      obtain ⟨l143, x144, Al143, cl143⟩ := s
      obtain ⟨H, hl143⟩ := hs
      replace H : F_etchhouseref1_TurnedRegion_L1 N p0 p1 (mF_etchhouseref1_TurnedRegion_L1 + 1) l143 x144 = some r := H
      replace hp0_0 := hp0_0.leR leF_etchhouseref1_TurnedRegion_L1
      replace leB := leB.trans leF_etchhouseref1_TurnedRegion_L1
      replace hl143 : SlF Al143 (l143).length cl143 := hl143
      rw [F_etchhouseref1_TurnedRegion_L1.eq_2] at H
      show Tr _ _ (LF [(0, (.slice Ap0_0 (p0).length cp0_0)), (3, (.pointer (some ⟨b100, 0, none⟩))), (8, (.slice Al143 (l143).length cl143)), (9, (.int .i64 x144))]) (LE [(1, bx b100 #[(.bool p1.Flip), (.int .i64 p1.Quarters), (.int .i64 p1.At.X), (.int .i64 p1.At.Y)] 42), (5, ow Al143 cl143 29 fl_TRect l143)]) _
      refine Tr.seq ?_
      refine Tr.seq ?_
      refine Tr.region ?_
      refine Tr.val (wn rfl) rfl (fun _ _ h1 h2 => run_move (h1.ev rfl)) ?_
      refine Tr.val (wn rfl) rfl (fun _ _ h1 h2 => run_move (h1.ev rfl)) ?_
      refine Tr.val (wn rfl) rfl (fun _ _ h1 h2 => run_len un_22 (h1.ev rfl)) ?_
      refine Tr.val (wn rfl) rfl (fun _ _ h1 h2 => run_lss (h1.ev rfl) (h1.ev rfl)) ?_
      refine Tr.nil (Tr.normThen ?_)
      refine Tr.cond rfl H (fun H => ?_) (fun H => ?_)
      · refine Tr.skip (Tr.normThen ?_)
        refine Tr.seq ?_
        refine Tr.block ?_
        refine Tr.seq ?_
        obtain ⟨x146, hx146, H⟩ := bnd H
        obtain ⟨hx1460, hx1461, hx1462⟩ := idx_some hx146
        obtain ⟨y147, hy147, H⟩ := bnd H
        refine Tr.drawF 7 [(6, .makeFunc (.func 0) #[] #[])] [(6, ⟨10, 12, (.func (.func 0) #[] #[]), fun b => .pointer (some ⟨b, 0, none⟩), fun b => bx b #[(.int .i64 0), (.int .i64 0), (.int .i64 0), (.int .i64 0)] 29⟩)] [(0, (.slice Ap0_0 (p0).length cp0_0)), (3, (.pointer (some ⟨b100, 0, none⟩))), (8, (.slice Al143 (l143).length cl143)), (9, (.int .i64 x144)), (10, (.func (.func 0) #[] #[])), (21, (.int .i64 x144)), (22, (.slice Ap0_0 (p0).length cp0_0)), (23, (.int .i64 (p0.length : Int))), (24, (.bool (decide (x144 < (p0.length : Int))))), (27, (.slice Ap0_0 (p0).length cp0_0)), (28, (.int .i64 x144)), (29, (.pointer (some ⟨adB Ap0_0, adO Ap0_0 + (x144).toNat * 4, none⟩))), (30, (.agg #[(.int .i64 x146.X0), (.int .i64 x146.Y0), (.int .i64 x146.X1), (.int .i64 x146.Y1)])), (31, (.agg #[(.bool p1.Flip), (.int .i64 p1.Quarters), (.int .i64 p1.At.X), (.int .i64 p1.At.Y)])), (32, (.agg #[(.int .i64 y147.X0), (.int .i64 y147.Y0), (.int .i64 y147.X1), (.int .i64 y147.Y1)]))] (by kernel_rfl) (by kernel_rfl) (by kernel_rfl) (by kernel_rfl) (by kernel_rfl) (by kernel_rfl) (by kernel_rfl) (fall_cons (fr_alloc rfl rfl ze_29) fall_nil) (fall_cons rfl fall_nil) (fall_cons rfl fall_nil) ?_ ?_
        · refine Tq.val (wn rfl) rfl (fun _ _ h1 h2 => run_move (h1.ev rfl)) ?_
          refine Tq.val (wn rfl) rfl (fun _ _ h1 h2 => run_move (h1.ev rfl)) ?_
          refine Tq.val (wn rfl) rfl (fun _ _ h1 h2 => run_indexAddr el_22 (h1.ev rfl) hp0_0.form (h1.ev rfl) hx1460 hx1461) ?_
          refine Tq.val (wn rfl) rfl (fun _ _ h1 h2 => run_loadN (cs := [(.int .i64 x146.X0), (.int .i64 x146.Y0), (.int .i64 x146.X1), (.int .i64 x146.Y1)]) ag_29 sz_29 (h1.ev rfl) (CellsAt.take (rdF ef_TRect hp0_0 hx1462 h2) 4) rfl) ?_
          refine Tq.val (wn rfl) rfl (fun _ _ h1 h2 => run_loadN (cs := [(.bool p1.Flip), (.int .i64 p1.Quarters), (.int .i64 p1.At.X), (.int .i64 p1.At.Y)]) ag_42 sz_42 (h1.ev rfl) (CellsAt.take (rdb h2 (vs := [(.bool p1.Flip), (.int .i64 p1.Quarters), (.int .i64 p1.At.X), (.int .i64 p1.At.Y)]) (k := 1) rfl 0) 4) rfl) ?_
          refine Tq.call0 (r := (.agg #[(.int .i64 y147.X0), (.int .i64 y147.Y0), (.int .i64 y147.X1), (.int .i64 y147.Y1)])) (wn rfl) rfl Try.call73 (evl_cons rfl (evl_cons rfl evl_nil)) (fun W hW => F_etchhouseref1_TurnRect_ok N x146 p1 y147 hy147 (HF.start _)) ?_
          refine Tq.mkFunc (vs := []) (wn rfl) rfl evl_nil ?_
          exact Tq.fin (.cons rfl (.cons rfl (.cons rfl (.cons rfl (.cons rfl (.cons rfl (.cons rfl (.cons rfl (.cons rfl (.cons rfl (.cons rfl (.cons rfl (.cons rfl (.cons rfl (.cons rfl .nil)))))))))))))))
        · intro bs145
          refine Tr.sel (lf := [(0, (.slice Ap0_0 (p0).length cp0_0)), (3, (.pointer (some ⟨b100, 0, none⟩))), (8, (.slice Al143 (l143).length cl143)), (9, (.int .i64 x144)), (10, (.pointer (some ⟨(bs145 6), 0, none⟩))), (32, (.agg #[(.int .i64 y147.X0), (.int .i64 y147.Y0), (.int .i64 y147.X1), (.int .i64 y147.Y1)]))]) (le := [(1, bx b100 #[(.bool p1.Flip), (.int .i64 p1.Quarters), (.int .i64 p1.At.X), (.int .i64 p1.At.Y)] 42), (5, ow Al143 cl143 29 fl_TRect l143), (12, bx (bs145 6) #[(.int .i64 0), (.int .i64 0), (.int .i64 0), (.int .i64 0)] 29)]) (.cons rfl (.cons rfl (.cons rfl (.cons rfl (.cons rfl (.cons rfl .nil)))))) (.cons rfl (.cons rfl (.cons rfl .nil))) ?_
          refine Tr.store 12 (cs := [(.int .i64 y147.X0), (.int .i64 y147.Y0), (.int .i64 y147.X1), (.int .i64 y147.Y1)]) [(.int .i64 y147.X0), (.int .i64 y147.Y0), (.int .i64 y147.X1), (.int .i64 y147.Y1)] (wn rfl) rfl rfl rfl rfl sz_29 rfl rfl rfl ?_
          refine Tr.nil (Tr.normThen ?_)
          refine Tr.seq ?_
          refine Tr.seq ?_
          refine Tr.region ?_
          refine Tr.val (wn rfl) rfl (fun _ _ h1 h2 => run_fieldAddr fo_29_0 (h1.ev rfl)) ?_
          refine Tr.val (wn rfl) rfl (fun _ _ h1 h2 => run_load1 ag_3 (h1.ev rfl) (rdb h2 (vs := [(.int .i64 y147.X0), (.int .i64 y147.Y0), (.int .i64 y147.X1), (.int .i64 y147.Y1)]) (k := 12) rfl 0) rfl) ?_
          obtain ⟨y148, hy148, H⟩ := bnd H
          refine Tr.call0 (r := (.bool y148)) (wn rfl) rfl Try.call55 (evl_cons rfl evl_nil) (fun W hW => F_etchhouseref1_At_ok y147.X0 y148 hy148 (HF.start _)) ?_
          refine Tr.val (wn rfl) rfl (fun _ _ h1 h2 => run_not (h1.ev rfl)) ?_
          refine Tr.val (wn rfl) rfl (fun _ _ h1 h2 => run_move (h1.ev rfl)) ?_
          obtain ⟨g150, hg150, H⟩ := bnd H
          refine Tr.mid0 5 [(0, (.slice Ap0_0 (p0).length cp0_0)), (3, (.pointer (some ⟨b100, 0, none⟩))), (8, (.slice Al143 (l143).length cl143)), (9, (.int .i64 x144)), (10, (.pointer (some ⟨(bs145 6), 0, none⟩))), (42, (.bool g150))] [(1, bx b100 #[(.bool p1.Flip), (.int .i64 p1.Quarters), (.int .i64 p1.At.X), (.int .i64 p1.At.Y)] 42), (5, ow Al143 cl143 29 fl_TRect l143), (12, bx (bs145 6) #[(.int .i64 y147.X0), (.int .i64 y147.Y0), (.int .i64 y147.X1), (.int .i64 y147.Y1)] 29)] ?_ ?_
          · cases hg161 : (!y148)
            · rw [hg161] at hg150
              rw [if_neg (by decide)] at hg150
              have H := hg150
              refine Tr.val (wg rfl rfl rfl) rfl (fun _ _ h1 h2 => run_fieldAddr fo_29_1 (h1.ev rfl)) ?_
              refine Tr.val (wg rfl rfl rfl) rfl (fun _ _ h1 h2 => run_load1 ag_3 (h1.ev rfl) (rdb h2 (vs := [(.int .i64 y147.X0), (.int .i64 y147.Y0), (.int .i64 y147.X1), (.int .i64 y147.Y1)]) (k := 12) rfl 1) rfl) ?_
              obtain ⟨y151, hy151, H⟩ := bnd H
              refine Tr.call0 (r := (.bool y151)) (wg rfl rfl rfl) rfl Try.call55 (evl_cons rfl evl_nil) (fun W hW => F_etchhouseref1_At_ok y147.Y0 y151 hy151 (HF.start _)) ?_
              refine Tr.val (wg rfl rfl rfl) rfl (fun _ _ h1 h2 => run_not (h1.ev rfl)) ?_
              refine Tr.val (wn rfl) rfl (fun _ _ h1 h2 => run_pickF (h1.ev rfl) (h1.ev rfl)) ?_
              obtain rfl := Option.some.inj H
              exact Tr.nil (Tr.fin0 (.cons rfl (.cons rfl (.cons rfl (.cons rfl (.cons rfl (.cons rfl .nil)))))) (.cons rfl (.cons rfl (.cons rfl .nil))))
            · rw [hg161] at hg150
              rw [if_pos rfl] at hg150
              have H := hg150
              obtain rfl := Option.some.inj H
              refine Tr.pass rfl rfl rfl rfl rfl (by decide) ?_
              refine Tr.pass rfl rfl rfl rfl rfl (by decide) ?_
              refine Tr.pass rfl rfl rfl rfl rfl (by decide) ?_
              refine Tr.pass rfl rfl rfl rfl rfl (by decide) ?_
              refine Tr.val (wn rfl) rfl (fun _ _ h1 h2 => run_pickT (h1.ev rfl) (h1.ev rfl)) ?_
              exact Tr.nil (Tr.fin0 (.cons rfl (.cons rfl (.cons rfl (.cons rfl (.cons rfl (.cons rfl .nil)))))) (.cons rfl (.cons rfl (.cons rfl .nil))))
          · show Tr _ _ (LF [(0, (.slice Ap0_0 (p0).length cp0_0)), (3, (.pointer (some ⟨b100, 0, none⟩))), (8, (.slice Al143 (l143).length cl143)), (9, (.int .i64 x144)), (10, (.pointer (some ⟨(bs145 6), 0, none⟩))), (42, (.bool g150))]) (LE [(1, bx b100 #[(.bool p1.Flip), (.int .i64 p1.Quarters), (.int .i64 p1.At.X), (.int .i64 p1.At.Y)] 42), (5, ow Al143 cl143 29 fl_TRect l143), (12, bx (bs145 6) #[(.int .i64 y147.X0), (.int .i64 y147.Y0), (.int .i64 y147.X1), (.int .i64 y147.Y1)] 29)]) _
            refine Tr.val (wn rfl) rfl (fun _ _ h1 h2 => run_move (h1.ev rfl)) ?_
            obtain ⟨g153, hg153, H⟩ := bnd H
            refine Tr.mid0 5 [(0, (.slice Ap0_0 (p0).length cp0_0)), (3, (.pointer (some ⟨b100, 0, none⟩))), (8, (.slice Al143 (l143).length cl143)), (9, (.int .i64 x144)), (10, (.pointer (some ⟨(bs145 6), 0, none⟩))), (48, (.bool g153))] [(1, bx b100 #[(.bool p1.Flip), (.int .i64 p1.Quarters), (.int .i64 p1.At.X), (.int .i64 p1.At.Y)] 42), (5, ow Al143 cl143 29 fl_TRect l143), (12, bx (bs145 6) #[(.int .i64 y147.X0), (.int .i64 y147.Y0), (.int .i64 y147.X1), (.int .i64 y147.Y1)] 29)] ?_ ?_
            · cases hg161 : g150
              · rw [hg161] at hg153
                rw [if_neg (by decide)] at hg153
                have H := hg153
                refine Tr.val (wg rfl rfl rfl) rfl (fun _ _ h1 h2 => run_fieldAddr fo_29_2 (h1.ev rfl)) ?_
                refine Tr.val (wg rfl rfl rfl) rfl (fun _ _ h1 h2 => run_load1 ag_3 (h1.ev rfl) (rdb h2 (vs := [(.int .i64 y147.X0), (.int .i64 y147.Y0), (.int .i64 y147.X1), (.int .i64 y147.Y1)]) (k := 12) rfl 2) rfl) ?_
                obtain ⟨y154, hy154, H⟩ := bnd H
                refine Tr.call0 (r := (.bool y154)) (wg rfl rfl rfl) rfl Try.call55 (evl_cons rfl evl_nil) (fun W hW => F_etchhouseref1_At_ok y147.X1 y154 hy154 (HF.start _)) ?_
                refine Tr.val (wg rfl rfl rfl) rfl (fun _ _ h1 h2 => run_not (h1.ev rfl)) ?_
                refine Tr.val (wn rfl) rfl (fun _ _ h1 h2 => run_pickF (h1.ev rfl) (h1.ev rfl)) ?_
                obtain rfl := Option.some.inj H
                exact Tr.nil (Tr.fin0 (.cons rfl (.cons rfl (.cons rfl (.cons rfl (.cons rfl (.cons rfl .nil)))))) (.cons rfl (.cons rfl (.cons rfl .nil))))
              · rw [hg161] at hg153
                rw [if_pos rfl] at hg153
                have H := hg153
                obtain rfl := Option.some.inj H
                refine Tr.pass rfl rfl rfl rfl rfl (by decide) ?_
                refine Tr.pass rfl rfl rfl rfl rfl (by decide) ?_
                refine Tr.pass rfl rfl rfl rfl rfl (by decide) ?_
                refine Tr.pass rfl rfl rfl rfl rfl (by decide) ?_
                refine Tr.val (wn rfl) rfl (fun _ _ h1 h2 => run_pickT (h1.ev rfl) (h1.ev rfl)) ?_
                exact Tr.nil (Tr.fin0 (.cons rfl (.cons rfl (.cons rfl (.cons rfl (.cons rfl (.cons rfl .nil)))))) (.cons rfl (.cons rfl (.cons rfl .nil))))
            · show Tr _ _ (LF [(0, (.slice Ap0_0 (p0).length cp0_0)), (3, (.pointer (some ⟨b100, 0, none⟩))), (8, (.slice Al143 (l143).length cl143)), (9, (.int .i64 x144)), (10, (.pointer (some ⟨(bs145 6), 0, none⟩))), (48, (.bool g153))]) (LE [(1, bx b100 #[(.bool p1.Flip), (.int .i64 p1.Quarters), (.int .i64 p1.At.X), (.int .i64 p1.At.Y)] 42), (5, ow Al143 cl143 29 fl_TRect l143), (12, bx (bs145 6) #[(.int .i64 y147.X0), (.int .i64 y147.Y0), (.int .i64 y147.X1), (.int .i64 y147.Y1)] 29)]) _
              refine Tr.val (wn rfl) rfl (fun _ _ h1 h2 => run_move (h1.ev rfl)) ?_
              obtain ⟨g156, hg156, H⟩ := bnd H
              refine Tr.mid0 5 [(0, (.slice Ap0_0 (p0).length cp0_0)), (3, (.pointer (some ⟨b100, 0, none⟩))), (8, (.slice Al143 (l143).length cl143)), (9, (.int .i64 x144)), (10, (.pointer (some ⟨(bs145 6), 0, none⟩))), (54, (.bool g156))] [(1, bx b100 #[(.bool p1.Flip), (.int .i64 p1.Quarters), (.int .i64 p1.At.X), (.int .i64 p1.At.Y)] 42), (5, ow Al143 cl143 29 fl_TRect l143), (12, bx (bs145 6) #[(.int .i64 y147.X0), (.int .i64 y147.Y0), (.int .i64 y147.X1), (.int .i64 y147.Y1)] 29)] ?_ ?_
              · cases hg161 : g153
                · rw [hg161] at hg156
                  rw [if_neg (by decide)] at hg156
                  have H := hg156
                  refine Tr.val (wg rfl rfl rfl) rfl (fun _ _ h1 h2 => run_fieldAddr fo_29_3 (h1.ev rfl)) ?_
                  refine Tr.val (wg rfl rfl rfl) rfl (fun _ _ h1 h2 => run_load1 ag_3 (h1.ev rfl) (rdb h2 (vs := [(.int .i64 y147.X0), (.int .i64 y147.Y0), (.int .i64 y147.X1), (.int .i64 y147.Y1)]) (k := 12) rfl 3) rfl) ?_
                  obtain ⟨y157, hy157, H⟩ := bnd H
                  refine Tr.call0 (r := (.bool y157)) (wg rfl rfl rfl) rfl Try.call55 (evl_cons rfl evl_nil) (fun W hW => F_etchhouseref1_At_ok y147.Y1 y157 hy157 (HF.start _)) ?_
                  refine Tr.val (wg rfl rfl rfl) rfl (fun _ _ h1 h2 => run_not (h1.ev rfl)) ?_
                  refine Tr.val (wn rfl) rfl (fun _ _ h1 h2 => run_pickF (h1.ev rfl) (h1.ev rfl)) ?_
                  obtain rfl := Option.some.inj H
                  exact Tr.nil (Tr.fin0 (.cons rfl (.cons rfl (.cons rfl (.cons rfl (.cons rfl (.cons rfl .nil)))))) (.cons rfl (.cons rfl (.cons rfl .nil))))
                · rw [hg161] at hg156
                  rw [if_pos rfl] at hg156
                  have H := hg156
                  obtain rfl := Option.some.inj H
                  refine Tr.pass rfl rfl rfl rfl rfl (by decide) ?_
                  refine Tr.pass rfl rfl rfl rfl rfl (by decide) ?_
                  refine Tr.pass rfl rfl rfl rfl rfl (by decide) ?_
                  refine Tr.pass rfl rfl rfl rfl rfl (by decide) ?_
                  refine Tr.val (wn rfl) rfl (fun _ _ h1 h2 => run_pickT (h1.ev rfl) (h1.ev rfl)) ?_
                  exact Tr.nil (Tr.fin0 (.cons rfl (.cons rfl (.cons rfl (.cons rfl (.cons rfl (.cons rfl .nil)))))) (.cons rfl (.cons rfl (.cons rfl .nil))))
              · show Tr _ _ (LF [(0, (.slice Ap0_0 (p0).length cp0_0)), (3, (.pointer (some ⟨b100, 0, none⟩))), (8, (.slice Al143 (l143).length cl143)), (9, (.int .i64 x144)), (10, (.pointer (some ⟨(bs145 6), 0, none⟩))), (54, (.bool g156))]) (LE [(1, bx b100 #[(.bool p1.Flip), (.int .i64 p1.Quarters), (.int .i64 p1.At.X), (.int .i64 p1.At.Y)] 42), (5, ow Al143 cl143 29 fl_TRect l143), (12, bx (bs145 6) #[(.int .i64 y147.X0), (.int .i64 y147.Y0), (.int .i64 y147.X1), (.int .i64 y147.Y1)] 29)]) _
                refine Tr.nil (Tr.normThen ?_)
                refine Tr.cond rfl H (fun H => ?_) (fun H => ?_)
                · refine Tr.seq ?_
                  refine Tr.region ?_
                  refine Tr.val (wn rfl) rfl (fun _ _ h1 h2 => run_assign (h1.ev rfl)) ?_
                  refine Tr.nilOwn 13 29 fl_TRect ?_
                  show Tr _ _ (uf _ 4 (.slice none (([] : List TRect)).length 0)) _ _
                  refine Tr.val (wn rfl) rfl (fun _ _ h1 h2 => run_assign (h1.ev rfl)) ?_
                  refine Tr.nil (Tr.normThen ?_)
                  refine Tr.ret (Tr.retThen (Tr.retBlock (Tr.retThen (Tr.retThen (Tr.retBlock (Tr.retThen ?_))))))
                  obtain rfl := Option.some.inj H
                  refine Tr.freeze 13 rfl fun w le159 hz158 => ?_
                  replace hp0_0 := hp0_0.leR le159
                  replace leB := leB.trans le159
                  replace leF_etchhouseref1_TurnedRegion_L1 := leF_etchhouseref1_TurnedRegion_L1.trans le159
                  exact Tr.out (m := [(.slice none (([] : List TRect)).length 0), (.int .i64 1)]) [] (res_tmp rfl (res_tmp rfl res_nil)) (fun W hW => ⟨w, (none, 0), leB, rfl, hz158, hW.pick (ks := []) (by decide) pk_nil⟩)
                · refine Tr.skip (Tr.normThen ?_)
                  refine Tr.region ?_
                  refine Tr.val (wn rfl) rfl (fun _ _ h1 h2 => run_move (h1.ev rfl)) ?_
                  refine Tr.val (wn rfl) rfl (fun _ _ h1 h2 => run_loadN (cs := [(.int .i64 y147.X0), (.int .i64 y147.Y0), (.int .i64 y147.X1), (.int .i64 y147.Y1)]) ag_29 sz_29 (h1.ev rfl) (CellsAt.take (rdb h2 (vs := [(.int .i64 y147.X0), (.int .i64 y147.Y0), (.int .i64 y147.X1), (.int .i64 y147.Y1)]) (k := 12) rfl 0) 4) rfl) ?_
                  refine Tr.buildSlice 14 (e := 29) (vs := [(0, (.agg #[(.int .i64 y147.X0), (.int .i64 y147.Y0), (.int .i64 y147.X1), (.int .i64 y147.Y1)]))]) (cs := [(.int .i64 y147.X0), (.int .i64 y147.Y0), (.int .i64 y147.X1), (.int .i64 y147.Y1)]) (wn rfl) rfl (evs_cons rfl evs_nil) (by kernel_rfl) fun b160 => ?_
                  obtain ⟨l161, hl161, H⟩ := bnd H
                  refine Tr.append 5 (t := fl_TRect) (l := l143) (l2 := [y147]) (wn rfl) rfl rfl rfl rfl (fun W hW => ⟨[[(.int .i64 y147.X0), (.int .i64 y147.Y0), (.int .i64 y147.X1), (.int .i64 y147.Y1)]], (.cons ⟨(), trivial, rfl⟩ .nil), rdb hW (vs := [(.int .i64 y147.X0), (.int .i64 y147.Y0), (.int .i64 y147.X1), (.int .i64 y147.Y1)]) (k := 14) rfl 0⟩) un_22 sz_29 zl_29 (by decide) by_29 rfl hl161 fun Al161 cl161 hAl161 => ?_
                  refine Tr.val (wn rfl) rfl (fun _ _ h1 h2 => run_assign (h1.ev rfl)) ?_
                  refine Tr.nil (Tr.normBlock (Tr.normThen ?_))
                  refine Tr.region ?_
                  refine Tr.val (wn rfl) rfl (fun _ _ h1 h2 => run_move (h1.ev rfl)) ?_
                  refine Tr.val (wn rfl) rfl (fun _ _ h1 h2 => run_add (h1.ev rfl) (h1.ev rfl)) ?_
                  refine Tr.val (wn rfl) rfl (fun _ _ h1 h2 => run_assign (h1.ev rfl)) ?_
                  refine Tr.nil ?_
                  exact Tr.backThen leF_etchhouseref1_TurnedRegion_L1 (l161, (w64 (x144 + 1)), Al161, cl161) ⟨H, hAl161⟩ (.cons rfl (.cons rfl (.cons rfl (.cons rfl .nil)))) (.cons rfl (.cons rfl .nil))
      · refine Tr.exit (Tr.exitThen (Tr.exitThen (Tr.exitBlock (Tr.normThen ?_))))
        refine Tr.seq ?_
        refine Tr.region ?_
        refine Tr.val (wn rfl) rfl (fun _ _ h1 h2 => run_move (h1.ev rfl)) ?_
        obtain ⟨y162, hy162, H⟩ := bnd H
        refine Tr.callM [15] [emp] (U := (Option Addr × Nat)) (fun u => (.slice u.1 (y162).length u.2)) (fun u => SlF u.1 (y162).length u.2) (fun u => [ow u.1 u.2 29 fl_TRect y162]) rfl (pk_cons rfl pk_nil) (fun _ => rfl) (wn rfl) rfl Try.call53 (evl_cons rfl evl_nil) (fun W hW hp hE => F_etchhouseref1_Canonical_ok N l143 Al143 cl143 (hW.slS (k := 5) rfl hp rfl) y162 hy162 hE) ?_
        intro u hu
        obtain ⟨Ay162_0, cy162_0⟩ := u
        have gy162_0 := hu
        have hgy162_0 : SlF Ay162_0 (y162).length cy162_0 := gy162_0 --@phi
        show Tr _ _ (uf _ 60 (.slice Ay162_0 (y162).length cy162_0)) (up _ 15 (ow Ay162_0 cy162_0 29 fl_TRect y162)) _
        refine Tr.freeze 15 rfl fun w le165 hz164 => ?_
        replace hp0_0 := hp0_0.leR le165
        replace leB := leB.trans le165
        replace leF_etchhouseref1_TurnedRegion_L1 := leF_etchhouseref1_TurnedRegion_L1.trans le165
        obtain ⟨y166, hy166, H⟩ := bnd H
        refine Tr.callG [] [] (U := (Option Addr × Nat)) (fun u => (.tuple #[(.slice u.1 (y166.1).length u.2), (.int .i64 y166.2)])) (fun O W u => Sl O W fl_TRect u.1 u.2 y166.1) (fun u => []) rfl pk_nil (fun _ => rfl) (wn rfl) rfl Try.call52 (evl_cons rfl evl_nil) (fun W hW hp hE => F_etchhouseref1_limited_ok y162 Ay162_0 cy162_0 (hz164.extO (hW.extS hp)) y166 hy166 hE) ?_
        intro w u le167 hu
        obtain ⟨Ay166_0, cy166_0⟩ := u
        have gy166_0 := hu
        replace hp0_0 := hp0_0.leR le167
        replace hz164 := hz164.le le167
        replace leB := leB.trans le167
        replace leF_etchhouseref1_TurnedRegion_L1 := leF_etchhouseref1_TurnedRegion_L1.trans le167
        have hgy166_0 : Sl w.O w.W fl_TRect Ay166_0 cy166_0 y166.1 := gy166_0 --@phi
        show Tr _ _ (uf _ 61 (.tuple #[(.slice Ay166_0 (y166.1).length cy166_0), (.int .i64 y166.2)])) (_) _
        refine Tr.val (wn rfl) rfl (fun _ _ h1 h2 => run_extract (h1.ev rfl) rfl) ?_
        refine Tr.val (wn rfl) rfl (fun _ _ h1 h2 => run_extract (h1.ev rfl) rfl) ?_
        refine Tr.val (wn rfl) rfl (fun _ _ h1 h2 => run_assign (h1.ev rfl)) ?_
        refine Tr.val (wn rfl) rfl (fun _ _ h1 h2 => run_assign (h1.ev rfl)) ?_
        refine Tr.nil (Tr.normThen ?_)
        refine Tr.ret ?_
        obtain rfl := Option.some.inj H
        exact Tr.out (m := [(.slice Ay166_0 (y166.1).length cy166_0), (.int .i64 y166.2)]) [] (res_tmp rfl (res_tmp rfl res_nil)) (fun W hW => ⟨w, (Ay166_0, cy166_0), leB, rfl, hgy166_0, hW.pick (ks := []) (by decide) pk_nil⟩)

theorem F_shape_AreaOf_ok {w : Bs} (p0 : (List TRect)) (Ap0_0 : Option Addr) (cp0_0 : Nat) (hp0_0 : Sl w.R w.W fl_TRect Ap0_0 cp0_0 p0) (r : Int) (H : F_shape_AreaOf p0 = some r) (hE : HF w w.W E0) : Calls Try.prog 82 [(.slice Ap0_0 (p0).length cp0_0)].toArray w.W fun e W' => e = .returned (.int .i64 r) ∧ HF w W' E0 := by
  unfold F_shape_AreaOf at H
  have leB := Bs.Le.refl w
  refine Tr.enter (n := 27) Try.func82 rfl rfl rfl hE ?_
  refine Tr.seq ?_
  refine Tr.region ?_
  refine Tr.val (wn rfl) rfl (fun _ _ h1 h2 => run_assign (h1.ev rfl)) ?_
  refine Tr.nil (Tr.normThen ?_)
  refine Tr.seq ?_
  refine Tr.region ?_
  refine Tr.val (wn rfl) rfl (fun _ _ h1 h2 => run_assign (h1.ev rfl)) ?_
  refine Tr.nil (Tr.normThen ?_)
  refine Tr.seq ?_
  refine Tr.seq ?_
  refine Tr.region ?_
  refine Tr.val (wn rfl) rfl (fun _ _ h1 h2 => run_move (h1.ev rfl)) ?_
  refine Tr.val (wn rfl) rfl (fun _ _ h1 h2 => run_len un_22 (h1.ev rfl)) ?_
  refine Tr.val (wn rfl) rfl (fun _ _ h1 h2 => run_move (h1.ev rfl)) ?_
  refine Tr.nil (Tr.normThen ?_)
  refine Tr.block ?_
  refine Tr.loop (σ := (List TRect) × Nat × Int) (fun m w s => m = s.1.length + 1 ∧ s.1 = List.drop s.2.1 p0 ∧ s.2.1 ≤ p0.length ∧ F_shape_AreaOf_L1 s.1 s.2.1 s.2.2 = some r) (fun s => [(3, (.int .i64 s.2.2)), (6, (.slice Ap0_0 (p0).length cp0_0)), (7, (.int .i64 (p0.length : Int))), (8, (.int .i64 (s.2.1 : Int)))]) (fun s => []) (p0.length + 1) (p0, 0, 0) ⟨rfl, rfl, Nat.zero_le _, H⟩ (.cons rfl (.cons rfl (.cons rfl (.cons rfl .nil)))) .nil (fun _ _ h => absurd h.1 (by simp)) ?_
  intro w leF_shape_AreaOf_L1 m s hs
  obtain ⟨restF_shape_AreaOf_L1, iF_shape_AreaOf_L1, x110⟩ := s
  obtain ⟨hmF_shape_AreaOf_L1, hdF_shape_AreaOf_L1, hiF_shape_AreaOf_L1, H⟩ := hs
  replace hdF_shape_AreaOf_L1 : restF_shape_AreaOf_L1 = List.drop iF_shape_AreaOf_L1 p0 := hdF_shape_AreaOf_L1
  replace H : F_shape_AreaOf_L1 restF_shape_AreaOf_L1 iF_shape_AreaOf_L1 x110 = some r := H
  replace hmF_shape_AreaOf_L1 : m + 1 = restF_shape_AreaOf_L1.length + 1 := hmF_shape_AreaOf_L1
  replace hp0_0 := hp0_0.leR leF_shape_AreaOf_L1
  replace leB := leB.trans leF_shape_AreaOf_L1
  obtain rfl : m = restF_shape_AreaOf_L1.length := by omega
  clear hmF_shape_AreaOf_L1
  show Tr _ _ (LF [(3, (.int .i64 x110)), (6, (.slice Ap0_0 (p0).length cp0_0)), (7, (.int .i64 (p0.length : Int))), (8, (.int .i64 (iF_shape_AreaOf_L1 : Int)))]) (LE []) _
  cases restF_shape_AreaOf_L1 with
  | nil =>
    rw [F_shape_AreaOf_L1.eq_1] at H
    refine Tr.seq ?_
    refine Tr.region ?_
    refine Tr.val (wn rfl) rfl (fun _ _ h1 h2 => run_lss (h1.ev rfl) (h1.ev rfl)) ?_
    refine Tr.nil (Tr.normThen ?_)
    refine Tr.seq ?_
    refine Tr.condF rfl (range_nil hdF_shape_AreaOf_L1) ?_
    refine Tr.exit (Tr.exitThen (Tr.exitThen (Tr.exitBlock (Tr.normThen ?_))))
    refine Tr.seq ?_
    refine Tr.region ?_
    refine Tr.val (wn rfl) rfl (fun _ _ h1 h2 => run_move (h1.ev rfl)) ?_
    refine Tr.val (wn rfl) rfl (fun _ _ h1 h2 => run_assign (h1.ev rfl)) ?_
    refine Tr.nil (Tr.normThen ?_)
    refine Tr.ret ?_
    obtain rfl := Option.some.inj H
    exact Tr.out (m := [(.int .i64 x110)]) [] (res_tmp rfl res_nil) (fun W hW => ⟨rfl, hW.low leB⟩)
  | cons xF_shape_AreaOf_L1 restF_shape_AreaOf_L1 =>
    rw [F_shape_AreaOf_L1.eq_2] at H
    refine Tr.seq ?_
    refine Tr.region ?_
    refine Tr.val (wn rfl) rfl (fun _ _ h1 h2 => run_lss (h1.ev rfl) (h1.ev rfl)) ?_
    refine Tr.nil (Tr.normThen ?_)
    refine Tr.seq ?_
    refine Tr.condT rfl (range_on hdF_shape_AreaOf_L1) ?_
    refine Tr.skip (Tr.normThen ?_)
    refine Tr.seq ?_
    refine Tr.block ?_
    refine Tr.seq ?_
    refine Tr.region ?_
    refine Tr.val (wn rfl) rfl (fun _ _ h1 h2 => run_indexAddr el_22 (h1.ev rfl) hp0_0.form (h1.ev rfl) (Int.natCast_nonneg _) (range_lt hdF_shape_AreaOf_L1)) ?_
    refine Tr.val (wn rfl) rfl (fun _ _ h1 h2 => run_loadN (cs := [(.int .i64 xF_shape_AreaOf_L1.X0), (.int .i64 xF_shape_AreaOf_L1.Y0), (.int .i64 xF_shape_AreaOf_L1.X1), (.int .i64 xF_shape_AreaOf_L1.Y1)]) ag_29 sz_29 (h1.ev rfl) (CellsAt.take (rdF ef_TRect hp0_0 (range_at hdF_shape_AreaOf_L1) h2) 4) rfl) ?_
    refine Tr.alloc 3 (wn rfl) rfl ze_29 fun b111 => ?_
    refine Tr.store 3 (cs := [(.int .i64 xF_shape_AreaOf_L1.X0), (.int .i64 xF_shape_AreaOf_L1.Y0), (.int .i64 xF_shape_AreaOf_L1.X1), (.int .i64 xF_shape_AreaOf_L1.Y1)]) [(.int .i64 xF_shape_AreaOf_L1.X0), (.int .i64 xF_shape_AreaOf_L1.Y0), (.int .i64 xF_shape_AreaOf_L1.X1), (.int .i64 xF_shape_AreaOf_L1.Y1)] (wn rfl) rfl rfl rfl rfl sz_29 rfl rfl rfl ?_
    refine Tr.nil (Tr.normThen ?_)
    refine Tr.region ?_
    refine Tr.val (wn rfl) rfl (fun _ _ h1 h2 => run_move (h1.ev rfl)) ?_
    refine Tr.val (wn rfl) rfl (fun _ _ h1 h2 => run_fieldAddr fo_29_2 (h1.ev rfl)) ?_
    refine Tr.val (wn rfl) rfl (fun _ _ h1 h2 => run_load1 ag_3 (h1.ev rfl) (rdb h2 (vs := [(.int .i64 xF_shape_AreaOf_L1.X0), (.int .i64 xF_shape_AreaOf_L1.Y0), (.int .i64 xF_shape_AreaOf_L1.X1), (.int .i64 xF_shape_AreaOf_L1.Y1)]) (k := 3) rfl 2) rfl) ?_
    refine Tr.val (wn rfl) rfl (fun _ _ h1 h2 => run_fieldAddr fo_29_0 (h1.ev rfl)) ?_
    refine Tr.val (wn rfl) rfl (fun _ _ h1 h2 => run_load1 ag_3 (h1.ev rfl) (rdb h2 (vs := [(.int .i64 xF_shape_AreaOf_L1.X0), (.int .i64 xF_shape_AreaOf_L1.Y0), (.int .i64 xF_shape_AreaOf_L1.X1), (.int .i64 xF_shape_AreaOf_L1.Y1)]) (k := 3) rfl 0) rfl) ?_
    refine Tr.val (wn rfl) rfl (fun _ _ h1 h2 => run_sub (h1.ev rfl) (h1.ev rfl)) ?_
    refine Tr.val (wn rfl) rfl (fun _ _ h1 h2 => run_fieldAddr fo_29_3 (h1.ev rfl)) ?_
    refine Tr.val (wn rfl) rfl (fun _ _ h1 h2 => run_load1 ag_3 (h1.ev rfl) (rdb h2 (vs := [(.int .i64 xF_shape_AreaOf_L1.X0), (.int .i64 xF_shape_AreaOf_L1.Y0), (.int .i64 xF_shape_AreaOf_L1.X1), (.int .i64 xF_shape_AreaOf_L1.Y1)]) (k := 3) rfl 3) rfl) ?_
    refine Tr.val (wn rfl) rfl (fun _ _ h1 h2 => run_fieldAddr fo_29_1 (h1.ev rfl)) ?_
    refine Tr.val (wn rfl) rfl (fun _ _ h1 h2 => run_load1 ag_3 (h1.ev rfl) (rdb h2 (vs := [(.int .i64 xF_shape_AreaOf_L1.X0), (.int .i64 xF_shape_AreaOf_L1.Y0), (.int .i64 xF_shape_AreaOf_L1.X1), (.int .i64 xF_shape_AreaOf_L1.Y1)]) (k := 3) rfl 1) rfl) ?_
    refine Tr.val (wn rfl) rfl (fun _ _ h1 h2 => run_sub (h1.ev rfl) (h1.ev rfl)) ?_
    refine Tr.val (wn rfl) rfl (fun _ _ h1 h2 => run_mul (h1.ev rfl) (h1.ev rfl)) ?_
    refine Tr.val (wn rfl) rfl (fun _ _ h1 h2 => run_add (h1.ev rfl) (h1.ev rfl)) ?_
    refine Tr.val (wn rfl) rfl (fun _ _ h1 h2 => run_assign (h1.ev rfl)) ?_
    refine Tr.nil (Tr.normBlock (Tr.normThen ?_))
    refine Tr.region ?_
    refine Tr.val (wn rfl) rfl (fun _ _ h1 h2 => run_add (h1.ev rfl) (h1.ev rfl)) ?_
    refine Tr.val (wn rfl) rfl (fun _ _ h1 h2 => run_move (h1.ev rfl)) ?_
    refine Tr.nil ?_
    exact Tr.backThen leF_shape_AreaOf_L1 (restF_shape_AreaOf_L1, (iF_shape_AreaOf_L1 + 1), (w64 (x110 + (w64 ((w64 (xF_shape_AreaOf_L1.X1 - xF_shape_AreaOf_L1.X0)) * (w64 (xF_shape_AreaOf_L1.Y1 - xF_shape_AreaOf_L1.Y0))))))) ⟨rfl, range_tl hdF_shape_AreaOf_L1, range_lt hdF_shape_AreaOf_L1, H⟩ (.cons rfl (.cons rfl (.cons rfl (.cons (congrArg (fun z => some (Value.int .i64 z)) (range_up hdF_shape_AreaOf_L1 hp0_0.form)) .nil)))) .nil

theorem F_shape_Area_ok (N : Nat) {w : Bs} (p0 : (List TRect)) (Ap0_0 : Option Addr) (cp0_0 : Nat) (hp0_0 : Sl w.R w.W fl_TRect Ap0_0 cp0_0 p0) (r : (Int × Int)) (H : F_shape_Area N p0 = some r) (hE : HF w w.W E0) : Calls Try.prog 46 [(.slice Ap0_0 (p0).length cp0_0)].toArray w.W fun e W' => e = .returned (.tuple #[(.int .i64 r.1), (.int .i64 r.2)]) ∧ HF w W' E0 := by
  unfold F_shape_Area at H
  have leB := Bs.Le.refl w
  refine Tr.enter (n := 12) Try.func46 rfl rfl rfl hE ?_
  refine Tr.seq ?_
  refine Tr.region ?_
  refine Tr.val (wn rfl) rfl (fun _ _ h1 h2 => run_assign (h1.ev rfl)) ?_
  refine Tr.val (wn rfl) rfl (fun _ _ h1 h2 => run_assign (h1.ev rfl)) ?_
  refine Tr.nil (Tr.normThen ?_)
  refine Tr.seq ?_
  refine Tr.seq ?_
  refine Tr.region ?_
  refine Tr.val (wn rfl) rfl (fun _ _ h1 h2 => run_move (h1.ev rfl)) ?_
  obtain ⟨y100, hy100, H⟩ := bnd H
  refine Tr.call0 (r := (.int .i64 y100)) (wn rfl) rfl Try.call17 (evl_cons rfl evl_nil) (fun W hW => F_shape_CheckRegion_ok N p0 Ap0_0 cp0_0 (hp0_0.ext hW.extAll) y100 hy100 (HF.start _)) ?_
  refine Tr.val (wn rfl) rfl (fun _ _ h1 h2 => run_assign (h1.ev rfl)) ?_
  refine Tr.nil (Tr.normThen ?_)
  refine Tr.seq ?_
  refine Tr.region ?_
  refine Tr.val (wn rfl) rfl (fun _ _ h1 h2 => run_move (h1.ev rfl)) ?_
  refine Tr.val (wn rfl) rfl (fun _ _ h1 h2 => run_neq (h1.ev rfl) (h1.ev rfl)) ?_
  refine Tr.nil (Tr.normThen ?_)
  refine Tr.cond rfl H (fun H => ?_) (fun H => ?_)
  · refine Tr.seq ?_
    refine Tr.region ?_
    refine Tr.val (wn rfl) rfl (fun _ _ h1 h2 => run_move (h1.ev rfl)) ?_
    refine Tr.val (wn rfl) rfl (fun _ _ h1 h2 => run_assign (h1.ev rfl)) ?_
    refine Tr.val (wn rfl) rfl (fun _ _ h1 h2 => run_assign (h1.ev rfl)) ?_
    refine Tr.nil (Tr.normThen ?_)
    refine Tr.ret (Tr.retThen ?_)
    obtain rfl := Option.some.inj H
    exact Tr.out (m := [(.int .i64 0), (.int .i64 y100)]) [] (res_tmp rfl (res_tmp rfl res_nil)) (fun W hW => ⟨rfl, hW.low leB⟩)
  · refine Tr.skip (Tr.normThen ?_)
    refine Tr.seq ?_
    refine Tr.region ?_
    refine Tr.val (wn rfl) rfl (fun _ _ h1 h2 => run_move (h1.ev rfl)) ?_
    obtain ⟨y101, hy101, H⟩ := bnd H
    refine Tr.call0 (r := (.int .i64 y101)) (wn rfl) rfl Try.call82 (evl_cons rfl evl_nil) (fun W hW => F_shape_AreaOf_ok p0 Ap0_0 cp0_0 (hp0_0.ext hW.extAll) y101 hy101 (HF.start _)) ?_
    refine Tr.val (wn rfl) rfl (fun _ _ h1 h2 => run_assign (h1.ev rfl)) ?_
    refine Tr.val (wn rfl) rfl (fun _ _ h1 h2 => run_assign (h1.ev rfl)) ?_
    refine Tr.nil (Tr.normThen ?_)
    refine Tr.ret ?_
    obtain rfl := Option.some.inj H
    exact Tr.out (m := [(.int .i64 y101), (.int .i64 0)]) [] (res_tmp rfl (res_tmp rfl res_nil)) (fun W hW => ⟨rfl, hW.low leB⟩)

theorem F_etchhouselaw1_awake_ok (N : Nat) {w : Bs}  (r : Bool) (H : F_etchhouselaw1_awake N = some r) (hE : HF w w.W E0) : Calls Try.prog 20 [].toArray w.W fun e W' => e = .returned (.bool r) ∧ HF w W' E0 := by
  unfold F_etchhouselaw1_awake at H
  have leB := Bs.Le.refl w
  refine Tr.enter (n := 15) Try.func20 rfl rfl rfl hE ?_
  refine Tr.seq ?_
  refine Tr.region ?_
  refine Tr.val (wn rfl) rfl (fun _ _ h1 h2 => run_assign (h1.ev rfl)) ?_
  refine Tr.nil (Tr.normThen ?_)
  refine Tr.seq ?_
  refine Tr.region ?_
  refine Tr.build (vs := [(2, (.int .i64 2)), (3, (.int .i64 3))]) (cs := [(.int .i64 0), (.int .i64 0), (.int .i64 2), (.int .i64 3)]) (wn rfl) rfl (evs_cons rfl (evs_cons rfl evs_nil)) (by kernel_rfl) ?_
  refine Tr.buildSlice 1 (e := 29) (vs := [(0, (.agg #[(.int .i64 0), (.int .i64 0), (.int .i64 2), (.int .i64 3)]))]) (cs := [(.int .i64 0), (.int .i64 0), (.int .i64 2), (.int .i64 3)]) (wn rfl) rfl (evs_cons rfl evs_nil) (by kernel_rfl) fun b100 => ?_
  refine Tr.own 1 fl_TRect [(TRect.mk 0 0 2 3)] (css := [[(.int .i64 0), (.int .i64 0), (.int .i64 2), (.int .i64 3)]]) rfl (.cons ⟨(), trivial, rfl⟩ .nil) rfl (by decide) (lit_max rfl) ?_
  obtain ⟨y101, hy101, H⟩ := bnd H
  refine Tr.call0 (r := (.tuple #[(.int .i64 y101.1), (.int .i64 y101.2)])) (wn rfl) rfl Try.call46 (evl_cons rfl evl_nil) (fun W hW => F_shape_Area_ok N [(TRect.mk 0 0 2 3)] (some ⟨b100, 0, none⟩) 1 (hW.slCall (k := 1) rfl) y101 hy101 (HF.start _)) ?_
  refine Tr.val (wn rfl) rfl (fun _ _ h1 h2 => run_move (h1.ev rfl)) ?_
  refine Tr.val (wn rfl) rfl (fun _ _ h1 h2 => run_extract (h1.ev rfl) rfl) ?_
  refine Tr.val (wn rfl) rfl (fun _ _ h1 h2 => run_extract (h1.ev rfl) rfl) ?_
  refine Tr.val (wn rfl) rfl (fun _ _ h1 h2 => run_assign (h1.ev rfl)) ?_
  refine Tr.val (wn rfl) rfl (fun _ _ h1 h2 => run_assign (h1.ev rfl)) ?_
  refine Tr.nil (Tr.normThen ?_)
  refine Tr.seq ?_
  refine Tr.region ?_
  refine Tr.val (wn rfl) rfl (fun _ _ h1 h2 => run_move (h1.ev rfl)) ?_
  refine Tr.val (wn rfl) rfl (fun _ _ h1 h2 => run_eql (h1.ev rfl) (h1.ev rfl)) ?_
  refine Tr.val (wn rfl) rfl (fun _ _ h1 h2 => run_move (h1.ev rfl)) ?_
  refine Tr.mid0 3 [(14, (.bool ((y101.2 == 0) && (y101.1 == 6))))] [(1, ow (some ⟨b100, 0, none⟩) 1 29 fl_TRect [(TRect.mk 0 0 2 3)])] ?_ ?_
  · cases hg101 : (y101.2 == 0)
    · refine Tr.pass rfl rfl rfl rfl rfl (by decide) ?_
      refine Tr.pass rfl rfl rfl rfl rfl (by decide) ?_
      refine Tr.val (wn rfl) rfl (fun _ _ h1 h2 => run_pickF (h1.ev rfl) (h1.ev rfl)) ?_
      exact Tr.nil (Tr.fin0 (.cons rfl .nil) (.cons rfl .nil))
    · refine Tr.val (wg rfl rfl rfl) rfl (fun _ _ h1 h2 => run_move (h1.ev rfl)) ?_
      refine Tr.val (wg rfl rfl rfl) rfl (fun _ _ h1 h2 => run_eql (h1.ev rfl) (h1.ev rfl)) ?_
      refine Tr.val (wn rfl) rfl (fun _ _ h1 h2 => run_pickT (h1.ev rfl) (h1.ev rfl)) ?_
      exact Tr.nil (Tr.fin0 (.cons rfl .nil) (.cons rfl .nil))
  · show Tr _ _ (LF [(14, (.bool ((y101.2 == 0) && (y101.1 == 6))))]) (LE [(1, ow (some ⟨b100, 0, none⟩) 1 29 fl_TRect [(TRect.mk 0 0 2 3)])]) _
    refine Tr.val (wn rfl) rfl (fun _ _ h1 h2 => run_assign (h1.ev rfl)) ?_
    refine Tr.nil (Tr.normThen ?_)
    refine Tr.ret ?_
    obtain rfl := Option.some.inj H
    exact Tr.out (m := [(.bool ((y101.2 == 0) && (y101.1 == 6)))]) [] (res_tmp rfl res_nil) (fun W hW => ⟨rfl, hW.low leB⟩)

theorem F_etchhouselaw1_TurnedRegionsMatchSpec_ok (N : Nat) {w : Bs} (p0 : (List TRect)) (Ap0_0 : Option Addr) (cp0_0 : Nat) (hp0_0 : Sl w.R w.W fl_TRect Ap0_0 cp0_0 p0) (p1 : TTurn) (r : Bool) (H : F_etchhouselaw1_TurnedRegionsMatchSpec N p0 p1 = some r) (hE : HF w w.W E0) : Calls Try.prog 8 [(.slice Ap0_0 (p0).length cp0_0), (.agg #[(.bool p1.Flip), (.int .i64 p1.Quarters), (.int .i64 p1.At.X), (.int .i64 p1.At.Y)])].toArray w.W fun e W' => e = .returned (.bool r) ∧ HF w W' E0 := by
  unfold F_etchhouselaw1_TurnedRegionsMatchSpec at H
  have leB := Bs.Le.refl w
  refine Tr.enter (n := 32) Try.func8 rfl rfl rfl hE ?_
  refine Tr.seq ?_
  refine Tr.region ?_
  refine Tr.box 1 (cs := [(.bool p1.Flip), (.int .i64 p1.Quarters), (.int .i64 p1.At.X), (.int .i64 p1.At.Y)]) (wn rfl) rfl rfl rfl fun b100 => ?_
  refine Tr.val (wn rfl) rfl (fun _ _ h1 h2 => run_assign (h1.ev rfl)) ?_
  refine Tr.nil (Tr.normThen ?_)
  refine Tr.seq ?_
  refine Tr.region ?_
  refine Tr.val (wn rfl) rfl (fun _ _ h1 h2 => run_move (h1.ev rfl)) ?_
  refine Tr.val (wn rfl) rfl (fun _ _ h1 h2 => run_loadN (cs := [(.bool p1.Flip), (.int .i64 p1.Quarters), (.int .i64 p1.At.X), (.int .i64 p1.At.Y)]) ag_42 sz_42 (h1.ev rfl) (CellsAt.take (rdb h2 (vs := [(.bool p1.Flip), (.int .i64 p1.Quarters), (.int .i64 p1.At.X), (.int .i64 p1.At.Y)]) (k := 1) rfl 0) 4) rfl) ?_
  obtain ⟨y101, hy101, H⟩ := bnd H
  refine Tr.callM [2] [emp] (U := (Option Addr × Nat)) (fun u => (.tuple #[(.slice u.1 (y101.1).length u.2), (.int .i64 y101.2)])) (fun u => SlF u.1 (y101.1).length u.2) (fun u => [ow u.1 u.2 29 fl_TRect y101.1]) rfl (pk_cons rfl pk_nil) (fun _ => rfl) (wn rfl) rfl Try.call35 (evl_cons rfl (evl_cons rfl evl_nil)) (fun W hW hp hE => F_shape_TurnedRegion_ok N p0 Ap0_0 cp0_0 (hp0_0.ext (hW.extS hp)) p1 y101 hy101 hE) ?_
  intro u hu
  obtain ⟨Ay101_0, cy101_0⟩ := u
  have gy101_0 := hu
  have hgy101_0 : SlF Ay101_0 (y101.1).length cy101_0 := gy101_0 --@phi
  show Tr _ _ (uf _ 12 (.tuple #[(.slice Ay101_0 (y101.1).length cy101_0), (.int .i64 y101.2)])) (up _ 2 (ow Ay101_0 cy101_0 29 fl_TRect y101.1)) _
  refine Tr.val (wn rfl) rfl (fun _ _ h1 h2 => run_move (h1.ev rfl)) ?_
  refine Tr.val (wn rfl) rfl (fun _ _ h1 h2 => run_extract (h1.ev rfl) rfl) ?_
  refine Tr.val (wn rfl) rfl (fun _ _ h1 h2 => run_extract (h1.ev rfl) rfl) ?_
  refine Tr.val (wn rfl) rfl (fun _ _ h1 h2 => run_assign (h1.ev rfl)) ?_
  refine Tr.val (wn rfl) rfl (fun _ _ h1 h2 => run_assign (h1.ev rfl)) ?_
  refine Tr.nil (Tr.normThen ?_)
  refine Tr.seq ?_
  refine Tr.region ?_
  refine Tr.val (wn rfl) rfl (fun _ _ h1 h2 => run_move (h1.ev rfl)) ?_
  refine Tr.val (wn rfl) rfl (fun _ _ h1 h2 => run_loadN (cs := [(.bool p1.Flip), (.int .i64 p1.Quarters), (.int .i64 p1.At.X), (.int .i64 p1.At.Y)]) ag_42 sz_42 (h1.ev rfl) (CellsAt.take (rdb h2 (vs := [(.bool p1.Flip), (.int .i64 p1.Quarters), (.int .i64 p1.At.X), (.int .i64 p1.At.Y)]) (k := 1) rfl 0) 4) rfl) ?_
  obtain ⟨y103, hy103, H⟩ := bnd H
  refine Tr.callG [] [] (U := (Option Addr × Nat)) (fun u => (.tuple #[(.slice u.1 (y103.1).length u.2), (.int .i64 y103.2)])) (fun O W u => Sl O W fl_TRect u.1 u.2 y103.1) (fun u => []) rfl pk_nil (fun _ => rfl) (wn rfl) rfl Try.call36 (evl_cons rfl (evl_cons rfl evl_nil)) (fun W hW hp hE => F_etchhouseref1_TurnedRegion_ok N p0 Ap0_0 cp0_0 (hp0_0.ext (hW.extS hp)) p1 y103 hy103 hE) ?_
  intro w u le104 hu
  obtain ⟨Ay103_0, cy103_0⟩ := u
  have gy103_0 := hu
  replace hp0_0 := hp0_0.leR le104
  replace leB := leB.trans le104
  have hgy103_0 : Sl w.O w.W fl_TRect Ay103_0 cy103_0 y103.1 := gy103_0 --@phi
  show Tr _ _ (uf _ 18 (.tuple #[(.slice Ay103_0 (y103.1).length cy103_0), (.int .i64 y103.2)])) (_) _
  refine Tr.val (wn rfl) rfl (fun _ _ h1 h2 => run_move (h1.ev rfl)) ?_
  refine Tr.val (wn rfl) rfl (fun _ _ h1 h2 => run_extract (h1.ev rfl) rfl) ?_
  refine Tr.val (wn rfl) rfl (fun _ _ h1 h2 => run_extract (h1.ev rfl) rfl) ?_
  refine Tr.val (wn rfl) rfl (fun _ _ h1 h2 => run_assign (h1.ev rfl)) ?_
  refine Tr.val (wn rfl) rfl (fun _ _ h1 h2 => run_assign (h1.ev rfl)) ?_
  refine Tr.nil (Tr.normThen ?_)
  refine Tr.seq ?_
  refine Tr.region ?_
  refine Tr.val (wn rfl) rfl (fun _ _ h1 h2 => run_move (h1.ev rfl)) ?_
  refine Tr.val (wn rfl) rfl (fun _ _ h1 h2 => run_move (h1.ev rfl)) ?_
  obtain ⟨y105, hy105, H⟩ := bnd H
  refine Tr.call0 (r := (.bool y105)) (wn rfl) rfl Try.call19 (evl_cons rfl (evl_cons rfl evl_nil)) (fun W hW => F_slices_Equal_Rect_ok y101.1 Ay101_0 cy101_0 (hW.slCall (k := 2) rfl) y103.1 Ay103_0 cy103_0 (hgy103_0.rl.ext hW.extAll) y105 hy105 (HF.start _)) ?_
  refine Tr.val (wn rfl) rfl (fun _ _ h1 h2 => run_move (h1.ev rfl)) ?_
  refine Tr.mid0 4 [(28, (.bool (y105 && (y101.2 == y103.2))))] [(1, bx b100 #[(.bool p1.Flip), (.int .i64 p1.Quarters), (.int .i64 p1.At.X), (.int .i64 p1.At.Y)] 42), (2, ow Ay101_0 cy101_0 29 fl_TRect y101.1)] ?_ ?_
  · cases hg108 : y105
    · refine Tr.pass rfl rfl rfl rfl rfl (by decide) ?_
      refine Tr.pass rfl rfl rfl rfl rfl (by decide) ?_
      refine Tr.pass rfl rfl rfl rfl rfl (by decide) ?_
      refine Tr.val (wn rfl) rfl (fun _ _ h1 h2 => run_pickF (h1.ev rfl) (h1.ev rfl)) ?_
      exact Tr.nil (Tr.fin0 (.cons rfl .nil) (.cons rfl (.cons rfl .nil)))
    · refine Tr.val (wg rfl rfl rfl) rfl (fun _ _ h1 h2 => run_move (h1.ev rfl)) ?_
      refine Tr.val (wg rfl rfl rfl) rfl (fun _ _ h1 h2 => run_move (h1.ev rfl)) ?_
      refine Tr.val (wg rfl rfl rfl) rfl (fun _ _ h1 h2 => run_eql (h1.ev rfl) (h1.ev rfl)) ?_
      refine Tr.val (wn rfl) rfl (fun _ _ h1 h2 => run_pickT (h1.ev rfl) (h1.ev rfl)) ?_
      exact Tr.nil (Tr.fin0 (.cons rfl .nil) (.cons rfl (.cons rfl .nil)))
  · show Tr _ _ (LF [(28, (.bool (y105 && (y101.2 == y103.2))))]) (LE [(1, bx b100 #[(.bool p1.Flip), (.int .i64 p1.Quarters), (.int .i64 p1.At.X), (.int .i64 p1.At.Y)] 42), (2, ow Ay101_0 cy101_0 29 fl_TRect y101.1)]) _
    refine Tr.val (wn rfl) rfl (fun _ _ h1 h2 => run_move (h1.ev rfl)) ?_
    obtain ⟨g107, hg107, H⟩ := bnd H
    refine Tr.mid0 2 [(31, (.bool g107))] [(1, bx b100 #[(.bool p1.Flip), (.int .i64 p1.Quarters), (.int .i64 p1.At.X), (.int .i64 p1.At.Y)] 42), (2, ow Ay101_0 cy101_0 29 fl_TRect y101.1)] ?_ ?_
    · cases hg108 : (y105 && (y101.2 == y103.2))
      · rw [hg108] at hg107
        rw [if_neg (by decide)] at hg107
        have H := hg107
        obtain rfl := Option.some.inj H
        refine Tr.pass rfl rfl rfl rfl rfl (by decide) ?_
        refine Tr.val (wn rfl) rfl (fun _ _ h1 h2 => run_pickF (h1.ev rfl) (h1.ev rfl)) ?_
        exact Tr.nil (Tr.fin0 (.cons rfl .nil) (.cons rfl (.cons rfl .nil)))
      · rw [hg108] at hg107
        rw [if_pos rfl] at hg107
        have H := hg107
        obtain ⟨y108, hy108, H⟩ := bnd H
        refine Tr.call0 (r := (.bool y108)) (wg rfl rfl rfl) rfl Try.call20 evl_nil (fun W hW => F_etchhouselaw1_awake_ok N y108 hy108 (HF.start _)) ?_
        refine Tr.val (wn rfl) rfl (fun _ _ h1 h2 => run_pickT (h1.ev rfl) (h1.ev rfl)) ?_
        obtain rfl := Option.some.inj H
        exact Tr.nil (Tr.fin0 (.cons rfl .nil) (.cons rfl (.cons rfl .nil)))
    · show Tr _ _ (LF [(31, (.bool g107))]) (LE [(1, bx b100 #[(.bool p1.Flip), (.int .i64 p1.Quarters), (.int .i64 p1.At.X), (.int .i64 p1.At.Y)] 42), (2, ow Ay101_0 cy101_0 29 fl_TRect y101.1)]) _
      refine Tr.val (wn rfl) rfl (fun _ _ h1 h2 => run_assign (h1.ev rfl)) ?_
      refine Tr.nil (Tr.normThen ?_)
      refine Tr.ret ?_
      obtain rfl := Option.some.inj H
      exact Tr.out (m := [(.bool g107)]) [] (res_tmp rfl res_nil) (fun W hW => ⟨rfl, hW.low leB⟩)

end Go.Proofs.Ytcebbfodkadggaa
