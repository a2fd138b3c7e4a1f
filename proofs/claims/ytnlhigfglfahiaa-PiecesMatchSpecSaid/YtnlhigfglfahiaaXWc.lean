/- The walks: each function computes its plain function. -/
import Derived.Test.YtnlhigfglfahiaaXWb
namespace Go.Proofs.Ytnlhigfglfahiaa
open Go.RowKit
set_option maxRecDepth 100000
set_option maxHeartbeats 1000000
theorem F_etchhouseref1_PiecesOf_ok (N : Nat) {w : Bs} (p0 : (List TRect)) (Ap0_0 : Option Addr) (cp0_0 : Nat) (hp0_0 : Sl w.R w.W fl_TRect Ap0_0 cp0_0 p0) (r : (List (List TRect))) (H : F_etchhouseref1_PiecesOf N p0 = some r) (hE : HF w w.W (LEn [emp])) : Calls Try.prog 50 [(.slice Ap0_0 (p0).length cp0_0)].toArray w.W fun e W' => ∃ (w' : Bs) (u : (Option Addr × Nat)), w.Le w' ∧ e = .returned (.slice u.1 (r).length u.2) ∧ (SlF u.1 (r).length u.2) ∧ HF w' W' (LEn [ow u.1 u.2 22 fl_LTRect r]) := by
 unfold F_etchhouseref1_PiecesOf at H
 have leB := Bs.Le.refl w
 refine Tr.enter (n := 73) Try.func50 rfl rfl rfl hE ?_
 refine Tr.sr ?_
 refine Tr.asg rfl rfl ?_
 refine Tr.nilOwn 1 22 fl_LTRect ?_
 show Tr _ _ (uf _ 2 (.slice none (([] : List (List TRect))).length 0)) _ _
 refine Tr.nil (Tr.normThen ?_)
 refine Tr.sr ?_
 refine Tr.mv rfl rfl ?_
 refine Tr.va rfl (fun _ _ h1 h2 => run_len un_22 (h1.ev rfl)) ?_
 obtain ⟨l100, hl100, H⟩ := bnd H
 refine Tr.makeSlice 2 fl_bool false (wn rfl) rfl rfl rfl un_113 sz_4 rfl ze_4 by_4 rfl ⟨(), fun _ _ => tr_bool _ _ _ _, rfl⟩ hl100 fun b101 hfl100 => ?_
 refine Tr.asg rfl rfl ?_
 refine Tr.nil (Tr.normThen ?_)
 refine Tr.sr ?_
 refine Tr.asg rfl rfl ?_
 refine Tr.nilOwn 3 22 fl_LTRect ?_
 show Tr _ _ (uf _ 4 (.slice none (([] : List (List TRect))).length 0)) _ _
 refine Tr.nil (Tr.normThen ?_)
 refine Tr.seq ?_
 refine Tr.sr ?_
 refine Tr.asg rfl rfl ?_
 refine Tr.nil (Tr.normThen ?_)
 refine Tr.block ?_
 refine Tr.ren 3 31 rfl rfl rfl ?_
 refine Tr.loop (σ := (List Bool) × (List (List TRect)) × Int × (Option Addr) × Nat × (Option Addr) × Nat) (fun m w s => F_etchhouseref1_PiecesOf_L9 N p0 m s.1 s.2.1 s.2.2.1 = some r ∧ SlF s.2.2.2.1 (s.1).length s.2.2.2.2.1 ∧ SlF s.2.2.2.2.2.1 (s.2.1).length s.2.2.2.2.2.2) (fun s => [(0, (.slice Ap0_0 (p0).length cp0_0)), (3, (.slice s.2.2.2.1 (s.1).length s.2.2.2.2.1)), (4, (.slice s.2.2.2.2.2.1 (s.2.1).length s.2.2.2.2.2.2)), (5, (.int .i64 s.2.2.1))]) (fun s => [(2, ow s.2.2.2.1 s.2.2.2.2.1 4 fl_bool s.1), (31, ow s.2.2.2.2.2.1 s.2.2.2.2.2.2 22 fl_LTRect s.2.1)]) N (l100, ([] : List (List TRect)), 0, (some ⟨b101, 0, none⟩), (l100).length, none, 0) ⟨H, hfl100, slf_nil⟩ (.cons rfl (.cons rfl (.cons rfl (.cons rfl .nil)))) (.cons rfl (.cons rfl .nil)) (fun _ _ h => noSome (h.1)) ?_
 intro w leF_etchhouseref1_PiecesOf_L9 mF_etchhouseref1_PiecesOf_L9 s hs
 obtain ⟨l467, l468, x469, Al467, cl467, Al468, cl468⟩ := s
 obtain ⟨H, hl467, hl468⟩ := hs
 replace H : F_etchhouseref1_PiecesOf_L9 N p0 (mF_etchhouseref1_PiecesOf_L9 + 1) l467 l468 x469 = some r := H
 replace hp0_0 := hp0_0.leR leF_etchhouseref1_PiecesOf_L9
 replace leB := leB.trans leF_etchhouseref1_PiecesOf_L9
 replace hl467 : SlF Al467 (l467).length cl467 := hl467
 replace hl468 : SlF Al468 (l468).length cl468 := hl468
 rw [F_etchhouseref1_PiecesOf_L9.eq_2] at H
 show Tr _ _ (LF [(0, (.slice Ap0_0 (p0).length cp0_0)), (3, (.slice Al467 (l467).length cl467)), (4, (.slice Al468 (l468).length cl468)), (5, (.int .i64 x469))]) (LE [(2, ow Al467 cl467 4 fl_bool l467), (31, ow Al468 cl468 22 fl_LTRect l468)]) _
 refine Tr.seq ?_
 refine Tr.sr ?_
 refine Tr.mv rfl rfl ?_
 refine Tr.mv rfl rfl ?_
 refine Tr.va rfl (fun _ _ h1 h2 => run_len un_22 (h1.ev rfl)) ?_
 refine Tr.va rfl (fun _ _ h1 h2 => run_lss (h1.ev rfl) (h1.ev rfl)) ?_
 refine Tr.nil (Tr.normThen ?_)
 refine Tr.cond rfl H (fun H => ?_) (fun H => ?_)
 ·refine Tr.skip (Tr.normThen ?_)
  refine Tr.seq ?_
  refine Tr.block ?_
  refine Tr.seq ?_
  refine Tr.sr ?_
  refine Tr.mv rfl rfl ?_
  refine Tr.mv rfl rfl ?_
  obtain ⟨x470, hx470, H⟩ := bnd H
  obtain ⟨hx4700, hx4701, hx4702⟩ := idx_some hx470
  refine Tr.va rfl (fun _ _ h1 h2 => run_indexAddr el_113 (h1.ev rfl) hl467 (h1.ev rfl) hx4700 hx4701) ?_
  refine Tr.va rfl (fun _ _ h1 h2 => run_load1 ag_4 (h1.ev rfl) (rdo ef_bool (k := 2) h2 rfl hx4702) rfl) ?_
  refine Tr.nil (Tr.normThen ?_)
  refine Tr.cond rfl H (fun H => ?_) (fun H => ?_)
  ·refine Tr.exit (Tr.exitThen (Tr.exitBlock (Tr.normThen ?_)))
   refine Tr.region ?_
   refine Tr.mv rfl rfl ?_
   refine Tr.va rfl (fun _ _ h1 h2 => run_add (h1.ev rfl) (h1.ev rfl)) ?_
   refine Tr.asg rfl rfl ?_
   refine Tr.nil ?_
   exact Tr.backThen leF_etchhouseref1_PiecesOf_L9 (l467, l468, (w64 (x469 + 1)), Al467, cl467, Al468, cl468) ⟨H, hl467, hl468⟩ (.cons rfl (.cons rfl (.cons rfl (.cons rfl .nil)))) (.cons rfl (.cons rfl .nil))
  ·refine Tr.skip (Tr.normThen ?_)
   refine Tr.sr ?_
   refine Tr.mv rfl rfl ?_
   refine Tr.mv rfl rfl ?_
   obtain ⟨x471, hx471, H⟩ := bnd H
   obtain ⟨hx4710, hx4711, hx4712⟩ := idx_some hx471
   refine Tr.va rfl (fun _ _ h1 h2 => run_indexAddr el_113 (h1.ev rfl) hl467 (h1.ev rfl) hx4710 hx4711) ?_
   obtain ⟨l472, hl472, H⟩ := bnd H
   have hnl472 := sets_len hl472
   refine Tr.storeEl 2 (t := fl_bool) (l := l467) (i := x469) (fo := 0) (cs := [(.bool true)]) true (wn rfl) rfl rfl rfl rfl rfl hx4712 sz_4 rfl (fun u _ => ⟨u, trivial, rfl⟩) rfl hl472 ?_
   have hfl472 : SlF Al467 (l472).length cl467 := by rw [hnl472]; exact hl467
   refine Tr.sel (lf := [(0, (.slice Ap0_0 (p0).length cp0_0)), (3, (.slice Al467 (l472).length cl467)), (4, (.slice Al468 (l468).length cl468)), (5, (.int .i64 x469)), (12, (.int .i64 x469)), (13, (.slice Ap0_0 (p0).length cp0_0)), (14, (.int .i64 (p0.length : Int))), (15, (.bool (decide (x469 < (p0.length : Int))))), (18, (.slice Al467 (l472).length cl467)), (19, (.int .i64 x469)), (21, (.bool x470)), (22, (.slice Al467 (l472).length cl467)), (23, (.int .i64 x469))]) (le := [(2, ow Al467 cl467 4 fl_bool l472), (31, ow Al468 cl468 22 fl_LTRect l468)]) (.cons rfl (.cons (slenV rfl (by rw [hnl472])) (.cons rfl (.cons rfl (.cons rfl (.cons rfl (.cons rfl (.cons rfl (.cons (slenV rfl (by rw [hnl472])) (.cons rfl (.cons rfl (.cons (slenV rfl (by rw [hnl472])) (.cons rfl .nil))))))))))))) (.cons rfl (.cons rfl .nil)) ?_
   refine Tr.nil (Tr.normThen ?_)
   refine Tr.sr ?_
   refine Tr.mv rfl rfl ?_
   refine Tr.mv rfl rfl ?_
   obtain ⟨x473, hx473, H⟩ := bnd H
   obtain ⟨hx4730, hx4731, hx4732⟩ := idx_some hx473
   refine Tr.va rfl (fun _ _ h1 h2 => run_indexAddr el_22 (h1.ev rfl) hp0_0.form (h1.ev rfl) hx4730 hx4731) ?_
   refine Tr.va rfl (fun _ _ h1 h2 => run_loadN (cs := [(.int .i64 x473.X0), (.int .i64 x473.Y0), (.int .i64 x473.X1), (.int .i64 x473.Y1)]) ag_29 sz_29 (h1.ev rfl) (CellsAt.take (rdF ef_TRect hp0_0 hx4732 h2) 4) rfl) ?_
   refine Tr.buildSlice 32 (e := 29) (vs := [(0, (.agg #[(.int .i64 x473.X0), (.int .i64 x473.Y0), (.int .i64 x473.X1), (.int .i64 x473.Y1)]))]) (cs := [(.int .i64 x473.X0), (.int .i64 x473.Y0), (.int .i64 x473.X1), (.int .i64 x473.Y1)]) (wn rfl) rfl (evs_cons rfl evs_nil) (by kernel_rfl) fun b474 => ?_
   refine Tr.own 32 fl_TRect [x473] (css := [[(.int .i64 x473.X0), (.int .i64 x473.Y0), (.int .i64 x473.X1), (.int .i64 x473.Y1)]]) rfl (.cons ⟨(), trivial, rfl⟩ .nil) rfl (by decide) (lit_max rfl) ?_
   refine Tr.asg rfl rfl ?_
   refine Tr.nil (Tr.normThen ?_)
   refine Tr.seq ?_
   refine Tr.sr ?_
   refine Tr.asg rfl rfl ?_
   refine Tr.nil (Tr.normThen ?_)
   refine Tr.block ?_
   refine Tr.loop (σ := (List Bool) × (List TRect) × Int × (Option Addr) × Nat × (Option Addr) × Nat) (fun m w s => F_etchhouseref1_PiecesOf_L12 N p0 l468 x469 (F_etchhouseref1_PiecesOf_L9 N p0 mF_etchhouseref1_PiecesOf_L9) m s.1 s.2.1 s.2.2.1 = some r ∧ SlF s.2.2.2.1 (s.1).length s.2.2.2.2.1 ∧ SlF s.2.2.2.2.2.1 (s.2.1).length s.2.2.2.2.2.2) (fun s => [(0, (.slice Ap0_0 (p0).length cp0_0)), (3, (.slice s.2.2.2.1 (s.1).length s.2.2.2.2.1)), (4, (.slice Al468 (l468).length cl468)), (5, (.int .i64 x469)), (6, (.slice s.2.2.2.2.2.1 (s.2.1).length s.2.2.2.2.2.2)), (7, (.int .i64 s.2.2.1))]) (fun s => [(2, ow s.2.2.2.1 s.2.2.2.2.1 4 fl_bool s.1), (31, ow Al468 cl468 22 fl_LTRect l468), (32, ow s.2.2.2.2.2.1 s.2.2.2.2.2.2 29 fl_TRect s.2.1)]) N (l472, [x473], 0, Al467, cl467, (some ⟨b474, 0, none⟩), 1) ⟨H, hfl472, (lit_form b474 rfl)⟩ (.cons rfl (.cons rfl (.cons rfl (.cons rfl (.cons rfl (.cons rfl .nil)))))) (.cons rfl (.cons rfl (.cons rfl .nil))) (fun _ _ h => noSome (h.1)) ?_
   intro w leF_etchhouseref1_PiecesOf_L12 mF_etchhouseref1_PiecesOf_L12 s hs
   obtain ⟨l586, l587, x588, Al586, cl586, Al587, cl587⟩ := s
   obtain ⟨H, hl586, hl587⟩ := hs
   replace H : F_etchhouseref1_PiecesOf_L12 N p0 l468 x469 (F_etchhouseref1_PiecesOf_L9 N p0 mF_etchhouseref1_PiecesOf_L9) (mF_etchhouseref1_PiecesOf_L12 + 1) l586 l587 x588 = some r := H
   replace hp0_0 := hp0_0.leR leF_etchhouseref1_PiecesOf_L12
   replace leB := leB.trans leF_etchhouseref1_PiecesOf_L12
   replace leF_etchhouseref1_PiecesOf_L9 := leF_etchhouseref1_PiecesOf_L9.trans leF_etchhouseref1_PiecesOf_L12
   replace hl586 : SlF Al586 (l586).length cl586 := hl586
   replace hl587 : SlF Al587 (l587).length cl587 := hl587
   rw [F_etchhouseref1_PiecesOf_L12.eq_2] at H
   show Tr _ _ (LF [(0, (.slice Ap0_0 (p0).length cp0_0)), (3, (.slice Al586 (l586).length cl586)), (4, (.slice Al468 (l468).length cl468)), (5, (.int .i64 x469)), (6, (.slice Al587 (l587).length cl587)), (7, (.int .i64 x588))]) (LE [(2, ow Al586 cl586 4 fl_bool l586), (31, ow Al468 cl468 22 fl_LTRect l468), (32, ow Al587 cl587 29 fl_TRect l587)]) _
   refine Tr.seq ?_
   refine Tr.sr ?_
   refine Tr.mv rfl rfl ?_
   refine Tr.mv rfl rfl ?_
   refine Tr.va rfl (fun _ _ h1 h2 => run_len un_22 (h1.ev rfl)) ?_
   refine Tr.va rfl (fun _ _ h1 h2 => run_lss (h1.ev rfl) (h1.ev rfl)) ?_
   refine Tr.nil (Tr.normThen ?_)
   refine Tr.cond rfl H (fun H => ?_) (fun H => ?_)
   ·refine Tr.skip (Tr.normThen ?_)
    refine Tr.seq ?_
    refine Tr.block ?_
    refine Tr.sr ?_
    refine Tr.asg rfl rfl ?_
    refine Tr.nil (Tr.normThen ?_)
    refine Tr.block ?_
    refine Tr.loop (σ := (List Bool) × (List TRect) × Int × (Option Addr) × Nat × (Option Addr) × Nat) (fun m w s => F_etchhouseref1_PiecesOf_L13 p0 x588 (F_etchhouseref1_PiecesOf_L12 N p0 l468 x469 (F_etchhouseref1_PiecesOf_L9 N p0 mF_etchhouseref1_PiecesOf_L9) mF_etchhouseref1_PiecesOf_L12) m s.1 s.2.1 s.2.2.1 = some r ∧ SlF s.2.2.2.1 (s.1).length s.2.2.2.2.1 ∧ SlF s.2.2.2.2.2.1 (s.2.1).length s.2.2.2.2.2.2) (fun s => [(0, (.slice Ap0_0 (p0).length cp0_0)), (3, (.slice s.2.2.2.1 (s.1).length s.2.2.2.2.1)), (4, (.slice Al468 (l468).length cl468)), (5, (.int .i64 x469)), (6, (.slice s.2.2.2.2.2.1 (s.2.1).length s.2.2.2.2.2.2)), (7, (.int .i64 x588)), (8, (.int .i64 s.2.2.1))]) (fun s => [(2, ow s.2.2.2.1 s.2.2.2.2.1 4 fl_bool s.1), (31, ow Al468 cl468 22 fl_LTRect l468), (32, ow s.2.2.2.2.2.1 s.2.2.2.2.2.2 29 fl_TRect s.2.1)]) N (l586, l587, 0, Al586, cl586, Al587, cl587) ⟨H, hl586, hl587⟩ (.cons rfl (.cons rfl (.cons rfl (.cons rfl (.cons rfl (.cons rfl (.cons rfl .nil))))))) (.cons rfl (.cons rfl (.cons rfl .nil))) (fun _ _ h => noSome (h.1)) ?_
    intro w leF_etchhouseref1_PiecesOf_L13 mF_etchhouseref1_PiecesOf_L13 s hs
    obtain ⟨l624, l625, x626, Al624, cl624, Al625, cl625⟩ := s
    obtain ⟨H, hl624, hl625⟩ := hs
    replace H : F_etchhouseref1_PiecesOf_L13 p0 x588 (F_etchhouseref1_PiecesOf_L12 N p0 l468 x469 (F_etchhouseref1_PiecesOf_L9 N p0 mF_etchhouseref1_PiecesOf_L9) mF_etchhouseref1_PiecesOf_L12) (mF_etchhouseref1_PiecesOf_L13 + 1) l624 l625 x626 = some r := H
    replace hp0_0 := hp0_0.leR leF_etchhouseref1_PiecesOf_L13
    replace leB := leB.trans leF_etchhouseref1_PiecesOf_L13
    replace leF_etchhouseref1_PiecesOf_L9 := leF_etchhouseref1_PiecesOf_L9.trans leF_etchhouseref1_PiecesOf_L13
    replace leF_etchhouseref1_PiecesOf_L12 := leF_etchhouseref1_PiecesOf_L12.trans leF_etchhouseref1_PiecesOf_L13
    replace hl624 : SlF Al624 (l624).length cl624 := hl624
    replace hl625 : SlF Al625 (l625).length cl625 := hl625
    rw [F_etchhouseref1_PiecesOf_L13.eq_2] at H
    show Tr _ _ (LF [(0, (.slice Ap0_0 (p0).length cp0_0)), (3, (.slice Al624 (l624).length cl624)), (4, (.slice Al468 (l468).length cl468)), (5, (.int .i64 x469)), (6, (.slice Al625 (l625).length cl625)), (7, (.int .i64 x588)), (8, (.int .i64 x626))]) (LE [(2, ow Al624 cl624 4 fl_bool l624), (31, ow Al468 cl468 22 fl_LTRect l468), (32, ow Al625 cl625 29 fl_TRect l625)]) _
    refine Tr.seq ?_
    refine Tr.sr ?_
    refine Tr.mv rfl rfl ?_
    refine Tr.mv rfl rfl ?_
    refine Tr.va rfl (fun _ _ h1 h2 => run_len un_22 (h1.ev rfl)) ?_
    refine Tr.va rfl (fun _ _ h1 h2 => run_lss (h1.ev rfl) (h1.ev rfl)) ?_
    refine Tr.nil (Tr.normThen ?_)
    refine Tr.cond rfl H (fun H => ?_) (fun H => ?_)
    ·refine Tr.skip (Tr.normThen ?_)
     refine Tr.seq ?_
     refine Tr.block ?_
     refine Tr.seq ?_
     refine Tr.draw (by kernel_rfl) (by kernel_rfl) ?_
     refine Tq.mv rfl rfl ?_
     refine Tq.mv rfl rfl ?_
     obtain ⟨x627, hx627, H⟩ := bnd H
     obtain ⟨hx6270, hx6271, hx6272⟩ := idx_some hx627
     refine Tq.va rfl (fun _ _ h1 h2 => run_indexAddr el_113 (h1.ev rfl) hl624 (h1.ev rfl) hx6270 hx6271) ?_
     refine Tq.va rfl (fun _ _ h1 h2 => run_load1 ag_4 (h1.ev rfl) (rdo ef_bool (k := 2) h2 rfl hx6272) rfl) ?_
     refine Tq.va rfl (fun _ _ h1 h2 => run_not (h1.ev rfl)) ?_
     refine Tq.mv rfl rfl ?_
     obtain ⟨g631, hg631, H⟩ := bnd H
     refine Tq.mid 10 [(0, (.slice Ap0_0 (p0).length cp0_0)), (3, (.slice Al624 (l624).length cl624)), (4, (.slice Al468 (l468).length cl468)), (5, (.int .i64 x469)), (6, (.slice Al625 (l625).length cl625)), (7, (.int .i64 x588)), (8, (.int .i64 x626)), (57, (.bool g631))] ?_ ?_
     ·cases hg639 : (!x627)
      ·rw [hg639] at hg631
       rw [if_neg (by decide)] at hg631
       have H := hg631
       obtain rfl := Option.some.inj H
       refine Tq.pass rfl rfl rfl rfl rfl (by decide) ?_
       refine Tq.pass rfl rfl rfl rfl rfl (by decide) ?_
       refine Tq.pass rfl rfl rfl rfl rfl (by decide) ?_
       refine Tq.pass rfl rfl rfl rfl rfl (by decide) ?_
       refine Tq.pass rfl rfl rfl rfl rfl (by decide) ?_
       refine Tq.pass rfl rfl rfl rfl rfl (by decide) ?_
       refine Tq.pass rfl rfl rfl rfl rfl (by decide) ?_
       refine Tq.pass rfl rfl rfl rfl rfl (by decide) ?_
       refine Tq.pass rfl rfl rfl rfl rfl (by decide) ?_
       refine Tq.va rfl (fun _ _ h1 h2 => run_pickF (h1.ev rfl) (h1.ev rfl)) ?_
       exact Tq.fin (.cons rfl (.cons rfl (.cons rfl (.cons rfl (.cons rfl (.cons rfl (.cons rfl (.cons rfl .nil))))))))
      ·rw [hg639] at hg631
       rw [if_pos rfl] at hg631
       have H := hg631
       refine Tq.val (wg rfl rfl rfl) rfl (fun _ _ h1 h2 => run_move (h1.ev rfl)) ?_
       refine Tq.val (wg rfl rfl rfl) rfl (fun _ _ h1 h2 => run_move (h1.ev rfl)) ?_
       obtain ⟨x632, hx632, H⟩ := bnd H
       obtain ⟨hx6320, hx6321, hx6322⟩ := idx_some hx632
       refine Tq.val (wg rfl rfl rfl) rfl (fun _ _ h1 h2 => run_indexAddr el_22 (h1.ev rfl) hl625 (h1.ev rfl) hx6320 hx6321) ?_
       refine Tq.val (wg rfl rfl rfl) rfl (fun _ _ h1 h2 => run_loadN (cs := [(.int .i64 x632.X0), (.int .i64 x632.Y0), (.int .i64 x632.X1), (.int .i64 x632.Y1)]) ag_29 sz_29 (h1.ev rfl) (CellsAt.take (rdo ef_TRect (k := 32) h2 rfl hx6322) 4) rfl) ?_
       refine Tq.val (wg rfl rfl rfl) rfl (fun _ _ h1 h2 => run_move (h1.ev rfl)) ?_
       refine Tq.val (wg rfl rfl rfl) rfl (fun _ _ h1 h2 => run_move (h1.ev rfl)) ?_
       obtain ⟨x633, hx633, H⟩ := bnd H
       obtain ⟨hx6330, hx6331, hx6332⟩ := idx_some hx633
       refine Tq.val (wg rfl rfl rfl) rfl (fun _ _ h1 h2 => run_indexAddr el_22 (h1.ev rfl) hp0_0.form (h1.ev rfl) hx6330 hx6331) ?_
       refine Tq.val (wg rfl rfl rfl) rfl (fun _ _ h1 h2 => run_loadN (cs := [(.int .i64 x633.X0), (.int .i64 x633.Y0), (.int .i64 x633.X1), (.int .i64 x633.Y1)]) ag_29 sz_29 (h1.ev rfl) (CellsAt.take (rdF ef_TRect hp0_0 hx6332 h2) 4) rfl) ?_
       obtain ⟨y634, hy634, H⟩ := bnd H
       refine Tq.call0 (r := (.bool y634)) (wg rfl rfl rfl) rfl Try.call89 (evl_cons rfl (evl_cons rfl evl_nil)) (fun W hW => F_etchhouseref1_touch_ok x632 x633 y634 hy634 (HF.start _)) ?_
       refine Tq.va rfl (fun _ _ h1 h2 => run_pickT (h1.ev rfl) (h1.ev rfl)) ?_
       obtain rfl := Option.some.inj H
       exact Tq.fin (.cons rfl (.cons rfl (.cons rfl (.cons rfl (.cons rfl (.cons rfl (.cons rfl (.cons rfl .nil))))))))
     ·refine Tq.nil (Tr.normThen ?_)
      refine Tr.cond rfl H (fun H => ?_) (fun H => ?_)
      ·refine Tr.sr ?_
       refine Tr.mv rfl rfl ?_
       refine Tr.mv rfl rfl ?_
       obtain ⟨x635, hx635, H⟩ := bnd H
       obtain ⟨hx6350, hx6351, hx6352⟩ := idx_some hx635
       refine Tr.va rfl (fun _ _ h1 h2 => run_indexAddr el_113 (h1.ev rfl) hl624 (h1.ev rfl) hx6350 hx6351) ?_
       obtain ⟨l636, hl636, H⟩ := bnd H
       have hnl636 := sets_len hl636
       refine Tr.storeEl 2 (t := fl_bool) (l := l624) (i := x626) (fo := 0) (cs := [(.bool true)]) true (wn rfl) rfl rfl rfl rfl rfl hx6352 sz_4 rfl (fun u _ => ⟨u, trivial, rfl⟩) rfl hl636 ?_
       have hfl636 : SlF Al624 (l636).length cl624 := by rw [hnl636]; exact hl624
       refine Tr.sel (lf := [(0, (.slice Ap0_0 (p0).length cp0_0)), (3, (.slice Al624 (l636).length cl624)), (4, (.slice Al468 (l468).length cl468)), (5, (.int .i64 x469)), (6, (.slice Al625 (l625).length cl625)), (7, (.int .i64 x588)), (8, (.int .i64 x626)), (57, (.bool g631)), (58, (.slice Al624 (l636).length cl624)), (59, (.int .i64 x626))]) (le := [(2, ow Al624 cl624 4 fl_bool l636), (31, ow Al468 cl468 22 fl_LTRect l468), (32, ow Al625 cl625 29 fl_TRect l625)]) (.cons rfl (.cons (slenV rfl (by rw [hnl636])) (.cons rfl (.cons rfl (.cons rfl (.cons rfl (.cons rfl (.cons rfl (.cons (slenV rfl (by rw [hnl636])) (.cons rfl .nil)))))))))) (.cons rfl (.cons rfl (.cons rfl .nil))) ?_
       refine Tr.nil (Tr.normThen ?_)
       refine Tr.region ?_
       refine Tr.mv rfl rfl ?_
       refine Tr.mv rfl rfl ?_
       refine Tr.mv rfl rfl ?_
       obtain ⟨x637, hx637, H⟩ := bnd H
       obtain ⟨hx6370, hx6371, hx6372⟩ := idx_some hx637
       refine Tr.va rfl (fun _ _ h1 h2 => run_indexAddr el_22 (h1.ev rfl) hp0_0.form (h1.ev rfl) hx6370 hx6371) ?_
       refine Tr.va rfl (fun _ _ h1 h2 => run_loadN (cs := [(.int .i64 x637.X0), (.int .i64 x637.Y0), (.int .i64 x637.X1), (.int .i64 x637.Y1)]) ag_29 sz_29 (h1.ev rfl) (CellsAt.take (rdF ef_TRect hp0_0 hx6372 h2) 4) rfl) ?_
       refine Tr.buildSlice 41 (e := 29) (vs := [(0, (.agg #[(.int .i64 x637.X0), (.int .i64 x637.Y0), (.int .i64 x637.X1), (.int .i64 x637.Y1)]))]) (cs := [(.int .i64 x637.X0), (.int .i64 x637.Y0), (.int .i64 x637.X1), (.int .i64 x637.Y1)]) (wn rfl) rfl (evs_cons rfl evs_nil) (by kernel_rfl) fun b638 => ?_
       obtain ⟨l639, hl639, H⟩ := bnd H
       refine Tr.append 32 (t := fl_TRect) (l := l625) (l2 := [x637]) (wn rfl) rfl rfl rfl rfl (fun W hW => ⟨[[(.int .i64 x637.X0), (.int .i64 x637.Y0), (.int .i64 x637.X1), (.int .i64 x637.Y1)]], (.cons ⟨(), trivial, rfl⟩ .nil), rdb hW (vs := [(.int .i64 x637.X0), (.int .i64 x637.Y0), (.int .i64 x637.X1), (.int .i64 x637.Y1)]) (k := 41) rfl 0⟩) un_22 sz_29 zl_29 (by decide) by_29 rfl hl639 fun Al639 cl639 hAl639 => ?_
       refine Tr.asg rfl rfl ?_
       refine Tr.nil (Tr.normBlock (Tr.normThen ?_))
       refine Tr.region ?_
       refine Tr.mv rfl rfl ?_
       refine Tr.va rfl (fun _ _ h1 h2 => run_add (h1.ev rfl) (h1.ev rfl)) ?_
       refine Tr.asg rfl rfl ?_
       refine Tr.nil ?_
       exact Tr.backThen leF_etchhouseref1_PiecesOf_L13 (l636, l639, (w64 (x626 + 1)), Al624, cl624, Al639, cl639) ⟨H, hfl636, hAl639⟩ (.cons rfl (.cons rfl (.cons rfl (.cons rfl (.cons rfl (.cons rfl (.cons rfl .nil))))))) (.cons rfl (.cons rfl (.cons rfl .nil)))
      ·refine Tr.skip (Tr.normBlock (Tr.normThen ?_))
       refine Tr.region ?_
       refine Tr.mv rfl rfl ?_
       refine Tr.va rfl (fun _ _ h1 h2 => run_add (h1.ev rfl) (h1.ev rfl)) ?_
       refine Tr.asg rfl rfl ?_
       refine Tr.nil ?_
       exact Tr.backThen leF_etchhouseref1_PiecesOf_L13 (l624, l625, (w64 (x626 + 1)), Al624, cl624, Al625, cl625) ⟨H, hl624, hl625⟩ (.cons rfl (.cons rfl (.cons rfl (.cons rfl (.cons rfl (.cons rfl (.cons rfl .nil))))))) (.cons rfl (.cons rfl (.cons rfl .nil)))
    ·refine Tr.exit (Tr.exitThen (Tr.exitThen (Tr.exitBlock (Tr.normBlock (Tr.normThen ?_)))))
     refine Tr.region ?_
     refine Tr.mv rfl rfl ?_
     refine Tr.va rfl (fun _ _ h1 h2 => run_add (h1.ev rfl) (h1.ev rfl)) ?_
     refine Tr.asg rfl rfl ?_
     refine Tr.nil ?_
     exact Tr.backThen leF_etchhouseref1_PiecesOf_L12 (l624, l625, (w64 (x588 + 1)), Al624, cl624, Al625, cl625) ⟨H, hl624, hl625⟩ (.cons rfl (.cons rfl (.cons rfl (.cons rfl (.cons rfl (.cons rfl .nil)))))) (.cons rfl (.cons rfl (.cons rfl .nil)))
   ·refine Tr.exit (Tr.exitThen (Tr.exitThen (Tr.exitBlock (Tr.normThen ?_))))
    refine Tr.region ?_
    refine Tr.mv rfl rfl ?_
    refine Tr.mv rfl rfl ?_
    obtain ⟨y640, hy640, H⟩ := bnd H
    refine Tr.callM [42] [emp] (U := (Option Addr × Nat)) (fun u => (.slice u.1 (y640).length u.2)) (fun u => SlF u.1 (y640).length u.2) (fun u => [ow u.1 u.2 29 fl_TRect y640]) rfl (pk_cons rfl pk_nil) (fun _ => rfl) (wn rfl) rfl Try.call88 (evl_cons rfl evl_nil) (fun W hW hp hE => F_etchhouseref1_Canonical_ok N l587 Al587 cl587 (hW.slS (k := 32) rfl hp rfl) y640 hy640 hE) ?_
    intro u hu
    obtain ⟨Ay640_0, cy640_0⟩ := u
    have gy640_0 := hu
    have hgy640_0 : SlF Ay640_0 (y640).length cy640_0 := gy640_0 --@phi
    show Tr _ _ (uf _ 70 (.slice Ay640_0 (y640).length cy640_0)) (up _ 42 (ow Ay640_0 cy640_0 29 fl_TRect y640)) _
    refine Tr.freeze 31 rfl fun w le643 hz642 => ?_
    replace hp0_0 := hp0_0.leR le643
    replace leB := leB.trans le643
    replace leF_etchhouseref1_PiecesOf_L9 := leF_etchhouseref1_PiecesOf_L9.trans le643
    replace leF_etchhouseref1_PiecesOf_L12 := leF_etchhouseref1_PiecesOf_L12.trans le643
    refine Tr.freeze 42 rfl fun w le645 hz644 => ?_
    replace hp0_0 := hp0_0.leR le645
    replace hz642 := hz642.le le645
    replace leB := leB.trans le645
    replace leF_etchhouseref1_PiecesOf_L9 := leF_etchhouseref1_PiecesOf_L9.trans le645
    replace leF_etchhouseref1_PiecesOf_L12 := leF_etchhouseref1_PiecesOf_L12.trans le645
    obtain ⟨y646, hy646, H⟩ := bnd H
    refine Tr.callG [43] [emp] (U := (Option Addr × Nat)) (fun u => (.slice u.1 (y646).length u.2)) (fun O W u => SlF u.1 (y646).length u.2) (fun u => [ow u.1 u.2 22 fl_LTRect y646]) rfl (pk_cons rfl pk_nil) (fun _ => rfl) (wn rfl) rfl Try.call90 (evl_cons rfl (evl_cons rfl evl_nil)) (fun W hW hp hE => F_etchhouseref1_insert_ok N l468 Al468 cl468 (hz642.extO (hW.extS hp)) y640 Ay640_0 cy640_0 (hz644.extO (hW.extS hp)) y646 hy646 hE) ?_
    intro w u le647 hu
    obtain ⟨Ay646_0, cy646_0⟩ := u
    have gy646_0 := hu
    replace hp0_0 := hp0_0.leR le647
    replace hz642 := hz642.le le647
    replace hz644 := hz644.le le647
    replace leB := leB.trans le647
    replace leF_etchhouseref1_PiecesOf_L9 := leF_etchhouseref1_PiecesOf_L9.trans le647
    replace leF_etchhouseref1_PiecesOf_L12 := leF_etchhouseref1_PiecesOf_L12.trans le647
    have hgy646_0 : SlF Ay646_0 (y646).length cy646_0 := gy646_0 --@phi
    show Tr _ _ (uf _ 71 (.slice Ay646_0 (y646).length cy646_0)) (up _ 43 (ow Ay646_0 cy646_0 22 fl_LTRect y646)) _
    refine Tr.asg rfl rfl ?_
    refine Tr.nil (Tr.normBlock (Tr.normThen ?_))
    refine Tr.region ?_
    refine Tr.mv rfl rfl ?_
    refine Tr.va rfl (fun _ _ h1 h2 => run_add (h1.ev rfl) (h1.ev rfl)) ?_
    refine Tr.asg rfl rfl ?_
    refine Tr.nil ?_
    refine Tr.ren 43 31 rfl rfl rfl ?_
    exact Tr.backThen leF_etchhouseref1_PiecesOf_L9 (l586, y646, (w64 (x469 + 1)), Al586, cl586, Ay646_0, cy646_0) ⟨H, hl586, hgy646_0⟩ (.cons rfl (.cons rfl (.cons rfl (.cons rfl .nil)))) (.cons rfl (.cons rfl .nil))
 ·refine Tr.exit (Tr.exitThen (Tr.exitThen (Tr.exitBlock (Tr.normThen ?_))))
  refine Tr.sr ?_
  refine Tr.mv rfl rfl ?_
  refine Tr.asg rfl rfl ?_
  refine Tr.nil (Tr.normThen ?_)
  refine Tr.ret ?_
  obtain rfl := Option.some.inj H
  exact Tr.out (m := [(.slice Al468 (l468).length cl468)]) [] (res_tmp rfl res_nil) (fun W hW => ⟨w, (Al468, cl468), leB, rfl, hl468, hW.pick (ks := [31]) (by decide) (pk_cons rfl pk_nil)⟩)

theorem F_etchhouseref1_Pieces_ok (N : Nat) {w : Bs} (p0 : (List TRect)) (Ap0_0 : Option Addr) (cp0_0 : Nat) (hp0_0 : Sl w.R w.W fl_TRect Ap0_0 cp0_0 p0) (r : ((List (List TRect)) × Int)) (H : F_etchhouseref1_Pieces N p0 = some r) (hE : HF w w.W (LEn [emp])) : Calls Try.prog 25 [(.slice Ap0_0 (p0).length cp0_0)].toArray w.W fun e W' => ∃ (w' : Bs) (u : (Option Addr × Nat)), w.Le w' ∧ e = .returned (.tuple #[(.slice u.1 (r.1).length u.2), (.int .i64 r.2)]) ∧ (SlF u.1 (r.1).length u.2) ∧ HF w' W' (LEn [ow u.1 u.2 22 fl_LTRect r.1]) := by
 unfold F_etchhouseref1_Pieces at H
 have leB := Bs.Le.refl w
 refine Tr.enter (n := 12) Try.func25 rfl rfl rfl hE ?_
 refine Tr.sr ?_
 refine Tr.asg rfl rfl ?_
 refine Tr.nilOwn 1 22 fl_LTRect ?_
 show Tr _ _ (uf _ 2 (.slice none (([] : List (List TRect))).length 0)) _ _
 refine Tr.asg rfl rfl ?_
 refine Tr.nil (Tr.normThen ?_)
 refine Tr.seq ?_
 refine Tr.sr ?_
 refine Tr.mv rfl rfl ?_
 obtain ⟨y100, hy100, H⟩ := bnd H
 refine Tr.call0 (r := (.int .i64 y100)) (wn rfl) rfl Try.call49 (evl_cons rfl evl_nil) (fun W hW => F_etchhouseref1_CheckRegion_ok N p0 Ap0_0 cp0_0 (hp0_0.ext hW.extAll) y100 hy100 (HF.start _)) ?_
 refine Tr.asg rfl rfl ?_
 refine Tr.nil (Tr.normThen ?_)
 refine Tr.sr ?_
 refine Tr.mv rfl rfl ?_
 refine Tr.va rfl (fun _ _ h1 h2 => run_neq (h1.ev rfl) (h1.ev rfl)) ?_
 refine Tr.nil (Tr.normThen ?_)
 refine Tr.cond rfl H (fun H => ?_) (fun H => ?_)
 ·refine Tr.sr ?_
  refine Tr.mv rfl rfl ?_
  refine Tr.asg rfl rfl ?_
  refine Tr.nilOwn 2 22 fl_LTRect ?_
  show Tr _ _ (uf _ 2 (.slice none (([] : List (List TRect))).length 0)) _ _
  refine Tr.asg rfl rfl ?_
  refine Tr.nil (Tr.normThen ?_)
  refine Tr.ret (Tr.retThen ?_)
  obtain rfl := Option.some.inj H
  exact Tr.out (m := [(.slice none (([] : List (List TRect))).length 0), (.int .i64 y100)]) [] (res_tmp rfl (res_tmp rfl res_nil)) (fun W hW => ⟨w, (none, 0), leB, rfl, slf_nil, hW.pick (ks := [2]) (by decide) (pk_cons rfl pk_nil)⟩)
 ·refine Tr.skip (Tr.normThen ?_)
  refine Tr.sr ?_
  refine Tr.mv rfl rfl ?_
  obtain ⟨y101, hy101, H⟩ := bnd H
  refine Tr.callG [3] [emp] (U := (Option Addr × Nat)) (fun u => (.slice u.1 (y101).length u.2)) (fun O W u => SlF u.1 (y101).length u.2) (fun u => [ow u.1 u.2 22 fl_LTRect y101]) rfl (pk_cons rfl pk_nil) (fun _ => rfl) (wn rfl) rfl Try.call50 (evl_cons rfl evl_nil) (fun W hW hp hE => F_etchhouseref1_PiecesOf_ok N p0 Ap0_0 cp0_0 (hp0_0.ext (hW.extS hp)) y101 hy101 hE) ?_
  intro w u le102 hu
  obtain ⟨Ay101_0, cy101_0⟩ := u
  have gy101_0 := hu
  replace hp0_0 := hp0_0.leR le102
  replace leB := leB.trans le102
  have hgy101_0 : SlF Ay101_0 (y101).length cy101_0 := gy101_0 --@phi
  show Tr _ _ (uf _ 11 (.slice Ay101_0 (y101).length cy101_0)) (up _ 3 (ow Ay101_0 cy101_0 22 fl_LTRect y101)) _
  refine Tr.asg rfl rfl ?_
  refine Tr.asg rfl rfl ?_
  refine Tr.nil (Tr.normThen ?_)
  refine Tr.ret ?_
  obtain rfl := Option.some.inj H
  exact Tr.out (m := [(.slice Ay101_0 (y101).length cy101_0), (.int .i64 0)]) [] (res_tmp rfl (res_tmp rfl res_nil)) (fun W hW => ⟨w, (Ay101_0, cy101_0), leB, rfl, hgy101_0, hW.pick (ks := [3]) (by decide) (pk_cons rfl pk_nil)⟩)

theorem F_shape_Set__Around_ok {w : Bs} (p0 : (List TBand)) (Ap0_0 : Option Addr) (cp0_0 : Nat) (hp0_0 : Sl w.R w.W fl_TBand Ap0_0 cp0_0 p0) (r : TRect) (H : F_shape_Set__Around p0 = some r) (hE : HF w w.W E0) : Calls Try.prog 51 [(.slice Ap0_0 (p0).length cp0_0)].toArray w.W fun e W' => e = .returned (.agg #[(.int .i64 r.X0), (.int .i64 r.Y0), (.int .i64 r.X1), (.int .i64 r.Y1)]) ∧ HF w W' E0 := by
 unfold F_shape_Set__Around at H
 have leB := Bs.Le.refl w
 refine Tr.enter (n := 58) Try.func51 rfl rfl rfl hE ?_
 refine Tr.sr ?_
 refine Tr.alloc 1 (wn rfl) rfl ze_29 fun b100 => ?_
 refine Tr.nil (Tr.normThen ?_)
 refine Tr.seq ?_
 obtain ⟨x102, hx102, H⟩ := bnd H
 obtain ⟨hx1020, hx1021, hx1022⟩ := idx_some hx102
 obtain ⟨u103, hRu103, hoku103, hcu103⟩ := (hp0_0).el hx1022
 obtain ⟨Au103_0, cu103_0⟩ := u103
 obtain ⟨x104, hx104, H⟩ := bnd H
 obtain ⟨hx1040, hx1041, hx1042⟩ := idx_some hx104
 obtain ⟨x105, hx105, H⟩ := bnd H
 obtain ⟨hx1050, hx1051, hx1052⟩ := idx_some hx105
 obtain ⟨u106, hRu106, hoku106, hcu106⟩ := (hp0_0).el hx1052
 obtain ⟨Au106_0, cu106_0⟩ := u106
 obtain ⟨x107, hx107, H⟩ := bnd H
 obtain ⟨hx1070, hx1071, hx1072⟩ := idx_some hx107
 obtain ⟨u108, hRu108, hoku108, hcu108⟩ := (hp0_0).el hx1072
 obtain ⟨Au108_0, cu108_0⟩ := u108
 obtain ⟨x109, hx109, H⟩ := bnd H
 obtain ⟨hx1090, hx1091, hx1092⟩ := idx_some hx109
 obtain ⟨x110, hx110, H⟩ := bnd H
 obtain ⟨hx1100, hx1101, hx1102⟩ := idx_some hx110
 obtain ⟨u111, hRu111, hoku111, hcu111⟩ := (hp0_0).el hx1102
 obtain ⟨Au111_0, cu111_0⟩ := u111
 refine Tr.drawF 25 [(24, .makeFunc (.func 0) #[] #[])] [(24, ⟨3, 2, (.func (.func 0) #[] #[]), fun b => .pointer (some ⟨b, 0, none⟩), fun b => bx b #[(.int .i64 0), (.int .i64 0), (.int .i64 0), (.int .i64 0)] 29⟩)] [(0, (.slice Ap0_0 (p0).length cp0_0)), (2, (.pointer (some ⟨b100, 0, none⟩))), (3, (.func (.func 0) #[] #[])), (6, (.slice Ap0_0 (p0).length cp0_0)), (7, (.pointer (some ⟨adB Ap0_0, adO Ap0_0 + ((0 : Int)).toNat * 3, none⟩))), (8, (.pointer (some ⟨adB Ap0_0, adO Ap0_0 + ((0 : Int)).toNat * 3 + 2, none⟩))), (9, (.slice Au103_0 (x102.Xs).length cu103_0)), (10, (.pointer (some ⟨adB Au103_0, adO Au103_0 + ((0 : Int)).toNat * 1, none⟩))), (11, (.int .i64 x104)), (12, (.slice Ap0_0 (p0).length cp0_0)), (13, (.pointer (some ⟨adB Ap0_0, adO Ap0_0 + ((0 : Int)).toNat * 3, none⟩))), (14, (.pointer (some ⟨adB Ap0_0, adO Ap0_0 + ((0 : Int)).toNat * 3 + 0, none⟩))), (15, (.int .i64 x105.Y0)), (16, (.slice Ap0_0 (p0).length cp0_0)), (17, (.pointer (some ⟨adB Ap0_0, adO Ap0_0 + ((0 : Int)).toNat * 3, none⟩))), (18, (.pointer (some ⟨adB Ap0_0, adO Ap0_0 + ((0 : Int)).toNat * 3 + 2, none⟩))), (19, (.slice Au108_0 (x107.Xs).length cu108_0)), (20, (.pointer (some ⟨adB Au108_0, adO Au108_0 + ((1 : Int)).toNat * 1, none⟩))), (21, (.int .i64 x109)), (22, (.slice Ap0_0 (p0).length cp0_0)), (23, (.slice Ap0_0 (p0).length cp0_0)), (24, (.int .i64 (p0.length : Int))), (25, (.int .i64 (w64 ((p0.length : Int) - 1)))), (26, (.pointer (some ⟨adB Ap0_0, adO Ap0_0 + ((w64 ((p0.length : Int) - 1))).toNat * 3, none⟩))), (27, (.pointer (some ⟨adB Ap0_0, adO Ap0_0 + ((w64 ((p0.length : Int) - 1))).toNat * 3 + 1, none⟩))), (28, (.int .i64 x110.Y1)), (29, (.agg #[(.int .i64 x104), (.int .i64 x105.Y0), (.int .i64 x109), (.int .i64 x110.Y1)]))] (by kernel_rfl) (by kernel_rfl) (by kernel_rfl) (by kernel_rfl) (by kernel_rfl) (by kernel_rfl) (by kernel_rfl) (fall_cons (fr_alloc rfl rfl ze_29) fall_nil) (fall_cons rfl fall_nil) (fall_cons rfl fall_nil) ?_ ?_
 ·refine Tq.mv rfl rfl ?_
  have hoku103_0 := hoku103
  replace hoku103_0 : Sl w.R w.W fl_i64 Au103_0 cu103_0 x102.Xs := hoku103_0
  refine Tq.va rfl (fun _ _ h1 h2 => run_indexAddr el_65 (h1.ev rfl) hp0_0.form (h1.ev rfl) hx1020 hx1021) ?_
  refine Tq.va rfl (fun _ _ h1 h2 => run_fieldAddr fo_104_2 (h1.ev rfl)) ?_
  refine Tq.va rfl (fun _ _ h1 h2 => run_load1 ag_97 (h1.ev rfl) (CellsAt.drop (rdR hRu103 hcu103 h2) 2) rfl) ?_
  refine Tq.va rfl (fun _ _ h1 h2 => run_indexAddr el_97 (h1.ev rfl) hoku103_0.form (h1.ev rfl) hx1040 hx1041) ?_
  refine Tq.va rfl (fun _ _ h1 h2 => run_load1 ag_3 (h1.ev rfl) (rdF ef_i64 hoku103_0 hx1042 h2) rfl) ?_
  refine Tq.mv rfl rfl ?_
  have hoku106_0 := hoku106
  replace hoku106_0 : Sl w.R w.W fl_i64 Au106_0 cu106_0 x105.Xs := hoku106_0
  refine Tq.va rfl (fun _ _ h1 h2 => run_indexAddr el_65 (h1.ev rfl) hp0_0.form (h1.ev rfl) hx1050 hx1051) ?_
  refine Tq.va rfl (fun _ _ h1 h2 => run_fieldAddr fo_104_0 (h1.ev rfl)) ?_
  refine Tq.va rfl (fun _ _ h1 h2 => run_load1 ag_3 (h1.ev rfl) (CellsAt.drop (rdR hRu106 hcu106 h2) 0) rfl) ?_
  refine Tq.mv rfl rfl ?_
  have hoku108_0 := hoku108
  replace hoku108_0 : Sl w.R w.W fl_i64 Au108_0 cu108_0 x107.Xs := hoku108_0
  refine Tq.va rfl (fun _ _ h1 h2 => run_indexAddr el_65 (h1.ev rfl) hp0_0.form (h1.ev rfl) hx1070 hx1071) ?_
  refine Tq.va rfl (fun _ _ h1 h2 => run_fieldAddr fo_104_2 (h1.ev rfl)) ?_
  refine Tq.va rfl (fun _ _ h1 h2 => run_load1 ag_97 (h1.ev rfl) (CellsAt.drop (rdR hRu108 hcu108 h2) 2) rfl) ?_
  refine Tq.va rfl (fun _ _ h1 h2 => run_indexAddr el_97 (h1.ev rfl) hoku108_0.form (h1.ev rfl) hx1090 hx1091) ?_
  refine Tq.va rfl (fun _ _ h1 h2 => run_load1 ag_3 (h1.ev rfl) (rdF ef_i64 hoku108_0 hx1092 h2) rfl) ?_
  refine Tq.mv rfl rfl ?_
  refine Tq.mv rfl rfl ?_
  refine Tq.va rfl (fun _ _ h1 h2 => run_len un_65 (h1.ev rfl)) ?_
  refine Tq.va rfl (fun _ _ h1 h2 => run_sub (h1.ev rfl) (h1.ev rfl)) ?_
  have hoku111_0 := hoku111
  replace hoku111_0 : Sl w.R w.W fl_i64 Au111_0 cu111_0 x110.Xs := hoku111_0
  refine Tq.va rfl (fun _ _ h1 h2 => run_indexAddr el_65 (h1.ev rfl) hp0_0.form (h1.ev rfl) hx1100 hx1101) ?_
  refine Tq.va rfl (fun _ _ h1 h2 => run_fieldAddr fo_104_1 (h1.ev rfl)) ?_
  refine Tq.va rfl (fun _ _ h1 h2 => run_load1 ag_3 (h1.ev rfl) (CellsAt.drop (rdR hRu111 hcu111 h2) 1) rfl) ?_
  refine Tq.build (vs := [(0, (.int .i64 x104)), (1, (.int .i64 x105.Y0)), (2, (.int .i64 x109)), (3, (.int .i64 x110.Y1))]) (cs := [(.int .i64 x104), (.int .i64 x105.Y0), (.int .i64 x109), (.int .i64 x110.Y1)]) (wn rfl) rfl (evs_cons rfl (evs_cons rfl (evs_cons rfl (evs_cons rfl evs_nil)))) (by kernel_rfl) ?_
  refine Tq.mkFunc (vs := []) (wn rfl) rfl evl_nil ?_
  exact Tq.fin (.cons rfl (.cons rfl (.cons rfl (.cons rfl (.cons rfl (.cons rfl (.cons rfl (.cons rfl (.cons rfl (.cons rfl (.cons rfl (.cons rfl (.cons rfl (.cons rfl (.cons rfl (.cons rfl (.cons rfl (.cons rfl (.cons rfl (.cons rfl (.cons rfl (.cons rfl (.cons rfl (.cons rfl (.cons rfl (.cons rfl (.cons rfl .nil)))))))))))))))))))))))))))
 ·intro bs101
  refine Tr.sel (lf := [(0, (.slice Ap0_0 (p0).length cp0_0)), (2, (.pointer (some ⟨b100, 0, none⟩))), (3, (.pointer (some ⟨(bs101 24), 0, none⟩))), (29, (.agg #[(.int .i64 x104), (.int .i64 x105.Y0), (.int .i64 x109), (.int .i64 x110.Y1)]))]) (le := [(1, bx b100 #[(.int .i64 0), (.int .i64 0), (.int .i64 0), (.int .i64 0)] 29), (2, bx (bs101 24) #[(.int .i64 0), (.int .i64 0), (.int .i64 0), (.int .i64 0)] 29)]) (.cons rfl (.cons rfl (.cons rfl (.cons rfl .nil)))) (.cons rfl (.cons rfl .nil)) ?_
  refine Tr.store 2 (cs := [(.int .i64 x104), (.int .i64 x105.Y0), (.int .i64 x109), (.int .i64 x110.Y1)]) [(.int .i64 x104), (.int .i64 x105.Y0), (.int .i64 x109), (.int .i64 x110.Y1)] (wn rfl) rfl rfl rfl rfl sz_29 rfl rfl rfl ?_
  refine Tr.nil (Tr.normThen ?_)
  refine Tr.seq ?_
  refine Tr.sr ?_
  refine Tr.mv rfl rfl ?_
  refine Tr.va rfl (fun _ _ h1 h2 => run_len un_65 (h1.ev rfl)) ?_
  refine Tr.mv rfl rfl ?_
  refine Tr.nil (Tr.normThen ?_)
  refine Tr.block ?_
  refine Tr.loop (σ := (List TBand) × Nat × Int × Int) (fun m w s => m = s.1.length + 1 ∧ s.1 = List.drop s.2.1 p0 ∧ s.2.1 ≤ p0.length ∧ F_shape_Set__Around_L1 x105 x110 s.1 s.2.1 s.2.2.1 s.2.2.2 = some r) (fun s => [(2, (.pointer (some ⟨b100, 0, none⟩))), (3, (.pointer (some ⟨(bs101 24), 0, none⟩))), (30, (.slice Ap0_0 (p0).length cp0_0)), (31, (.int .i64 (p0.length : Int))), (32, (.int .i64 (s.2.1 : Int)))]) (fun s => [(1, bx b100 #[(.int .i64 0), (.int .i64 0), (.int .i64 0), (.int .i64 0)] 29), (2, bx (bs101 24) #[(.int .i64 s.2.2.1), (.int .i64 x105.Y0), (.int .i64 s.2.2.2), (.int .i64 x110.Y1)] 29)]) (p0.length + 1) (p0, 0, x104, x109) ⟨rfl, rfl, Nat.zero_le _, H⟩ (.cons rfl (.cons rfl (.cons rfl (.cons rfl (.cons rfl .nil))))) (.cons rfl (.cons rfl .nil)) (fun _ _ h => absurd h.1 (by simp)) ?_
  intro w leF_shape_Set__Around_L1 m s hs
  obtain ⟨restF_shape_Set__Around_L1, iF_shape_Set__Around_L1, x133, x134⟩ := s
  obtain ⟨hmF_shape_Set__Around_L1, hdF_shape_Set__Around_L1, hiF_shape_Set__Around_L1, H⟩ := hs
  replace hdF_shape_Set__Around_L1 : restF_shape_Set__Around_L1 = List.drop iF_shape_Set__Around_L1 p0 := hdF_shape_Set__Around_L1
  replace H : F_shape_Set__Around_L1 x105 x110 restF_shape_Set__Around_L1 iF_shape_Set__Around_L1 x133 x134 = some r := H
  replace hmF_shape_Set__Around_L1 : m + 1 = restF_shape_Set__Around_L1.length + 1 := hmF_shape_Set__Around_L1
  replace hp0_0 := hp0_0.leR leF_shape_Set__Around_L1
  replace leB := leB.trans leF_shape_Set__Around_L1
  obtain rfl : m = restF_shape_Set__Around_L1.length := by omega
  clear hmF_shape_Set__Around_L1
  show Tr _ _ (LF [(2, (.pointer (some ⟨b100, 0, none⟩))), (3, (.pointer (some ⟨(bs101 24), 0, none⟩))), (30, (.slice Ap0_0 (p0).length cp0_0)), (31, (.int .i64 (p0.length : Int))), (32, (.int .i64 (iF_shape_Set__Around_L1 : Int)))]) (LE [(1, bx b100 #[(.int .i64 0), (.int .i64 0), (.int .i64 0), (.int .i64 0)] 29), (2, bx (bs101 24) #[(.int .i64 x133), (.int .i64 x105.Y0), (.int .i64 x134), (.int .i64 x110.Y1)] 29)]) _
  cases restF_shape_Set__Around_L1 with
  | nil =>
   rw [F_shape_Set__Around_L1.eq_1] at H
   refine Tr.sr ?_
   refine Tr.va rfl (fun _ _ h1 h2 => run_lss (h1.ev rfl) (h1.ev rfl)) ?_
   refine Tr.nil (Tr.normThen ?_)
   refine Tr.seq ?_
   refine Tr.condF rfl (range_nil hdF_shape_Set__Around_L1) ?_
   refine Tr.exit (Tr.exitThen (Tr.exitThen (Tr.exitBlock (Tr.normThen ?_))))
   refine Tr.sr ?_
   refine Tr.va rfl (fun _ _ h1 h2 => run_loadN (cs := [(.int .i64 x133), (.int .i64 x105.Y0), (.int .i64 x134), (.int .i64 x110.Y1)]) ag_29 sz_29 (h1.ev rfl) (CellsAt.take (rdb h2 (vs := [(.int .i64 x133), (.int .i64 x105.Y0), (.int .i64 x134), (.int .i64 x110.Y1)]) (k := 2) rfl 0) 4) rfl) ?_
   refine Tr.store 1 (cs := [(.int .i64 x133), (.int .i64 x105.Y0), (.int .i64 x134), (.int .i64 x110.Y1)]) [(.int .i64 x133), (.int .i64 x105.Y0), (.int .i64 x134), (.int .i64 x110.Y1)] (wn rfl) rfl rfl rfl rfl sz_29 rfl rfl rfl ?_
   refine Tr.nil (Tr.normThen ?_)
   refine Tr.ret ?_
   obtain rfl := Option.some.inj H
   exact Tr.out (m := [(.agg #[(.int .i64 x133), (.int .i64 x105.Y0), (.int .i64 x134), (.int .i64 x110.Y1)])]) [1] (res_cell rfl rfl ag_29 sz_29 res_nil) (fun W hW => ⟨rfl, hW.low leB⟩)
  | cons xF_shape_Set__Around_L1 restF_shape_Set__Around_L1 =>
   rw [F_shape_Set__Around_L1.eq_2] at H
   refine Tr.sr ?_
   refine Tr.va rfl (fun _ _ h1 h2 => run_lss (h1.ev rfl) (h1.ev rfl)) ?_
   refine Tr.nil (Tr.normThen ?_)
   refine Tr.seq ?_
   refine Tr.condT rfl (range_on hdF_shape_Set__Around_L1) ?_
   refine Tr.skip (Tr.normThen ?_)
   refine Tr.seq ?_
   refine Tr.block ?_
   refine Tr.sr ?_
   obtain ⟨u135, hRu135, hoku135, hcu135⟩ := (hp0_0).el (range_at hdF_shape_Set__Around_L1)
   obtain ⟨Au135_0, cu135_0⟩ := u135
   have hoku135_0 := hoku135
   replace hoku135_0 : Sl w.R w.W fl_i64 Au135_0 cu135_0 xF_shape_Set__Around_L1.Xs := hoku135_0
   refine Tr.va rfl (fun _ _ h1 h2 => run_indexAddr el_65 (h1.ev rfl) hp0_0.form (h1.ev rfl) (Int.natCast_nonneg _) (range_lt hdF_shape_Set__Around_L1)) ?_
   refine Tr.va rfl (fun _ _ h1 h2 => run_loadN (cs := [(.int .i64 xF_shape_Set__Around_L1.Y0), (.int .i64 xF_shape_Set__Around_L1.Y1), (.slice Au135_0 (xF_shape_Set__Around_L1.Xs).length cu135_0)]) ag_104 sz_104 (h1.ev rfl) (CellsAt.take (rdR hRu135 hcu135 h2) 3) rfl) ?_
   refine Tr.alloc 5 (wn rfl) rfl ze_104 fun b136 => ?_
   refine Tr.store 5 (cs := [(.int .i64 xF_shape_Set__Around_L1.Y0), (.int .i64 xF_shape_Set__Around_L1.Y1), (.slice Au135_0 (xF_shape_Set__Around_L1.Xs).length cu135_0)]) [(.int .i64 xF_shape_Set__Around_L1.Y0), (.int .i64 xF_shape_Set__Around_L1.Y1), (.slice Au135_0 (xF_shape_Set__Around_L1.Xs).length cu135_0)] (wn rfl) rfl rfl rfl rfl sz_104 rfl rfl rfl ?_
   refine Tr.nil (Tr.normThen ?_)
   refine Tr.drawC 20 [(19, fun x => x = (bs101 24))] [] (by kernel_rfl) (by kernel_rfl) fun sz137 hlosz137 hEsz137 => ?_
   refine Dr.quiet 0 [(36, (.pointer (some ⟨(bs101 24), 0, none⟩)))] (by kernel_rfl) rfl rfl (by kernel_rfl) ?_ rfl rfl ?_
   ·refine Tq.va rfl (fun _ _ h1 h2 => run_fieldAddr fo_29_0 (h1.ev rfl)) ?_
    exact Tq.fin (.cons rfl .nil)
   refine Dr.quiet 1 [(37, (.int .i64 x133))] (by kernel_rfl) rfl rfl (by kernel_rfl) ?_ rfl rfl ?_
   ·refine Tq.va rfl (fun _ _ h1 h2 => run_load1 ag_3 (h1.ev rfl) (rdb h2 (vs := [(.int .i64 x133), (.int .i64 x105.Y0), (.int .i64 x134), (.int .i64 x110.Y1)]) (k := 2) rfl 0) rfl) ?_
    exact Tq.fin (.cons rfl .nil)
   refine Dr.quiet 2 [(38, (.pointer (some ⟨b136, 2, none⟩)))] (by kernel_rfl) rfl rfl (by kernel_rfl) ?_ rfl rfl ?_
   ·refine Tq.va rfl (fun _ _ h1 h2 => run_fieldAddr fo_104_2 (h1.ev rfl)) ?_
    exact Tq.fin (.cons rfl .nil)
   refine Dr.quiet 3 [(39, (.slice Au135_0 (xF_shape_Set__Around_L1.Xs).length cu135_0))] (by kernel_rfl) rfl rfl (by kernel_rfl) ?_ rfl rfl ?_
   ·refine Tq.va rfl (fun _ _ h1 h2 => run_load1 ag_97 (h1.ev rfl) (rdb h2 (vs := [(.int .i64 xF_shape_Set__Around_L1.Y0), (.int .i64 xF_shape_Set__Around_L1.Y1), (.slice Au135_0 (xF_shape_Set__Around_L1.Xs).length cu135_0)]) (k := 5) rfl 2) rfl) ?_
    exact Tq.fin (.cons rfl .nil)
   obtain ⟨x138, hx138, H⟩ := bnd H
   obtain ⟨hx1380, hx1381, hx1382⟩ := idx_some hx138
   refine Dr.quiet 4 [(40, (.pointer (some ⟨adB Au135_0, adO Au135_0 + ((0 : Int)).toNat * 1, none⟩)))] (by kernel_rfl) rfl rfl (by kernel_rfl) ?_ rfl rfl ?_
   ·refine Tq.va rfl (fun _ _ h1 h2 => run_indexAddr el_97 (h1.ev rfl) hoku135_0.form (h1.ev rfl) hx1380 hx1381) ?_
    exact Tq.fin (.cons rfl .nil)
   refine Dr.quiet 5 [(41, (.int .i64 x138))] (by kernel_rfl) rfl rfl (by kernel_rfl) ?_ rfl rfl ?_
   ·refine Tq.va rfl (fun _ _ h1 h2 => run_load1 ag_3 (h1.ev rfl) (rdF ef_i64 hoku135_0 hx1382 h2) rfl) ?_
    exact Tq.fin (.cons rfl .nil)
   refine Dr.quiet 6 [(42, (.int .i64 (min x133 x138)))] (by kernel_rfl) rfl rfl (by kernel_rfl) ?_ rfl rfl ?_
   ·refine Tq.va rfl (fun _ _ h1 h2 => run_min (h1.ev rfl) (h1.ev rfl) _) ?_
    exact Tq.fin (.cons rfl .nil)
   refine Dr.quiet 7 [(43, (.pointer (some ⟨(bs101 24), 2, none⟩)))] (by kernel_rfl) rfl rfl (by kernel_rfl) ?_ rfl rfl ?_
   ·refine Tq.va rfl (fun _ _ h1 h2 => run_fieldAddr fo_29_2 (h1.ev rfl)) ?_
    exact Tq.fin (.cons rfl .nil)
   refine Dr.quiet 8 [(44, (.int .i64 x134))] (by kernel_rfl) rfl rfl (by kernel_rfl) ?_ rfl rfl ?_
   ·refine Tq.va rfl (fun _ _ h1 h2 => run_load1 ag_3 (h1.ev rfl) (rdb h2 (vs := [(.int .i64 x133), (.int .i64 x105.Y0), (.int .i64 x134), (.int .i64 x110.Y1)]) (k := 2) rfl 2) rfl) ?_
    exact Tq.fin (.cons rfl .nil)
   refine Dr.quietP 9 (by kernel_rfl) rfl (wn rfl) rfl (by kernel_rfl) (fun _ _ h1 => run_fieldAddr fo_104_2 (h1.ev rfl)) rfl ?_
   refine Dr.quietZ 10 [(46, (.slice Au135_0 (xF_shape_Set__Around_L1.Xs).length cu135_0))] [19] false (by kernel_rfl) rfl rfl (by kernel_rfl) (fun W W' h2 hsW hk => HF.keepZ (le := [(5, bx b136 #[(.int .i64 xF_shape_Set__Around_L1.Y0), (.int .i64 xF_shape_Set__Around_L1.Y1), (.slice Au135_0 (xF_shape_Set__Around_L1.Xs).length cu135_0)] 104)]) (ks := [(2, fun x => x = (bs101 24))]) (s0 := sz137) false h2 hk (fun h => absurd h (by decide)) (.cons rfl .nil) (fun b hb => hb.elim (fun ⟨p, hp, hf, hb⟩ => by simp only [List.mem_cons, List.not_mem_nil, or_false] at hp; rcases hp with rfl; exact .inl ⟨_, List.mem_cons_self, hb⟩) (fun hb => absurd hb.1 (by decide))) (List.forall_mem_cons.2 ⟨fun b hb => hb, (fun _ h => nomatch h)⟩) rfl) ?_ rfl rfl ?_
   ·refine Tq.va rfl (fun _ _ h1 h2 => run_load1 ag_97 (h1.ev rfl) (rdb h2 (vs := [(.int .i64 xF_shape_Set__Around_L1.Y0), (.int .i64 xF_shape_Set__Around_L1.Y1), (.slice Au135_0 (xF_shape_Set__Around_L1.Xs).length cu135_0)]) (k := 5) rfl 2) rfl) ?_
    exact Tq.fin (.cons rfl .nil)
   refine Dr.quietP 11 (by kernel_rfl) rfl (wn rfl) rfl (by kernel_rfl) (fun _ _ h1 => run_fieldAddr fo_104_2 (h1.ev rfl)) rfl ?_
   refine Dr.quietZ 12 [(48, (.slice Au135_0 (xF_shape_Set__Around_L1.Xs).length cu135_0))] [19] false (by kernel_rfl) rfl rfl (by kernel_rfl) (fun W W' h2 hsW hk => HF.keepZ (le := [(5, bx b136 #[(.int .i64 xF_shape_Set__Around_L1.Y0), (.int .i64 xF_shape_Set__Around_L1.Y1), (.slice Au135_0 (xF_shape_Set__Around_L1.Xs).length cu135_0)] 104)]) (ks := [(2, fun x => x = (bs101 24))]) (s0 := sz137) false h2 hk (fun h => absurd h (by decide)) (.cons rfl .nil) (fun b hb => hb.elim (fun ⟨p, hp, hf, hb⟩ => by simp only [List.mem_cons, List.not_mem_nil, or_false] at hp; rcases hp with rfl; exact .inl ⟨_, List.mem_cons_self, hb⟩) (fun hb => absurd hb.1 (by decide))) (List.forall_mem_cons.2 ⟨fun b hb => hb, (fun _ h => nomatch h)⟩) rfl) ?_ rfl rfl ?_
   ·refine Tq.va rfl (fun _ _ h1 h2 => run_load1 ag_97 (h1.ev rfl) (rdb h2 (vs := [(.int .i64 xF_shape_Set__Around_L1.Y0), (.int .i64 xF_shape_Set__Around_L1.Y1), (.slice Au135_0 (xF_shape_Set__Around_L1.Xs).length cu135_0)]) (k := 5) rfl 2) rfl) ?_
    exact Tq.fin (.cons rfl .nil)
   refine Dr.quietP 13 (by kernel_rfl) rfl (wn rfl) rfl (by kernel_rfl) (fun _ _ h1 => run_len un_97 (h1.ev rfl)) rfl ?_
   refine Dr.quietP 14 (by kernel_rfl) rfl (wn rfl) rfl (by kernel_rfl) (fun _ _ h1 => run_sub (h1.ev rfl) (h1.ev rfl)) rfl ?_
   obtain ⟨x139, hx139, H⟩ := bnd H
   obtain ⟨hx1390, hx1391, hx1392⟩ := idx_some hx139
   refine Dr.quietP 15 (by kernel_rfl) rfl (wn rfl) rfl (by kernel_rfl) (fun _ _ h1 => run_indexAddr el_97 (h1.ev rfl) hoku135_0.form (h1.ev rfl) hx1390 hx1391) rfl ?_
   refine Dr.quietZ 16 [(52, (.int .i64 x139))] [19] false (by kernel_rfl) rfl rfl (by kernel_rfl) (fun W W' h2 hsW hk => HF.keepZ (le := []) (ks := [(2, fun x => x = (bs101 24))]) (s0 := sz137) false h2 hk (fun h => absurd h (by decide)) .nil (fun b hb => hb.elim (fun ⟨p, hp, hf, hb⟩ => by simp only [List.mem_cons, List.not_mem_nil, or_false] at hp; rcases hp with rfl; exact .inl ⟨_, List.mem_cons_self, hb⟩) (fun hb => absurd hb.1 (by decide))) (List.forall_mem_cons.2 ⟨fun b hb => hb, (fun _ h => nomatch h)⟩) rfl) ?_ rfl rfl ?_
   ·refine Tq.va rfl (fun _ _ h1 h2 => run_load1 ag_3 (h1.ev rfl) (rdF ef_i64 hoku135_0 hx1392 h2) rfl) ?_
    exact Tq.fin (.cons rfl .nil)
   refine Dr.quietP 17 (by kernel_rfl) rfl (wn rfl) rfl (by kernel_rfl) (fun _ _ h1 => run_max (h1.ev rfl) (h1.ev rfl) _) rfl ?_
   refine Dr.quiet 18 [(54, (.pointer (some ⟨(bs101 24), 0, none⟩)))] (by kernel_rfl) rfl rfl (by kernel_rfl) ?_ rfl rfl ?_
   ·refine Tq.va rfl (fun _ _ h1 h2 => run_fieldAddr fo_29_0 (h1.ev rfl)) ?_
    exact Tq.fin (.cons rfl .nil)
   refine Dr.one 19 (by kernel_rfl) ?_
   refine St.store 19 2 (cs := [(.int .i64 (min x133 x138))]) [(.int .i64 (min x133 x138)), (.int .i64 x105.Y0), (.int .i64 x134), (.int .i64 x110.Y1)] rfl (wn rfl) (.inl ⟨_, List.mem_cons_self, rfl, rfl⟩) rfl rfl rfl rfl sz_3 rfl rfl rfl ?_
   refine Dr.tail (by kernel_rfl) ?_
   refine Tr.va rfl (fun _ _ h1 h2 => run_fieldAddr fo_29_2 (h1.ev rfl)) ?_
   refine Tr.store 2 (cs := [(.int .i64 (max x134 x139))]) [(.int .i64 (min x133 x138)), (.int .i64 x105.Y0), (.int .i64 (max x134 x139)), (.int .i64 x110.Y1)] (wn rfl) rfl rfl rfl rfl sz_3 rfl rfl rfl ?_
   refine Tr.nil (Tr.normBlock (Tr.normThen ?_))
   refine Tr.region ?_
   refine Tr.va rfl (fun _ _ h1 h2 => run_add (h1.ev rfl) (h1.ev rfl)) ?_
   refine Tr.mv rfl rfl ?_
   refine Tr.nil ?_
   exact Tr.backThen leF_shape_Set__Around_L1 (restF_shape_Set__Around_L1, (iF_shape_Set__Around_L1 + 1), (min x133 x138), (max x134 x139)) ⟨rfl, range_tl hdF_shape_Set__Around_L1, range_lt hdF_shape_Set__Around_L1, H⟩ (.cons rfl (.cons rfl (.cons rfl (.cons rfl (.cons (congrArg (fun z => some (Value.int .i64 z)) (range_up hdF_shape_Set__Around_L1 hp0_0.form)) .nil))))) (.cons rfl (.cons rfl .nil))

theorem F_shape_Set__Spread_ok (N : Nat) {w : Bs} (p0 : (List TBand)) (Ap0_0 : Option Addr) (cp0_0 : Nat) (hp0_0 : Sl w.R w.W fl_TBand Ap0_0 cp0_0 p0) (p1 : Int) (p2 : Int) (p3 : Int) (p4 : Int) (r : (List TBand)) (H : F_shape_Set__Spread N p0 p1 p2 p3 p4 = some r) (hE : HF w w.W (LEn [emp])) : Calls Try.prog 91 [(.slice Ap0_0 (p0).length cp0_0), (.int .i64 p1), (.int .i64 p2), (.int .i64 p3), (.int .i64 p4)].toArray w.W fun e W' => ∃ (w' : Bs) (u : (Option Addr × Nat)), w.Le w' ∧ e = .returned (.slice u.1 (r).length u.2) ∧ (SlF u.1 (r).length u.2) ∧ HF w' W' (LEn [ow u.1 u.2 104 fl_TBand r]) := by
 unfold F_shape_Set__Spread at H
 have leB := Bs.Le.refl w
 refine Tr.enter (n := 46) Try.func91 rfl rfl rfl hE ?_
 refine Tr.sr ?_
 refine Tr.asg rfl rfl ?_
 refine Tr.nilOwn 1 104 fl_TBand ?_
 show Tr _ _ (uf _ 10 (.slice none (([] : List TBand)).length 0)) _ _
 refine Tr.nil (Tr.normThen ?_)
 refine Tr.sr ?_
 refine Tr.mv rfl rfl ?_
 obtain ⟨y100, hy100, H⟩ := bnd H
 refine Tr.callM [2] [emp] (U := (Option Addr × Nat)) (fun u => (.slice u.1 (y100).length u.2)) (fun u => SlF u.1 (y100).length u.2) (fun u => [ow u.1 u.2 29 fl_TRect y100]) rfl (pk_cons rfl pk_nil) (fun _ => rfl) (wn rfl) rfl Try.call41 (evl_cons rfl evl_nil) (fun W hW hp hE => F_shape_Set__Rects_ok N p0 Ap0_0 cp0_0 (hp0_0.ext (hW.extS hp)) y100 hy100 hE) ?_
 intro u hu
 obtain ⟨Ay100_0, cy100_0⟩ := u
 have gy100_0 := hu
 have hgy100_0 : SlF Ay100_0 (y100).length cy100_0 := gy100_0 --@phi
 show Tr _ _ (uf _ 15 (.slice Ay100_0 (y100).length cy100_0)) (up _ 2 (ow Ay100_0 cy100_0 29 fl_TRect y100)) _
 refine Tr.asg rfl rfl ?_
 refine Tr.nil (Tr.normThen ?_)
 refine Tr.seq ?_
 refine Tr.sr ?_
 refine Tr.mv rfl rfl ?_
 refine Tr.va rfl (fun _ _ h1 h2 => run_len un_22 (h1.ev rfl)) ?_
 refine Tr.mv rfl rfl ?_
 refine Tr.nil (Tr.normThen ?_)
 refine Tr.block ?_
 refine Tr.loop (σ := (List TRect) × Int × (Option Addr) × Nat) (fun m w s => F_shape_Set__Spread_L1 N p1 p2 p3 p4 y100 m s.1 s.2.1 = some r ∧ SlF s.2.2.1 (s.1).length s.2.2.2) (fun s => [(1, (.int .i64 p1)), (2, (.int .i64 p2)), (3, (.int .i64 p3)), (4, (.int .i64 p4)), (11, (.slice s.2.2.1 (s.1).length s.2.2.2)), (16, (.slice s.2.2.1 (s.1).length s.2.2.2)), (17, (.int .i64 (y100.length : Int))), (18, (.int .i64 s.2.1))]) (fun s => [(2, ow s.2.2.1 s.2.2.2 29 fl_TRect s.1)]) N (y100, 0, Ay100_0, cy100_0) ⟨H, hgy100_0⟩ (.cons rfl (.cons rfl (.cons rfl (.cons rfl (.cons rfl (.cons rfl (.cons rfl (.cons rfl .nil)))))))) (.cons rfl .nil) (fun _ _ h => noSome (h.1)) ?_
 intro w leF_shape_Set__Spread_L1 mF_shape_Set__Spread_L1 s hs
 obtain ⟨l116, x117, Al116, cl116⟩ := s
 obtain ⟨H, hl116⟩ := hs
 replace H : F_shape_Set__Spread_L1 N p1 p2 p3 p4 y100 (mF_shape_Set__Spread_L1 + 1) l116 x117 = some r := H
 replace leB := leB.trans leF_shape_Set__Spread_L1
 replace hl116 : SlF Al116 (l116).length cl116 := hl116
 rw [F_shape_Set__Spread_L1.eq_2] at H
 show Tr _ _ (LF [(1, (.int .i64 p1)), (2, (.int .i64 p2)), (3, (.int .i64 p3)), (4, (.int .i64 p4)), (11, (.slice Al116 (l116).length cl116)), (16, (.slice Al116 (l116).length cl116)), (17, (.int .i64 (y100.length : Int))), (18, (.int .i64 x117))]) (LE [(2, ow Al116 cl116 29 fl_TRect l116)]) _
 refine Tr.sr ?_
 refine Tr.va rfl (fun _ _ h1 h2 => run_lss (h1.ev rfl) (h1.ev rfl)) ?_
 refine Tr.nil (Tr.normThen ?_)
 refine Tr.seq ?_
 refine Tr.cond rfl H (fun H => ?_) (fun H => ?_)
 ·refine Tr.skip (Tr.normThen ?_)
  refine Tr.seq ?_
  refine Tr.block ?_
  refine Tr.sr ?_
  refine Tr.mv rfl rfl ?_
  obtain ⟨x118, hx118, H⟩ := bnd H
  obtain ⟨hx1180, hx1181, hx1182⟩ := idx_some hx118
  refine Tr.va rfl (fun _ _ h1 h2 => run_indexAddr el_22 (h1.ev rfl) hl116 (h1.ev rfl) hx1180 hx1181) ?_
  refine Tr.va rfl (fun _ _ h1 h2 => run_loadN (cs := [(.int .i64 x118.X0), (.int .i64 x118.Y0), (.int .i64 x118.X1), (.int .i64 x118.Y1)]) ag_29 sz_29 (h1.ev rfl) (CellsAt.take (rdo ef_TRect (k := 2) h2 rfl hx1182) 4) rfl) ?_
  refine Tr.alloc 5 (wn rfl) rfl ze_29 fun b119 => ?_
  refine Tr.asg rfl rfl ?_
  refine Tr.store 5 (cs := [(.int .i64 x118.X0), (.int .i64 x118.Y0), (.int .i64 x118.X1), (.int .i64 x118.Y1)]) [(.int .i64 x118.X0), (.int .i64 x118.Y0), (.int .i64 x118.X1), (.int .i64 x118.Y1)] (wn rfl) rfl rfl rfl rfl sz_29 rfl rfl rfl ?_
  refine Tr.nil (Tr.normThen ?_)
  refine Tr.region ?_
  refine Tr.mv rfl rfl ?_
  refine Tr.mv rfl rfl ?_
  refine Tr.va rfl (fun _ _ h1 h2 => run_fieldAddr fo_29_0 (h1.ev rfl)) ?_
  refine Tr.va rfl (fun _ _ h1 h2 => run_load1 ag_3 (h1.ev rfl) (rdb h2 (vs := [(.int .i64 x118.X0), (.int .i64 x118.Y0), (.int .i64 x118.X1), (.int .i64 x118.Y1)]) (k := 5) rfl 0) rfl) ?_
  refine Tr.mv rfl rfl ?_
  refine Tr.va rfl (fun _ _ h1 h2 => run_sub (h1.ev rfl) (h1.ev rfl)) ?_
  refine Tr.va rfl (fun _ _ h1 h2 => run_fieldAddr fo_29_1 (h1.ev rfl)) ?_
  refine Tr.va rfl (fun _ _ h1 h2 => run_load1 ag_3 (h1.ev rfl) (rdb h2 (vs := [(.int .i64 x118.X0), (.int .i64 x118.Y0), (.int .i64 x118.X1), (.int .i64 x118.Y1)]) (k := 5) rfl 1) rfl) ?_
  refine Tr.mv rfl rfl ?_
  refine Tr.va rfl (fun _ _ h1 h2 => run_sub (h1.ev rfl) (h1.ev rfl)) ?_
  refine Tr.va rfl (fun _ _ h1 h2 => run_fieldAddr fo_29_2 (h1.ev rfl)) ?_
  refine Tr.va rfl (fun _ _ h1 h2 => run_load1 ag_3 (h1.ev rfl) (rdb h2 (vs := [(.int .i64 x118.X0), (.int .i64 x118.Y0), (.int .i64 x118.X1), (.int .i64 x118.Y1)]) (k := 5) rfl 2) rfl) ?_
  refine Tr.mv rfl rfl ?_
  refine Tr.va rfl (fun _ _ h1 h2 => run_add (h1.ev rfl) (h1.ev rfl)) ?_
  refine Tr.va rfl (fun _ _ h1 h2 => run_fieldAddr fo_29_3 (h1.ev rfl)) ?_
  refine Tr.va rfl (fun _ _ h1 h2 => run_load1 ag_3 (h1.ev rfl) (rdb h2 (vs := [(.int .i64 x118.X0), (.int .i64 x118.Y0), (.int .i64 x118.X1), (.int .i64 x118.Y1)]) (k := 5) rfl 3) rfl) ?_
  refine Tr.mv rfl rfl ?_
  refine Tr.va rfl (fun _ _ h1 h2 => run_add (h1.ev rfl) (h1.ev rfl)) ?_
  refine Tr.build (vs := [(0, (.int .i64 (w64 (x118.X0 - p1)))), (1, (.int .i64 (w64 (x118.Y0 - p3)))), (2, (.int .i64 (w64 (x118.X1 + p2)))), (3, (.int .i64 (w64 (x118.Y1 + p4))))]) (cs := [(.int .i64 (w64 (x118.X0 - p1))), (.int .i64 (w64 (x118.Y0 - p3))), (.int .i64 (w64 (x118.X1 + p2))), (.int .i64 (w64 (x118.Y1 + p4)))]) (wn rfl) rfl (evs_cons rfl (evs_cons rfl (evs_cons rfl (evs_cons rfl evs_nil)))) (by kernel_rfl) ?_
  obtain ⟨x120, hx120, H⟩ := bnd H
  obtain ⟨hx1200, hx1201, hx1202⟩ := idx_some hx120
  refine Tr.va rfl (fun _ _ h1 h2 => run_indexAddr el_22 (h1.ev rfl) hl116 (h1.ev rfl) hx1200 hx1201) ?_
  obtain ⟨l121, hl121, H⟩ := bnd H
  have hnl121 := sets_len hl121
  refine Tr.storeEl 2 (t := fl_TRect) (l := l116) (i := x117) (fo := 0) (cs := [(.int .i64 (w64 (x118.X0 - p1))), (.int .i64 (w64 (x118.Y0 - p3))), (.int .i64 (w64 (x118.X1 + p2))), (.int .i64 (w64 (x118.Y1 + p4)))]) (TRect.mk (w64 (x118.X0 - p1)) (w64 (x118.Y0 - p3)) (w64 (x118.X1 + p2)) (w64 (x118.Y1 + p4))) (wn rfl) rfl rfl rfl rfl rfl hx1202 sz_29 rfl (fun u _ => ⟨u, trivial, rfl⟩) rfl hl121 ?_
  have hfl121 : SlF Al116 (l121).length cl116 := by rw [hnl121]; exact hl116
  refine Tr.sel (lf := [(1, (.int .i64 p1)), (2, (.int .i64 p2)), (3, (.int .i64 p3)), (4, (.int .i64 p4)), (11, (.slice Al116 (l121).length cl116)), (12, (.int .i64 x117)), (13, (.pointer (some ⟨b119, 0, none⟩))), (16, (.slice Al116 (l121).length cl116)), (17, (.int .i64 (y100.length : Int))), (18, (.int .i64 x117)), (19, (.bool (decide (x117 < (y100.length : Int))))), (20, (.int .i64 x117)), (22, (.agg #[(.int .i64 x118.X0), (.int .i64 x118.Y0), (.int .i64 x118.X1), (.int .i64 x118.Y1)])), (23, (.slice Al116 (l121).length cl116)), (24, (.int .i64 x117)), (25, (.pointer (some ⟨b119, 0, none⟩))), (26, (.int .i64 x118.X0)), (27, (.int .i64 p1)), (28, (.int .i64 (w64 (x118.X0 - p1)))), (29, (.pointer (some ⟨b119, 1, none⟩))), (30, (.int .i64 x118.Y0)), (31, (.int .i64 p3)), (32, (.int .i64 (w64 (x118.Y0 - p3)))), (33, (.pointer (some ⟨b119, 2, none⟩))), (34, (.int .i64 x118.X1)), (35, (.int .i64 p2)), (36, (.int .i64 (w64 (x118.X1 + p2)))), (37, (.pointer (some ⟨b119, 3, none⟩))), (38, (.int .i64 x118.Y1)), (39, (.int .i64 p4)), (40, (.int .i64 (w64 (x118.Y1 + p4)))), (41, (.agg #[(.int .i64 (w64 (x118.X0 - p1))), (.int .i64 (w64 (x118.Y0 - p3))), (.int .i64 (w64 (x118.X1 + p2))), (.int .i64 (w64 (x118.Y1 + p4)))]))]) (le := [(2, ow Al116 cl116 29 fl_TRect l121), (5, bx b119 #[(.int .i64 x118.X0), (.int .i64 x118.Y0), (.int .i64 x118.X1), (.int .i64 x118.Y1)] 29)]) (.cons rfl (.cons rfl (.cons rfl (.cons rfl (.cons (slenV rfl (by rw [hnl121])) (.cons rfl (.cons rfl (.cons (slenV rfl (by rw [hnl121])) (.cons rfl (.cons rfl (.cons rfl (.cons rfl (.cons rfl (.cons (slenV rfl (by rw [hnl121])) (.cons rfl (.cons rfl (.cons rfl (.cons rfl (.cons rfl (.cons rfl (.cons rfl (.cons rfl (.cons rfl (.cons rfl (.cons rfl (.cons rfl (.cons rfl (.cons rfl (.cons rfl (.cons rfl (.cons rfl (.cons rfl .nil)))))))))))))))))))))))))))))))) (.cons rfl (.cons rfl .nil)) ?_
  refine Tr.nil (Tr.normBlock (Tr.normThen ?_))
  refine Tr.region ?_
  refine Tr.va rfl (fun _ _ h1 h2 => run_add (h1.ev rfl) (h1.ev rfl)) ?_
  refine Tr.mv rfl rfl ?_
  refine Tr.nil ?_
  exact Tr.backThen leF_shape_Set__Spread_L1 (l121, (w64 (x117 + 1)), Al116, cl116) ⟨H, hfl121⟩ (.cons rfl (.cons rfl (.cons rfl (.cons rfl (.cons rfl (.cons rfl (.cons rfl (.cons rfl .nil)))))))) (.cons rfl .nil)
 ·refine Tr.exit (Tr.exitThen (Tr.exitThen (Tr.exitBlock (Tr.normThen ?_))))
  refine Tr.sr ?_
  refine Tr.mv rfl rfl ?_
  obtain ⟨y122, hy122, H⟩ := bnd H
  refine Tr.callG [6] [emp] (U := (Option Addr × Nat)) (fun u => (.slice u.1 (y122).length u.2)) (fun O W u => SlF u.1 (y122).length u.2) (fun u => [ow u.1 u.2 104 fl_TBand y122]) rfl (pk_cons rfl pk_nil) (fun _ => rfl) (wn rfl) rfl Try.call40 (evl_cons rfl evl_nil) (fun W hW hp hE => F_shape_SetOf_ok N l116 Al116 cl116 (hW.slS (k := 2) rfl hp rfl) y122 hy122 hE) ?_
  intro w u le123 hu
  obtain ⟨Ay122_0, cy122_0⟩ := u
  have gy122_0 := hu
  replace leB := leB.trans le123
  replace leF_shape_Set__Spread_L1 := leF_shape_Set__Spread_L1.trans le123
  have hgy122_0 : SlF Ay122_0 (y122).length cy122_0 := gy122_0 --@phi
  show Tr _ _ (uf _ 45 (.slice Ay122_0 (y122).length cy122_0)) (up _ 6 (ow Ay122_0 cy122_0 104 fl_TBand y122)) _
  refine Tr.asg rfl rfl ?_
  refine Tr.nil (Tr.normThen ?_)
  refine Tr.ret ?_
  obtain rfl := Option.some.inj H
  exact Tr.out (m := [(.slice Ay122_0 (y122).length cy122_0)]) [] (res_tmp rfl res_nil) (fun W hW => ⟨w, (Ay122_0, cy122_0), leB, rfl, hgy122_0, hW.pick (ks := [6]) (by decide) (pk_cons rfl pk_nil)⟩)

theorem F_shape_Set__Wide_ok (N : Nat) {w : Bs} (p0 : (List TBand)) (Ap0_0 : Option Addr) (cp0_0 : Nat) (hp0_0 : Sl w.R w.W fl_TBand Ap0_0 cp0_0 p0) (p1 : Int) (r : (List TBand)) (H : F_shape_Set__Wide N p0 p1 = some r) (hE : HF w w.W (LEn [emp])) : Calls Try.prog 52 [(.slice Ap0_0 (p0).length cp0_0), (.int .i64 p1)].toArray w.W fun e W' => ∃ (w' : Bs) (u : (Option Addr × Nat)), w.Le w' ∧ e = .returned (.slice u.1 (r).length u.2) ∧ (SlF u.1 (r).length u.2) ∧ HF w' W' (LEn [ow u.1 u.2 104 fl_TBand r]) := by
 unfold F_shape_Set__Wide at H
 have leB := Bs.Le.refl w
 refine Tr.enter (n := 11) Try.func52 rfl rfl rfl hE ?_
 refine Tr.sr ?_
 refine Tr.asg rfl rfl ?_
 refine Tr.nilOwn 1 104 fl_TBand ?_
 show Tr _ _ (uf _ 4 (.slice none (([] : List TBand)).length 0)) _ _
 refine Tr.nil (Tr.normThen ?_)
 refine Tr.sr ?_
 refine Tr.mv rfl rfl ?_
 refine Tr.mv rfl rfl ?_
 refine Tr.mv rfl rfl ?_
 refine Tr.mv rfl rfl ?_
 refine Tr.mv rfl rfl ?_
 obtain ⟨y100, hy100, H⟩ := bnd H
 refine Tr.callG [2] [emp] (U := (Option Addr × Nat)) (fun u => (.slice u.1 (y100).length u.2)) (fun O W u => SlF u.1 (y100).length u.2) (fun u => [ow u.1 u.2 104 fl_TBand y100]) rfl (pk_cons rfl pk_nil) (fun _ => rfl) (wn rfl) rfl Try.call91 (evl_cons rfl (evl_cons rfl (evl_cons rfl (evl_cons rfl (evl_cons rfl evl_nil))))) (fun W hW hp hE => F_shape_Set__Spread_ok N p0 Ap0_0 cp0_0 (hp0_0.ext (hW.extS hp)) p1 p1 p1 p1 y100 hy100 hE) ?_
 intro w u le101 hu
 obtain ⟨Ay100_0, cy100_0⟩ := u
 have gy100_0 := hu
 replace hp0_0 := hp0_0.leR le101
 replace leB := leB.trans le101
 have hgy100_0 : SlF Ay100_0 (y100).length cy100_0 := gy100_0 --@phi
 show Tr _ _ (uf _ 10 (.slice Ay100_0 (y100).length cy100_0)) (up _ 2 (ow Ay100_0 cy100_0 104 fl_TBand y100)) _
 refine Tr.asg rfl rfl ?_
 refine Tr.nil (Tr.normThen ?_)
 refine Tr.ret ?_
 obtain rfl := Option.some.inj H
 exact Tr.out (m := [(.slice Ay100_0 (y100).length cy100_0)]) [] (res_tmp rfl res_nil) (fun W hW => ⟨w, (Ay100_0, cy100_0), leB, rfl, hgy100_0, hW.pick (ks := [2]) (by decide) (pk_cons rfl pk_nil)⟩)

theorem F_shape_Set__at_ok {w : Bs} (p0 : (List TBand)) (Ap0_0 : Option Addr) (cp0_0 : Nat) (hp0_0 : Sl w.O w.W fl_TBand Ap0_0 cp0_0 p0) (p1 : Int) (p2 : Int) (r : ((List Int) × Int)) (H : F_shape_Set__at p0 p1 p2 = some r) (hE : HF w w.W (LEn [])) : Calls Try.prog 115 [(.slice Ap0_0 (p0).length cp0_0), (.int .i64 p1), (.int .i64 p2)].toArray w.W fun e W' => ∃ (w' : Bs) (u : (Option Addr × Nat)), w.Le w' ∧ e = .returned (.tuple #[(.slice u.1 (r.1).length u.2), (.int .i64 r.2)]) ∧ (Sl w'.O w'.W fl_i64 u.1 u.2 r.1) ∧ HF w' W' (LEn []) := by
 unfold F_shape_Set__at at H
 have leB := Bs.Le.refl w
 refine Tr.enter (n := 36) Try.func115 rfl rfl rfl hE ?_
 refine Tr.sr ?_
 refine Tr.asg rfl rfl ?_
 refine Tr.nilOwn 1 3 fl_i64 ?_
 show Tr _ _ (uf _ 6 (.slice none (([] : List Int)).length 0)) _ _
 refine Tr.asg rfl rfl ?_
 refine Tr.nil (Tr.normThen ?_)
 refine Tr.seq ?_
 refine Tr.block ?_
 refine Tr.sr ?_
 refine Tr.mv rfl rfl ?_
 refine Tr.va rfl (fun _ _ h1 h2 => run_len un_65 (h1.ev rfl)) ?_
 refine Tr.va rfl (fun _ _ h1 h2 => run_eql (h1.ev rfl) (h1.ev rfl)) ?_
 refine Tr.asg rfl rfl ?_
 refine Tr.nil (Tr.normThen ?_)
 refine Tr.cond rfl H (fun H => ?_) (fun H => ?_)
 ·refine Tr.sr ?_
  refine Tr.mv rfl rfl ?_
  refine Tr.asg rfl rfl ?_
  refine Tr.nilOwn 2 3 fl_i64 ?_
  show Tr _ _ (uf _ 6 (.slice none (([] : List Int)).length 0)) _ _
  refine Tr.asg rfl rfl ?_
  refine Tr.nil (Tr.normThen ?_)
  refine Tr.ret (Tr.retBlock (Tr.retThen ?_))
  obtain rfl := Option.some.inj H
  refine Tr.freeze 2 rfl fun w le101 hz100 => ?_
  replace hp0_0 := hp0_0.le le101
  replace leB := leB.trans le101
  exact Tr.out (m := [(.slice none (([] : List Int)).length 0), (.int .i64 p2)]) [] (res_tmp rfl (res_tmp rfl res_nil)) (fun W hW => ⟨w, (none, 0), leB, rfl, hz100, hW.pick (ks := []) (by decide) pk_nil⟩)
 ·refine Tr.sr ?_
  refine Tr.mv rfl rfl ?_
  refine Tr.mv rfl rfl ?_
  obtain ⟨x102, hx102, H⟩ := bnd H
  obtain ⟨hx1020, hx1021, hx1022⟩ := idx_some hx102
  obtain ⟨u103, hRu103, hoku103, hcu103⟩ := (hp0_0).el hx1022
  obtain ⟨Au103_0, cu103_0⟩ := u103
  have hoku103_0 := hoku103
  replace hoku103_0 : Sl w.O w.W fl_i64 Au103_0 cu103_0 x102.Xs := hoku103_0
  replace hRu103 : w.R (adB Ap0_0) := Or.inl hRu103
  refine Tr.va rfl (fun _ _ h1 h2 => run_indexAddr el_65 (h1.ev rfl) hp0_0.form (h1.ev rfl) hx1020 hx1021) ?_
  refine Tr.va rfl (fun _ _ h1 h2 => run_fieldAddr fo_104_0 (h1.ev rfl)) ?_
  refine Tr.va rfl (fun _ _ h1 h2 => run_load1 ag_3 (h1.ev rfl) (CellsAt.drop (rdR hRu103 hcu103 h2) 0) rfl) ?_
  refine Tr.va rfl (fun _ _ h1 h2 => run_lss (h1.ev rfl) (h1.ev rfl)) ?_
  refine Tr.asg rfl rfl ?_
  refine Tr.nil (Tr.normThen ?_)
  refine Tr.cond rfl H (fun H => ?_) (fun H => ?_)
  ·refine Tr.seq ?_
   refine Tr.draw (by kernel_rfl) (by kernel_rfl) ?_
   refine Tq.mv rfl rfl ?_
   refine Tq.mv rfl rfl ?_
   obtain ⟨x104, hx104, H⟩ := bnd H
   obtain ⟨hx1040, hx1041, hx1042⟩ := idx_some hx104
   obtain ⟨u105, hRu105, hoku105, hcu105⟩ := (hp0_0).el hx1042
   obtain ⟨Au105_0, cu105_0⟩ := u105
   have hoku105_0 := hoku105
   replace hoku105_0 : Sl w.O w.W fl_i64 Au105_0 cu105_0 x104.Xs := hoku105_0
   replace hRu105 : w.R (adB Ap0_0) := Or.inl hRu105
   refine Tq.va rfl (fun _ _ h1 h2 => run_indexAddr el_65 (h1.ev rfl) hp0_0.form (h1.ev rfl) hx1040 hx1041) ?_
   refine Tq.va rfl (fun _ _ h1 h2 => run_fieldAddr fo_104_0 (h1.ev rfl)) ?_
   refine Tq.va rfl (fun _ _ h1 h2 => run_load1 ag_3 (h1.ev rfl) (CellsAt.drop (rdR hRu105 hcu105 h2) 0) rfl) ?_
   refine Tq.va rfl (fun _ _ h1 h2 => run_min (h1.ev rfl) (h1.ev rfl) _) ?_
   refine Tq.asg rfl rfl ?_
   refine Tq.asg rfl rfl ?_
   refine Tq.nil (Tr.normThen ?_)
   refine Tr.ret (Tr.retBlock (Tr.retThen ?_))
   obtain rfl := Option.some.inj H
   exact Tr.out (m := [(.slice none 0 0), (.int .i64 (min p2 x104.Y0))]) [] (res_tmp rfl (res_tmp rfl res_nil)) (fun W hW => ⟨w, (none, 0), leB, rfl, (Sl.nil _ _ _), hW.pick (ks := []) (by decide) pk_nil⟩)
  ·refine Tr.skip (Tr.normBlock (Tr.normThen ?_))
   refine Tr.seq ?_
   refine Tr.draw (by kernel_rfl) (by kernel_rfl) ?_
   refine Tq.mv rfl rfl ?_
   obtain ⟨x106, hx106, H⟩ := bnd H
   obtain ⟨hx1060, hx1061, hx1062⟩ := idx_some hx106
   obtain ⟨u107, hRu107, hoku107, hcu107⟩ := (hp0_0).el hx1062
   obtain ⟨Au107_0, cu107_0⟩ := u107
   have hoku107_0 := hoku107
   replace hoku107_0 : Sl w.O w.W fl_i64 Au107_0 cu107_0 x106.Xs := hoku107_0
   replace hRu107 : w.R (adB Ap0_0) := Or.inl hRu107
   refine Tq.va rfl (fun _ _ h1 h2 => run_indexAddr el_65 (h1.ev rfl) hp0_0.form (h1.ev rfl) hx1060 hx1061) ?_
   refine Tq.va rfl (fun _ _ h1 h2 => run_fieldAddr fo_104_2 (h1.ev rfl)) ?_
   refine Tq.va rfl (fun _ _ h1 h2 => run_load1 ag_97 (h1.ev rfl) (CellsAt.drop (rdR hRu107 hcu107 h2) 2) rfl) ?_
   refine Tq.mv rfl rfl ?_
   refine Tq.mv rfl rfl ?_
   obtain ⟨x108, hx108, H⟩ := bnd H
   obtain ⟨hx1080, hx1081, hx1082⟩ := idx_some hx108
   obtain ⟨u109, hRu109, hoku109, hcu109⟩ := (hp0_0).el hx1082
   obtain ⟨Au109_0, cu109_0⟩ := u109
   have hoku109_0 := hoku109
   replace hoku109_0 : Sl w.O w.W fl_i64 Au109_0 cu109_0 x108.Xs := hoku109_0
   replace hRu109 : w.R (adB Ap0_0) := Or.inl hRu109
   refine Tq.va rfl (fun _ _ h1 h2 => run_indexAddr el_65 (h1.ev rfl) hp0_0.form (h1.ev rfl) hx1080 hx1081) ?_
   refine Tq.va rfl (fun _ _ h1 h2 => run_fieldAddr fo_104_1 (h1.ev rfl)) ?_
   refine Tq.va rfl (fun _ _ h1 h2 => run_load1 ag_3 (h1.ev rfl) (CellsAt.drop (rdR hRu109 hcu109 h2) 1) rfl) ?_
   refine Tq.va rfl (fun _ _ h1 h2 => run_min (h1.ev rfl) (h1.ev rfl) _) ?_
   refine Tq.asg rfl rfl ?_
   refine Tq.asg rfl rfl ?_
   refine Tq.nil (Tr.normThen ?_)
   refine Tr.ret ?_
   obtain rfl := Option.some.inj H
   exact Tr.out (m := [(.slice Au107_0 (x106.Xs).length cu107_0), (.int .i64 (min p2 x108.Y1))]) [] (res_tmp rfl (res_tmp rfl res_nil)) (fun W hW => ⟨w, (Au107_0, cu107_0), leB, rfl, hoku107_0, hW.pick (ks := []) (by decide) pk_nil⟩)

theorem F_shape_line_ok (N : Nat) {w : Bs} (p0 : (List Int)) (Ap0_0 : Option Addr) (cp0_0 : Nat) (hp0_0 : Sl w.R w.W fl_i64 Ap0_0 cp0_0 p0) (p1 : (List Int)) (Ap1_0 : Option Addr) (cp1_0 : Nat) (hp1_0 : Sl w.R w.W fl_i64 Ap1_0 cp1_0 p1) (p2 : Bool → Bool → Option Bool) (fid2 : Nat) (cap2 : List Value) (hg2 : ∀ args W, (callFunc fid2 args).run Try.prog W = .ok (.enter fid2 args) W) (hf2 : ∀ (w' : Bs), w.Ext w' → ∀ (z0 : Bool) (z1 : Bool), ∀ y, p2 z0 z1 = some y → Calls Try.prog fid2 (([(.bool z0), (.bool z1)] : List Value) ++ cap2).toArray w'.W fun e W'' => e = .returned (.bool y) ∧ HF w' W'' E0) (r : (List Int)) (H : F_shape_line N p0 p1 p2 = some r) (hE : HF w w.W (LEn [emp])) : Calls Try.prog 116 [(.slice Ap0_0 (p0).length cp0_0), (.slice Ap1_0 (p1).length cp1_0), (.func (.func fid2) #[] cap2.toArray)].toArray w.W fun e W' => ∃ u : (Option Addr × Nat), e = .returned (.slice u.1 (r).length u.2) ∧ (SlF u.1 (r).length u.2) ∧ HF w W' (LEn [ow u.1 u.2 3 fl_i64 r]) := by
 unfold F_shape_line at H
 have leB := Bs.Le.refl w
 refine Tr.enter (n := 85) Try.func116 rfl rfl rfl hE ?_
 refine Tr.sr ?_
 refine Tr.asg rfl rfl ?_
 refine Tr.nilOwn 1 3 fl_i64 ?_
 show Tr _ _ (uf _ 6 (.slice none (([] : List Int)).length 0)) _ _
 refine Tr.nil (Tr.normThen ?_)
 refine Tr.sr ?_
 refine Tr.asg rfl rfl ?_
 refine Tr.nilOwn 2 3 fl_i64 ?_
 show Tr _ _ (uf _ 7 (.slice none (([] : List Int)).length 0)) _ _
 refine Tr.nil (Tr.normThen ?_)
 refine Tr.sr ?_
 refine Tr.asg rfl rfl ?_
 refine Tr.asg rfl rfl ?_
 refine Tr.asg rfl rfl ?_
 refine Tr.nil (Tr.normThen ?_)
 refine Tr.seq ?_
 refine Tr.block ?_
 refine Tr.loop (σ := (List Int) × (List Int) × (List Int) × Bool × Bool × Bool × (Option Addr) × Nat × (Option Addr) × Nat × (Option Addr) × Nat) (fun m w s => F_shape_line_L7 p2 m s.1 s.2.1 s.2.2.1 s.2.2.2.1 s.2.2.2.2.1 s.2.2.2.2.2.1 = some r ∧ Sl w.R w.W fl_i64 s.2.2.2.2.2.2.1 s.2.2.2.2.2.2.2.1 s.1 ∧ Sl w.R w.W fl_i64 s.2.2.2.2.2.2.2.2.1 s.2.2.2.2.2.2.2.2.2.1 s.2.1 ∧ SlF s.2.2.2.2.2.2.2.2.2.2.1 (s.2.2.1).length s.2.2.2.2.2.2.2.2.2.2.2) (fun s => [(0, (.slice s.2.2.2.2.2.2.1 (s.1).length s.2.2.2.2.2.2.2.1)), (1, (.slice s.2.2.2.2.2.2.2.2.1 (s.2.1).length s.2.2.2.2.2.2.2.2.2.1)), (2, (.func (.func fid2) #[] cap2.toArray)), (7, (.slice s.2.2.2.2.2.2.2.2.2.2.1 (s.2.2.1).length s.2.2.2.2.2.2.2.2.2.2.2)), (8, (.bool s.2.2.2.1)), (9, (.bool s.2.2.2.2.1)), (10, (.bool s.2.2.2.2.2.1))]) (fun s => [(2, ow s.2.2.2.2.2.2.2.2.2.2.1 s.2.2.2.2.2.2.2.2.2.2.2 3 fl_i64 s.2.2.1)]) N (p0, p1, ([] : List Int), false, false, false, Ap0_0, cp0_0, Ap1_0, cp1_0, none, 0) ⟨H, hp0_0, hp1_0, slf_nil⟩ (.cons rfl (.cons rfl (.cons rfl (.cons rfl (.cons rfl (.cons rfl (.cons rfl .nil))))))) (.cons rfl .nil) (fun _ _ h => noSome (h.1)) ?_
 intro w leF_shape_line_L7 mF_shape_line_L7 s hs
 obtain ⟨l230, l231, l232, x233, x234, x235, Al230, cl230, Al231, cl231, Al232, cl232⟩ := s
 obtain ⟨H, hl230, hl231, hl232⟩ := hs
 replace H : F_shape_line_L7 p2 (mF_shape_line_L7 + 1) l230 l231 l232 x233 x234 x235 = some r := H
 replace hf2 := fun w' he => hf2 w' (leF_shape_line_L7.ext.trans he)
 replace leB := leB.trans leF_shape_line_L7
 replace hl230 : Sl w.R w.W fl_i64 Al230 cl230 l230 := hl230
 replace hl231 : Sl w.R w.W fl_i64 Al231 cl231 l231 := hl231
 replace hl232 : SlF Al232 (l232).length cl232 := hl232
 rw [F_shape_line_L7.eq_2] at H
 show Tr _ _ (LF [(0, (.slice Al230 (l230).length cl230)), (1, (.slice Al231 (l231).length cl231)), (2, (.func (.func fid2) #[] cap2.toArray)), (7, (.slice Al232 (l232).length cl232)), (8, (.bool x233)), (9, (.bool x234)), (10, (.bool x235))]) (LE [(2, ow Al232 cl232 3 fl_i64 l232)]) _
 refine Tr.seq ?_
 refine Tr.sr ?_
 refine Tr.mv rfl rfl ?_
 refine Tr.va rfl (fun _ _ h1 h2 => run_len un_97 (h1.ev rfl)) ?_
 refine Tr.va rfl (fun _ _ h1 h2 => run_gtr (h1.ev rfl) (h1.ev rfl)) ?_
 refine Tr.mv rfl rfl ?_
 refine Tr.mid0 4 [(0, (.slice Al230 (l230).length cl230)), (1, (.slice Al231 (l231).length cl231)), (2, (.func (.func fid2) #[] cap2.toArray)), (7, (.slice Al232 (l232).length cl232)), (8, (.bool x233)), (9, (.bool x234)), (10, (.bool x235)), (20, (.bool ((decide (0 < (l230.length : Int))) || (decide (0 < (l231.length : Int))))))] [(2, ow Al232 cl232 3 fl_i64 l232)] ?_ ?_
 ·cases hg291 : (decide (0 < (l230.length : Int)))
  ·refine Tr.val (wg rfl rfl rfl) rfl (fun _ _ h1 h2 => run_move (h1.ev rfl)) ?_
   refine Tr.val (wg rfl rfl rfl) rfl (fun _ _ h1 h2 => run_len un_97 (h1.ev rfl)) ?_
   refine Tr.val (wg rfl rfl rfl) rfl (fun _ _ h1 h2 => run_gtr (h1.ev rfl) (h1.ev rfl)) ?_
   refine Tr.va rfl (fun _ _ h1 h2 => run_pickF (h1.ev rfl) (h1.ev rfl)) ?_
   exact Tr.nil (Tr.fin0 (.cons rfl (.cons rfl (.cons rfl (.cons rfl (.cons rfl (.cons rfl (.cons rfl (.cons rfl .nil)))))))) (.cons rfl .nil))
  ·refine Tr.pass rfl rfl rfl rfl rfl (by decide) ?_
   refine Tr.pass rfl rfl rfl rfl rfl (by decide) ?_
   refine Tr.pass rfl rfl rfl rfl rfl (by decide) ?_
   refine Tr.va rfl (fun _ _ h1 h2 => run_pickT (h1.ev rfl) (h1.ev rfl)) ?_
   exact Tr.nil (Tr.fin0 (.cons rfl (.cons rfl (.cons rfl (.cons rfl (.cons rfl (.cons rfl (.cons rfl (.cons rfl .nil)))))))) (.cons rfl .nil))
 ·show Tr _ _ (LF [(0, (.slice Al230 (l230).length cl230)), (1, (.slice Al231 (l231).length cl231)), (2, (.func (.func fid2) #[] cap2.toArray)), (7, (.slice Al232 (l232).length cl232)), (8, (.bool x233)), (9, (.bool x234)), (10, (.bool x235)), (20, (.bool ((decide (0 < (l230.length : Int))) || (decide (0 < (l231.length : Int))))))]) (LE [(2, ow Al232 cl232 3 fl_i64 l232)]) _
  refine Tr.nil (Tr.normThen ?_)
  refine Tr.cond rfl H (fun H => ?_) (fun H => ?_)
  ·refine Tr.skip (Tr.normThen ?_)
   refine Tr.block ?_
   refine Tr.sr ?_
   refine Tr.asg rfl rfl ?_
   refine Tr.nil (Tr.normThen ?_)
   have leJ250 := Bs.Le.refl w
   refine Tr.cutJ (σ := Int) (fun w s => F_shape_line_J10 p2 l230 l231 l232 x233 x234 x235 (F_shape_line_L7 p2 mF_shape_line_L7) s = some r) (fun s => [(0, (.slice Al230 (l230).length cl230)), (1, (.slice Al231 (l231).length cl231)), (2, (.func (.func fid2) #[] cap2.toArray)), (7, (.slice Al232 (l232).length cl232)), (8, (.bool x233)), (9, (.bool x234)), (10, (.bool x235)), (11, (.int .i64 s))]) (fun s => [(2, ow Al232 cl232 3 fl_i64 l232)]) ?_ ?_
   ·refine Tr.seq ?_
    refine Tr.draw (by kernel_rfl) (by kernel_rfl) ?_
    refine Tq.mv rfl rfl ?_
    refine Tq.va rfl (fun _ _ h1 h2 => run_len un_97 (h1.ev rfl)) ?_
    refine Tq.va rfl (fun _ _ h1 h2 => run_eql (h1.ev rfl) (h1.ev rfl)) ?_
    refine Tq.mv rfl rfl ?_
    obtain ⟨g284, hg284, H⟩ := bnd H
    refine Tq.mid 13 [(0, (.slice Al230 (l230).length cl230)), (1, (.slice Al231 (l231).length cl231)), (2, (.func (.func fid2) #[] cap2.toArray)), (7, (.slice Al232 (l232).length cl232)), (8, (.bool x233)), (9, (.bool x234)), (10, (.bool x235)), (37, (.bool g284))] ?_ ?_
    ·cases hg291 : ((l231.length : Int) == 0)
     ·rw [hg291] at hg284
      rw [if_neg (by decide)] at hg284
      have H := hg284
      refine Tq.val (wg rfl rfl rfl) rfl (fun _ _ h1 h2 => run_move (h1.ev rfl)) ?_
      refine Tq.val (wg rfl rfl rfl) rfl (fun _ _ h1 h2 => run_len un_97 (h1.ev rfl)) ?_
      refine Tq.val (wg rfl rfl rfl) rfl (fun _ _ h1 h2 => run_gtr (h1.ev rfl) (h1.ev rfl)) ?_
      refine Tq.val (wg rfl rfl rfl) rfl (fun _ _ h1 h2 => run_move (h1.ev rfl)) ?_
      obtain ⟨g287, hg287, H⟩ := bnd H
      refine Tq.mid 8 [(0, (.slice Al230 (l230).length cl230)), (1, (.slice Al231 (l231).length cl231)), (2, (.func (.func fid2) #[] cap2.toArray)), (7, (.slice Al232 (l232).length cl232)), (8, (.bool x233)), (9, (.bool x234)), (10, (.bool x235)), (24, (.bool false)), (36, (.bool g287))] ?_ ?_
      ·cases hg289 : (decide (0 < (l230.length : Int)))
       ·rw [hg289] at hg287
        rw [if_neg (by decide)] at hg287
        have H := hg287
        obtain rfl := Option.some.inj H
        refine Tq.pass rfl rfl rfl rfl rfl (by decide) ?_
        refine Tq.pass rfl rfl rfl rfl rfl (by decide) ?_
        refine Tq.pass rfl rfl rfl rfl rfl (by decide) ?_
        refine Tq.pass rfl rfl rfl rfl rfl (by decide) ?_
        refine Tq.pass rfl rfl rfl rfl rfl (by decide) ?_
        refine Tq.pass rfl rfl rfl rfl rfl (by decide) ?_
        refine Tq.pass rfl rfl rfl rfl rfl (by decide) ?_
        refine Tq.val (wg rfl rfl rfl) rfl (fun _ _ h1 h2 => run_pickF (h1.ev rfl) (h1.ev rfl)) ?_
        exact Tq.fin (.cons rfl (.cons rfl (.cons rfl (.cons rfl (.cons rfl (.cons rfl (.cons rfl (.cons rfl (.cons rfl .nil)))))))))
       ·rw [hg289] at hg287
        rw [if_pos rfl] at hg287
        have H := hg287
        refine Tq.val (wg rfl rfl rfl) rfl (fun _ _ h1 h2 => run_move (h1.ev rfl)) ?_
        obtain ⟨x288, hx288, H⟩ := bnd H
        obtain ⟨hx2880, hx2881, hx2882⟩ := idx_some hx288
        refine Tq.val (wg rfl rfl rfl) rfl (fun _ _ h1 h2 => run_indexAddr el_97 (h1.ev rfl) hl230.form (h1.ev rfl) hx2880 hx2881) ?_
        refine Tq.val (wg rfl rfl rfl) rfl (fun _ _ h1 h2 => run_load1 ag_3 (h1.ev rfl) (rdF ef_i64 hl230 hx2882 h2) rfl) ?_
        refine Tq.val (wg rfl rfl rfl) rfl (fun _ _ h1 h2 => run_move (h1.ev rfl)) ?_
        obtain ⟨x289, hx289, H⟩ := bnd H
        obtain ⟨hx2890, hx2891, hx2892⟩ := idx_some hx289
        refine Tq.val (wg rfl rfl rfl) rfl (fun _ _ h1 h2 => run_indexAddr el_97 (h1.ev rfl) hl231.form (h1.ev rfl) hx2890 hx2891) ?_
        refine Tq.val (wg rfl rfl rfl) rfl (fun _ _ h1 h2 => run_load1 ag_3 (h1.ev rfl) (rdF ef_i64 hl231 hx2892 h2) rfl) ?_
        refine Tq.val (wg rfl rfl rfl) rfl (fun _ _ h1 h2 => run_leq (h1.ev rfl) (h1.ev rfl)) ?_
        refine Tq.val (wg rfl rfl rfl) rfl (fun _ _ h1 h2 => run_pickT (h1.ev rfl) (h1.ev rfl)) ?_
        obtain rfl := Option.some.inj H
        exact Tq.fin (.cons rfl (.cons rfl (.cons rfl (.cons rfl (.cons rfl (.cons rfl (.cons rfl (.cons rfl (.cons rfl .nil)))))))))
      ·refine Tq.va rfl (fun _ _ h1 h2 => run_pickF (h1.ev rfl) (h1.ev rfl)) ?_
       obtain rfl := Option.some.inj H
       exact Tq.fin (.cons rfl (.cons rfl (.cons rfl (.cons rfl (.cons rfl (.cons rfl (.cons rfl (.cons rfl .nil))))))))
     ·rw [hg291] at hg284
      rw [if_pos rfl] at hg284
      have H := hg284
      obtain rfl := Option.some.inj H
      refine Tq.pass rfl rfl rfl rfl rfl (by decide) ?_
      refine Tq.pass rfl rfl rfl rfl rfl (by decide) ?_
      refine Tq.pass rfl rfl rfl rfl rfl (by decide) ?_
      refine Tq.pass rfl rfl rfl rfl rfl (by decide) ?_
      refine Tq.passU rfl rfl rfl rfl (by decide) ?_
      refine Tq.passU rfl rfl rfl rfl (by decide) ?_
      refine Tq.passU rfl rfl rfl rfl (by decide) ?_
      refine Tq.passU rfl rfl rfl rfl (by decide) ?_
      refine Tq.passU rfl rfl rfl rfl (by decide) ?_
      refine Tq.passU rfl rfl rfl rfl (by decide) ?_
      refine Tq.passU rfl rfl rfl rfl (by decide) ?_
      refine Tq.pass rfl rfl rfl rfl rfl (by decide) ?_
      refine Tq.va rfl (fun _ _ h1 h2 => run_pickT (h1.ev rfl) (h1.ev rfl)) ?_
      exact Tq.fin (.cons rfl (.cons rfl (.cons rfl (.cons rfl (.cons rfl (.cons rfl (.cons rfl (.cons rfl .nil))))))))
    ·refine Tq.nil (Tr.normThen ?_)
     refine Tr.cond rfl H (fun H => ?_) (fun H => ?_)
     ·refine Tr.region ?_
      refine Tr.mv rfl rfl ?_
      obtain ⟨x290, hx290, H⟩ := bnd H
      obtain ⟨hx2900, hx2901, hx2902⟩ := idx_some hx290
      refine Tr.va rfl (fun _ _ h1 h2 => run_indexAddr el_97 (h1.ev rfl) hl230.form (h1.ev rfl) hx2900 hx2901) ?_
      refine Tr.va rfl (fun _ _ h1 h2 => run_load1 ag_3 (h1.ev rfl) (rdF ef_i64 hl230 hx2902 h2) rfl) ?_
      refine Tr.asg rfl rfl ?_
      refine Tr.nil ?_
      exact Tr.backThen leJ250 x290 H (.cons rfl (.cons rfl (.cons rfl (.cons rfl (.cons rfl (.cons rfl (.cons rfl (.cons rfl .nil)))))))) (.cons rfl .nil)
     ·refine Tr.region ?_
      refine Tr.mv rfl rfl ?_
      obtain ⟨x291, hx291, H⟩ := bnd H
      obtain ⟨hx2910, hx2911, hx2912⟩ := idx_some hx291
      refine Tr.va rfl (fun _ _ h1 h2 => run_indexAddr el_97 (h1.ev rfl) hl231.form (h1.ev rfl) hx2910 hx2911) ?_
      refine Tr.va rfl (fun _ _ h1 h2 => run_load1 ag_3 (h1.ev rfl) (rdF ef_i64 hl231 hx2912 h2) rfl) ?_
      refine Tr.asg rfl rfl ?_
      refine Tr.nil ?_
      exact Tr.backThen leJ250 x291 H (.cons rfl (.cons rfl (.cons rfl (.cons rfl (.cons rfl (.cons rfl (.cons rfl (.cons rfl .nil)))))))) (.cons rfl .nil)
   ·intro w x249 hlJ251 hs
    have H := hs
    replace H : F_shape_line_J10 p2 l230 l231 l232 x233 x234 x235 (F_shape_line_L7 p2 mF_shape_line_L7) x249 = some r := H
    replace hl230 := hl230.leR hlJ251
    replace hl231 := hl231.leR hlJ251
    replace hf2 := fun w' he => hf2 w' (hlJ251.ext.trans he)
    replace leB := leB.trans hlJ251
    replace leF_shape_line_L7 := leF_shape_line_L7.trans hlJ251
    unfold F_shape_line_J10 at H
    show Tr _ _ (LF [(0, (.slice Al230 (l230).length cl230)), (1, (.slice Al231 (l231).length cl231)), (2, (.func (.func fid2) #[] cap2.toArray)), (7, (.slice Al232 (l232).length cl232)), (8, (.bool x233)), (9, (.bool x234)), (10, (.bool x235)), (11, (.int .i64 x249))]) (LE [(2, ow Al232 cl232 3 fl_i64 l232)]) _
    have leJ258 := Bs.Le.refl w
    refine Tr.cutJ (σ := (List Int) × Bool × (Option Addr) × Nat) (fun w s => F_shape_line_J9 p2 l231 l232 x234 x235 (F_shape_line_L7 p2 mF_shape_line_L7) x249 s.1 s.2.1 = some r ∧ Sl w.R w.W fl_i64 s.2.2.1 s.2.2.2 s.1) (fun s => [(0, (.slice s.2.2.1 (s.1).length s.2.2.2)), (1, (.slice Al231 (l231).length cl231)), (2, (.func (.func fid2) #[] cap2.toArray)), (7, (.slice Al232 (l232).length cl232)), (8, (.bool s.2.1)), (9, (.bool x234)), (10, (.bool x235)), (11, (.int .i64 x249))]) (fun s => [(2, ow Al232 cl232 3 fl_i64 l232)]) ?_ ?_
    ·refine Tr.sr ?_
     refine Tr.mv rfl rfl ?_
     refine Tr.va rfl (fun _ _ h1 h2 => run_len un_97 (h1.ev rfl)) ?_
     refine Tr.va rfl (fun _ _ h1 h2 => run_gtr (h1.ev rfl) (h1.ev rfl)) ?_
     refine Tr.mv rfl rfl ?_
     obtain ⟨g276, hg276, H⟩ := bnd H
     refine Tr.mid0 6 [(0, (.slice Al230 (l230).length cl230)), (1, (.slice Al231 (l231).length cl231)), (2, (.func (.func fid2) #[] cap2.toArray)), (7, (.slice Al232 (l232).length cl232)), (8, (.bool x233)), (9, (.bool x234)), (10, (.bool x235)), (11, (.int .i64 x249)), (53, (.bool g276))] [(2, ow Al232 cl232 3 fl_i64 l232)] ?_ ?_
     ·cases hg278 : (decide (0 < (l230.length : Int)))
      ·rw [hg278] at hg276
       rw [if_neg (by decide)] at hg276
       have H := hg276
       obtain rfl := Option.some.inj H
       refine Tr.pass rfl rfl rfl rfl rfl (by decide) ?_
       refine Tr.pass rfl rfl rfl rfl rfl (by decide) ?_
       refine Tr.pass rfl rfl rfl rfl rfl (by decide) ?_
       refine Tr.pass rfl rfl rfl rfl rfl (by decide) ?_
       refine Tr.pass rfl rfl rfl rfl rfl (by decide) ?_
       refine Tr.va rfl (fun _ _ h1 h2 => run_pickF (h1.ev rfl) (h1.ev rfl)) ?_
       exact Tr.nil (Tr.fin0 (.cons rfl (.cons rfl (.cons rfl (.cons rfl (.cons rfl (.cons rfl (.cons rfl (.cons rfl (.cons rfl .nil))))))))) (.cons rfl .nil))
      ·rw [hg278] at hg276
       rw [if_pos rfl] at hg276
       have H := hg276
       refine Tr.val (wg rfl rfl rfl) rfl (fun _ _ h1 h2 => run_move (h1.ev rfl)) ?_
       obtain ⟨x277, hx277, H⟩ := bnd H
       obtain ⟨hx2770, hx2771, hx2772⟩ := idx_some hx277
       refine Tr.val (wg rfl rfl rfl) rfl (fun _ _ h1 h2 => run_indexAddr el_97 (h1.ev rfl) hl230.form (h1.ev rfl) hx2770 hx2771) ?_
       refine Tr.val (wg rfl rfl rfl) rfl (fun _ _ h1 h2 => run_load1 ag_3 (h1.ev rfl) (rdF ef_i64 hl230 hx2772 h2) rfl) ?_
       refine Tr.val (wg rfl rfl rfl) rfl (fun _ _ h1 h2 => run_move (h1.ev rfl)) ?_
       refine Tr.val (wg rfl rfl rfl) rfl (fun _ _ h1 h2 => run_eql (h1.ev rfl) (h1.ev rfl)) ?_
       refine Tr.va rfl (fun _ _ h1 h2 => run_pickT (h1.ev rfl) (h1.ev rfl)) ?_
       obtain rfl := Option.some.inj H
       exact Tr.nil (Tr.fin0 (.cons rfl (.cons rfl (.cons rfl (.cons rfl (.cons rfl (.cons rfl (.cons rfl (.cons rfl (.cons rfl .nil))))))))) (.cons rfl .nil))
     ·show Tr _ _ (LF [(0, (.slice Al230 (l230).length cl230)), (1, (.slice Al231 (l231).length cl231)), (2, (.func (.func fid2) #[] cap2.toArray)), (7, (.slice Al232 (l232).length cl232)), (8, (.bool x233)), (9, (.bool x234)), (10, (.bool x235)), (11, (.int .i64 x249)), (53, (.bool g276))]) (LE [(2, ow Al232 cl232 3 fl_i64 l232)]) _
      refine Tr.nil (Tr.normThen ?_)
      refine Tr.cond rfl H (fun H => ?_) (fun H => ?_)
      ·refine Tr.region ?_
       refine Tr.mv rfl rfl ?_
       obtain ⟨l278, hl278, H⟩ := bnd H
       refine Tr.va rfl (fun _ _ h1 h2 => run_cutL el_97 (h1.ev rfl) hl230.form (h1.ev rfl) hl278) ?_
       refine Tr.mv rfl rfl ?_
       refine Tr.va rfl (fun _ _ h1 h2 => run_not (h1.ev rfl)) ?_
       refine Tr.asg rfl rfl ?_
       refine Tr.asg rfl rfl ?_
       refine Tr.nil ?_
       exact Tr.backThen leJ258 (l278, (!x233), (cutA Al230 (1 : Int).toNat 1 cl230), (cl230 - (1 : Int).toNat)) ⟨H, (Sl.cut hl230 hl278)⟩ (.cons rfl (.cons rfl (.cons rfl (.cons rfl (.cons rfl (.cons rfl (.cons rfl (.cons rfl .nil)))))))) (.cons rfl .nil)
      ·refine Tr.skip ?_
       exact Tr.backThen leJ258 (l230, x233, Al230, cl230) ⟨H, hl230⟩ (.cons rfl (.cons rfl (.cons rfl (.cons rfl (.cons rfl (.cons rfl (.cons rfl (.cons rfl .nil)))))))) (.cons rfl .nil)
    ·intro w s hlJ259 hs
     obtain ⟨l256, x257, Al256, cl256⟩ := s
     obtain ⟨H, hl256⟩ := hs
     replace H : F_shape_line_J9 p2 l231 l232 x234 x235 (F_shape_line_L7 p2 mF_shape_line_L7) x249 l256 x257 = some r := H
     replace hl231 := hl231.leR hlJ259
     replace hf2 := fun w' he => hf2 w' (hlJ259.ext.trans he)
     replace leB := leB.trans hlJ259
     replace leF_shape_line_L7 := leF_shape_line_L7.trans hlJ259
     replace hl256 : Sl w.R w.W fl_i64 Al256 cl256 l256 := hl256
     unfold F_shape_line_J9 at H
     show Tr _ _ (LF [(0, (.slice Al256 (l256).length cl256)), (1, (.slice Al231 (l231).length cl231)), (2, (.func (.func fid2) #[] cap2.toArray)), (7, (.slice Al232 (l232).length cl232)), (8, (.bool x257)), (9, (.bool x234)), (10, (.bool x235)), (11, (.int .i64 x249))]) (LE [(2, ow Al232 cl232 3 fl_i64 l232)]) _
     have leJ266 := Bs.Le.refl w
     refine Tr.cutJ (σ := (List Int) × Bool × (Option Addr) × Nat) (fun w s => F_shape_line_J8 p2 l232 x235 (F_shape_line_L7 p2 mF_shape_line_L7) x249 l256 x257 s.1 s.2.1 = some r ∧ Sl w.R w.W fl_i64 s.2.2.1 s.2.2.2 s.1) (fun s => [(0, (.slice Al256 (l256).length cl256)), (1, (.slice s.2.2.1 (s.1).length s.2.2.2)), (2, (.func (.func fid2) #[] cap2.toArray)), (7, (.slice Al232 (l232).length cl232)), (8, (.bool x257)), (9, (.bool s.2.1)), (10, (.bool x235)), (11, (.int .i64 x249))]) (fun s => [(2, ow Al232 cl232 3 fl_i64 l232)]) ?_ ?_
     ·refine Tr.sr ?_
      refine Tr.mv rfl rfl ?_
      refine Tr.va rfl (fun _ _ h1 h2 => run_len un_97 (h1.ev rfl)) ?_
      refine Tr.va rfl (fun _ _ h1 h2 => run_gtr (h1.ev rfl) (h1.ev rfl)) ?_
      refine Tr.mv rfl rfl ?_
      obtain ⟨g272, hg272, H⟩ := bnd H
      refine Tr.mid0 6 [(0, (.slice Al256 (l256).length cl256)), (1, (.slice Al231 (l231).length cl231)), (2, (.func (.func fid2) #[] cap2.toArray)), (7, (.slice Al232 (l232).length cl232)), (8, (.bool x257)), (9, (.bool x234)), (10, (.bool x235)), (11, (.int .i64 x249)), (67, (.bool g272))] [(2, ow Al232 cl232 3 fl_i64 l232)] ?_ ?_
      ·cases hg274 : (decide (0 < (l231.length : Int)))
       ·rw [hg274] at hg272
        rw [if_neg (by decide)] at hg272
        have H := hg272
        obtain rfl := Option.some.inj H
        refine Tr.pass rfl rfl rfl rfl rfl (by decide) ?_
        refine Tr.pass rfl rfl rfl rfl rfl (by decide) ?_
        refine Tr.pass rfl rfl rfl rfl rfl (by decide) ?_
        refine Tr.pass rfl rfl rfl rfl rfl (by decide) ?_
        refine Tr.pass rfl rfl rfl rfl rfl (by decide) ?_
        refine Tr.va rfl (fun _ _ h1 h2 => run_pickF (h1.ev rfl) (h1.ev rfl)) ?_
        exact Tr.nil (Tr.fin0 (.cons rfl (.cons rfl (.cons rfl (.cons rfl (.cons rfl (.cons rfl (.cons rfl (.cons rfl (.cons rfl .nil))))))))) (.cons rfl .nil))
       ·rw [hg274] at hg272
        rw [if_pos rfl] at hg272
        have H := hg272
        refine Tr.val (wg rfl rfl rfl) rfl (fun _ _ h1 h2 => run_move (h1.ev rfl)) ?_
        obtain ⟨x273, hx273, H⟩ := bnd H
        obtain ⟨hx2730, hx2731, hx2732⟩ := idx_some hx273
        refine Tr.val (wg rfl rfl rfl) rfl (fun _ _ h1 h2 => run_indexAddr el_97 (h1.ev rfl) hl231.form (h1.ev rfl) hx2730 hx2731) ?_
        refine Tr.val (wg rfl rfl rfl) rfl (fun _ _ h1 h2 => run_load1 ag_3 (h1.ev rfl) (rdF ef_i64 hl231 hx2732 h2) rfl) ?_
        refine Tr.val (wg rfl rfl rfl) rfl (fun _ _ h1 h2 => run_move (h1.ev rfl)) ?_
        refine Tr.val (wg rfl rfl rfl) rfl (fun _ _ h1 h2 => run_eql (h1.ev rfl) (h1.ev rfl)) ?_
        refine Tr.va rfl (fun _ _ h1 h2 => run_pickT (h1.ev rfl) (h1.ev rfl)) ?_
        obtain rfl := Option.some.inj H
        exact Tr.nil (Tr.fin0 (.cons rfl (.cons rfl (.cons rfl (.cons rfl (.cons rfl (.cons rfl (.cons rfl (.cons rfl (.cons rfl .nil))))))))) (.cons rfl .nil))
      ·show Tr _ _ (LF [(0, (.slice Al256 (l256).length cl256)), (1, (.slice Al231 (l231).length cl231)), (2, (.func (.func fid2) #[] cap2.toArray)), (7, (.slice Al232 (l232).length cl232)), (8, (.bool x257)), (9, (.bool x234)), (10, (.bool x235)), (11, (.int .i64 x249)), (67, (.bool g272))]) (LE [(2, ow Al232 cl232 3 fl_i64 l232)]) _
       refine Tr.nil (Tr.normThen ?_)
       refine Tr.cond rfl H (fun H => ?_) (fun H => ?_)
       ·refine Tr.region ?_
        refine Tr.mv rfl rfl ?_
        obtain ⟨l274, hl274, H⟩ := bnd H
        refine Tr.va rfl (fun _ _ h1 h2 => run_cutL el_97 (h1.ev rfl) hl231.form (h1.ev rfl) hl274) ?_
        refine Tr.mv rfl rfl ?_
        refine Tr.va rfl (fun _ _ h1 h2 => run_not (h1.ev rfl)) ?_
        refine Tr.asg rfl rfl ?_
        refine Tr.asg rfl rfl ?_
        refine Tr.nil ?_
        exact Tr.backThen leJ266 (l274, (!x234), (cutA Al231 (1 : Int).toNat 1 cl231), (cl231 - (1 : Int).toNat)) ⟨H, (Sl.cut hl231 hl274)⟩ (.cons rfl (.cons rfl (.cons rfl (.cons rfl (.cons rfl (.cons rfl (.cons rfl (.cons rfl .nil)))))))) (.cons rfl .nil)
       ·refine Tr.skip ?_
        exact Tr.backThen leJ266 (l231, x234, Al231, cl231) ⟨H, hl231⟩ (.cons rfl (.cons rfl (.cons rfl (.cons rfl (.cons rfl (.cons rfl (.cons rfl (.cons rfl .nil)))))))) (.cons rfl .nil)
     ·intro w s hlJ267 hs
      obtain ⟨l264, x265, Al264, cl264⟩ := s
      obtain ⟨H, hl264⟩ := hs
      replace H : F_shape_line_J8 p2 l232 x235 (F_shape_line_L7 p2 mF_shape_line_L7) x249 l256 x257 l264 x265 = some r := H
      replace hl256 := hl256.leR hlJ267
      replace hf2 := fun w' he => hf2 w' (hlJ267.ext.trans he)
      replace leB := leB.trans hlJ267
      replace leF_shape_line_L7 := leF_shape_line_L7.trans hlJ267
      replace hl264 : Sl w.R w.W fl_i64 Al264 cl264 l264 := hl264
      unfold F_shape_line_J8 at H
      show Tr _ _ (LF [(0, (.slice Al256 (l256).length cl256)), (1, (.slice Al264 (l264).length cl264)), (2, (.func (.func fid2) #[] cap2.toArray)), (7, (.slice Al232 (l232).length cl232)), (8, (.bool x257)), (9, (.bool x265)), (10, (.bool x235)), (11, (.int .i64 x249))]) (LE [(2, ow Al232 cl232 3 fl_i64 l232)]) _
      refine Tr.sr ?_
      refine Tr.mv rfl rfl ?_
      refine Tr.mv rfl rfl ?_
      refine Tr.mv rfl rfl ?_
      obtain ⟨y268, hy268, H⟩ := bnd H
      refine Tr.callF (r := (.bool y268)) (wn rfl) rfl rfl hg2 (evl_cons rfl (evl_cons rfl evl_nil)) (fun W hW => hf2 hW.all hW.extAll x257 x265 _ hy268) ?_
      refine Tr.asg rfl rfl ?_
      refine Tr.nil (Tr.normThen ?_)
      refine Tr.sr ?_
      refine Tr.mv rfl rfl ?_
      refine Tr.mv rfl rfl ?_
      refine Tr.va rfl (fun _ _ h1 h2 => run_neqB un_4 (h1.ev rfl) (h1.ev rfl)) ?_
      refine Tr.nil (Tr.normThen ?_)
      refine Tr.cond rfl H (fun H => ?_) (fun H => ?_)
      ·refine Tr.region ?_
       refine Tr.mv rfl rfl ?_
       refine Tr.mv rfl rfl ?_
       refine Tr.buildSlice 5 (e := 3) (vs := [(0, (.int .i64 x249))]) (cs := [(.int .i64 x249)]) (wn rfl) rfl (evs_cons rfl evs_nil) (by kernel_rfl) fun b269 => ?_
       obtain ⟨l270, hl270, H⟩ := bnd H
       refine Tr.append 2 (t := fl_i64) (l := l232) (l2 := [x249]) (wn rfl) rfl rfl rfl rfl (fun W hW => ⟨[[(.int .i64 x249)]], (.cons ⟨(), trivial, rfl⟩ .nil), rdb hW (vs := [(.int .i64 x249)]) (k := 5) rfl 0⟩) un_97 sz_3 zl_3 (by decide) by_3 rfl hl270 fun Al270 cl270 hAl270 => ?_
       refine Tr.mv rfl rfl ?_
       refine Tr.asg rfl rfl ?_
       refine Tr.asg rfl rfl ?_
       refine Tr.nil (Tr.normBlock ?_)
       exact Tr.backThen leF_shape_line_L7 (l256, l264, l270, x257, x265, y268, Al256, cl256, Al264, cl264, Al270, cl270) ⟨H, hl256, hl264, hAl270⟩ (.cons rfl (.cons rfl (.cons rfl (.cons rfl (.cons rfl (.cons rfl (.cons rfl .nil))))))) (.cons rfl .nil)
      ·refine Tr.skip (Tr.normBlock ?_)
       exact Tr.backThen leF_shape_line_L7 (l256, l264, l232, x257, x265, x235, Al256, cl256, Al264, cl264, Al232, cl232) ⟨H, hl256, hl264, hl232⟩ (.cons rfl (.cons rfl (.cons rfl (.cons rfl (.cons rfl (.cons rfl (.cons rfl .nil))))))) (.cons rfl .nil)
  ·refine Tr.exit (Tr.exitThen (Tr.exitThen (Tr.exitBlock (Tr.normThen ?_))))
   refine Tr.sr ?_
   refine Tr.mv rfl rfl ?_
   refine Tr.asg rfl rfl ?_
   refine Tr.nil (Tr.normThen ?_)
   refine Tr.ret ?_
   obtain rfl := Option.some.inj H
   exact Tr.out (m := [(.slice Al232 (l232).length cl232)]) [] (res_tmp rfl res_nil) (fun W hW => ⟨(Al232, cl232), rfl, hl232, HF.lowE leB (hW.pick (ks := [2]) (by decide) (pk_cons rfl pk_nil)) ⟨ow_any _ _ _ _ tr_i64, trivial⟩⟩)

theorem F_shape_Merge_ok (N : Nat) {w : Bs} (p0 : (List TBand)) (Ap0_0 : Option Addr) (cp0_0 : Nat) (hp0_0 : Sl w.O w.W fl_TBand Ap0_0 cp0_0 p0) (p1 : (List TBand)) (Ap1_0 : Option Addr) (cp1_0 : Nat) (hp1_0 : Sl w.O w.W fl_TBand Ap1_0 cp1_0 p1) (p2 : Bool → Bool → Option Bool) (fid2 : Nat) (cap2 : List Value) (hg2 : ∀ args W, (callFunc fid2 args).run Try.prog W = .ok (.enter fid2 args) W) (hf2 : ∀ (w' : Bs), w.Ext w' → ∀ (z0 : Bool) (z1 : Bool), ∀ y, p2 z0 z1 = some y → Calls Try.prog fid2 (([(.bool z0), (.bool z1)] : List Value) ++ cap2).toArray w'.W fun e W'' => e = .returned (.bool y) ∧ HF w' W'' E0) (r : (List TBand)) (H : F_shape_Merge N p0 p1 p2 = some r) (hE : HF w w.W (LEn [emp])) : Calls Try.prog 78 [(.slice Ap0_0 (p0).length cp0_0), (.slice Ap1_0 (p1).length cp1_0), (.func (.func fid2) #[] cap2.toArray)].toArray w.W fun e W' => ∃ (w' : Bs) (u : (Option Addr × Nat)), w.Le w' ∧ e = .returned (.slice u.1 (r).length u.2) ∧ (SlF u.1 (r).length u.2) ∧ HF w' W' (LEn [ow u.1 u.2 104 fl_TBand r]) := by
 unfold F_shape_Merge at H
 have leB := Bs.Le.refl w
 refine Tr.enter (n := 126) Try.func78 rfl rfl rfl hE ?_
 refine Tr.sr ?_
 refine Tr.asg rfl rfl ?_
 refine Tr.nilOwn 1 104 fl_TBand ?_
 show Tr _ _ (uf _ 6 (.slice none (([] : List TBand)).length 0)) _ _
 refine Tr.nil (Tr.normThen ?_)
 refine Tr.sr ?_
 refine Tr.asg rfl rfl ?_
 refine Tr.nilOwn 2 104 fl_TBand ?_
 show Tr _ _ (uf _ 7 (.slice none (([] : List TBand)).length 0)) _ _
 refine Tr.nil (Tr.normThen ?_)
 refine Tr.seq ?_
 refine Tr.sr ?_
 refine Tr.mv rfl rfl ?_
 refine Tr.va rfl (fun _ _ h1 h2 => run_len un_65 (h1.ev rfl)) ?_
 refine Tr.mv rfl rfl ?_
 refine Tr.va rfl (fun _ _ h1 h2 => run_len un_65 (h1.ev rfl)) ?_
 refine Tr.va rfl (fun _ _ h1 h2 => run_add (h1.ev rfl) (h1.ev rfl)) ?_
 refine Tr.va rfl (fun _ _ h1 h2 => run_eql (h1.ev rfl) (h1.ev rfl)) ?_
 refine Tr.nil (Tr.normThen ?_)
 refine Tr.cond rfl H (fun H => ?_) (fun H => ?_)
 ·refine Tr.sr ?_
  refine Tr.asg rfl rfl ?_
  refine Tr.nilOwn 3 104 fl_TBand ?_
  show Tr _ _ (uf _ 6 (.slice none (([] : List TBand)).length 0)) _ _
  refine Tr.nil (Tr.normThen ?_)
  refine Tr.ret (Tr.retThen ?_)
  obtain rfl := Option.some.inj H
  exact Tr.out (m := [(.slice none (([] : List TBand)).length 0)]) [] (res_tmp rfl res_nil) (fun W hW => ⟨w, (none, 0), leB, rfl, slf_nil, hW.pick (ks := [3]) (by decide) (pk_cons rfl pk_nil)⟩)
 ·refine Tr.skip (Tr.normThen ?_)
  refine Tr.sr ?_
  refine Tr.asg rfl rfl ?_
  refine Tr.asg rfl rfl ?_
  refine Tr.nil (Tr.normThen ?_)
  refine Tr.seq ?_
  refine Tr.sr ?_
  refine Tr.mv rfl rfl ?_
  refine Tr.mv rfl rfl ?_
  refine Tr.buildSlice 4 (e := 65) (vs := [(0, (.slice Ap0_0 (p0).length cp0_0)), (1, (.slice Ap1_0 (p1).length cp1_0))]) (cs := [(.slice Ap0_0 (p0).length cp0_0), (.slice Ap1_0 (p1).length cp1_0)]) (wn rfl) rfl (evs_cons rfl (evs_cons rfl evs_nil)) (by kernel_rfl) fun b100 => ?_
  refine Tr.va rfl (fun _ _ h1 h2 => run_len un_75 (h1.ev rfl)) ?_
  refine Tr.mv rfl rfl ?_
  refine Tr.nil (Tr.normThen ?_)
  refine Tr.block ?_
  refine Tr.own 4 fl_LTBand [p0, p1] (css := [[(.slice Ap0_0 (p0).length cp0_0)], [(.slice Ap1_0 (p1).length cp1_0)]]) rfl (.cons ⟨(Ap0_0, cp0_0), hp0_0, rfl⟩ (.cons ⟨(Ap1_0, cp1_0), hp1_0, rfl⟩ .nil)) rfl (by decide) (lit_max rfl) ?_
  refine Tr.ren 4 9 rfl rfl rfl ?_
  refine Tr.loop (σ := Int × Int × (List (List TBand)) × Int × (Option Addr) × Nat) (fun m w s => F_shape_Merge_L3 N p0 p1 p2 m s.1 s.2.1 s.2.2.1 s.2.2.2.1 = some r ∧ SlF s.2.2.2.2.1 (s.2.2.1).length s.2.2.2.2.2) (fun s => [(0, (.slice Ap0_0 (p0).length cp0_0)), (1, (.slice Ap1_0 (p1).length cp1_0)), (2, (.func (.func fid2) #[] cap2.toArray)), (7, (.slice none (([] : List TBand)).length 0)), (8, (.int .i64 s.1)), (9, (.int .i64 s.2.1)), (25, (.slice s.2.2.2.2.1 (s.2.2.1).length s.2.2.2.2.2)), (26, (.int .i64 2)), (27, (.int .i64 s.2.2.2.1))]) (fun s => [(2, ow none 0 104 fl_TBand ([] : List TBand)), (9, ow s.2.2.2.2.1 s.2.2.2.2.2 65 fl_LTBand s.2.2.1)]) N (0, 0, [p0, p1], 0, (some ⟨b100, 0, none⟩), 2) ⟨H, (lit_form b100 rfl)⟩ (.cons rfl (.cons rfl (.cons rfl (.cons rfl (.cons rfl (.cons rfl (.cons rfl (.cons rfl (.cons rfl .nil))))))))) (.cons rfl (.cons rfl .nil)) (fun _ _ h => noSome (h.1)) ?_
  intro w leF_shape_Merge_L3 mF_shape_Merge_L3 s hs
  obtain ⟨x150, x151, l152, x153, Al152, cl152⟩ := s
  obtain ⟨H, hl152⟩ := hs
  replace H : F_shape_Merge_L3 N p0 p1 p2 (mF_shape_Merge_L3 + 1) x150 x151 l152 x153 = some r := H
  replace hp0_0 := hp0_0.le leF_shape_Merge_L3
  replace hp1_0 := hp1_0.le leF_shape_Merge_L3
  replace hf2 := fun w' he => hf2 w' (leF_shape_Merge_L3.ext.trans he)
  replace leB := leB.trans leF_shape_Merge_L3
  replace hl152 : SlF Al152 (l152).length cl152 := hl152
  rw [F_shape_Merge_L3.eq_2] at H
  show Tr _ _ (LF [(0, (.slice Ap0_0 (p0).length cp0_0)), (1, (.slice Ap1_0 (p1).length cp1_0)), (2, (.func (.func fid2) #[] cap2.toArray)), (7, (.slice none (([] : List TBand)).length 0)), (8, (.int .i64 x150)), (9, (.int .i64 x151)), (25, (.slice Al152 (l152).length cl152)), (26, (.int .i64 2)), (27, (.int .i64 x153))]) (LE [(2, ow none 0 104 fl_TBand ([] : List TBand)), (9, ow Al152 cl152 65 fl_LTBand l152)]) _
  refine Tr.sr ?_
  refine Tr.va rfl (fun _ _ h1 h2 => run_lss (h1.ev rfl) (h1.ev rfl)) ?_
  refine Tr.nil (Tr.normThen ?_)
  refine Tr.seq ?_
  refine Tr.cond rfl H (fun H => ?_) (fun H => ?_)
  ·refine Tr.skip (Tr.normThen ?_)
   refine Tr.seq ?_
   refine Tr.block ?_
   refine Tr.sr ?_
   refine Tr.mv rfl rfl ?_
   obtain ⟨x154, hx154, H⟩ := bnd H
   obtain ⟨hx1540, hx1541, hx1542⟩ := idx_some hx154
   refine Tr.va rfl (fun _ _ h1 h2 => run_indexAddr el_75 (h1.ev rfl) hl152 (h1.ev rfl) hx1540 hx1541) ?_
   refine Tr.valE (U := (fl_LTBand).Ad) (fun u => (fl_LTBand).ok w.O w.W u x154) (fun u => (.slice u.1 (x154).length u.2)) (wn rfl) rfl (ldN (κ := 9) (t := fl_LTBand) (V := fun u => (.slice u.1 (x154).length u.2)) rfl hx1542 (fun _ _ u h1 hc => run_load1 ag_65 (h1.ev rfl) hc rfl)) ?_
   intro u155 hoku155
   obtain ⟨Au155_0, cu155_0⟩ := u155
   have hoku155_0 := hoku155
   replace hoku155_0 : Sl w.O w.W fl_TBand Au155_0 cu155_0 x154 := hoku155_0
   show Tr _ _ (uf _ 31 (.slice Au155_0 (x154).length cu155_0)) _ _
   refine Tr.asg rfl rfl ?_
   refine Tr.asg rfl rfl ?_
   refine Tr.nil (Tr.normThen ?_)
   refine Tr.sr ?_
   refine Tr.mv rfl rfl ?_
   refine Tr.va rfl (fun _ _ h1 h2 => run_len un_65 (h1.ev rfl)) ?_
   refine Tr.va rfl (fun _ _ h1 h2 => run_gtr (h1.ev rfl) (h1.ev rfl)) ?_
   refine Tr.nil (Tr.normThen ?_)
   refine Tr.cond rfl H (fun H => ?_) (fun H => ?_)
   ·have leJ162 := Bs.Le.refl w
    refine Tr.cutJ (σ := Int × Int) (fun w s => F_shape_Merge_J4 l152 x153 (F_shape_Merge_L3 N p0 p1 p2 mF_shape_Merge_L3) x154 s.1 s.2 = some r) (fun s => [(0, (.slice Ap0_0 (p0).length cp0_0)), (1, (.slice Ap1_0 (p1).length cp1_0)), (2, (.func (.func fid2) #[] cap2.toArray)), (7, (.slice none (([] : List TBand)).length 0)), (8, (.int .i64 s.1)), (9, (.int .i64 s.2)), (11, (.slice Au155_0 (x154).length cu155_0)), (25, (.slice Al152 (l152).length cl152)), (26, (.int .i64 2)), (27, (.int .i64 x153))]) (fun s => [(2, ow none 0 104 fl_TBand ([] : List TBand)), (9, ow Al152 cl152 65 fl_LTBand l152)]) ?_ ?_
    ·refine Tr.sr ?_
     refine Tr.mv rfl rfl ?_
     refine Tr.va rfl (fun _ _ h1 h2 => run_eql (h1.ev rfl) (h1.ev rfl)) ?_
     refine Tr.mv rfl rfl ?_
     refine Tr.mid0 4 [(0, (.slice Ap0_0 (p0).length cp0_0)), (1, (.slice Ap1_0 (p1).length cp1_0)), (2, (.func (.func fid2) #[] cap2.toArray)), (7, (.slice none (([] : List TBand)).length 0)), (8, (.int .i64 x150)), (9, (.int .i64 x151)), (11, (.slice Au155_0 (x154).length cu155_0)), (25, (.slice Al152 (l152).length cl152)), (26, (.int .i64 2)), (27, (.int .i64 x153)), (41, (.bool ((x153 == 0) || ((p0.length : Int) == 0))))] [(2, ow none 0 104 fl_TBand ([] : List TBand)), (9, ow Al152 cl152 65 fl_LTBand l152)] ?_ ?_
     ·cases hg171 : (x153 == 0)
      ·refine Tr.val (wg rfl rfl rfl) rfl (fun _ _ h1 h2 => run_move (h1.ev rfl)) ?_
       refine Tr.val (wg rfl rfl rfl) rfl (fun _ _ h1 h2 => run_len un_65 (h1.ev rfl)) ?_
       refine Tr.val (wg rfl rfl rfl) rfl (fun _ _ h1 h2 => run_eql (h1.ev rfl) (h1.ev rfl)) ?_
       refine Tr.va rfl (fun _ _ h1 h2 => run_pickF (h1.ev rfl) (h1.ev rfl)) ?_
       exact Tr.nil (Tr.fin0 (.cons rfl (.cons rfl (.cons rfl (.cons rfl (.cons rfl (.cons rfl (.cons rfl (.cons rfl (.cons rfl (.cons rfl (.cons rfl .nil))))))))))) (.cons rfl (.cons rfl .nil)))
      ·refine Tr.pass rfl rfl rfl rfl rfl (by decide) ?_
       refine Tr.pass rfl rfl rfl rfl rfl (by decide) ?_
       refine Tr.pass rfl rfl rfl rfl rfl (by decide) ?_
       refine Tr.va rfl (fun _ _ h1 h2 => run_pickT (h1.ev rfl) (h1.ev rfl)) ?_
       exact Tr.nil (Tr.fin0 (.cons rfl (.cons rfl (.cons rfl (.cons rfl (.cons rfl (.cons rfl (.cons rfl (.cons rfl (.cons rfl (.cons rfl (.cons rfl .nil))))))))))) (.cons rfl (.cons rfl .nil)))
     ·show Tr _ _ (LF [(0, (.slice Ap0_0 (p0).length cp0_0)), (1, (.slice Ap1_0 (p1).length cp1_0)), (2, (.func (.func fid2) #[] cap2.toArray)), (7, (.slice none (([] : List TBand)).length 0)), (8, (.int .i64 x150)), (9, (.int .i64 x151)), (11, (.slice Au155_0 (x154).length cu155_0)), (25, (.slice Al152 (l152).length cl152)), (26, (.int .i64 2)), (27, (.int .i64 x153)), (41, (.bool ((x153 == 0) || ((p0.length : Int) == 0))))]) (LE [(2, ow none 0 104 fl_TBand ([] : List TBand)), (9, ow Al152 cl152 65 fl_LTBand l152)]) _
      refine Tr.nil (Tr.normThen ?_)
      refine Tr.cond rfl H (fun H => ?_) (fun H => ?_)
      ·refine Tr.draw (by kernel_rfl) (by kernel_rfl) ?_
       refine Tq.mv rfl rfl ?_
       obtain ⟨x168, hx168, H⟩ := bnd H
       obtain ⟨hx1680, hx1681, hx1682⟩ := idx_some hx168
       obtain ⟨u169, hRu169, hoku169, hcu169⟩ := (hoku155_0).el hx1682
       obtain ⟨Au169_0, cu169_0⟩ := u169
       have hoku169_0 := hoku169
       replace hoku169_0 : Sl w.O w.W fl_i64 Au169_0 cu169_0 x168.Xs := hoku169_0
       replace hRu169 : w.R (adB Au155_0) := Or.inl hRu169
       refine Tq.va rfl (fun _ _ h1 h2 => run_indexAddr el_65 (h1.ev rfl) hoku155_0.form (h1.ev rfl) hx1680 hx1681) ?_
       refine Tq.va rfl (fun _ _ h1 h2 => run_fieldAddr fo_104_0 (h1.ev rfl)) ?_
       refine Tq.va rfl (fun _ _ h1 h2 => run_load1 ag_3 (h1.ev rfl) (CellsAt.drop (rdR hRu169 hcu169 h2) 0) rfl) ?_
       refine Tq.mv rfl rfl ?_
       refine Tq.mv rfl rfl ?_
       refine Tq.va rfl (fun _ _ h1 h2 => run_len un_65 (h1.ev rfl)) ?_
       refine Tq.va rfl (fun _ _ h1 h2 => run_sub (h1.ev rfl) (h1.ev rfl)) ?_
       obtain ⟨x170, hx170, H⟩ := bnd H
       obtain ⟨hx1700, hx1701, hx1702⟩ := idx_some hx170
       obtain ⟨u171, hRu171, hoku171, hcu171⟩ := (hoku155_0).el hx1702
       obtain ⟨Au171_0, cu171_0⟩ := u171
       have hoku171_0 := hoku171
       replace hoku171_0 : Sl w.O w.W fl_i64 Au171_0 cu171_0 x170.Xs := hoku171_0
       replace hRu171 : w.R (adB Au155_0) := Or.inl hRu171
       refine Tq.va rfl (fun _ _ h1 h2 => run_indexAddr el_65 (h1.ev rfl) hoku155_0.form (h1.ev rfl) hx1700 hx1701) ?_
       refine Tq.va rfl (fun _ _ h1 h2 => run_fieldAddr fo_104_1 (h1.ev rfl)) ?_
       refine Tq.va rfl (fun _ _ h1 h2 => run_load1 ag_3 (h1.ev rfl) (CellsAt.drop (rdR hRu171 hcu171 h2) 1) rfl) ?_
       refine Tq.asg rfl rfl ?_
       refine Tq.asg rfl rfl ?_
       refine Tq.nil ?_
       exact Tr.backThen leJ162 (x168.Y0, x170.Y1) H (.cons rfl (.cons rfl (.cons rfl (.cons rfl (.cons rfl (.cons rfl (.cons rfl (.cons rfl (.cons rfl (.cons rfl .nil)))))))))) (.cons rfl (.cons rfl .nil))
      ·refine Tr.skip ?_
       exact Tr.backThen leJ162 (x150, x151) H (.cons rfl (.cons rfl (.cons rfl (.cons rfl (.cons rfl (.cons rfl (.cons rfl (.cons rfl (.cons rfl (.cons rfl .nil)))))))))) (.cons rfl (.cons rfl .nil))
    ·intro w s hlJ163 hs
     obtain ⟨x160, x161⟩ := s
     have H := hs
     replace H : F_shape_Merge_J4 l152 x153 (F_shape_Merge_L3 N p0 p1 p2 mF_shape_Merge_L3) x154 x160 x161 = some r := H
     replace hp0_0 := hp0_0.le hlJ163
     replace hp1_0 := hp1_0.le hlJ163
     replace hf2 := fun w' he => hf2 w' (hlJ163.ext.trans he)
     replace hoku155_0 := hoku155_0.le hlJ163
     replace leB := leB.trans hlJ163
     replace leF_shape_Merge_L3 := leF_shape_Merge_L3.trans hlJ163
     unfold F_shape_Merge_J4 at H
     show Tr _ _ (LF [(0, (.slice Ap0_0 (p0).length cp0_0)), (1, (.slice Ap1_0 (p1).length cp1_0)), (2, (.func (.func fid2) #[] cap2.toArray)), (7, (.slice none (([] : List TBand)).length 0)), (8, (.int .i64 x160)), (9, (.int .i64 x161)), (11, (.slice Au155_0 (x154).length cu155_0)), (25, (.slice Al152 (l152).length cl152)), (26, (.int .i64 2)), (27, (.int .i64 x153))]) (LE [(2, ow none 0 104 fl_TBand ([] : List TBand)), (9, ow Al152 cl152 65 fl_LTBand l152)]) _
     refine Tr.draw (by kernel_rfl) (by kernel_rfl) ?_
     refine Tq.mv rfl rfl ?_
     refine Tq.mv rfl rfl ?_
     obtain ⟨x164, hx164, H⟩ := bnd H
     obtain ⟨hx1640, hx1641, hx1642⟩ := idx_some hx164
     obtain ⟨u165, hRu165, hoku165, hcu165⟩ := (hoku155_0).el hx1642
     obtain ⟨Au165_0, cu165_0⟩ := u165
     have hoku165_0 := hoku165
     replace hoku165_0 : Sl w.O w.W fl_i64 Au165_0 cu165_0 x164.Xs := hoku165_0
     replace hRu165 : w.R (adB Au155_0) := Or.inl hRu165
     refine Tq.va rfl (fun _ _ h1 h2 => run_indexAddr el_65 (h1.ev rfl) hoku155_0.form (h1.ev rfl) hx1640 hx1641) ?_
     refine Tq.va rfl (fun _ _ h1 h2 => run_fieldAddr fo_104_0 (h1.ev rfl)) ?_
     refine Tq.va rfl (fun _ _ h1 h2 => run_load1 ag_3 (h1.ev rfl) (CellsAt.drop (rdR hRu165 hcu165 h2) 0) rfl) ?_
     refine Tq.va rfl (fun _ _ h1 h2 => run_min (h1.ev rfl) (h1.ev rfl) _) ?_
     refine Tq.mv rfl rfl ?_
     refine Tq.mv rfl rfl ?_
     refine Tq.mv rfl rfl ?_
     refine Tq.va rfl (fun _ _ h1 h2 => run_len un_65 (h1.ev rfl)) ?_
     refine Tq.va rfl (fun _ _ h1 h2 => run_sub (h1.ev rfl) (h1.ev rfl)) ?_
     obtain ⟨x166, hx166, H⟩ := bnd H
     obtain ⟨hx1660, hx1661, hx1662⟩ := idx_some hx166
     obtain ⟨u167, hRu167, hoku167, hcu167⟩ := (hoku155_0).el hx1662
     obtain ⟨Au167_0, cu167_0⟩ := u167
     have hoku167_0 := hoku167
     replace hoku167_0 : Sl w.O w.W fl_i64 Au167_0 cu167_0 x166.Xs := hoku167_0
     replace hRu167 : w.R (adB Au155_0) := Or.inl hRu167
     refine Tq.va rfl (fun _ _ h1 h2 => run_indexAddr el_65 (h1.ev rfl) hoku155_0.form (h1.ev rfl) hx1660 hx1661) ?_
     refine Tq.va rfl (fun _ _ h1 h2 => run_fieldAddr fo_104_1 (h1.ev rfl)) ?_
     refine Tq.va rfl (fun _ _ h1 h2 => run_load1 ag_3 (h1.ev rfl) (CellsAt.drop (rdR hRu167 hcu167 h2) 1) rfl) ?_
     refine Tq.va rfl (fun _ _ h1 h2 => run_max (h1.ev rfl) (h1.ev rfl) _) ?_
     refine Tq.asg rfl rfl ?_
     refine Tq.asg rfl rfl ?_
     refine Tq.nil (Tr.normBlock (Tr.normThen ?_))
     refine Tr.region ?_
     refine Tr.va rfl (fun _ _ h1 h2 => run_add (h1.ev rfl) (h1.ev rfl)) ?_
     refine Tr.mv rfl rfl ?_
     refine Tr.nil ?_
     exact Tr.backThen leF_shape_Merge_L3 ((min x160 x164.Y0), (max x161 x166.Y1), l152, (w64 (x153 + 1)), Al152, cl152) ⟨H, hl152⟩ (.cons rfl (.cons rfl (.cons rfl (.cons rfl (.cons rfl (.cons rfl (.cons rfl (.cons rfl (.cons rfl .nil))))))))) (.cons rfl (.cons rfl .nil))
   ·refine Tr.skip (Tr.normBlock (Tr.normThen ?_))
    refine Tr.region ?_
    refine Tr.va rfl (fun _ _ h1 h2 => run_add (h1.ev rfl) (h1.ev rfl)) ?_
    refine Tr.mv rfl rfl ?_
    refine Tr.nil ?_
    exact Tr.backThen leF_shape_Merge_L3 (x150, x151, l152, (w64 (x153 + 1)), Al152, cl152) ⟨H, hl152⟩ (.cons rfl (.cons rfl (.cons rfl (.cons rfl (.cons rfl (.cons rfl (.cons rfl (.cons rfl (.cons rfl .nil))))))))) (.cons rfl (.cons rfl .nil))
  ·refine Tr.exit (Tr.exitThen (Tr.exitThen (Tr.exitBlock (Tr.normThen ?_))))
   refine Tr.seq ?_
   refine Tr.block ?_
   refine Tr.loop (σ := (List TBand) × (List TBand) × (List TBand) × Int × (Option Addr) × Nat × (Option Addr) × Nat × (Option Addr) × Nat) (fun m w s => F_shape_Merge_L9 N p2 x151 m s.1 s.2.1 s.2.2.1 s.2.2.2.1 = some r ∧ Sl w.O w.W fl_TBand s.2.2.2.2.1 s.2.2.2.2.2.1 s.1 ∧ Sl w.O w.W fl_TBand s.2.2.2.2.2.2.1 s.2.2.2.2.2.2.2.1 s.2.1 ∧ SlF s.2.2.2.2.2.2.2.2.1 (s.2.2.1).length s.2.2.2.2.2.2.2.2.2) (fun s => [(0, (.slice s.2.2.2.2.1 (s.1).length s.2.2.2.2.2.1)), (1, (.slice s.2.2.2.2.2.2.1 (s.2.1).length s.2.2.2.2.2.2.2.1)), (2, (.func (.func fid2) #[] cap2.toArray)), (7, (.slice s.2.2.2.2.2.2.2.2.1 (s.2.2.1).length s.2.2.2.2.2.2.2.2.2)), (8, (.int .i64 s.2.2.2.1)), (9, (.int .i64 x151))]) (fun s => [(2, ow s.2.2.2.2.2.2.2.2.1 s.2.2.2.2.2.2.2.2.2 104 fl_TBand s.2.2.1)]) N (p0, p1, ([] : List TBand), x150, Ap0_0, cp0_0, Ap1_0, cp1_0, none, 0) ⟨H, hp0_0, hp1_0, slf_nil⟩ (.cons rfl (.cons rfl (.cons rfl (.cons rfl (.cons rfl (.cons rfl .nil)))))) (.cons rfl .nil) (fun _ _ h => noSome (h.1)) ?_
   intro w leF_shape_Merge_L9 mF_shape_Merge_L9 s hs
   obtain ⟨l292, l293, l294, x295, Al292, cl292, Al293, cl293, Al294, cl294⟩ := s
   obtain ⟨H, hl292, hl293, hl294⟩ := hs
   replace H : F_shape_Merge_L9 N p2 x151 (mF_shape_Merge_L9 + 1) l292 l293 l294 x295 = some r := H
   replace hf2 := fun w' he => hf2 w' (leF_shape_Merge_L9.ext.trans he)
   replace leB := leB.trans leF_shape_Merge_L9
   replace leF_shape_Merge_L3 := leF_shape_Merge_L3.trans leF_shape_Merge_L9
   replace hl292 : Sl w.O w.W fl_TBand Al292 cl292 l292 := hl292
   replace hl293 : Sl w.O w.W fl_TBand Al293 cl293 l293 := hl293
   replace hl294 : SlF Al294 (l294).length cl294 := hl294
   rw [F_shape_Merge_L9.eq_2] at H
   show Tr _ _ (LF [(0, (.slice Al292 (l292).length cl292)), (1, (.slice Al293 (l293).length cl293)), (2, (.func (.func fid2) #[] cap2.toArray)), (7, (.slice Al294 (l294).length cl294)), (8, (.int .i64 x295)), (9, (.int .i64 x151))]) (LE [(2, ow Al294 cl294 104 fl_TBand l294)]) _
   refine Tr.seq ?_
   refine Tr.sr ?_
   refine Tr.mv rfl rfl ?_
   refine Tr.mv rfl rfl ?_
   refine Tr.va rfl (fun _ _ h1 h2 => run_lss (h1.ev rfl) (h1.ev rfl)) ?_
   refine Tr.nil (Tr.normThen ?_)
   refine Tr.cond rfl H (fun H => ?_) (fun H => ?_)
   ·refine Tr.skip (Tr.normThen ?_)
    refine Tr.block ?_
    refine Tr.seq ?_
    refine Tr.block ?_
    refine Tr.loop (σ := (List TBand) × (Option Addr) × Nat) (fun m w s => F_shape_Merge_L10 N p2 x151 l293 l294 x295 (F_shape_Merge_L9 N p2 x151 mF_shape_Merge_L9) m s.1 = some r ∧ Sl w.O w.W fl_TBand s.2.1 s.2.2 s.1) (fun s => [(0, (.slice s.2.1 (s.1).length s.2.2)), (1, (.slice Al293 (l293).length cl293)), (2, (.func (.func fid2) #[] cap2.toArray)), (7, (.slice Al294 (l294).length cl294)), (8, (.int .i64 x295)), (9, (.int .i64 x151))]) (fun s => [(2, ow Al294 cl294 104 fl_TBand l294)]) N (l292, Al292, cl292) ⟨H, hl292⟩ (.cons rfl (.cons rfl (.cons rfl (.cons rfl (.cons rfl (.cons rfl .nil)))))) (.cons rfl .nil) (fun _ _ h => noSome (h.1)) ?_
    intro w leF_shape_Merge_L10 mF_shape_Merge_L10 s hs
    obtain ⟨l311, Al311, cl311⟩ := s
    obtain ⟨H, hl311⟩ := hs
    replace H : F_shape_Merge_L10 N p2 x151 l293 l294 x295 (F_shape_Merge_L9 N p2 x151 mF_shape_Merge_L9) (mF_shape_Merge_L10 + 1) l311 = some r := H
    replace hl293 := hl293.le leF_shape_Merge_L10
    replace hf2 := fun w' he => hf2 w' (leF_shape_Merge_L10.ext.trans he)
    replace leB := leB.trans leF_shape_Merge_L10
    replace leF_shape_Merge_L3 := leF_shape_Merge_L3.trans leF_shape_Merge_L10
    replace leF_shape_Merge_L9 := leF_shape_Merge_L9.trans leF_shape_Merge_L10
    replace hl311 : Sl w.O w.W fl_TBand Al311 cl311 l311 := hl311
    rw [F_shape_Merge_L10.eq_2] at H
    show Tr _ _ (LF [(0, (.slice Al311 (l311).length cl311)), (1, (.slice Al293 (l293).length cl293)), (2, (.func (.func fid2) #[] cap2.toArray)), (7, (.slice Al294 (l294).length cl294)), (8, (.int .i64 x295)), (9, (.int .i64 x151))]) (LE [(2, ow Al294 cl294 104 fl_TBand l294)]) _
    refine Tr.seq ?_
    refine Tr.sr ?_
    refine Tr.mv rfl rfl ?_
    refine Tr.va rfl (fun _ _ h1 h2 => run_len un_65 (h1.ev rfl)) ?_
    refine Tr.va rfl (fun _ _ h1 h2 => run_gtr (h1.ev rfl) (h1.ev rfl)) ?_
    refine Tr.mv rfl rfl ?_
    obtain ⟨g314, hg314, H⟩ := bnd H
    refine Tr.mid0 7 [(0, (.slice Al311 (l311).length cl311)), (1, (.slice Al293 (l293).length cl293)), (2, (.func (.func fid2) #[] cap2.toArray)), (7, (.slice Al294 (l294).length cl294)), (8, (.int .i64 x295)), (9, (.int .i64 x151)), (82, (.bool g314))] [(2, ow Al294 cl294 104 fl_TBand l294)] ?_ ?_
    ·cases hg349 : (decide (0 < (l311.length : Int)))
     ·rw [hg349] at hg314
      rw [if_neg (by decide)] at hg314
      have H := hg314
      obtain rfl := Option.some.inj H
      refine Tr.pass rfl rfl rfl rfl rfl (by decide) ?_
      refine Tr.pass rfl rfl rfl rfl rfl (by decide) ?_
      refine Tr.pass rfl rfl rfl rfl rfl (by decide) ?_
      refine Tr.pass rfl rfl rfl rfl rfl (by decide) ?_
      refine Tr.pass rfl rfl rfl rfl rfl (by decide) ?_
      refine Tr.pass rfl rfl rfl rfl rfl (by decide) ?_
      refine Tr.va rfl (fun _ _ h1 h2 => run_pickF (h1.ev rfl) (h1.ev rfl)) ?_
      exact Tr.nil (Tr.fin0 (.cons rfl (.cons rfl (.cons rfl (.cons rfl (.cons rfl (.cons rfl (.cons rfl .nil))))))) (.cons rfl .nil))
     ·rw [hg349] at hg314
      rw [if_pos rfl] at hg314
      have H := hg314
      refine Tr.val (wg rfl rfl rfl) rfl (fun _ _ h1 h2 => run_move (h1.ev rfl)) ?_
      obtain ⟨x315, hx315, H⟩ := bnd H
      obtain ⟨hx3150, hx3151, hx3152⟩ := idx_some hx315
      obtain ⟨u316, hRu316, hoku316, hcu316⟩ := (hl311).el hx3152
      obtain ⟨Au316_0, cu316_0⟩ := u316
      have hoku316_0 := hoku316
      replace hoku316_0 : Sl w.O w.W fl_i64 Au316_0 cu316_0 x315.Xs := hoku316_0
      replace hRu316 : w.R (adB Al311) := Or.inl hRu316
      refine Tr.val (wg rfl rfl rfl) rfl (fun _ _ h1 h2 => run_indexAddr el_65 (h1.ev rfl) hl311.form (h1.ev rfl) hx3150 hx3151) ?_
      refine Tr.val (wg rfl rfl rfl) rfl (fun _ _ h1 h2 => run_fieldAddr fo_104_1 (h1.ev rfl)) ?_
      refine Tr.val (wg rfl rfl rfl) rfl (fun _ _ h1 h2 => run_load1 ag_3 (h1.ev rfl) (CellsAt.drop (rdR hRu316 hcu316 h2) 1) rfl) ?_
      refine Tr.val (wg rfl rfl rfl) rfl (fun _ _ h1 h2 => run_move (h1.ev rfl)) ?_
      refine Tr.val (wg rfl rfl rfl) rfl (fun _ _ h1 h2 => run_leq (h1.ev rfl) (h1.ev rfl)) ?_
      refine Tr.va rfl (fun _ _ h1 h2 => run_pickT (h1.ev rfl) (h1.ev rfl)) ?_
      obtain rfl := Option.some.inj H
      exact Tr.nil (Tr.fin0 (.cons rfl (.cons rfl (.cons rfl (.cons rfl (.cons rfl (.cons rfl (.cons rfl .nil))))))) (.cons rfl .nil))
    ·show Tr _ _ (LF [(0, (.slice Al311 (l311).length cl311)), (1, (.slice Al293 (l293).length cl293)), (2, (.func (.func fid2) #[] cap2.toArray)), (7, (.slice Al294 (l294).length cl294)), (8, (.int .i64 x295)), (9, (.int .i64 x151)), (82, (.bool g314))]) (LE [(2, ow Al294 cl294 104 fl_TBand l294)]) _
     refine Tr.nil (Tr.normThen ?_)
     refine Tr.cond rfl H (fun H => ?_) (fun H => ?_)
     ·refine Tr.skip (Tr.normThen ?_)
      refine Tr.block ?_
      refine Tr.region ?_
      refine Tr.mv rfl rfl ?_
      obtain ⟨l317, hl317, H⟩ := bnd H
      refine Tr.va rfl (fun _ _ h1 h2 => run_cutL el_65 (h1.ev rfl) hl311.form (h1.ev rfl) hl317) ?_
      refine Tr.asg rfl rfl ?_
      refine Tr.nil (Tr.normBlock ?_)
      exact Tr.backThen leF_shape_Merge_L10 (l317, (cutA Al311 (1 : Int).toNat 3 cl311), (cl311 - (1 : Int).toNat)) ⟨H, (Sl.cut hl311 hl317)⟩ (.cons rfl (.cons rfl (.cons rfl (.cons rfl (.cons rfl (.cons rfl .nil)))))) (.cons rfl .nil)
     ·refine Tr.exit (Tr.exitThen (Tr.exitThen (Tr.exitBlock (Tr.normThen ?_))))
      refine Tr.seq ?_
      refine Tr.block ?_
      refine Tr.loop (σ := (List TBand) × (Option Addr) × Nat) (fun m w s => F_shape_Merge_L11 N p2 x151 l294 x295 (F_shape_Merge_L9 N p2 x151 mF_shape_Merge_L9) l311 m s.1 = some r ∧ Sl w.O w.W fl_TBand s.2.1 s.2.2 s.1) (fun s => [(0, (.slice Al311 (l311).length cl311)), (1, (.slice s.2.1 (s.1).length s.2.2)), (2, (.func (.func fid2) #[] cap2.toArray)), (7, (.slice Al294 (l294).length cl294)), (8, (.int .i64 x295)), (9, (.int .i64 x151))]) (fun s => [(2, ow Al294 cl294 104 fl_TBand l294)]) N (l293, Al293, cl293) ⟨H, hl293⟩ (.cons rfl (.cons rfl (.cons rfl (.cons rfl (.cons rfl (.cons rfl .nil)))))) (.cons rfl .nil) (fun _ _ h => noSome (h.1)) ?_
      intro w leF_shape_Merge_L11 mF_shape_Merge_L11 s hs
      obtain ⟨l333, Al333, cl333⟩ := s
      obtain ⟨H, hl333⟩ := hs
      replace H : F_shape_Merge_L11 N p2 x151 l294 x295 (F_shape_Merge_L9 N p2 x151 mF_shape_Merge_L9) l311 (mF_shape_Merge_L11 + 1) l333 = some r := H
      replace hl311 := hl311.le leF_shape_Merge_L11
      replace hf2 := fun w' he => hf2 w' (leF_shape_Merge_L11.ext.trans he)
      replace leB := leB.trans leF_shape_Merge_L11
      replace leF_shape_Merge_L3 := leF_shape_Merge_L3.trans leF_shape_Merge_L11
      replace leF_shape_Merge_L9 := leF_shape_Merge_L9.trans leF_shape_Merge_L11
      replace leF_shape_Merge_L10 := leF_shape_Merge_L10.trans leF_shape_Merge_L11
      replace hl333 : Sl w.O w.W fl_TBand Al333 cl333 l333 := hl333
      rw [F_shape_Merge_L11.eq_2] at H
      show Tr _ _ (LF [(0, (.slice Al311 (l311).length cl311)), (1, (.slice Al333 (l333).length cl333)), (2, (.func (.func fid2) #[] cap2.toArray)), (7, (.slice Al294 (l294).length cl294)), (8, (.int .i64 x295)), (9, (.int .i64 x151))]) (LE [(2, ow Al294 cl294 104 fl_TBand l294)]) _
      refine Tr.seq ?_
      refine Tr.sr ?_
      refine Tr.mv rfl rfl ?_
      refine Tr.va rfl (fun _ _ h1 h2 => run_len un_65 (h1.ev rfl)) ?_
      refine Tr.va rfl (fun _ _ h1 h2 => run_gtr (h1.ev rfl) (h1.ev rfl)) ?_
      refine Tr.mv rfl rfl ?_
      obtain ⟨g336, hg336, H⟩ := bnd H
      refine Tr.mid0 7 [(0, (.slice Al311 (l311).length cl311)), (1, (.slice Al333 (l333).length cl333)), (2, (.func (.func fid2) #[] cap2.toArray)), (7, (.slice Al294 (l294).length cl294)), (8, (.int .i64 x295)), (9, (.int .i64 x151)), (95, (.bool g336))] [(2, ow Al294 cl294 104 fl_TBand l294)] ?_ ?_
      ·cases hg349 : (decide (0 < (l333.length : Int)))
       ·rw [hg349] at hg336
        rw [if_neg (by decide)] at hg336
        have H := hg336
        obtain rfl := Option.some.inj H
        refine Tr.pass rfl rfl rfl rfl rfl (by decide) ?_
        refine Tr.pass rfl rfl rfl rfl rfl (by decide) ?_
        refine Tr.pass rfl rfl rfl rfl rfl (by decide) ?_
        refine Tr.pass rfl rfl rfl rfl rfl (by decide) ?_
        refine Tr.pass rfl rfl rfl rfl rfl (by decide) ?_
        refine Tr.pass rfl rfl rfl rfl rfl (by decide) ?_
        refine Tr.va rfl (fun _ _ h1 h2 => run_pickF (h1.ev rfl) (h1.ev rfl)) ?_
        exact Tr.nil (Tr.fin0 (.cons rfl (.cons rfl (.cons rfl (.cons rfl (.cons rfl (.cons rfl (.cons rfl .nil))))))) (.cons rfl .nil))
       ·rw [hg349] at hg336
        rw [if_pos rfl] at hg336
        have H := hg336
        refine Tr.val (wg rfl rfl rfl) rfl (fun _ _ h1 h2 => run_move (h1.ev rfl)) ?_
        obtain ⟨x337, hx337, H⟩ := bnd H
        obtain ⟨hx3370, hx3371, hx3372⟩ := idx_some hx337
        obtain ⟨u338, hRu338, hoku338, hcu338⟩ := (hl333).el hx3372
        obtain ⟨Au338_0, cu338_0⟩ := u338
        have hoku338_0 := hoku338
        replace hoku338_0 : Sl w.O w.W fl_i64 Au338_0 cu338_0 x337.Xs := hoku338_0
        replace hRu338 : w.R (adB Al333) := Or.inl hRu338
        refine Tr.val (wg rfl rfl rfl) rfl (fun _ _ h1 h2 => run_indexAddr el_65 (h1.ev rfl) hl333.form (h1.ev rfl) hx3370 hx3371) ?_
        refine Tr.val (wg rfl rfl rfl) rfl (fun _ _ h1 h2 => run_fieldAddr fo_104_1 (h1.ev rfl)) ?_
        refine Tr.val (wg rfl rfl rfl) rfl (fun _ _ h1 h2 => run_load1 ag_3 (h1.ev rfl) (CellsAt.drop (rdR hRu338 hcu338 h2) 1) rfl) ?_
        refine Tr.val (wg rfl rfl rfl) rfl (fun _ _ h1 h2 => run_move (h1.ev rfl)) ?_
        refine Tr.val (wg rfl rfl rfl) rfl (fun _ _ h1 h2 => run_leq (h1.ev rfl) (h1.ev rfl)) ?_
        refine Tr.va rfl (fun _ _ h1 h2 => run_pickT (h1.ev rfl) (h1.ev rfl)) ?_
        obtain rfl := Option.some.inj H
        exact Tr.nil (Tr.fin0 (.cons rfl (.cons rfl (.cons rfl (.cons rfl (.cons rfl (.cons rfl (.cons rfl .nil))))))) (.cons rfl .nil))
      ·show Tr _ _ (LF [(0, (.slice Al311 (l311).length cl311)), (1, (.slice Al333 (l333).length cl333)), (2, (.func (.func fid2) #[] cap2.toArray)), (7, (.slice Al294 (l294).length cl294)), (8, (.int .i64 x295)), (9, (.int .i64 x151)), (95, (.bool g336))]) (LE [(2, ow Al294 cl294 104 fl_TBand l294)]) _
       refine Tr.nil (Tr.normThen ?_)
       refine Tr.cond rfl H (fun H => ?_) (fun H => ?_)
       ·refine Tr.skip (Tr.normThen ?_)
        refine Tr.block ?_
        refine Tr.region ?_
        refine Tr.mv rfl rfl ?_
        obtain ⟨l339, hl339, H⟩ := bnd H
        refine Tr.va rfl (fun _ _ h1 h2 => run_cutL el_65 (h1.ev rfl) hl333.form (h1.ev rfl) hl339) ?_
        refine Tr.asg rfl rfl ?_
        refine Tr.nil (Tr.normBlock ?_)
        exact Tr.backThen leF_shape_Merge_L11 (l339, (cutA Al333 (1 : Int).toNat 3 cl333), (cl333 - (1 : Int).toNat)) ⟨H, (Sl.cut hl333 hl339)⟩ (.cons rfl (.cons rfl (.cons rfl (.cons rfl (.cons rfl (.cons rfl .nil)))))) (.cons rfl .nil)
       ·refine Tr.exit (Tr.exitThen (Tr.exitThen (Tr.exitBlock (Tr.normThen ?_))))
        refine Tr.sr ?_
        refine Tr.mv rfl rfl ?_
        refine Tr.mv rfl rfl ?_
        refine Tr.mv rfl rfl ?_
        obtain ⟨y340, hy340, H⟩ := bnd H
        refine Tr.callG [] [] (U := (Option Addr × Nat)) (fun u => (.tuple #[(.slice u.1 (y340.1).length u.2), (.int .i64 y340.2)])) (fun O W u => Sl O W fl_i64 u.1 u.2 y340.1) (fun u => []) rfl pk_nil (fun _ => rfl) (wn rfl) rfl Try.call115 (evl_cons rfl (evl_cons rfl (evl_cons rfl evl_nil))) (fun W hW hp hE => F_shape_Set__at_ok l311 Al311 cl311 (hl311.extO (hW.extS hp)) x295 x151 y340 hy340 hE) ?_
        intro w u le341 hu
        obtain ⟨Ay340_0, cy340_0⟩ := u
        have gy340_0 := hu
        replace hl311 := hl311.le le341
        replace hl333 := hl333.le le341
        replace hf2 := fun w' he => hf2 w' (le341.ext.trans he)
        replace leB := leB.trans le341
        replace leF_shape_Merge_L3 := leF_shape_Merge_L3.trans le341
        replace leF_shape_Merge_L9 := leF_shape_Merge_L9.trans le341
        replace leF_shape_Merge_L10 := leF_shape_Merge_L10.trans le341
        replace leF_shape_Merge_L11 := leF_shape_Merge_L11.trans le341
        have hgy340_0 : Sl w.O w.W fl_i64 Ay340_0 cy340_0 y340.1 := gy340_0 --@phi
        show Tr _ _ (uf _ 102 (.tuple #[(.slice Ay340_0 (y340.1).length cy340_0), (.int .i64 y340.2)])) (_) _
        refine Tr.mv rfl rfl ?_
        refine Tr.va rfl (fun _ _ h1 h2 => run_extract (h1.ev rfl) rfl) ?_
        refine Tr.va rfl (fun _ _ h1 h2 => run_extract (h1.ev rfl) rfl) ?_
        refine Tr.asg rfl rfl ?_
        refine Tr.asg rfl rfl ?_
        refine Tr.nil (Tr.normThen ?_)
        refine Tr.sr ?_
        refine Tr.mv rfl rfl ?_
        refine Tr.mv rfl rfl ?_
        refine Tr.mv rfl rfl ?_
        obtain ⟨y342, hy342, H⟩ := bnd H
        refine Tr.callG [] [] (U := (Option Addr × Nat)) (fun u => (.tuple #[(.slice u.1 (y342.1).length u.2), (.int .i64 y342.2)])) (fun O W u => Sl O W fl_i64 u.1 u.2 y342.1) (fun u => []) rfl pk_nil (fun _ => rfl) (wn rfl) rfl Try.call115 (evl_cons rfl (evl_cons rfl (evl_cons rfl evl_nil))) (fun W hW hp hE => F_shape_Set__at_ok l333 Al333 cl333 (hl333.extO (hW.extS hp)) x295 x151 y342 hy342 hE) ?_
        intro w u le343 hu
        obtain ⟨Ay342_0, cy342_0⟩ := u
        have gy342_0 := hu
        replace hl311 := hl311.le le343
        replace hl333 := hl333.le le343
        replace hf2 := fun w' he => hf2 w' (le343.ext.trans he)
        replace hgy340_0 := hgy340_0.le le343
        replace leB := leB.trans le343
        replace leF_shape_Merge_L3 := leF_shape_Merge_L3.trans le343
        replace leF_shape_Merge_L9 := leF_shape_Merge_L9.trans le343
        replace leF_shape_Merge_L10 := leF_shape_Merge_L10.trans le343
        replace leF_shape_Merge_L11 := leF_shape_Merge_L11.trans le343
        have hgy342_0 : Sl w.O w.W fl_i64 Ay342_0 cy342_0 y342.1 := gy342_0 --@phi
        show Tr _ _ (uf _ 109 (.tuple #[(.slice Ay342_0 (y342.1).length cy342_0), (.int .i64 y342.2)])) (_) _
        refine Tr.mv rfl rfl ?_
        refine Tr.va rfl (fun _ _ h1 h2 => run_extract (h1.ev rfl) rfl) ?_
        refine Tr.va rfl (fun _ _ h1 h2 => run_extract (h1.ev rfl) rfl) ?_
        refine Tr.asg rfl rfl ?_
        refine Tr.asg rfl rfl ?_
        refine Tr.nil (Tr.normThen ?_)
        refine Tr.sr ?_
        refine Tr.mv rfl rfl ?_
        refine Tr.mv rfl rfl ?_
        refine Tr.va rfl (fun _ _ h1 h2 => run_min (h1.ev rfl) (h1.ev rfl) _) ?_
        refine Tr.asg rfl rfl ?_
        refine Tr.nil (Tr.normThen ?_)
        refine Tr.sr ?_
        refine Tr.mv rfl rfl ?_
        refine Tr.mv rfl rfl ?_
        refine Tr.mv rfl rfl ?_
        refine Tr.mv rfl rfl ?_
        refine Tr.mv rfl rfl ?_
        refine Tr.mv rfl rfl ?_
        obtain ⟨y344, hy344, H⟩ := bnd H
        refine Tr.callM [12] [emp] (U := (Option Addr × Nat)) (fun u => (.slice u.1 (y344).length u.2)) (fun u => SlF u.1 (y344).length u.2) (fun u => [ow u.1 u.2 3 fl_i64 y344]) rfl (pk_cons rfl pk_nil) (fun _ => rfl) (wn rfl) rfl Try.call116 (evl_cons rfl (evl_cons rfl (evl_cons rfl evl_nil))) (fun W hW hp hE => F_shape_line_ok N y340.1 Ay340_0 cy340_0 (hgy340_0.rl.ext (hW.extS hp)) y342.1 Ay342_0 cy342_0 (hgy342_0.rl.ext (hW.extS hp)) p2 fid2 cap2 hg2 (fun w' he => hf2 w' ((hW.extS hp).trans he)) y344 hy344 hE) ?_
        intro u hu
        obtain ⟨Ay344_0, cy344_0⟩ := u
        have gy344_0 := hu
        have hgy344_0 : SlF Ay344_0 (y344).length cy344_0 := gy344_0 --@phi
        show Tr _ _ (uf _ 121 (.slice Ay344_0 (y344).length cy344_0)) (up _ 12 (ow Ay344_0 cy344_0 3 fl_i64 y344)) _
        refine Tr.build (vs := [(0, (.int .i64 x295)), (1, (.int .i64 (min y340.2 y342.2))), (2, (.slice Ay344_0 (y344).length cy344_0))]) (cs := [(.int .i64 x295), (.int .i64 (min y340.2 y342.2)), (.slice Ay344_0 (y344).length cy344_0)]) (wn rfl) rfl (evs_cons rfl (evs_cons rfl (evs_cons rfl evs_nil))) (by kernel_rfl) ?_
        refine Tr.freeze 12 rfl fun w le347 hz346 => ?_
        replace hl311 := hl311.le le347
        replace hl333 := hl333.le le347
        replace hf2 := fun w' he => hf2 w' (le347.ext.trans he)
        replace hgy340_0 := hgy340_0.le le347
        replace hgy342_0 := hgy342_0.le le347
        replace leB := leB.trans le347
        replace leF_shape_Merge_L3 := leF_shape_Merge_L3.trans le347
        replace leF_shape_Merge_L9 := leF_shape_Merge_L9.trans le347
        replace leF_shape_Merge_L10 := leF_shape_Merge_L10.trans le347
        replace leF_shape_Merge_L11 := leF_shape_Merge_L11.trans le347
        obtain ⟨y348, hy348, H⟩ := bnd H
        refine Tr.callG [2] [ow Al294 cl294 104 fl_TBand l294] (U := (Option Addr × Nat)) (fun u => (.slice u.1 (y348).length u.2)) (fun O W u => SlF u.1 (y348).length u.2) (fun u => [ow u.1 u.2 104 fl_TBand y348]) rfl (pk_cons rfl pk_nil) (fun _ => rfl) (wn rfl) rfl Try.call76 (evl_cons rfl (evl_cons rfl evl_nil)) (fun W hW hp hE => F_shape_Set__push_ok l294 Al294 cl294 (TBand.mk x295 (min y340.2 y342.2) y344) Ay344_0 cy344_0 (hz346.extO (hW.extS hp)) y348 hy348 hE) ?_
        intro w u le349 hu
        obtain ⟨Ay348_0, cy348_0⟩ := u
        have gy348_0 := hu
        replace hl311 := hl311.le le349
        replace hl333 := hl333.le le349
        replace hf2 := fun w' he => hf2 w' (le349.ext.trans he)
        replace hgy340_0 := hgy340_0.le le349
        replace hgy342_0 := hgy342_0.le le349
        replace hz346 := hz346.le le349
        replace leB := leB.trans le349
        replace leF_shape_Merge_L3 := leF_shape_Merge_L3.trans le349
        replace leF_shape_Merge_L9 := leF_shape_Merge_L9.trans le349
        replace leF_shape_Merge_L10 := leF_shape_Merge_L10.trans le349
        replace leF_shape_Merge_L11 := leF_shape_Merge_L11.trans le349
        have hgy348_0 : SlF Ay348_0 (y348).length cy348_0 := gy348_0 --@phi
        show Tr _ _ (uf _ 123 (.slice Ay348_0 (y348).length cy348_0)) (up _ 2 (ow Ay348_0 cy348_0 104 fl_TBand y348)) _
        refine Tr.asg rfl rfl ?_
        refine Tr.nil (Tr.normThen ?_)
        refine Tr.region ?_
        refine Tr.mv rfl rfl ?_
        refine Tr.asg rfl rfl ?_
        refine Tr.nil (Tr.normBlock ?_)
        exact Tr.backThen leF_shape_Merge_L9 (l311, l333, y348, (min y340.2 y342.2), Al311, cl311, Al333, cl333, Ay348_0, cy348_0) ⟨H, hl311, hl333, hgy348_0⟩ (.cons rfl (.cons rfl (.cons rfl (.cons rfl (.cons rfl (.cons rfl .nil)))))) (.cons rfl .nil)
   ·refine Tr.exit (Tr.exitThen (Tr.exitThen (Tr.exitBlock (Tr.normThen ?_))))
    refine Tr.sr ?_
    refine Tr.mv rfl rfl ?_
    refine Tr.asg rfl rfl ?_
    refine Tr.nil (Tr.normThen ?_)
    refine Tr.ret ?_
    obtain rfl := Option.some.inj H
    exact Tr.out (m := [(.slice Al294 (l294).length cl294)]) [] (res_tmp rfl res_nil) (fun W hW => ⟨w, (Al294, cl294), leB, rfl, hl294, hW.pick (ks := [2]) (by decide) (pk_cons rfl pk_nil)⟩)

theorem F_shape_Set__Less_1_ok {w : Bs} (p0 : Bool) (p1 : Bool) (r : Bool) (H : F_shape_Set__Less_1 p0 p1 = some r) (hE : HF w w.W E0) : Calls Try.prog 92 [(.bool p0), (.bool p1)].toArray w.W fun e W' => e = .returned (.bool r) ∧ HF w W' E0 := by
 unfold F_shape_Set__Less_1 at H
 have leB := Bs.Le.refl w
 refine Tr.enter (n := 10) Try.func92 rfl rfl rfl hE ?_
 refine Tr.sr ?_
 refine Tr.asg rfl rfl ?_
 refine Tr.nil (Tr.normThen ?_)
 refine Tr.sr ?_
 refine Tr.mv rfl rfl ?_
 refine Tr.mv rfl rfl ?_
 refine Tr.mid0 3 [(9, (.bool (p0 && (!p1))))] [] ?_ ?_
 ·cases hg99 : p0
  ·refine Tr.pass rfl rfl rfl rfl rfl (by decide) ?_
   refine Tr.pass rfl rfl rfl rfl rfl (by decide) ?_
   refine Tr.va rfl (fun _ _ h1 h2 => run_pickF (h1.ev rfl) (h1.ev rfl)) ?_
   exact Tr.nil (Tr.fin0 (.cons rfl .nil) .nil)
  ·refine Tr.val (wg rfl rfl rfl) rfl (fun _ _ h1 h2 => run_move (h1.ev rfl)) ?_
   refine Tr.val (wg rfl rfl rfl) rfl (fun _ _ h1 h2 => run_not (h1.ev rfl)) ?_
   refine Tr.va rfl (fun _ _ h1 h2 => run_pickT (h1.ev rfl) (h1.ev rfl)) ?_
   exact Tr.nil (Tr.fin0 (.cons rfl .nil) .nil)
 ·show Tr _ _ (LF [(9, (.bool (p0 && (!p1))))]) (LE []) _
  refine Tr.asg rfl rfl ?_
  refine Tr.nil (Tr.normThen ?_)
  refine Tr.ret ?_
  obtain rfl := Option.some.inj H
  exact Tr.out (m := [(.bool (p0 && (!p1)))]) [] (res_tmp rfl res_nil) (fun W hW => ⟨rfl, hW.low leB⟩)

theorem F_shape_Set__Less_ok (N : Nat) {w : Bs} (p0 : (List TBand)) (Ap0_0 : Option Addr) (cp0_0 : Nat) (hp0_0 : Sl w.O w.W fl_TBand Ap0_0 cp0_0 p0) (p1 : (List TBand)) (Ap1_0 : Option Addr) (cp1_0 : Nat) (hp1_0 : Sl w.O w.W fl_TBand Ap1_0 cp1_0 p1) (r : (List TBand)) (H : F_shape_Set__Less N p0 p1 = some r) (hE : HF w w.W (LEn [emp])) : Calls Try.prog 53 [(.slice Ap0_0 (p0).length cp0_0), (.slice Ap1_0 (p1).length cp1_0)].toArray w.W fun e W' => ∃ (w' : Bs) (u : (Option Addr × Nat)), w.Le w' ∧ e = .returned (.slice u.1 (r).length u.2) ∧ (SlF u.1 (r).length u.2) ∧ HF w' W' (LEn [ow u.1 u.2 104 fl_TBand r]) := by
 unfold F_shape_Set__Less at H
 have leB := Bs.Le.refl w
 refine Tr.enter (n := 8) Try.func53 rfl rfl rfl hE ?_
 refine Tr.sr ?_
 refine Tr.asg rfl rfl ?_
 refine Tr.nilOwn 1 104 fl_TBand ?_
 show Tr _ _ (uf _ 4 (.slice none (([] : List TBand)).length 0)) _ _
 refine Tr.nil (Tr.normThen ?_)
 refine Tr.sr ?_
 refine Tr.mv rfl rfl ?_
 refine Tr.mv rfl rfl ?_
 obtain ⟨y100, hy100, H⟩ := bnd H
 refine Tr.callG [2] [emp] (U := (Option Addr × Nat)) (fun u => (.slice u.1 (y100).length u.2)) (fun O W u => SlF u.1 (y100).length u.2) (fun u => [ow u.1 u.2 104 fl_TBand y100]) rfl (pk_cons rfl pk_nil) (fun _ => rfl) (wn rfl) rfl Try.call78 (evl_cons rfl (evl_cons rfl (evl_cons rfl evl_nil))) (fun W hW hp hE => F_shape_Merge_ok N p0 Ap0_0 cp0_0 (hp0_0.extO (hW.extS hp)) p1 Ap1_0 cp1_0 (hp1_0.extO (hW.extS hp)) (fun z0 z1 => F_shape_Set__Less_1 z0 z1) 92 [] Try.call92 (fun w' he z0 z1 y hy => F_shape_Set__Less_1_ok z0 z1 y hy (HF.start _)) y100 hy100 hE) ?_
 intro w u le101 hu
 obtain ⟨Ay100_0, cy100_0⟩ := u
 have gy100_0 := hu
 replace hp0_0 := hp0_0.le le101
 replace hp1_0 := hp1_0.le le101
 replace leB := leB.trans le101
 have hgy100_0 : SlF Ay100_0 (y100).length cy100_0 := gy100_0 --@phi
 show Tr _ _ (uf _ 7 (.slice Ay100_0 (y100).length cy100_0)) (up _ 2 (ow Ay100_0 cy100_0 104 fl_TBand y100)) _
 refine Tr.asg rfl rfl ?_
 refine Tr.nil (Tr.normThen ?_)
 refine Tr.ret ?_
 obtain rfl := Option.some.inj H
 exact Tr.out (m := [(.slice Ay100_0 (y100).length cy100_0)]) [] (res_tmp rfl res_nil) (fun W hW => ⟨w, (Ay100_0, cy100_0), leB, rfl, hgy100_0, hW.pick (ks := [2]) (by decide) (pk_cons rfl pk_nil)⟩)

theorem F_shape_Set__First_ok {w : Bs} (p0 : (List TBand)) (Ap0_0 : Option Addr) (cp0_0 : Nat) (hp0_0 : Sl w.R w.W fl_TBand Ap0_0 cp0_0 p0) (r : TPoint) (H : F_shape_Set__First p0 = some r) (hE : HF w w.W E0) : Calls Try.prog 54 [(.slice Ap0_0 (p0).length cp0_0)].toArray w.W fun e W' => e = .returned (.agg #[(.int .i64 r.X), (.int .i64 r.Y)]) ∧ HF w W' E0 := by
 unfold F_shape_Set__First at H
 have leB := Bs.Le.refl w
 refine Tr.enter (n := 14) Try.func54 rfl rfl rfl hE ?_
 refine Tr.sr ?_
 refine Tr.alloc 1 (wn rfl) rfl ze_32 fun b100 => ?_
 refine Tr.nil (Tr.normThen ?_)
 refine Tr.seq ?_
 refine Tr.drawTail 10 (by kernel_rfl) (by kernel_rfl) ?_
 refine Tq.mv rfl rfl ?_
 obtain ⟨x101, hx101, H⟩ := bnd H
 obtain ⟨hx1010, hx1011, hx1012⟩ := idx_some hx101
 obtain ⟨u102, hRu102, hoku102, hcu102⟩ := (hp0_0).el hx1012
 obtain ⟨Au102_0, cu102_0⟩ := u102
 have hoku102_0 := hoku102
 replace hoku102_0 : Sl w.R w.W fl_i64 Au102_0 cu102_0 x101.Xs := hoku102_0
 refine Tq.va rfl (fun _ _ h1 h2 => run_indexAddr el_65 (h1.ev rfl) hp0_0.form (h1.ev rfl) hx1010 hx1011) ?_
 refine Tq.va rfl (fun _ _ h1 h2 => run_fieldAddr fo_104_2 (h1.ev rfl)) ?_
 refine Tq.va rfl (fun _ _ h1 h2 => run_load1 ag_97 (h1.ev rfl) (CellsAt.drop (rdR hRu102 hcu102 h2) 2) rfl) ?_
 obtain ⟨x103, hx103, H⟩ := bnd H
 obtain ⟨hx1030, hx1031, hx1032⟩ := idx_some hx103
 refine Tq.va rfl (fun _ _ h1 h2 => run_indexAddr el_97 (h1.ev rfl) hoku102_0.form (h1.ev rfl) hx1030 hx1031) ?_
 refine Tq.va rfl (fun _ _ h1 h2 => run_load1 ag_3 (h1.ev rfl) (rdF ef_i64 hoku102_0 hx1032 h2) rfl) ?_
 refine Tq.mv rfl rfl ?_
 obtain ⟨x104, hx104, H⟩ := bnd H
 obtain ⟨hx1040, hx1041, hx1042⟩ := idx_some hx104
 obtain ⟨u105, hRu105, hoku105, hcu105⟩ := (hp0_0).el hx1042
 obtain ⟨Au105_0, cu105_0⟩ := u105
 have hoku105_0 := hoku105
 replace hoku105_0 : Sl w.R w.W fl_i64 Au105_0 cu105_0 x104.Xs := hoku105_0
 refine Tq.va rfl (fun _ _ h1 h2 => run_indexAddr el_65 (h1.ev rfl) hp0_0.form (h1.ev rfl) hx1040 hx1041) ?_
 refine Tq.va rfl (fun _ _ h1 h2 => run_fieldAddr fo_104_0 (h1.ev rfl)) ?_
 refine Tq.va rfl (fun _ _ h1 h2 => run_load1 ag_3 (h1.ev rfl) (CellsAt.drop (rdR hRu105 hcu105 h2) 0) rfl) ?_
 refine Tq.nil ?_
 refine Tr.build (vs := [(0, (.int .i64 x103)), (1, (.int .i64 x104.Y0))]) (cs := [(.int .i64 x103), (.int .i64 x104.Y0)]) (wn rfl) rfl (evs_cons rfl (evs_cons rfl evs_nil)) (by kernel_rfl) ?_
 refine Tr.store 1 (cs := [(.int .i64 x103), (.int .i64 x104.Y0)]) [(.int .i64 x103), (.int .i64 x104.Y0)] (wn rfl) rfl rfl rfl rfl sz_32 rfl rfl rfl ?_
 refine Tr.nil (Tr.normThen ?_)
 refine Tr.ret ?_
 obtain rfl := Option.some.inj H
 exact Tr.out (m := [(.agg #[(.int .i64 x103), (.int .i64 x104.Y0)])]) [1] (res_cell rfl rfl ag_32 sz_32 res_nil) (fun W hW => ⟨rfl, hW.low leB⟩)

theorem F_shape_Holes_ok (N : Nat) {w : Bs} (p0 : (List TRect)) (Ap0_0 : Option Addr) (cp0_0 : Nat) (hp0_0 : Sl w.R w.W fl_TRect Ap0_0 cp0_0 p0) (r : ((List (List TRect)) × Int)) (H : F_shape_Holes N p0 = some r) (hE : HF w w.W (LEn [emp])) : Calls Try.prog 26 [(.slice Ap0_0 (p0).length cp0_0)].toArray w.W fun e W' => ∃ (w' : Bs) (u : (Option Addr × Nat)), w.Le w' ∧ e = .returned (.tuple #[(.slice u.1 (r.1).length u.2), (.int .i64 r.2)]) ∧ (SlF u.1 (r.1).length u.2) ∧ HF w' W' (LEn [ow u.1 u.2 22 fl_LTRect r.1]) := by
 unfold F_shape_Holes at H
 have leB := Bs.Le.refl w
 refine Tr.enter (n := 50) Try.func26 rfl rfl rfl hE ?_
 refine Tr.sr ?_
 refine Tr.asg rfl rfl ?_
 refine Tr.nilOwn 1 22 fl_LTRect ?_
 show Tr _ _ (uf _ 2 (.slice none (([] : List (List TRect))).length 0)) _ _
 refine Tr.asg rfl rfl ?_
 refine Tr.nil (Tr.normThen ?_)
 refine Tr.seq ?_
 refine Tr.sr ?_
 refine Tr.mv rfl rfl ?_
 obtain ⟨y100, hy100, H⟩ := bnd H
 refine Tr.call0 (r := (.int .i64 y100)) (wn rfl) rfl Try.call18 (evl_cons rfl evl_nil) (fun W hW => F_shape_CheckRegion_ok N p0 Ap0_0 cp0_0 (hp0_0.ext hW.extAll) y100 hy100 (HF.start _)) ?_
 refine Tr.asg rfl rfl ?_
 refine Tr.nil (Tr.normThen ?_)
 refine Tr.sr ?_
 refine Tr.mv rfl rfl ?_
 refine Tr.va rfl (fun _ _ h1 h2 => run_neq (h1.ev rfl) (h1.ev rfl)) ?_
 refine Tr.mv rfl rfl ?_
 refine Tr.mid0 4 [(0, (.slice Ap0_0 (p0).length cp0_0)), (4, (.int .i64 y100)), (19, (.bool ((y100 != 0) || ((p0.length : Int) == 0))))] [(1, ow none 0 22 fl_LTRect ([] : List (List TRect)))] ?_ ?_
 ·cases hg153 : (y100 != 0)
  ·refine Tr.val (wg rfl rfl rfl) rfl (fun _ _ h1 h2 => run_move (h1.ev rfl)) ?_
   refine Tr.val (wg rfl rfl rfl) rfl (fun _ _ h1 h2 => run_len un_22 (h1.ev rfl)) ?_
   refine Tr.val (wg rfl rfl rfl) rfl (fun _ _ h1 h2 => run_eql (h1.ev rfl) (h1.ev rfl)) ?_
   refine Tr.va rfl (fun _ _ h1 h2 => run_pickF (h1.ev rfl) (h1.ev rfl)) ?_
   exact Tr.nil (Tr.fin0 (.cons rfl (.cons rfl (.cons rfl .nil))) (.cons rfl .nil))
  ·refine Tr.pass rfl rfl rfl rfl rfl (by decide) ?_
   refine Tr.pass rfl rfl rfl rfl rfl (by decide) ?_
   refine Tr.pass rfl rfl rfl rfl rfl (by decide) ?_
   refine Tr.va rfl (fun _ _ h1 h2 => run_pickT (h1.ev rfl) (h1.ev rfl)) ?_
   exact Tr.nil (Tr.fin0 (.cons rfl (.cons rfl (.cons rfl .nil))) (.cons rfl .nil))
 ·show Tr _ _ (LF [(0, (.slice Ap0_0 (p0).length cp0_0)), (4, (.int .i64 y100)), (19, (.bool ((y100 != 0) || ((p0.length : Int) == 0))))]) (LE [(1, ow none 0 22 fl_LTRect ([] : List (List TRect)))]) _
  refine Tr.nil (Tr.normThen ?_)
  refine Tr.cond rfl H (fun H => ?_) (fun H => ?_)
  ·refine Tr.sr ?_
   refine Tr.mv rfl rfl ?_
   refine Tr.asg rfl rfl ?_
   refine Tr.nilOwn 2 22 fl_LTRect ?_
   show Tr _ _ (uf _ 2 (.slice none (([] : List (List TRect))).length 0)) _ _
   refine Tr.asg rfl rfl ?_
   refine Tr.nil (Tr.normThen ?_)
   refine Tr.ret (Tr.retThen ?_)
   obtain rfl := Option.some.inj H
   exact Tr.out (m := [(.slice none (([] : List (List TRect))).length 0), (.int .i64 y100)]) [] (res_tmp rfl (res_tmp rfl res_nil)) (fun W hW => ⟨w, (none, 0), leB, rfl, slf_nil, hW.pick (ks := [2]) (by decide) (pk_cons rfl pk_nil)⟩)
  ·refine Tr.skip (Tr.normThen ?_)
   refine Tr.sr ?_
   refine Tr.mv rfl rfl ?_
   obtain ⟨y101, hy101, H⟩ := bnd H
   refine Tr.callG [3] [emp] (U := (Option Addr × Nat)) (fun u => (.slice u.1 (y101).length u.2)) (fun O W u => SlF u.1 (y101).length u.2) (fun u => [ow u.1 u.2 104 fl_TBand y101]) rfl (pk_cons rfl pk_nil) (fun _ => rfl) (wn rfl) rfl Try.call40 (evl_cons rfl evl_nil) (fun W hW hp hE => F_shape_SetOf_ok N p0 Ap0_0 cp0_0 (hp0_0.ext (hW.extS hp)) y101 hy101 hE) ?_
   intro w u le102 hu
   obtain ⟨Ay101_0, cy101_0⟩ := u
   have gy101_0 := hu
   replace hp0_0 := hp0_0.leR le102
   replace leB := leB.trans le102
   have hgy101_0 : SlF Ay101_0 (y101).length cy101_0 := gy101_0 --@phi
   show Tr _ _ (uf _ 22 (.slice Ay101_0 (y101).length cy101_0)) (up _ 3 (ow Ay101_0 cy101_0 104 fl_TBand y101)) _
   refine Tr.asg rfl rfl ?_
   refine Tr.nil (Tr.normThen ?_)
   refine Tr.sr ?_
   refine Tr.mv rfl rfl ?_
   obtain ⟨y103, hy103, H⟩ := bnd H
   refine Tr.call0 (r := (.agg #[(.int .i64 y103.X0), (.int .i64 y103.Y0), (.int .i64 y103.X1), (.int .i64 y103.Y1)])) (wn rfl) rfl Try.call51 (evl_cons rfl evl_nil) (fun W hW => F_shape_Set__Around_ok y101 Ay101_0 cy101_0 (hW.slCall (k := 3) rfl) y103 hy103 (HF.start _)) ?_
   refine Tr.alloc 4 (wn rfl) rfl ze_29 fun b104 => ?_
   refine Tr.store 4 (cs := [(.int .i64 y103.X0), (.int .i64 y103.Y0), (.int .i64 y103.X1), (.int .i64 y103.Y1)]) [(.int .i64 y103.X0), (.int .i64 y103.Y0), (.int .i64 y103.X1), (.int .i64 y103.Y1)] (wn rfl) rfl rfl rfl rfl sz_29 rfl rfl rfl ?_
   refine Tr.nil (Tr.normThen ?_)
   refine Tr.sr ?_
   refine Tr.va rfl (fun _ _ h1 h2 => run_loadN (cs := [(.int .i64 y103.X0), (.int .i64 y103.Y0), (.int .i64 y103.X1), (.int .i64 y103.Y1)]) ag_29 sz_29 (h1.ev rfl) (CellsAt.take (rdb h2 (vs := [(.int .i64 y103.X0), (.int .i64 y103.Y0), (.int .i64 y103.X1), (.int .i64 y103.Y1)]) (k := 4) rfl 0) 4) rfl) ?_
   refine Tr.buildSlice 5 (e := 29) (vs := [(0, (.agg #[(.int .i64 y103.X0), (.int .i64 y103.Y0), (.int .i64 y103.X1), (.int .i64 y103.Y1)]))]) (cs := [(.int .i64 y103.X0), (.int .i64 y103.Y0), (.int .i64 y103.X1), (.int .i64 y103.Y1)]) (wn rfl) rfl (evs_cons rfl evs_nil) (by kernel_rfl) fun b105 => ?_
   refine Tr.own 5 fl_TRect [y103] (css := [[(.int .i64 y103.X0), (.int .i64 y103.Y0), (.int .i64 y103.X1), (.int .i64 y103.Y1)]]) rfl (.cons ⟨(), trivial, rfl⟩ .nil) rfl (by decide) (lit_max rfl) ?_
   obtain ⟨y106, hy106, H⟩ := bnd H
   refine Tr.callG [6] [emp] (U := (Option Addr × Nat)) (fun u => (.slice u.1 (y106).length u.2)) (fun O W u => SlF u.1 (y106).length u.2) (fun u => [ow u.1 u.2 104 fl_TBand y106]) rfl (pk_cons rfl pk_nil) (fun _ => rfl) (wn rfl) rfl Try.call40 (evl_cons rfl evl_nil) (fun W hW hp hE => F_shape_SetOf_ok N [y103] (some ⟨b105, 0, none⟩) 1 (hW.slS (k := 5) rfl hp rfl) y106 hy106 hE) ?_
   intro w u le107 hu
   obtain ⟨Ay106_0, cy106_0⟩ := u
   have gy106_0 := hu
   replace hp0_0 := hp0_0.leR le107
   replace leB := leB.trans le107
   have hgy106_0 : SlF Ay106_0 (y106).length cy106_0 := gy106_0 --@phi
   show Tr _ _ (uf _ 27 (.slice Ay106_0 (y106).length cy106_0)) (up _ 6 (ow Ay106_0 cy106_0 104 fl_TBand y106)) _
   obtain ⟨y108, hy108, H⟩ := bnd H
   refine Tr.callG [7] [emp] (U := (Option Addr × Nat)) (fun u => (.slice u.1 (y108).length u.2)) (fun O W u => SlF u.1 (y108).length u.2) (fun u => [ow u.1 u.2 104 fl_TBand y108]) rfl (pk_cons rfl pk_nil) (fun _ => rfl) (wn rfl) rfl Try.call52 (evl_cons rfl (evl_cons rfl evl_nil)) (fun W hW hp hE => F_shape_Set__Wide_ok N y106 Ay106_0 cy106_0 (hW.slS (k := 6) rfl hp rfl) 1 y108 hy108 hE) ?_
   intro w u le109 hu
   obtain ⟨Ay108_0, cy108_0⟩ := u
   have gy108_0 := hu
   replace hp0_0 := hp0_0.leR le109
   replace leB := leB.trans le109
   have hgy108_0 : SlF Ay108_0 (y108).length cy108_0 := gy108_0 --@phi
   show Tr _ _ (uf _ 28 (.slice Ay108_0 (y108).length cy108_0)) (up _ 7 (ow Ay108_0 cy108_0 104 fl_TBand y108)) _
   refine Tr.asg rfl rfl ?_
   refine Tr.nil (Tr.normThen ?_)
   refine Tr.sr ?_
   refine Tr.asg rfl rfl ?_
   refine Tr.nilOwn 8 22 fl_LTRect ?_
   show Tr _ _ (uf _ 8 (.slice none (([] : List (List TRect))).length 0)) _ _
   refine Tr.nil (Tr.normThen ?_)
   refine Tr.seq ?_
   refine Tr.sr ?_
   refine Tr.mv rfl rfl ?_
   refine Tr.mv rfl rfl ?_
   refine Tr.freeze 7 rfl fun w le111 hz110 => ?_
   replace hp0_0 := hp0_0.leR le111
   replace leB := leB.trans le111
   refine Tr.freeze 3 rfl fun w le113 hz112 => ?_
   replace hp0_0 := hp0_0.leR le113
   replace hz110 := hz110.le le113
   replace leB := leB.trans le113
   obtain ⟨y114, hy114, H⟩ := bnd H
   refine Tr.callG [9] [emp] (U := (Option Addr × Nat)) (fun u => (.slice u.1 (y114).length u.2)) (fun O W u => SlF u.1 (y114).length u.2) (fun u => [ow u.1 u.2 104 fl_TBand y114]) rfl (pk_cons rfl pk_nil) (fun _ => rfl) (wn rfl) rfl Try.call53 (evl_cons rfl (evl_cons rfl evl_nil)) (fun W hW hp hE => F_shape_Set__Less_ok N y108 Ay108_0 cy108_0 (hz110.extO (hW.extS hp)) y101 Ay101_0 cy101_0 (hz112.extO (hW.extS hp)) y114 hy114 hE) ?_
   intro w u le115 hu
   obtain ⟨Ay114_0, cy114_0⟩ := u
   have gy114_0 := hu
   replace hp0_0 := hp0_0.leR le115
   replace hz112 := hz112.le le115
   replace hz110 := hz110.le le115
   replace leB := leB.trans le115
   have hgy114_0 : SlF Ay114_0 (y114).length cy114_0 := gy114_0 --@phi
   show Tr _ _ (uf _ 31 (.slice Ay114_0 (y114).length cy114_0)) (up _ 9 (ow Ay114_0 cy114_0 104 fl_TBand y114)) _
   obtain ⟨y116, hy116, H⟩ := bnd H
   refine Tr.callG [10] [emp] (U := (Option Addr × Nat)) (fun u => (.slice u.1 (y116).length u.2)) (fun O W u => SlF u.1 (y116).length u.2) (fun u => [ow u.1 u.2 65 fl_LTBand y116]) rfl (pk_cons rfl pk_nil) (fun _ => rfl) (wn rfl) rfl Try.call47 (evl_cons rfl evl_nil) (fun W hW hp hE => F_shape_Set__Parts_ok N y114 Ay114_0 cy114_0 (hW.slS (k := 9) rfl hp rfl) y116 hy116 hE) ?_
   intro w u le117 hu
   obtain ⟨Ay116_0, cy116_0⟩ := u
   have gy116_0 := hu
   replace hp0_0 := hp0_0.leR le117
   replace hz112 := hz112.le le117
   replace hz110 := hz110.le le117
   replace leB := leB.trans le117
   have hgy116_0 : SlF Ay116_0 (y116).length cy116_0 := gy116_0 --@phi
   show Tr _ _ (uf _ 32 (.slice Ay116_0 (y116).length cy116_0)) (up _ 10 (ow Ay116_0 cy116_0 65 fl_LTBand y116)) _
   refine Tr.va rfl (fun _ _ h1 h2 => run_len un_75 (h1.ev rfl)) ?_
   refine Tr.mv rfl rfl ?_
   refine Tr.nil (Tr.normThen ?_)
   refine Tr.block ?_
   refine Tr.loop (σ := (List (List TBand)) × Nat × (List (List TRect)) × (Option Addr) × Nat) (fun m w s => m = s.1.length + 1 ∧ s.1 = List.drop s.2.1 y116 ∧ s.2.1 ≤ y116.length ∧ F_shape_Holes_L1 N y108 s.1 s.2.1 s.2.2.1 = some r ∧ SlF s.2.2.2.1 (s.2.2.1).length s.2.2.2.2) (fun s => [(7, (.slice Ay108_0 (y108).length cy108_0)), (8, (.slice s.2.2.2.1 (s.2.2.1).length s.2.2.2.2)), (32, (.slice Ay116_0 (y116).length cy116_0)), (33, (.int .i64 (y116.length : Int))), (34, (.int .i64 (s.2.1 : Int)))]) (fun s => [(8, ow s.2.2.2.1 s.2.2.2.2 22 fl_LTRect s.2.2.1), (10, ow Ay116_0 cy116_0 65 fl_LTBand y116)]) (y116.length + 1) (y116, 0, ([] : List (List TRect)), none, 0) ⟨rfl, rfl, Nat.zero_le _, H, slf_nil⟩ (.cons rfl (.cons rfl (.cons rfl (.cons rfl (.cons rfl .nil))))) (.cons rfl (.cons rfl .nil)) (fun _ _ h => absurd h.1 (by simp)) ?_
   intro w leF_shape_Holes_L1 m s hs
   obtain ⟨restF_shape_Holes_L1, iF_shape_Holes_L1, l144, Al144, cl144⟩ := s
   obtain ⟨hmF_shape_Holes_L1, hdF_shape_Holes_L1, hiF_shape_Holes_L1, H, hl144⟩ := hs
   replace hdF_shape_Holes_L1 : restF_shape_Holes_L1 = List.drop iF_shape_Holes_L1 y116 := hdF_shape_Holes_L1
   replace H : F_shape_Holes_L1 N y108 restF_shape_Holes_L1 iF_shape_Holes_L1 l144 = some r := H
   replace hmF_shape_Holes_L1 : m + 1 = restF_shape_Holes_L1.length + 1 := hmF_shape_Holes_L1
   replace hz110 := hz110.le leF_shape_Holes_L1
   replace leB := leB.trans leF_shape_Holes_L1
   replace hl144 : SlF Al144 (l144).length cl144 := hl144
   obtain rfl : m = restF_shape_Holes_L1.length := by omega
   clear hmF_shape_Holes_L1
   show Tr _ _ (LF [(7, (.slice Ay108_0 (y108).length cy108_0)), (8, (.slice Al144 (l144).length cl144)), (32, (.slice Ay116_0 (y116).length cy116_0)), (33, (.int .i64 (y116.length : Int))), (34, (.int .i64 (iF_shape_Holes_L1 : Int)))]) (LE [(8, ow Al144 cl144 22 fl_LTRect l144), (10, ow Ay116_0 cy116_0 65 fl_LTBand y116)]) _
   cases restF_shape_Holes_L1 with
   | nil =>
    rw [F_shape_Holes_L1.eq_1] at H
    refine Tr.sr ?_
    refine Tr.va rfl (fun _ _ h1 h2 => run_lss (h1.ev rfl) (h1.ev rfl)) ?_
    refine Tr.nil (Tr.normThen ?_)
    refine Tr.seq ?_
    refine Tr.condF rfl (range_nil hdF_shape_Holes_L1) ?_
    refine Tr.exit (Tr.exitThen (Tr.exitThen (Tr.exitBlock (Tr.normThen ?_))))
    refine Tr.sr ?_
    refine Tr.mv rfl rfl ?_
    refine Tr.asg rfl rfl ?_
    refine Tr.asg rfl rfl ?_
    refine Tr.nil (Tr.normThen ?_)
    refine Tr.ret ?_
    obtain rfl := Option.some.inj H
    exact Tr.out (m := [(.slice Al144 (l144).length cl144), (.int .i64 0)]) [] (res_tmp rfl (res_tmp rfl res_nil)) (fun W hW => ⟨w, (Al144, cl144), leB, rfl, hl144, hW.pick (ks := [8]) (by decide) (pk_cons rfl pk_nil)⟩)
   | cons xF_shape_Holes_L1 restF_shape_Holes_L1 =>
    rw [F_shape_Holes_L1.eq_2] at H
    refine Tr.sr ?_
    refine Tr.va rfl (fun _ _ h1 h2 => run_lss (h1.ev rfl) (h1.ev rfl)) ?_
    refine Tr.nil (Tr.normThen ?_)
    refine Tr.seq ?_
    refine Tr.condT rfl (range_on hdF_shape_Holes_L1) ?_
    refine Tr.skip (Tr.normThen ?_)
    refine Tr.seq ?_
    refine Tr.block ?_
    refine Tr.sr ?_
    refine Tr.va rfl (fun _ _ h1 h2 => run_indexAddr el_75 (h1.ev rfl) hgy116_0 (h1.ev rfl) (Int.natCast_nonneg _) (range_lt hdF_shape_Holes_L1)) ?_
    refine Tr.valE (U := (fl_LTBand).Ad) (fun u => (fl_LTBand).ok w.O w.W u xF_shape_Holes_L1) (fun u => (.slice u.1 (xF_shape_Holes_L1).length u.2)) (wn rfl) rfl (ldN (κ := 10) (t := fl_LTBand) (V := fun u => (.slice u.1 (xF_shape_Holes_L1).length u.2)) rfl (range_at hdF_shape_Holes_L1) (fun _ _ u h1 hc => run_load1 ag_65 (h1.ev rfl) hc rfl)) ?_
    intro u145 hoku145
    obtain ⟨Au145_0, cu145_0⟩ := u145
    have hoku145_0 := hoku145
    replace hoku145_0 : Sl w.O w.W fl_TBand Au145_0 cu145_0 xF_shape_Holes_L1 := hoku145_0
    show Tr _ _ (uf _ 37 (.slice Au145_0 (xF_shape_Holes_L1).length cu145_0)) _ _
    refine Tr.asg rfl rfl ?_
    refine Tr.nil (Tr.normThen ?_)
    refine Tr.sr ?_
    refine Tr.mv rfl rfl ?_
    obtain ⟨y146, hy146, H⟩ := bnd H
    refine Tr.call0 (r := (.agg #[(.int .i64 y146.X), (.int .i64 y146.Y)])) (wn rfl) rfl Try.call54 (evl_cons rfl evl_nil) (fun W hW => F_shape_Set__First_ok xF_shape_Holes_L1 Au145_0 cu145_0 (hoku145_0.rl.ext hW.extAll) y146 hy146 (HF.start _)) ?_
    refine Tr.mv rfl rfl ?_
    obtain ⟨y147, hy147, H⟩ := bnd H
    refine Tr.call0 (r := (.agg #[(.int .i64 y147.X), (.int .i64 y147.Y)])) (wn rfl) rfl Try.call54 (evl_cons rfl evl_nil) (fun W hW => F_shape_Set__First_ok y108 Ay108_0 cy108_0 (hz110.rl.ext hW.extAll) y147 hy147 (HF.start _)) ?_
    refine Tr.va rfl (fun _ _ h1 h2 => run_neq_32 y146 y147 (h1.ev rfl) (h1.ev rfl)) ?_
    refine Tr.nil (Tr.normThen ?_)
    refine Tr.cond rfl H (fun H => ?_) (fun H => ?_)
    ·refine Tr.region ?_
     refine Tr.mv rfl rfl ?_
     refine Tr.mv rfl rfl ?_
     obtain ⟨y148, hy148, H⟩ := bnd H
     refine Tr.callM [15] [emp] (U := (Option Addr × Nat)) (fun u => (.slice u.1 (y148).length u.2)) (fun u => SlF u.1 (y148).length u.2) (fun u => [ow u.1 u.2 29 fl_TRect y148]) rfl (pk_cons rfl pk_nil) (fun _ => rfl) (wn rfl) rfl Try.call41 (evl_cons rfl evl_nil) (fun W hW hp hE => F_shape_Set__Rects_ok N xF_shape_Holes_L1 Au145_0 cu145_0 (hoku145_0.rl.ext (hW.extS hp)) y148 hy148 hE) ?_
     intro u hu
     obtain ⟨Ay148_0, cy148_0⟩ := u
     have gy148_0 := hu
     have hgy148_0 : SlF Ay148_0 (y148).length cy148_0 := gy148_0 --@phi
     show Tr _ _ (uf _ 45 (.slice Ay148_0 (y148).length cy148_0)) (up _ 15 (ow Ay148_0 cy148_0 29 fl_TRect y148)) _
     refine Tr.freeze 15 rfl fun w le151 hz150 => ?_
     replace hz110 := hz110.le le151
     replace hoku145_0 := hoku145_0.le le151
     replace leB := leB.trans le151
     replace leF_shape_Holes_L1 := leF_shape_Holes_L1.trans le151
     refine Tr.buildSlice 16 (e := 22) (vs := [(0, (.slice Ay148_0 (y148).length cy148_0))]) (cs := [(.slice Ay148_0 (y148).length cy148_0)]) (wn rfl) rfl (evs_cons rfl evs_nil) (by kernel_rfl) fun b152 => ?_
     obtain ⟨l153, hl153, H⟩ := bnd H
     refine Tr.append 8 (t := fl_LTRect) (l := l144) (l2 := [y148]) (wn rfl) rfl rfl rfl rfl (fun W hW => ⟨[[(.slice Ay148_0 (y148).length cy148_0)]], (.cons ⟨(Ay148_0, cy148_0), hz150, rfl⟩ .nil), rdb hW (vs := [(.slice Ay148_0 (y148).length cy148_0)]) (k := 16) rfl 0⟩) un_40 sz_22 zl_22 (by decide) by_22 rfl hl153 fun Al153 cl153 hAl153 => ?_
     refine Tr.asg rfl rfl ?_
     refine Tr.nil (Tr.normBlock (Tr.normThen ?_))
     refine Tr.region ?_
     refine Tr.va rfl (fun _ _ h1 h2 => run_add (h1.ev rfl) (h1.ev rfl)) ?_
     refine Tr.mv rfl rfl ?_
     refine Tr.nil ?_
     exact Tr.backThen leF_shape_Holes_L1 (restF_shape_Holes_L1, (iF_shape_Holes_L1 + 1), l153, Al153, cl153) ⟨rfl, range_tl hdF_shape_Holes_L1, range_lt hdF_shape_Holes_L1, H, hAl153⟩ (.cons rfl (.cons rfl (.cons rfl (.cons rfl (.cons (congrArg (fun z => some (Value.int .i64 z)) (range_up hdF_shape_Holes_L1 hgy116_0)) .nil))))) (.cons rfl (.cons rfl .nil))
    ·refine Tr.skip (Tr.normBlock (Tr.normThen ?_))
     refine Tr.region ?_
     refine Tr.va rfl (fun _ _ h1 h2 => run_add (h1.ev rfl) (h1.ev rfl)) ?_
     refine Tr.mv rfl rfl ?_
     refine Tr.nil ?_
     exact Tr.backThen leF_shape_Holes_L1 (restF_shape_Holes_L1, (iF_shape_Holes_L1 + 1), l144, Al144, cl144) ⟨rfl, range_tl hdF_shape_Holes_L1, range_lt hdF_shape_Holes_L1, H, hl144⟩ (.cons rfl (.cons rfl (.cons rfl (.cons rfl (.cons (congrArg (fun z => some (Value.int .i64 z)) (range_up hdF_shape_Holes_L1 hgy116_0)) .nil))))) (.cons rfl (.cons rfl .nil))

theorem F_etchhouseref1_BoundsOf_ok (N : Nat) {w : Bs} (p0 : (List TRect)) (Ap0_0 : Option Addr) (cp0_0 : Nat) (hp0_0 : Sl w.R w.W fl_TRect Ap0_0 cp0_0 p0) (r : TRect) (H : F_etchhouseref1_BoundsOf N p0 = some r) (hE : HF w w.W E0) : Calls Try.prog 94 [(.slice Ap0_0 (p0).length cp0_0)].toArray w.W fun e W' => e = .returned (.agg #[(.int .i64 r.X0), (.int .i64 r.Y0), (.int .i64 r.X1), (.int .i64 r.Y1)]) ∧ HF w W' E0 := by
 unfold F_etchhouseref1_BoundsOf at H
 have leB := Bs.Le.refl w
 refine Tr.enter (n := 51) Try.func94 rfl rfl rfl hE ?_
 refine Tr.sr ?_
 refine Tr.alloc 1 (wn rfl) rfl ze_29 fun b100 => ?_
 refine Tr.nil (Tr.normThen ?_)
 refine Tr.sr ?_
 refine Tr.mv rfl rfl ?_
 obtain ⟨x101, hx101, H⟩ := bnd H
 obtain ⟨hx1010, hx1011, hx1012⟩ := idx_some hx101
 refine Tr.va rfl (fun _ _ h1 h2 => run_indexAddr el_22 (h1.ev rfl) hp0_0.form (h1.ev rfl) hx1010 hx1011) ?_
 refine Tr.va rfl (fun _ _ h1 h2 => run_loadN (cs := [(.int .i64 x101.X0), (.int .i64 x101.Y0), (.int .i64 x101.X1), (.int .i64 x101.Y1)]) ag_29 sz_29 (h1.ev rfl) (CellsAt.take (rdF ef_TRect hp0_0 hx1012 h2) 4) rfl) ?_
 refine Tr.alloc 2 (wn rfl) rfl ze_29 fun b102 => ?_
 refine Tr.store 2 (cs := [(.int .i64 x101.X0), (.int .i64 x101.Y0), (.int .i64 x101.X1), (.int .i64 x101.Y1)]) [(.int .i64 x101.X0), (.int .i64 x101.Y0), (.int .i64 x101.X1), (.int .i64 x101.Y1)] (wn rfl) rfl rfl rfl rfl sz_29 rfl rfl rfl ?_
 refine Tr.nil (Tr.normThen ?_)
 refine Tr.seq ?_
 refine Tr.sr ?_
 refine Tr.asg rfl rfl ?_
 refine Tr.nil (Tr.normThen ?_)
 refine Tr.block ?_
 refine Tr.loop (σ := Int × Int × Int × Int × Int) (fun m w s => F_etchhouseref1_BoundsOf_L1 p0 m s.1 s.2.1 s.2.2.1 s.2.2.2.1 s.2.2.2.2 = some r) (fun s => [(0, (.slice Ap0_0 (p0).length cp0_0)), (2, (.pointer (some ⟨b100, 0, none⟩))), (3, (.pointer (some ⟨b102, 0, none⟩))), (4, (.int .i64 s.2.2.2.2))]) (fun s => [(1, bx b100 #[(.int .i64 0), (.int .i64 0), (.int .i64 0), (.int .i64 0)] 29), (2, bx b102 #[(.int .i64 s.1), (.int .i64 s.2.1), (.int .i64 s.2.2.1), (.int .i64 s.2.2.2.1)] 29)]) N (x101.X0, x101.Y0, x101.X1, x101.Y1, 0) H (.cons rfl (.cons rfl (.cons rfl (.cons rfl .nil)))) (.cons rfl (.cons rfl .nil)) (fun _ _ h => noSome (h)) ?_
 intro w leF_etchhouseref1_BoundsOf_L1 mF_etchhouseref1_BoundsOf_L1 s hs
 obtain ⟨x128, x129, x130, x131, x132⟩ := s
 have H := hs
 replace H : F_etchhouseref1_BoundsOf_L1 p0 (mF_etchhouseref1_BoundsOf_L1 + 1) x128 x129 x130 x131 x132 = some r := H
 replace hp0_0 := hp0_0.leR leF_etchhouseref1_BoundsOf_L1
 replace leB := leB.trans leF_etchhouseref1_BoundsOf_L1
 rw [F_etchhouseref1_BoundsOf_L1.eq_2] at H
 show Tr _ _ (LF [(0, (.slice Ap0_0 (p0).length cp0_0)), (2, (.pointer (some ⟨b100, 0, none⟩))), (3, (.pointer (some ⟨b102, 0, none⟩))), (4, (.int .i64 x132))]) (LE [(1, bx b100 #[(.int .i64 0), (.int .i64 0), (.int .i64 0), (.int .i64 0)] 29), (2, bx b102 #[(.int .i64 x128), (.int .i64 x129), (.int .i64 x130), (.int .i64 x131)] 29)]) _
 refine Tr.seq ?_
 refine Tr.sr ?_
 refine Tr.mv rfl rfl ?_
 refine Tr.mv rfl rfl ?_
 refine Tr.va rfl (fun _ _ h1 h2 => run_len un_22 (h1.ev rfl)) ?_
 refine Tr.va rfl (fun _ _ h1 h2 => run_lss (h1.ev rfl) (h1.ev rfl)) ?_
 refine Tr.nil (Tr.normThen ?_)
 refine Tr.cond rfl H (fun H => ?_) (fun H => ?_)
 ·refine Tr.skip (Tr.normThen ?_)
  refine Tr.seq ?_
  refine Tr.block ?_
  refine Tr.drawC 38 [(33, fun x => x = b102), (35, fun x => x = b102), (37, fun x => x = b102)] [] (by kernel_rfl) (by kernel_rfl) fun sz133 hlosz133 hEsz133 => ?_
  refine Dr.quiet 0 [(14, (.pointer (some ⟨b102, 0, none⟩)))] (by kernel_rfl) rfl rfl (by kernel_rfl) ?_ rfl rfl ?_
  ·refine Tq.va rfl (fun _ _ h1 h2 => run_fieldAddr fo_29_0 (h1.ev rfl)) ?_
   exact Tq.fin (.cons rfl .nil)
  refine Dr.quiet 1 [(15, (.int .i64 x128))] (by kernel_rfl) rfl rfl (by kernel_rfl) ?_ rfl rfl ?_
  ·refine Tq.va rfl (fun _ _ h1 h2 => run_load1 ag_3 (h1.ev rfl) (rdb h2 (vs := [(.int .i64 x128), (.int .i64 x129), (.int .i64 x130), (.int .i64 x131)]) (k := 2) rfl 0) rfl) ?_
   exact Tq.fin (.cons rfl .nil)
  refine Dr.quiet 2 [(16, (.slice Ap0_0 (p0).length cp0_0))] (by kernel_rfl) rfl rfl (by kernel_rfl) ?_ rfl rfl ?_
  ·refine Tq.mv rfl rfl ?_
   exact Tq.fin (.cons rfl .nil)
  refine Dr.quiet 3 [(17, (.int .i64 x132))] (by kernel_rfl) rfl rfl (by kernel_rfl) ?_ rfl rfl ?_
  ·refine Tq.mv rfl rfl ?_
   exact Tq.fin (.cons rfl .nil)
  obtain ⟨x134, hx134, H⟩ := bnd H
  obtain ⟨hx1340, hx1341, hx1342⟩ := idx_some hx134
  refine Dr.quiet 4 [(18, (.pointer (some ⟨adB Ap0_0, adO Ap0_0 + (x132).toNat * 4, none⟩)))] (by kernel_rfl) rfl rfl (by kernel_rfl) ?_ rfl rfl ?_
  ·refine Tq.va rfl (fun _ _ h1 h2 => run_indexAddr el_22 (h1.ev rfl) hp0_0.form (h1.ev rfl) hx1340 hx1341) ?_
   exact Tq.fin (.cons rfl .nil)
  refine Dr.quiet 5 [(19, (.pointer (some ⟨adB Ap0_0, adO Ap0_0 + (x132).toNat * 4 + 0, none⟩)))] (by kernel_rfl) rfl rfl (by kernel_rfl) ?_ rfl rfl ?_
  ·refine Tq.va rfl (fun _ _ h1 h2 => run_fieldAddr fo_29_0 (h1.ev rfl)) ?_
   exact Tq.fin (.cons rfl .nil)
  refine Dr.quiet 6 [(20, (.int .i64 x134.X0))] (by kernel_rfl) rfl rfl (by kernel_rfl) ?_ rfl rfl ?_
  ·refine Tq.va rfl (fun _ _ h1 h2 => run_load1 ag_3 (h1.ev rfl) (CellsAt.drop (rdF ef_TRect hp0_0 hx1342 h2) 0) rfl) ?_
   exact Tq.fin (.cons rfl .nil)
  refine Dr.quiet 7 [(21, (.int .i64 (min x128 x134.X0)))] (by kernel_rfl) rfl rfl (by kernel_rfl) ?_ rfl rfl ?_
  ·refine Tq.va rfl (fun _ _ h1 h2 => run_min (h1.ev rfl) (h1.ev rfl) _) ?_
   exact Tq.fin (.cons rfl .nil)
  refine Dr.quiet 8 [(22, (.pointer (some ⟨b102, 1, none⟩)))] (by kernel_rfl) rfl rfl (by kernel_rfl) ?_ rfl rfl ?_
  ·refine Tq.va rfl (fun _ _ h1 h2 => run_fieldAddr fo_29_1 (h1.ev rfl)) ?_
   exact Tq.fin (.cons rfl .nil)
  refine Dr.quiet 9 [(23, (.int .i64 x129))] (by kernel_rfl) rfl rfl (by kernel_rfl) ?_ rfl rfl ?_
  ·refine Tq.va rfl (fun _ _ h1 h2 => run_load1 ag_3 (h1.ev rfl) (rdb h2 (vs := [(.int .i64 x128), (.int .i64 x129), (.int .i64 x130), (.int .i64 x131)]) (k := 2) rfl 1) rfl) ?_
   exact Tq.fin (.cons rfl .nil)
  refine Dr.quietP 10 (by kernel_rfl) rfl (wn rfl) rfl (by kernel_rfl) (fun _ _ h1 => run_move (h1.ev rfl)) rfl ?_
  refine Dr.quietP 11 (by kernel_rfl) rfl (wn rfl) rfl (by kernel_rfl) (fun _ _ h1 => run_move (h1.ev rfl)) rfl ?_
  obtain ⟨x135, hx135, H⟩ := bnd H
  obtain ⟨hx1350, hx1351, hx1352⟩ := idx_some hx135
  refine Dr.quietP 12 (by kernel_rfl) rfl (wn rfl) rfl (by kernel_rfl) (fun _ _ h1 => run_indexAddr el_22 (h1.ev rfl) hp0_0.form (h1.ev rfl) hx1350 hx1351) rfl ?_
  refine Dr.quietP 13 (by kernel_rfl) rfl (wn rfl) rfl (by kernel_rfl) (fun _ _ h1 => run_fieldAddr fo_29_1 (h1.ev rfl)) rfl ?_
  refine Dr.quietZ 14 [(28, (.int .i64 x135.Y0))] [33] false (by kernel_rfl) rfl rfl (by kernel_rfl) (fun W W' h2 hsW hk => HF.keepZ (le := []) (ks := [(2, fun x => x = b102)]) (s0 := sz133) false h2 hk (fun h => absurd h (by decide)) .nil (fun b hb => hb.elim (fun ⟨p, hp, hf, hb⟩ => by simp only [List.mem_cons, List.not_mem_nil, or_false] at hp; rcases hp with rfl | rfl | rfl; exact .inl ⟨_, List.mem_cons_self, hb⟩; exact absurd hf (by simp); exact absurd hf (by simp)) (fun hb => absurd hb.1 (by decide))) (List.forall_mem_cons.2 ⟨fun b hb => hb, (fun _ h => nomatch h)⟩) rfl) ?_ rfl rfl ?_
  ·refine Tq.va rfl (fun _ _ h1 h2 => run_load1 ag_3 (h1.ev rfl) (CellsAt.drop (rdF ef_TRect hp0_0 hx1352 h2) 1) rfl) ?_
   exact Tq.fin (.cons rfl .nil)
  refine Dr.quietP 15 (by kernel_rfl) rfl (wn rfl) rfl (by kernel_rfl) (fun _ _ h1 => run_min (h1.ev rfl) (h1.ev rfl) _) rfl ?_
  refine Dr.quiet 16 [(30, (.pointer (some ⟨b102, 2, none⟩)))] (by kernel_rfl) rfl rfl (by kernel_rfl) ?_ rfl rfl ?_
  ·refine Tq.va rfl (fun _ _ h1 h2 => run_fieldAddr fo_29_2 (h1.ev rfl)) ?_
   exact Tq.fin (.cons rfl .nil)
  refine Dr.quiet 17 [(31, (.int .i64 x130))] (by kernel_rfl) rfl rfl (by kernel_rfl) ?_ rfl rfl ?_
  ·refine Tq.va rfl (fun _ _ h1 h2 => run_load1 ag_3 (h1.ev rfl) (rdb h2 (vs := [(.int .i64 x128), (.int .i64 x129), (.int .i64 x130), (.int .i64 x131)]) (k := 2) rfl 2) rfl) ?_
   exact Tq.fin (.cons rfl .nil)
  refine Dr.quietP 18 (by kernel_rfl) rfl (wn rfl) rfl (by kernel_rfl) (fun _ _ h1 => run_move (h1.ev rfl)) rfl ?_
  refine Dr.quietP 19 (by kernel_rfl) rfl (wn rfl) rfl (by kernel_rfl) (fun _ _ h1 => run_move (h1.ev rfl)) rfl ?_
  obtain ⟨x136, hx136, H⟩ := bnd H
  obtain ⟨hx1360, hx1361, hx1362⟩ := idx_some hx136
  refine Dr.quietP 20 (by kernel_rfl) rfl (wn rfl) rfl (by kernel_rfl) (fun _ _ h1 => run_indexAddr el_22 (h1.ev rfl) hp0_0.form (h1.ev rfl) hx1360 hx1361) rfl ?_
  refine Dr.quietP 21 (by kernel_rfl) rfl (wn rfl) rfl (by kernel_rfl) (fun _ _ h1 => run_fieldAddr fo_29_2 (h1.ev rfl)) rfl ?_
  refine Dr.quietZ 22 [(36, (.int .i64 x136.X1))] [33, 35] false (by kernel_rfl) rfl rfl (by kernel_rfl) (fun W W' h2 hsW hk => HF.keepZ (le := []) (ks := [(2, fun x => x = b102), (2, fun x => x = b102)]) (s0 := sz133) false h2 hk (fun h => absurd h (by decide)) .nil (fun b hb => hb.elim (fun ⟨p, hp, hf, hb⟩ => by simp only [List.mem_cons, List.not_mem_nil, or_false] at hp; rcases hp with rfl | rfl | rfl; exact .inl ⟨_, List.mem_cons_self, hb⟩; exact .inl ⟨_, (List.mem_cons_of_mem _ List.mem_cons_self), hb⟩; exact absurd hf (by simp)) (fun hb => absurd hb.1 (by decide))) (List.forall_mem_cons.2 ⟨fun b hb => hb, (List.forall_mem_cons.2 ⟨fun b hb => hb, (fun _ h => nomatch h)⟩)⟩) rfl) ?_ rfl rfl ?_
  ·refine Tq.va rfl (fun _ _ h1 h2 => run_load1 ag_3 (h1.ev rfl) (CellsAt.drop (rdF ef_TRect hp0_0 hx1362 h2) 2) rfl) ?_
   exact Tq.fin (.cons rfl .nil)
  refine Dr.quietP 23 (by kernel_rfl) rfl (wn rfl) rfl (by kernel_rfl) (fun _ _ h1 => run_max (h1.ev rfl) (h1.ev rfl) _) rfl ?_
  refine Dr.quiet 24 [(38, (.pointer (some ⟨b102, 3, none⟩)))] (by kernel_rfl) rfl rfl (by kernel_rfl) ?_ rfl rfl ?_
  ·refine Tq.va rfl (fun _ _ h1 h2 => run_fieldAddr fo_29_3 (h1.ev rfl)) ?_
   exact Tq.fin (.cons rfl .nil)
  refine Dr.quiet 25 [(39, (.int .i64 x131))] (by kernel_rfl) rfl rfl (by kernel_rfl) ?_ rfl rfl ?_
  ·refine Tq.va rfl (fun _ _ h1 h2 => run_load1 ag_3 (h1.ev rfl) (rdb h2 (vs := [(.int .i64 x128), (.int .i64 x129), (.int .i64 x130), (.int .i64 x131)]) (k := 2) rfl 3) rfl) ?_
   exact Tq.fin (.cons rfl .nil)
  refine Dr.quietP 26 (by kernel_rfl) rfl (wn rfl) rfl (by kernel_rfl) (fun _ _ h1 => run_move (h1.ev rfl)) rfl ?_
  refine Dr.quietP 27 (by kernel_rfl) rfl (wn rfl) rfl (by kernel_rfl) (fun _ _ h1 => run_move (h1.ev rfl)) rfl ?_
  obtain ⟨x137, hx137, H⟩ := bnd H
  obtain ⟨hx1370, hx1371, hx1372⟩ := idx_some hx137
  refine Dr.quietP 28 (by kernel_rfl) rfl (wn rfl) rfl (by kernel_rfl) (fun _ _ h1 => run_indexAddr el_22 (h1.ev rfl) hp0_0.form (h1.ev rfl) hx1370 hx1371) rfl ?_
  refine Dr.quietP 29 (by kernel_rfl) rfl (wn rfl) rfl (by kernel_rfl) (fun _ _ h1 => run_fieldAddr fo_29_3 (h1.ev rfl)) rfl ?_
  refine Dr.quietZ 30 [(44, (.int .i64 x137.Y1))] [33, 35, 37] false (by kernel_rfl) rfl rfl (by kernel_rfl) (fun W W' h2 hsW hk => HF.keepZ (le := []) (ks := [(2, fun x => x = b102), (2, fun x => x = b102), (2, fun x => x = b102)]) (s0 := sz133) false h2 hk (fun h => absurd h (by decide)) .nil (fun b hb => hb.elim (fun ⟨p, hp, hf, hb⟩ => by simp only [List.mem_cons, List.not_mem_nil, or_false] at hp; rcases hp with rfl | rfl | rfl; exact .inl ⟨_, List.mem_cons_self, hb⟩; exact .inl ⟨_, (List.mem_cons_of_mem _ List.mem_cons_self), hb⟩; exact .inl ⟨_, (List.mem_cons_of_mem _ (List.mem_cons_of_mem _ List.mem_cons_self)), hb⟩) (fun hb => absurd hb.1 (by decide))) (List.forall_mem_cons.2 ⟨fun b hb => hb, (List.forall_mem_cons.2 ⟨fun b hb => hb, (List.forall_mem_cons.2 ⟨fun b hb => hb, (fun _ h => nomatch h)⟩)⟩)⟩) rfl) ?_ rfl rfl ?_
  ·refine Tq.va rfl (fun _ _ h1 h2 => run_load1 ag_3 (h1.ev rfl) (CellsAt.drop (rdF ef_TRect hp0_0 hx1372 h2) 3) rfl) ?_
   exact Tq.fin (.cons rfl .nil)
  refine Dr.quietP 31 (by kernel_rfl) rfl (wn rfl) rfl (by kernel_rfl) (fun _ _ h1 => run_max (h1.ev rfl) (h1.ev rfl) _) rfl ?_
  refine Dr.quiet 32 [(46, (.pointer (some ⟨b102, 0, none⟩)))] (by kernel_rfl) rfl rfl (by kernel_rfl) ?_ rfl rfl ?_
  ·refine Tq.va rfl (fun _ _ h1 h2 => run_fieldAddr fo_29_0 (h1.ev rfl)) ?_
   exact Tq.fin (.cons rfl .nil)
  refine Dr.one 33 (by kernel_rfl) ?_
  refine St.store 33 2 (cs := [(.int .i64 (min x128 x134.X0))]) [(.int .i64 (min x128 x134.X0)), (.int .i64 x129), (.int .i64 x130), (.int .i64 x131)] rfl (wn rfl) (.inl ⟨_, List.mem_cons_self, rfl, rfl⟩) rfl rfl rfl rfl sz_3 rfl rfl rfl ?_
  refine Dr.quiet 34 [(47, (.pointer (some ⟨b102, 1, none⟩)))] (by kernel_rfl) rfl rfl (by kernel_rfl) ?_ rfl rfl ?_
  ·refine Tq.va rfl (fun _ _ h1 h2 => run_fieldAddr fo_29_1 (h1.ev rfl)) ?_
   exact Tq.fin (.cons rfl .nil)
  refine Dr.one 35 (by kernel_rfl) ?_
  refine St.store 35 2 (cs := [(.int .i64 (min x129 x135.Y0))]) [(.int .i64 (min x128 x134.X0)), (.int .i64 (min x129 x135.Y0)), (.int .i64 x130), (.int .i64 x131)] rfl (wn rfl) (.inl ⟨_, (List.mem_cons_of_mem _ List.mem_cons_self), rfl, rfl⟩) rfl rfl rfl rfl sz_3 rfl rfl rfl ?_
  refine Dr.quiet 36 [(48, (.pointer (some ⟨b102, 2, none⟩)))] (by kernel_rfl) rfl rfl (by kernel_rfl) ?_ rfl rfl ?_
  ·refine Tq.va rfl (fun _ _ h1 h2 => run_fieldAddr fo_29_2 (h1.ev rfl)) ?_
   exact Tq.fin (.cons rfl .nil)
  refine Dr.one 37 (by kernel_rfl) ?_
  refine St.store 37 2 (cs := [(.int .i64 (max x130 x136.X1))]) [(.int .i64 (min x128 x134.X0)), (.int .i64 (min x129 x135.Y0)), (.int .i64 (max x130 x136.X1)), (.int .i64 x131)] rfl (wn rfl) (.inl ⟨_, (List.mem_cons_of_mem _ (List.mem_cons_of_mem _ List.mem_cons_self)), rfl, rfl⟩) rfl rfl rfl rfl sz_3 rfl rfl rfl ?_
  refine Dr.tail (by kernel_rfl) ?_
  refine Tr.va rfl (fun _ _ h1 h2 => run_fieldAddr fo_29_3 (h1.ev rfl)) ?_
  refine Tr.store 2 (cs := [(.int .i64 (max x131 x137.Y1))]) [(.int .i64 (min x128 x134.X0)), (.int .i64 (min x129 x135.Y0)), (.int .i64 (max x130 x136.X1)), (.int .i64 (max x131 x137.Y1))] (wn rfl) rfl rfl rfl rfl sz_3 rfl rfl rfl ?_
  refine Tr.nil (Tr.normBlock (Tr.normThen ?_))
  refine Tr.region ?_
  refine Tr.mv rfl rfl ?_
  refine Tr.va rfl (fun _ _ h1 h2 => run_add (h1.ev rfl) (h1.ev rfl)) ?_
  refine Tr.asg rfl rfl ?_
  refine Tr.nil ?_
  exact Tr.backThen leF_etchhouseref1_BoundsOf_L1 ((min x128 x134.X0), (min x129 x135.Y0), (max x130 x136.X1), (max x131 x137.Y1), (w64 (x132 + 1))) H (.cons rfl (.cons rfl (.cons rfl (.cons rfl .nil)))) (.cons rfl (.cons rfl .nil))
 ·refine Tr.exit (Tr.exitThen (Tr.exitThen (Tr.exitBlock (Tr.normThen ?_))))
  refine Tr.sr ?_
  refine Tr.va rfl (fun _ _ h1 h2 => run_loadN (cs := [(.int .i64 x128), (.int .i64 x129), (.int .i64 x130), (.int .i64 x131)]) ag_29 sz_29 (h1.ev rfl) (CellsAt.take (rdb h2 (vs := [(.int .i64 x128), (.int .i64 x129), (.int .i64 x130), (.int .i64 x131)]) (k := 2) rfl 0) 4) rfl) ?_
  refine Tr.store 1 (cs := [(.int .i64 x128), (.int .i64 x129), (.int .i64 x130), (.int .i64 x131)]) [(.int .i64 x128), (.int .i64 x129), (.int .i64 x130), (.int .i64 x131)] (wn rfl) rfl rfl rfl rfl sz_29 rfl rfl rfl ?_
  refine Tr.nil (Tr.normThen ?_)
  refine Tr.ret ?_
  obtain rfl := Option.some.inj H
  exact Tr.out (m := [(.agg #[(.int .i64 x128), (.int .i64 x129), (.int .i64 x130), (.int .i64 x131)])]) [1] (res_cell rfl rfl ag_29 sz_29 res_nil) (fun W hW => ⟨rfl, hW.low leB⟩)

theorem F_etchhouseref1_wider_ok {w : Bs} (p0 : TRect) (p1 : Int) (r : TRect) (H : F_etchhouseref1_wider p0 p1 = some r) (hE : HF w w.W E0) : Calls Try.prog 93 [(.agg #[(.int .i64 p0.X0), (.int .i64 p0.Y0), (.int .i64 p0.X1), (.int .i64 p0.Y1)]), (.int .i64 p1)].toArray w.W fun e W' => e = .returned (.agg #[(.int .i64 r.X0), (.int .i64 r.Y0), (.int .i64 r.X1), (.int .i64 r.Y1)]) ∧ HF w W' E0 := by
 unfold F_etchhouseref1_wider at H
 have leB := Bs.Le.refl w
 refine Tr.enter (n := 22) Try.func93 rfl rfl rfl hE ?_
 refine Tr.sr ?_
 refine Tr.box 1 (cs := [(.int .i64 p0.X0), (.int .i64 p0.Y0), (.int .i64 p0.X1), (.int .i64 p0.Y1)]) (wn rfl) rfl rfl rfl fun b100 => ?_
 refine Tr.alloc 2 (wn rfl) rfl ze_29 fun b101 => ?_
 refine Tr.nil (Tr.normThen ?_)
 refine Tr.sr ?_
 refine Tr.va rfl (fun _ _ h1 h2 => run_fieldAddr fo_29_0 (h1.ev rfl)) ?_
 refine Tr.va rfl (fun _ _ h1 h2 => run_load1 ag_3 (h1.ev rfl) (rdb h2 (vs := [(.int .i64 p0.X0), (.int .i64 p0.Y0), (.int .i64 p0.X1), (.int .i64 p0.Y1)]) (k := 1) rfl 0) rfl) ?_
 refine Tr.mv rfl rfl ?_
 refine Tr.va rfl (fun _ _ h1 h2 => run_sub (h1.ev rfl) (h1.ev rfl)) ?_
 refine Tr.va rfl (fun _ _ h1 h2 => run_fieldAddr fo_29_1 (h1.ev rfl)) ?_
 refine Tr.va rfl (fun _ _ h1 h2 => run_load1 ag_3 (h1.ev rfl) (rdb h2 (vs := [(.int .i64 p0.X0), (.int .i64 p0.Y0), (.int .i64 p0.X1), (.int .i64 p0.Y1)]) (k := 1) rfl 1) rfl) ?_
 refine Tr.mv rfl rfl ?_
 refine Tr.va rfl (fun _ _ h1 h2 => run_sub (h1.ev rfl) (h1.ev rfl)) ?_
 refine Tr.va rfl (fun _ _ h1 h2 => run_fieldAddr fo_29_2 (h1.ev rfl)) ?_
 refine Tr.va rfl (fun _ _ h1 h2 => run_load1 ag_3 (h1.ev rfl) (rdb h2 (vs := [(.int .i64 p0.X0), (.int .i64 p0.Y0), (.int .i64 p0.X1), (.int .i64 p0.Y1)]) (k := 1) rfl 2) rfl) ?_
 refine Tr.mv rfl rfl ?_
 refine Tr.va rfl (fun _ _ h1 h2 => run_add (h1.ev rfl) (h1.ev rfl)) ?_
 refine Tr.va rfl (fun _ _ h1 h2 => run_fieldAddr fo_29_3 (h1.ev rfl)) ?_
 refine Tr.va rfl (fun _ _ h1 h2 => run_load1 ag_3 (h1.ev rfl) (rdb h2 (vs := [(.int .i64 p0.X0), (.int .i64 p0.Y0), (.int .i64 p0.X1), (.int .i64 p0.Y1)]) (k := 1) rfl 3) rfl) ?_
 refine Tr.mv rfl rfl ?_
 refine Tr.va rfl (fun _ _ h1 h2 => run_add (h1.ev rfl) (h1.ev rfl)) ?_
 refine Tr.build (vs := [(0, (.int .i64 (w64 (p0.X0 - p1)))), (1, (.int .i64 (w64 (p0.Y0 - p1)))), (2, (.int .i64 (w64 (p0.X1 + p1)))), (3, (.int .i64 (w64 (p0.Y1 + p1))))]) (cs := [(.int .i64 (w64 (p0.X0 - p1))), (.int .i64 (w64 (p0.Y0 - p1))), (.int .i64 (w64 (p0.X1 + p1))), (.int .i64 (w64 (p0.Y1 + p1)))]) (wn rfl) rfl (evs_cons rfl (evs_cons rfl (evs_cons rfl (evs_cons rfl evs_nil)))) (by kernel_rfl) ?_
 refine Tr.store 2 (cs := [(.int .i64 (w64 (p0.X0 - p1))), (.int .i64 (w64 (p0.Y0 - p1))), (.int .i64 (w64 (p0.X1 + p1))), (.int .i64 (w64 (p0.Y1 + p1)))]) [(.int .i64 (w64 (p0.X0 - p1))), (.int .i64 (w64 (p0.Y0 - p1))), (.int .i64 (w64 (p0.X1 + p1))), (.int .i64 (w64 (p0.Y1 + p1)))] (wn rfl) rfl rfl rfl rfl sz_29 rfl rfl rfl ?_
 refine Tr.nil (Tr.normThen ?_)
 refine Tr.ret ?_
 obtain rfl := Option.some.inj H
 exact Tr.out (m := [(.agg #[(.int .i64 (w64 (p0.X0 - p1))), (.int .i64 (w64 (p0.Y0 - p1))), (.int .i64 (w64 (p0.X1 + p1))), (.int .i64 (w64 (p0.Y1 + p1)))])]) [2] (res_cell rfl rfl ag_29 sz_29 res_nil) (fun W hW => ⟨rfl, hW.low leB⟩)

theorem F_etchhouseref1_inside_ok (N : Nat) {w : Bs} (p0 : (List TSpan)) (Ap0_0 : Option Addr) (cp0_0 : Nat) (hp0_0 : Sl w.R w.W fl_TSpan Ap0_0 cp0_0 p0) (p1 : Int) (r : Bool) (H : F_etchhouseref1_inside N p0 p1 = some r) (hE : HF w w.W E0) : Calls Try.prog 156 [(.slice Ap0_0 (p0).length cp0_0), (.int .i64 p1)].toArray w.W fun e W' => e = .returned (.bool r) ∧ HF w W' E0 := by
 unfold F_etchhouseref1_inside at H
 have leB := Bs.Le.refl w
 refine Tr.enter (n := 28) Try.func156 rfl rfl rfl hE ?_
 refine Tr.sr ?_
 refine Tr.asg rfl rfl ?_
 refine Tr.nil (Tr.normThen ?_)
 refine Tr.seq ?_
 refine Tr.sr ?_
 refine Tr.asg rfl rfl ?_
 refine Tr.nil (Tr.normThen ?_)
 refine Tr.block ?_
 refine Tr.loop (σ := Int) (fun m w s => F_etchhouseref1_inside_L1 p0 p1 m s = some r) (fun s => [(0, (.slice Ap0_0 (p0).length cp0_0)), (1, (.int .i64 p1)), (5, (.int .i64 s))]) (fun s => []) N 0 H (.cons rfl (.cons rfl (.cons rfl .nil))) .nil (fun _ _ h => noSome (h)) ?_
 intro w leF_etchhouseref1_inside_L1 mF_etchhouseref1_inside_L1 x111 hs
 have H := hs
 replace H : F_etchhouseref1_inside_L1 p0 p1 (mF_etchhouseref1_inside_L1 + 1) x111 = some r := H
 replace hp0_0 := hp0_0.leR leF_etchhouseref1_inside_L1
 replace leB := leB.trans leF_etchhouseref1_inside_L1
 rw [F_etchhouseref1_inside_L1.eq_2] at H
 show Tr _ _ (LF [(0, (.slice Ap0_0 (p0).length cp0_0)), (1, (.int .i64 p1)), (5, (.int .i64 x111))]) (LE []) _
 refine Tr.seq ?_
 refine Tr.sr ?_
 refine Tr.mv rfl rfl ?_
 refine Tr.mv rfl rfl ?_
 refine Tr.va rfl (fun _ _ h1 h2 => run_len un_146 (h1.ev rfl)) ?_
 refine Tr.va rfl (fun _ _ h1 h2 => run_lss (h1.ev rfl) (h1.ev rfl)) ?_
 refine Tr.nil (Tr.normThen ?_)
 refine Tr.cond rfl H (fun H => ?_) (fun H => ?_)
 ·refine Tr.skip (Tr.normThen ?_)
  refine Tr.seq ?_
  refine Tr.block ?_
  refine Tr.sr ?_
  refine Tr.mv rfl rfl ?_
  refine Tr.mv rfl rfl ?_
  obtain ⟨x112, hx112, H⟩ := bnd H
  obtain ⟨hx1120, hx1121, hx1122⟩ := idx_some hx112
  refine Tr.va rfl (fun _ _ h1 h2 => run_indexAddr el_146 (h1.ev rfl) hp0_0.form (h1.ev rfl) hx1120 hx1121) ?_
  refine Tr.va rfl (fun _ _ h1 h2 => run_fieldAddr fo_177_0 (h1.ev rfl)) ?_
  refine Tr.va rfl (fun _ _ h1 h2 => run_load1 ag_3 (h1.ev rfl) (CellsAt.drop (rdF ef_TSpan hp0_0 hx1122 h2) 0) rfl) ?_
  refine Tr.mv rfl rfl ?_
  refine Tr.va rfl (fun _ _ h1 h2 => run_leq (h1.ev rfl) (h1.ev rfl)) ?_
  refine Tr.mv rfl rfl ?_
  obtain ⟨g114, hg114, H⟩ := bnd H
  refine Tr.mid0 8 [(0, (.slice Ap0_0 (p0).length cp0_0)), (1, (.int .i64 p1)), (5, (.int .i64 x111)), (27, (.bool g114))] [] ?_ ?_
  ·cases hg115 : (decide (x112.from_ ≤ p1))
   ·rw [hg115] at hg114
    rw [if_neg (by decide)] at hg114
    have H := hg114
    obtain rfl := Option.some.inj H
    refine Tr.pass rfl rfl rfl rfl rfl (by decide) ?_
    refine Tr.pass rfl rfl rfl rfl rfl (by decide) ?_
    refine Tr.pass rfl rfl rfl rfl rfl (by decide) ?_
    refine Tr.pass rfl rfl rfl rfl rfl (by decide) ?_
    refine Tr.pass rfl rfl rfl rfl rfl (by decide) ?_
    refine Tr.pass rfl rfl rfl rfl rfl (by decide) ?_
    refine Tr.pass rfl rfl rfl rfl rfl (by decide) ?_
    refine Tr.va rfl (fun _ _ h1 h2 => run_pickF (h1.ev rfl) (h1.ev rfl)) ?_
    exact Tr.nil (Tr.fin0 (.cons rfl (.cons rfl (.cons rfl (.cons rfl .nil)))) .nil)
   ·rw [hg115] at hg114
    rw [if_pos rfl] at hg114
    have H := hg114
    refine Tr.val (wg rfl rfl rfl) rfl (fun _ _ h1 h2 => run_move (h1.ev rfl)) ?_
    refine Tr.val (wg rfl rfl rfl) rfl (fun _ _ h1 h2 => run_move (h1.ev rfl)) ?_
    refine Tr.val (wg rfl rfl rfl) rfl (fun _ _ h1 h2 => run_move (h1.ev rfl)) ?_
    obtain ⟨x115, hx115, H⟩ := bnd H
    obtain ⟨hx1150, hx1151, hx1152⟩ := idx_some hx115
    refine Tr.val (wg rfl rfl rfl) rfl (fun _ _ h1 h2 => run_indexAddr el_146 (h1.ev rfl) hp0_0.form (h1.ev rfl) hx1150 hx1151) ?_
    refine Tr.val (wg rfl rfl rfl) rfl (fun _ _ h1 h2 => run_fieldAddr fo_177_1 (h1.ev rfl)) ?_
    refine Tr.val (wg rfl rfl rfl) rfl (fun _ _ h1 h2 => run_load1 ag_3 (h1.ev rfl) (CellsAt.drop (rdF ef_TSpan hp0_0 hx1152 h2) 1) rfl) ?_
    refine Tr.val (wg rfl rfl rfl) rfl (fun _ _ h1 h2 => run_lss (h1.ev rfl) (h1.ev rfl)) ?_
    refine Tr.va rfl (fun _ _ h1 h2 => run_pickT (h1.ev rfl) (h1.ev rfl)) ?_
    obtain rfl := Option.some.inj H
    exact Tr.nil (Tr.fin0 (.cons rfl (.cons rfl (.cons rfl (.cons rfl .nil)))) .nil)
  ·show Tr _ _ (LF [(0, (.slice Ap0_0 (p0).length cp0_0)), (1, (.int .i64 p1)), (5, (.int .i64 x111)), (27, (.bool g114))]) (LE []) _
   refine Tr.nil (Tr.normThen ?_)
   refine Tr.cond rfl H (fun H => ?_) (fun H => ?_)
   ·refine Tr.sr ?_
    refine Tr.asg rfl rfl ?_
    refine Tr.nil (Tr.normThen ?_)
    refine Tr.ret (Tr.retBlock (Tr.retThen (Tr.retThen (Tr.retBlock (Tr.retThen ?_)))))
    obtain rfl := Option.some.inj H
    exact Tr.out (m := [(.bool true)]) [] (res_tmp rfl res_nil) (fun W hW => ⟨rfl, hW.low leB⟩)
   ·refine Tr.skip (Tr.normBlock (Tr.normThen ?_))
    refine Tr.region ?_
    refine Tr.mv rfl rfl ?_
    refine Tr.va rfl (fun _ _ h1 h2 => run_add (h1.ev rfl) (h1.ev rfl)) ?_
    refine Tr.asg rfl rfl ?_
    refine Tr.nil ?_
    exact Tr.backThen leF_etchhouseref1_inside_L1 (w64 (x111 + 1)) H (.cons rfl (.cons rfl (.cons rfl .nil))) .nil
 ·refine Tr.exit (Tr.exitThen (Tr.exitThen (Tr.exitBlock (Tr.normThen ?_))))
  refine Tr.sr ?_
  refine Tr.asg rfl rfl ?_
  refine Tr.nil (Tr.normThen ?_)
  refine Tr.ret ?_
  obtain rfl := Option.some.inj H
  exact Tr.out (m := [(.bool false)]) [] (res_tmp rfl res_nil) (fun W hW => ⟨rfl, hW.low leB⟩)

theorem F_etchhouseref1_mixed_ok (N : Nat) {w : Bs} (p0 : (List TSpan)) (Ap0_0 : Option Addr) (cp0_0 : Nat) (hp0_0 : Sl w.R w.W fl_TSpan Ap0_0 cp0_0 p0) (p1 : (List TSpan)) (Ap1_0 : Option Addr) (cp1_0 : Nat) (hp1_0 : Sl w.R w.W fl_TSpan Ap1_0 cp1_0 p1) (p2 : Int) (r : (List TSpan)) (H : F_etchhouseref1_mixed N p0 p1 p2 = some r) (hE : HF w w.W (LEn [emp])) : Calls Try.prog 125 [(.slice Ap0_0 (p0).length cp0_0), (.slice Ap1_0 (p1).length cp1_0), (.int .i64 p2)].toArray w.W fun e W' => ∃ u : (Option Addr × Nat), e = .returned (.slice u.1 (r).length u.2) ∧ (SlF u.1 (r).length u.2) ∧ HF w W' (LEn [ow u.1 u.2 177 fl_TSpan r]) := by
 unfold F_etchhouseref1_mixed at H
 have leB := Bs.Le.refl w
 refine Tr.enter (n := 114) Try.func125 rfl rfl rfl hE ?_
 refine Tr.sr ?_
 refine Tr.asg rfl rfl ?_
 refine Tr.nilOwn 1 177 fl_TSpan ?_
 show Tr _ _ (uf _ 6 (.slice none (([] : List TSpan)).length 0)) _ _
 refine Tr.nil (Tr.normThen ?_)
 refine Tr.sr ?_
 refine Tr.asg rfl rfl ?_
 refine Tr.nilOwn 2 3 fl_i64 ?_
 show Tr _ _ (uf _ 7 (.slice none (([] : List Int)).length 0)) _ _
 refine Tr.nil (Tr.normThen ?_)
 refine Tr.seq ?_
 refine Tr.sr ?_
 refine Tr.asg rfl rfl ?_
 refine Tr.nil (Tr.normThen ?_)
 refine Tr.block ?_
 refine Tr.freeze 2 rfl fun w le125 hz124 => ?_
 replace hp0_0 := hp0_0.leR le125
 replace hp1_0 := hp1_0.leR le125
 replace leB := leB.trans le125
 refine Tr.loop (σ := (List Int) × Int × (Option Addr) × Nat) (fun m w s => F_etchhouseref1_mixed_L1 N p0 p1 p2 m s.1 s.2.1 = some r ∧ Sl w.O w.W fl_i64 s.2.2.1 s.2.2.2 s.1) (fun s => [(0, (.slice Ap0_0 (p0).length cp0_0)), (1, (.slice Ap1_0 (p1).length cp1_0)), (2, (.int .i64 p2)), (7, (.slice s.2.2.1 (s.1).length s.2.2.2)), (8, (.int .i64 s.2.1))]) (fun s => []) N (([] : List Int), 0, none, 0) ⟨H, hz124⟩ (.cons rfl (.cons rfl (.cons rfl (.cons rfl (.cons rfl .nil))))) .nil (fun _ _ h => noSome (h.1)) ?_
 intro w leF_etchhouseref1_mixed_L1 mF_etchhouseref1_mixed_L1 s hs
 obtain ⟨l122, x123, Al122, cl122⟩ := s
 obtain ⟨H, hl122⟩ := hs
 replace H : F_etchhouseref1_mixed_L1 N p0 p1 p2 (mF_etchhouseref1_mixed_L1 + 1) l122 x123 = some r := H
 replace hp0_0 := hp0_0.leR leF_etchhouseref1_mixed_L1
 replace hp1_0 := hp1_0.leR leF_etchhouseref1_mixed_L1
 replace leB := leB.trans leF_etchhouseref1_mixed_L1
 replace hl122 : Sl w.O w.W fl_i64 Al122 cl122 l122 := hl122
 rw [F_etchhouseref1_mixed_L1.eq_2] at H
 show Tr _ _ (LF [(0, (.slice Ap0_0 (p0).length cp0_0)), (1, (.slice Ap1_0 (p1).length cp1_0)), (2, (.int .i64 p2)), (7, (.slice Al122 (l122).length cl122)), (8, (.int .i64 x123))]) (LE []) _
 refine Tr.seq ?_
 refine Tr.sr ?_
 refine Tr.mv rfl rfl ?_
 refine Tr.mv rfl rfl ?_
 refine Tr.va rfl (fun _ _ h1 h2 => run_len un_146 (h1.ev rfl)) ?_
 refine Tr.va rfl (fun _ _ h1 h2 => run_lss (h1.ev rfl) (h1.ev rfl)) ?_
 refine Tr.nil (Tr.normThen ?_)
 refine Tr.cond rfl H (fun H => ?_) (fun H => ?_)
 ·refine Tr.skip (Tr.normThen ?_)
  refine Tr.seq ?_
  refine Tr.block ?_
  refine Tr.drawC 12 [] [] (by kernel_rfl) (by kernel_rfl) fun sz126 hlosz126 hEsz126 => ?_
  refine Dr.quiet 0 [(20, (.slice Al122 (l122).length cl122))] (by kernel_rfl) rfl rfl (by kernel_rfl) ?_ rfl rfl ?_
  ·refine Tq.mv rfl rfl ?_
   exact Tq.fin (.cons rfl .nil)
  refine Dr.quiet 1 [(21, (.slice Ap0_0 (p0).length cp0_0))] (by kernel_rfl) rfl rfl (by kernel_rfl) ?_ rfl rfl ?_
  ·refine Tq.mv rfl rfl ?_
   exact Tq.fin (.cons rfl .nil)
  refine Dr.quiet 2 [(22, (.int .i64 x123))] (by kernel_rfl) rfl rfl (by kernel_rfl) ?_ rfl rfl ?_
  ·refine Tq.mv rfl rfl ?_
   exact Tq.fin (.cons rfl .nil)
  obtain ⟨x127, hx127, H⟩ := bnd H
  obtain ⟨hx1270, hx1271, hx1272⟩ := idx_some hx127
  refine Dr.quiet 3 [(23, (.pointer (some ⟨adB Ap0_0, adO Ap0_0 + (x123).toNat * 2, none⟩)))] (by kernel_rfl) rfl rfl (by kernel_rfl) ?_ rfl rfl ?_
  ·refine Tq.va rfl (fun _ _ h1 h2 => run_indexAddr el_146 (h1.ev rfl) hp0_0.form (h1.ev rfl) hx1270 hx1271) ?_
   exact Tq.fin (.cons rfl .nil)
  refine Dr.quiet 4 [(24, (.pointer (some ⟨adB Ap0_0, adO Ap0_0 + (x123).toNat * 2 + 0, none⟩)))] (by kernel_rfl) rfl rfl (by kernel_rfl) ?_ rfl rfl ?_
  ·refine Tq.va rfl (fun _ _ h1 h2 => run_fieldAddr fo_177_0 (h1.ev rfl)) ?_
   exact Tq.fin (.cons rfl .nil)
  refine Dr.quiet 5 [(25, (.int .i64 x127.from_))] (by kernel_rfl) rfl rfl (by kernel_rfl) ?_ rfl rfl ?_
  ·refine Tq.va rfl (fun _ _ h1 h2 => run_load1 ag_3 (h1.ev rfl) (CellsAt.drop (rdF ef_TSpan hp0_0 hx1272 h2) 0) rfl) ?_
   exact Tq.fin (.cons rfl .nil)
  refine Dr.quiet 7 [(27, (.slice Ap0_0 (p0).length cp0_0))] (by kernel_rfl) rfl rfl (by kernel_rfl) ?_ rfl rfl ?_
  ·refine Tq.mv rfl rfl ?_
   exact Tq.fin (.cons rfl .nil)
  refine Dr.quiet 8 [(28, (.int .i64 x123))] (by kernel_rfl) rfl rfl (by kernel_rfl) ?_ rfl rfl ?_
  ·refine Tq.mv rfl rfl ?_
   exact Tq.fin (.cons rfl .nil)
  obtain ⟨x128, hx128, H⟩ := bnd H
  obtain ⟨hx1280, hx1281, hx1282⟩ := idx_some hx128
  refine Dr.quiet 9 [(29, (.pointer (some ⟨adB Ap0_0, adO Ap0_0 + (x123).toNat * 2, none⟩)))] (by kernel_rfl) rfl rfl (by kernel_rfl) ?_ rfl rfl ?_
  ·refine Tq.va rfl (fun _ _ h1 h2 => run_indexAddr el_146 (h1.ev rfl) hp0_0.form (h1.ev rfl) hx1280 hx1281) ?_
   exact Tq.fin (.cons rfl .nil)
  refine Dr.quiet 10 [(30, (.pointer (some ⟨adB Ap0_0, adO Ap0_0 + (x123).toNat * 2 + 1, none⟩)))] (by kernel_rfl) rfl rfl (by kernel_rfl) ?_ rfl rfl ?_
  ·refine Tq.va rfl (fun _ _ h1 h2 => run_fieldAddr fo_177_1 (h1.ev rfl)) ?_
   exact Tq.fin (.cons rfl .nil)
  refine Dr.quiet 11 [(31, (.int .i64 x128.to_))] (by kernel_rfl) rfl rfl (by kernel_rfl) ?_ rfl rfl ?_
  ·refine Tq.va rfl (fun _ _ h1 h2 => run_load1 ag_3 (h1.ev rfl) (CellsAt.drop (rdF ef_TSpan hp0_0 hx1282 h2) 1) rfl) ?_
   exact Tq.fin (.cons rfl .nil)
  obtain ⟨y129, hy129, H⟩ := bnd H
  refine Dr.one 6 (by kernel_rfl) ?_
  refine St.callG 6 [] [] (U := (Option Addr × Nat)) (fun u => (.slice u.1 (y129).length u.2)) (fun O W u => Sl O W fl_i64 u.1 u.2 y129) (fun u => []) rfl pk_nil (fun _ => rfl) (insS_no rfl) rfl (wn rfl) rfl Try.call153 (evl_cons rfl (evl_cons rfl evl_nil)) (fun W hW hp hE => F_etchhouseref1_put_ok N l122 Al122 cl122 (hl122.extO (hW.extS hp)) x127.from_ y129 hy129 hE) ?_
  intro w u le130 hu hsy129
  obtain ⟨Ay129_0, cy129_0⟩ := u
  have gy129_0 := hu
  replace hp0_0 := hp0_0.leR le130
  replace hp1_0 := hp1_0.leR le130
  replace hl122 := hl122.le le130
  replace leB := leB.trans le130
  replace leF_etchhouseref1_mixed_L1 := leF_etchhouseref1_mixed_L1.trans le130
  have hgy129_0 : Sl w.O w.W fl_i64 Ay129_0 cy129_0 y129 := gy129_0
  show Dr _ _ _ _ _ _ _ _ _ (uf _ 26 (.slice Ay129_0 (y129).length cy129_0)) (_)
  refine Dr.tail (by kernel_rfl) ?_
  obtain ⟨y131, hy131, H⟩ := bnd H
  refine Tr.callG [] [] (U := (Option Addr × Nat)) (fun u => (.slice u.1 (y131).length u.2)) (fun O W u => Sl O W fl_i64 u.1 u.2 y131) (fun u => []) rfl pk_nil (fun _ => rfl) (wn rfl) rfl Try.call153 (evl_cons rfl (evl_cons rfl evl_nil)) (fun W hW hp hE => F_etchhouseref1_put_ok N y129 Ay129_0 cy129_0 (hgy129_0.extO (hW.extS hp)) x128.to_ y131 hy131 hE) ?_
  intro w u le132 hu
  obtain ⟨Ay131_0, cy131_0⟩ := u
  have gy131_0 := hu
  replace hp0_0 := hp0_0.leR le132
  replace hp1_0 := hp1_0.leR le132
  replace hl122 := hl122.le le132
  replace hgy129_0 := hgy129_0.le le132
  replace leB := leB.trans le132
  replace leF_etchhouseref1_mixed_L1 := leF_etchhouseref1_mixed_L1.trans le132
  have hgy131_0 : Sl w.O w.W fl_i64 Ay131_0 cy131_0 y131 := gy131_0 --@phi
  show Tr _ _ (uf _ 32 (.slice Ay131_0 (y131).length cy131_0)) (_) _
  refine Tr.asg rfl rfl ?_
  refine Tr.nil (Tr.normBlock (Tr.normThen ?_))
  refine Tr.region ?_
  refine Tr.mv rfl rfl ?_
  refine Tr.va rfl (fun _ _ h1 h2 => run_add (h1.ev rfl) (h1.ev rfl)) ?_
  refine Tr.asg rfl rfl ?_
  refine Tr.nil ?_
  exact Tr.backThen leF_etchhouseref1_mixed_L1 (y131, (w64 (x123 + 1)), Ay131_0, cy131_0) ⟨H, hgy131_0⟩ (.cons rfl (.cons rfl (.cons rfl (.cons rfl (.cons rfl .nil))))) .nil
 ·refine Tr.exit (Tr.exitThen (Tr.exitThen (Tr.exitBlock (Tr.normThen ?_))))
  refine Tr.seq ?_
  refine Tr.sr ?_
  refine Tr.asg rfl rfl ?_
  refine Tr.nil (Tr.normThen ?_)
  refine Tr.block ?_
  refine Tr.loop (σ := (List Int) × Int × (Option Addr) × Nat) (fun m w s => F_etchhouseref1_mixed_L2 N p0 p1 p2 m s.1 s.2.1 = some r ∧ Sl w.O w.W fl_i64 s.2.2.1 s.2.2.2 s.1) (fun s => [(0, (.slice Ap0_0 (p0).length cp0_0)), (1, (.slice Ap1_0 (p1).length cp1_0)), (2, (.int .i64 p2)), (7, (.slice s.2.2.1 (s.1).length s.2.2.2)), (9, (.int .i64 s.2.1))]) (fun s => []) N (l122, 0, Al122, cl122) ⟨H, hl122⟩ (.cons rfl (.cons rfl (.cons rfl (.cons rfl (.cons rfl .nil))))) .nil (fun _ _ h => noSome (h.1)) ?_
  intro w leF_etchhouseref1_mixed_L2 mF_etchhouseref1_mixed_L2 s hs
  obtain ⟨l153, x154, Al153, cl153⟩ := s
  obtain ⟨H, hl153⟩ := hs
  replace H : F_etchhouseref1_mixed_L2 N p0 p1 p2 (mF_etchhouseref1_mixed_L2 + 1) l153 x154 = some r := H
  replace hp0_0 := hp0_0.leR leF_etchhouseref1_mixed_L2
  replace hp1_0 := hp1_0.leR leF_etchhouseref1_mixed_L2
  replace leB := leB.trans leF_etchhouseref1_mixed_L2
  replace leF_etchhouseref1_mixed_L1 := leF_etchhouseref1_mixed_L1.trans leF_etchhouseref1_mixed_L2
  replace hl153 : Sl w.O w.W fl_i64 Al153 cl153 l153 := hl153
  rw [F_etchhouseref1_mixed_L2.eq_2] at H
  show Tr _ _ (LF [(0, (.slice Ap0_0 (p0).length cp0_0)), (1, (.slice Ap1_0 (p1).length cp1_0)), (2, (.int .i64 p2)), (7, (.slice Al153 (l153).length cl153)), (9, (.int .i64 x154))]) (LE []) _
  refine Tr.seq ?_
  refine Tr.sr ?_
  refine Tr.mv rfl rfl ?_
  refine Tr.mv rfl rfl ?_
  refine Tr.va rfl (fun _ _ h1 h2 => run_len un_146 (h1.ev rfl)) ?_
  refine Tr.va rfl (fun _ _ h1 h2 => run_lss (h1.ev rfl) (h1.ev rfl)) ?_
  refine Tr.nil (Tr.normThen ?_)
  refine Tr.cond rfl H (fun H => ?_) (fun H => ?_)
  ·refine Tr.skip (Tr.normThen ?_)
   refine Tr.seq ?_
   refine Tr.block ?_
   refine Tr.drawC 12 [] [] (by kernel_rfl) (by kernel_rfl) fun sz155 hlosz155 hEsz155 => ?_
   refine Dr.quiet 0 [(39, (.slice Al153 (l153).length cl153))] (by kernel_rfl) rfl rfl (by kernel_rfl) ?_ rfl rfl ?_
   ·refine Tq.mv rfl rfl ?_
    exact Tq.fin (.cons rfl .nil)
   refine Dr.quiet 1 [(40, (.slice Ap1_0 (p1).length cp1_0))] (by kernel_rfl) rfl rfl (by kernel_rfl) ?_ rfl rfl ?_
   ·refine Tq.mv rfl rfl ?_
    exact Tq.fin (.cons rfl .nil)
   refine Dr.quiet 2 [(41, (.int .i64 x154))] (by kernel_rfl) rfl rfl (by kernel_rfl) ?_ rfl rfl ?_
   ·refine Tq.mv rfl rfl ?_
    exact Tq.fin (.cons rfl .nil)
   obtain ⟨x156, hx156, H⟩ := bnd H
   obtain ⟨hx1560, hx1561, hx1562⟩ := idx_some hx156
   refine Dr.quiet 3 [(42, (.pointer (some ⟨adB Ap1_0, adO Ap1_0 + (x154).toNat * 2, none⟩)))] (by kernel_rfl) rfl rfl (by kernel_rfl) ?_ rfl rfl ?_
   ·refine Tq.va rfl (fun _ _ h1 h2 => run_indexAddr el_146 (h1.ev rfl) hp1_0.form (h1.ev rfl) hx1560 hx1561) ?_
    exact Tq.fin (.cons rfl .nil)
   refine Dr.quiet 4 [(43, (.pointer (some ⟨adB Ap1_0, adO Ap1_0 + (x154).toNat * 2 + 0, none⟩)))] (by kernel_rfl) rfl rfl (by kernel_rfl) ?_ rfl rfl ?_
   ·refine Tq.va rfl (fun _ _ h1 h2 => run_fieldAddr fo_177_0 (h1.ev rfl)) ?_
    exact Tq.fin (.cons rfl .nil)
   refine Dr.quiet 5 [(44, (.int .i64 x156.from_))] (by kernel_rfl) rfl rfl (by kernel_rfl) ?_ rfl rfl ?_
   ·refine Tq.va rfl (fun _ _ h1 h2 => run_load1 ag_3 (h1.ev rfl) (CellsAt.drop (rdF ef_TSpan hp1_0 hx1562 h2) 0) rfl) ?_
    exact Tq.fin (.cons rfl .nil)
   refine Dr.quiet 7 [(46, (.slice Ap1_0 (p1).length cp1_0))] (by kernel_rfl) rfl rfl (by kernel_rfl) ?_ rfl rfl ?_
   ·refine Tq.mv rfl rfl ?_
    exact Tq.fin (.cons rfl .nil)
   refine Dr.quiet 8 [(47, (.int .i64 x154))] (by kernel_rfl) rfl rfl (by kernel_rfl) ?_ rfl rfl ?_
   ·refine Tq.mv rfl rfl ?_
    exact Tq.fin (.cons rfl .nil)
   obtain ⟨x157, hx157, H⟩ := bnd H
   obtain ⟨hx1570, hx1571, hx1572⟩ := idx_some hx157
   refine Dr.quiet 9 [(48, (.pointer (some ⟨adB Ap1_0, adO Ap1_0 + (x154).toNat * 2, none⟩)))] (by kernel_rfl) rfl rfl (by kernel_rfl) ?_ rfl rfl ?_
   ·refine Tq.va rfl (fun _ _ h1 h2 => run_indexAddr el_146 (h1.ev rfl) hp1_0.form (h1.ev rfl) hx1570 hx1571) ?_
    exact Tq.fin (.cons rfl .nil)
   refine Dr.quiet 10 [(49, (.pointer (some ⟨adB Ap1_0, adO Ap1_0 + (x154).toNat * 2 + 1, none⟩)))] (by kernel_rfl) rfl rfl (by kernel_rfl) ?_ rfl rfl ?_
   ·refine Tq.va rfl (fun _ _ h1 h2 => run_fieldAddr fo_177_1 (h1.ev rfl)) ?_
    exact Tq.fin (.cons rfl .nil)
   refine Dr.quiet 11 [(50, (.int .i64 x157.to_))] (by kernel_rfl) rfl rfl (by kernel_rfl) ?_ rfl rfl ?_
   ·refine Tq.va rfl (fun _ _ h1 h2 => run_load1 ag_3 (h1.ev rfl) (CellsAt.drop (rdF ef_TSpan hp1_0 hx1572 h2) 1) rfl) ?_
    exact Tq.fin (.cons rfl .nil)
   obtain ⟨y158, hy158, H⟩ := bnd H
   refine Dr.one 6 (by kernel_rfl) ?_
   refine St.callG 6 [] [] (U := (Option Addr × Nat)) (fun u => (.slice u.1 (y158).length u.2)) (fun O W u => Sl O W fl_i64 u.1 u.2 y158) (fun u => []) rfl pk_nil (fun _ => rfl) (insS_no rfl) rfl (wn rfl) rfl Try.call153 (evl_cons rfl (evl_cons rfl evl_nil)) (fun W hW hp hE => F_etchhouseref1_put_ok N l153 Al153 cl153 (hl153.extO (hW.extS hp)) x156.from_ y158 hy158 hE) ?_
   intro w u le159 hu hsy158
   obtain ⟨Ay158_0, cy158_0⟩ := u
   have gy158_0 := hu
   replace hp0_0 := hp0_0.leR le159
   replace hp1_0 := hp1_0.leR le159
   replace hl153 := hl153.le le159
   replace leB := leB.trans le159
   replace leF_etchhouseref1_mixed_L1 := leF_etchhouseref1_mixed_L1.trans le159
   replace leF_etchhouseref1_mixed_L2 := leF_etchhouseref1_mixed_L2.trans le159
   have hgy158_0 : Sl w.O w.W fl_i64 Ay158_0 cy158_0 y158 := gy158_0
   show Dr _ _ _ _ _ _ _ _ _ (uf _ 45 (.slice Ay158_0 (y158).length cy158_0)) (_)
   refine Dr.tail (by kernel_rfl) ?_
   obtain ⟨y160, hy160, H⟩ := bnd H
   refine Tr.callG [] [] (U := (Option Addr × Nat)) (fun u => (.slice u.1 (y160).length u.2)) (fun O W u => Sl O W fl_i64 u.1 u.2 y160) (fun u => []) rfl pk_nil (fun _ => rfl) (wn rfl) rfl Try.call153 (evl_cons rfl (evl_cons rfl evl_nil)) (fun W hW hp hE => F_etchhouseref1_put_ok N y158 Ay158_0 cy158_0 (hgy158_0.extO (hW.extS hp)) x157.to_ y160 hy160 hE) ?_
   intro w u le161 hu
   obtain ⟨Ay160_0, cy160_0⟩ := u
   have gy160_0 := hu
   replace hp0_0 := hp0_0.leR le161
   replace hp1_0 := hp1_0.leR le161
   replace hl153 := hl153.le le161
   replace hgy158_0 := hgy158_0.le le161
   replace leB := leB.trans le161
   replace leF_etchhouseref1_mixed_L1 := leF_etchhouseref1_mixed_L1.trans le161
   replace leF_etchhouseref1_mixed_L2 := leF_etchhouseref1_mixed_L2.trans le161
   have hgy160_0 : Sl w.O w.W fl_i64 Ay160_0 cy160_0 y160 := gy160_0 --@phi
   show Tr _ _ (uf _ 51 (.slice Ay160_0 (y160).length cy160_0)) (_) _
   refine Tr.asg rfl rfl ?_
   refine Tr.nil (Tr.normBlock (Tr.normThen ?_))
   refine Tr.region ?_
   refine Tr.mv rfl rfl ?_
   refine Tr.va rfl (fun _ _ h1 h2 => run_add (h1.ev rfl) (h1.ev rfl)) ?_
   refine Tr.asg rfl rfl ?_
   refine Tr.nil ?_
   exact Tr.backThen leF_etchhouseref1_mixed_L2 (y160, (w64 (x154 + 1)), Ay160_0, cy160_0) ⟨H, hgy160_0⟩ (.cons rfl (.cons rfl (.cons rfl (.cons rfl (.cons rfl .nil))))) .nil
  ·refine Tr.exit (Tr.exitThen (Tr.exitThen (Tr.exitBlock (Tr.normThen ?_))))
   refine Tr.sr ?_
   refine Tr.asg rfl rfl ?_
   refine Tr.nilOwn 3 177 fl_TSpan ?_
   show Tr _ _ (uf _ 10 (.slice none (([] : List TSpan)).length 0)) _ _
   refine Tr.nil (Tr.normThen ?_)
   refine Tr.seq ?_
   refine Tr.sr ?_
   refine Tr.asg rfl rfl ?_
   refine Tr.nil (Tr.normThen ?_)
   refine Tr.block ?_
   refine Tr.ren 3 9 rfl rfl rfl ?_
   refine Tr.loop (σ := (List TSpan) × Int × (Option Addr) × Nat) (fun m w s => F_etchhouseref1_mixed_L3 N p0 p1 p2 l153 m s.1 s.2.1 = some r ∧ SlF s.2.2.1 (s.1).length s.2.2.2) (fun s => [(0, (.slice Ap0_0 (p0).length cp0_0)), (1, (.slice Ap1_0 (p1).length cp1_0)), (2, (.int .i64 p2)), (7, (.slice Al153 (l153).length cl153)), (10, (.slice s.2.2.1 (s.1).length s.2.2.2)), (11, (.int .i64 s.2.1))]) (fun s => [(9, ow s.2.2.1 s.2.2.2 177 fl_TSpan s.1)]) N (([] : List TSpan), 1, none, 0) ⟨H, slf_nil⟩ (.cons rfl (.cons rfl (.cons rfl (.cons rfl (.cons rfl (.cons rfl .nil)))))) (.cons rfl .nil) (fun _ _ h => noSome (h.1)) ?_
   intro w leF_etchhouseref1_mixed_L3 mF_etchhouseref1_mixed_L3 s hs
   obtain ⟨l184, x185, Al184, cl184⟩ := s
   obtain ⟨H, hl184⟩ := hs
   replace H : F_etchhouseref1_mixed_L3 N p0 p1 p2 l153 (mF_etchhouseref1_mixed_L3 + 1) l184 x185 = some r := H
   replace hp0_0 := hp0_0.leR leF_etchhouseref1_mixed_L3
   replace hp1_0 := hp1_0.leR leF_etchhouseref1_mixed_L3
   replace hl153 := hl153.le leF_etchhouseref1_mixed_L3
   replace leB := leB.trans leF_etchhouseref1_mixed_L3
   replace leF_etchhouseref1_mixed_L1 := leF_etchhouseref1_mixed_L1.trans leF_etchhouseref1_mixed_L3
   replace leF_etchhouseref1_mixed_L2 := leF_etchhouseref1_mixed_L2.trans leF_etchhouseref1_mixed_L3
   replace hl184 : SlF Al184 (l184).length cl184 := hl184
   rw [F_etchhouseref1_mixed_L3.eq_2] at H
   show Tr _ _ (LF [(0, (.slice Ap0_0 (p0).length cp0_0)), (1, (.slice Ap1_0 (p1).length cp1_0)), (2, (.int .i64 p2)), (7, (.slice Al153 (l153).length cl153)), (10, (.slice Al184 (l184).length cl184)), (11, (.int .i64 x185))]) (LE [(9, ow Al184 cl184 177 fl_TSpan l184)]) _
   refine Tr.seq ?_
   refine Tr.sr ?_
   refine Tr.mv rfl rfl ?_
   refine Tr.mv rfl rfl ?_
   refine Tr.va rfl (fun _ _ h1 h2 => run_len un_97 (h1.ev rfl)) ?_
   refine Tr.va rfl (fun _ _ h1 h2 => run_lss (h1.ev rfl) (h1.ev rfl)) ?_
   refine Tr.nil (Tr.normThen ?_)
   refine Tr.cond rfl H (fun H => ?_) (fun H => ?_)
   ·refine Tr.skip (Tr.normThen ?_)
    refine Tr.seq ?_
    refine Tr.block ?_
    refine Tr.seq ?_
    refine Tr.draw (by kernel_rfl) (by kernel_rfl) ?_
    refine Tq.mv rfl rfl ?_
    refine Tq.mv rfl rfl ?_
    refine Tq.mv rfl rfl ?_
    refine Tq.va rfl (fun _ _ h1 h2 => run_sub (h1.ev rfl) (h1.ev rfl)) ?_
    obtain ⟨x186, hx186, H⟩ := bnd H
    obtain ⟨hx1860, hx1861, hx1862⟩ := idx_some hx186
    refine Tq.va rfl (fun _ _ h1 h2 => run_indexAddr el_97 (h1.ev rfl) hl153.form (h1.ev rfl) hx1860 hx1861) ?_
    refine Tq.va rfl (fun _ _ h1 h2 => run_load1 ag_3 (h1.ev rfl) (rdF ef_i64 (hl153.rl) hx1862 h2) rfl) ?_
    obtain ⟨y187, hy187, H⟩ := bnd H
    refine Tq.call0 (r := (.bool y187)) (wn rfl) rfl Try.call156 (evl_cons rfl (evl_cons rfl evl_nil)) (fun W hW => F_etchhouseref1_inside_ok N p0 Ap0_0 cp0_0 (hp0_0.ext hW.extAll) x186 y187 hy187 (HF.start _)) ?_
    refine Tq.mv rfl rfl ?_
    refine Tq.mv rfl rfl ?_
    refine Tq.mv rfl rfl ?_
    refine Tq.va rfl (fun _ _ h1 h2 => run_sub (h1.ev rfl) (h1.ev rfl)) ?_
    obtain ⟨x188, hx188, H⟩ := bnd H
    obtain ⟨hx1880, hx1881, hx1882⟩ := idx_some hx188
    refine Tq.va rfl (fun _ _ h1 h2 => run_indexAddr el_97 (h1.ev rfl) hl153.form (h1.ev rfl) hx1880 hx1881) ?_
    refine Tq.va rfl (fun _ _ h1 h2 => run_load1 ag_3 (h1.ev rfl) (rdF ef_i64 (hl153.rl) hx1882 h2) rfl) ?_
    obtain ⟨y189, hy189, H⟩ := bnd H
    refine Tq.call0 (r := (.bool y189)) (wn rfl) rfl Try.call156 (evl_cons rfl (evl_cons rfl evl_nil)) (fun W hW => F_etchhouseref1_inside_ok N p1 Ap1_0 cp1_0 (hp1_0.ext hW.extAll) x188 y189 hy189 (HF.start _)) ?_
    refine Tq.asg rfl rfl ?_
    refine Tq.asg rfl rfl ?_
    refine Tq.nil (Tr.normThen ?_)
    refine Tr.sr ?_
    refine Tr.mv rfl rfl ?_
    refine Tr.va rfl (fun _ _ h1 h2 => run_eql (h1.ev rfl) (h1.ev rfl)) ?_
    refine Tr.mv rfl rfl ?_
    refine Tr.mid0 5 [(0, (.slice Ap0_0 (p0).length cp0_0)), (1, (.slice Ap1_0 (p1).length cp1_0)), (2, (.int .i64 p2)), (7, (.slice Al153 (l153).length cl153)), (10, (.slice Al184 (l184).length cl184)), (11, (.int .i64 x185)), (12, (.bool y187)), (13, (.bool y189)), (79, (.bool ((p2 == 1) && (y187 || y189))))] [(9, ow Al184 cl184 177 fl_TSpan l184)] ?_ ?_
    ·cases hg193 : (p2 == 1)
     ·refine Tr.pass rfl rfl rfl rfl rfl (by decide) ?_
      refine Tr.pass rfl rfl rfl rfl rfl (by decide) ?_
      refine Tr.passU rfl rfl rfl rfl (by decide) ?_
      refine Tr.pass rfl rfl rfl rfl rfl (by decide) ?_
      refine Tr.va rfl (fun _ _ h1 h2 => run_pickF (h1.ev rfl) (h1.ev rfl)) ?_
      exact Tr.nil (Tr.fin0 (.cons rfl (.cons rfl (.cons rfl (.cons rfl (.cons rfl (.cons rfl (.cons rfl (.cons rfl (.cons rfl .nil))))))))) (.cons rfl .nil))
     ·refine Tr.val (wg rfl rfl rfl) rfl (fun _ _ h1 h2 => run_move (h1.ev rfl)) ?_
      refine Tr.val (wg rfl rfl rfl) rfl (fun _ _ h1 h2 => run_move (h1.ev rfl)) ?_
      refine Tr.mid0 2 [(0, (.slice Ap0_0 (p0).length cp0_0)), (1, (.slice Ap1_0 (p1).length cp1_0)), (2, (.int .i64 p2)), (7, (.slice Al153 (l153).length cl153)), (10, (.slice Al184 (l184).length cl184)), (11, (.int .i64 x185)), (12, (.bool y187)), (13, (.bool y189)), (74, (.bool true)), (78, (.bool (y187 || y189)))] [(9, ow Al184 cl184 177 fl_TSpan l184)] ?_ ?_
      ·cases hg189 : y187
       ·refine Tr.val (wg rfl rfl rfl) rfl (fun _ _ h1 h2 => run_move (h1.ev rfl)) ?_
        refine Tr.val (wg rfl rfl rfl) rfl (fun _ _ h1 h2 => run_pickF (h1.ev rfl) (h1.ev rfl)) ?_
        exact Tr.nil (Tr.fin0 (.cons rfl (.cons rfl (.cons rfl (.cons rfl (.cons rfl (.cons rfl (.cons rfl (.cons rfl (.cons rfl (.cons rfl .nil)))))))))) (.cons rfl .nil))
       ·refine Tr.pass rfl rfl rfl rfl rfl (by decide) ?_
        refine Tr.val (wg rfl rfl rfl) rfl (fun _ _ h1 h2 => run_pickT (h1.ev rfl) (h1.ev rfl)) ?_
        exact Tr.nil (Tr.fin0 (.cons rfl (.cons rfl (.cons rfl (.cons rfl (.cons rfl (.cons rfl (.cons rfl (.cons rfl (.cons rfl (.cons rfl .nil)))))))))) (.cons rfl .nil))
      ·show Tr _ _ (LF [(0, (.slice Ap0_0 (p0).length cp0_0)), (1, (.slice Ap1_0 (p1).length cp1_0)), (2, (.int .i64 p2)), (7, (.slice Al153 (l153).length cl153)), (10, (.slice Al184 (l184).length cl184)), (11, (.int .i64 x185)), (12, (.bool y187)), (13, (.bool y189)), (74, (.bool true)), (78, (.bool (y187 || y189)))]) (LE [(9, ow Al184 cl184 177 fl_TSpan l184)]) _
       refine Tr.va rfl (fun _ _ h1 h2 => run_pickT (h1.ev rfl) (h1.ev rfl)) ?_
       exact Tr.nil (Tr.fin0 (.cons rfl (.cons rfl (.cons rfl (.cons rfl (.cons rfl (.cons rfl (.cons rfl (.cons rfl (.cons rfl .nil))))))))) (.cons rfl .nil))
    ·show Tr _ _ (LF [(0, (.slice Ap0_0 (p0).length cp0_0)), (1, (.slice Ap1_0 (p1).length cp1_0)), (2, (.int .i64 p2)), (7, (.slice Al153 (l153).length cl153)), (10, (.slice Al184 (l184).length cl184)), (11, (.int .i64 x185)), (12, (.bool y187)), (13, (.bool y189)), (79, (.bool ((p2 == 1) && (y187 || y189))))]) (LE [(9, ow Al184 cl184 177 fl_TSpan l184)]) _
     refine Tr.mv rfl rfl ?_
     refine Tr.mid0 9 [(0, (.slice Ap0_0 (p0).length cp0_0)), (1, (.slice Ap1_0 (p1).length cp1_0)), (2, (.int .i64 p2)), (7, (.slice Al153 (l153).length cl153)), (10, (.slice Al184 (l184).length cl184)), (11, (.int .i64 x185)), (12, (.bool y187)), (13, (.bool y189)), (89, (.bool (((p2 == 1) && (y187 || y189)) || (((p2 == 2) && y187) && y189))))] [(9, ow Al184 cl184 177 fl_TSpan l184)] ?_ ?_
     ·cases hg193 : ((p2 == 1) && (y187 || y189))
      ·refine Tr.val (wg rfl rfl rfl) rfl (fun _ _ h1 h2 => run_move (h1.ev rfl)) ?_
       refine Tr.val (wg rfl rfl rfl) rfl (fun _ _ h1 h2 => run_eql (h1.ev rfl) (h1.ev rfl)) ?_
       refine Tr.val (wg rfl rfl rfl) rfl (fun _ _ h1 h2 => run_move (h1.ev rfl)) ?_
       refine Tr.mid0 2 [(0, (.slice Ap0_0 (p0).length cp0_0)), (1, (.slice Ap1_0 (p1).length cp1_0)), (2, (.int .i64 p2)), (7, (.slice Al153 (l153).length cl153)), (10, (.slice Al184 (l184).length cl184)), (11, (.int .i64 x185)), (12, (.bool y187)), (13, (.bool y189)), (80, (.bool false)), (85, (.bool ((p2 == 2) && y187)))] [(9, ow Al184 cl184 177 fl_TSpan l184)] ?_ ?_
       ·cases hg189 : (p2 == 2)
        ·refine Tr.pass rfl rfl rfl rfl rfl (by decide) ?_
         refine Tr.val (wg rfl rfl rfl) rfl (fun _ _ h1 h2 => run_pickF (h1.ev rfl) (h1.ev rfl)) ?_
         exact Tr.nil (Tr.fin0 (.cons rfl (.cons rfl (.cons rfl (.cons rfl (.cons rfl (.cons rfl (.cons rfl (.cons rfl (.cons rfl (.cons rfl .nil)))))))))) (.cons rfl .nil))
        ·refine Tr.val (wg rfl rfl rfl) rfl (fun _ _ h1 h2 => run_move (h1.ev rfl)) ?_
         refine Tr.val (wg rfl rfl rfl) rfl (fun _ _ h1 h2 => run_pickT (h1.ev rfl) (h1.ev rfl)) ?_
         exact Tr.nil (Tr.fin0 (.cons rfl (.cons rfl (.cons rfl (.cons rfl (.cons rfl (.cons rfl (.cons rfl (.cons rfl (.cons rfl (.cons rfl .nil)))))))))) (.cons rfl .nil))
       ·show Tr _ _ (LF [(0, (.slice Ap0_0 (p0).length cp0_0)), (1, (.slice Ap1_0 (p1).length cp1_0)), (2, (.int .i64 p2)), (7, (.slice Al153 (l153).length cl153)), (10, (.slice Al184 (l184).length cl184)), (11, (.int .i64 x185)), (12, (.bool y187)), (13, (.bool y189)), (80, (.bool false)), (85, (.bool ((p2 == 2) && y187)))]) (LE [(9, ow Al184 cl184 177 fl_TSpan l184)]) _
        refine Tr.val (wg rfl rfl rfl) rfl (fun _ _ h1 h2 => run_move (h1.ev rfl)) ?_
        refine Tr.mid0 2 [(0, (.slice Ap0_0 (p0).length cp0_0)), (1, (.slice Ap1_0 (p1).length cp1_0)), (2, (.int .i64 p2)), (7, (.slice Al153 (l153).length cl153)), (10, (.slice Al184 (l184).length cl184)), (11, (.int .i64 x185)), (12, (.bool y187)), (13, (.bool y189)), (80, (.bool false)), (88, (.bool (((p2 == 2) && y187) && y189)))] [(9, ow Al184 cl184 177 fl_TSpan l184)] ?_ ?_
        ·cases hg189 : ((p2 == 2) && y187)
         ·refine Tr.pass rfl rfl rfl rfl rfl (by decide) ?_
          refine Tr.val (wg rfl rfl rfl) rfl (fun _ _ h1 h2 => run_pickF (h1.ev rfl) (h1.ev rfl)) ?_
          exact Tr.nil (Tr.fin0 (.cons rfl (.cons rfl (.cons rfl (.cons rfl (.cons rfl (.cons rfl (.cons rfl (.cons rfl (.cons rfl (.cons rfl .nil)))))))))) (.cons rfl .nil))
         ·refine Tr.val (wg rfl rfl rfl) rfl (fun _ _ h1 h2 => run_move (h1.ev rfl)) ?_
          refine Tr.val (wg rfl rfl rfl) rfl (fun _ _ h1 h2 => run_pickT (h1.ev rfl) (h1.ev rfl)) ?_
          exact Tr.nil (Tr.fin0 (.cons rfl (.cons rfl (.cons rfl (.cons rfl (.cons rfl (.cons rfl (.cons rfl (.cons rfl (.cons rfl (.cons rfl .nil)))))))))) (.cons rfl .nil))
        ·show Tr _ _ (LF [(0, (.slice Ap0_0 (p0).length cp0_0)), (1, (.slice Ap1_0 (p1).length cp1_0)), (2, (.int .i64 p2)), (7, (.slice Al153 (l153).length cl153)), (10, (.slice Al184 (l184).length cl184)), (11, (.int .i64 x185)), (12, (.bool y187)), (13, (.bool y189)), (80, (.bool false)), (88, (.bool (((p2 == 2) && y187) && y189)))]) (LE [(9, ow Al184 cl184 177 fl_TSpan l184)]) _
         refine Tr.va rfl (fun _ _ h1 h2 => run_pickF (h1.ev rfl) (h1.ev rfl)) ?_
         exact Tr.nil (Tr.fin0 (.cons rfl (.cons rfl (.cons rfl (.cons rfl (.cons rfl (.cons rfl (.cons rfl (.cons rfl (.cons rfl .nil))))))))) (.cons rfl .nil))
      ·refine Tr.pass rfl rfl rfl rfl rfl (by decide) ?_
       refine Tr.pass rfl rfl rfl rfl rfl (by decide) ?_
       refine Tr.pass rfl rfl rfl rfl rfl (by decide) ?_
       refine Tr.passU rfl rfl rfl rfl (by decide) ?_
       refine Tr.pass rfl rfl rfl rfl rfl (by decide) ?_
       refine Tr.pass rfl rfl rfl rfl rfl (by decide) ?_
       refine Tr.passU rfl rfl rfl rfl (by decide) ?_
       refine Tr.pass rfl rfl rfl rfl rfl (by decide) ?_
       refine Tr.va rfl (fun _ _ h1 h2 => run_pickT (h1.ev rfl) (h1.ev rfl)) ?_
       exact Tr.nil (Tr.fin0 (.cons rfl (.cons rfl (.cons rfl (.cons rfl (.cons rfl (.cons rfl (.cons rfl (.cons rfl (.cons rfl .nil))))))))) (.cons rfl .nil))
     ·show Tr _ _ (LF [(0, (.slice Ap0_0 (p0).length cp0_0)), (1, (.slice Ap1_0 (p1).length cp1_0)), (2, (.int .i64 p2)), (7, (.slice Al153 (l153).length cl153)), (10, (.slice Al184 (l184).length cl184)), (11, (.int .i64 x185)), (12, (.bool y187)), (13, (.bool y189)), (89, (.bool (((p2 == 1) && (y187 || y189)) || (((p2 == 2) && y187) && y189))))]) (LE [(9, ow Al184 cl184 177 fl_TSpan l184)]) _
      refine Tr.mv rfl rfl ?_
      refine Tr.mid0 10 [(0, (.slice Ap0_0 (p0).length cp0_0)), (1, (.slice Ap1_0 (p1).length cp1_0)), (2, (.int .i64 p2)), (7, (.slice Al153 (l153).length cl153)), (10, (.slice Al184 (l184).length cl184)), (11, (.int .i64 x185)), (100, (.bool ((((p2 == 1) && (y187 || y189)) || (((p2 == 2) && y187) && y189)) || (((p2 == 3) && y187) && (!y189)))))] [(9, ow Al184 cl184 177 fl_TSpan l184)] ?_ ?_
      ·cases hg193 : (((p2 == 1) && (y187 || y189)) || (((p2 == 2) && y187) && y189))
       ·refine Tr.val (wg rfl rfl rfl) rfl (fun _ _ h1 h2 => run_move (h1.ev rfl)) ?_
        refine Tr.val (wg rfl rfl rfl) rfl (fun _ _ h1 h2 => run_eql (h1.ev rfl) (h1.ev rfl)) ?_
        refine Tr.val (wg rfl rfl rfl) rfl (fun _ _ h1 h2 => run_move (h1.ev rfl)) ?_
        refine Tr.mid0 2 [(0, (.slice Ap0_0 (p0).length cp0_0)), (1, (.slice Ap1_0 (p1).length cp1_0)), (2, (.int .i64 p2)), (7, (.slice Al153 (l153).length cl153)), (10, (.slice Al184 (l184).length cl184)), (11, (.int .i64 x185)), (13, (.bool y189)), (90, (.bool false)), (95, (.bool ((p2 == 3) && y187)))] [(9, ow Al184 cl184 177 fl_TSpan l184)] ?_ ?_
        ·cases hg189 : (p2 == 3)
         ·refine Tr.pass rfl rfl rfl rfl rfl (by decide) ?_
          refine Tr.val (wg rfl rfl rfl) rfl (fun _ _ h1 h2 => run_pickF (h1.ev rfl) (h1.ev rfl)) ?_
          exact Tr.nil (Tr.fin0 (.cons rfl (.cons rfl (.cons rfl (.cons rfl (.cons rfl (.cons rfl (.cons rfl (.cons rfl (.cons rfl .nil))))))))) (.cons rfl .nil))
         ·refine Tr.val (wg rfl rfl rfl) rfl (fun _ _ h1 h2 => run_move (h1.ev rfl)) ?_
          refine Tr.val (wg rfl rfl rfl) rfl (fun _ _ h1 h2 => run_pickT (h1.ev rfl) (h1.ev rfl)) ?_
          exact Tr.nil (Tr.fin0 (.cons rfl (.cons rfl (.cons rfl (.cons rfl (.cons rfl (.cons rfl (.cons rfl (.cons rfl (.cons rfl .nil))))))))) (.cons rfl .nil))
        ·show Tr _ _ (LF [(0, (.slice Ap0_0 (p0).length cp0_0)), (1, (.slice Ap1_0 (p1).length cp1_0)), (2, (.int .i64 p2)), (7, (.slice Al153 (l153).length cl153)), (10, (.slice Al184 (l184).length cl184)), (11, (.int .i64 x185)), (13, (.bool y189)), (90, (.bool false)), (95, (.bool ((p2 == 3) && y187)))]) (LE [(9, ow Al184 cl184 177 fl_TSpan l184)]) _
         refine Tr.val (wg rfl rfl rfl) rfl (fun _ _ h1 h2 => run_move (h1.ev rfl)) ?_
         refine Tr.mid0 3 [(0, (.slice Ap0_0 (p0).length cp0_0)), (1, (.slice Ap1_0 (p1).length cp1_0)), (2, (.int .i64 p2)), (7, (.slice Al153 (l153).length cl153)), (10, (.slice Al184 (l184).length cl184)), (11, (.int .i64 x185)), (90, (.bool false)), (99, (.bool (((p2 == 3) && y187) && (!y189))))] [(9, ow Al184 cl184 177 fl_TSpan l184)] ?_ ?_
         ·cases hg189 : ((p2 == 3) && y187)
          ·refine Tr.pass rfl rfl rfl rfl rfl (by decide) ?_
           refine Tr.pass rfl rfl rfl rfl rfl (by decide) ?_
           refine Tr.val (wg rfl rfl rfl) rfl (fun _ _ h1 h2 => run_pickF (h1.ev rfl) (h1.ev rfl)) ?_
           exact Tr.nil (Tr.fin0 (.cons rfl (.cons rfl (.cons rfl (.cons rfl (.cons rfl (.cons rfl (.cons rfl (.cons rfl .nil)))))))) (.cons rfl .nil))
          ·refine Tr.val (wg rfl rfl rfl) rfl (fun _ _ h1 h2 => run_move (h1.ev rfl)) ?_
           refine Tr.val (wg rfl rfl rfl) rfl (fun _ _ h1 h2 => run_not (h1.ev rfl)) ?_
           refine Tr.val (wg rfl rfl rfl) rfl (fun _ _ h1 h2 => run_pickT (h1.ev rfl) (h1.ev rfl)) ?_
           exact Tr.nil (Tr.fin0 (.cons rfl (.cons rfl (.cons rfl (.cons rfl (.cons rfl (.cons rfl (.cons rfl (.cons rfl .nil)))))))) (.cons rfl .nil))
         ·show Tr _ _ (LF [(0, (.slice Ap0_0 (p0).length cp0_0)), (1, (.slice Ap1_0 (p1).length cp1_0)), (2, (.int .i64 p2)), (7, (.slice Al153 (l153).length cl153)), (10, (.slice Al184 (l184).length cl184)), (11, (.int .i64 x185)), (90, (.bool false)), (99, (.bool (((p2 == 3) && y187) && (!y189))))]) (LE [(9, ow Al184 cl184 177 fl_TSpan l184)]) _
          refine Tr.va rfl (fun _ _ h1 h2 => run_pickF (h1.ev rfl) (h1.ev rfl)) ?_
          exact Tr.nil (Tr.fin0 (.cons rfl (.cons rfl (.cons rfl (.cons rfl (.cons rfl (.cons rfl (.cons rfl .nil))))))) (.cons rfl .nil))
       ·refine Tr.pass rfl rfl rfl rfl rfl (by decide) ?_
        refine Tr.pass rfl rfl rfl rfl rfl (by decide) ?_
        refine Tr.pass rfl rfl rfl rfl rfl (by decide) ?_
        refine Tr.passU rfl rfl rfl rfl (by decide) ?_
        refine Tr.pass rfl rfl rfl rfl rfl (by decide) ?_
        refine Tr.pass rfl rfl rfl rfl rfl (by decide) ?_
        refine Tr.passU rfl rfl rfl rfl (by decide) ?_
        refine Tr.passU rfl rfl rfl rfl (by decide) ?_
        refine Tr.pass rfl rfl rfl rfl rfl (by decide) ?_
        refine Tr.va rfl (fun _ _ h1 h2 => run_pickT (h1.ev rfl) (h1.ev rfl)) ?_
        exact Tr.nil (Tr.fin0 (.cons rfl (.cons rfl (.cons rfl (.cons rfl (.cons rfl (.cons rfl (.cons rfl .nil))))))) (.cons rfl .nil))
      ·show Tr _ _ (LF [(0, (.slice Ap0_0 (p0).length cp0_0)), (1, (.slice Ap1_0 (p1).length cp1_0)), (2, (.int .i64 p2)), (7, (.slice Al153 (l153).length cl153)), (10, (.slice Al184 (l184).length cl184)), (11, (.int .i64 x185)), (100, (.bool ((((p2 == 1) && (y187 || y189)) || (((p2 == 2) && y187) && y189)) || (((p2 == 3) && y187) && (!y189)))))]) (LE [(9, ow Al184 cl184 177 fl_TSpan l184)]) _
       refine Tr.nil (Tr.normThen ?_)
       refine Tr.cond rfl H (fun H => ?_) (fun H => ?_)
       ·refine Tr.drawTail 11 (by kernel_rfl) (by kernel_rfl) ?_
        refine Tq.mv rfl rfl ?_
        refine Tq.mv rfl rfl ?_
        refine Tq.mv rfl rfl ?_
        refine Tq.va rfl (fun _ _ h1 h2 => run_sub (h1.ev rfl) (h1.ev rfl)) ?_
        obtain ⟨x190, hx190, H⟩ := bnd H
        obtain ⟨hx1900, hx1901, hx1902⟩ := idx_some hx190
        refine Tq.va rfl (fun _ _ h1 h2 => run_indexAddr el_97 (h1.ev rfl) hl153.form (h1.ev rfl) hx1900 hx1901) ?_
        refine Tq.va rfl (fun _ _ h1 h2 => run_load1 ag_3 (h1.ev rfl) (rdF ef_i64 (hl153.rl) hx1902 h2) rfl) ?_
        refine Tq.mv rfl rfl ?_
        refine Tq.mv rfl rfl ?_
        obtain ⟨x191, hx191, H⟩ := bnd H
        obtain ⟨hx1910, hx1911, hx1912⟩ := idx_some hx191
        refine Tq.va rfl (fun _ _ h1 h2 => run_indexAddr el_97 (h1.ev rfl) hl153.form (h1.ev rfl) hx1910 hx1911) ?_
        refine Tq.va rfl (fun _ _ h1 h2 => run_load1 ag_3 (h1.ev rfl) (rdF ef_i64 (hl153.rl) hx1912 h2) rfl) ?_
        refine Tq.build (vs := [(0, (.int .i64 x190)), (1, (.int .i64 x191))]) (cs := [(.int .i64 x190), (.int .i64 x191)]) (wn rfl) rfl (evs_cons rfl (evs_cons rfl evs_nil)) (by kernel_rfl) ?_
        refine Tq.nil ?_
        obtain ⟨y192, hy192, H⟩ := bnd H
        refine Tr.callM [10] [emp] (U := (Option Addr × Nat)) (fun u => (.slice u.1 (y192).length u.2)) (fun u => SlF u.1 (y192).length u.2) (fun u => [ow u.1 u.2 177 fl_TSpan y192]) rfl (pk_cons rfl pk_nil) (fun _ => rfl) (wn rfl) rfl Try.call155 (evl_cons rfl (evl_cons rfl evl_nil)) (fun W hW hp hE => F_etchhouseref1_joined_ok N l184 Al184 cl184 (hW.slS (k := 9) rfl hp rfl) (TSpan.mk x190 x191) y192 hy192 hE) ?_
        intro u hu
        obtain ⟨Ay192_0, cy192_0⟩ := u
        have gy192_0 := hu
        have hgy192_0 : SlF Ay192_0 (y192).length cy192_0 := gy192_0 --@phi
        show Tr _ _ (uf _ 112 (.slice Ay192_0 (y192).length cy192_0)) (up _ 10 (ow Ay192_0 cy192_0 177 fl_TSpan y192)) _
        refine Tr.asg rfl rfl ?_
        refine Tr.nil (Tr.normBlock (Tr.normThen ?_))
        refine Tr.region ?_
        refine Tr.mv rfl rfl ?_
        refine Tr.va rfl (fun _ _ h1 h2 => run_add (h1.ev rfl) (h1.ev rfl)) ?_
        refine Tr.asg rfl rfl ?_
        refine Tr.nil ?_
        refine Tr.dropK 9 ?_
        refine Tr.ren 10 9 rfl rfl rfl ?_
        exact Tr.backThen leF_etchhouseref1_mixed_L3 (y192, (w64 (x185 + 1)), Ay192_0, cy192_0) ⟨H, hgy192_0⟩ (.cons rfl (.cons rfl (.cons rfl (.cons rfl (.cons rfl (.cons rfl .nil)))))) (.cons rfl .nil)
       ·refine Tr.skip (Tr.normBlock (Tr.normThen ?_))
        refine Tr.region ?_
        refine Tr.mv rfl rfl ?_
        refine Tr.va rfl (fun _ _ h1 h2 => run_add (h1.ev rfl) (h1.ev rfl)) ?_
        refine Tr.asg rfl rfl ?_
        refine Tr.nil ?_
        exact Tr.backThen leF_etchhouseref1_mixed_L3 (l184, (w64 (x185 + 1)), Al184, cl184) ⟨H, hl184⟩ (.cons rfl (.cons rfl (.cons rfl (.cons rfl (.cons rfl (.cons rfl .nil)))))) (.cons rfl .nil)
   ·refine Tr.exit (Tr.exitThen (Tr.exitThen (Tr.exitBlock (Tr.normThen ?_))))
    refine Tr.sr ?_
    refine Tr.mv rfl rfl ?_
    refine Tr.asg rfl rfl ?_
    refine Tr.nil (Tr.normThen ?_)
    refine Tr.ret ?_
    obtain rfl := Option.some.inj H
    exact Tr.out (m := [(.slice Al184 (l184).length cl184)]) [] (res_tmp rfl res_nil) (fun W hW => ⟨(Al184, cl184), rfl, hl184, HF.lowE leB (hW.pick (ks := [9]) (by decide) (pk_cons rfl pk_nil)) ⟨ow_any _ _ _ _ tr_TSpan, trivial⟩⟩)

end Go.Proofs.Ytnlhigfglfahiaa
