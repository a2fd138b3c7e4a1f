/- The walks: each function computes its plain function. -/
import Derived.Test.YtnlhigfglfahiaaXWa
namespace Go.Proofs.Ytnlhigfglfahiaa
open Go.RowKit
set_option maxRecDepth 100000
set_option maxHeartbeats 1000000
theorem F_shape_Set__Parts_ok (N : Nat) {w : Bs} (p0 : (List TBand)) (Ap0_0 : Option Addr) (cp0_0 : Nat) (hp0_0 : Sl w.R w.W fl_TBand Ap0_0 cp0_0 p0) (r : (List (List TBand))) (H : F_shape_Set__Parts N p0 = some r) (hE : HF w w.W (LEn [emp])) : Calls Try.prog 47 [(.slice Ap0_0 (p0).length cp0_0)].toArray w.W fun e W' => ∃ (w' : Bs) (u : (Option Addr × Nat)), w.Le w' ∧ e = .returned (.slice u.1 (r).length u.2) ∧ (SlF u.1 (r).length u.2) ∧ HF w' W' (LEn [ow u.1 u.2 65 fl_LTBand r]) := by
 unfold F_shape_Set__Parts at H
 have leB := Bs.Le.refl w
 refine Tr.enter (n := 187) Try.func47 rfl rfl rfl hE ?_
 refine Tr.sr ?_
 refine Tr.asg rfl rfl ?_
 refine Tr.nilOwn 1 65 fl_LTBand ?_
 show Tr _ _ (uf _ 2 (.slice none (([] : List (List TBand))).length 0)) _ _
 refine Tr.nil (Tr.normThen ?_)
 refine Tr.sr ?_
 refine Tr.mv rfl rfl ?_
 obtain ⟨y100, hy100, H⟩ := bnd H
 refine Tr.callM [2] [emp] (U := (Option Addr × Nat)) (fun u => (.slice u.1 (y100).length u.2)) (fun u => SlF u.1 (y100).length u.2) (fun u => [ow u.1 u.2 29 fl_TRect y100]) rfl (pk_cons rfl pk_nil) (fun _ => rfl) (wn rfl) rfl Try.call41 (evl_cons rfl evl_nil) (fun W hW hp hE => F_shape_Set__Rects_ok N p0 Ap0_0 cp0_0 (hp0_0.ext (hW.extS hp)) y100 hy100 hE) ?_
 intro u hu
 obtain ⟨Ay100_0, cy100_0⟩ := u
 have gy100_0 := hu
 have hgy100_0 : SlF Ay100_0 (y100).length cy100_0 := gy100_0 --@phi
 show Tr _ _ (uf _ 27 (.slice Ay100_0 (y100).length cy100_0)) (up _ 2 (ow Ay100_0 cy100_0 29 fl_TRect y100)) _
 refine Tr.asg rfl rfl ?_
 refine Tr.nil (Tr.normThen ?_)
 refine Tr.sr ?_
 refine Tr.mv rfl rfl ?_
 refine Tr.va rfl (fun _ _ h1 h2 => run_len un_22 (h1.ev rfl)) ?_
 obtain ⟨l102, hl102, H⟩ := bnd H
 refine Tr.makeSlice 3 fl_i64 0 (wn rfl) rfl rfl rfl un_97 sz_3 rfl ze_3 by_3 rfl ⟨(), fun _ _ => tr_i64 _ _ _ _, rfl⟩ hl102 fun b103 hfl102 => ?_
 refine Tr.alloc 4 (wn rfl) rfl ze_97 fun b104 => ?_
 refine Tr.store 4 (cs := [(.slice (some ⟨b103, 0, none⟩) (l102).length (l102).length)]) [(.slice (some ⟨b103, 0, none⟩) (l102).length (l102).length)] (wn rfl) rfl rfl rfl rfl sz_97 rfl rfl rfl ?_
 refine Tr.nil (Tr.normThen ?_)
 refine Tr.seq ?_
 refine Tr.sr ?_
 refine Tr.va rfl (fun _ _ h1 h2 => run_load1 ag_97 (h1.ev rfl) (rdb h2 (vs := [(.slice (some ⟨b103, 0, none⟩) (l102).length (l102).length)]) (k := 4) rfl 0) rfl) ?_
 refine Tr.va rfl (fun _ _ h1 h2 => run_len un_97 (h1.ev rfl)) ?_
 refine Tr.mv rfl rfl ?_
 refine Tr.nil (Tr.normThen ?_)
 refine Tr.block ?_
 refine Tr.loop (σ := (List Int) × Int × (Option Addr) × Nat) (fun m w s => F_shape_Set__Parts_L1 N p0 y100 l102 m s.1 s.2.1 = some r ∧ SlF s.2.2.1 (s.1).length s.2.2.2) (fun s => [(0, (.slice Ap0_0 (p0).length cp0_0)), (3, (.slice Ay100_0 (y100).length cy100_0)), (4, (.pointer (some ⟨b104, 0, none⟩))), (32, (.int .i64 (l102.length : Int))), (33, (.int .i64 s.2.1))]) (fun s => [(2, ow Ay100_0 cy100_0 29 fl_TRect y100), (3, ow s.2.2.1 s.2.2.2 3 fl_i64 s.1), (4, bx b104 #[(.slice s.2.2.1 (s.1).length s.2.2.2)] 97)]) N (l102, 0, (some ⟨b103, 0, none⟩), (l102).length) ⟨H, hfl102⟩ (.cons rfl (.cons rfl (.cons rfl (.cons rfl (.cons rfl .nil))))) (.cons rfl (.cons rfl (.cons rfl .nil))) (fun _ _ h => noSome (h.1)) ?_
 intro w leF_shape_Set__Parts_L1 mF_shape_Set__Parts_L1 s hs
 obtain ⟨l115, x116, Al115, cl115⟩ := s
 obtain ⟨H, hl115⟩ := hs
 replace H : F_shape_Set__Parts_L1 N p0 y100 l102 (mF_shape_Set__Parts_L1 + 1) l115 x116 = some r := H
 replace hp0_0 := hp0_0.leR leF_shape_Set__Parts_L1
 replace leB := leB.trans leF_shape_Set__Parts_L1
 replace hl115 : SlF Al115 (l115).length cl115 := hl115
 rw [F_shape_Set__Parts_L1.eq_2] at H
 show Tr _ _ (LF [(0, (.slice Ap0_0 (p0).length cp0_0)), (3, (.slice Ay100_0 (y100).length cy100_0)), (4, (.pointer (some ⟨b104, 0, none⟩))), (32, (.int .i64 (l102.length : Int))), (33, (.int .i64 x116))]) (LE [(2, ow Ay100_0 cy100_0 29 fl_TRect y100), (3, ow Al115 cl115 3 fl_i64 l115), (4, bx b104 #[(.slice Al115 (l115).length cl115)] 97)]) _
 refine Tr.sr ?_
 refine Tr.va rfl (fun _ _ h1 h2 => run_lss (h1.ev rfl) (h1.ev rfl)) ?_
 refine Tr.nil (Tr.normThen ?_)
 refine Tr.seq ?_
 refine Tr.cond rfl H (fun H => ?_) (fun H => ?_)
 ·refine Tr.skip (Tr.normThen ?_)
  refine Tr.seq ?_
  refine Tr.block ?_
  refine Tr.sr ?_
  refine Tr.mv rfl rfl ?_
  refine Tr.asg rfl rfl ?_
  refine Tr.nil (Tr.normThen ?_)
  refine Tr.region ?_
  refine Tr.va rfl (fun _ _ h1 h2 => run_load1 ag_97 (h1.ev rfl) (rdb h2 (vs := [(.slice Al115 (l115).length cl115)]) (k := 4) rfl 0) rfl) ?_
  refine Tr.mv rfl rfl ?_
  refine Tr.mv rfl rfl ?_
  obtain ⟨x117, hx117, H⟩ := bnd H
  obtain ⟨hx1170, hx1171, hx1172⟩ := idx_some hx117
  refine Tr.va rfl (fun _ _ h1 h2 => run_indexAddr el_97 (h1.ev rfl) hl115 (h1.ev rfl) hx1170 hx1171) ?_
  obtain ⟨l118, hl118, H⟩ := bnd H
  have hnl118 := sets_len hl118
  refine Tr.storeEl 3 (t := fl_i64) (l := l115) (i := x116) (fo := 0) (cs := [(.int .i64 x116)]) x116 (wn rfl) rfl rfl rfl rfl rfl hx1172 sz_3 rfl (fun u _ => ⟨u, trivial, rfl⟩) rfl hl118 ?_
  have hfl118 : SlF Al115 (l118).length cl115 := by rw [hnl118]; exact hl115
  refine Tr.sel (lf := [(0, (.slice Ap0_0 (p0).length cp0_0)), (3, (.slice Ay100_0 (y100).length cy100_0)), (4, (.pointer (some ⟨b104, 0, none⟩))), (5, (.int .i64 x116)), (32, (.int .i64 (l102.length : Int))), (33, (.int .i64 x116)), (34, (.bool (decide (x116 < (l102.length : Int))))), (35, (.int .i64 x116)), (36, (.slice Al115 (l118).length cl115)), (37, (.int .i64 x116)), (38, (.int .i64 x116))]) (le := [(2, ow Ay100_0 cy100_0 29 fl_TRect y100), (3, ow Al115 cl115 3 fl_i64 l118), (4, bx b104 #[(.slice Al115 (l118).length cl115)] 97)]) (.cons rfl (.cons rfl (.cons rfl (.cons rfl (.cons rfl (.cons rfl (.cons rfl (.cons rfl (.cons (slenV rfl (by rw [hnl118])) (.cons rfl (.cons rfl .nil))))))))))) (.cons rfl (.cons rfl (.cons (ebx rfl (by rw [hnl118])) .nil))) ?_
  refine Tr.nil (Tr.normBlock (Tr.normThen ?_))
  refine Tr.region ?_
  refine Tr.va rfl (fun _ _ h1 h2 => run_add (h1.ev rfl) (h1.ev rfl)) ?_
  refine Tr.mv rfl rfl ?_
  refine Tr.nil ?_
  exact Tr.backThen leF_shape_Set__Parts_L1 (l118, (w64 (x116 + 1)), Al115, cl115) ⟨H, hfl118⟩ (.cons rfl (.cons rfl (.cons rfl (.cons rfl (.cons rfl .nil))))) (.cons rfl (.cons rfl (.cons rfl .nil)))
 ·refine Tr.exit (Tr.exitThen (Tr.exitThen (Tr.exitBlock (Tr.normThen ?_))))
  refine Tr.sr ?_
  refine Tr.mkFunc (vs := [(.pointer (some ⟨b104, 0, none⟩))]) (wn rfl) rfl (evl_cons rfl evl_nil) ?_
  refine Tr.asg rfl rfl ?_
  refine Tr.nil (Tr.normThen ?_)
  refine Tr.sr ?_
  refine Tr.asg rfl rfl ?_
  refine Tr.asg rfl rfl ?_
  refine Tr.nil (Tr.normThen ?_)
  refine Tr.seq ?_
  refine Tr.sr ?_
  refine Tr.mv rfl rfl ?_
  refine Tr.va rfl (fun _ _ h1 h2 => run_len un_65 (h1.ev rfl)) ?_
  refine Tr.mv rfl rfl ?_
  refine Tr.nil (Tr.normThen ?_)
  refine Tr.block ?_
  refine Tr.loop (σ := (List TBand) × Nat × (List Int) × Int × Int × (Option Addr) × Nat) (fun m w s => m = s.1.length + 1 ∧ s.1 = List.drop s.2.1 p0 ∧ s.2.1 ≤ p0.length ∧ F_shape_Set__Parts_L20 N p0 y100 s.1 s.2.1 s.2.2.1 s.2.2.2.1 s.2.2.2.2.1 = some r ∧ SlF s.2.2.2.2.2.1 (s.2.2.1).length s.2.2.2.2.2.2) (fun s => [(0, (.slice Ap0_0 (p0).length cp0_0)), (3, (.slice Ay100_0 (y100).length cy100_0)), (4, (.pointer (some ⟨b104, 0, none⟩))), (6, (.func (.func 84) #[] #[(.pointer (some ⟨b104, 0, none⟩))])), (7, (.int .i64 s.2.2.2.1)), (8, (.int .i64 s.2.2.2.2.1)), (42, (.slice Ap0_0 (p0).length cp0_0)), (43, (.int .i64 (p0.length : Int))), (44, (.int .i64 (s.2.1 : Int)))]) (fun s => [(2, ow Ay100_0 cy100_0 29 fl_TRect y100), (3, ow s.2.2.2.2.2.1 s.2.2.2.2.2.2 3 fl_i64 s.2.2.1), (4, bx b104 #[(.slice s.2.2.2.2.2.1 (s.2.2.1).length s.2.2.2.2.2.2)] 97)]) (p0.length + 1) (p0, 0, l115, 0, 0, Al115, cl115) ⟨rfl, rfl, Nat.zero_le _, H, hl115⟩ (.cons rfl (.cons rfl (.cons rfl (.cons rfl (.cons rfl (.cons rfl (.cons rfl (.cons rfl (.cons rfl .nil))))))))) (.cons rfl (.cons rfl (.cons rfl .nil))) (fun _ _ h => absurd h.1 (by simp)) ?_
  intro w leF_shape_Set__Parts_L20 m s hs
  obtain ⟨restF_shape_Set__Parts_L20, iF_shape_Set__Parts_L20, l581, x582, x583, Al581, cl581⟩ := s
  obtain ⟨hmF_shape_Set__Parts_L20, hdF_shape_Set__Parts_L20, hiF_shape_Set__Parts_L20, H, hl581⟩ := hs
  replace hdF_shape_Set__Parts_L20 : restF_shape_Set__Parts_L20 = List.drop iF_shape_Set__Parts_L20 p0 := hdF_shape_Set__Parts_L20
  replace H : F_shape_Set__Parts_L20 N p0 y100 restF_shape_Set__Parts_L20 iF_shape_Set__Parts_L20 l581 x582 x583 = some r := H
  replace hmF_shape_Set__Parts_L20 : m + 1 = restF_shape_Set__Parts_L20.length + 1 := hmF_shape_Set__Parts_L20
  replace hp0_0 := hp0_0.leR leF_shape_Set__Parts_L20
  replace leB := leB.trans leF_shape_Set__Parts_L20
  replace leF_shape_Set__Parts_L1 := leF_shape_Set__Parts_L1.trans leF_shape_Set__Parts_L20
  replace hl581 : SlF Al581 (l581).length cl581 := hl581
  obtain rfl : m = restF_shape_Set__Parts_L20.length := by omega
  clear hmF_shape_Set__Parts_L20
  show Tr _ _ (LF [(0, (.slice Ap0_0 (p0).length cp0_0)), (3, (.slice Ay100_0 (y100).length cy100_0)), (4, (.pointer (some ⟨b104, 0, none⟩))), (6, (.func (.func 84) #[] #[(.pointer (some ⟨b104, 0, none⟩))])), (7, (.int .i64 x582)), (8, (.int .i64 x583)), (42, (.slice Ap0_0 (p0).length cp0_0)), (43, (.int .i64 (p0.length : Int))), (44, (.int .i64 (iF_shape_Set__Parts_L20 : Int)))]) (LE [(2, ow Ay100_0 cy100_0 29 fl_TRect y100), (3, ow Al581 cl581 3 fl_i64 l581), (4, bx b104 #[(.slice Al581 (l581).length cl581)] 97)]) _
  cases restF_shape_Set__Parts_L20 with
  | nil =>
   rw [F_shape_Set__Parts_L20.eq_1] at H
   refine Tr.sr ?_
   refine Tr.va rfl (fun _ _ h1 h2 => run_lss (h1.ev rfl) (h1.ev rfl)) ?_
   refine Tr.nil (Tr.normThen ?_)
   refine Tr.seq ?_
   refine Tr.condF rfl (range_nil hdF_shape_Set__Parts_L20) ?_
   refine Tr.exit (Tr.exitThen (Tr.exitThen (Tr.exitBlock (Tr.normThen ?_))))
   refine Tr.sr ?_
   refine Tr.makeMapI 7 (wn rfl) rfl fun b584 => ?_
   refine Tr.asg rfl rfl ?_
   refine Tr.nil (Tr.normThen ?_)
   refine Tr.sr ?_
   refine Tr.asg rfl rfl ?_
   refine Tr.nestNil 8 22 29 fl_TRect ?_
   show Tr _ _ (uf _ 17 (.slice none (([] : List (List TRect))).length 0)) (up _ 8 (no none ([] : List (List TRect)).length 0 22 29 fl_TRect [])) _
   refine Tr.nil (Tr.normThen ?_)
   refine Tr.seq ?_
   refine Tr.sr ?_
   refine Tr.mv rfl rfl ?_
   refine Tr.va rfl (fun _ _ h1 h2 => run_len un_22 (h1.ev rfl)) ?_
   refine Tr.mv rfl rfl ?_
   refine Tr.nil (Tr.normThen ?_)
   refine Tr.block ?_
   refine Tr.loop (σ := (List TRect) × Nat × (List Int) × (List (Int × Int)) × (List (List TRect)) × (Option Addr) × Nat × (Option Addr) × Nat × (List (NE TRect))) (fun m w s => m = s.1.length + 1 ∧ s.1 = List.drop s.2.1 y100 ∧ s.2.1 ≤ y100.length ∧ F_shape_Set__Parts_L23 N s.1 s.2.1 s.2.2.1 s.2.2.2.1 s.2.2.2.2.1 = some r ∧ SlF s.2.2.2.2.2.1 (s.2.2.1).length s.2.2.2.2.2.2.1 ∧ (NC s.2.2.2.2.2.2.2.2.2 s.2.2.2.2.1 ∧ SlF s.2.2.2.2.2.2.2.1 (s.2.2.2.2.1).length s.2.2.2.2.2.2.2.2.1)) (fun s => [(6, (.func (.func 84) #[] #[(.pointer (some ⟨b104, 0, none⟩))])), (16, (.map (some b584))), (17, (.slice s.2.2.2.2.2.2.2.1 (s.2.2.2.2.1).length s.2.2.2.2.2.2.2.2.1)), (137, (.slice Ay100_0 (y100).length cy100_0)), (138, (.int .i64 (y100.length : Int))), (139, (.int .i64 (s.2.1 : Int)))]) (fun s => [(2, ow Ay100_0 cy100_0 29 fl_TRect y100), (3, ow s.2.2.2.2.2.1 s.2.2.2.2.2.2.1 3 fl_i64 s.2.2.1), (4, bx b104 #[(.slice s.2.2.2.2.2.1 (s.2.2.1).length s.2.2.2.2.2.2.1)] 97), (7, mi b584 s.2.2.2.1), (8, no s.2.2.2.2.2.2.2.1 (s.2.2.2.2.1).length s.2.2.2.2.2.2.2.2.1 22 29 fl_TRect s.2.2.2.2.2.2.2.2.2)]) (y100.length + 1) (y100, 0, l581, ([] : List (Int × Int)), ([] : List (List TRect)), Al581, cl581, none, 0, ([] : List (NE TRect))) ⟨rfl, rfl, Nat.zero_le _, H, hl581, ⟨NC.nil, slf_nil⟩⟩ (.cons rfl (.cons rfl (.cons rfl (.cons rfl (.cons rfl (.cons rfl .nil)))))) (.cons rfl (.cons rfl (.cons rfl (.cons rfl (.cons rfl .nil))))) (fun _ _ h => absurd h.1 (by simp)) ?_
   intro w leF_shape_Set__Parts_L23 m s hs
   obtain ⟨restF_shape_Set__Parts_L23, iF_shape_Set__Parts_L23, l647, m648, m649, Al647, cl647, Am649, cm649, msm649⟩ := s
   obtain ⟨hmF_shape_Set__Parts_L23, hdF_shape_Set__Parts_L23, hiF_shape_Set__Parts_L23, H, hl647, hm649⟩ := hs
   replace hdF_shape_Set__Parts_L23 : restF_shape_Set__Parts_L23 = List.drop iF_shape_Set__Parts_L23 y100 := hdF_shape_Set__Parts_L23
   replace H : F_shape_Set__Parts_L23 N restF_shape_Set__Parts_L23 iF_shape_Set__Parts_L23 l647 m648 m649 = some r := H
   replace hmF_shape_Set__Parts_L23 : m + 1 = restF_shape_Set__Parts_L23.length + 1 := hmF_shape_Set__Parts_L23
   replace leB := leB.trans leF_shape_Set__Parts_L23
   replace leF_shape_Set__Parts_L1 := leF_shape_Set__Parts_L1.trans leF_shape_Set__Parts_L23
   replace leF_shape_Set__Parts_L20 := leF_shape_Set__Parts_L20.trans leF_shape_Set__Parts_L23
   replace hl647 : SlF Al647 (l647).length cl647 := hl647
   replace hm649 : NC msm649 m649 ∧ SlF Am649 (m649).length cm649 := hm649
   obtain rfl : m = restF_shape_Set__Parts_L23.length := by omega
   clear hmF_shape_Set__Parts_L23
   show Tr _ _ (LF [(6, (.func (.func 84) #[] #[(.pointer (some ⟨b104, 0, none⟩))])), (16, (.map (some b584))), (17, (.slice Am649 (m649).length cm649)), (137, (.slice Ay100_0 (y100).length cy100_0)), (138, (.int .i64 (y100.length : Int))), (139, (.int .i64 (iF_shape_Set__Parts_L23 : Int)))]) (LE [(2, ow Ay100_0 cy100_0 29 fl_TRect y100), (3, ow Al647 cl647 3 fl_i64 l647), (4, bx b104 #[(.slice Al647 (l647).length cl647)] 97), (7, mi b584 m648), (8, no Am649 (m649).length cm649 22 29 fl_TRect msm649)]) _
   cases restF_shape_Set__Parts_L23 with
   | nil =>
    rw [F_shape_Set__Parts_L23.eq_1] at H
    refine Tr.sr ?_
    refine Tr.va rfl (fun _ _ h1 h2 => run_lss (h1.ev rfl) (h1.ev rfl)) ?_
    refine Tr.nil (Tr.normThen ?_)
    refine Tr.seq ?_
    refine Tr.condF rfl (range_nil hdF_shape_Set__Parts_L23) ?_
    refine Tr.exit (Tr.exitThen (Tr.exitThen (Tr.exitBlock (Tr.normThen ?_))))
    refine Tr.sr ?_
    refine Tr.asg rfl rfl ?_
    refine Tr.nilOwn 25 65 fl_LTBand ?_
    show Tr _ _ (uf _ 23 (.slice none (([] : List (List TBand))).length 0)) _ _
    refine Tr.nil (Tr.normThen ?_)
    refine Tr.seq ?_
    refine Tr.seq ?_
    refine Tr.nestFreeze 8 fl_LTRect rfl hm649.1 rfl (fun A c l => ⟨(A, c), rfl, fun _ _ h => h⟩) fun w le651 hz650 => ?_
    replace leB := leB.trans le651
    replace leF_shape_Set__Parts_L1 := leF_shape_Set__Parts_L1.trans le651
    replace leF_shape_Set__Parts_L20 := leF_shape_Set__Parts_L20.trans le651
    replace leF_shape_Set__Parts_L23 := leF_shape_Set__Parts_L23.trans le651
    refine Tr.region ?_
    refine Tr.mv rfl rfl ?_
    refine Tr.va rfl (fun _ _ h1 h2 => run_len un_40 (h1.ev rfl)) ?_
    refine Tr.mv rfl rfl ?_
    refine Tr.nil (Tr.normThen ?_)
    refine Tr.block ?_
    refine Tr.loop (σ := (List (List TRect)) × Nat × (List (List TBand)) × (Option Addr) × Nat) (fun m w s => m = s.1.length + 1 ∧ s.1 = List.drop s.2.1 m649 ∧ s.2.1 ≤ m649.length ∧ F_shape_Set__Parts_L24 N s.1 s.2.1 s.2.2.1 = some r ∧ SlF s.2.2.2.1 (s.2.2.1).length s.2.2.2.2) (fun s => [(23, (.slice s.2.2.2.1 (s.2.2.1).length s.2.2.2.2)), (174, (.slice Am649 (m649).length cm649)), (175, (.int .i64 (m649.length : Int))), (176, (.int .i64 (s.2.1 : Int)))]) (fun s => [(25, ow s.2.2.2.1 s.2.2.2.2 65 fl_LTBand s.2.2.1)]) (m649.length + 1) (m649, 0, ([] : List (List TBand)), none, 0) ⟨rfl, rfl, Nat.zero_le _, H, slf_nil⟩ (.cons rfl (.cons rfl (.cons rfl (.cons rfl .nil)))) (.cons rfl .nil) (fun _ _ h => absurd h.1 (by simp)) ?_
    intro w leF_shape_Set__Parts_L24 m s hs
    obtain ⟨restF_shape_Set__Parts_L24, iF_shape_Set__Parts_L24, l674, Al674, cl674⟩ := s
    obtain ⟨hmF_shape_Set__Parts_L24, hdF_shape_Set__Parts_L24, hiF_shape_Set__Parts_L24, H, hl674⟩ := hs
    replace hdF_shape_Set__Parts_L24 : restF_shape_Set__Parts_L24 = List.drop iF_shape_Set__Parts_L24 m649 := hdF_shape_Set__Parts_L24
    replace H : F_shape_Set__Parts_L24 N restF_shape_Set__Parts_L24 iF_shape_Set__Parts_L24 l674 = some r := H
    replace hmF_shape_Set__Parts_L24 : m + 1 = restF_shape_Set__Parts_L24.length + 1 := hmF_shape_Set__Parts_L24
    replace hz650 := hz650.le leF_shape_Set__Parts_L24
    replace leB := leB.trans leF_shape_Set__Parts_L24
    replace leF_shape_Set__Parts_L1 := leF_shape_Set__Parts_L1.trans leF_shape_Set__Parts_L24
    replace leF_shape_Set__Parts_L20 := leF_shape_Set__Parts_L20.trans leF_shape_Set__Parts_L24
    replace leF_shape_Set__Parts_L23 := leF_shape_Set__Parts_L23.trans leF_shape_Set__Parts_L24
    replace hl674 : SlF Al674 (l674).length cl674 := hl674
    obtain rfl : m = restF_shape_Set__Parts_L24.length := by omega
    clear hmF_shape_Set__Parts_L24
    show Tr _ _ (LF [(23, (.slice Al674 (l674).length cl674)), (174, (.slice Am649 (m649).length cm649)), (175, (.int .i64 (m649.length : Int))), (176, (.int .i64 (iF_shape_Set__Parts_L24 : Int)))]) (LE [(25, ow Al674 cl674 65 fl_LTBand l674)]) _
    cases restF_shape_Set__Parts_L24 with
    | nil =>
     rw [F_shape_Set__Parts_L24.eq_1] at H
     refine Tr.sr ?_
     refine Tr.va rfl (fun _ _ h1 h2 => run_lss (h1.ev rfl) (h1.ev rfl)) ?_
     refine Tr.nil (Tr.normThen ?_)
     refine Tr.seq ?_
     refine Tr.condF rfl (range_nil hdF_shape_Set__Parts_L24) ?_
     refine Tr.exit (Tr.exitThen (Tr.exitThen (Tr.exitBlock (Tr.normThen ?_))))
     refine Tr.sr ?_
     refine Tr.mv rfl rfl ?_
     refine Tr.asg rfl rfl ?_
     refine Tr.nil (Tr.normThen ?_)
     refine Tr.ret ?_
     obtain rfl := Option.some.inj H
     exact Tr.out (m := [(.slice Al674 (l674).length cl674)]) [] (res_tmp rfl res_nil) (fun W hW => ⟨w, (Al674, cl674), leB, rfl, hl674, hW.pick (ks := [25]) (by decide) (pk_cons rfl pk_nil)⟩)
    | cons xF_shape_Set__Parts_L24 restF_shape_Set__Parts_L24 =>
     rw [F_shape_Set__Parts_L24.eq_2] at H
     refine Tr.sr ?_
     refine Tr.va rfl (fun _ _ h1 h2 => run_lss (h1.ev rfl) (h1.ev rfl)) ?_
     refine Tr.nil (Tr.normThen ?_)
     refine Tr.seq ?_
     refine Tr.condT rfl (range_on hdF_shape_Set__Parts_L24) ?_
     refine Tr.skip (Tr.normThen ?_)
     refine Tr.seq ?_
     refine Tr.block ?_
     refine Tr.sr ?_
     obtain ⟨u675, hRu675, hoku675, hcu675⟩ := (hz650).el (range_at hdF_shape_Set__Parts_L24)
     obtain ⟨Au675_0, cu675_0⟩ := u675
     have hoku675_0 := hoku675
     replace hoku675_0 : Sl w.O w.W fl_TRect Au675_0 cu675_0 xF_shape_Set__Parts_L24 := hoku675_0
     replace hRu675 : w.R (adB Am649) := Or.inl hRu675
     refine Tr.va rfl (fun _ _ h1 h2 => run_indexAddr el_40 (h1.ev rfl) hz650.form (h1.ev rfl) (Int.natCast_nonneg _) (range_lt hdF_shape_Set__Parts_L24)) ?_
     refine Tr.va rfl (fun _ _ h1 h2 => run_load1 ag_22 (h1.ev rfl) (rdR hRu675 hcu675 h2) rfl) ?_
     refine Tr.asg rfl rfl ?_
     refine Tr.nil (Tr.normThen ?_)
     refine Tr.region ?_
     refine Tr.mv rfl rfl ?_
     refine Tr.mv rfl rfl ?_
     obtain ⟨y676, hy676, H⟩ := bnd H
     refine Tr.callG [30] [emp] (U := (Option Addr × Nat)) (fun u => (.slice u.1 (y676).length u.2)) (fun O W u => SlF u.1 (y676).length u.2) (fun u => [ow u.1 u.2 104 fl_TBand y676]) rfl (pk_cons rfl pk_nil) (fun _ => rfl) (wn rfl) rfl Try.call40 (evl_cons rfl evl_nil) (fun W hW hp hE => F_shape_SetOf_ok N xF_shape_Set__Parts_L24 Au675_0 cu675_0 (hoku675_0.rl.ext (hW.extS hp)) y676 hy676 hE) ?_
     intro w u le677 hu
     obtain ⟨Ay676_0, cy676_0⟩ := u
     have gy676_0 := hu
     replace hz650 := hz650.le le677
     replace hcu675 := le677.ext.cells hRu675 hcu675
     replace hRu675 := le677.r _ hRu675
     replace hoku675_0 := hoku675_0.le le677
     replace leB := leB.trans le677
     replace leF_shape_Set__Parts_L1 := leF_shape_Set__Parts_L1.trans le677
     replace leF_shape_Set__Parts_L20 := leF_shape_Set__Parts_L20.trans le677
     replace leF_shape_Set__Parts_L23 := leF_shape_Set__Parts_L23.trans le677
     replace leF_shape_Set__Parts_L24 := leF_shape_Set__Parts_L24.trans le677
     have hgy676_0 : SlF Ay676_0 (y676).length cy676_0 := gy676_0 --@phi
     show Tr _ _ (uf _ 182 (.slice Ay676_0 (y676).length cy676_0)) (up _ 30 (ow Ay676_0 cy676_0 104 fl_TBand y676)) _
     refine Tr.freeze 30 rfl fun w le679 hz678 => ?_
     replace hz650 := hz650.le le679
     replace hcu675 := le679.ext.cells hRu675 hcu675
     replace hRu675 := le679.r _ hRu675
     replace hoku675_0 := hoku675_0.le le679
     replace leB := leB.trans le679
     replace leF_shape_Set__Parts_L1 := leF_shape_Set__Parts_L1.trans le679
     replace leF_shape_Set__Parts_L20 := leF_shape_Set__Parts_L20.trans le679
     replace leF_shape_Set__Parts_L23 := leF_shape_Set__Parts_L23.trans le679
     replace leF_shape_Set__Parts_L24 := leF_shape_Set__Parts_L24.trans le679
     refine Tr.buildSlice 31 (e := 65) (vs := [(0, (.slice Ay676_0 (y676).length cy676_0))]) (cs := [(.slice Ay676_0 (y676).length cy676_0)]) (wn rfl) rfl (evs_cons rfl evs_nil) (by kernel_rfl) fun b680 => ?_
     obtain ⟨l681, hl681, H⟩ := bnd H
     refine Tr.append 25 (t := fl_LTBand) (l := l674) (l2 := [y676]) (wn rfl) rfl rfl rfl rfl (fun W hW => ⟨[[(.slice Ay676_0 (y676).length cy676_0)]], (.cons ⟨(Ay676_0, cy676_0), hz678, rfl⟩ .nil), rdb hW (vs := [(.slice Ay676_0 (y676).length cy676_0)]) (k := 31) rfl 0⟩) un_75 sz_65 zl_65 (by decide) by_65 rfl hl681 fun Al681 cl681 hAl681 => ?_
     refine Tr.asg rfl rfl ?_
     refine Tr.nil (Tr.normBlock (Tr.normThen ?_))
     refine Tr.region ?_
     refine Tr.va rfl (fun _ _ h1 h2 => run_add (h1.ev rfl) (h1.ev rfl)) ?_
     refine Tr.mv rfl rfl ?_
     refine Tr.nil ?_
     exact Tr.backThen leF_shape_Set__Parts_L24 (restF_shape_Set__Parts_L24, (iF_shape_Set__Parts_L24 + 1), l681, Al681, cl681) ⟨rfl, range_tl hdF_shape_Set__Parts_L24, range_lt hdF_shape_Set__Parts_L24, H, hAl681⟩ (.cons rfl (.cons rfl (.cons rfl (.cons (congrArg (fun z => some (Value.int .i64 z)) (range_up hdF_shape_Set__Parts_L24 hz650.form)) .nil)))) (.cons rfl .nil)
   | cons xF_shape_Set__Parts_L23 restF_shape_Set__Parts_L23 =>
    rw [F_shape_Set__Parts_L23.eq_2] at H
    refine Tr.sr ?_
    refine Tr.va rfl (fun _ _ h1 h2 => run_lss (h1.ev rfl) (h1.ev rfl)) ?_
    refine Tr.nil (Tr.normThen ?_)
    refine Tr.seq ?_
    refine Tr.condT rfl (range_on hdF_shape_Set__Parts_L23) ?_
    refine Tr.skip (Tr.normThen ?_)
    refine Tr.seq ?_
    refine Tr.block ?_
    refine Tr.sr ?_
    refine Tr.mv rfl rfl ?_
    refine Tr.va rfl (fun _ _ h1 h2 => run_indexAddr el_22 (h1.ev rfl) hgy100_0 (h1.ev rfl) (Int.natCast_nonneg _) (range_lt hdF_shape_Set__Parts_L23)) ?_
    refine Tr.va rfl (fun _ _ h1 h2 => run_loadN (cs := [(.int .i64 xF_shape_Set__Parts_L23.X0), (.int .i64 xF_shape_Set__Parts_L23.Y0), (.int .i64 xF_shape_Set__Parts_L23.X1), (.int .i64 xF_shape_Set__Parts_L23.Y1)]) ag_29 sz_29 (h1.ev rfl) (CellsAt.take (rdo ef_TRect (k := 2) h2 rfl (range_at hdF_shape_Set__Parts_L23)) 4) rfl) ?_
    refine Tr.alloc 32 (wn rfl) rfl ze_29 fun b682 => ?_
    refine Tr.asg rfl rfl ?_
    refine Tr.store 32 (cs := [(.int .i64 xF_shape_Set__Parts_L23.X0), (.int .i64 xF_shape_Set__Parts_L23.Y0), (.int .i64 xF_shape_Set__Parts_L23.X1), (.int .i64 xF_shape_Set__Parts_L23.Y1)]) [(.int .i64 xF_shape_Set__Parts_L23.X0), (.int .i64 xF_shape_Set__Parts_L23.Y0), (.int .i64 xF_shape_Set__Parts_L23.X1), (.int .i64 xF_shape_Set__Parts_L23.Y1)] (wn rfl) rfl rfl rfl rfl sz_29 rfl rfl rfl ?_
    refine Tr.nil (Tr.normThen ?_)
    refine Tr.sr ?_
    refine Tr.mv rfl rfl ?_
    refine Tr.mv rfl rfl ?_
    obtain ⟨y683, hy683, H⟩ := bnd H
    refine Tr.callMC [4, 3] [bx b104 #[(.slice Al647 (l647).length cl647)] 97, ow Al647 cl647 3 fl_i64 l647] (U := (Option Addr × Nat)) (fun u => (.int .i64 y683.1)) (fun u => SlF u.1 (y683.2).length u.2) (fun u => [bx b104 #[(.slice u.1 (y683.2).length u.2)] 97, ow u.1 u.2 3 fl_i64 y683.2]) rfl (pk_cons rfl (pk_cons rfl pk_nil)) (fun _ => rfl) (wn rfl) rfl rfl Try.call84 (evl_cons rfl evl_nil) (fun W hW hp hE => F_shape_Set__Parts_1_ok N (iF_shape_Set__Parts_L23 : Int) l647 Al647 cl647 b104 y683 hy683 hE) ?_
    intro u hu
    obtain ⟨Ay683_0, cy683_0⟩ := u
    have gy683_0 := hu
    have hgy683_0 : SlF Ay683_0 (y683.2).length cy683_0 := gy683_0 --@phi
    show Tr _ _ (uf _ 146 (.int .i64 y683.1)) (up (up _ 3 (ow Ay683_0 cy683_0 3 fl_i64 y683.2)) 4 (bx b104 #[(.slice Ay683_0 (y683.2).length cy683_0)] 97)) _
    refine Tr.asg rfl rfl ?_
    refine Tr.nil (Tr.normThen ?_)
    refine Tr.sr ?_
    refine Tr.mv rfl rfl ?_
    refine Tr.mv rfl rfl ?_
    obtain ⟨g685, hg685, H⟩ := bnd H
    refine Tr.va rfl (fun _ _ h1 h2 => run_lookupI un_110 un_3 zi_3 (h1.ev rfl) (h1.ev rfl) h2 (κ := 7) rfl hg685) ?_
    refine Tr.mv rfl rfl ?_
    refine Tr.va rfl (fun _ _ h1 h2 => run_extract (h1.ev rfl) rfl) ?_
    refine Tr.va rfl (fun _ _ h1 h2 => run_extract (h1.ev rfl) rfl) ?_
    refine Tr.asg rfl rfl ?_
    refine Tr.asg rfl rfl ?_
    refine Tr.nil (Tr.normThen ?_)
    have leJ693 := Bs.Le.refl w
    refine Tr.cutJ (σ := (List (Int × Int)) × (List (List TRect)) × Int × (Option Addr) × Nat × (List (NE TRect))) (fun w s => F_shape_Set__Parts_J25 (F_shape_Set__Parts_L23 N restF_shape_Set__Parts_L23 (iF_shape_Set__Parts_L23 + 1)) xF_shape_Set__Parts_L23 y683 s.1 s.2.1 s.2.2.1 = some r ∧ (NC s.2.2.2.2.2 s.2.1 ∧ SlF s.2.2.2.1 (s.2.1).length s.2.2.2.2.1)) (fun s => [(6, (.func (.func 84) #[] #[(.pointer (some ⟨b104, 0, none⟩))])), (16, (.map (some b584))), (17, (.slice s.2.2.2.1 (s.2.1).length s.2.2.2.2.1)), (19, (.pointer (some ⟨b682, 0, none⟩))), (21, (.int .i64 s.2.2.1)), (137, (.slice Ay100_0 (y100).length cy100_0)), (138, (.int .i64 (y100.length : Int))), (139, (.int .i64 (iF_shape_Set__Parts_L23 : Int)))]) (fun s => [(2, ow Ay100_0 cy100_0 29 fl_TRect y100), (3, ow Ay683_0 cy683_0 3 fl_i64 y683.2), (4, bx b104 #[(.slice Ay683_0 (y683.2).length cy683_0)] 97), (7, mi b584 s.1), (8, no s.2.2.2.1 (s.2.1).length s.2.2.2.2.1 22 29 fl_TRect s.2.2.2.2.2), (32, bx b682 #[(.int .i64 xF_shape_Set__Parts_L23.X0), (.int .i64 xF_shape_Set__Parts_L23.Y0), (.int .i64 xF_shape_Set__Parts_L23.X1), (.int .i64 xF_shape_Set__Parts_L23.Y1)] 29)]) ?_ ?_
    ·refine Tr.sr ?_
     refine Tr.mv rfl rfl ?_
     refine Tr.va rfl (fun _ _ h1 h2 => run_not (h1.ev rfl)) ?_
     refine Tr.nil (Tr.normThen ?_)
     refine Tr.cond rfl H (fun H => ?_) (fun H => ?_)
     ·refine Tr.sr ?_
      refine Tr.mv rfl rfl ?_
      refine Tr.va rfl (fun _ _ h1 h2 => run_len un_40 (h1.ev rfl)) ?_
      refine Tr.asg rfl rfl ?_
      refine Tr.nil (Tr.normThen ?_)
      refine Tr.sr ?_
      refine Tr.mv rfl rfl ?_
      refine Tr.mv rfl rfl ?_
      refine Tr.mv rfl rfl ?_
      obtain ⟨m702, hm702, H⟩ := bnd H
      refine Tr.mapPutI 7 (wn rfl) un_110 un_3 rfl rfl rfl rfl hm702 ?_
      refine Tr.nil (Tr.normThen ?_)
      refine Tr.region ?_
      refine Tr.mv rfl rfl ?_
      refine Tr.buildSlice 38 (e := 22) (vs := [(0, (.slice none 0 0))]) (cs := [(.slice none 0 0)]) (wn rfl) rfl (evs_cons rfl evs_nil) (by kernel_rfl) fun b703 => ?_
      obtain ⟨l704, hl704, H⟩ := bnd H
      refine Tr.nestPush 8 39 38 rfl rfl rfl rfl (wn rfl) rfl rfl rfl hm649.1 rfl rfl un_40 sz_22 zl_22 by_22 rfl hl704 fun Al704 cl704 ms705 hmms705 hfl704 => ?_
      refine Tr.asg rfl rfl ?_
      refine Tr.nil ?_
      exact Tr.backThen leJ693 (m702, l704, (m649.length : Int), Al704, cl704, ms705) ⟨H, ⟨hmms705, hfl704⟩⟩ (.cons rfl (.cons rfl (.cons rfl (.cons rfl (.cons rfl (.cons rfl (.cons rfl (.cons rfl .nil)))))))) (.cons rfl (.cons rfl (.cons rfl (.cons rfl (.cons rfl (.cons rfl .nil))))))
     ·refine Tr.skip ?_
      exact Tr.backThen leJ693 (m648, m649, g685.1, Am649, cm649, msm649) ⟨H, ⟨hm649.1, hm649.2⟩⟩ (.cons rfl (.cons rfl (.cons rfl (.cons rfl (.cons rfl (.cons rfl (.cons rfl (.cons rfl .nil)))))))) (.cons rfl (.cons rfl (.cons rfl (.cons rfl (.cons rfl (.cons rfl .nil))))))
    ·intro w s hlJ694 hs
     obtain ⟨m690, m691, x692, Am691, cm691, msm691⟩ := s
     obtain ⟨H, hm691⟩ := hs
     replace H : F_shape_Set__Parts_J25 (F_shape_Set__Parts_L23 N restF_shape_Set__Parts_L23 (iF_shape_Set__Parts_L23 + 1)) xF_shape_Set__Parts_L23 y683 m690 m691 x692 = some r := H
     replace leB := leB.trans hlJ694
     replace leF_shape_Set__Parts_L1 := leF_shape_Set__Parts_L1.trans hlJ694
     replace leF_shape_Set__Parts_L20 := leF_shape_Set__Parts_L20.trans hlJ694
     replace leF_shape_Set__Parts_L23 := leF_shape_Set__Parts_L23.trans hlJ694
     replace hm691 : NC msm691 m691 ∧ SlF Am691 (m691).length cm691 := hm691
     unfold F_shape_Set__Parts_J25 at H
     show Tr _ _ (LF [(6, (.func (.func 84) #[] #[(.pointer (some ⟨b104, 0, none⟩))])), (16, (.map (some b584))), (17, (.slice Am691 (m691).length cm691)), (19, (.pointer (some ⟨b682, 0, none⟩))), (21, (.int .i64 x692)), (137, (.slice Ay100_0 (y100).length cy100_0)), (138, (.int .i64 (y100.length : Int))), (139, (.int .i64 (iF_shape_Set__Parts_L23 : Int)))]) (LE [(2, ow Ay100_0 cy100_0 29 fl_TRect y100), (3, ow Ay683_0 cy683_0 3 fl_i64 y683.2), (4, bx b104 #[(.slice Ay683_0 (y683.2).length cy683_0)] 97), (7, mi b584 m690), (8, no Am691 (m691).length cm691 22 29 fl_TRect msm691), (32, bx b682 #[(.int .i64 xF_shape_Set__Parts_L23.X0), (.int .i64 xF_shape_Set__Parts_L23.Y0), (.int .i64 xF_shape_Set__Parts_L23.X1), (.int .i64 xF_shape_Set__Parts_L23.Y1)] 29)]) _
     obtain ⟨l695, hl695, H⟩ := bnd H
     obtain ⟨hl6950, hl6951, hl6952⟩ := idx_some hl695
     refine Tr.nestTake 8 35 (i := x692) rfl rfl hm691.1 hl695 fun ms696 Al695 cl695 hMl695 hfl695 => ?_
     refine Tr.drawC 9 [(8, (ow Al695 cl695 29 fl_TRect l695).S)] [] (by kernel_rfl) (by kernel_rfl) fun sz697 hlosz697 hEsz697 => ?_
     refine Dr.quietP 0 (by kernel_rfl) rfl (wn rfl) rfl (by kernel_rfl) (fun _ _ h1 => run_move (h1.ev rfl)) rfl ?_
     refine Dr.quietP 1 (by kernel_rfl) rfl (wn rfl) rfl (by kernel_rfl) (fun _ _ h1 => run_move (h1.ev rfl)) rfl ?_
     refine Dr.quietP 2 (by kernel_rfl) rfl (wn rfl) rfl (by kernel_rfl) (fun _ _ h1 => run_move (h1.ev rfl)) rfl ?_
     refine Dr.quietP 3 (by kernel_rfl) rfl (wn rfl) rfl (by kernel_rfl) (fun _ _ h1 => run_move (h1.ev rfl)) rfl ?_
     refine Dr.quietP 4 (by kernel_rfl) rfl (wn rfl) rfl (by kernel_rfl) (fun _ _ h1 => run_indexAddr el_40 (h1.ev rfl) hm691.2 (h1.ev rfl) hl6950 hl6951) rfl ?_
     refine Dr.quiet 5 [(168, (.slice Al695 (l695).length cl695))] (by kernel_rfl) rfl rfl (by kernel_rfl) ?_ rfl rfl ?_
     ·refine Tq.va rfl (fun _ _ h1 h2 => run_loadNest ag_22 (h1.ev rfl) rfl h2 (κ := 8) rfl hMl695) ?_
      exact Tq.fin (.cons rfl .nil)
     refine Dr.quietZ 6 [(169, (.agg #[(.int .i64 xF_shape_Set__Parts_L23.X0), (.int .i64 xF_shape_Set__Parts_L23.Y0), (.int .i64 xF_shape_Set__Parts_L23.X1), (.int .i64 xF_shape_Set__Parts_L23.Y1)]))] [8] false (by kernel_rfl) rfl rfl (by kernel_rfl) (fun W W' h2 hsW hk => HF.keepZ (le := [(32, bx b682 #[(.int .i64 xF_shape_Set__Parts_L23.X0), (.int .i64 xF_shape_Set__Parts_L23.Y0), (.int .i64 xF_shape_Set__Parts_L23.X1), (.int .i64 xF_shape_Set__Parts_L23.Y1)] 29)]) (ks := [(35, (ow Al695 cl695 29 fl_TRect l695).S)]) (s0 := sz697) false h2 hk (fun h => absurd h (by decide)) (.cons rfl .nil) (fun b hb => hb.elim (fun ⟨p, hp, hf, hb⟩ => by simp only [List.mem_cons, List.not_mem_nil, or_false] at hp; rcases hp with rfl; exact .inl ⟨_, List.mem_cons_self, hb⟩) (fun hb => absurd hb.1 (by decide))) (List.forall_mem_cons.2 ⟨fun b hb => hb, (fun _ h => nomatch h)⟩) rfl) ?_ rfl rfl ?_
     ·refine Tq.va rfl (fun _ _ h1 h2 => run_loadN (cs := [(.int .i64 xF_shape_Set__Parts_L23.X0), (.int .i64 xF_shape_Set__Parts_L23.Y0), (.int .i64 xF_shape_Set__Parts_L23.X1), (.int .i64 xF_shape_Set__Parts_L23.Y1)]) ag_29 sz_29 (h1.ev rfl) (CellsAt.take (rdb h2 (vs := [(.int .i64 xF_shape_Set__Parts_L23.X0), (.int .i64 xF_shape_Set__Parts_L23.Y0), (.int .i64 xF_shape_Set__Parts_L23.X1), (.int .i64 xF_shape_Set__Parts_L23.Y1)]) (k := 32) rfl 0) 4) rfl) ?_
      exact Tq.fin (.cons rfl .nil)
     refine Dr.one 7 (by kernel_rfl) ?_
     refine St.buildSlice 7 36 (e := 29) (vs := [(0, (.agg #[(.int .i64 xF_shape_Set__Parts_L23.X0), (.int .i64 xF_shape_Set__Parts_L23.Y0), (.int .i64 xF_shape_Set__Parts_L23.X1), (.int .i64 xF_shape_Set__Parts_L23.Y1)]))]) (cs := [(.int .i64 xF_shape_Set__Parts_L23.X0), (.int .i64 xF_shape_Set__Parts_L23.Y0), (.int .i64 xF_shape_Set__Parts_L23.X1), (.int .i64 xF_shape_Set__Parts_L23.Y1)]) rfl (wn rfl) rfl (evs_cons rfl evs_nil) (by kernel_rfl) fun b698 hb698 => ?_
     obtain ⟨l699, hl699, H⟩ := bnd H
     refine Dr.one 8 (by kernel_rfl) ?_
     refine St.append 8 35 (t' := fl_TRect) (ll := l695) (l2 := [xF_shape_Set__Parts_L23]) (fun b hb => .inl ⟨_, List.mem_cons_self, rfl, hb⟩) rfl (wn rfl) rfl rfl rfl rfl (fun W hW => ⟨[[(.int .i64 xF_shape_Set__Parts_L23.X0), (.int .i64 xF_shape_Set__Parts_L23.Y0), (.int .i64 xF_shape_Set__Parts_L23.X1), (.int .i64 xF_shape_Set__Parts_L23.Y1)]], (.cons ⟨(), trivial, rfl⟩ .nil), rdb hW (vs := [(.int .i64 xF_shape_Set__Parts_L23.X0), (.int .i64 xF_shape_Set__Parts_L23.Y0), (.int .i64 xF_shape_Set__Parts_L23.X1), (.int .i64 xF_shape_Set__Parts_L23.Y1)]) (k := 36) rfl 0⟩) un_22 sz_29 zl_29 (by decide) by_29 rfl hl699 fun Al699 cl699 hAl699 => ?_
     refine Dr.tail (by kernel_rfl) ?_
     refine Tr.va rfl (fun _ _ h1 h2 => run_indexAddr el_40 (h1.ev rfl) hm691.2 (h1.ev rfl) hl6950 hl6951) ?_
     obtain ⟨l700, hl700, H⟩ := bnd H
     have hnl700 := sets_len hl700
     refine Tr.nestPut 8 35 37 (i := x692) rfl rfl rfl rfl (wn rfl) rfl rfl rfl rfl rfl hMl695 hAl699 sz_22 hl700 fun ms701 hmms701 => ?_
     have hfl700 : SlF Am691 (l700).length cm691 := by rw [hnl700]; exact hm691.2
     refine Tr.sel (lf := [(6, (.func (.func 84) #[] #[(.pointer (some ⟨b104, 0, none⟩))])), (16, (.map (some b584))), (17, (.slice Am691 (l700).length cm691)), (19, (.pointer (some ⟨b682, 0, none⟩))), (21, (.int .i64 x692)), (137, (.slice Ay100_0 (y100).length cy100_0)), (138, (.int .i64 (y100.length : Int))), (139, (.int .i64 (iF_shape_Set__Parts_L23 : Int))), (163, (.slice Am691 (l700).length cm691)), (164, (.int .i64 x692)), (165, (.slice Am691 (l700).length cm691)), (166, (.int .i64 x692)), (169, (.agg #[(.int .i64 xF_shape_Set__Parts_L23.X0), (.int .i64 xF_shape_Set__Parts_L23.Y0), (.int .i64 xF_shape_Set__Parts_L23.X1), (.int .i64 xF_shape_Set__Parts_L23.Y1)]))]) (le := [(2, ow Ay100_0 cy100_0 29 fl_TRect y100), (3, ow Ay683_0 cy683_0 3 fl_i64 y683.2), (4, bx b104 #[(.slice Ay683_0 (y683.2).length cy683_0)] 97), (7, mi b584 m690), (8, no Am691 (l700).length cm691 22 29 fl_TRect ms701), (32, bx b682 #[(.int .i64 xF_shape_Set__Parts_L23.X0), (.int .i64 xF_shape_Set__Parts_L23.Y0), (.int .i64 xF_shape_Set__Parts_L23.X1), (.int .i64 xF_shape_Set__Parts_L23.Y1)] 29)]) (.cons rfl (.cons rfl (.cons (slenV rfl (by rw [hnl700])) (.cons rfl (.cons rfl (.cons rfl (.cons rfl (.cons rfl (.cons (slenV rfl (by rw [hnl700])) (.cons rfl (.cons (slenV rfl (by rw [hnl700])) (.cons rfl (.cons rfl .nil))))))))))))) (.cons rfl (.cons rfl (.cons rfl (.cons rfl (.cons rfl (.cons rfl .nil)))))) ?_
     refine Tr.nil (Tr.normBlock (Tr.normThen ?_))
     refine Tr.region ?_
     refine Tr.va rfl (fun _ _ h1 h2 => run_add (h1.ev rfl) (h1.ev rfl)) ?_
     refine Tr.mv rfl rfl ?_
     refine Tr.nil ?_
     exact Tr.backThen leF_shape_Set__Parts_L23 (restF_shape_Set__Parts_L23, (iF_shape_Set__Parts_L23 + 1), y683.2, m690, l700, Ay683_0, cy683_0, Am691, cm691, ms701) ⟨rfl, range_tl hdF_shape_Set__Parts_L23, range_lt hdF_shape_Set__Parts_L23, H, hgy683_0, ⟨hmms701, hfl700⟩⟩ (.cons rfl (.cons rfl (.cons rfl (.cons rfl (.cons rfl (.cons (congrArg (fun z => some (Value.int .i64 z)) (range_up hdF_shape_Set__Parts_L23 hgy100_0)) .nil)))))) (.cons rfl (.cons rfl (.cons rfl (.cons rfl (.cons rfl .nil)))))
  | cons xF_shape_Set__Parts_L20 restF_shape_Set__Parts_L20 =>
   rw [F_shape_Set__Parts_L20.eq_2] at H
   refine Tr.sr ?_
   refine Tr.va rfl (fun _ _ h1 h2 => run_lss (h1.ev rfl) (h1.ev rfl)) ?_
   refine Tr.nil (Tr.normThen ?_)
   refine Tr.seq ?_
   refine Tr.condT rfl (range_on hdF_shape_Set__Parts_L20) ?_
   refine Tr.skip (Tr.normThen ?_)
   refine Tr.seq ?_
   refine Tr.block ?_
   refine Tr.sr ?_
   refine Tr.mv rfl rfl ?_
   obtain ⟨u706, hRu706, hoku706, hcu706⟩ := (hp0_0).el (range_at hdF_shape_Set__Parts_L20)
   obtain ⟨Au706_0, cu706_0⟩ := u706
   have hoku706_0 := hoku706
   replace hoku706_0 : Sl w.R w.W fl_i64 Au706_0 cu706_0 xF_shape_Set__Parts_L20.Xs := hoku706_0
   refine Tr.va rfl (fun _ _ h1 h2 => run_indexAddr el_65 (h1.ev rfl) hp0_0.form (h1.ev rfl) (Int.natCast_nonneg _) (range_lt hdF_shape_Set__Parts_L20)) ?_
   refine Tr.va rfl (fun _ _ h1 h2 => run_loadN (cs := [(.int .i64 xF_shape_Set__Parts_L20.Y0), (.int .i64 xF_shape_Set__Parts_L20.Y1), (.slice Au706_0 (xF_shape_Set__Parts_L20.Xs).length cu706_0)]) ag_104 sz_104 (h1.ev rfl) (CellsAt.take (rdR hRu706 hcu706 h2) 3) rfl) ?_
   refine Tr.alloc 40 (wn rfl) rfl ze_104 fun b707 => ?_
   refine Tr.asg rfl rfl ?_
   refine Tr.store 40 (cs := [(.int .i64 xF_shape_Set__Parts_L20.Y0), (.int .i64 xF_shape_Set__Parts_L20.Y1), (.slice Au706_0 (xF_shape_Set__Parts_L20.Xs).length cu706_0)]) [(.int .i64 xF_shape_Set__Parts_L20.Y0), (.int .i64 xF_shape_Set__Parts_L20.Y1), (.slice Au706_0 (xF_shape_Set__Parts_L20.Xs).length cu706_0)] (wn rfl) rfl rfl rfl rfl sz_104 rfl rfl rfl ?_
   refine Tr.nil (Tr.normThen ?_)
   refine Tr.sr ?_
   refine Tr.va rfl (fun _ _ h1 h2 => run_fieldAddr fo_104_2 (h1.ev rfl)) ?_
   refine Tr.va rfl (fun _ _ h1 h2 => run_load1 ag_97 (h1.ev rfl) (rdb h2 (vs := [(.int .i64 xF_shape_Set__Parts_L20.Y0), (.int .i64 xF_shape_Set__Parts_L20.Y1), (.slice Au706_0 (xF_shape_Set__Parts_L20.Xs).length cu706_0)]) (k := 40) rfl 2) rfl) ?_
   refine Tr.va rfl (fun _ _ h1 h2 => run_len un_97 (h1.ev rfl)) ?_
   refine Tr.va rfl (fun _ _ h1 h2 => run_quo (h1.ev rfl) (h1.ev rfl) (by decide)) ?_
   refine Tr.asg rfl rfl ?_
   refine Tr.nil (Tr.normThen ?_)
   have leJ819 := Bs.Le.refl w
   refine Tr.cutJ (σ := (List Int) × (Option Addr) × Nat) (fun w s => F_shape_Set__Parts_J30 x582 (F_shape_Set__Parts_L20 N p0 y100 restF_shape_Set__Parts_L20 (iF_shape_Set__Parts_L20 + 1)) xF_shape_Set__Parts_L20 s.1 = some r ∧ SlF s.2.1 (s.1).length s.2.2) (fun s => [(0, (.slice Ap0_0 (p0).length cp0_0)), (3, (.slice Ay100_0 (y100).length cy100_0)), (4, (.pointer (some ⟨b104, 0, none⟩))), (6, (.func (.func 84) #[] #[(.pointer (some ⟨b104, 0, none⟩))])), (7, (.int .i64 x582)), (11, (.int .i64 (w64 (Int.tdiv (xF_shape_Set__Parts_L20.Xs.length : Int) 2)))), (42, (.slice Ap0_0 (p0).length cp0_0)), (43, (.int .i64 (p0.length : Int))), (44, (.int .i64 (iF_shape_Set__Parts_L20 : Int)))]) (fun s => [(2, ow Ay100_0 cy100_0 29 fl_TRect y100), (3, ow s.2.1 s.2.2 3 fl_i64 s.1), (4, bx b104 #[(.slice s.2.1 (s.1).length s.2.2)] 97)]) ?_ ?_
   ·refine Tr.seq ?_
    refine Tr.draw (by kernel_rfl) (by kernel_rfl) ?_
    refine Tq.mv rfl rfl ?_
    refine Tq.va rfl (fun _ _ h1 h2 => run_gtr (h1.ev rfl) (h1.ev rfl)) ?_
    refine Tq.mv rfl rfl ?_
    obtain ⟨g823, hg823, H⟩ := bnd H
    refine Tq.mid 10 [(0, (.slice Ap0_0 (p0).length cp0_0)), (3, (.slice Ay100_0 (y100).length cy100_0)), (4, (.pointer (some ⟨b104, 0, none⟩))), (6, (.func (.func 84) #[] #[(.pointer (some ⟨b104, 0, none⟩))])), (7, (.int .i64 x582)), (8, (.int .i64 x583)), (11, (.int .i64 (w64 (Int.tdiv (xF_shape_Set__Parts_L20.Xs.length : Int) 2)))), (42, (.slice Ap0_0 (p0).length cp0_0)), (43, (.int .i64 (p0.length : Int))), (44, (.int .i64 (iF_shape_Set__Parts_L20 : Int))), (65, (.bool g823))] ?_ ?_
    ·cases hg930 : (decide (0 < (iF_shape_Set__Parts_L20 : Int)))
     ·rw [hg930] at hg823
      rw [if_neg (by decide)] at hg823
      have H := hg823
      obtain rfl := Option.some.inj H
      refine Tq.pass rfl rfl rfl rfl rfl (by decide) ?_
      refine Tq.pass rfl rfl rfl rfl rfl (by decide) ?_
      refine Tq.pass rfl rfl rfl rfl rfl (by decide) ?_
      refine Tq.pass rfl rfl rfl rfl rfl (by decide) ?_
      refine Tq.pass rfl rfl rfl rfl rfl (by decide) ?_
      refine Tq.pass rfl rfl rfl rfl rfl (by decide) ?_
      refine Tq.pass rfl rfl rfl rfl rfl (by decide) ?_
      refine Tq.pass rfl rfl rfl rfl rfl (by decide) ?_
      refine Tq.pass rfl rfl rfl rfl rfl (by decide) ?_
      refine Tq.va rfl (fun _ _ h1 h2 => run_pickF (h1.ev rfl) (h1.ev rfl)) ?_
      exact Tq.fin (.cons rfl (.cons rfl (.cons rfl (.cons rfl (.cons rfl (.cons rfl (.cons rfl (.cons rfl (.cons rfl (.cons rfl (.cons rfl .nil)))))))))))
     ·rw [hg930] at hg823
      rw [if_pos rfl] at hg823
      have H := hg823
      refine Tq.val (wg rfl rfl rfl) rfl (fun _ _ h1 h2 => run_move (h1.ev rfl)) ?_
      refine Tq.val (wg rfl rfl rfl) rfl (fun _ _ h1 h2 => run_move (h1.ev rfl)) ?_
      refine Tq.val (wg rfl rfl rfl) rfl (fun _ _ h1 h2 => run_sub (h1.ev rfl) (h1.ev rfl)) ?_
      obtain ⟨x824, hx824, H⟩ := bnd H
      obtain ⟨hx8240, hx8241, hx8242⟩ := idx_some hx824
      obtain ⟨u825, hRu825, hoku825, hcu825⟩ := (hp0_0).el hx8242
      obtain ⟨Au825_0, cu825_0⟩ := u825
      have hoku825_0 := hoku825
      replace hoku825_0 : Sl w.R w.W fl_i64 Au825_0 cu825_0 x824.Xs := hoku825_0
      refine Tq.val (wg rfl rfl rfl) rfl (fun _ _ h1 h2 => run_indexAddr el_65 (h1.ev rfl) hp0_0.form (h1.ev rfl) hx8240 hx8241) ?_
      refine Tq.val (wg rfl rfl rfl) rfl (fun _ _ h1 h2 => run_fieldAddr fo_104_1 (h1.ev rfl)) ?_
      refine Tq.val (wg rfl rfl rfl) rfl (fun _ _ h1 h2 => run_load1 ag_3 (h1.ev rfl) (CellsAt.drop (rdR hRu825 hcu825 h2) 1) rfl) ?_
      refine Tq.val (wg rfl rfl rfl) rfl (fun _ _ h1 h2 => run_fieldAddr fo_104_0 (h1.ev rfl)) ?_
      refine Tq.val (wg rfl rfl rfl) rfl (fun _ _ h1 h2 => run_load1 ag_3 (h1.ev rfl) (rdb h2 (vs := [(.int .i64 xF_shape_Set__Parts_L20.Y0), (.int .i64 xF_shape_Set__Parts_L20.Y1), (.slice Au706_0 (xF_shape_Set__Parts_L20.Xs).length cu706_0)]) (k := 40) rfl 0) rfl) ?_
      refine Tq.val (wg rfl rfl rfl) rfl (fun _ _ h1 h2 => run_eql (h1.ev rfl) (h1.ev rfl)) ?_
      refine Tq.va rfl (fun _ _ h1 h2 => run_pickT (h1.ev rfl) (h1.ev rfl)) ?_
      obtain rfl := Option.some.inj H
      exact Tq.fin (.cons rfl (.cons rfl (.cons rfl (.cons rfl (.cons rfl (.cons rfl (.cons rfl (.cons rfl (.cons rfl (.cons rfl (.cons rfl .nil)))))))))))
    ·refine Tq.nil (Tr.normThen ?_)
     refine Tr.cond rfl H (fun H => ?_) (fun H => ?_)
     ·refine Tr.sr ?_
      refine Tr.mv rfl rfl ?_
      refine Tr.mv rfl rfl ?_
      refine Tr.asg rfl rfl ?_
      refine Tr.asg rfl rfl ?_
      refine Tr.nil (Tr.normThen ?_)
      refine Tr.block ?_
      refine Tr.loop (σ := (List Int) × Int × Int × (Option Addr) × Nat) (fun m w s => F_shape_Set__Parts_L33 N y100 x582 (F_shape_Set__Parts_L20 N p0 y100 restF_shape_Set__Parts_L20 (iF_shape_Set__Parts_L20 + 1)) xF_shape_Set__Parts_L20 m s.1 s.2.1 s.2.2.1 = some r ∧ SlF s.2.2.2.1 (s.1).length s.2.2.2.2) (fun s => [(0, (.slice Ap0_0 (p0).length cp0_0)), (3, (.slice Ay100_0 (y100).length cy100_0)), (4, (.pointer (some ⟨b104, 0, none⟩))), (6, (.func (.func 84) #[] #[(.pointer (some ⟨b104, 0, none⟩))])), (7, (.int .i64 x582)), (11, (.int .i64 (w64 (Int.tdiv (xF_shape_Set__Parts_L20.Xs.length : Int) 2)))), (12, (.int .i64 s.2.1)), (13, (.int .i64 s.2.2.1)), (42, (.slice Ap0_0 (p0).length cp0_0)), (43, (.int .i64 (p0.length : Int))), (44, (.int .i64 (iF_shape_Set__Parts_L20 : Int)))]) (fun s => [(2, ow Ay100_0 cy100_0 29 fl_TRect y100), (3, ow s.2.2.2.1 s.2.2.2.2 3 fl_i64 s.1), (4, bx b104 #[(.slice s.2.2.2.1 (s.1).length s.2.2.2.2)] 97)]) N (l581, x583, x582, Al581, cl581) ⟨H, hl581⟩ (.cons rfl (.cons rfl (.cons rfl (.cons rfl (.cons rfl (.cons rfl (.cons rfl (.cons rfl (.cons rfl (.cons rfl (.cons rfl .nil))))))))))) (.cons rfl (.cons rfl (.cons rfl .nil))) (fun _ _ h => noSome (h.1)) ?_
      intro w leF_shape_Set__Parts_L33 mF_shape_Set__Parts_L33 s hs
      obtain ⟨l897, x898, x899, Al897, cl897⟩ := s
      obtain ⟨H, hl897⟩ := hs
      replace H : F_shape_Set__Parts_L33 N y100 x582 (F_shape_Set__Parts_L20 N p0 y100 restF_shape_Set__Parts_L20 (iF_shape_Set__Parts_L20 + 1)) xF_shape_Set__Parts_L20 (mF_shape_Set__Parts_L33 + 1) l897 x898 x899 = some r := H
      replace hp0_0 := hp0_0.leR leF_shape_Set__Parts_L33
      replace leB := leB.trans leF_shape_Set__Parts_L33
      replace leF_shape_Set__Parts_L1 := leF_shape_Set__Parts_L1.trans leF_shape_Set__Parts_L33
      replace leF_shape_Set__Parts_L20 := leF_shape_Set__Parts_L20.trans leF_shape_Set__Parts_L33
      replace leJ819 := leJ819.trans leF_shape_Set__Parts_L33
      replace hl897 : SlF Al897 (l897).length cl897 := hl897
      rw [F_shape_Set__Parts_L33.eq_2] at H
      show Tr _ _ (LF [(0, (.slice Ap0_0 (p0).length cp0_0)), (3, (.slice Ay100_0 (y100).length cy100_0)), (4, (.pointer (some ⟨b104, 0, none⟩))), (6, (.func (.func 84) #[] #[(.pointer (some ⟨b104, 0, none⟩))])), (7, (.int .i64 x582)), (11, (.int .i64 (w64 (Int.tdiv (xF_shape_Set__Parts_L20.Xs.length : Int) 2)))), (12, (.int .i64 x898)), (13, (.int .i64 x899)), (42, (.slice Ap0_0 (p0).length cp0_0)), (43, (.int .i64 (p0.length : Int))), (44, (.int .i64 (iF_shape_Set__Parts_L20 : Int)))]) (LE [(2, ow Ay100_0 cy100_0 29 fl_TRect y100), (3, ow Al897 cl897 3 fl_i64 l897), (4, bx b104 #[(.slice Al897 (l897).length cl897)] 97)]) _
      refine Tr.seq ?_
      refine Tr.sr ?_
      refine Tr.mv rfl rfl ?_
      refine Tr.mv rfl rfl ?_
      refine Tr.va rfl (fun _ _ h1 h2 => run_lss (h1.ev rfl) (h1.ev rfl)) ?_
      refine Tr.mv rfl rfl ?_
      refine Tr.mid0 6 [(0, (.slice Ap0_0 (p0).length cp0_0)), (3, (.slice Ay100_0 (y100).length cy100_0)), (4, (.pointer (some ⟨b104, 0, none⟩))), (6, (.func (.func 84) #[] #[(.pointer (some ⟨b104, 0, none⟩))])), (7, (.int .i64 x582)), (11, (.int .i64 (w64 (Int.tdiv (xF_shape_Set__Parts_L20.Xs.length : Int) 2)))), (12, (.int .i64 x898)), (13, (.int .i64 x899)), (42, (.slice Ap0_0 (p0).length cp0_0)), (43, (.int .i64 (p0.length : Int))), (44, (.int .i64 (iF_shape_Set__Parts_L20 : Int))), (77, (.bool ((decide (x898 < x582)) && (decide (x899 < (w64 (x582 + (w64 (Int.tdiv (xF_shape_Set__Parts_L20.Xs.length : Int) 2)))))))))] [(2, ow Ay100_0 cy100_0 29 fl_TRect y100), (3, ow Al897 cl897 3 fl_i64 l897), (4, bx b104 #[(.slice Al897 (l897).length cl897)] 97)] ?_ ?_
      ·cases hg930 : (decide (x898 < x582))
       ·refine Tr.pass rfl rfl rfl rfl rfl (by decide) ?_
        refine Tr.pass rfl rfl rfl rfl rfl (by decide) ?_
        refine Tr.pass rfl rfl rfl rfl rfl (by decide) ?_
        refine Tr.pass rfl rfl rfl rfl rfl (by decide) ?_
        refine Tr.pass rfl rfl rfl rfl rfl (by decide) ?_
        refine Tr.va rfl (fun _ _ h1 h2 => run_pickF (h1.ev rfl) (h1.ev rfl)) ?_
        exact Tr.nil (Tr.fin0 (.cons rfl (.cons rfl (.cons rfl (.cons rfl (.cons rfl (.cons rfl (.cons rfl (.cons rfl (.cons rfl (.cons rfl (.cons rfl (.cons rfl .nil)))))))))))) (.cons rfl (.cons rfl (.cons rfl .nil))))
       ·refine Tr.val (wg rfl rfl rfl) rfl (fun _ _ h1 h2 => run_move (h1.ev rfl)) ?_
        refine Tr.val (wg rfl rfl rfl) rfl (fun _ _ h1 h2 => run_move (h1.ev rfl)) ?_
        refine Tr.val (wg rfl rfl rfl) rfl (fun _ _ h1 h2 => run_move (h1.ev rfl)) ?_
        refine Tr.val (wg rfl rfl rfl) rfl (fun _ _ h1 h2 => run_add (h1.ev rfl) (h1.ev rfl)) ?_
        refine Tr.val (wg rfl rfl rfl) rfl (fun _ _ h1 h2 => run_lss (h1.ev rfl) (h1.ev rfl)) ?_
        refine Tr.va rfl (fun _ _ h1 h2 => run_pickT (h1.ev rfl) (h1.ev rfl)) ?_
        exact Tr.nil (Tr.fin0 (.cons rfl (.cons rfl (.cons rfl (.cons rfl (.cons rfl (.cons rfl (.cons rfl (.cons rfl (.cons rfl (.cons rfl (.cons rfl (.cons rfl .nil)))))))))))) (.cons rfl (.cons rfl (.cons rfl .nil))))
      ·show Tr _ _ (LF [(0, (.slice Ap0_0 (p0).length cp0_0)), (3, (.slice Ay100_0 (y100).length cy100_0)), (4, (.pointer (some ⟨b104, 0, none⟩))), (6, (.func (.func 84) #[] #[(.pointer (some ⟨b104, 0, none⟩))])), (7, (.int .i64 x582)), (11, (.int .i64 (w64 (Int.tdiv (xF_shape_Set__Parts_L20.Xs.length : Int) 2)))), (12, (.int .i64 x898)), (13, (.int .i64 x899)), (42, (.slice Ap0_0 (p0).length cp0_0)), (43, (.int .i64 (p0.length : Int))), (44, (.int .i64 (iF_shape_Set__Parts_L20 : Int))), (77, (.bool ((decide (x898 < x582)) && (decide (x899 < (w64 (x582 + (w64 (Int.tdiv (xF_shape_Set__Parts_L20.Xs.length : Int) 2)))))))))]) (LE [(2, ow Ay100_0 cy100_0 29 fl_TRect y100), (3, ow Al897 cl897 3 fl_i64 l897), (4, bx b104 #[(.slice Al897 (l897).length cl897)] 97)]) _
       refine Tr.nil (Tr.normThen ?_)
       refine Tr.cond rfl H (fun H => ?_) (fun H => ?_)
       ·refine Tr.skip (Tr.normThen ?_)
        refine Tr.block ?_
        have leJ914 := Bs.Le.refl w
        refine Tr.cutJ (σ := (List Int) × (Option Addr) × Nat) (fun w s => F_shape_Set__Parts_J34 y100 x898 x899 (F_shape_Set__Parts_L33 N y100 x582 (F_shape_Set__Parts_L20 N p0 y100 restF_shape_Set__Parts_L20 (iF_shape_Set__Parts_L20 + 1)) xF_shape_Set__Parts_L20 mF_shape_Set__Parts_L33) s.1 = some r ∧ SlF s.2.1 (s.1).length s.2.2) (fun s => [(0, (.slice Ap0_0 (p0).length cp0_0)), (3, (.slice Ay100_0 (y100).length cy100_0)), (4, (.pointer (some ⟨b104, 0, none⟩))), (6, (.func (.func 84) #[] #[(.pointer (some ⟨b104, 0, none⟩))])), (7, (.int .i64 x582)), (11, (.int .i64 (w64 (Int.tdiv (xF_shape_Set__Parts_L20.Xs.length : Int) 2)))), (12, (.int .i64 x898)), (13, (.int .i64 x899)), (42, (.slice Ap0_0 (p0).length cp0_0)), (43, (.int .i64 (p0.length : Int))), (44, (.int .i64 (iF_shape_Set__Parts_L20 : Int)))]) (fun s => [(2, ow Ay100_0 cy100_0 29 fl_TRect y100), (3, ow s.2.1 s.2.2 3 fl_i64 s.1), (4, bx b104 #[(.slice s.2.1 (s.1).length s.2.2)] 97)]) ?_ ?_
        ·refine Tr.seq ?_
         refine Tr.draw (by kernel_rfl) (by kernel_rfl) ?_
         refine Tq.mv rfl rfl ?_
         refine Tq.mv rfl rfl ?_
         obtain ⟨x918, hx918, H⟩ := bnd H
         obtain ⟨hx9180, hx9181, hx9182⟩ := idx_some hx918
         refine Tq.va rfl (fun _ _ h1 h2 => run_indexAddr el_22 (h1.ev rfl) hgy100_0 (h1.ev rfl) hx9180 hx9181) ?_
         refine Tq.va rfl (fun _ _ h1 h2 => run_fieldAddr fo_29_0 (h1.ev rfl)) ?_
         refine Tq.va rfl (fun _ _ h1 h2 => run_load1 ag_3 (h1.ev rfl) (CellsAt.drop (rdo ef_TRect (k := 2) h2 rfl hx9182) 0) rfl) ?_
         refine Tq.mv rfl rfl ?_
         refine Tq.mv rfl rfl ?_
         obtain ⟨x919, hx919, H⟩ := bnd H
         obtain ⟨hx9190, hx9191, hx9192⟩ := idx_some hx919
         refine Tq.va rfl (fun _ _ h1 h2 => run_indexAddr el_22 (h1.ev rfl) hgy100_0 (h1.ev rfl) hx9190 hx9191) ?_
         refine Tq.va rfl (fun _ _ h1 h2 => run_fieldAddr fo_29_2 (h1.ev rfl)) ?_
         refine Tq.va rfl (fun _ _ h1 h2 => run_load1 ag_3 (h1.ev rfl) (CellsAt.drop (rdo ef_TRect (k := 2) h2 rfl hx9192) 2) rfl) ?_
         refine Tq.va rfl (fun _ _ h1 h2 => run_lss (h1.ev rfl) (h1.ev rfl)) ?_
         refine Tq.mv rfl rfl ?_
         obtain ⟨g922, hg922, H⟩ := bnd H
         refine Tq.mid 12 [(0, (.slice Ap0_0 (p0).length cp0_0)), (3, (.slice Ay100_0 (y100).length cy100_0)), (4, (.pointer (some ⟨b104, 0, none⟩))), (6, (.func (.func 84) #[] #[(.pointer (some ⟨b104, 0, none⟩))])), (7, (.int .i64 x582)), (11, (.int .i64 (w64 (Int.tdiv (xF_shape_Set__Parts_L20.Xs.length : Int) 2)))), (12, (.int .i64 x898)), (13, (.int .i64 x899)), (42, (.slice Ap0_0 (p0).length cp0_0)), (43, (.int .i64 (p0.length : Int))), (44, (.int .i64 (iF_shape_Set__Parts_L20 : Int))), (101, (.bool g922))] ?_ ?_
         ·cases hg930 : (decide (x918.X0 < x919.X1))
          ·rw [hg930] at hg922
           rw [if_neg (by decide)] at hg922
           have H := hg922
           obtain rfl := Option.some.inj H
           refine Tq.pass rfl rfl rfl rfl rfl (by decide) ?_
           refine Tq.pass rfl rfl rfl rfl rfl (by decide) ?_
           refine Tq.pass rfl rfl rfl rfl rfl (by decide) ?_
           refine Tq.pass rfl rfl rfl rfl rfl (by decide) ?_
           refine Tq.pass rfl rfl rfl rfl rfl (by decide) ?_
           refine Tq.pass rfl rfl rfl rfl rfl (by decide) ?_
           refine Tq.pass rfl rfl rfl rfl rfl (by decide) ?_
           refine Tq.pass rfl rfl rfl rfl rfl (by decide) ?_
           refine Tq.pass rfl rfl rfl rfl rfl (by decide) ?_
           refine Tq.pass rfl rfl rfl rfl rfl (by decide) ?_
           refine Tq.pass rfl rfl rfl rfl rfl (by decide) ?_
           refine Tq.va rfl (fun _ _ h1 h2 => run_pickF (h1.ev rfl) (h1.ev rfl)) ?_
           exact Tq.fin (.cons rfl (.cons rfl (.cons rfl (.cons rfl (.cons rfl (.cons rfl (.cons rfl (.cons rfl (.cons rfl (.cons rfl (.cons rfl (.cons rfl .nil))))))))))))
          ·rw [hg930] at hg922
           rw [if_pos rfl] at hg922
           have H := hg922
           refine Tq.val (wg rfl rfl rfl) rfl (fun _ _ h1 h2 => run_move (h1.ev rfl)) ?_
           refine Tq.val (wg rfl rfl rfl) rfl (fun _ _ h1 h2 => run_move (h1.ev rfl)) ?_
           obtain ⟨x923, hx923, H⟩ := bnd H
           obtain ⟨hx9230, hx9231, hx9232⟩ := idx_some hx923
           refine Tq.val (wg rfl rfl rfl) rfl (fun _ _ h1 h2 => run_indexAddr el_22 (h1.ev rfl) hgy100_0 (h1.ev rfl) hx9230 hx9231) ?_
           refine Tq.val (wg rfl rfl rfl) rfl (fun _ _ h1 h2 => run_fieldAddr fo_29_0 (h1.ev rfl)) ?_
           refine Tq.val (wg rfl rfl rfl) rfl (fun _ _ h1 h2 => run_load1 ag_3 (h1.ev rfl) (CellsAt.drop (rdo ef_TRect (k := 2) h2 rfl hx9232) 0) rfl) ?_
           refine Tq.val (wg rfl rfl rfl) rfl (fun _ _ h1 h2 => run_move (h1.ev rfl)) ?_
           refine Tq.val (wg rfl rfl rfl) rfl (fun _ _ h1 h2 => run_move (h1.ev rfl)) ?_
           obtain ⟨x924, hx924, H⟩ := bnd H
           obtain ⟨hx9240, hx9241, hx9242⟩ := idx_some hx924
           refine Tq.val (wg rfl rfl rfl) rfl (fun _ _ h1 h2 => run_indexAddr el_22 (h1.ev rfl) hgy100_0 (h1.ev rfl) hx9240 hx9241) ?_
           refine Tq.val (wg rfl rfl rfl) rfl (fun _ _ h1 h2 => run_fieldAddr fo_29_2 (h1.ev rfl)) ?_
           refine Tq.val (wg rfl rfl rfl) rfl (fun _ _ h1 h2 => run_load1 ag_3 (h1.ev rfl) (CellsAt.drop (rdo ef_TRect (k := 2) h2 rfl hx9242) 2) rfl) ?_
           refine Tq.val (wg rfl rfl rfl) rfl (fun _ _ h1 h2 => run_lss (h1.ev rfl) (h1.ev rfl)) ?_
           refine Tq.va rfl (fun _ _ h1 h2 => run_pickT (h1.ev rfl) (h1.ev rfl)) ?_
           obtain rfl := Option.some.inj H
           exact Tq.fin (.cons rfl (.cons rfl (.cons rfl (.cons rfl (.cons rfl (.cons rfl (.cons rfl (.cons rfl (.cons rfl (.cons rfl (.cons rfl (.cons rfl .nil))))))))))))
         ·refine Tq.nil (Tr.normThen ?_)
          refine Tr.cond rfl H (fun H => ?_) (fun H => ?_)
          ·refine Tr.sr ?_
           refine Tr.mv rfl rfl ?_
           refine Tr.mv rfl rfl ?_
           obtain ⟨y925, hy925, H⟩ := bnd H
           refine Tr.callMC [4, 3] [bx b104 #[(.slice Al897 (l897).length cl897)] 97, ow Al897 cl897 3 fl_i64 l897] (U := (Option Addr × Nat)) (fun u => (.int .i64 y925.1)) (fun u => SlF u.1 (y925.2).length u.2) (fun u => [bx b104 #[(.slice u.1 (y925.2).length u.2)] 97, ow u.1 u.2 3 fl_i64 y925.2]) rfl (pk_cons rfl (pk_cons rfl pk_nil)) (fun _ => rfl) (wn rfl) rfl rfl Try.call84 (evl_cons rfl evl_nil) (fun W hW hp hE => F_shape_Set__Parts_1_ok N x898 l897 Al897 cl897 b104 y925 hy925 hE) ?_
           intro u hu
           obtain ⟨Ay925_0, cy925_0⟩ := u
           have gy925_0 := hu
           have hgy925_0 : SlF Ay925_0 (y925.2).length cy925_0 := gy925_0 --@phi
           show Tr _ _ (uf _ 104 (.int .i64 y925.1)) (up (up _ 3 (ow Ay925_0 cy925_0 3 fl_i64 y925.2)) 4 (bx b104 #[(.slice Ay925_0 (y925.2).length cy925_0)] 97)) _
           refine Tr.mv rfl rfl ?_
           refine Tr.mv rfl rfl ?_
           obtain ⟨y927, hy927, H⟩ := bnd H
           refine Tr.callMC [4, 3] [bx b104 #[(.slice Ay925_0 (y925.2).length cy925_0)] 97, ow Ay925_0 cy925_0 3 fl_i64 y925.2] (U := (Option Addr × Nat)) (fun u => (.int .i64 y927.1)) (fun u => SlF u.1 (y927.2).length u.2) (fun u => [bx b104 #[(.slice u.1 (y927.2).length u.2)] 97, ow u.1 u.2 3 fl_i64 y927.2]) rfl (pk_cons rfl (pk_cons rfl pk_nil)) (fun _ => rfl) (wn rfl) rfl rfl Try.call84 (evl_cons rfl evl_nil) (fun W hW hp hE => F_shape_Set__Parts_1_ok N x899 y925.2 Ay925_0 cy925_0 b104 y927 hy927 hE) ?_
           intro u hu
           obtain ⟨Ay927_0, cy927_0⟩ := u
           have gy927_0 := hu
           have hgy927_0 : SlF Ay927_0 (y927.2).length cy927_0 := gy927_0 --@phi
           show Tr _ _ (uf _ 107 (.int .i64 y927.1)) (up (up _ 3 (ow Ay927_0 cy927_0 3 fl_i64 y927.2)) 4 (bx b104 #[(.slice Ay927_0 (y927.2).length cy927_0)] 97)) _
           refine Tr.asg rfl rfl ?_
           refine Tr.asg rfl rfl ?_
           refine Tr.nil (Tr.normThen ?_)
           refine Tr.region ?_
           refine Tr.va rfl (fun _ _ h1 h2 => run_load1 ag_97 (h1.ev rfl) (rdb h2 (vs := [(.slice Ay927_0 (y927.2).length cy927_0)]) (k := 4) rfl 0) rfl) ?_
           refine Tr.mv rfl rfl ?_
           refine Tr.mv rfl rfl ?_
           refine Tr.va rfl (fun _ _ h1 h2 => run_max (h1.ev rfl) (h1.ev rfl) _) ?_
           refine Tr.mv rfl rfl ?_
           refine Tr.mv rfl rfl ?_
           refine Tr.va rfl (fun _ _ h1 h2 => run_min (h1.ev rfl) (h1.ev rfl) _) ?_
           obtain ⟨x929, hx929, H⟩ := bnd H
           obtain ⟨hx9290, hx9291, hx9292⟩ := idx_some hx929
           refine Tr.va rfl (fun _ _ h1 h2 => run_indexAddr el_97 (h1.ev rfl) hgy927_0 (h1.ev rfl) hx9290 hx9291) ?_
           obtain ⟨l930, hl930, H⟩ := bnd H
           have hnl930 := sets_len hl930
           refine Tr.storeEl 3 (t := fl_i64) (l := y927.2) (i := (max y925.1 y927.1)) (fo := 0) (cs := [(.int .i64 (min y925.1 y927.1))]) (min y925.1 y927.1) (wn rfl) rfl rfl rfl rfl rfl hx9292 sz_3 rfl (fun u _ => ⟨u, trivial, rfl⟩) rfl hl930 ?_
           have hfl930 : SlF Ay927_0 (l930).length cy927_0 := by rw [hnl930]; exact hgy927_0
           refine Tr.sel (lf := [(0, (.slice Ap0_0 (p0).length cp0_0)), (3, (.slice Ay100_0 (y100).length cy100_0)), (4, (.pointer (some ⟨b104, 0, none⟩))), (6, (.func (.func 84) #[] #[(.pointer (some ⟨b104, 0, none⟩))])), (7, (.int .i64 x582)), (11, (.int .i64 (w64 (Int.tdiv (xF_shape_Set__Parts_L20.Xs.length : Int) 2)))), (12, (.int .i64 x898)), (13, (.int .i64 x899)), (14, (.int .i64 y925.1)), (15, (.int .i64 y927.1)), (42, (.slice Ap0_0 (p0).length cp0_0)), (43, (.int .i64 (p0.length : Int))), (44, (.int .i64 (iF_shape_Set__Parts_L20 : Int))), (101, (.bool g922)), (102, (.func (.func 84) #[] #[(.pointer (some ⟨b104, 0, none⟩))])), (103, (.int .i64 x898)), (104, (.int .i64 y925.1)), (105, (.func (.func 84) #[] #[(.pointer (some ⟨b104, 0, none⟩))])), (106, (.int .i64 x899)), (107, (.int .i64 y927.1)), (108, (.slice Ay927_0 (l930).length cy927_0)), (109, (.int .i64 y925.1)), (110, (.int .i64 y927.1)), (111, (.int .i64 (max y925.1 y927.1))), (112, (.int .i64 y925.1)), (113, (.int .i64 y927.1)), (114, (.int .i64 (min y925.1 y927.1)))]) (le := [(2, ow Ay100_0 cy100_0 29 fl_TRect y100), (3, ow Ay927_0 cy927_0 3 fl_i64 l930), (4, bx b104 #[(.slice Ay927_0 (l930).length cy927_0)] 97)]) (.cons rfl (.cons rfl (.cons rfl (.cons rfl (.cons rfl (.cons rfl (.cons rfl (.cons rfl (.cons rfl (.cons rfl (.cons rfl (.cons rfl (.cons rfl (.cons rfl (.cons rfl (.cons rfl (.cons rfl (.cons rfl (.cons rfl (.cons rfl (.cons (slenV rfl (by rw [hnl930])) (.cons rfl (.cons rfl (.cons rfl (.cons rfl (.cons rfl (.cons rfl .nil))))))))))))))))))))))))))) (.cons rfl (.cons rfl (.cons (ebx rfl (by rw [hnl930])) .nil))) ?_
           refine Tr.nil ?_
           exact Tr.backThen leJ914 (l930, Ay927_0, cy927_0) ⟨H, hfl930⟩ (.cons rfl (.cons rfl (.cons rfl (.cons rfl (.cons rfl (.cons rfl (.cons rfl (.cons rfl (.cons rfl (.cons rfl (.cons rfl .nil))))))))))) (.cons rfl (.cons rfl (.cons rfl .nil)))
          ·refine Tr.skip ?_
           exact Tr.backThen leJ914 (l897, Al897, cl897) ⟨H, hl897⟩ (.cons rfl (.cons rfl (.cons rfl (.cons rfl (.cons rfl (.cons rfl (.cons rfl (.cons rfl (.cons rfl (.cons rfl (.cons rfl .nil))))))))))) (.cons rfl (.cons rfl (.cons rfl .nil)))
        ·intro w s hlJ915 hs
         obtain ⟨l913, Al913, cl913⟩ := s
         obtain ⟨H, hl913⟩ := hs
         replace H : F_shape_Set__Parts_J34 y100 x898 x899 (F_shape_Set__Parts_L33 N y100 x582 (F_shape_Set__Parts_L20 N p0 y100 restF_shape_Set__Parts_L20 (iF_shape_Set__Parts_L20 + 1)) xF_shape_Set__Parts_L20 mF_shape_Set__Parts_L33) l913 = some r := H
         replace hp0_0 := hp0_0.leR hlJ915
         replace leB := leB.trans hlJ915
         replace leF_shape_Set__Parts_L1 := leF_shape_Set__Parts_L1.trans hlJ915
         replace leF_shape_Set__Parts_L20 := leF_shape_Set__Parts_L20.trans hlJ915
         replace leJ819 := leJ819.trans hlJ915
         replace leF_shape_Set__Parts_L33 := leF_shape_Set__Parts_L33.trans hlJ915
         replace hl913 : SlF Al913 (l913).length cl913 := hl913
         unfold F_shape_Set__Parts_J34 at H
         show Tr _ _ (LF [(0, (.slice Ap0_0 (p0).length cp0_0)), (3, (.slice Ay100_0 (y100).length cy100_0)), (4, (.pointer (some ⟨b104, 0, none⟩))), (6, (.func (.func 84) #[] #[(.pointer (some ⟨b104, 0, none⟩))])), (7, (.int .i64 x582)), (11, (.int .i64 (w64 (Int.tdiv (xF_shape_Set__Parts_L20.Xs.length : Int) 2)))), (12, (.int .i64 x898)), (13, (.int .i64 x899)), (42, (.slice Ap0_0 (p0).length cp0_0)), (43, (.int .i64 (p0.length : Int))), (44, (.int .i64 (iF_shape_Set__Parts_L20 : Int)))]) (LE [(2, ow Ay100_0 cy100_0 29 fl_TRect y100), (3, ow Al913 cl913 3 fl_i64 l913), (4, bx b104 #[(.slice Al913 (l913).length cl913)] 97)]) _
         refine Tr.seq ?_
         refine Tr.draw (by kernel_rfl) (by kernel_rfl) ?_
         refine Tq.mv rfl rfl ?_
         refine Tq.mv rfl rfl ?_
         obtain ⟨x916, hx916, H⟩ := bnd H
         obtain ⟨hx9160, hx9161, hx9162⟩ := idx_some hx916
         refine Tq.va rfl (fun _ _ h1 h2 => run_indexAddr el_22 (h1.ev rfl) hgy100_0 (h1.ev rfl) hx9160 hx9161) ?_
         refine Tq.va rfl (fun _ _ h1 h2 => run_fieldAddr fo_29_2 (h1.ev rfl)) ?_
         refine Tq.va rfl (fun _ _ h1 h2 => run_load1 ag_3 (h1.ev rfl) (CellsAt.drop (rdo ef_TRect (k := 2) h2 rfl hx9162) 2) rfl) ?_
         refine Tq.mv rfl rfl ?_
         refine Tq.mv rfl rfl ?_
         obtain ⟨x917, hx917, H⟩ := bnd H
         obtain ⟨hx9170, hx9171, hx9172⟩ := idx_some hx917
         refine Tq.va rfl (fun _ _ h1 h2 => run_indexAddr el_22 (h1.ev rfl) hgy100_0 (h1.ev rfl) hx9170 hx9171) ?_
         refine Tq.va rfl (fun _ _ h1 h2 => run_fieldAddr fo_29_2 (h1.ev rfl)) ?_
         refine Tq.va rfl (fun _ _ h1 h2 => run_load1 ag_3 (h1.ev rfl) (CellsAt.drop (rdo ef_TRect (k := 2) h2 rfl hx9172) 2) rfl) ?_
         refine Tq.va rfl (fun _ _ h1 h2 => run_lss (h1.ev rfl) (h1.ev rfl)) ?_
         refine Tq.nil (Tr.normThen ?_)
         refine Tr.cond rfl H (fun H => ?_) (fun H => ?_)
         ·refine Tr.region ?_
          refine Tr.mv rfl rfl ?_
          refine Tr.va rfl (fun _ _ h1 h2 => run_add (h1.ev rfl) (h1.ev rfl)) ?_
          refine Tr.asg rfl rfl ?_
          refine Tr.nil (Tr.normBlock ?_)
          exact Tr.backThen leF_shape_Set__Parts_L33 (l913, (w64 (x898 + 1)), x899, Al913, cl913) ⟨H, hl913⟩ (.cons rfl (.cons rfl (.cons rfl (.cons rfl (.cons rfl (.cons rfl (.cons rfl (.cons rfl (.cons rfl (.cons rfl (.cons rfl .nil))))))))))) (.cons rfl (.cons rfl (.cons rfl .nil)))
         ·refine Tr.region ?_
          refine Tr.mv rfl rfl ?_
          refine Tr.va rfl (fun _ _ h1 h2 => run_add (h1.ev rfl) (h1.ev rfl)) ?_
          refine Tr.asg rfl rfl ?_
          refine Tr.nil (Tr.normBlock ?_)
          exact Tr.backThen leF_shape_Set__Parts_L33 (l913, x898, (w64 (x899 + 1)), Al913, cl913) ⟨H, hl913⟩ (.cons rfl (.cons rfl (.cons rfl (.cons rfl (.cons rfl (.cons rfl (.cons rfl (.cons rfl (.cons rfl (.cons rfl (.cons rfl .nil))))))))))) (.cons rfl (.cons rfl (.cons rfl .nil)))
       ·refine Tr.exit (Tr.exitThen (Tr.exitThen (Tr.exitBlock ?_)))
        exact Tr.backThen leJ819 (l897, Al897, cl897) ⟨H, hl897⟩ (.cons rfl (.cons rfl (.cons rfl (.cons rfl (.cons rfl (.cons rfl (.cons rfl (.cons rfl (.cons rfl .nil))))))))) (.cons rfl (.cons rfl (.cons rfl .nil)))
     ·refine Tr.skip ?_
      exact Tr.backThen leJ819 (l581, Al581, cl581) ⟨H, hl581⟩ (.cons rfl (.cons rfl (.cons rfl (.cons rfl (.cons rfl (.cons rfl (.cons rfl (.cons rfl (.cons rfl .nil))))))))) (.cons rfl (.cons rfl (.cons rfl .nil)))
   ·intro w s hlJ820 hs
    obtain ⟨l818, Al818, cl818⟩ := s
    obtain ⟨H, hl818⟩ := hs
    replace H : F_shape_Set__Parts_J30 x582 (F_shape_Set__Parts_L20 N p0 y100 restF_shape_Set__Parts_L20 (iF_shape_Set__Parts_L20 + 1)) xF_shape_Set__Parts_L20 l818 = some r := H
    replace hp0_0 := hp0_0.leR hlJ820
    replace leB := leB.trans hlJ820
    replace leF_shape_Set__Parts_L1 := leF_shape_Set__Parts_L1.trans hlJ820
    replace leF_shape_Set__Parts_L20 := leF_shape_Set__Parts_L20.trans hlJ820
    replace hl818 : SlF Al818 (l818).length cl818 := hl818
    unfold F_shape_Set__Parts_J30 at H
    show Tr _ _ (LF [(0, (.slice Ap0_0 (p0).length cp0_0)), (3, (.slice Ay100_0 (y100).length cy100_0)), (4, (.pointer (some ⟨b104, 0, none⟩))), (6, (.func (.func 84) #[] #[(.pointer (some ⟨b104, 0, none⟩))])), (7, (.int .i64 x582)), (11, (.int .i64 (w64 (Int.tdiv (xF_shape_Set__Parts_L20.Xs.length : Int) 2)))), (42, (.slice Ap0_0 (p0).length cp0_0)), (43, (.int .i64 (p0.length : Int))), (44, (.int .i64 (iF_shape_Set__Parts_L20 : Int)))]) (LE [(2, ow Ay100_0 cy100_0 29 fl_TRect y100), (3, ow Al818 cl818 3 fl_i64 l818), (4, bx b104 #[(.slice Al818 (l818).length cl818)] 97)]) _
    refine Tr.region ?_
    refine Tr.mv rfl rfl ?_
    refine Tr.mv rfl rfl ?_
    refine Tr.mv rfl rfl ?_
    refine Tr.va rfl (fun _ _ h1 h2 => run_add (h1.ev rfl) (h1.ev rfl)) ?_
    refine Tr.asg rfl rfl ?_
    refine Tr.asg rfl rfl ?_
    refine Tr.nil (Tr.normBlock (Tr.normThen ?_))
    refine Tr.region ?_
    refine Tr.va rfl (fun _ _ h1 h2 => run_add (h1.ev rfl) (h1.ev rfl)) ?_
    refine Tr.mv rfl rfl ?_
    refine Tr.nil ?_
    exact Tr.backThen leF_shape_Set__Parts_L20 (restF_shape_Set__Parts_L20, (iF_shape_Set__Parts_L20 + 1), l818, (w64 (x582 + (w64 (Int.tdiv (xF_shape_Set__Parts_L20.Xs.length : Int) 2)))), x582, Al818, cl818) ⟨rfl, range_tl hdF_shape_Set__Parts_L20, range_lt hdF_shape_Set__Parts_L20, H, hl818⟩ (.cons rfl (.cons rfl (.cons rfl (.cons rfl (.cons rfl (.cons rfl (.cons rfl (.cons rfl (.cons (congrArg (fun z => some (Value.int .i64 z)) (range_up hdF_shape_Set__Parts_L20 hp0_0.form)) .nil))))))))) (.cons rfl (.cons rfl (.cons rfl .nil)))

theorem F_shape_Pieces_ok (N : Nat) {w : Bs} (p0 : (List TRect)) (Ap0_0 : Option Addr) (cp0_0 : Nat) (hp0_0 : Sl w.R w.W fl_TRect Ap0_0 cp0_0 p0) (r : ((List (List TRect)) × Int)) (H : F_shape_Pieces N p0 = some r) (hE : HF w w.W (LEn [emp])) : Calls Try.prog 22 [(.slice Ap0_0 (p0).length cp0_0)].toArray w.W fun e W' => ∃ (w' : Bs) (u : (Option Addr × Nat)), w.Le w' ∧ e = .returned (.tuple #[(.slice u.1 (r.1).length u.2), (.int .i64 r.2)]) ∧ (SlF u.1 (r.1).length u.2) ∧ HF w' W' (LEn [ow u.1 u.2 22 fl_LTRect r.1]) := by
 unfold F_shape_Pieces at H
 have leB := Bs.Le.refl w
 refine Tr.enter (n := 28) Try.func22 rfl rfl rfl hE ?_
 refine Tr.sr ?_
 refine Tr.asg rfl rfl ?_
 refine Tr.nilOwn 1 22 fl_LTRect ?_
 show Tr _ _ (uf _ 2 (.slice none (([] : List (List TRect))).length 0)) _ _
 refine Tr.asg rfl rfl ?_
 refine Tr.nil (Tr.normThen ?_)
 refine Tr.seq ?_
 refine Tr.sr ?_
 refine Tr.mv rfl rfl ?_
 obtain ⟨y100, hy100, H⟩ := bnd H
 refine Tr.call0 (r := (.int .i64 y100)) (wn rfl) rfl Try.call18 (evl_cons rfl evl_nil) (fun W hW => F_shape_CheckRegion_ok N p0 Ap0_0 cp0_0 (hp0_0.ext hW.extAll) y100 hy100 (HF.start _)) ?_
 refine Tr.asg rfl rfl ?_
 refine Tr.nil (Tr.normThen ?_)
 refine Tr.sr ?_
 refine Tr.mv rfl rfl ?_
 refine Tr.va rfl (fun _ _ h1 h2 => run_neq (h1.ev rfl) (h1.ev rfl)) ?_
 refine Tr.nil (Tr.normThen ?_)
 refine Tr.cond rfl H (fun H => ?_) (fun H => ?_)
 ·refine Tr.sr ?_
  refine Tr.mv rfl rfl ?_
  refine Tr.asg rfl rfl ?_
  refine Tr.nilOwn 2 22 fl_LTRect ?_
  show Tr _ _ (uf _ 2 (.slice none (([] : List (List TRect))).length 0)) _ _
  refine Tr.asg rfl rfl ?_
  refine Tr.nil (Tr.normThen ?_)
  refine Tr.ret (Tr.retThen ?_)
  obtain rfl := Option.some.inj H
  exact Tr.out (m := [(.slice none (([] : List (List TRect))).length 0), (.int .i64 y100)]) [] (res_tmp rfl (res_tmp rfl res_nil)) (fun W hW => ⟨w, (none, 0), leB, rfl, slf_nil, hW.pick (ks := [2]) (by decide) (pk_cons rfl pk_nil)⟩)
 ·refine Tr.skip (Tr.normThen ?_)
  refine Tr.sr ?_
  refine Tr.asg rfl rfl ?_
  refine Tr.nilOwn 3 22 fl_LTRect ?_
  show Tr _ _ (uf _ 5 (.slice none (([] : List (List TRect))).length 0)) _ _
  refine Tr.nil (Tr.normThen ?_)
  refine Tr.seq ?_
  refine Tr.sr ?_
  refine Tr.mv rfl rfl ?_
  obtain ⟨y101, hy101, H⟩ := bnd H
  refine Tr.callG [4] [emp] (U := (Option Addr × Nat)) (fun u => (.slice u.1 (y101).length u.2)) (fun O W u => SlF u.1 (y101).length u.2) (fun u => [ow u.1 u.2 104 fl_TBand y101]) rfl (pk_cons rfl pk_nil) (fun _ => rfl) (wn rfl) rfl Try.call40 (evl_cons rfl evl_nil) (fun W hW hp hE => F_shape_SetOf_ok N p0 Ap0_0 cp0_0 (hp0_0.ext (hW.extS hp)) y101 hy101 hE) ?_
  intro w u le102 hu
  obtain ⟨Ay101_0, cy101_0⟩ := u
  have gy101_0 := hu
  replace hp0_0 := hp0_0.leR le102
  replace leB := leB.trans le102
  have hgy101_0 : SlF Ay101_0 (y101).length cy101_0 := gy101_0 --@phi
  show Tr _ _ (uf _ 14 (.slice Ay101_0 (y101).length cy101_0)) (up _ 4 (ow Ay101_0 cy101_0 104 fl_TBand y101)) _
  obtain ⟨y103, hy103, H⟩ := bnd H
  refine Tr.callG [5] [emp] (U := (Option Addr × Nat)) (fun u => (.slice u.1 (y103).length u.2)) (fun O W u => SlF u.1 (y103).length u.2) (fun u => [ow u.1 u.2 65 fl_LTBand y103]) rfl (pk_cons rfl pk_nil) (fun _ => rfl) (wn rfl) rfl Try.call47 (evl_cons rfl evl_nil) (fun W hW hp hE => F_shape_Set__Parts_ok N y101 Ay101_0 cy101_0 (hW.slS (k := 4) rfl hp rfl) y103 hy103 hE) ?_
  intro w u le104 hu
  obtain ⟨Ay103_0, cy103_0⟩ := u
  have gy103_0 := hu
  replace hp0_0 := hp0_0.leR le104
  replace leB := leB.trans le104
  have hgy103_0 : SlF Ay103_0 (y103).length cy103_0 := gy103_0 --@phi
  show Tr _ _ (uf _ 15 (.slice Ay103_0 (y103).length cy103_0)) (up _ 5 (ow Ay103_0 cy103_0 65 fl_LTBand y103)) _
  refine Tr.va rfl (fun _ _ h1 h2 => run_len un_75 (h1.ev rfl)) ?_
  refine Tr.mv rfl rfl ?_
  refine Tr.nil (Tr.normThen ?_)
  refine Tr.block ?_
  refine Tr.loop (σ := (List (List TBand)) × Nat × (List (List TRect)) × (Option Addr) × Nat) (fun m w s => m = s.1.length + 1 ∧ s.1 = List.drop s.2.1 y103 ∧ s.2.1 ≤ y103.length ∧ F_shape_Pieces_L1 N s.1 s.2.1 s.2.2.1 = some r ∧ SlF s.2.2.2.1 (s.2.2.1).length s.2.2.2.2) (fun s => [(5, (.slice s.2.2.2.1 (s.2.2.1).length s.2.2.2.2)), (15, (.slice Ay103_0 (y103).length cy103_0)), (16, (.int .i64 (y103.length : Int))), (17, (.int .i64 (s.2.1 : Int)))]) (fun s => [(3, ow s.2.2.2.1 s.2.2.2.2 22 fl_LTRect s.2.2.1), (5, ow Ay103_0 cy103_0 65 fl_LTBand y103)]) (y103.length + 1) (y103, 0, ([] : List (List TRect)), none, 0) ⟨rfl, rfl, Nat.zero_le _, H, slf_nil⟩ (.cons rfl (.cons rfl (.cons rfl (.cons rfl .nil)))) (.cons rfl (.cons rfl .nil)) (fun _ _ h => absurd h.1 (by simp)) ?_
  intro w leF_shape_Pieces_L1 m s hs
  obtain ⟨restF_shape_Pieces_L1, iF_shape_Pieces_L1, l127, Al127, cl127⟩ := s
  obtain ⟨hmF_shape_Pieces_L1, hdF_shape_Pieces_L1, hiF_shape_Pieces_L1, H, hl127⟩ := hs
  replace hdF_shape_Pieces_L1 : restF_shape_Pieces_L1 = List.drop iF_shape_Pieces_L1 y103 := hdF_shape_Pieces_L1
  replace H : F_shape_Pieces_L1 N restF_shape_Pieces_L1 iF_shape_Pieces_L1 l127 = some r := H
  replace hmF_shape_Pieces_L1 : m + 1 = restF_shape_Pieces_L1.length + 1 := hmF_shape_Pieces_L1
  replace leB := leB.trans leF_shape_Pieces_L1
  replace hl127 : SlF Al127 (l127).length cl127 := hl127
  obtain rfl : m = restF_shape_Pieces_L1.length := by omega
  clear hmF_shape_Pieces_L1
  show Tr _ _ (LF [(5, (.slice Al127 (l127).length cl127)), (15, (.slice Ay103_0 (y103).length cy103_0)), (16, (.int .i64 (y103.length : Int))), (17, (.int .i64 (iF_shape_Pieces_L1 : Int)))]) (LE [(3, ow Al127 cl127 22 fl_LTRect l127), (5, ow Ay103_0 cy103_0 65 fl_LTBand y103)]) _
  cases restF_shape_Pieces_L1 with
  | nil =>
   rw [F_shape_Pieces_L1.eq_1] at H
   refine Tr.sr ?_
   refine Tr.va rfl (fun _ _ h1 h2 => run_lss (h1.ev rfl) (h1.ev rfl)) ?_
   refine Tr.nil (Tr.normThen ?_)
   refine Tr.seq ?_
   refine Tr.condF rfl (range_nil hdF_shape_Pieces_L1) ?_
   refine Tr.exit (Tr.exitThen (Tr.exitThen (Tr.exitBlock (Tr.normThen ?_))))
   refine Tr.sr ?_
   refine Tr.mv rfl rfl ?_
   refine Tr.asg rfl rfl ?_
   refine Tr.asg rfl rfl ?_
   refine Tr.nil (Tr.normThen ?_)
   refine Tr.ret ?_
   obtain rfl := Option.some.inj H
   exact Tr.out (m := [(.slice Al127 (l127).length cl127), (.int .i64 0)]) [] (res_tmp rfl (res_tmp rfl res_nil)) (fun W hW => ⟨w, (Al127, cl127), leB, rfl, hl127, hW.pick (ks := [3]) (by decide) (pk_cons rfl pk_nil)⟩)
  | cons xF_shape_Pieces_L1 restF_shape_Pieces_L1 =>
   rw [F_shape_Pieces_L1.eq_2] at H
   refine Tr.sr ?_
   refine Tr.va rfl (fun _ _ h1 h2 => run_lss (h1.ev rfl) (h1.ev rfl)) ?_
   refine Tr.nil (Tr.normThen ?_)
   refine Tr.seq ?_
   refine Tr.condT rfl (range_on hdF_shape_Pieces_L1) ?_
   refine Tr.skip (Tr.normThen ?_)
   refine Tr.seq ?_
   refine Tr.block ?_
   refine Tr.sr ?_
   refine Tr.va rfl (fun _ _ h1 h2 => run_indexAddr el_75 (h1.ev rfl) hgy103_0 (h1.ev rfl) (Int.natCast_nonneg _) (range_lt hdF_shape_Pieces_L1)) ?_
   refine Tr.valE (U := (fl_LTBand).Ad) (fun u => (fl_LTBand).ok w.O w.W u xF_shape_Pieces_L1) (fun u => (.slice u.1 (xF_shape_Pieces_L1).length u.2)) (wn rfl) rfl (ldN (κ := 5) (t := fl_LTBand) (V := fun u => (.slice u.1 (xF_shape_Pieces_L1).length u.2)) rfl (range_at hdF_shape_Pieces_L1) (fun _ _ u h1 hc => run_load1 ag_65 (h1.ev rfl) hc rfl)) ?_
   intro u128 hoku128
   obtain ⟨Au128_0, cu128_0⟩ := u128
   have hoku128_0 := hoku128
   replace hoku128_0 : Sl w.O w.W fl_TBand Au128_0 cu128_0 xF_shape_Pieces_L1 := hoku128_0
   show Tr _ _ (uf _ 20 (.slice Au128_0 (xF_shape_Pieces_L1).length cu128_0)) _ _
   refine Tr.asg rfl rfl ?_
   refine Tr.nil (Tr.normThen ?_)
   refine Tr.region ?_
   refine Tr.mv rfl rfl ?_
   refine Tr.mv rfl rfl ?_
   obtain ⟨y129, hy129, H⟩ := bnd H
   refine Tr.callM [10] [emp] (U := (Option Addr × Nat)) (fun u => (.slice u.1 (y129).length u.2)) (fun u => SlF u.1 (y129).length u.2) (fun u => [ow u.1 u.2 29 fl_TRect y129]) rfl (pk_cons rfl pk_nil) (fun _ => rfl) (wn rfl) rfl Try.call41 (evl_cons rfl evl_nil) (fun W hW hp hE => F_shape_Set__Rects_ok N xF_shape_Pieces_L1 Au128_0 cu128_0 (hoku128_0.rl.ext (hW.extS hp)) y129 hy129 hE) ?_
   intro u hu
   obtain ⟨Ay129_0, cy129_0⟩ := u
   have gy129_0 := hu
   have hgy129_0 : SlF Ay129_0 (y129).length cy129_0 := gy129_0 --@phi
   show Tr _ _ (uf _ 23 (.slice Ay129_0 (y129).length cy129_0)) (up _ 10 (ow Ay129_0 cy129_0 29 fl_TRect y129)) _
   refine Tr.freeze 10 rfl fun w le132 hz131 => ?_
   replace hoku128_0 := hoku128_0.le le132
   replace leB := leB.trans le132
   replace leF_shape_Pieces_L1 := leF_shape_Pieces_L1.trans le132
   refine Tr.buildSlice 11 (e := 22) (vs := [(0, (.slice Ay129_0 (y129).length cy129_0))]) (cs := [(.slice Ay129_0 (y129).length cy129_0)]) (wn rfl) rfl (evs_cons rfl evs_nil) (by kernel_rfl) fun b133 => ?_
   obtain ⟨l134, hl134, H⟩ := bnd H
   refine Tr.append 3 (t := fl_LTRect) (l := l127) (l2 := [y129]) (wn rfl) rfl rfl rfl rfl (fun W hW => ⟨[[(.slice Ay129_0 (y129).length cy129_0)]], (.cons ⟨(Ay129_0, cy129_0), hz131, rfl⟩ .nil), rdb hW (vs := [(.slice Ay129_0 (y129).length cy129_0)]) (k := 11) rfl 0⟩) un_40 sz_22 zl_22 (by decide) by_22 rfl hl134 fun Al134 cl134 hAl134 => ?_
   refine Tr.asg rfl rfl ?_
   refine Tr.nil (Tr.normBlock (Tr.normThen ?_))
   refine Tr.region ?_
   refine Tr.va rfl (fun _ _ h1 h2 => run_add (h1.ev rfl) (h1.ev rfl)) ?_
   refine Tr.mv rfl rfl ?_
   refine Tr.nil ?_
   exact Tr.backThen leF_shape_Pieces_L1 (restF_shape_Pieces_L1, (iF_shape_Pieces_L1 + 1), l134, Al134, cl134) ⟨rfl, range_tl hdF_shape_Pieces_L1, range_lt hdF_shape_Pieces_L1, H, hAl134⟩ (.cons rfl (.cons rfl (.cons rfl (.cons (congrArg (fun z => some (Value.int .i64 z)) (range_up hdF_shape_Pieces_L1 hgy103_0)) .nil)))) (.cons rfl (.cons rfl .nil))

theorem F_etchhouseref1_within_ok {w : Bs} (p0 : Int) (p1 : Int) (p2 : Int) (r : Bool) (H : F_etchhouseref1_within p0 p1 p2 = some r) (hE : HF w w.W E0) : Calls Try.prog 152 [(.int .i64 p0), (.int .i64 p1), (.int .i64 p2)].toArray w.W fun e W' => e = .returned (.bool r) ∧ HF w W' E0 := by
 unfold F_etchhouseref1_within at H
 have leB := Bs.Le.refl w
 refine Tr.enter (n := 15) Try.func152 rfl rfl rfl hE ?_
 refine Tr.sr ?_
 refine Tr.asg rfl rfl ?_
 refine Tr.nil (Tr.normThen ?_)
 refine Tr.sr ?_
 refine Tr.mv rfl rfl ?_
 refine Tr.mv rfl rfl ?_
 refine Tr.va rfl (fun _ _ h1 h2 => run_geq (h1.ev rfl) (h1.ev rfl)) ?_
 refine Tr.mv rfl rfl ?_
 refine Tr.mid0 4 [(14, (.bool ((decide (p1 ≤ p0)) && (decide (p0 ≤ p2)))))] [] ?_ ?_
 ·cases hg99 : (decide (p1 ≤ p0))
  ·refine Tr.pass rfl rfl rfl rfl rfl (by decide) ?_
   refine Tr.pass rfl rfl rfl rfl rfl (by decide) ?_
   refine Tr.pass rfl rfl rfl rfl rfl (by decide) ?_
   refine Tr.va rfl (fun _ _ h1 h2 => run_pickF (h1.ev rfl) (h1.ev rfl)) ?_
   exact Tr.nil (Tr.fin0 (.cons rfl .nil) .nil)
  ·refine Tr.val (wg rfl rfl rfl) rfl (fun _ _ h1 h2 => run_move (h1.ev rfl)) ?_
   refine Tr.val (wg rfl rfl rfl) rfl (fun _ _ h1 h2 => run_move (h1.ev rfl)) ?_
   refine Tr.val (wg rfl rfl rfl) rfl (fun _ _ h1 h2 => run_leq (h1.ev rfl) (h1.ev rfl)) ?_
   refine Tr.va rfl (fun _ _ h1 h2 => run_pickT (h1.ev rfl) (h1.ev rfl)) ?_
   exact Tr.nil (Tr.fin0 (.cons rfl .nil) .nil)
 ·show Tr _ _ (LF [(14, (.bool ((decide (p1 ≤ p0)) && (decide (p0 ≤ p2)))))]) (LE []) _
  refine Tr.asg rfl rfl ?_
  refine Tr.nil (Tr.normThen ?_)
  refine Tr.ret ?_
  obtain rfl := Option.some.inj H
  exact Tr.out (m := [(.bool ((decide (p1 ≤ p0)) && (decide (p0 ≤ p2))))]) [] (res_tmp rfl res_nil) (fun W hW => ⟨rfl, hW.low leB⟩)

theorem F_etchhouseref1_At_ok {w : Bs} (p0 : Int) (r : Bool) (H : F_etchhouseref1_At p0 = some r) (hE : HF w w.W E0) : Calls Try.prog 120 [(.int .i64 p0)].toArray w.W fun e W' => e = .returned (.bool r) ∧ HF w W' E0 := by
 unfold F_etchhouseref1_At at H
 have leB := Bs.Le.refl w
 refine Tr.enter (n := 5) Try.func120 rfl rfl rfl hE ?_
 refine Tr.sr ?_
 refine Tr.asg rfl rfl ?_
 refine Tr.nil (Tr.normThen ?_)
 refine Tr.sr ?_
 refine Tr.mv rfl rfl ?_
 obtain ⟨y100, hy100, H⟩ := bnd H
 refine Tr.call0 (r := (.bool y100)) (wn rfl) rfl Try.call152 (evl_cons rfl (evl_cons rfl (evl_cons rfl evl_nil))) (fun W hW => F_etchhouseref1_within_ok p0 (-1000000) 1000000 y100 hy100 (HF.start _)) ?_
 refine Tr.asg rfl rfl ?_
 refine Tr.nil (Tr.normThen ?_)
 refine Tr.ret ?_
 obtain rfl := Option.some.inj H
 exact Tr.out (m := [(.bool y100)]) [] (res_tmp rfl res_nil) (fun W hW => ⟨rfl, hW.low leB⟩)

theorem F_etchhouseref1_CheckRects_ok (N : Nat) {w : Bs} (p0 : (List TRect)) (Ap0_0 : Option Addr) (cp0_0 : Nat) (hp0_0 : Sl w.R w.W fl_TRect Ap0_0 cp0_0 p0) (r : Int) (H : F_etchhouseref1_CheckRects N p0 = some r) (hE : HF w w.W E0) : Calls Try.prog 85 [(.slice Ap0_0 (p0).length cp0_0)].toArray w.W fun e W' => e = .returned (.int .i64 r) ∧ HF w W' E0 := by
 unfold F_etchhouseref1_CheckRects at H
 have leB := Bs.Le.refl w
 refine Tr.enter (n := 52) Try.func85 rfl rfl rfl hE ?_
 refine Tr.sr ?_
 refine Tr.asg rfl rfl ?_
 refine Tr.nil (Tr.normThen ?_)
 refine Tr.seq ?_
 refine Tr.sr ?_
 refine Tr.mv rfl rfl ?_
 refine Tr.va rfl (fun _ _ h1 h2 => run_len un_22 (h1.ev rfl)) ?_
 refine Tr.va rfl (fun _ _ h1 h2 => run_gtr (h1.ev rfl) (h1.ev rfl)) ?_
 refine Tr.nil (Tr.normThen ?_)
 refine Tr.cond rfl H (fun H => ?_) (fun H => ?_)
 ·refine Tr.sr ?_
  refine Tr.asg rfl rfl ?_
  refine Tr.nil (Tr.normThen ?_)
  refine Tr.ret (Tr.retThen ?_)
  obtain rfl := Option.some.inj H
  exact Tr.out (m := [(.int .i64 2)]) [] (res_tmp rfl res_nil) (fun W hW => ⟨rfl, hW.low leB⟩)
 ·refine Tr.skip (Tr.normThen ?_)
  refine Tr.seq ?_
  refine Tr.sr ?_
  refine Tr.asg rfl rfl ?_
  refine Tr.nil (Tr.normThen ?_)
  refine Tr.block ?_
  refine Tr.loop (σ := Int) (fun m w s => F_etchhouseref1_CheckRects_L1 p0 m s = some r) (fun s => [(0, (.slice Ap0_0 (p0).length cp0_0)), (3, (.int .i64 s))]) (fun s => []) N 0 H (.cons rfl (.cons rfl .nil)) .nil (fun _ _ h => noSome (h)) ?_
  intro w leF_etchhouseref1_CheckRects_L1 mF_etchhouseref1_CheckRects_L1 x127 hs
  have H := hs
  replace H : F_etchhouseref1_CheckRects_L1 p0 (mF_etchhouseref1_CheckRects_L1 + 1) x127 = some r := H
  replace hp0_0 := hp0_0.leR leF_etchhouseref1_CheckRects_L1
  replace leB := leB.trans leF_etchhouseref1_CheckRects_L1
  rw [F_etchhouseref1_CheckRects_L1.eq_2] at H
  show Tr _ _ (LF [(0, (.slice Ap0_0 (p0).length cp0_0)), (3, (.int .i64 x127))]) (LE []) _
  refine Tr.seq ?_
  refine Tr.sr ?_
  refine Tr.mv rfl rfl ?_
  refine Tr.mv rfl rfl ?_
  refine Tr.va rfl (fun _ _ h1 h2 => run_len un_22 (h1.ev rfl)) ?_
  refine Tr.va rfl (fun _ _ h1 h2 => run_lss (h1.ev rfl) (h1.ev rfl)) ?_
  refine Tr.nil (Tr.normThen ?_)
  refine Tr.cond rfl H (fun H => ?_) (fun H => ?_)
  ·refine Tr.skip (Tr.normThen ?_)
   refine Tr.seq ?_
   refine Tr.block ?_
   refine Tr.sr ?_
   refine Tr.mv rfl rfl ?_
   refine Tr.mv rfl rfl ?_
   obtain ⟨x128, hx128, H⟩ := bnd H
   obtain ⟨hx1280, hx1281, hx1282⟩ := idx_some hx128
   refine Tr.va rfl (fun _ _ h1 h2 => run_indexAddr el_22 (h1.ev rfl) hp0_0.form (h1.ev rfl) hx1280 hx1281) ?_
   refine Tr.va rfl (fun _ _ h1 h2 => run_loadN (cs := [(.int .i64 x128.X0), (.int .i64 x128.Y0), (.int .i64 x128.X1), (.int .i64 x128.Y1)]) ag_29 sz_29 (h1.ev rfl) (CellsAt.take (rdF ef_TRect hp0_0 hx1282 h2) 4) rfl) ?_
   refine Tr.alloc 3 (wn rfl) rfl ze_29 fun b129 => ?_
   refine Tr.store 3 (cs := [(.int .i64 x128.X0), (.int .i64 x128.Y0), (.int .i64 x128.X1), (.int .i64 x128.Y1)]) [(.int .i64 x128.X0), (.int .i64 x128.Y0), (.int .i64 x128.X1), (.int .i64 x128.Y1)] (wn rfl) rfl rfl rfl rfl sz_29 rfl rfl rfl ?_
   refine Tr.nil (Tr.normThen ?_)
   refine Tr.seq ?_
   refine Tr.sr ?_
   refine Tr.va rfl (fun _ _ h1 h2 => run_fieldAddr fo_29_0 (h1.ev rfl)) ?_
   refine Tr.va rfl (fun _ _ h1 h2 => run_load1 ag_3 (h1.ev rfl) (rdb h2 (vs := [(.int .i64 x128.X0), (.int .i64 x128.Y0), (.int .i64 x128.X1), (.int .i64 x128.Y1)]) (k := 3) rfl 0) rfl) ?_
   obtain ⟨y130, hy130, H⟩ := bnd H
   refine Tr.call0 (r := (.bool y130)) (wn rfl) rfl Try.call120 (evl_cons rfl evl_nil) (fun W hW => F_etchhouseref1_At_ok x128.X0 y130 hy130 (HF.start _)) ?_
   refine Tr.va rfl (fun _ _ h1 h2 => run_not (h1.ev rfl)) ?_
   refine Tr.mv rfl rfl ?_
   obtain ⟨g132, hg132, H⟩ := bnd H
   refine Tr.mid0 5 [(0, (.slice Ap0_0 (p0).length cp0_0)), (3, (.int .i64 x127)), (4, (.pointer (some ⟨b129, 0, none⟩))), (27, (.bool g132))] [(3, bx b129 #[(.int .i64 x128.X0), (.int .i64 x128.Y0), (.int .i64 x128.X1), (.int .i64 x128.Y1)] 29)] ?_ ?_
   ·cases hg139 : (!y130)
    ·rw [hg139] at hg132
     rw [if_neg (by decide)] at hg132
     have H := hg132
     refine Tr.val (wg rfl rfl rfl) rfl (fun _ _ h1 h2 => run_fieldAddr fo_29_1 (h1.ev rfl)) ?_
     refine Tr.val (wg rfl rfl rfl) rfl (fun _ _ h1 h2 => run_load1 ag_3 (h1.ev rfl) (rdb h2 (vs := [(.int .i64 x128.X0), (.int .i64 x128.Y0), (.int .i64 x128.X1), (.int .i64 x128.Y1)]) (k := 3) rfl 1) rfl) ?_
     obtain ⟨y133, hy133, H⟩ := bnd H
     refine Tr.call0 (r := (.bool y133)) (wg rfl rfl rfl) rfl Try.call120 (evl_cons rfl evl_nil) (fun W hW => F_etchhouseref1_At_ok x128.Y0 y133 hy133 (HF.start _)) ?_
     refine Tr.val (wg rfl rfl rfl) rfl (fun _ _ h1 h2 => run_not (h1.ev rfl)) ?_
     refine Tr.va rfl (fun _ _ h1 h2 => run_pickF (h1.ev rfl) (h1.ev rfl)) ?_
     obtain rfl := Option.some.inj H
     exact Tr.nil (Tr.fin0 (.cons rfl (.cons rfl (.cons rfl (.cons rfl .nil)))) (.cons rfl .nil))
    ·rw [hg139] at hg132
     rw [if_pos rfl] at hg132
     have H := hg132
     obtain rfl := Option.some.inj H
     refine Tr.pass rfl rfl rfl rfl rfl (by decide) ?_
     refine Tr.pass rfl rfl rfl rfl rfl (by decide) ?_
     refine Tr.pass rfl rfl rfl rfl rfl (by decide) ?_
     refine Tr.pass rfl rfl rfl rfl rfl (by decide) ?_
     refine Tr.va rfl (fun _ _ h1 h2 => run_pickT (h1.ev rfl) (h1.ev rfl)) ?_
     exact Tr.nil (Tr.fin0 (.cons rfl (.cons rfl (.cons rfl (.cons rfl .nil)))) (.cons rfl .nil))
   ·show Tr _ _ (LF [(0, (.slice Ap0_0 (p0).length cp0_0)), (3, (.int .i64 x127)), (4, (.pointer (some ⟨b129, 0, none⟩))), (27, (.bool g132))]) (LE [(3, bx b129 #[(.int .i64 x128.X0), (.int .i64 x128.Y0), (.int .i64 x128.X1), (.int .i64 x128.Y1)] 29)]) _
    refine Tr.mv rfl rfl ?_
    obtain ⟨g135, hg135, H⟩ := bnd H
    refine Tr.mid0 5 [(0, (.slice Ap0_0 (p0).length cp0_0)), (3, (.int .i64 x127)), (4, (.pointer (some ⟨b129, 0, none⟩))), (33, (.bool g135))] [(3, bx b129 #[(.int .i64 x128.X0), (.int .i64 x128.Y0), (.int .i64 x128.X1), (.int .i64 x128.Y1)] 29)] ?_ ?_
    ·cases hg139 : g132
     ·rw [hg139] at hg135
      rw [if_neg (by decide)] at hg135
      have H := hg135
      refine Tr.val (wg rfl rfl rfl) rfl (fun _ _ h1 h2 => run_fieldAddr fo_29_2 (h1.ev rfl)) ?_
      refine Tr.val (wg rfl rfl rfl) rfl (fun _ _ h1 h2 => run_load1 ag_3 (h1.ev rfl) (rdb h2 (vs := [(.int .i64 x128.X0), (.int .i64 x128.Y0), (.int .i64 x128.X1), (.int .i64 x128.Y1)]) (k := 3) rfl 2) rfl) ?_
      obtain ⟨y136, hy136, H⟩ := bnd H
      refine Tr.call0 (r := (.bool y136)) (wg rfl rfl rfl) rfl Try.call120 (evl_cons rfl evl_nil) (fun W hW => F_etchhouseref1_At_ok x128.X1 y136 hy136 (HF.start _)) ?_
      refine Tr.val (wg rfl rfl rfl) rfl (fun _ _ h1 h2 => run_not (h1.ev rfl)) ?_
      refine Tr.va rfl (fun _ _ h1 h2 => run_pickF (h1.ev rfl) (h1.ev rfl)) ?_
      obtain rfl := Option.some.inj H
      exact Tr.nil (Tr.fin0 (.cons rfl (.cons rfl (.cons rfl (.cons rfl .nil)))) (.cons rfl .nil))
     ·rw [hg139] at hg135
      rw [if_pos rfl] at hg135
      have H := hg135
      obtain rfl := Option.some.inj H
      refine Tr.pass rfl rfl rfl rfl rfl (by decide) ?_
      refine Tr.pass rfl rfl rfl rfl rfl (by decide) ?_
      refine Tr.pass rfl rfl rfl rfl rfl (by decide) ?_
      refine Tr.pass rfl rfl rfl rfl rfl (by decide) ?_
      refine Tr.va rfl (fun _ _ h1 h2 => run_pickT (h1.ev rfl) (h1.ev rfl)) ?_
      exact Tr.nil (Tr.fin0 (.cons rfl (.cons rfl (.cons rfl (.cons rfl .nil)))) (.cons rfl .nil))
    ·show Tr _ _ (LF [(0, (.slice Ap0_0 (p0).length cp0_0)), (3, (.int .i64 x127)), (4, (.pointer (some ⟨b129, 0, none⟩))), (33, (.bool g135))]) (LE [(3, bx b129 #[(.int .i64 x128.X0), (.int .i64 x128.Y0), (.int .i64 x128.X1), (.int .i64 x128.Y1)] 29)]) _
     refine Tr.mv rfl rfl ?_
     obtain ⟨g138, hg138, H⟩ := bnd H
     refine Tr.mid0 5 [(0, (.slice Ap0_0 (p0).length cp0_0)), (3, (.int .i64 x127)), (4, (.pointer (some ⟨b129, 0, none⟩))), (39, (.bool g138))] [(3, bx b129 #[(.int .i64 x128.X0), (.int .i64 x128.Y0), (.int .i64 x128.X1), (.int .i64 x128.Y1)] 29)] ?_ ?_
     ·cases hg139 : g135
      ·rw [hg139] at hg138
       rw [if_neg (by decide)] at hg138
       have H := hg138
       refine Tr.val (wg rfl rfl rfl) rfl (fun _ _ h1 h2 => run_fieldAddr fo_29_3 (h1.ev rfl)) ?_
       refine Tr.val (wg rfl rfl rfl) rfl (fun _ _ h1 h2 => run_load1 ag_3 (h1.ev rfl) (rdb h2 (vs := [(.int .i64 x128.X0), (.int .i64 x128.Y0), (.int .i64 x128.X1), (.int .i64 x128.Y1)]) (k := 3) rfl 3) rfl) ?_
       obtain ⟨y139, hy139, H⟩ := bnd H
       refine Tr.call0 (r := (.bool y139)) (wg rfl rfl rfl) rfl Try.call120 (evl_cons rfl evl_nil) (fun W hW => F_etchhouseref1_At_ok x128.Y1 y139 hy139 (HF.start _)) ?_
       refine Tr.val (wg rfl rfl rfl) rfl (fun _ _ h1 h2 => run_not (h1.ev rfl)) ?_
       refine Tr.va rfl (fun _ _ h1 h2 => run_pickF (h1.ev rfl) (h1.ev rfl)) ?_
       obtain rfl := Option.some.inj H
       exact Tr.nil (Tr.fin0 (.cons rfl (.cons rfl (.cons rfl (.cons rfl .nil)))) (.cons rfl .nil))
      ·rw [hg139] at hg138
       rw [if_pos rfl] at hg138
       have H := hg138
       obtain rfl := Option.some.inj H
       refine Tr.pass rfl rfl rfl rfl rfl (by decide) ?_
       refine Tr.pass rfl rfl rfl rfl rfl (by decide) ?_
       refine Tr.pass rfl rfl rfl rfl rfl (by decide) ?_
       refine Tr.pass rfl rfl rfl rfl rfl (by decide) ?_
       refine Tr.va rfl (fun _ _ h1 h2 => run_pickT (h1.ev rfl) (h1.ev rfl)) ?_
       exact Tr.nil (Tr.fin0 (.cons rfl (.cons rfl (.cons rfl (.cons rfl .nil)))) (.cons rfl .nil))
     ·show Tr _ _ (LF [(0, (.slice Ap0_0 (p0).length cp0_0)), (3, (.int .i64 x127)), (4, (.pointer (some ⟨b129, 0, none⟩))), (39, (.bool g138))]) (LE [(3, bx b129 #[(.int .i64 x128.X0), (.int .i64 x128.Y0), (.int .i64 x128.X1), (.int .i64 x128.Y1)] 29)]) _
      refine Tr.nil (Tr.normThen ?_)
      refine Tr.cond rfl H (fun H => ?_) (fun H => ?_)
      ·refine Tr.sr ?_
       refine Tr.asg rfl rfl ?_
       refine Tr.nil (Tr.normThen ?_)
       refine Tr.ret (Tr.retThen (Tr.retBlock (Tr.retThen (Tr.retThen (Tr.retBlock (Tr.retThen ?_))))))
       obtain rfl := Option.some.inj H
       exact Tr.out (m := [(.int .i64 1)]) [] (res_tmp rfl res_nil) (fun W hW => ⟨rfl, hW.low leB⟩)
      ·refine Tr.skip (Tr.normThen ?_)
       refine Tr.sr ?_
       refine Tr.va rfl (fun _ _ h1 h2 => run_fieldAddr fo_29_2 (h1.ev rfl)) ?_
       refine Tr.va rfl (fun _ _ h1 h2 => run_load1 ag_3 (h1.ev rfl) (rdb h2 (vs := [(.int .i64 x128.X0), (.int .i64 x128.Y0), (.int .i64 x128.X1), (.int .i64 x128.Y1)]) (k := 3) rfl 2) rfl) ?_
       refine Tr.va rfl (fun _ _ h1 h2 => run_fieldAddr fo_29_0 (h1.ev rfl)) ?_
       refine Tr.va rfl (fun _ _ h1 h2 => run_load1 ag_3 (h1.ev rfl) (rdb h2 (vs := [(.int .i64 x128.X0), (.int .i64 x128.Y0), (.int .i64 x128.X1), (.int .i64 x128.Y1)]) (k := 3) rfl 0) rfl) ?_
       refine Tr.va rfl (fun _ _ h1 h2 => run_leq (h1.ev rfl) (h1.ev rfl)) ?_
       refine Tr.mv rfl rfl ?_
       refine Tr.mid0 6 [(0, (.slice Ap0_0 (p0).length cp0_0)), (3, (.int .i64 x127)), (51, (.bool ((decide (x128.X1 ≤ x128.X0)) || (decide (x128.Y1 ≤ x128.Y0)))))] [(3, bx b129 #[(.int .i64 x128.X0), (.int .i64 x128.Y0), (.int .i64 x128.X1), (.int .i64 x128.Y1)] 29)] ?_ ?_
       ·cases hg139 : (decide (x128.X1 ≤ x128.X0))
        ·refine Tr.val (wg rfl rfl rfl) rfl (fun _ _ h1 h2 => run_fieldAddr fo_29_3 (h1.ev rfl)) ?_
         refine Tr.val (wg rfl rfl rfl) rfl (fun _ _ h1 h2 => run_load1 ag_3 (h1.ev rfl) (rdb h2 (vs := [(.int .i64 x128.X0), (.int .i64 x128.Y0), (.int .i64 x128.X1), (.int .i64 x128.Y1)]) (k := 3) rfl 3) rfl) ?_
         refine Tr.val (wg rfl rfl rfl) rfl (fun _ _ h1 h2 => run_fieldAddr fo_29_1 (h1.ev rfl)) ?_
         refine Tr.val (wg rfl rfl rfl) rfl (fun _ _ h1 h2 => run_load1 ag_3 (h1.ev rfl) (rdb h2 (vs := [(.int .i64 x128.X0), (.int .i64 x128.Y0), (.int .i64 x128.X1), (.int .i64 x128.Y1)]) (k := 3) rfl 1) rfl) ?_
         refine Tr.val (wg rfl rfl rfl) rfl (fun _ _ h1 h2 => run_leq (h1.ev rfl) (h1.ev rfl)) ?_
         refine Tr.va rfl (fun _ _ h1 h2 => run_pickF (h1.ev rfl) (h1.ev rfl)) ?_
         exact Tr.nil (Tr.fin0 (.cons rfl (.cons rfl (.cons rfl .nil))) (.cons rfl .nil))
        ·refine Tr.pass rfl rfl rfl rfl rfl (by decide) ?_
         refine Tr.pass rfl rfl rfl rfl rfl (by decide) ?_
         refine Tr.pass rfl rfl rfl rfl rfl (by decide) ?_
         refine Tr.pass rfl rfl rfl rfl rfl (by decide) ?_
         refine Tr.pass rfl rfl rfl rfl rfl (by decide) ?_
         refine Tr.va rfl (fun _ _ h1 h2 => run_pickT (h1.ev rfl) (h1.ev rfl)) ?_
         exact Tr.nil (Tr.fin0 (.cons rfl (.cons rfl (.cons rfl .nil))) (.cons rfl .nil))
       ·show Tr _ _ (LF [(0, (.slice Ap0_0 (p0).length cp0_0)), (3, (.int .i64 x127)), (51, (.bool ((decide (x128.X1 ≤ x128.X0)) || (decide (x128.Y1 ≤ x128.Y0)))))]) (LE [(3, bx b129 #[(.int .i64 x128.X0), (.int .i64 x128.Y0), (.int .i64 x128.X1), (.int .i64 x128.Y1)] 29)]) _
        refine Tr.nil (Tr.normThen ?_)
        refine Tr.cond rfl H (fun H => ?_) (fun H => ?_)
        ·refine Tr.sr ?_
         refine Tr.asg rfl rfl ?_
         refine Tr.nil (Tr.normThen ?_)
         refine Tr.ret (Tr.retBlock (Tr.retThen (Tr.retThen (Tr.retBlock (Tr.retThen ?_)))))
         obtain rfl := Option.some.inj H
         exact Tr.out (m := [(.int .i64 13)]) [] (res_tmp rfl res_nil) (fun W hW => ⟨rfl, hW.low leB⟩)
        ·refine Tr.skip (Tr.normBlock (Tr.normThen ?_))
         refine Tr.region ?_
         refine Tr.mv rfl rfl ?_
         refine Tr.va rfl (fun _ _ h1 h2 => run_add (h1.ev rfl) (h1.ev rfl)) ?_
         refine Tr.asg rfl rfl ?_
         refine Tr.nil ?_
         exact Tr.backThen leF_etchhouseref1_CheckRects_L1 (w64 (x127 + 1)) H (.cons rfl (.cons rfl .nil)) .nil
  ·refine Tr.exit (Tr.exitThen (Tr.exitThen (Tr.exitBlock (Tr.normThen ?_))))
   refine Tr.sr ?_
   refine Tr.asg rfl rfl ?_
   refine Tr.nil (Tr.normThen ?_)
   refine Tr.ret ?_
   obtain rfl := Option.some.inj H
   exact Tr.out (m := [(.int .i64 0)]) [] (res_tmp rfl res_nil) (fun W hW => ⟨rfl, hW.low leB⟩)

theorem F_etchhouseref1_before_ok {w : Bs} (p0 : TRect) (p1 : TRect) (r : Bool) (H : F_etchhouseref1_before p0 p1 = some r) (hE : HF w w.W E0) : Calls Try.prog 86 [(.agg #[(.int .i64 p0.X0), (.int .i64 p0.Y0), (.int .i64 p0.X1), (.int .i64 p0.Y1)]), (.agg #[(.int .i64 p1.X0), (.int .i64 p1.Y0), (.int .i64 p1.X1), (.int .i64 p1.Y1)])].toArray w.W fun e W' => e = .returned (.bool r) ∧ HF w W' E0 := by
 unfold F_etchhouseref1_before at H
 have leB := Bs.Le.refl w
 refine Tr.enter (n := 24) Try.func86 rfl rfl rfl hE ?_
 refine Tr.sr ?_
 refine Tr.box 1 (cs := [(.int .i64 p0.X0), (.int .i64 p0.Y0), (.int .i64 p0.X1), (.int .i64 p0.Y1)]) (wn rfl) rfl rfl rfl fun b100 => ?_
 refine Tr.box 2 (cs := [(.int .i64 p1.X0), (.int .i64 p1.Y0), (.int .i64 p1.X1), (.int .i64 p1.Y1)]) (wn rfl) rfl rfl rfl fun b101 => ?_
 refine Tr.asg rfl rfl ?_
 refine Tr.nil (Tr.normThen ?_)
 refine Tr.sr ?_
 refine Tr.va rfl (fun _ _ h1 h2 => run_fieldAddr fo_29_1 (h1.ev rfl)) ?_
 refine Tr.va rfl (fun _ _ h1 h2 => run_load1 ag_3 (h1.ev rfl) (rdb h2 (vs := [(.int .i64 p0.X0), (.int .i64 p0.Y0), (.int .i64 p0.X1), (.int .i64 p0.Y1)]) (k := 1) rfl 1) rfl) ?_
 refine Tr.va rfl (fun _ _ h1 h2 => run_fieldAddr fo_29_1 (h1.ev rfl)) ?_
 refine Tr.va rfl (fun _ _ h1 h2 => run_load1 ag_3 (h1.ev rfl) (rdb h2 (vs := [(.int .i64 p1.X0), (.int .i64 p1.Y0), (.int .i64 p1.X1), (.int .i64 p1.Y1)]) (k := 2) rfl 1) rfl) ?_
 refine Tr.va rfl (fun _ _ h1 h2 => run_lss (h1.ev rfl) (h1.ev rfl)) ?_
 refine Tr.mv rfl rfl ?_
 refine Tr.mid0 13 [(23, (.bool ((decide (p0.Y0 < p1.Y0)) || ((p0.Y0 == p1.Y0) && (decide (p0.X0 < p1.X0))))))] [(1, bx b100 #[(.int .i64 p0.X0), (.int .i64 p0.Y0), (.int .i64 p0.X1), (.int .i64 p0.Y1)] 29), (2, bx b101 #[(.int .i64 p1.X0), (.int .i64 p1.Y0), (.int .i64 p1.X1), (.int .i64 p1.Y1)] 29)] ?_ ?_
 ·cases hg101 : (decide (p0.Y0 < p1.Y0))
  ·refine Tr.val (wg rfl rfl rfl) rfl (fun _ _ h1 h2 => run_fieldAddr fo_29_1 (h1.ev rfl)) ?_
   refine Tr.val (wg rfl rfl rfl) rfl (fun _ _ h1 h2 => run_load1 ag_3 (h1.ev rfl) (rdb h2 (vs := [(.int .i64 p0.X0), (.int .i64 p0.Y0), (.int .i64 p0.X1), (.int .i64 p0.Y1)]) (k := 1) rfl 1) rfl) ?_
   refine Tr.val (wg rfl rfl rfl) rfl (fun _ _ h1 h2 => run_fieldAddr fo_29_1 (h1.ev rfl)) ?_
   refine Tr.val (wg rfl rfl rfl) rfl (fun _ _ h1 h2 => run_load1 ag_3 (h1.ev rfl) (rdb h2 (vs := [(.int .i64 p1.X0), (.int .i64 p1.Y0), (.int .i64 p1.X1), (.int .i64 p1.Y1)]) (k := 2) rfl 1) rfl) ?_
   refine Tr.val (wg rfl rfl rfl) rfl (fun _ _ h1 h2 => run_eql (h1.ev rfl) (h1.ev rfl)) ?_
   refine Tr.val (wg rfl rfl rfl) rfl (fun _ _ h1 h2 => run_move (h1.ev rfl)) ?_
   refine Tr.mid0 6 [(10, (.bool false)), (22, (.bool ((p0.Y0 == p1.Y0) && (decide (p0.X0 < p1.X0)))))] [(1, bx b100 #[(.int .i64 p0.X0), (.int .i64 p0.Y0), (.int .i64 p0.X1), (.int .i64 p0.Y1)] 29), (2, bx b101 #[(.int .i64 p1.X0), (.int .i64 p1.Y0), (.int .i64 p1.X1), (.int .i64 p1.Y1)] 29)] ?_ ?_
   ·cases hg101 : (p0.Y0 == p1.Y0)
    ·refine Tr.pass rfl rfl rfl rfl rfl (by decide) ?_
     refine Tr.pass rfl rfl rfl rfl rfl (by decide) ?_
     refine Tr.pass rfl rfl rfl rfl rfl (by decide) ?_
     refine Tr.pass rfl rfl rfl rfl rfl (by decide) ?_
     refine Tr.pass rfl rfl rfl rfl rfl (by decide) ?_
     refine Tr.val (wg rfl rfl rfl) rfl (fun _ _ h1 h2 => run_pickF (h1.ev rfl) (h1.ev rfl)) ?_
     exact Tr.nil (Tr.fin0 (.cons rfl (.cons rfl .nil)) (.cons rfl (.cons rfl .nil)))
    ·refine Tr.val (wg rfl rfl rfl) rfl (fun _ _ h1 h2 => run_fieldAddr fo_29_0 (h1.ev rfl)) ?_
     refine Tr.val (wg rfl rfl rfl) rfl (fun _ _ h1 h2 => run_load1 ag_3 (h1.ev rfl) (rdb h2 (vs := [(.int .i64 p0.X0), (.int .i64 p0.Y0), (.int .i64 p0.X1), (.int .i64 p0.Y1)]) (k := 1) rfl 0) rfl) ?_
     refine Tr.val (wg rfl rfl rfl) rfl (fun _ _ h1 h2 => run_fieldAddr fo_29_0 (h1.ev rfl)) ?_
     refine Tr.val (wg rfl rfl rfl) rfl (fun _ _ h1 h2 => run_load1 ag_3 (h1.ev rfl) (rdb h2 (vs := [(.int .i64 p1.X0), (.int .i64 p1.Y0), (.int .i64 p1.X1), (.int .i64 p1.Y1)]) (k := 2) rfl 0) rfl) ?_
     refine Tr.val (wg rfl rfl rfl) rfl (fun _ _ h1 h2 => run_lss (h1.ev rfl) (h1.ev rfl)) ?_
     refine Tr.val (wg rfl rfl rfl) rfl (fun _ _ h1 h2 => run_pickT (h1.ev rfl) (h1.ev rfl)) ?_
     exact Tr.nil (Tr.fin0 (.cons rfl (.cons rfl .nil)) (.cons rfl (.cons rfl .nil)))
   ·show Tr _ _ (LF [(10, (.bool false)), (22, (.bool ((p0.Y0 == p1.Y0) && (decide (p0.X0 < p1.X0)))))]) (LE [(1, bx b100 #[(.int .i64 p0.X0), (.int .i64 p0.Y0), (.int .i64 p0.X1), (.int .i64 p0.Y1)] 29), (2, bx b101 #[(.int .i64 p1.X0), (.int .i64 p1.Y0), (.int .i64 p1.X1), (.int .i64 p1.Y1)] 29)]) _
    refine Tr.va rfl (fun _ _ h1 h2 => run_pickF (h1.ev rfl) (h1.ev rfl)) ?_
    exact Tr.nil (Tr.fin0 (.cons rfl .nil) (.cons rfl (.cons rfl .nil)))
  ·refine Tr.pass rfl rfl rfl rfl rfl (by decide) ?_
   refine Tr.pass rfl rfl rfl rfl rfl (by decide) ?_
   refine Tr.pass rfl rfl rfl rfl rfl (by decide) ?_
   refine Tr.pass rfl rfl rfl rfl rfl (by decide) ?_
   refine Tr.pass rfl rfl rfl rfl rfl (by decide) ?_
   refine Tr.pass rfl rfl rfl rfl rfl (by decide) ?_
   refine Tr.passU rfl rfl rfl rfl (by decide) ?_
   refine Tr.passU rfl rfl rfl rfl (by decide) ?_
   refine Tr.passU rfl rfl rfl rfl (by decide) ?_
   refine Tr.passU rfl rfl rfl rfl (by decide) ?_
   refine Tr.passU rfl rfl rfl rfl (by decide) ?_
   refine Tr.pass rfl rfl rfl rfl rfl (by decide) ?_
   refine Tr.va rfl (fun _ _ h1 h2 => run_pickT (h1.ev rfl) (h1.ev rfl)) ?_
   exact Tr.nil (Tr.fin0 (.cons rfl .nil) (.cons rfl (.cons rfl .nil)))
 ·show Tr _ _ (LF [(23, (.bool ((decide (p0.Y0 < p1.Y0)) || ((p0.Y0 == p1.Y0) && (decide (p0.X0 < p1.X0))))))]) (LE [(1, bx b100 #[(.int .i64 p0.X0), (.int .i64 p0.Y0), (.int .i64 p0.X1), (.int .i64 p0.Y1)] 29), (2, bx b101 #[(.int .i64 p1.X0), (.int .i64 p1.Y0), (.int .i64 p1.X1), (.int .i64 p1.Y1)] 29)]) _
  refine Tr.asg rfl rfl ?_
  refine Tr.nil (Tr.normThen ?_)
  refine Tr.ret ?_
  obtain rfl := Option.some.inj H
  exact Tr.out (m := [(.bool ((decide (p0.Y0 < p1.Y0)) || ((p0.Y0 == p1.Y0) && (decide (p0.X0 < p1.X0)))))]) [] (res_tmp rfl res_nil) (fun W hW => ⟨rfl, hW.low leB⟩)

theorem F_etchhouseref1_put_ok (N : Nat) {w : Bs} (p0 : (List Int)) (Ap0_0 : Option Addr) (cp0_0 : Nat) (hp0_0 : Sl w.O w.W fl_i64 Ap0_0 cp0_0 p0) (p1 : Int) (r : (List Int)) (H : F_etchhouseref1_put N p0 p1 = some r) (hE : HF w w.W (LEn [])) : Calls Try.prog 153 [(.slice Ap0_0 (p0).length cp0_0), (.int .i64 p1)].toArray w.W fun e W' => ∃ (w' : Bs) (u : (Option Addr × Nat)), w.Le w' ∧ e = .returned (.slice u.1 (r).length u.2) ∧ (Sl w'.O w'.W fl_i64 u.1 u.2 r) ∧ HF w' W' (LEn []) := by
 unfold F_etchhouseref1_put at H
 have leB := Bs.Le.refl w
 refine Tr.enter (n := 54) Try.func153 rfl rfl rfl hE ?_
 refine Tr.sr ?_
 refine Tr.asg rfl rfl ?_
 refine Tr.nilOwn 1 3 fl_i64 ?_
 show Tr _ _ (uf _ 4 (.slice none (([] : List Int)).length 0)) _ _
 refine Tr.nil (Tr.normThen ?_)
 refine Tr.sr ?_
 refine Tr.mv rfl rfl ?_
 refine Tr.va rfl (fun _ _ h1 h2 => run_len un_97 (h1.ev rfl)) ?_
 refine Tr.asg rfl rfl ?_
 refine Tr.asg rfl rfl ?_
 refine Tr.nil (Tr.normThen ?_)
 refine Tr.seq ?_
 refine Tr.block ?_
 refine Tr.loop (σ := Int × Int) (fun m w s => F_etchhouseref1_put_L1 p0 p1 m s.1 s.2 = some r) (fun s => [(0, (.slice Ap0_0 (p0).length cp0_0)), (1, (.int .i64 p1)), (5, (.int .i64 s.1)), (6, (.int .i64 s.2))]) (fun s => []) N (0, (p0.length : Int)) H (.cons rfl (.cons rfl (.cons rfl (.cons rfl .nil)))) .nil (fun _ _ h => noSome (h)) ?_
 intro w leF_etchhouseref1_put_L1 mF_etchhouseref1_put_L1 s hs
 obtain ⟨x108, x109⟩ := s
 have H := hs
 replace H : F_etchhouseref1_put_L1 p0 p1 (mF_etchhouseref1_put_L1 + 1) x108 x109 = some r := H
 replace hp0_0 := hp0_0.le leF_etchhouseref1_put_L1
 replace leB := leB.trans leF_etchhouseref1_put_L1
 rw [F_etchhouseref1_put_L1.eq_2] at H
 show Tr _ _ (LF [(0, (.slice Ap0_0 (p0).length cp0_0)), (1, (.int .i64 p1)), (5, (.int .i64 x108)), (6, (.int .i64 x109))]) (LE []) _
 refine Tr.seq ?_
 refine Tr.sr ?_
 refine Tr.mv rfl rfl ?_
 refine Tr.mv rfl rfl ?_
 refine Tr.va rfl (fun _ _ h1 h2 => run_lss (h1.ev rfl) (h1.ev rfl)) ?_
 refine Tr.nil (Tr.normThen ?_)
 refine Tr.cond rfl H (fun H => ?_) (fun H => ?_)
 ·refine Tr.skip (Tr.normThen ?_)
  refine Tr.block ?_
  refine Tr.sr ?_
  refine Tr.mv rfl rfl ?_
  refine Tr.mv rfl rfl ?_
  refine Tr.va rfl (fun _ _ h1 h2 => run_add (h1.ev rfl) (h1.ev rfl)) ?_
  refine Tr.va rfl (fun _ _ h1 h2 => run_quo (h1.ev rfl) (h1.ev rfl) (by decide)) ?_
  refine Tr.asg rfl rfl ?_
  refine Tr.nil (Tr.normThen ?_)
  refine Tr.sr ?_
  refine Tr.mv rfl rfl ?_
  refine Tr.mv rfl rfl ?_
  obtain ⟨x110, hx110, H⟩ := bnd H
  obtain ⟨hx1100, hx1101, hx1102⟩ := idx_some hx110
  refine Tr.va rfl (fun _ _ h1 h2 => run_indexAddr el_97 (h1.ev rfl) hp0_0.form (h1.ev rfl) hx1100 hx1101) ?_
  refine Tr.va rfl (fun _ _ h1 h2 => run_load1 ag_3 (h1.ev rfl) (rdF ef_i64 (hp0_0.rl) hx1102 h2) rfl) ?_
  refine Tr.mv rfl rfl ?_
  refine Tr.va rfl (fun _ _ h1 h2 => run_lss (h1.ev rfl) (h1.ev rfl)) ?_
  refine Tr.nil (Tr.normThen ?_)
  refine Tr.cond rfl H (fun H => ?_) (fun H => ?_)
  ·refine Tr.region ?_
   refine Tr.mv rfl rfl ?_
   refine Tr.va rfl (fun _ _ h1 h2 => run_add (h1.ev rfl) (h1.ev rfl)) ?_
   refine Tr.asg rfl rfl ?_
   refine Tr.nil (Tr.normBlock ?_)
   exact Tr.backThen leF_etchhouseref1_put_L1 ((w64 ((w64 (Int.tdiv (w64 (x108 + x109)) 2)) + 1)), x109) H (.cons rfl (.cons rfl (.cons rfl (.cons rfl .nil)))) .nil
  ·refine Tr.region ?_
   refine Tr.mv rfl rfl ?_
   refine Tr.asg rfl rfl ?_
   refine Tr.nil (Tr.normBlock ?_)
   exact Tr.backThen leF_etchhouseref1_put_L1 (x108, (w64 (Int.tdiv (w64 (x108 + x109)) 2))) H (.cons rfl (.cons rfl (.cons rfl (.cons rfl .nil)))) .nil
 ·refine Tr.exit (Tr.exitThen (Tr.exitThen (Tr.exitBlock (Tr.normThen ?_))))
  refine Tr.seq ?_
  refine Tr.sr ?_
  refine Tr.mv rfl rfl ?_
  refine Tr.mv rfl rfl ?_
  refine Tr.va rfl (fun _ _ h1 h2 => run_len un_97 (h1.ev rfl)) ?_
  refine Tr.va rfl (fun _ _ h1 h2 => run_lss (h1.ev rfl) (h1.ev rfl)) ?_
  refine Tr.mv rfl rfl ?_
  obtain ⟨g112, hg112, H⟩ := bnd H
  refine Tr.mid0 7 [(0, (.slice Ap0_0 (p0).length cp0_0)), (1, (.int .i64 p1)), (5, (.int .i64 x108)), (38, (.bool g112))] [] ?_ ?_
  ·cases hg121 : (decide (x108 < (p0.length : Int)))
   ·rw [hg121] at hg112
    rw [if_neg (by decide)] at hg112
    have H := hg112
    obtain rfl := Option.some.inj H
    refine Tr.pass rfl rfl rfl rfl rfl (by decide) ?_
    refine Tr.pass rfl rfl rfl rfl rfl (by decide) ?_
    refine Tr.pass rfl rfl rfl rfl rfl (by decide) ?_
    refine Tr.pass rfl rfl rfl rfl rfl (by decide) ?_
    refine Tr.pass rfl rfl rfl rfl rfl (by decide) ?_
    refine Tr.pass rfl rfl rfl rfl rfl (by decide) ?_
    refine Tr.va rfl (fun _ _ h1 h2 => run_pickF (h1.ev rfl) (h1.ev rfl)) ?_
    exact Tr.nil (Tr.fin0 (.cons rfl (.cons rfl (.cons rfl (.cons rfl .nil)))) .nil)
   ·rw [hg121] at hg112
    rw [if_pos rfl] at hg112
    have H := hg112
    refine Tr.val (wg rfl rfl rfl) rfl (fun _ _ h1 h2 => run_move (h1.ev rfl)) ?_
    refine Tr.val (wg rfl rfl rfl) rfl (fun _ _ h1 h2 => run_move (h1.ev rfl)) ?_
    obtain ⟨x113, hx113, H⟩ := bnd H
    obtain ⟨hx1130, hx1131, hx1132⟩ := idx_some hx113
    refine Tr.val (wg rfl rfl rfl) rfl (fun _ _ h1 h2 => run_indexAddr el_97 (h1.ev rfl) hp0_0.form (h1.ev rfl) hx1130 hx1131) ?_
    refine Tr.val (wg rfl rfl rfl) rfl (fun _ _ h1 h2 => run_load1 ag_3 (h1.ev rfl) (rdF ef_i64 (hp0_0.rl) hx1132 h2) rfl) ?_
    refine Tr.val (wg rfl rfl rfl) rfl (fun _ _ h1 h2 => run_move (h1.ev rfl)) ?_
    refine Tr.val (wg rfl rfl rfl) rfl (fun _ _ h1 h2 => run_eql (h1.ev rfl) (h1.ev rfl)) ?_
    refine Tr.va rfl (fun _ _ h1 h2 => run_pickT (h1.ev rfl) (h1.ev rfl)) ?_
    obtain rfl := Option.some.inj H
    exact Tr.nil (Tr.fin0 (.cons rfl (.cons rfl (.cons rfl (.cons rfl .nil)))) .nil)
  ·show Tr _ _ (LF [(0, (.slice Ap0_0 (p0).length cp0_0)), (1, (.int .i64 p1)), (5, (.int .i64 x108)), (38, (.bool g112))]) (LE []) _
   refine Tr.nil (Tr.normThen ?_)
   refine Tr.cond rfl H (fun H => ?_) (fun H => ?_)
   ·refine Tr.sr ?_
    refine Tr.mv rfl rfl ?_
    refine Tr.asg rfl rfl ?_
    refine Tr.nil (Tr.normThen ?_)
    refine Tr.ret (Tr.retThen ?_)
    obtain rfl := Option.some.inj H
    exact Tr.out (m := [(.slice Ap0_0 (p0).length cp0_0)]) [] (res_tmp rfl res_nil) (fun W hW => ⟨w, (Ap0_0, cp0_0), leB, rfl, hp0_0, hW.pick (ks := []) (by decide) pk_nil⟩)
   ·refine Tr.skip (Tr.normThen ?_)
    refine Tr.sr ?_
    refine Tr.asg rfl rfl ?_
    refine Tr.nilOwn 2 3 fl_i64 ?_
    show Tr _ _ (uf _ 8 (.slice none (([] : List Int)).length 0)) _ _
    refine Tr.nil (Tr.normThen ?_)
    refine Tr.sr ?_
    refine Tr.mv rfl rfl ?_
    refine Tr.mv rfl rfl ?_
    refine Tr.mv rfl rfl ?_
    obtain ⟨l114, hl114, H⟩ := bnd H
    refine Tr.va rfl (fun _ _ h1 h2 => run_pre el_97 (h1.ev rfl) hp0_0.form (h1.ev rfl) hl114) ?_
    obtain ⟨l115, hl115, H⟩ := bnd H
    refine Tr.appendS 2 (t := fl_i64) (l := ([] : List Int)) (l2 := l114) (wn rfl) rfl rfl rfl rfl (apT tr_i64 (fun W hW => (Sl.pre (Sl.inB (hp0_0.rl) hW) hl114))) un_97 sz_3 zl_3 (by decide) by_3 rfl hl115 fun Al115 cl115 hAl115 => ?_
    refine Tr.asg rfl rfl ?_
    refine Tr.nil (Tr.normThen ?_)
    refine Tr.sr ?_
    refine Tr.mv rfl rfl ?_
    refine Tr.mv rfl rfl ?_
    refine Tr.buildSlice 3 (e := 3) (vs := [(0, (.int .i64 p1))]) (cs := [(.int .i64 p1)]) (wn rfl) rfl (evs_cons rfl evs_nil) (by kernel_rfl) fun b116 => ?_
    obtain ⟨l117, hl117, H⟩ := bnd H
    refine Tr.append 2 (t := fl_i64) (l := l115) (l2 := [p1]) (wn rfl) rfl rfl rfl rfl (fun W hW => ⟨[[(.int .i64 p1)]], (.cons ⟨(), trivial, rfl⟩ .nil), rdb hW (vs := [(.int .i64 p1)]) (k := 3) rfl 0⟩) un_97 sz_3 zl_3 (by decide) by_3 rfl hl117 fun Al117 cl117 hAl117 => ?_
    refine Tr.asg rfl rfl ?_
    refine Tr.nil (Tr.normThen ?_)
    refine Tr.sr ?_
    refine Tr.mv rfl rfl ?_
    refine Tr.mv rfl rfl ?_
    refine Tr.mv rfl rfl ?_
    obtain ⟨l118, hl118, H⟩ := bnd H
    refine Tr.va rfl (fun _ _ h1 h2 => run_cutL el_97 (h1.ev rfl) hp0_0.form (h1.ev rfl) hl118) ?_
    obtain ⟨l119, hl119, H⟩ := bnd H
    refine Tr.appendS 2 (t := fl_i64) (l := l117) (l2 := l118) (wn rfl) rfl rfl rfl rfl (apT tr_i64 (fun W hW => (Sl.cut (Sl.inB (hp0_0.rl) hW) hl118))) un_97 sz_3 zl_3 (by decide) by_3 rfl hl119 fun Al119 cl119 hAl119 => ?_
    refine Tr.asg rfl rfl ?_
    refine Tr.nil (Tr.normThen ?_)
    refine Tr.ret ?_
    obtain rfl := Option.some.inj H
    refine Tr.freeze 2 rfl fun w le121 hz120 => ?_
    replace hp0_0 := hp0_0.le le121
    replace leB := leB.trans le121
    replace leF_etchhouseref1_put_L1 := leF_etchhouseref1_put_L1.trans le121
    exact Tr.out (m := [(.slice Al119 (l119).length cl119)]) [] (res_tmp rfl res_nil) (fun W hW => ⟨w, (Al119, cl119), leB, rfl, hz120, hW.pick (ks := []) (by decide) pk_nil⟩)

theorem F_etchhouseref1_heights_ok (N : Nat) {w : Bs} (p0 : (List TRect)) (Ap0_0 : Option Addr) (cp0_0 : Nat) (hp0_0 : Sl w.R w.W fl_TRect Ap0_0 cp0_0 p0) (r : (List Int)) (H : F_etchhouseref1_heights N p0 = some r) (hE : HF w w.W (LEn [])) : Calls Try.prog 121 [(.slice Ap0_0 (p0).length cp0_0)].toArray w.W fun e W' => ∃ (w' : Bs) (u : (Option Addr × Nat)), w.Le w' ∧ e = .returned (.slice u.1 (r).length u.2) ∧ (Sl w'.O w'.W fl_i64 u.1 u.2 r) ∧ HF w' W' (LEn []) := by
 unfold F_etchhouseref1_heights at H
 have leB := Bs.Le.refl w
 refine Tr.enter (n := 25) Try.func121 rfl rfl rfl hE ?_
 refine Tr.sr ?_
 refine Tr.asg rfl rfl ?_
 refine Tr.nilOwn 1 3 fl_i64 ?_
 show Tr _ _ (uf _ 2 (.slice none (([] : List Int)).length 0)) _ _
 refine Tr.nil (Tr.normThen ?_)
 refine Tr.sr ?_
 refine Tr.asg rfl rfl ?_
 refine Tr.nilOwn 2 3 fl_i64 ?_
 show Tr _ _ (uf _ 3 (.slice none (([] : List Int)).length 0)) _ _
 refine Tr.nil (Tr.normThen ?_)
 refine Tr.seq ?_
 refine Tr.sr ?_
 refine Tr.asg rfl rfl ?_
 refine Tr.nil (Tr.normThen ?_)
 refine Tr.block ?_
 refine Tr.freeze 2 rfl fun w le125 hz124 => ?_
 replace hp0_0 := hp0_0.leR le125
 replace leB := leB.trans le125
 refine Tr.loop (σ := (List Int) × Int × (Option Addr) × Nat) (fun m w s => F_etchhouseref1_heights_L1 N p0 m s.1 s.2.1 = some r ∧ Sl w.O w.W fl_i64 s.2.2.1 s.2.2.2 s.1) (fun s => [(0, (.slice Ap0_0 (p0).length cp0_0)), (3, (.slice s.2.2.1 (s.1).length s.2.2.2)), (4, (.int .i64 s.2.1))]) (fun s => []) N (([] : List Int), 0, none, 0) ⟨H, hz124⟩ (.cons rfl (.cons rfl (.cons rfl .nil))) .nil (fun _ _ h => noSome (h.1)) ?_
 intro w leF_etchhouseref1_heights_L1 mF_etchhouseref1_heights_L1 s hs
 obtain ⟨l122, x123, Al122, cl122⟩ := s
 obtain ⟨H, hl122⟩ := hs
 replace H : F_etchhouseref1_heights_L1 N p0 (mF_etchhouseref1_heights_L1 + 1) l122 x123 = some r := H
 replace hp0_0 := hp0_0.leR leF_etchhouseref1_heights_L1
 replace leB := leB.trans leF_etchhouseref1_heights_L1
 replace hl122 : Sl w.O w.W fl_i64 Al122 cl122 l122 := hl122
 rw [F_etchhouseref1_heights_L1.eq_2] at H
 show Tr _ _ (LF [(0, (.slice Ap0_0 (p0).length cp0_0)), (3, (.slice Al122 (l122).length cl122)), (4, (.int .i64 x123))]) (LE []) _
 refine Tr.seq ?_
 refine Tr.sr ?_
 refine Tr.mv rfl rfl ?_
 refine Tr.mv rfl rfl ?_
 refine Tr.va rfl (fun _ _ h1 h2 => run_len un_22 (h1.ev rfl)) ?_
 refine Tr.va rfl (fun _ _ h1 h2 => run_lss (h1.ev rfl) (h1.ev rfl)) ?_
 refine Tr.nil (Tr.normThen ?_)
 refine Tr.cond rfl H (fun H => ?_) (fun H => ?_)
 ·refine Tr.skip (Tr.normThen ?_)
  refine Tr.seq ?_
  refine Tr.block ?_
  refine Tr.drawC 12 [] [] (by kernel_rfl) (by kernel_rfl) fun sz126 hlosz126 hEsz126 => ?_
  refine Dr.quiet 0 [(11, (.slice Al122 (l122).length cl122))] (by kernel_rfl) rfl rfl (by kernel_rfl) ?_ rfl rfl ?_
  ·refine Tq.mv rfl rfl ?_
   exact Tq.fin (.cons rfl .nil)
  refine Dr.quiet 1 [(12, (.slice Ap0_0 (p0).length cp0_0))] (by kernel_rfl) rfl rfl (by kernel_rfl) ?_ rfl rfl ?_
  ·refine Tq.mv rfl rfl ?_
   exact Tq.fin (.cons rfl .nil)
  refine Dr.quiet 2 [(13, (.int .i64 x123))] (by kernel_rfl) rfl rfl (by kernel_rfl) ?_ rfl rfl ?_
  ·refine Tq.mv rfl rfl ?_
   exact Tq.fin (.cons rfl .nil)
  obtain ⟨x127, hx127, H⟩ := bnd H
  obtain ⟨hx1270, hx1271, hx1272⟩ := idx_some hx127
  refine Dr.quiet 3 [(14, (.pointer (some ⟨adB Ap0_0, adO Ap0_0 + (x123).toNat * 4, none⟩)))] (by kernel_rfl) rfl rfl (by kernel_rfl) ?_ rfl rfl ?_
  ·refine Tq.va rfl (fun _ _ h1 h2 => run_indexAddr el_22 (h1.ev rfl) hp0_0.form (h1.ev rfl) hx1270 hx1271) ?_
   exact Tq.fin (.cons rfl .nil)
  refine Dr.quiet 4 [(15, (.pointer (some ⟨adB Ap0_0, adO Ap0_0 + (x123).toNat * 4 + 1, none⟩)))] (by kernel_rfl) rfl rfl (by kernel_rfl) ?_ rfl rfl ?_
  ·refine Tq.va rfl (fun _ _ h1 h2 => run_fieldAddr fo_29_1 (h1.ev rfl)) ?_
   exact Tq.fin (.cons rfl .nil)
  refine Dr.quiet 5 [(16, (.int .i64 x127.Y0))] (by kernel_rfl) rfl rfl (by kernel_rfl) ?_ rfl rfl ?_
  ·refine Tq.va rfl (fun _ _ h1 h2 => run_load1 ag_3 (h1.ev rfl) (CellsAt.drop (rdF ef_TRect hp0_0 hx1272 h2) 1) rfl) ?_
   exact Tq.fin (.cons rfl .nil)
  refine Dr.quiet 7 [(18, (.slice Ap0_0 (p0).length cp0_0))] (by kernel_rfl) rfl rfl (by kernel_rfl) ?_ rfl rfl ?_
  ·refine Tq.mv rfl rfl ?_
   exact Tq.fin (.cons rfl .nil)
  refine Dr.quiet 8 [(19, (.int .i64 x123))] (by kernel_rfl) rfl rfl (by kernel_rfl) ?_ rfl rfl ?_
  ·refine Tq.mv rfl rfl ?_
   exact Tq.fin (.cons rfl .nil)
  obtain ⟨x128, hx128, H⟩ := bnd H
  obtain ⟨hx1280, hx1281, hx1282⟩ := idx_some hx128
  refine Dr.quiet 9 [(20, (.pointer (some ⟨adB Ap0_0, adO Ap0_0 + (x123).toNat * 4, none⟩)))] (by kernel_rfl) rfl rfl (by kernel_rfl) ?_ rfl rfl ?_
  ·refine Tq.va rfl (fun _ _ h1 h2 => run_indexAddr el_22 (h1.ev rfl) hp0_0.form (h1.ev rfl) hx1280 hx1281) ?_
   exact Tq.fin (.cons rfl .nil)
  refine Dr.quiet 10 [(21, (.pointer (some ⟨adB Ap0_0, adO Ap0_0 + (x123).toNat * 4 + 3, none⟩)))] (by kernel_rfl) rfl rfl (by kernel_rfl) ?_ rfl rfl ?_
  ·refine Tq.va rfl (fun _ _ h1 h2 => run_fieldAddr fo_29_3 (h1.ev rfl)) ?_
   exact Tq.fin (.cons rfl .nil)
  refine Dr.quiet 11 [(22, (.int .i64 x128.Y1))] (by kernel_rfl) rfl rfl (by kernel_rfl) ?_ rfl rfl ?_
  ·refine Tq.va rfl (fun _ _ h1 h2 => run_load1 ag_3 (h1.ev rfl) (CellsAt.drop (rdF ef_TRect hp0_0 hx1282 h2) 3) rfl) ?_
   exact Tq.fin (.cons rfl .nil)
  obtain ⟨y129, hy129, H⟩ := bnd H
  refine Dr.one 6 (by kernel_rfl) ?_
  refine St.callG 6 [] [] (U := (Option Addr × Nat)) (fun u => (.slice u.1 (y129).length u.2)) (fun O W u => Sl O W fl_i64 u.1 u.2 y129) (fun u => []) rfl pk_nil (fun _ => rfl) (insS_no rfl) rfl (wn rfl) rfl Try.call153 (evl_cons rfl (evl_cons rfl evl_nil)) (fun W hW hp hE => F_etchhouseref1_put_ok N l122 Al122 cl122 (hl122.extO (hW.extS hp)) x127.Y0 y129 hy129 hE) ?_
  intro w u le130 hu hsy129
  obtain ⟨Ay129_0, cy129_0⟩ := u
  have gy129_0 := hu
  replace hp0_0 := hp0_0.leR le130
  replace hl122 := hl122.le le130
  replace leB := leB.trans le130
  replace leF_etchhouseref1_heights_L1 := leF_etchhouseref1_heights_L1.trans le130
  have hgy129_0 : Sl w.O w.W fl_i64 Ay129_0 cy129_0 y129 := gy129_0
  show Dr _ _ _ _ _ _ _ _ _ (uf _ 17 (.slice Ay129_0 (y129).length cy129_0)) (_)
  refine Dr.tail (by kernel_rfl) ?_
  obtain ⟨y131, hy131, H⟩ := bnd H
  refine Tr.callG [] [] (U := (Option Addr × Nat)) (fun u => (.slice u.1 (y131).length u.2)) (fun O W u => Sl O W fl_i64 u.1 u.2 y131) (fun u => []) rfl pk_nil (fun _ => rfl) (wn rfl) rfl Try.call153 (evl_cons rfl (evl_cons rfl evl_nil)) (fun W hW hp hE => F_etchhouseref1_put_ok N y129 Ay129_0 cy129_0 (hgy129_0.extO (hW.extS hp)) x128.Y1 y131 hy131 hE) ?_
  intro w u le132 hu
  obtain ⟨Ay131_0, cy131_0⟩ := u
  have gy131_0 := hu
  replace hp0_0 := hp0_0.leR le132
  replace hl122 := hl122.le le132
  replace hgy129_0 := hgy129_0.le le132
  replace leB := leB.trans le132
  replace leF_etchhouseref1_heights_L1 := leF_etchhouseref1_heights_L1.trans le132
  have hgy131_0 : Sl w.O w.W fl_i64 Ay131_0 cy131_0 y131 := gy131_0 --@phi
  show Tr _ _ (uf _ 23 (.slice Ay131_0 (y131).length cy131_0)) (_) _
  refine Tr.asg rfl rfl ?_
  refine Tr.nil (Tr.normBlock (Tr.normThen ?_))
  refine Tr.region ?_
  refine Tr.mv rfl rfl ?_
  refine Tr.va rfl (fun _ _ h1 h2 => run_add (h1.ev rfl) (h1.ev rfl)) ?_
  refine Tr.asg rfl rfl ?_
  refine Tr.nil ?_
  exact Tr.backThen leF_etchhouseref1_heights_L1 (y131, (w64 (x123 + 1)), Ay131_0, cy131_0) ⟨H, hgy131_0⟩ (.cons rfl (.cons rfl (.cons rfl .nil))) .nil
 ·refine Tr.exit (Tr.exitThen (Tr.exitThen (Tr.exitBlock (Tr.normThen ?_))))
  refine Tr.sr ?_
  refine Tr.mv rfl rfl ?_
  refine Tr.asg rfl rfl ?_
  refine Tr.nil (Tr.normThen ?_)
  refine Tr.ret ?_
  obtain rfl := Option.some.inj H
  exact Tr.out (m := [(.slice Al122 (l122).length cl122)]) [] (res_tmp rfl res_nil) (fun W hW => ⟨w, (Al122, cl122), leB, rfl, hl122, hW.pick (ks := []) (by decide) pk_nil⟩)

theorem F_etchhouseref1_joined_ok (N : Nat) {w : Bs} (p0 : (List TSpan)) (Ap0_0 : Option Addr) (cp0_0 : Nat) (hp0_0 : Sl w.R w.W fl_TSpan Ap0_0 cp0_0 p0) (p1 : TSpan) (r : (List TSpan)) (H : F_etchhouseref1_joined N p0 p1 = some r) (hE : HF w w.W (LEn [emp])) : Calls Try.prog 155 [(.slice Ap0_0 (p0).length cp0_0), (.agg #[(.int .i64 p1.from_), (.int .i64 p1.to_)])].toArray w.W fun e W' => ∃ u : (Option Addr × Nat), e = .returned (.slice u.1 (r).length u.2) ∧ (SlF u.1 (r).length u.2) ∧ HF w W' (LEn [ow u.1 u.2 177 fl_TSpan r]) := by
 unfold F_etchhouseref1_joined at H
 have leB := Bs.Le.refl w
 refine Tr.enter (n := 73) Try.func155 rfl rfl rfl hE ?_
 refine Tr.sr ?_
 refine Tr.box 1 (cs := [(.int .i64 p1.from_), (.int .i64 p1.to_)]) (wn rfl) rfl rfl rfl fun b100 => ?_
 refine Tr.asg rfl rfl ?_
 refine Tr.nilOwn 2 177 fl_TSpan ?_
 show Tr _ _ (uf _ 4 (.slice none (([] : List TSpan)).length 0)) _ _
 refine Tr.nil (Tr.normThen ?_)
 refine Tr.sr ?_
 refine Tr.asg rfl rfl ?_
 refine Tr.nilOwn 3 177 fl_TSpan ?_
 show Tr _ _ (uf _ 5 (.slice none (([] : List TSpan)).length 0)) _ _
 refine Tr.nil (Tr.normThen ?_)
 refine Tr.sr ?_
 refine Tr.asg rfl rfl ?_
 refine Tr.nil (Tr.normThen ?_)
 refine Tr.seq ?_
 refine Tr.block ?_
 refine Tr.loop (σ := (List TSpan) × Int × (Option Addr) × Nat) (fun m w s => F_etchhouseref1_joined_L1 N p0 p1 m s.1 s.2.1 = some r ∧ SlF s.2.2.1 (s.1).length s.2.2.2) (fun s => [(0, (.slice Ap0_0 (p0).length cp0_0)), (3, (.pointer (some ⟨b100, 0, none⟩))), (5, (.slice s.2.2.1 (s.1).length s.2.2.2)), (6, (.int .i64 s.2.1))]) (fun s => [(1, bx b100 #[(.int .i64 p1.from_), (.int .i64 p1.to_)] 177), (3, ow s.2.2.1 s.2.2.2 177 fl_TSpan s.1)]) N (([] : List TSpan), 0, none, 0) ⟨H, slf_nil⟩ (.cons rfl (.cons rfl (.cons rfl (.cons rfl .nil)))) (.cons rfl (.cons rfl .nil)) (fun _ _ h => noSome (h.1)) ?_
 intro w leF_etchhouseref1_joined_L1 mF_etchhouseref1_joined_L1 s hs
 obtain ⟨l119, x120, Al119, cl119⟩ := s
 obtain ⟨H, hl119⟩ := hs
 replace H : F_etchhouseref1_joined_L1 N p0 p1 (mF_etchhouseref1_joined_L1 + 1) l119 x120 = some r := H
 replace hp0_0 := hp0_0.leR leF_etchhouseref1_joined_L1
 replace leB := leB.trans leF_etchhouseref1_joined_L1
 replace hl119 : SlF Al119 (l119).length cl119 := hl119
 rw [F_etchhouseref1_joined_L1.eq_2] at H
 show Tr _ _ (LF [(0, (.slice Ap0_0 (p0).length cp0_0)), (3, (.pointer (some ⟨b100, 0, none⟩))), (5, (.slice Al119 (l119).length cl119)), (6, (.int .i64 x120))]) (LE [(1, bx b100 #[(.int .i64 p1.from_), (.int .i64 p1.to_)] 177), (3, ow Al119 cl119 177 fl_TSpan l119)]) _
 refine Tr.seq ?_
 refine Tr.seq ?_
 refine Tr.draw (by kernel_rfl) (by kernel_rfl) ?_
 refine Tq.mv rfl rfl ?_
 refine Tq.mv rfl rfl ?_
 refine Tq.va rfl (fun _ _ h1 h2 => run_len un_146 (h1.ev rfl)) ?_
 refine Tq.va rfl (fun _ _ h1 h2 => run_lss (h1.ev rfl) (h1.ev rfl)) ?_
 refine Tq.mv rfl rfl ?_
 obtain ⟨g122, hg122, H⟩ := bnd H
 refine Tq.mid 9 [(0, (.slice Ap0_0 (p0).length cp0_0)), (3, (.pointer (some ⟨b100, 0, none⟩))), (5, (.slice Al119 (l119).length cl119)), (6, (.int .i64 x120)), (20, (.bool g122))] ?_ ?_
 ·cases hg160 : (decide (x120 < (p0.length : Int)))
  ·rw [hg160] at hg122
   rw [if_neg (by decide)] at hg122
   have H := hg122
   obtain rfl := Option.some.inj H
   refine Tq.pass rfl rfl rfl rfl rfl (by decide) ?_
   refine Tq.pass rfl rfl rfl rfl rfl (by decide) ?_
   refine Tq.pass rfl rfl rfl rfl rfl (by decide) ?_
   refine Tq.pass rfl rfl rfl rfl rfl (by decide) ?_
   refine Tq.pass rfl rfl rfl rfl rfl (by decide) ?_
   refine Tq.pass rfl rfl rfl rfl rfl (by decide) ?_
   refine Tq.pass rfl rfl rfl rfl rfl (by decide) ?_
   refine Tq.pass rfl rfl rfl rfl rfl (by decide) ?_
   refine Tq.va rfl (fun _ _ h1 h2 => run_pickF (h1.ev rfl) (h1.ev rfl)) ?_
   exact Tq.fin (.cons rfl (.cons rfl (.cons rfl (.cons rfl (.cons rfl .nil)))))
  ·rw [hg160] at hg122
   rw [if_pos rfl] at hg122
   have H := hg122
   refine Tq.val (wg rfl rfl rfl) rfl (fun _ _ h1 h2 => run_move (h1.ev rfl)) ?_
   refine Tq.val (wg rfl rfl rfl) rfl (fun _ _ h1 h2 => run_move (h1.ev rfl)) ?_
   obtain ⟨x123, hx123, H⟩ := bnd H
   obtain ⟨hx1230, hx1231, hx1232⟩ := idx_some hx123
   refine Tq.val (wg rfl rfl rfl) rfl (fun _ _ h1 h2 => run_indexAddr el_146 (h1.ev rfl) hp0_0.form (h1.ev rfl) hx1230 hx1231) ?_
   refine Tq.val (wg rfl rfl rfl) rfl (fun _ _ h1 h2 => run_fieldAddr fo_177_1 (h1.ev rfl)) ?_
   refine Tq.val (wg rfl rfl rfl) rfl (fun _ _ h1 h2 => run_load1 ag_3 (h1.ev rfl) (CellsAt.drop (rdF ef_TSpan hp0_0 hx1232 h2) 1) rfl) ?_
   refine Tq.val (wg rfl rfl rfl) rfl (fun _ _ h1 h2 => run_fieldAddr fo_177_0 (h1.ev rfl)) ?_
   refine Tq.val (wg rfl rfl rfl) rfl (fun _ _ h1 h2 => run_load1 ag_3 (h1.ev rfl) (rdb h2 (vs := [(.int .i64 p1.from_), (.int .i64 p1.to_)]) (k := 1) rfl 0) rfl) ?_
   refine Tq.val (wg rfl rfl rfl) rfl (fun _ _ h1 h2 => run_lss (h1.ev rfl) (h1.ev rfl)) ?_
   refine Tq.va rfl (fun _ _ h1 h2 => run_pickT (h1.ev rfl) (h1.ev rfl)) ?_
   obtain rfl := Option.some.inj H
   exact Tq.fin (.cons rfl (.cons rfl (.cons rfl (.cons rfl (.cons rfl .nil)))))
 ·refine Tq.nil (Tr.normThen ?_)
  refine Tr.cond rfl H (fun H => ?_) (fun H => ?_)
  ·refine Tr.skip (Tr.normThen ?_)
   refine Tr.block ?_
   refine Tr.sr ?_
   refine Tr.mv rfl rfl ?_
   refine Tr.mv rfl rfl ?_
   refine Tr.mv rfl rfl ?_
   obtain ⟨x124, hx124, H⟩ := bnd H
   obtain ⟨hx1240, hx1241, hx1242⟩ := idx_some hx124
   refine Tr.va rfl (fun _ _ h1 h2 => run_indexAddr el_146 (h1.ev rfl) hp0_0.form (h1.ev rfl) hx1240 hx1241) ?_
   refine Tr.va rfl (fun _ _ h1 h2 => run_loadN (cs := [(.int .i64 x124.from_), (.int .i64 x124.to_)]) ag_177 sz_177 (h1.ev rfl) (CellsAt.take (rdF ef_TSpan hp0_0 hx1242 h2) 2) rfl) ?_
   refine Tr.buildSlice 6 (e := 177) (vs := [(0, (.agg #[(.int .i64 x124.from_), (.int .i64 x124.to_)]))]) (cs := [(.int .i64 x124.from_), (.int .i64 x124.to_)]) (wn rfl) rfl (evs_cons rfl evs_nil) (by kernel_rfl) fun b125 => ?_
   obtain ⟨l126, hl126, H⟩ := bnd H
   refine Tr.append 3 (t := fl_TSpan) (l := l119) (l2 := [x124]) (wn rfl) rfl rfl rfl rfl (fun W hW => ⟨[[(.int .i64 x124.from_), (.int .i64 x124.to_)]], (.cons ⟨(), trivial, rfl⟩ .nil), rdb hW (vs := [(.int .i64 x124.from_), (.int .i64 x124.to_)]) (k := 6) rfl 0⟩) un_146 sz_177 zl_177 (by decide) by_177 rfl hl126 fun Al126 cl126 hAl126 => ?_
   refine Tr.asg rfl rfl ?_
   refine Tr.nil (Tr.normThen ?_)
   refine Tr.region ?_
   refine Tr.mv rfl rfl ?_
   refine Tr.va rfl (fun _ _ h1 h2 => run_add (h1.ev rfl) (h1.ev rfl)) ?_
   refine Tr.asg rfl rfl ?_
   refine Tr.nil (Tr.normBlock ?_)
   exact Tr.backThen leF_etchhouseref1_joined_L1 (l126, (w64 (x120 + 1)), Al126, cl126) ⟨H, hAl126⟩ (.cons rfl (.cons rfl (.cons rfl (.cons rfl .nil)))) (.cons rfl (.cons rfl .nil))
  ·refine Tr.exit (Tr.exitThen (Tr.exitThen (Tr.exitBlock (Tr.normThen ?_))))
   refine Tr.seq ?_
   refine Tr.block ?_
   refine Tr.loop (σ := Int × Int × Int) (fun m w s => F_etchhouseref1_joined_L2 p0 l119 m s.1 s.2.1 s.2.2 = some r) (fun s => [(0, (.slice Ap0_0 (p0).length cp0_0)), (3, (.pointer (some ⟨b100, 0, none⟩))), (5, (.slice Al119 (l119).length cl119)), (6, (.int .i64 s.2.2))]) (fun s => [(1, bx b100 #[(.int .i64 s.1), (.int .i64 s.2.1)] 177), (3, ow Al119 cl119 177 fl_TSpan l119)]) N (p1.from_, p1.to_, x120) H (.cons rfl (.cons rfl (.cons rfl (.cons rfl .nil)))) (.cons rfl (.cons rfl .nil)) (fun _ _ h => noSome (h)) ?_
   intro w leF_etchhouseref1_joined_L2 mF_etchhouseref1_joined_L2 s hs
   obtain ⟨x148, x149, x150⟩ := s
   have H := hs
   replace H : F_etchhouseref1_joined_L2 p0 l119 (mF_etchhouseref1_joined_L2 + 1) x148 x149 x150 = some r := H
   replace hp0_0 := hp0_0.leR leF_etchhouseref1_joined_L2
   replace leB := leB.trans leF_etchhouseref1_joined_L2
   replace leF_etchhouseref1_joined_L1 := leF_etchhouseref1_joined_L1.trans leF_etchhouseref1_joined_L2
   rw [F_etchhouseref1_joined_L2.eq_2] at H
   show Tr _ _ (LF [(0, (.slice Ap0_0 (p0).length cp0_0)), (3, (.pointer (some ⟨b100, 0, none⟩))), (5, (.slice Al119 (l119).length cl119)), (6, (.int .i64 x150))]) (LE [(1, bx b100 #[(.int .i64 x148), (.int .i64 x149)] 177), (3, ow Al119 cl119 177 fl_TSpan l119)]) _
   refine Tr.seq ?_
   refine Tr.seq ?_
   refine Tr.draw (by kernel_rfl) (by kernel_rfl) ?_
   refine Tq.mv rfl rfl ?_
   refine Tq.mv rfl rfl ?_
   refine Tq.va rfl (fun _ _ h1 h2 => run_len un_146 (h1.ev rfl)) ?_
   refine Tq.va rfl (fun _ _ h1 h2 => run_lss (h1.ev rfl) (h1.ev rfl)) ?_
   refine Tq.mv rfl rfl ?_
   obtain ⟨g152, hg152, H⟩ := bnd H
   refine Tq.mid 9 [(0, (.slice Ap0_0 (p0).length cp0_0)), (3, (.pointer (some ⟨b100, 0, none⟩))), (5, (.slice Al119 (l119).length cl119)), (6, (.int .i64 x150)), (43, (.bool g152))] ?_ ?_
   ·cases hg160 : (decide (x150 < (p0.length : Int)))
    ·rw [hg160] at hg152
     rw [if_neg (by decide)] at hg152
     have H := hg152
     obtain rfl := Option.some.inj H
     refine Tq.pass rfl rfl rfl rfl rfl (by decide) ?_
     refine Tq.pass rfl rfl rfl rfl rfl (by decide) ?_
     refine Tq.pass rfl rfl rfl rfl rfl (by decide) ?_
     refine Tq.pass rfl rfl rfl rfl rfl (by decide) ?_
     refine Tq.pass rfl rfl rfl rfl rfl (by decide) ?_
     refine Tq.pass rfl rfl rfl rfl rfl (by decide) ?_
     refine Tq.pass rfl rfl rfl rfl rfl (by decide) ?_
     refine Tq.pass rfl rfl rfl rfl rfl (by decide) ?_
     refine Tq.va rfl (fun _ _ h1 h2 => run_pickF (h1.ev rfl) (h1.ev rfl)) ?_
     exact Tq.fin (.cons rfl (.cons rfl (.cons rfl (.cons rfl (.cons rfl .nil)))))
    ·rw [hg160] at hg152
     rw [if_pos rfl] at hg152
     have H := hg152
     refine Tq.val (wg rfl rfl rfl) rfl (fun _ _ h1 h2 => run_move (h1.ev rfl)) ?_
     refine Tq.val (wg rfl rfl rfl) rfl (fun _ _ h1 h2 => run_move (h1.ev rfl)) ?_
     obtain ⟨x153, hx153, H⟩ := bnd H
     obtain ⟨hx1530, hx1531, hx1532⟩ := idx_some hx153
     refine Tq.val (wg rfl rfl rfl) rfl (fun _ _ h1 h2 => run_indexAddr el_146 (h1.ev rfl) hp0_0.form (h1.ev rfl) hx1530 hx1531) ?_
     refine Tq.val (wg rfl rfl rfl) rfl (fun _ _ h1 h2 => run_fieldAddr fo_177_0 (h1.ev rfl)) ?_
     refine Tq.val (wg rfl rfl rfl) rfl (fun _ _ h1 h2 => run_load1 ag_3 (h1.ev rfl) (CellsAt.drop (rdF ef_TSpan hp0_0 hx1532 h2) 0) rfl) ?_
     refine Tq.val (wg rfl rfl rfl) rfl (fun _ _ h1 h2 => run_fieldAddr fo_177_1 (h1.ev rfl)) ?_
     refine Tq.val (wg rfl rfl rfl) rfl (fun _ _ h1 h2 => run_load1 ag_3 (h1.ev rfl) (rdb h2 (vs := [(.int .i64 x148), (.int .i64 x149)]) (k := 1) rfl 1) rfl) ?_
     refine Tq.val (wg rfl rfl rfl) rfl (fun _ _ h1 h2 => run_leq (h1.ev rfl) (h1.ev rfl)) ?_
     refine Tq.va rfl (fun _ _ h1 h2 => run_pickT (h1.ev rfl) (h1.ev rfl)) ?_
     obtain rfl := Option.some.inj H
     exact Tq.fin (.cons rfl (.cons rfl (.cons rfl (.cons rfl (.cons rfl .nil)))))
   ·refine Tq.nil (Tr.normThen ?_)
    refine Tr.cond rfl H (fun H => ?_) (fun H => ?_)
    ·refine Tr.skip (Tr.normThen ?_)
     refine Tr.block ?_
     refine Tr.seq ?_
     refine Tr.drawC 18 [(17, fun x => x = b100)] [] (by kernel_rfl) (by kernel_rfl) fun sz154 hlosz154 hEsz154 => ?_
     refine Dr.quiet 0 [(44, (.pointer (some ⟨b100, 0, none⟩)))] (by kernel_rfl) rfl rfl (by kernel_rfl) ?_ rfl rfl ?_
     ·refine Tq.va rfl (fun _ _ h1 h2 => run_fieldAddr fo_177_0 (h1.ev rfl)) ?_
      exact Tq.fin (.cons rfl .nil)
     refine Dr.quiet 1 [(45, (.int .i64 x148))] (by kernel_rfl) rfl rfl (by kernel_rfl) ?_ rfl rfl ?_
     ·refine Tq.va rfl (fun _ _ h1 h2 => run_load1 ag_3 (h1.ev rfl) (rdb h2 (vs := [(.int .i64 x148), (.int .i64 x149)]) (k := 1) rfl 0) rfl) ?_
      exact Tq.fin (.cons rfl .nil)
     refine Dr.quiet 2 [(46, (.slice Ap0_0 (p0).length cp0_0))] (by kernel_rfl) rfl rfl (by kernel_rfl) ?_ rfl rfl ?_
     ·refine Tq.mv rfl rfl ?_
      exact Tq.fin (.cons rfl .nil)
     refine Dr.quiet 3 [(47, (.int .i64 x150))] (by kernel_rfl) rfl rfl (by kernel_rfl) ?_ rfl rfl ?_
     ·refine Tq.mv rfl rfl ?_
      exact Tq.fin (.cons rfl .nil)
     obtain ⟨x155, hx155, H⟩ := bnd H
     obtain ⟨hx1550, hx1551, hx1552⟩ := idx_some hx155
     refine Dr.quiet 4 [(48, (.pointer (some ⟨adB Ap0_0, adO Ap0_0 + (x150).toNat * 2, none⟩)))] (by kernel_rfl) rfl rfl (by kernel_rfl) ?_ rfl rfl ?_
     ·refine Tq.va rfl (fun _ _ h1 h2 => run_indexAddr el_146 (h1.ev rfl) hp0_0.form (h1.ev rfl) hx1550 hx1551) ?_
      exact Tq.fin (.cons rfl .nil)
     refine Dr.quiet 5 [(49, (.pointer (some ⟨adB Ap0_0, adO Ap0_0 + (x150).toNat * 2 + 0, none⟩)))] (by kernel_rfl) rfl rfl (by kernel_rfl) ?_ rfl rfl ?_
     ·refine Tq.va rfl (fun _ _ h1 h2 => run_fieldAddr fo_177_0 (h1.ev rfl)) ?_
      exact Tq.fin (.cons rfl .nil)
     refine Dr.quiet 6 [(50, (.int .i64 x155.from_))] (by kernel_rfl) rfl rfl (by kernel_rfl) ?_ rfl rfl ?_
     ·refine Tq.va rfl (fun _ _ h1 h2 => run_load1 ag_3 (h1.ev rfl) (CellsAt.drop (rdF ef_TSpan hp0_0 hx1552 h2) 0) rfl) ?_
      exact Tq.fin (.cons rfl .nil)
     refine Dr.quiet 7 [(51, (.int .i64 (min x148 x155.from_)))] (by kernel_rfl) rfl rfl (by kernel_rfl) ?_ rfl rfl ?_
     ·refine Tq.va rfl (fun _ _ h1 h2 => run_min (h1.ev rfl) (h1.ev rfl) _) ?_
      exact Tq.fin (.cons rfl .nil)
     refine Dr.quiet 8 [(52, (.pointer (some ⟨b100, 1, none⟩)))] (by kernel_rfl) rfl rfl (by kernel_rfl) ?_ rfl rfl ?_
     ·refine Tq.va rfl (fun _ _ h1 h2 => run_fieldAddr fo_177_1 (h1.ev rfl)) ?_
      exact Tq.fin (.cons rfl .nil)
     refine Dr.quiet 9 [(53, (.int .i64 x149))] (by kernel_rfl) rfl rfl (by kernel_rfl) ?_ rfl rfl ?_
     ·refine Tq.va rfl (fun _ _ h1 h2 => run_load1 ag_3 (h1.ev rfl) (rdb h2 (vs := [(.int .i64 x148), (.int .i64 x149)]) (k := 1) rfl 1) rfl) ?_
      exact Tq.fin (.cons rfl .nil)
     refine Dr.quietP 10 (by kernel_rfl) rfl (wn rfl) rfl (by kernel_rfl) (fun _ _ h1 => run_move (h1.ev rfl)) rfl ?_
     refine Dr.quietP 11 (by kernel_rfl) rfl (wn rfl) rfl (by kernel_rfl) (fun _ _ h1 => run_move (h1.ev rfl)) rfl ?_
     obtain ⟨x156, hx156, H⟩ := bnd H
     obtain ⟨hx1560, hx1561, hx1562⟩ := idx_some hx156
     refine Dr.quietP 12 (by kernel_rfl) rfl (wn rfl) rfl (by kernel_rfl) (fun _ _ h1 => run_indexAddr el_146 (h1.ev rfl) hp0_0.form (h1.ev rfl) hx1560 hx1561) rfl ?_
     refine Dr.quietP 13 (by kernel_rfl) rfl (wn rfl) rfl (by kernel_rfl) (fun _ _ h1 => run_fieldAddr fo_177_1 (h1.ev rfl)) rfl ?_
     refine Dr.quietZ 14 [(58, (.int .i64 x156.to_))] [17] false (by kernel_rfl) rfl rfl (by kernel_rfl) (fun W W' h2 hsW hk => HF.keepZ (le := []) (ks := [(1, fun x => x = b100)]) (s0 := sz154) false h2 hk (fun h => absurd h (by decide)) .nil (fun b hb => hb.elim (fun ⟨p, hp, hf, hb⟩ => by simp only [List.mem_cons, List.not_mem_nil, or_false] at hp; rcases hp with rfl; exact .inl ⟨_, List.mem_cons_self, hb⟩) (fun hb => absurd hb.1 (by decide))) (List.forall_mem_cons.2 ⟨fun b hb => hb, (fun _ h => nomatch h)⟩) rfl) ?_ rfl rfl ?_
     ·refine Tq.va rfl (fun _ _ h1 h2 => run_load1 ag_3 (h1.ev rfl) (CellsAt.drop (rdF ef_TSpan hp0_0 hx1562 h2) 1) rfl) ?_
      exact Tq.fin (.cons rfl .nil)
     refine Dr.quietP 15 (by kernel_rfl) rfl (wn rfl) rfl (by kernel_rfl) (fun _ _ h1 => run_max (h1.ev rfl) (h1.ev rfl) _) rfl ?_
     refine Dr.quiet 16 [(60, (.pointer (some ⟨b100, 0, none⟩)))] (by kernel_rfl) rfl rfl (by kernel_rfl) ?_ rfl rfl ?_
     ·refine Tq.va rfl (fun _ _ h1 h2 => run_fieldAddr fo_177_0 (h1.ev rfl)) ?_
      exact Tq.fin (.cons rfl .nil)
     refine Dr.one 17 (by kernel_rfl) ?_
     refine St.store 17 1 (cs := [(.int .i64 (min x148 x155.from_))]) [(.int .i64 (min x148 x155.from_)), (.int .i64 x149)] rfl (wn rfl) (.inl ⟨_, List.mem_cons_self, rfl, rfl⟩) rfl rfl rfl rfl sz_3 rfl rfl rfl ?_
     refine Dr.tail (by kernel_rfl) ?_
     refine Tr.va rfl (fun _ _ h1 h2 => run_fieldAddr fo_177_1 (h1.ev rfl)) ?_
     refine Tr.store 1 (cs := [(.int .i64 (max x149 x156.to_))]) [(.int .i64 (min x148 x155.from_)), (.int .i64 (max x149 x156.to_))] (wn rfl) rfl rfl rfl rfl sz_3 rfl rfl rfl ?_
     refine Tr.nil (Tr.normThen ?_)
     refine Tr.region ?_
     refine Tr.mv rfl rfl ?_
     refine Tr.va rfl (fun _ _ h1 h2 => run_add (h1.ev rfl) (h1.ev rfl)) ?_
     refine Tr.asg rfl rfl ?_
     refine Tr.nil (Tr.normBlock ?_)
     exact Tr.backThen leF_etchhouseref1_joined_L2 ((min x148 x155.from_), (max x149 x156.to_), (w64 (x150 + 1))) H (.cons rfl (.cons rfl (.cons rfl (.cons rfl .nil)))) (.cons rfl (.cons rfl .nil))
    ·refine Tr.exit (Tr.exitThen (Tr.exitThen (Tr.exitBlock (Tr.normThen ?_))))
     refine Tr.sr ?_
     refine Tr.mv rfl rfl ?_
     refine Tr.va rfl (fun _ _ h1 h2 => run_loadN (cs := [(.int .i64 x148), (.int .i64 x149)]) ag_177 sz_177 (h1.ev rfl) (CellsAt.take (rdb h2 (vs := [(.int .i64 x148), (.int .i64 x149)]) (k := 1) rfl 0) 2) rfl) ?_
     refine Tr.buildSlice 7 (e := 177) (vs := [(0, (.agg #[(.int .i64 x148), (.int .i64 x149)]))]) (cs := [(.int .i64 x148), (.int .i64 x149)]) (wn rfl) rfl (evs_cons rfl evs_nil) (by kernel_rfl) fun b157 => ?_
     obtain ⟨l158, hl158, H⟩ := bnd H
     refine Tr.append 3 (t := fl_TSpan) (l := l119) (l2 := [(TSpan.mk x148 x149)]) (wn rfl) rfl rfl rfl rfl (fun W hW => ⟨[[(.int .i64 x148), (.int .i64 x149)]], (.cons ⟨(), trivial, rfl⟩ .nil), rdb hW (vs := [(.int .i64 x148), (.int .i64 x149)]) (k := 7) rfl 0⟩) un_146 sz_177 zl_177 (by decide) by_177 rfl hl158 fun Al158 cl158 hAl158 => ?_
     refine Tr.asg rfl rfl ?_
     refine Tr.nil (Tr.normThen ?_)
     refine Tr.sr ?_
     refine Tr.mv rfl rfl ?_
     refine Tr.mv rfl rfl ?_
     refine Tr.mv rfl rfl ?_
     obtain ⟨l159, hl159, H⟩ := bnd H
     refine Tr.va rfl (fun _ _ h1 h2 => run_cutL el_146 (h1.ev rfl) hp0_0.form (h1.ev rfl) hl159) ?_
     obtain ⟨l160, hl160, H⟩ := bnd H
     refine Tr.appendS 3 (t := fl_TSpan) (l := l158) (l2 := l159) (wn rfl) rfl rfl rfl rfl (apT tr_TSpan (fun W hW => (Sl.cut (Sl.inB hp0_0 hW) hl159))) un_146 sz_177 zl_177 (by decide) by_177 rfl hl160 fun Al160 cl160 hAl160 => ?_
     refine Tr.asg rfl rfl ?_
     refine Tr.nil (Tr.normThen ?_)
     refine Tr.ret ?_
     obtain rfl := Option.some.inj H
     exact Tr.out (m := [(.slice Al160 (l160).length cl160)]) [] (res_tmp rfl res_nil) (fun W hW => ⟨(Al160, cl160), rfl, hAl160, HF.lowE leB (hW.pick (ks := [3]) (by decide) (pk_cons rfl pk_nil)) ⟨ow_any _ _ _ _ tr_TSpan, trivial⟩⟩)

theorem F_etchhouseref1_row_ok (N : Nat) {w : Bs} (p0 : (List TRect)) (Ap0_0 : Option Addr) (cp0_0 : Nat) (hp0_0 : Sl w.R w.W fl_TRect Ap0_0 cp0_0 p0) (p1 : Int) (r : (List TSpan)) (H : F_etchhouseref1_row N p0 p1 = some r) (hE : HF w w.W (LEn [emp])) : Calls Try.prog 123 [(.slice Ap0_0 (p0).length cp0_0), (.int .i64 p1)].toArray w.W fun e W' => ∃ u : (Option Addr × Nat), e = .returned (.slice u.1 (r).length u.2) ∧ (SlF u.1 (r).length u.2) ∧ HF w W' (LEn [ow u.1 u.2 177 fl_TSpan r]) := by
 unfold F_etchhouseref1_row at H
 have leB := Bs.Le.refl w
 refine Tr.enter (n := 43) Try.func123 rfl rfl rfl hE ?_
 refine Tr.sr ?_
 refine Tr.asg rfl rfl ?_
 refine Tr.nilOwn 1 177 fl_TSpan ?_
 show Tr _ _ (uf _ 4 (.slice none (([] : List TSpan)).length 0)) _ _
 refine Tr.nil (Tr.normThen ?_)
 refine Tr.sr ?_
 refine Tr.asg rfl rfl ?_
 refine Tr.nilOwn 2 177 fl_TSpan ?_
 show Tr _ _ (uf _ 5 (.slice none (([] : List TSpan)).length 0)) _ _
 refine Tr.nil (Tr.normThen ?_)
 refine Tr.seq ?_
 refine Tr.sr ?_
 refine Tr.asg rfl rfl ?_
 refine Tr.nil (Tr.normThen ?_)
 refine Tr.block ?_
 refine Tr.ren 2 8 rfl rfl rfl ?_
 refine Tr.loop (σ := (List TSpan) × Int × (Option Addr) × Nat) (fun m w s => F_etchhouseref1_row_L1 N p0 p1 m s.1 s.2.1 = some r ∧ SlF s.2.2.1 (s.1).length s.2.2.2) (fun s => [(0, (.slice Ap0_0 (p0).length cp0_0)), (1, (.int .i64 p1)), (5, (.slice s.2.2.1 (s.1).length s.2.2.2)), (6, (.int .i64 s.2.1))]) (fun s => [(8, ow s.2.2.1 s.2.2.2 177 fl_TSpan s.1)]) N (([] : List TSpan), 0, none, 0) ⟨H, slf_nil⟩ (.cons rfl (.cons rfl (.cons rfl (.cons rfl .nil)))) (.cons rfl .nil) (fun _ _ h => noSome (h.1)) ?_
 intro w leF_etchhouseref1_row_L1 mF_etchhouseref1_row_L1 s hs
 obtain ⟨l122, x123, Al122, cl122⟩ := s
 obtain ⟨H, hl122⟩ := hs
 replace H : F_etchhouseref1_row_L1 N p0 p1 (mF_etchhouseref1_row_L1 + 1) l122 x123 = some r := H
 replace hp0_0 := hp0_0.leR leF_etchhouseref1_row_L1
 replace leB := leB.trans leF_etchhouseref1_row_L1
 replace hl122 : SlF Al122 (l122).length cl122 := hl122
 rw [F_etchhouseref1_row_L1.eq_2] at H
 show Tr _ _ (LF [(0, (.slice Ap0_0 (p0).length cp0_0)), (1, (.int .i64 p1)), (5, (.slice Al122 (l122).length cl122)), (6, (.int .i64 x123))]) (LE [(8, ow Al122 cl122 177 fl_TSpan l122)]) _
 refine Tr.seq ?_
 refine Tr.sr ?_
 refine Tr.mv rfl rfl ?_
 refine Tr.mv rfl rfl ?_
 refine Tr.va rfl (fun _ _ h1 h2 => run_len un_22 (h1.ev rfl)) ?_
 refine Tr.va rfl (fun _ _ h1 h2 => run_lss (h1.ev rfl) (h1.ev rfl)) ?_
 refine Tr.nil (Tr.normThen ?_)
 refine Tr.cond rfl H (fun H => ?_) (fun H => ?_)
 ·refine Tr.skip (Tr.normThen ?_)
  refine Tr.seq ?_
  refine Tr.block ?_
  refine Tr.sr ?_
  refine Tr.mv rfl rfl ?_
  refine Tr.mv rfl rfl ?_
  obtain ⟨x124, hx124, H⟩ := bnd H
  obtain ⟨hx1240, hx1241, hx1242⟩ := idx_some hx124
  refine Tr.va rfl (fun _ _ h1 h2 => run_indexAddr el_22 (h1.ev rfl) hp0_0.form (h1.ev rfl) hx1240 hx1241) ?_
  refine Tr.va rfl (fun _ _ h1 h2 => run_fieldAddr fo_29_1 (h1.ev rfl)) ?_
  refine Tr.va rfl (fun _ _ h1 h2 => run_load1 ag_3 (h1.ev rfl) (CellsAt.drop (rdF ef_TRect hp0_0 hx1242 h2) 1) rfl) ?_
  refine Tr.mv rfl rfl ?_
  refine Tr.va rfl (fun _ _ h1 h2 => run_leq (h1.ev rfl) (h1.ev rfl)) ?_
  refine Tr.mv rfl rfl ?_
  obtain ⟨g126, hg126, H⟩ := bnd H
  refine Tr.mid0 8 [(0, (.slice Ap0_0 (p0).length cp0_0)), (1, (.int .i64 p1)), (5, (.slice Al122 (l122).length cl122)), (6, (.int .i64 x123)), (28, (.bool g126))] [(8, ow Al122 cl122 177 fl_TSpan l122)] ?_ ?_
  ·cases hg131 : (decide (x124.Y0 ≤ p1))
   ·rw [hg131] at hg126
    rw [if_neg (by decide)] at hg126
    have H := hg126
    obtain rfl := Option.some.inj H
    refine Tr.pass rfl rfl rfl rfl rfl (by decide) ?_
    refine Tr.pass rfl rfl rfl rfl rfl (by decide) ?_
    refine Tr.pass rfl rfl rfl rfl rfl (by decide) ?_
    refine Tr.pass rfl rfl rfl rfl rfl (by decide) ?_
    refine Tr.pass rfl rfl rfl rfl rfl (by decide) ?_
    refine Tr.pass rfl rfl rfl rfl rfl (by decide) ?_
    refine Tr.pass rfl rfl rfl rfl rfl (by decide) ?_
    refine Tr.va rfl (fun _ _ h1 h2 => run_pickF (h1.ev rfl) (h1.ev rfl)) ?_
    exact Tr.nil (Tr.fin0 (.cons rfl (.cons rfl (.cons rfl (.cons rfl (.cons rfl .nil))))) (.cons rfl .nil))
   ·rw [hg131] at hg126
    rw [if_pos rfl] at hg126
    have H := hg126
    refine Tr.val (wg rfl rfl rfl) rfl (fun _ _ h1 h2 => run_move (h1.ev rfl)) ?_
    refine Tr.val (wg rfl rfl rfl) rfl (fun _ _ h1 h2 => run_move (h1.ev rfl)) ?_
    refine Tr.val (wg rfl rfl rfl) rfl (fun _ _ h1 h2 => run_move (h1.ev rfl)) ?_
    obtain ⟨x127, hx127, H⟩ := bnd H
    obtain ⟨hx1270, hx1271, hx1272⟩ := idx_some hx127
    refine Tr.val (wg rfl rfl rfl) rfl (fun _ _ h1 h2 => run_indexAddr el_22 (h1.ev rfl) hp0_0.form (h1.ev rfl) hx1270 hx1271) ?_
    refine Tr.val (wg rfl rfl rfl) rfl (fun _ _ h1 h2 => run_fieldAddr fo_29_3 (h1.ev rfl)) ?_
    refine Tr.val (wg rfl rfl rfl) rfl (fun _ _ h1 h2 => run_load1 ag_3 (h1.ev rfl) (CellsAt.drop (rdF ef_TRect hp0_0 hx1272 h2) 3) rfl) ?_
    refine Tr.val (wg rfl rfl rfl) rfl (fun _ _ h1 h2 => run_lss (h1.ev rfl) (h1.ev rfl)) ?_
    refine Tr.va rfl (fun _ _ h1 h2 => run_pickT (h1.ev rfl) (h1.ev rfl)) ?_
    obtain rfl := Option.some.inj H
    exact Tr.nil (Tr.fin0 (.cons rfl (.cons rfl (.cons rfl (.cons rfl (.cons rfl .nil))))) (.cons rfl .nil))
  ·show Tr _ _ (LF [(0, (.slice Ap0_0 (p0).length cp0_0)), (1, (.int .i64 p1)), (5, (.slice Al122 (l122).length cl122)), (6, (.int .i64 x123)), (28, (.bool g126))]) (LE [(8, ow Al122 cl122 177 fl_TSpan l122)]) _
   refine Tr.nil (Tr.normThen ?_)
   refine Tr.cond rfl H (fun H => ?_) (fun H => ?_)
   ·refine Tr.drawTail 12 (by kernel_rfl) (by kernel_rfl) ?_
    refine Tq.mv rfl rfl ?_
    refine Tq.mv rfl rfl ?_
    refine Tq.mv rfl rfl ?_
    obtain ⟨x128, hx128, H⟩ := bnd H
    obtain ⟨hx1280, hx1281, hx1282⟩ := idx_some hx128
    refine Tq.va rfl (fun _ _ h1 h2 => run_indexAddr el_22 (h1.ev rfl) hp0_0.form (h1.ev rfl) hx1280 hx1281) ?_
    refine Tq.va rfl (fun _ _ h1 h2 => run_fieldAddr fo_29_0 (h1.ev rfl)) ?_
    refine Tq.va rfl (fun _ _ h1 h2 => run_load1 ag_3 (h1.ev rfl) (CellsAt.drop (rdF ef_TRect hp0_0 hx1282 h2) 0) rfl) ?_
    refine Tq.mv rfl rfl ?_
    refine Tq.mv rfl rfl ?_
    obtain ⟨x129, hx129, H⟩ := bnd H
    obtain ⟨hx1290, hx1291, hx1292⟩ := idx_some hx129
    refine Tq.va rfl (fun _ _ h1 h2 => run_indexAddr el_22 (h1.ev rfl) hp0_0.form (h1.ev rfl) hx1290 hx1291) ?_
    refine Tq.va rfl (fun _ _ h1 h2 => run_fieldAddr fo_29_2 (h1.ev rfl)) ?_
    refine Tq.va rfl (fun _ _ h1 h2 => run_load1 ag_3 (h1.ev rfl) (CellsAt.drop (rdF ef_TRect hp0_0 hx1292 h2) 2) rfl) ?_
    refine Tq.build (vs := [(0, (.int .i64 x128.X0)), (1, (.int .i64 x129.X1))]) (cs := [(.int .i64 x128.X0), (.int .i64 x129.X1)]) (wn rfl) rfl (evs_cons rfl (evs_cons rfl evs_nil)) (by kernel_rfl) ?_
    refine Tq.nil ?_
    obtain ⟨y130, hy130, H⟩ := bnd H
    refine Tr.callM [9] [emp] (U := (Option Addr × Nat)) (fun u => (.slice u.1 (y130).length u.2)) (fun u => SlF u.1 (y130).length u.2) (fun u => [ow u.1 u.2 177 fl_TSpan y130]) rfl (pk_cons rfl pk_nil) (fun _ => rfl) (wn rfl) rfl Try.call155 (evl_cons rfl (evl_cons rfl evl_nil)) (fun W hW hp hE => F_etchhouseref1_joined_ok N l122 Al122 cl122 (hW.slS (k := 8) rfl hp rfl) (TSpan.mk x128.X0 x129.X1) y130 hy130 hE) ?_
    intro u hu
    obtain ⟨Ay130_0, cy130_0⟩ := u
    have gy130_0 := hu
    have hgy130_0 : SlF Ay130_0 (y130).length cy130_0 := gy130_0 --@phi
    show Tr _ _ (uf _ 41 (.slice Ay130_0 (y130).length cy130_0)) (up _ 9 (ow Ay130_0 cy130_0 177 fl_TSpan y130)) _
    refine Tr.asg rfl rfl ?_
    refine Tr.nil (Tr.normBlock (Tr.normThen ?_))
    refine Tr.region ?_
    refine Tr.mv rfl rfl ?_
    refine Tr.va rfl (fun _ _ h1 h2 => run_add (h1.ev rfl) (h1.ev rfl)) ?_
    refine Tr.asg rfl rfl ?_
    refine Tr.nil ?_
    refine Tr.dropK 8 ?_
    refine Tr.ren 9 8 rfl rfl rfl ?_
    exact Tr.backThen leF_etchhouseref1_row_L1 (y130, (w64 (x123 + 1)), Ay130_0, cy130_0) ⟨H, hgy130_0⟩ (.cons rfl (.cons rfl (.cons rfl (.cons rfl .nil)))) (.cons rfl .nil)
   ·refine Tr.skip (Tr.normBlock (Tr.normThen ?_))
    refine Tr.region ?_
    refine Tr.mv rfl rfl ?_
    refine Tr.va rfl (fun _ _ h1 h2 => run_add (h1.ev rfl) (h1.ev rfl)) ?_
    refine Tr.asg rfl rfl ?_
    refine Tr.nil ?_
    exact Tr.backThen leF_etchhouseref1_row_L1 (l122, (w64 (x123 + 1)), Al122, cl122) ⟨H, hl122⟩ (.cons rfl (.cons rfl (.cons rfl (.cons rfl .nil)))) (.cons rfl .nil)
 ·refine Tr.exit (Tr.exitThen (Tr.exitThen (Tr.exitBlock (Tr.normThen ?_))))
  refine Tr.sr ?_
  refine Tr.mv rfl rfl ?_
  refine Tr.asg rfl rfl ?_
  refine Tr.nil (Tr.normThen ?_)
  refine Tr.ret ?_
  obtain rfl := Option.some.inj H
  exact Tr.out (m := [(.slice Al122 (l122).length cl122)]) [] (res_tmp rfl res_nil) (fun W hW => ⟨(Al122, cl122), rfl, hl122, HF.lowE leB (hW.pick (ks := [8]) (by decide) (pk_cons rfl pk_nil)) ⟨ow_any _ _ _ _ tr_TSpan, trivial⟩⟩)

theorem F_etchhouseref1_sameSpans_ok (N : Nat) {w : Bs} (p0 : (List TSpan)) (Ap0_0 : Option Addr) (cp0_0 : Nat) (hp0_0 : Sl w.R w.W fl_TSpan Ap0_0 cp0_0 p0) (p1 : (List TSpan)) (Ap1_0 : Option Addr) (cp1_0 : Nat) (hp1_0 : Sl w.R w.W fl_TSpan Ap1_0 cp1_0 p1) (r : Bool) (H : F_etchhouseref1_sameSpans N p0 p1 = some r) (hE : HF w w.W E0) : Calls Try.prog 154 [(.slice Ap0_0 (p0).length cp0_0), (.slice Ap1_0 (p1).length cp1_0)].toArray w.W fun e W' => e = .returned (.bool r) ∧ HF w W' E0 := by
 unfold F_etchhouseref1_sameSpans at H
 have leB := Bs.Le.refl w
 refine Tr.enter (n := 26) Try.func154 rfl rfl rfl hE ?_
 refine Tr.sr ?_
 refine Tr.asg rfl rfl ?_
 refine Tr.nil (Tr.normThen ?_)
 refine Tr.seq ?_
 refine Tr.sr ?_
 refine Tr.mv rfl rfl ?_
 refine Tr.va rfl (fun _ _ h1 h2 => run_len un_146 (h1.ev rfl)) ?_
 refine Tr.mv rfl rfl ?_
 refine Tr.va rfl (fun _ _ h1 h2 => run_len un_146 (h1.ev rfl)) ?_
 refine Tr.va rfl (fun _ _ h1 h2 => run_neq (h1.ev rfl) (h1.ev rfl)) ?_
 refine Tr.nil (Tr.normThen ?_)
 refine Tr.cond rfl H (fun H => ?_) (fun H => ?_)
 ·refine Tr.sr ?_
  refine Tr.asg rfl rfl ?_
  refine Tr.nil (Tr.normThen ?_)
  refine Tr.ret (Tr.retThen ?_)
  obtain rfl := Option.some.inj H
  exact Tr.out (m := [(.bool false)]) [] (res_tmp rfl res_nil) (fun W hW => ⟨rfl, hW.low leB⟩)
 ·refine Tr.skip (Tr.normThen ?_)
  refine Tr.seq ?_
  refine Tr.sr ?_
  refine Tr.asg rfl rfl ?_
  refine Tr.nil (Tr.normThen ?_)
  refine Tr.block ?_
  refine Tr.loop (σ := Int) (fun m w s => F_etchhouseref1_sameSpans_L1 p0 p1 m s = some r) (fun s => [(0, (.slice Ap0_0 (p0).length cp0_0)), (1, (.slice Ap1_0 (p1).length cp1_0)), (5, (.int .i64 s))]) (fun s => []) N 0 H (.cons rfl (.cons rfl (.cons rfl .nil))) .nil (fun _ _ h => noSome (h)) ?_
  intro w leF_etchhouseref1_sameSpans_L1 mF_etchhouseref1_sameSpans_L1 x107 hs
  have H := hs
  replace H : F_etchhouseref1_sameSpans_L1 p0 p1 (mF_etchhouseref1_sameSpans_L1 + 1) x107 = some r := H
  replace hp0_0 := hp0_0.leR leF_etchhouseref1_sameSpans_L1
  replace hp1_0 := hp1_0.leR leF_etchhouseref1_sameSpans_L1
  replace leB := leB.trans leF_etchhouseref1_sameSpans_L1
  rw [F_etchhouseref1_sameSpans_L1.eq_2] at H
  show Tr _ _ (LF [(0, (.slice Ap0_0 (p0).length cp0_0)), (1, (.slice Ap1_0 (p1).length cp1_0)), (5, (.int .i64 x107))]) (LE []) _
  refine Tr.seq ?_
  refine Tr.sr ?_
  refine Tr.mv rfl rfl ?_
  refine Tr.mv rfl rfl ?_
  refine Tr.va rfl (fun _ _ h1 h2 => run_len un_146 (h1.ev rfl)) ?_
  refine Tr.va rfl (fun _ _ h1 h2 => run_lss (h1.ev rfl) (h1.ev rfl)) ?_
  refine Tr.nil (Tr.normThen ?_)
  refine Tr.cond rfl H (fun H => ?_) (fun H => ?_)
  ·refine Tr.skip (Tr.normThen ?_)
   refine Tr.seq ?_
   refine Tr.block ?_
   refine Tr.seq ?_
   refine Tr.draw (by kernel_rfl) (by kernel_rfl) ?_
   refine Tq.mv rfl rfl ?_
   refine Tq.mv rfl rfl ?_
   obtain ⟨x108, hx108, H⟩ := bnd H
   obtain ⟨hx1080, hx1081, hx1082⟩ := idx_some hx108
   refine Tq.va rfl (fun _ _ h1 h2 => run_indexAddr el_146 (h1.ev rfl) hp0_0.form (h1.ev rfl) hx1080 hx1081) ?_
   refine Tq.va rfl (fun _ _ h1 h2 => run_loadN (cs := [(.int .i64 x108.from_), (.int .i64 x108.to_)]) ag_177 sz_177 (h1.ev rfl) (CellsAt.take (rdF ef_TSpan hp0_0 hx1082 h2) 2) rfl) ?_
   refine Tq.mv rfl rfl ?_
   refine Tq.mv rfl rfl ?_
   obtain ⟨x109, hx109, H⟩ := bnd H
   obtain ⟨hx1090, hx1091, hx1092⟩ := idx_some hx109
   refine Tq.va rfl (fun _ _ h1 h2 => run_indexAddr el_146 (h1.ev rfl) hp1_0.form (h1.ev rfl) hx1090 hx1091) ?_
   refine Tq.va rfl (fun _ _ h1 h2 => run_loadN (cs := [(.int .i64 x109.from_), (.int .i64 x109.to_)]) ag_177 sz_177 (h1.ev rfl) (CellsAt.take (rdF ef_TSpan hp1_0 hx1092 h2) 2) rfl) ?_
   refine Tq.va rfl (fun _ _ h1 h2 => run_neq_177 x108 x109 (h1.ev rfl) (h1.ev rfl)) ?_
   refine Tq.nil (Tr.normThen ?_)
   refine Tr.cond rfl H (fun H => ?_) (fun H => ?_)
   ·refine Tr.sr ?_
    refine Tr.asg rfl rfl ?_
    refine Tr.nil (Tr.normThen ?_)
    refine Tr.ret (Tr.retBlock (Tr.retThen (Tr.retThen (Tr.retBlock (Tr.retThen ?_)))))
    obtain rfl := Option.some.inj H
    exact Tr.out (m := [(.bool false)]) [] (res_tmp rfl res_nil) (fun W hW => ⟨rfl, hW.low leB⟩)
   ·refine Tr.skip (Tr.normBlock (Tr.normThen ?_))
    refine Tr.region ?_
    refine Tr.mv rfl rfl ?_
    refine Tr.va rfl (fun _ _ h1 h2 => run_add (h1.ev rfl) (h1.ev rfl)) ?_
    refine Tr.asg rfl rfl ?_
    refine Tr.nil ?_
    exact Tr.backThen leF_etchhouseref1_sameSpans_L1 (w64 (x107 + 1)) H (.cons rfl (.cons rfl (.cons rfl .nil))) .nil
  ·refine Tr.exit (Tr.exitThen (Tr.exitThen (Tr.exitBlock (Tr.normThen ?_))))
   refine Tr.sr ?_
   refine Tr.asg rfl rfl ?_
   refine Tr.nil (Tr.normThen ?_)
   refine Tr.ret ?_
   obtain rfl := Option.some.inj H
   exact Tr.out (m := [(.bool true)]) [] (res_tmp rfl res_nil) (fun W hW => ⟨rfl, hW.low leB⟩)

theorem F_etchhouseref1_stacked_ok (N : Nat) {w : Bs} (p0 : (List Tetchhouseref1Band)) (Ap0_0 : Option Addr) (cp0_0 : Nat) (p1 : Tetchhouseref1Band) (Ap1_0 : Option Addr) (cp1_0 : Nat) (hp1_0 : Sl w.O w.W fl_TSpan Ap1_0 cp1_0 p1.spans) (r : (List Tetchhouseref1Band)) (H : F_etchhouseref1_stacked N p0 p1 = some r) (hE : HF w w.W (LEn [ow Ap0_0 cp0_0 149 fl_Tetchhouseref1Band p0])) : Calls Try.prog 122 [(.slice Ap0_0 (p0).length cp0_0), (.agg #[(.int .i64 p1.from_), (.int .i64 p1.to_), (.slice Ap1_0 (p1.spans).length cp1_0)])].toArray w.W fun e W' => ∃ (w' : Bs) (u : (Option Addr × Nat)), w.Le w' ∧ e = .returned (.slice u.1 (r).length u.2) ∧ (SlF u.1 (r).length u.2) ∧ HF w' W' (LEn [ow u.1 u.2 149 fl_Tetchhouseref1Band r]) := by
 unfold F_etchhouseref1_stacked at H
 have hfhp0_0 := (hE.sl (k := 0) rfl).form
 have leB := Bs.Le.refl w
 refine Tr.enter (n := 49) Try.func122 rfl rfl rfl hE ?_
 refine Tr.sr ?_
 refine Tr.box 1 (cs := [(.int .i64 p1.from_), (.int .i64 p1.to_), (.slice Ap1_0 (p1.spans).length cp1_0)]) (wn rfl) rfl rfl rfl fun b100 => ?_
 refine Tr.asg rfl rfl ?_
 refine Tr.nilOwn 2 149 fl_Tetchhouseref1Band ?_
 show Tr _ _ (uf _ 4 (.slice none (([] : List Tetchhouseref1Band)).length 0)) _ _
 refine Tr.nil (Tr.normThen ?_)
 refine Tr.seq ?_
 refine Tr.sr ?_
 refine Tr.va rfl (fun _ _ h1 h2 => run_fieldAddr fo_149_2 (h1.ev rfl)) ?_
 refine Tr.va rfl (fun _ _ h1 h2 => run_load1 ag_146 (h1.ev rfl) (rdb h2 (vs := [(.int .i64 p1.from_), (.int .i64 p1.to_), (.slice Ap1_0 (p1.spans).length cp1_0)]) (k := 1) rfl 2) rfl) ?_
 refine Tr.va rfl (fun _ _ h1 h2 => run_len un_146 (h1.ev rfl)) ?_
 refine Tr.va rfl (fun _ _ h1 h2 => run_eql (h1.ev rfl) (h1.ev rfl)) ?_
 refine Tr.nil (Tr.normThen ?_)
 refine Tr.cond rfl H (fun H => ?_) (fun H => ?_)
 ·refine Tr.sr ?_
  refine Tr.mv rfl rfl ?_
  refine Tr.asg rfl rfl ?_
  refine Tr.nil (Tr.normThen ?_)
  refine Tr.ret (Tr.retThen ?_)
  obtain rfl := Option.some.inj H
  exact Tr.out (m := [(.slice Ap0_0 (p0).length cp0_0)]) [] (res_tmp rfl res_nil) (fun W hW => ⟨w, (Ap0_0, cp0_0), leB, rfl, hfhp0_0, hW.pick (ks := [0]) (by decide) (pk_cons rfl pk_nil)⟩)
 ·refine Tr.skip (Tr.normThen ?_)
  refine Tr.seq ?_
  refine Tr.sr ?_
  refine Tr.mv rfl rfl ?_
  refine Tr.va rfl (fun _ _ h1 h2 => run_len un_144 (h1.ev rfl)) ?_
  refine Tr.asg rfl rfl ?_
  refine Tr.nil (Tr.normThen ?_)
  refine Tr.seq ?_
  refine Tr.draw (by kernel_rfl) (by kernel_rfl) ?_
  refine Tq.mv rfl rfl ?_
  refine Tq.va rfl (fun _ _ h1 h2 => run_gtr (h1.ev rfl) (h1.ev rfl)) ?_
  refine Tq.mv rfl rfl ?_
  obtain ⟨g102, hg102, H⟩ := bnd H
  refine Tq.mid 10 [(0, (.slice Ap0_0 (p0).length cp0_0)), (3, (.pointer (some ⟨b100, 0, none⟩))), (5, (.int .i64 (p0.length : Int))), (25, (.bool g102))] ?_ ?_
  ·cases hg114 : (decide (0 < (p0.length : Int)))
   ·rw [hg114] at hg102
    rw [if_neg (by decide)] at hg102
    have H := hg102
    obtain rfl := Option.some.inj H
    refine Tq.pass rfl rfl rfl rfl rfl (by decide) ?_
    refine Tq.pass rfl rfl rfl rfl rfl (by decide) ?_
    refine Tq.pass rfl rfl rfl rfl rfl (by decide) ?_
    refine Tq.pass rfl rfl rfl rfl rfl (by decide) ?_
    refine Tq.pass rfl rfl rfl rfl rfl (by decide) ?_
    refine Tq.pass rfl rfl rfl rfl rfl (by decide) ?_
    refine Tq.pass rfl rfl rfl rfl rfl (by decide) ?_
    refine Tq.pass rfl rfl rfl rfl rfl (by decide) ?_
    refine Tq.pass rfl rfl rfl rfl rfl (by decide) ?_
    refine Tq.va rfl (fun _ _ h1 h2 => run_pickF (h1.ev rfl) (h1.ev rfl)) ?_
    exact Tq.fin (.cons rfl (.cons rfl (.cons rfl (.cons rfl .nil))))
   ·rw [hg114] at hg102
    rw [if_pos rfl] at hg102
    have H := hg102
    refine Tq.val (wg rfl rfl rfl) rfl (fun _ _ h1 h2 => run_move (h1.ev rfl)) ?_
    refine Tq.val (wg rfl rfl rfl) rfl (fun _ _ h1 h2 => run_move (h1.ev rfl)) ?_
    refine Tq.val (wg rfl rfl rfl) rfl (fun _ _ h1 h2 => run_sub (h1.ev rfl) (h1.ev rfl)) ?_
    obtain ⟨x103, hx103, H⟩ := bnd H
    obtain ⟨hx1030, hx1031, hx1032⟩ := idx_some hx103
    refine Tq.val (wg rfl rfl rfl) rfl (fun _ _ h1 h2 => run_indexAddr el_144 (h1.ev rfl) hfhp0_0 (h1.ev rfl) hx1030 hx1031) ?_
    refine Tq.val (wg rfl rfl rfl) rfl (fun _ _ h1 h2 => run_fieldAddr fo_149_1 (h1.ev rfl)) ?_
    refine Tq.val (wg rfl rfl rfl) rfl (fun _ _ h1 h2 => (HF.atN (k := 0) h2 rfl hx1032).elim fun u hu => run_load1 ag_3 (h1.ev rfl) (hu.2.drop 1) rfl) ?_
    refine Tq.val (wg rfl rfl rfl) rfl (fun _ _ h1 h2 => run_fieldAddr fo_149_0 (h1.ev rfl)) ?_
    refine Tq.val (wg rfl rfl rfl) rfl (fun _ _ h1 h2 => run_load1 ag_3 (h1.ev rfl) (rdb h2 (vs := [(.int .i64 p1.from_), (.int .i64 p1.to_), (.slice Ap1_0 (p1.spans).length cp1_0)]) (k := 1) rfl 0) rfl) ?_
    refine Tq.val (wg rfl rfl rfl) rfl (fun _ _ h1 h2 => run_eql (h1.ev rfl) (h1.ev rfl)) ?_
    refine Tq.va rfl (fun _ _ h1 h2 => run_pickT (h1.ev rfl) (h1.ev rfl)) ?_
    obtain rfl := Option.some.inj H
    exact Tq.fin (.cons rfl (.cons rfl (.cons rfl (.cons rfl .nil))))
  ·refine Tq.mv rfl rfl ?_
   obtain ⟨g107, hg107, H⟩ := bnd H
   refine Tq.mid 10 [(0, (.slice Ap0_0 (p0).length cp0_0)), (3, (.pointer (some ⟨b100, 0, none⟩))), (5, (.int .i64 (p0.length : Int))), (36, (.bool g107))] ?_ ?_
   ·cases hg114 : g102
    ·rw [hg114] at hg107
     rw [if_neg (by decide)] at hg107
     have H := hg107
     obtain rfl := Option.some.inj H
     refine Tq.pass rfl rfl rfl rfl rfl (by decide) ?_
     refine Tq.pass rfl rfl rfl rfl rfl (by decide) ?_
     refine Tq.pass rfl rfl rfl rfl rfl (by decide) ?_
     refine Tq.pass rfl rfl rfl rfl rfl (by decide) ?_
     refine Tq.pass rfl rfl rfl rfl rfl (by decide) ?_
     refine Tq.pass rfl rfl rfl rfl rfl (by decide) ?_
     refine Tq.pass rfl rfl rfl rfl rfl (by decide) ?_
     refine Tq.pass rfl rfl rfl rfl rfl (by decide) ?_
     refine Tq.pass rfl rfl rfl rfl rfl (by decide) ?_
     refine Tq.va rfl (fun _ _ h1 h2 => run_pickF (h1.ev rfl) (h1.ev rfl)) ?_
     exact Tq.fin (.cons rfl (.cons rfl (.cons rfl (.cons rfl .nil))))
    ·rw [hg114] at hg107
     rw [if_pos rfl] at hg107
     have H := hg107
     refine Tq.val (wg rfl rfl rfl) rfl (fun _ _ h1 h2 => run_move (h1.ev rfl)) ?_
     refine Tq.val (wg rfl rfl rfl) rfl (fun _ _ h1 h2 => run_move (h1.ev rfl)) ?_
     refine Tq.val (wg rfl rfl rfl) rfl (fun _ _ h1 h2 => run_sub (h1.ev rfl) (h1.ev rfl)) ?_
     obtain ⟨x108, hx108, H⟩ := bnd H
     obtain ⟨hx1080, hx1081, hx1082⟩ := idx_some hx108
     refine Tq.val (wg rfl rfl rfl) rfl (fun _ _ h1 h2 => run_indexAddr el_144 (h1.ev rfl) hfhp0_0 (h1.ev rfl) hx1080 hx1081) ?_
     refine Tq.val (wg rfl rfl rfl) rfl (fun _ _ h1 h2 => run_fieldAddr fo_149_2 (h1.ev rfl)) ?_
     refine Tq.valE (U := (fl_Tetchhouseref1Band).Ad) (fun u => (fl_Tetchhouseref1Band).ok w.O w.W u x108) (fun u => (.slice u.1 (x108.spans).length u.2)) (wg rfl rfl rfl) rfl (ldN (κ := 0) (t := fl_Tetchhouseref1Band) (V := fun u => (.slice u.1 (x108.spans).length u.2)) rfl hx1082 (fun _ _ u h1 hc => run_load1 ag_146 (h1.ev rfl) (hc.drop 2) rfl)) ?_
     intro u109 hoku109
     obtain ⟨Au109_0, cu109_0⟩ := u109
     have hoku109_0 := hoku109
     replace hoku109_0 : Sl w.O w.W fl_TSpan Au109_0 cu109_0 x108.spans := hoku109_0
     show Tq _ _ _ _ (uf _ 32 (.slice Au109_0 (x108.spans).length cu109_0)) _ _ _
     refine Tq.val (wg rfl rfl rfl) rfl (fun _ _ h1 h2 => run_fieldAddr fo_149_2 (h1.ev rfl)) ?_
     refine Tq.val (wg rfl rfl rfl) rfl (fun _ _ h1 h2 => run_load1 ag_146 (h1.ev rfl) (rdb h2 (vs := [(.int .i64 p1.from_), (.int .i64 p1.to_), (.slice Ap1_0 (p1.spans).length cp1_0)]) (k := 1) rfl 2) rfl) ?_
     obtain ⟨y110, hy110, H⟩ := bnd H
     refine Tq.call0 (r := (.bool y110)) (wg rfl rfl rfl) rfl Try.call154 (evl_cons rfl (evl_cons rfl evl_nil)) (fun W hW => F_etchhouseref1_sameSpans_ok N x108.spans Au109_0 cu109_0 (hoku109_0.rl.ext hW.extAll) p1.spans Ap1_0 cp1_0 (hp1_0.rl.ext hW.extAll) y110 hy110 (HF.start _)) ?_
     refine Tq.va rfl (fun _ _ h1 h2 => run_pickT (h1.ev rfl) (h1.ev rfl)) ?_
     obtain rfl := Option.some.inj H
     exact Tq.fin (.cons rfl (.cons rfl (.cons rfl (.cons rfl .nil))))
   ·refine Tq.nil (Tr.normThen ?_)
    refine Tr.cond rfl H (fun H => ?_) (fun H => ?_)
    ·refine Tr.sr ?_
     refine Tr.mv rfl rfl ?_
     refine Tr.mv rfl rfl ?_
     refine Tr.va rfl (fun _ _ h1 h2 => run_sub (h1.ev rfl) (h1.ev rfl)) ?_
     refine Tr.va rfl (fun _ _ h1 h2 => run_fieldAddr fo_149_1 (h1.ev rfl)) ?_
     refine Tr.va rfl (fun _ _ h1 h2 => run_load1 ag_3 (h1.ev rfl) (rdb h2 (vs := [(.int .i64 p1.from_), (.int .i64 p1.to_), (.slice Ap1_0 (p1.spans).length cp1_0)]) (k := 1) rfl 1) rfl) ?_
     obtain ⟨x111, hx111, H⟩ := bnd H
     obtain ⟨hx1110, hx1111, hx1112⟩ := idx_some hx111
     refine Tr.va rfl (fun _ _ h1 h2 => run_indexAddr el_144 (h1.ev rfl) hfhp0_0 (h1.ev rfl) hx1110 hx1111) ?_
     refine Tr.va rfl (fun _ _ h1 h2 => run_fieldAddr fo_149_1 (h1.ev rfl)) ?_
     obtain ⟨l112, hl112, H⟩ := bnd H
     have hnl112 := sets_len hl112
     refine Tr.storeEl 0 (t := fl_Tetchhouseref1Band) (l := p0) (i := (w64 ((p0.length : Int) - 1))) (fo := 1) (cs := [(.int .i64 p1.to_)]) (Tetchhouseref1Band.mk x111.from_ p1.to_ x111.spans) (wn rfl) rfl rfl rfl rfl rfl hx1112 sz_3 rfl (fun u hu => ⟨u, hu, rfl⟩) rfl hl112 ?_
     have hfl112 : SlF Ap0_0 (l112).length cp0_0 := by rw [hnl112]; exact hfhp0_0
     have hsl112 := hnl112.trans rfl
     refine Tr.sel (lf := [(0, (.slice Ap0_0 (l112).length cp0_0)), (3, (.pointer (some ⟨b100, 0, none⟩))), (5, (.int .i64 (p0.length : Int))), (36, (.bool g107)), (37, (.slice Ap0_0 (l112).length cp0_0)), (38, (.int .i64 (p0.length : Int))), (39, (.int .i64 (w64 ((p0.length : Int) - 1)))), (40, (.pointer (some ⟨b100, 1, none⟩))), (41, (.int .i64 p1.to_))]) (le := [(0, ow Ap0_0 cp0_0 149 fl_Tetchhouseref1Band l112), (1, bx b100 #[(.int .i64 p1.from_), (.int .i64 p1.to_), (.slice Ap1_0 (p1.spans).length cp1_0)] 149), (2, ow none 0 149 fl_Tetchhouseref1Band ([] : List Tetchhouseref1Band))]) (.cons (slenV rfl (by rw [hnl112])) (.cons rfl (.cons rfl (.cons rfl (.cons (slenV rfl (by rw [hnl112])) (.cons rfl (.cons rfl (.cons rfl (.cons rfl .nil))))))))) (.cons rfl (.cons rfl (.cons rfl .nil))) ?_
     refine Tr.nil (Tr.normThen ?_)
     refine Tr.sr ?_
     refine Tr.mv rfl rfl ?_
     refine Tr.asg rfl rfl ?_
     refine Tr.nil (Tr.normThen ?_)
     refine Tr.ret (Tr.retThen ?_)
     obtain rfl := Option.some.inj H
     exact Tr.out (m := [(.slice Ap0_0 (l112).length cp0_0)]) [] (res_tmp rfl res_nil) (fun W hW => ⟨w, (Ap0_0, cp0_0), leB, rfl, hfl112, hW.pick (ks := [0]) (by decide) (pk_cons rfl pk_nil)⟩)
    ·refine Tr.skip (Tr.normThen ?_)
     refine Tr.sr ?_
     refine Tr.mv rfl rfl ?_
     refine Tr.va rfl (fun _ _ h1 h2 => run_loadN (cs := [(.int .i64 p1.from_), (.int .i64 p1.to_), (.slice Ap1_0 (p1.spans).length cp1_0)]) ag_149 sz_149 (h1.ev rfl) (CellsAt.take (rdb h2 (vs := [(.int .i64 p1.from_), (.int .i64 p1.to_), (.slice Ap1_0 (p1.spans).length cp1_0)]) (k := 1) rfl 0) 3) rfl) ?_
     refine Tr.buildSlice 3 (e := 149) (vs := [(0, (.agg #[(.int .i64 p1.from_), (.int .i64 p1.to_), (.slice Ap1_0 (p1.spans).length cp1_0)]))]) (cs := [(.int .i64 p1.from_), (.int .i64 p1.to_), (.slice Ap1_0 (p1.spans).length cp1_0)]) (wn rfl) rfl (evs_cons rfl evs_nil) (by kernel_rfl) fun b113 => ?_
     obtain ⟨l114, hl114, H⟩ := bnd H
     refine Tr.append 0 (t := fl_Tetchhouseref1Band) (l := p0) (l2 := [p1]) (wn rfl) rfl rfl rfl rfl (fun W hW => ⟨[[(.int .i64 p1.from_), (.int .i64 p1.to_), (.slice Ap1_0 (p1.spans).length cp1_0)]], (.cons ⟨(Ap1_0, cp1_0), hp1_0, rfl⟩ .nil), rdb hW (vs := [(.int .i64 p1.from_), (.int .i64 p1.to_), (.slice Ap1_0 (p1.spans).length cp1_0)]) (k := 3) rfl 0⟩) un_144 sz_149 zl_149 (by decide) by_149 rfl hl114 fun Al114 cl114 hAl114 => ?_
     refine Tr.asg rfl rfl ?_
     refine Tr.nil (Tr.normThen ?_)
     refine Tr.ret ?_
     obtain rfl := Option.some.inj H
     exact Tr.out (m := [(.slice Al114 (l114).length cl114)]) [] (res_tmp rfl res_nil) (fun W hW => ⟨w, (Al114, cl114), leB, rfl, hAl114, hW.pick (ks := [0]) (by decide) (pk_cons rfl pk_nil)⟩)

theorem F_etchhouseref1_told_ok (N : Nat) {w : Bs} (p0 : (List Tetchhouseref1Band)) (Ap0_0 : Option Addr) (cp0_0 : Nat) (hp0_0 : Sl w.R w.W fl_Tetchhouseref1Band Ap0_0 cp0_0 p0) (r : (List TRect)) (H : F_etchhouseref1_told N p0 = some r) (hE : HF w w.W (LEn [emp])) : Calls Try.prog 124 [(.slice Ap0_0 (p0).length cp0_0)].toArray w.W fun e W' => ∃ u : (Option Addr × Nat), e = .returned (.slice u.1 (r).length u.2) ∧ (SlF u.1 (r).length u.2) ∧ HF w W' (LEn [ow u.1 u.2 29 fl_TRect r]) := by
 unfold F_etchhouseref1_told at H
 have leB := Bs.Le.refl w
 refine Tr.enter (n := 55) Try.func124 rfl rfl rfl hE ?_
 refine Tr.sr ?_
 refine Tr.asg rfl rfl ?_
 refine Tr.nilOwn 1 29 fl_TRect ?_
 show Tr _ _ (uf _ 2 (.slice none (([] : List TRect)).length 0)) _ _
 refine Tr.nil (Tr.normThen ?_)
 refine Tr.sr ?_
 refine Tr.asg rfl rfl ?_
 refine Tr.nilOwn 2 29 fl_TRect ?_
 show Tr _ _ (uf _ 3 (.slice none (([] : List TRect)).length 0)) _ _
 refine Tr.nil (Tr.normThen ?_)
 refine Tr.seq ?_
 refine Tr.sr ?_
 refine Tr.asg rfl rfl ?_
 refine Tr.nil (Tr.normThen ?_)
 refine Tr.block ?_
 refine Tr.loop (σ := (List TRect) × Int × (Option Addr) × Nat) (fun m w s => F_etchhouseref1_told_L3 N p0 m s.1 s.2.1 = some r ∧ SlF s.2.2.1 (s.1).length s.2.2.2) (fun s => [(0, (.slice Ap0_0 (p0).length cp0_0)), (3, (.slice s.2.2.1 (s.1).length s.2.2.2)), (4, (.int .i64 s.2.1))]) (fun s => [(2, ow s.2.2.1 s.2.2.2 29 fl_TRect s.1)]) N (([] : List TRect), 0, none, 0) ⟨H, slf_nil⟩ (.cons rfl (.cons rfl (.cons rfl .nil))) (.cons rfl .nil) (fun _ _ h => noSome (h.1)) ?_
 intro w leF_etchhouseref1_told_L3 mF_etchhouseref1_told_L3 s hs
 obtain ⟨l206, x207, Al206, cl206⟩ := s
 obtain ⟨H, hl206⟩ := hs
 replace H : F_etchhouseref1_told_L3 N p0 (mF_etchhouseref1_told_L3 + 1) l206 x207 = some r := H
 replace hp0_0 := hp0_0.leR leF_etchhouseref1_told_L3
 replace leB := leB.trans leF_etchhouseref1_told_L3
 replace hl206 : SlF Al206 (l206).length cl206 := hl206
 rw [F_etchhouseref1_told_L3.eq_2] at H
 show Tr _ _ (LF [(0, (.slice Ap0_0 (p0).length cp0_0)), (3, (.slice Al206 (l206).length cl206)), (4, (.int .i64 x207))]) (LE [(2, ow Al206 cl206 29 fl_TRect l206)]) _
 refine Tr.seq ?_
 refine Tr.sr ?_
 refine Tr.mv rfl rfl ?_
 refine Tr.mv rfl rfl ?_
 refine Tr.va rfl (fun _ _ h1 h2 => run_len un_144 (h1.ev rfl)) ?_
 refine Tr.va rfl (fun _ _ h1 h2 => run_lss (h1.ev rfl) (h1.ev rfl)) ?_
 refine Tr.nil (Tr.normThen ?_)
 refine Tr.cond rfl H (fun H => ?_) (fun H => ?_)
 ·refine Tr.skip (Tr.normThen ?_)
  refine Tr.seq ?_
  refine Tr.block ?_
  refine Tr.sr ?_
  refine Tr.asg rfl rfl ?_
  refine Tr.nil (Tr.normThen ?_)
  refine Tr.block ?_
  refine Tr.loop (σ := (List TRect) × Int × (Option Addr) × Nat) (fun m w s => F_etchhouseref1_told_L4 p0 x207 (F_etchhouseref1_told_L3 N p0 mF_etchhouseref1_told_L3) m s.1 s.2.1 = some r ∧ SlF s.2.2.1 (s.1).length s.2.2.2) (fun s => [(0, (.slice Ap0_0 (p0).length cp0_0)), (3, (.slice s.2.2.1 (s.1).length s.2.2.2)), (4, (.int .i64 x207)), (5, (.int .i64 s.2.1))]) (fun s => [(2, ow s.2.2.1 s.2.2.2 29 fl_TRect s.1)]) N (l206, 0, Al206, cl206) ⟨H, hl206⟩ (.cons rfl (.cons rfl (.cons rfl (.cons rfl .nil)))) (.cons rfl .nil) (fun _ _ h => noSome (h.1)) ?_
  intro w leF_etchhouseref1_told_L4 mF_etchhouseref1_told_L4 s hs
  obtain ⟨l242, x243, Al242, cl242⟩ := s
  obtain ⟨H, hl242⟩ := hs
  replace H : F_etchhouseref1_told_L4 p0 x207 (F_etchhouseref1_told_L3 N p0 mF_etchhouseref1_told_L3) (mF_etchhouseref1_told_L4 + 1) l242 x243 = some r := H
  replace hp0_0 := hp0_0.leR leF_etchhouseref1_told_L4
  replace leB := leB.trans leF_etchhouseref1_told_L4
  replace leF_etchhouseref1_told_L3 := leF_etchhouseref1_told_L3.trans leF_etchhouseref1_told_L4
  replace hl242 : SlF Al242 (l242).length cl242 := hl242
  rw [F_etchhouseref1_told_L4.eq_2] at H
  show Tr _ _ (LF [(0, (.slice Ap0_0 (p0).length cp0_0)), (3, (.slice Al242 (l242).length cl242)), (4, (.int .i64 x207)), (5, (.int .i64 x243))]) (LE [(2, ow Al242 cl242 29 fl_TRect l242)]) _
  refine Tr.seq ?_
  refine Tr.sr ?_
  refine Tr.mv rfl rfl ?_
  refine Tr.mv rfl rfl ?_
  refine Tr.mv rfl rfl ?_
  obtain ⟨x244, hx244, H⟩ := bnd H
  obtain ⟨hx2440, hx2441, hx2442⟩ := idx_some hx244
  obtain ⟨u245, hRu245, hoku245, hcu245⟩ := (hp0_0).el hx2442
  obtain ⟨Au245_0, cu245_0⟩ := u245
  have hoku245_0 := hoku245
  replace hoku245_0 : Sl w.R w.W fl_TSpan Au245_0 cu245_0 x244.spans := hoku245_0
  refine Tr.va rfl (fun _ _ h1 h2 => run_indexAddr el_144 (h1.ev rfl) hp0_0.form (h1.ev rfl) hx2440 hx2441) ?_
  refine Tr.va rfl (fun _ _ h1 h2 => run_fieldAddr fo_149_2 (h1.ev rfl)) ?_
  refine Tr.va rfl (fun _ _ h1 h2 => run_load1 ag_146 (h1.ev rfl) (CellsAt.drop (rdR hRu245 hcu245 h2) 2) rfl) ?_
  refine Tr.va rfl (fun _ _ h1 h2 => run_len un_146 (h1.ev rfl)) ?_
  refine Tr.va rfl (fun _ _ h1 h2 => run_lss (h1.ev rfl) (h1.ev rfl)) ?_
  refine Tr.nil (Tr.normThen ?_)
  refine Tr.cond rfl H (fun H => ?_) (fun H => ?_)
  ·refine Tr.skip (Tr.normThen ?_)
   refine Tr.seq ?_
   refine Tr.block ?_
   obtain ⟨x247, hx247, H⟩ := bnd H
   obtain ⟨hx2470, hx2471, hx2472⟩ := idx_some hx247
   obtain ⟨u248, hRu248, hoku248, hcu248⟩ := (hp0_0).el hx2472
   obtain ⟨Au248_0, cu248_0⟩ := u248
   obtain ⟨x249, hx249, H⟩ := bnd H
   obtain ⟨hx2490, hx2491, hx2492⟩ := idx_some hx249
   obtain ⟨x250, hx250, H⟩ := bnd H
   obtain ⟨hx2500, hx2501, hx2502⟩ := idx_some hx250
   obtain ⟨u251, hRu251, hoku251, hcu251⟩ := (hp0_0).el hx2502
   obtain ⟨Au251_0, cu251_0⟩ := u251
   obtain ⟨x252, hx252, H⟩ := bnd H
   obtain ⟨hx2520, hx2521, hx2522⟩ := idx_some hx252
   obtain ⟨u253, hRu253, hoku253, hcu253⟩ := (hp0_0).el hx2522
   obtain ⟨Au253_0, cu253_0⟩ := u253
   obtain ⟨x254, hx254, H⟩ := bnd H
   obtain ⟨hx2540, hx2541, hx2542⟩ := idx_some hx254
   obtain ⟨x255, hx255, H⟩ := bnd H
   obtain ⟨hx2550, hx2551, hx2552⟩ := idx_some hx255
   obtain ⟨u256, hRu256, hoku256, hcu256⟩ := (hp0_0).el hx2552
   obtain ⟨Au256_0, cu256_0⟩ := u256
   refine Tr.drawF 31 [(30, .makeFunc (.func 0) #[] #[.tmp 51])] [(30, ⟨52, 11, (.func (.func 0) #[] #[(.agg #[(.int .i64 x249.from_), (.int .i64 x250.from_), (.int .i64 x254.to_), (.int .i64 x255.to_)])]), fun b => .slice (some ⟨b, 0, none⟩) 1 1, fun b => bx b #[(.int .i64 x249.from_), (.int .i64 x250.from_), (.int .i64 x254.to_), (.int .i64 x255.to_)] 29⟩)] [(0, (.slice Ap0_0 (p0).length cp0_0)), (3, (.slice Al242 (l242).length cl242)), (4, (.int .i64 x207)), (5, (.int .i64 x243)), (12, (.int .i64 x243)), (13, (.slice Ap0_0 (p0).length cp0_0)), (14, (.int .i64 x207)), (15, (.pointer (some ⟨adB Ap0_0, adO Ap0_0 + (x207).toNat * 3, none⟩))), (16, (.pointer (some ⟨adB Ap0_0, adO Ap0_0 + (x207).toNat * 3 + 2, none⟩))), (17, (.slice Au245_0 (x244.spans).length cu245_0)), (18, (.int .i64 (x244.spans.length : Int))), (19, (.bool (decide (x243 < (x244.spans.length : Int))))), (22, (.slice Al242 (l242).length cl242)), (23, (.slice Ap0_0 (p0).length cp0_0)), (24, (.int .i64 x207)), (25, (.pointer (some ⟨adB Ap0_0, adO Ap0_0 + (x207).toNat * 3, none⟩))), (26, (.pointer (some ⟨adB Ap0_0, adO Ap0_0 + (x207).toNat * 3 + 2, none⟩))), (27, (.slice Au248_0 (x247.spans).length cu248_0)), (28, (.int .i64 x243)), (29, (.pointer (some ⟨adB Au248_0, adO Au248_0 + (x243).toNat * 2, none⟩))), (30, (.pointer (some ⟨adB Au248_0, adO Au248_0 + (x243).toNat * 2 + 0, none⟩))), (31, (.int .i64 x249.from_)), (32, (.slice Ap0_0 (p0).length cp0_0)), (33, (.int .i64 x207)), (34, (.pointer (some ⟨adB Ap0_0, adO Ap0_0 + (x207).toNat * 3, none⟩))), (35, (.pointer (some ⟨adB Ap0_0, adO Ap0_0 + (x207).toNat * 3 + 0, none⟩))), (36, (.int .i64 x250.from_)), (37, (.slice Ap0_0 (p0).length cp0_0)), (38, (.int .i64 x207)), (39, (.pointer (some ⟨adB Ap0_0, adO Ap0_0 + (x207).toNat * 3, none⟩))), (40, (.pointer (some ⟨adB Ap0_0, adO Ap0_0 + (x207).toNat * 3 + 2, none⟩))), (41, (.slice Au253_0 (x252.spans).length cu253_0)), (42, (.int .i64 x243)), (43, (.pointer (some ⟨adB Au253_0, adO Au253_0 + (x243).toNat * 2, none⟩))), (44, (.pointer (some ⟨adB Au253_0, adO Au253_0 + (x243).toNat * 2 + 1, none⟩))), (45, (.int .i64 x254.to_)), (46, (.slice Ap0_0 (p0).length cp0_0)), (47, (.int .i64 x207)), (48, (.pointer (some ⟨adB Ap0_0, adO Ap0_0 + (x207).toNat * 3, none⟩))), (49, (.pointer (some ⟨adB Ap0_0, adO Ap0_0 + (x207).toNat * 3 + 1, none⟩))), (50, (.int .i64 x255.to_)), (51, (.agg #[(.int .i64 x249.from_), (.int .i64 x250.from_), (.int .i64 x254.to_), (.int .i64 x255.to_)])), (52, (.func (.func 0) #[] #[(.agg #[(.int .i64 x249.from_), (.int .i64 x250.from_), (.int .i64 x254.to_), (.int .i64 x255.to_)])]))] (by kernel_rfl) (by kernel_rfl) (by kernel_rfl) (by kernel_rfl) (by kernel_rfl) (by kernel_rfl) (by kernel_rfl) (fall_cons (fr_lit (vs := [(0, (.agg #[(.int .i64 x249.from_), (.int .i64 x250.from_), (.int .i64 x254.to_), (.int .i64 x255.to_)]))]) rfl rfl rfl (by kernel_rfl)) fall_nil) (fall_cons rfl fall_nil) (fall_cons rfl fall_nil) ?_ ?_
   ·refine Tq.mv rfl rfl ?_
    refine Tq.mv rfl rfl ?_
    refine Tq.mv rfl rfl ?_
    have hoku248_0 := hoku248
    replace hoku248_0 : Sl w.R w.W fl_TSpan Au248_0 cu248_0 x247.spans := hoku248_0
    refine Tq.va rfl (fun _ _ h1 h2 => run_indexAddr el_144 (h1.ev rfl) hp0_0.form (h1.ev rfl) hx2470 hx2471) ?_
    refine Tq.va rfl (fun _ _ h1 h2 => run_fieldAddr fo_149_2 (h1.ev rfl)) ?_
    refine Tq.va rfl (fun _ _ h1 h2 => run_load1 ag_146 (h1.ev rfl) (CellsAt.drop (rdR hRu248 hcu248 h2) 2) rfl) ?_
    refine Tq.mv rfl rfl ?_
    refine Tq.va rfl (fun _ _ h1 h2 => run_indexAddr el_146 (h1.ev rfl) hoku248_0.form (h1.ev rfl) hx2490 hx2491) ?_
    refine Tq.va rfl (fun _ _ h1 h2 => run_fieldAddr fo_177_0 (h1.ev rfl)) ?_
    refine Tq.va rfl (fun _ _ h1 h2 => run_load1 ag_3 (h1.ev rfl) (CellsAt.drop (rdF ef_TSpan hoku248_0 hx2492 h2) 0) rfl) ?_
    refine Tq.mv rfl rfl ?_
    refine Tq.mv rfl rfl ?_
    have hoku251_0 := hoku251
    replace hoku251_0 : Sl w.R w.W fl_TSpan Au251_0 cu251_0 x250.spans := hoku251_0
    refine Tq.va rfl (fun _ _ h1 h2 => run_indexAddr el_144 (h1.ev rfl) hp0_0.form (h1.ev rfl) hx2500 hx2501) ?_
    refine Tq.va rfl (fun _ _ h1 h2 => run_fieldAddr fo_149_0 (h1.ev rfl)) ?_
    refine Tq.va rfl (fun _ _ h1 h2 => run_load1 ag_3 (h1.ev rfl) (CellsAt.drop (rdR hRu251 hcu251 h2) 0) rfl) ?_
    refine Tq.mv rfl rfl ?_
    refine Tq.mv rfl rfl ?_
    have hoku253_0 := hoku253
    replace hoku253_0 : Sl w.R w.W fl_TSpan Au253_0 cu253_0 x252.spans := hoku253_0
    refine Tq.va rfl (fun _ _ h1 h2 => run_indexAddr el_144 (h1.ev rfl) hp0_0.form (h1.ev rfl) hx2520 hx2521) ?_
    refine Tq.va rfl (fun _ _ h1 h2 => run_fieldAddr fo_149_2 (h1.ev rfl)) ?_
    refine Tq.va rfl (fun _ _ h1 h2 => run_load1 ag_146 (h1.ev rfl) (CellsAt.drop (rdR hRu253 hcu253 h2) 2) rfl) ?_
    refine Tq.mv rfl rfl ?_
    refine Tq.va rfl (fun _ _ h1 h2 => run_indexAddr el_146 (h1.ev rfl) hoku253_0.form (h1.ev rfl) hx2540 hx2541) ?_
    refine Tq.va rfl (fun _ _ h1 h2 => run_fieldAddr fo_177_1 (h1.ev rfl)) ?_
    refine Tq.va rfl (fun _ _ h1 h2 => run_load1 ag_3 (h1.ev rfl) (CellsAt.drop (rdF ef_TSpan hoku253_0 hx2542 h2) 1) rfl) ?_
    refine Tq.mv rfl rfl ?_
    refine Tq.mv rfl rfl ?_
    have hoku256_0 := hoku256
    replace hoku256_0 : Sl w.R w.W fl_TSpan Au256_0 cu256_0 x255.spans := hoku256_0
    refine Tq.va rfl (fun _ _ h1 h2 => run_indexAddr el_144 (h1.ev rfl) hp0_0.form (h1.ev rfl) hx2550 hx2551) ?_
    refine Tq.va rfl (fun _ _ h1 h2 => run_fieldAddr fo_149_1 (h1.ev rfl)) ?_
    refine Tq.va rfl (fun _ _ h1 h2 => run_load1 ag_3 (h1.ev rfl) (CellsAt.drop (rdR hRu256 hcu256 h2) 1) rfl) ?_
    refine Tq.build (vs := [(0, (.int .i64 x249.from_)), (1, (.int .i64 x250.from_)), (2, (.int .i64 x254.to_)), (3, (.int .i64 x255.to_))]) (cs := [(.int .i64 x249.from_), (.int .i64 x250.from_), (.int .i64 x254.to_), (.int .i64 x255.to_)]) (wn rfl) rfl (evs_cons rfl (evs_cons rfl (evs_cons rfl (evs_cons rfl evs_nil)))) (by kernel_rfl) ?_
    refine Tq.mkFunc (vs := [(.agg #[(.int .i64 x249.from_), (.int .i64 x250.from_), (.int .i64 x254.to_), (.int .i64 x255.to_)])]) (wn rfl) rfl (evl_cons rfl evl_nil) ?_
    exact Tq.fin (.cons rfl (.cons rfl (.cons rfl (.cons rfl (.cons rfl (.cons rfl (.cons rfl (.cons rfl (.cons rfl (.cons rfl (.cons rfl (.cons rfl (.cons rfl (.cons rfl (.cons rfl (.cons rfl (.cons rfl (.cons rfl (.cons rfl (.cons rfl (.cons rfl (.cons rfl (.cons rfl (.cons rfl (.cons rfl (.cons rfl (.cons rfl (.cons rfl (.cons rfl (.cons rfl (.cons rfl (.cons rfl (.cons rfl (.cons rfl (.cons rfl (.cons rfl (.cons rfl (.cons rfl (.cons rfl (.cons rfl (.cons rfl (.cons rfl (.cons rfl .nil)))))))))))))))))))))))))))))))))))))))))))
   ·intro bs246
    refine Tr.sel (lf := [(0, (.slice Ap0_0 (p0).length cp0_0)), (4, (.int .i64 x207)), (5, (.int .i64 x243)), (22, (.slice Al242 (l242).length cl242)), (52, (.slice (some ⟨(bs246 30), 0, none⟩) 1 1))]) (le := [(2, ow Al242 cl242 29 fl_TRect l242), (11, bx (bs246 30) #[(.int .i64 x249.from_), (.int .i64 x250.from_), (.int .i64 x254.to_), (.int .i64 x255.to_)] 29)]) (.cons rfl (.cons rfl (.cons rfl (.cons rfl (.cons rfl .nil))))) (.cons rfl (.cons rfl .nil)) ?_
    obtain ⟨l257, hl257, H⟩ := bnd H
    refine Tr.append 2 (t := fl_TRect) (l := l242) (l2 := [(TRect.mk x249.from_ x250.from_ x254.to_ x255.to_)]) (wn rfl) rfl rfl rfl rfl (fun W hW => ⟨[[(.int .i64 x249.from_), (.int .i64 x250.from_), (.int .i64 x254.to_), (.int .i64 x255.to_)]], (.cons ⟨(), trivial, rfl⟩ .nil), rdb hW (vs := [(.int .i64 x249.from_), (.int .i64 x250.from_), (.int .i64 x254.to_), (.int .i64 x255.to_)]) (k := 11) rfl 0⟩) un_22 sz_29 zl_29 (by decide) by_29 rfl hl257 fun Al257 cl257 hAl257 => ?_
    refine Tr.asg rfl rfl ?_
    refine Tr.nil (Tr.normBlock (Tr.normThen ?_))
    refine Tr.region ?_
    refine Tr.mv rfl rfl ?_
    refine Tr.va rfl (fun _ _ h1 h2 => run_add (h1.ev rfl) (h1.ev rfl)) ?_
    refine Tr.asg rfl rfl ?_
    refine Tr.nil ?_
    exact Tr.backThen leF_etchhouseref1_told_L4 (l257, (w64 (x243 + 1)), Al257, cl257) ⟨H, hAl257⟩ (.cons rfl (.cons rfl (.cons rfl (.cons rfl .nil)))) (.cons rfl .nil)
  ·refine Tr.exit (Tr.exitThen (Tr.exitThen (Tr.exitBlock (Tr.normBlock (Tr.normThen ?_)))))
   refine Tr.region ?_
   refine Tr.mv rfl rfl ?_
   refine Tr.va rfl (fun _ _ h1 h2 => run_add (h1.ev rfl) (h1.ev rfl)) ?_
   refine Tr.asg rfl rfl ?_
   refine Tr.nil ?_
   exact Tr.backThen leF_etchhouseref1_told_L3 (l242, (w64 (x207 + 1)), Al242, cl242) ⟨H, hl242⟩ (.cons rfl (.cons rfl (.cons rfl .nil))) (.cons rfl .nil)
 ·refine Tr.exit (Tr.exitThen (Tr.exitThen (Tr.exitBlock (Tr.normThen ?_))))
  refine Tr.sr ?_
  refine Tr.mv rfl rfl ?_
  refine Tr.asg rfl rfl ?_
  refine Tr.nil (Tr.normThen ?_)
  refine Tr.ret ?_
  obtain rfl := Option.some.inj H
  exact Tr.out (m := [(.slice Al206 (l206).length cl206)]) [] (res_tmp rfl res_nil) (fun W hW => ⟨(Al206, cl206), rfl, hl206, HF.lowE leB (hW.pick (ks := [2]) (by decide) (pk_cons rfl pk_nil)) ⟨ow_any _ _ _ _ tr_TRect, trivial⟩⟩)

theorem F_etchhouseref1_Canonical_ok (N : Nat) {w : Bs} (p0 : (List TRect)) (Ap0_0 : Option Addr) (cp0_0 : Nat) (hp0_0 : Sl w.R w.W fl_TRect Ap0_0 cp0_0 p0) (r : (List TRect)) (H : F_etchhouseref1_Canonical N p0 = some r) (hE : HF w w.W (LEn [emp])) : Calls Try.prog 88 [(.slice Ap0_0 (p0).length cp0_0)].toArray w.W fun e W' => ∃ u : (Option Addr × Nat), e = .returned (.slice u.1 (r).length u.2) ∧ (SlF u.1 (r).length u.2) ∧ HF w W' (LEn [ow u.1 u.2 29 fl_TRect r]) := by
 unfold F_etchhouseref1_Canonical at H
 have leB := Bs.Le.refl w
 refine Tr.enter (n := 35) Try.func88 rfl rfl rfl hE ?_
 refine Tr.sr ?_
 refine Tr.asg rfl rfl ?_
 refine Tr.nilOwn 1 29 fl_TRect ?_
 show Tr _ _ (uf _ 2 (.slice none (([] : List TRect)).length 0)) _ _
 refine Tr.nil (Tr.normThen ?_)
 refine Tr.sr ?_
 refine Tr.mv rfl rfl ?_
 obtain ⟨y100, hy100, H⟩ := bnd H
 refine Tr.callG [] [] (U := (Option Addr × Nat)) (fun u => (.slice u.1 (y100).length u.2)) (fun O W u => Sl O W fl_i64 u.1 u.2 y100) (fun u => []) rfl pk_nil (fun _ => rfl) (wn rfl) rfl Try.call121 (evl_cons rfl evl_nil) (fun W hW hp hE => F_etchhouseref1_heights_ok N p0 Ap0_0 cp0_0 (hp0_0.ext (hW.extS hp)) y100 hy100 hE) ?_
 intro w u le101 hu
 obtain ⟨Ay100_0, cy100_0⟩ := u
 have gy100_0 := hu
 replace hp0_0 := hp0_0.leR le101
 replace leB := leB.trans le101
 have hgy100_0 : Sl w.O w.W fl_i64 Ay100_0 cy100_0 y100 := gy100_0 --@phi
 show Tr _ _ (uf _ 7 (.slice Ay100_0 (y100).length cy100_0)) (_) _
 refine Tr.asg rfl rfl ?_
 refine Tr.nil (Tr.normThen ?_)
 refine Tr.sr ?_
 refine Tr.asg rfl rfl ?_
 refine Tr.nilOwn 2 149 fl_Tetchhouseref1Band ?_
 show Tr _ _ (uf _ 4 (.slice none (([] : List Tetchhouseref1Band)).length 0)) _ _
 refine Tr.nil (Tr.normThen ?_)
 refine Tr.seq ?_
 refine Tr.sr ?_
 refine Tr.asg rfl rfl ?_
 refine Tr.nil (Tr.normThen ?_)
 refine Tr.block ?_
 refine Tr.loop (σ := (List Tetchhouseref1Band) × Int × (Option Addr) × Nat) (fun m w s => F_etchhouseref1_Canonical_L1 N p0 y100 m s.1 s.2.1 = some r ∧ SlF s.2.2.1 (s.1).length s.2.2.2) (fun s => [(0, (.slice Ap0_0 (p0).length cp0_0)), (3, (.slice Ay100_0 (y100).length cy100_0)), (4, (.slice s.2.2.1 (s.1).length s.2.2.2)), (5, (.int .i64 s.2.1))]) (fun s => [(2, ow s.2.2.1 s.2.2.2 149 fl_Tetchhouseref1Band s.1)]) N (([] : List Tetchhouseref1Band), 1, none, 0) ⟨H, slf_nil⟩ (.cons rfl (.cons rfl (.cons rfl (.cons rfl .nil)))) (.cons rfl .nil) (fun _ _ h => noSome (h.1)) ?_
 intro w leF_etchhouseref1_Canonical_L1 mF_etchhouseref1_Canonical_L1 s hs
 obtain ⟨l128, x129, Al128, cl128⟩ := s
 obtain ⟨H, hl128⟩ := hs
 replace H : F_etchhouseref1_Canonical_L1 N p0 y100 (mF_etchhouseref1_Canonical_L1 + 1) l128 x129 = some r := H
 replace hp0_0 := hp0_0.leR leF_etchhouseref1_Canonical_L1
 replace hgy100_0 := hgy100_0.le leF_etchhouseref1_Canonical_L1
 replace leB := leB.trans leF_etchhouseref1_Canonical_L1
 replace hl128 : SlF Al128 (l128).length cl128 := hl128
 rw [F_etchhouseref1_Canonical_L1.eq_2] at H
 show Tr _ _ (LF [(0, (.slice Ap0_0 (p0).length cp0_0)), (3, (.slice Ay100_0 (y100).length cy100_0)), (4, (.slice Al128 (l128).length cl128)), (5, (.int .i64 x129))]) (LE [(2, ow Al128 cl128 149 fl_Tetchhouseref1Band l128)]) _
 refine Tr.seq ?_
 refine Tr.sr ?_
 refine Tr.mv rfl rfl ?_
 refine Tr.mv rfl rfl ?_
 refine Tr.va rfl (fun _ _ h1 h2 => run_len un_97 (h1.ev rfl)) ?_
 refine Tr.va rfl (fun _ _ h1 h2 => run_lss (h1.ev rfl) (h1.ev rfl)) ?_
 refine Tr.nil (Tr.normThen ?_)
 refine Tr.cond rfl H (fun H => ?_) (fun H => ?_)
 ·refine Tr.skip (Tr.normThen ?_)
  refine Tr.seq ?_
  refine Tr.block ?_
  refine Tr.drawC 18 [] [] (by kernel_rfl) (by kernel_rfl) fun sz130 hlosz130 hEsz130 => ?_
  refine Dr.quiet 0 [(14, (.slice Al128 (l128).length cl128))] (by kernel_rfl) rfl rfl (by kernel_rfl) ?_ rfl rfl ?_
  ·refine Tq.mv rfl rfl ?_
   exact Tq.fin (.cons rfl .nil)
  refine Dr.quiet 1 [(15, (.slice Ay100_0 (y100).length cy100_0))] (by kernel_rfl) rfl rfl (by kernel_rfl) ?_ rfl rfl ?_
  ·refine Tq.mv rfl rfl ?_
   exact Tq.fin (.cons rfl .nil)
  refine Dr.quiet 2 [(16, (.int .i64 x129))] (by kernel_rfl) rfl rfl (by kernel_rfl) ?_ rfl rfl ?_
  ·refine Tq.mv rfl rfl ?_
   exact Tq.fin (.cons rfl .nil)
  refine Dr.quiet 3 [(17, (.int .i64 (w64 (x129 - 1))))] (by kernel_rfl) rfl rfl (by kernel_rfl) ?_ rfl rfl ?_
  ·refine Tq.va rfl (fun _ _ h1 h2 => run_sub (h1.ev rfl) (h1.ev rfl)) ?_
   exact Tq.fin (.cons rfl .nil)
  obtain ⟨x131, hx131, H⟩ := bnd H
  obtain ⟨hx1310, hx1311, hx1312⟩ := idx_some hx131
  refine Dr.quiet 4 [(18, (.pointer (some ⟨adB Ay100_0, adO Ay100_0 + ((w64 (x129 - 1))).toNat * 1, none⟩)))] (by kernel_rfl) rfl rfl (by kernel_rfl) ?_ rfl rfl ?_
  ·refine Tq.va rfl (fun _ _ h1 h2 => run_indexAddr el_97 (h1.ev rfl) hgy100_0.form (h1.ev rfl) hx1310 hx1311) ?_
   exact Tq.fin (.cons rfl .nil)
  refine Dr.quiet 5 [(19, (.int .i64 x131))] (by kernel_rfl) rfl rfl (by kernel_rfl) ?_ rfl rfl ?_
  ·refine Tq.va rfl (fun _ _ h1 h2 => run_load1 ag_3 (h1.ev rfl) (rdF ef_i64 (hgy100_0.rl) hx1312 h2) rfl) ?_
   exact Tq.fin (.cons rfl .nil)
  refine Dr.quiet 6 [(20, (.slice Ay100_0 (y100).length cy100_0))] (by kernel_rfl) rfl rfl (by kernel_rfl) ?_ rfl rfl ?_
  ·refine Tq.mv rfl rfl ?_
   exact Tq.fin (.cons rfl .nil)
  refine Dr.quiet 7 [(21, (.int .i64 x129))] (by kernel_rfl) rfl rfl (by kernel_rfl) ?_ rfl rfl ?_
  ·refine Tq.mv rfl rfl ?_
   exact Tq.fin (.cons rfl .nil)
  obtain ⟨x132, hx132, H⟩ := bnd H
  obtain ⟨hx1320, hx1321, hx1322⟩ := idx_some hx132
  refine Dr.quiet 8 [(22, (.pointer (some ⟨adB Ay100_0, adO Ay100_0 + (x129).toNat * 1, none⟩)))] (by kernel_rfl) rfl rfl (by kernel_rfl) ?_ rfl rfl ?_
  ·refine Tq.va rfl (fun _ _ h1 h2 => run_indexAddr el_97 (h1.ev rfl) hgy100_0.form (h1.ev rfl) hx1320 hx1321) ?_
   exact Tq.fin (.cons rfl .nil)
  refine Dr.quiet 9 [(23, (.int .i64 x132))] (by kernel_rfl) rfl rfl (by kernel_rfl) ?_ rfl rfl ?_
  ·refine Tq.va rfl (fun _ _ h1 h2 => run_load1 ag_3 (h1.ev rfl) (rdF ef_i64 (hgy100_0.rl) hx1322 h2) rfl) ?_
   exact Tq.fin (.cons rfl .nil)
  refine Dr.quiet 10 [(24, (.slice Ap0_0 (p0).length cp0_0))] (by kernel_rfl) rfl rfl (by kernel_rfl) ?_ rfl rfl ?_
  ·refine Tq.mv rfl rfl ?_
   exact Tq.fin (.cons rfl .nil)
  refine Dr.quiet 11 [(25, (.slice Ay100_0 (y100).length cy100_0))] (by kernel_rfl) rfl rfl (by kernel_rfl) ?_ rfl rfl ?_
  ·refine Tq.mv rfl rfl ?_
   exact Tq.fin (.cons rfl .nil)
  refine Dr.quiet 12 [(26, (.int .i64 x129))] (by kernel_rfl) rfl rfl (by kernel_rfl) ?_ rfl rfl ?_
  ·refine Tq.mv rfl rfl ?_
   exact Tq.fin (.cons rfl .nil)
  refine Dr.quiet 13 [(27, (.int .i64 (w64 (x129 - 1))))] (by kernel_rfl) rfl rfl (by kernel_rfl) ?_ rfl rfl ?_
  ·refine Tq.va rfl (fun _ _ h1 h2 => run_sub (h1.ev rfl) (h1.ev rfl)) ?_
   exact Tq.fin (.cons rfl .nil)
  obtain ⟨x133, hx133, H⟩ := bnd H
  obtain ⟨hx1330, hx1331, hx1332⟩ := idx_some hx133
  refine Dr.quiet 14 [(28, (.pointer (some ⟨adB Ay100_0, adO Ay100_0 + ((w64 (x129 - 1))).toNat * 1, none⟩)))] (by kernel_rfl) rfl rfl (by kernel_rfl) ?_ rfl rfl ?_
  ·refine Tq.va rfl (fun _ _ h1 h2 => run_indexAddr el_97 (h1.ev rfl) hgy100_0.form (h1.ev rfl) hx1330 hx1331) ?_
   exact Tq.fin (.cons rfl .nil)
  refine Dr.quiet 15 [(29, (.int .i64 x133))] (by kernel_rfl) rfl rfl (by kernel_rfl) ?_ rfl rfl ?_
  ·refine Tq.va rfl (fun _ _ h1 h2 => run_load1 ag_3 (h1.ev rfl) (rdF ef_i64 (hgy100_0.rl) hx1332 h2) rfl) ?_
   exact Tq.fin (.cons rfl .nil)
  obtain ⟨y134, hy134, H⟩ := bnd H
  refine Dr.one 16 (by kernel_rfl) ?_
  refine St.callM 16 [5] [emp] (U := (Option Addr × Nat)) (fun u => (.slice u.1 (y134).length u.2)) (fun u => SlF u.1 (y134).length u.2) (fun u => [ow u.1 u.2 177 fl_TSpan y134]) rfl (pk_cons rfl pk_nil) (fun _ => rfl) (insS_no rfl) rfl (wn rfl) rfl Try.call123 (evl_cons rfl (evl_cons rfl evl_nil)) (fun W hW hp hE => F_etchhouseref1_row_ok N p0 Ap0_0 cp0_0 (hp0_0.ext (hW.extS hp)) x133 y134 hy134 hE) ?_
  intro u hu hsy134
  obtain ⟨Ay134_0, cy134_0⟩ := u
  have gy134_0 := hu
  have hgy134_0 : SlF Ay134_0 (y134).length cy134_0 := gy134_0
  show Dr _ _ _ _ _ _ _ _ _ (uf _ 30 (.slice Ay134_0 (y134).length cy134_0)) (up _ 5 (ow Ay134_0 cy134_0 177 fl_TSpan y134))
  refine Dr.quiet 17 [(31, (.agg #[(.int .i64 x131), (.int .i64 x132), (.slice Ay134_0 (y134).length cy134_0)]))] (by kernel_rfl) rfl rfl (by kernel_rfl) ?_ rfl rfl ?_
  ·refine Tq.build (vs := [(0, (.int .i64 x131)), (1, (.int .i64 x132)), (2, (.slice Ay134_0 (y134).length cy134_0))]) (cs := [(.int .i64 x131), (.int .i64 x132), (.slice Ay134_0 (y134).length cy134_0)]) (wn rfl) rfl (evs_cons rfl (evs_cons rfl (evs_cons rfl evs_nil))) (by kernel_rfl) ?_
   exact Tq.fin (.cons rfl .nil)
  refine Dr.tail (by kernel_rfl) ?_
  refine Tr.freeze 5 rfl fun w le137 hz136 => ?_
  replace hp0_0 := hp0_0.leR le137
  replace hgy100_0 := hgy100_0.le le137
  replace leB := leB.trans le137
  replace leF_etchhouseref1_Canonical_L1 := leF_etchhouseref1_Canonical_L1.trans le137
  obtain ⟨y138, hy138, H⟩ := bnd H
  refine Tr.callG [2] [ow Al128 cl128 149 fl_Tetchhouseref1Band l128] (U := (Option Addr × Nat)) (fun u => (.slice u.1 (y138).length u.2)) (fun O W u => SlF u.1 (y138).length u.2) (fun u => [ow u.1 u.2 149 fl_Tetchhouseref1Band y138]) rfl (pk_cons rfl pk_nil) (fun _ => rfl) (wn rfl) rfl Try.call122 (evl_cons rfl (evl_cons rfl evl_nil)) (fun W hW hp hE => F_etchhouseref1_stacked_ok N l128 Al128 cl128 (Tetchhouseref1Band.mk x131 x132 y134) Ay134_0 cy134_0 (hz136.extO (hW.extS hp)) y138 hy138 hE) ?_
  intro w u le139 hu
  obtain ⟨Ay138_0, cy138_0⟩ := u
  have gy138_0 := hu
  replace hp0_0 := hp0_0.leR le139
  replace hgy100_0 := hgy100_0.le le139
  replace hz136 := hz136.le le139
  replace leB := leB.trans le139
  replace leF_etchhouseref1_Canonical_L1 := leF_etchhouseref1_Canonical_L1.trans le139
  have hgy138_0 : SlF Ay138_0 (y138).length cy138_0 := gy138_0 --@phi
  show Tr _ _ (uf _ 32 (.slice Ay138_0 (y138).length cy138_0)) (up _ 2 (ow Ay138_0 cy138_0 149 fl_Tetchhouseref1Band y138)) _
  refine Tr.asg rfl rfl ?_
  refine Tr.nil (Tr.normBlock (Tr.normThen ?_))
  refine Tr.region ?_
  refine Tr.mv rfl rfl ?_
  refine Tr.va rfl (fun _ _ h1 h2 => run_add (h1.ev rfl) (h1.ev rfl)) ?_
  refine Tr.asg rfl rfl ?_
  refine Tr.nil ?_
  exact Tr.backThen leF_etchhouseref1_Canonical_L1 (y138, (w64 (x129 + 1)), Ay138_0, cy138_0) ⟨H, hgy138_0⟩ (.cons rfl (.cons rfl (.cons rfl (.cons rfl .nil)))) (.cons rfl .nil)
 ·refine Tr.exit (Tr.exitThen (Tr.exitThen (Tr.exitBlock (Tr.normThen ?_))))
  refine Tr.sr ?_
  refine Tr.mv rfl rfl ?_
  obtain ⟨y140, hy140, H⟩ := bnd H
  refine Tr.callM [6] [emp] (U := (Option Addr × Nat)) (fun u => (.slice u.1 (y140).length u.2)) (fun u => SlF u.1 (y140).length u.2) (fun u => [ow u.1 u.2 29 fl_TRect y140]) rfl (pk_cons rfl pk_nil) (fun _ => rfl) (wn rfl) rfl Try.call124 (evl_cons rfl evl_nil) (fun W hW hp hE => F_etchhouseref1_told_ok N l128 Al128 cl128 (hW.slS (k := 2) rfl hp rfl) y140 hy140 hE) ?_
  intro u hu
  obtain ⟨Ay140_0, cy140_0⟩ := u
  have gy140_0 := hu
  have hgy140_0 : SlF Ay140_0 (y140).length cy140_0 := gy140_0 --@phi
  show Tr _ _ (uf _ 34 (.slice Ay140_0 (y140).length cy140_0)) (up _ 6 (ow Ay140_0 cy140_0 29 fl_TRect y140)) _
  refine Tr.asg rfl rfl ?_
  refine Tr.nil (Tr.normThen ?_)
  refine Tr.ret ?_
  obtain rfl := Option.some.inj H
  exact Tr.out (m := [(.slice Ay140_0 (y140).length cy140_0)]) [] (res_tmp rfl res_nil) (fun W hW => ⟨(Ay140_0, cy140_0), rfl, hgy140_0, HF.lowE leB (hW.pick (ks := [6]) (by decide) (pk_cons rfl pk_nil)) ⟨ow_any _ _ _ _ tr_TRect, trivial⟩⟩)

theorem F_etchhouseref1_SameRects_ok (N : Nat) {w : Bs} (p0 : (List TRect)) (Ap0_0 : Option Addr) (cp0_0 : Nat) (hp0_0 : Sl w.R w.W fl_TRect Ap0_0 cp0_0 p0) (p1 : (List TRect)) (Ap1_0 : Option Addr) (cp1_0 : Nat) (hp1_0 : Sl w.R w.W fl_TRect Ap1_0 cp1_0 p1) (r : Bool) (H : F_etchhouseref1_SameRects N p0 p1 = some r) (hE : HF w w.W E0) : Calls Try.prog 87 [(.slice Ap0_0 (p0).length cp0_0), (.slice Ap1_0 (p1).length cp1_0)].toArray w.W fun e W' => e = .returned (.bool r) ∧ HF w W' E0 := by
 unfold F_etchhouseref1_SameRects at H
 have leB := Bs.Le.refl w
 refine Tr.enter (n := 26) Try.func87 rfl rfl rfl hE ?_
 refine Tr.sr ?_
 refine Tr.asg rfl rfl ?_
 refine Tr.nil (Tr.normThen ?_)
 refine Tr.seq ?_
 refine Tr.sr ?_
 refine Tr.mv rfl rfl ?_
 refine Tr.va rfl (fun _ _ h1 h2 => run_len un_22 (h1.ev rfl)) ?_
 refine Tr.mv rfl rfl ?_
 refine Tr.va rfl (fun _ _ h1 h2 => run_len un_22 (h1.ev rfl)) ?_
 refine Tr.va rfl (fun _ _ h1 h2 => run_neq (h1.ev rfl) (h1.ev rfl)) ?_
 refine Tr.nil (Tr.normThen ?_)
 refine Tr.cond rfl H (fun H => ?_) (fun H => ?_)
 ·refine Tr.sr ?_
  refine Tr.asg rfl rfl ?_
  refine Tr.nil (Tr.normThen ?_)
  refine Tr.ret (Tr.retThen ?_)
  obtain rfl := Option.some.inj H
  exact Tr.out (m := [(.bool false)]) [] (res_tmp rfl res_nil) (fun W hW => ⟨rfl, hW.low leB⟩)
 ·refine Tr.skip (Tr.normThen ?_)
  refine Tr.seq ?_
  refine Tr.sr ?_
  refine Tr.asg rfl rfl ?_
  refine Tr.nil (Tr.normThen ?_)
  refine Tr.block ?_
  refine Tr.loop (σ := Int) (fun m w s => F_etchhouseref1_SameRects_L1 p0 p1 m s = some r) (fun s => [(0, (.slice Ap0_0 (p0).length cp0_0)), (1, (.slice Ap1_0 (p1).length cp1_0)), (5, (.int .i64 s))]) (fun s => []) N 0 H (.cons rfl (.cons rfl (.cons rfl .nil))) .nil (fun _ _ h => noSome (h)) ?_
  intro w leF_etchhouseref1_SameRects_L1 mF_etchhouseref1_SameRects_L1 x107 hs
  have H := hs
  replace H : F_etchhouseref1_SameRects_L1 p0 p1 (mF_etchhouseref1_SameRects_L1 + 1) x107 = some r := H
  replace hp0_0 := hp0_0.leR leF_etchhouseref1_SameRects_L1
  replace hp1_0 := hp1_0.leR leF_etchhouseref1_SameRects_L1
  replace leB := leB.trans leF_etchhouseref1_SameRects_L1
  rw [F_etchhouseref1_SameRects_L1.eq_2] at H
  show Tr _ _ (LF [(0, (.slice Ap0_0 (p0).length cp0_0)), (1, (.slice Ap1_0 (p1).length cp1_0)), (5, (.int .i64 x107))]) (LE []) _
  refine Tr.seq ?_
  refine Tr.sr ?_
  refine Tr.mv rfl rfl ?_
  refine Tr.mv rfl rfl ?_
  refine Tr.va rfl (fun _ _ h1 h2 => run_len un_22 (h1.ev rfl)) ?_
  refine Tr.va rfl (fun _ _ h1 h2 => run_lss (h1.ev rfl) (h1.ev rfl)) ?_
  refine Tr.nil (Tr.normThen ?_)
  refine Tr.cond rfl H (fun H => ?_) (fun H => ?_)
  ·refine Tr.skip (Tr.normThen ?_)
   refine Tr.seq ?_
   refine Tr.block ?_
   refine Tr.seq ?_
   refine Tr.draw (by kernel_rfl) (by kernel_rfl) ?_
   refine Tq.mv rfl rfl ?_
   refine Tq.mv rfl rfl ?_
   obtain ⟨x108, hx108, H⟩ := bnd H
   obtain ⟨hx1080, hx1081, hx1082⟩ := idx_some hx108
   refine Tq.va rfl (fun _ _ h1 h2 => run_indexAddr el_22 (h1.ev rfl) hp0_0.form (h1.ev rfl) hx1080 hx1081) ?_
   refine Tq.va rfl (fun _ _ h1 h2 => run_loadN (cs := [(.int .i64 x108.X0), (.int .i64 x108.Y0), (.int .i64 x108.X1), (.int .i64 x108.Y1)]) ag_29 sz_29 (h1.ev rfl) (CellsAt.take (rdF ef_TRect hp0_0 hx1082 h2) 4) rfl) ?_
   refine Tq.mv rfl rfl ?_
   refine Tq.mv rfl rfl ?_
   obtain ⟨x109, hx109, H⟩ := bnd H
   obtain ⟨hx1090, hx1091, hx1092⟩ := idx_some hx109
   refine Tq.va rfl (fun _ _ h1 h2 => run_indexAddr el_22 (h1.ev rfl) hp1_0.form (h1.ev rfl) hx1090 hx1091) ?_
   refine Tq.va rfl (fun _ _ h1 h2 => run_loadN (cs := [(.int .i64 x109.X0), (.int .i64 x109.Y0), (.int .i64 x109.X1), (.int .i64 x109.Y1)]) ag_29 sz_29 (h1.ev rfl) (CellsAt.take (rdF ef_TRect hp1_0 hx1092 h2) 4) rfl) ?_
   refine Tq.va rfl (fun _ _ h1 h2 => run_neq_29 x108 x109 (h1.ev rfl) (h1.ev rfl)) ?_
   refine Tq.nil (Tr.normThen ?_)
   refine Tr.cond rfl H (fun H => ?_) (fun H => ?_)
   ·refine Tr.sr ?_
    refine Tr.asg rfl rfl ?_
    refine Tr.nil (Tr.normThen ?_)
    refine Tr.ret (Tr.retBlock (Tr.retThen (Tr.retThen (Tr.retBlock (Tr.retThen ?_)))))
    obtain rfl := Option.some.inj H
    exact Tr.out (m := [(.bool false)]) [] (res_tmp rfl res_nil) (fun W hW => ⟨rfl, hW.low leB⟩)
   ·refine Tr.skip (Tr.normBlock (Tr.normThen ?_))
    refine Tr.region ?_
    refine Tr.mv rfl rfl ?_
    refine Tr.va rfl (fun _ _ h1 h2 => run_add (h1.ev rfl) (h1.ev rfl)) ?_
    refine Tr.asg rfl rfl ?_
    refine Tr.nil ?_
    exact Tr.backThen leF_etchhouseref1_SameRects_L1 (w64 (x107 + 1)) H (.cons rfl (.cons rfl (.cons rfl .nil))) .nil
  ·refine Tr.exit (Tr.exitThen (Tr.exitThen (Tr.exitBlock (Tr.normThen ?_))))
   refine Tr.sr ?_
   refine Tr.asg rfl rfl ?_
   refine Tr.nil (Tr.normThen ?_)
   refine Tr.ret ?_
   obtain rfl := Option.some.inj H
   exact Tr.out (m := [(.bool true)]) [] (res_tmp rfl res_nil) (fun W hW => ⟨rfl, hW.low leB⟩)

theorem F_etchhouseref1_CheckRegion_ok (N : Nat) {w : Bs} (p0 : (List TRect)) (Ap0_0 : Option Addr) (cp0_0 : Nat) (hp0_0 : Sl w.R w.W fl_TRect Ap0_0 cp0_0 p0) (r : Int) (H : F_etchhouseref1_CheckRegion N p0 = some r) (hE : HF w w.W E0) : Calls Try.prog 49 [(.slice Ap0_0 (p0).length cp0_0)].toArray w.W fun e W' => e = .returned (.int .i64 r) ∧ HF w W' E0 := by
 unfold F_etchhouseref1_CheckRegion at H
 have leB := Bs.Le.refl w
 refine Tr.enter (n := 32) Try.func49 rfl rfl rfl hE ?_
 refine Tr.sr ?_
 refine Tr.asg rfl rfl ?_
 refine Tr.nil (Tr.normThen ?_)
 refine Tr.seq ?_
 refine Tr.sr ?_
 refine Tr.mv rfl rfl ?_
 obtain ⟨y100, hy100, H⟩ := bnd H
 refine Tr.call0 (r := (.int .i64 y100)) (wn rfl) rfl Try.call85 (evl_cons rfl evl_nil) (fun W hW => F_etchhouseref1_CheckRects_ok N p0 Ap0_0 cp0_0 (hp0_0.ext hW.extAll) y100 hy100 (HF.start _)) ?_
 refine Tr.asg rfl rfl ?_
 refine Tr.nil (Tr.normThen ?_)
 refine Tr.sr ?_
 refine Tr.mv rfl rfl ?_
 refine Tr.va rfl (fun _ _ h1 h2 => run_neq (h1.ev rfl) (h1.ev rfl)) ?_
 refine Tr.nil (Tr.normThen ?_)
 refine Tr.cond rfl H (fun H => ?_) (fun H => ?_)
 ·refine Tr.sr ?_
  refine Tr.mv rfl rfl ?_
  refine Tr.asg rfl rfl ?_
  refine Tr.nil (Tr.normThen ?_)
  refine Tr.ret (Tr.retThen ?_)
  obtain rfl := Option.some.inj H
  exact Tr.out (m := [(.int .i64 y100)]) [] (res_tmp rfl res_nil) (fun W hW => ⟨rfl, hW.low leB⟩)
 ·refine Tr.skip (Tr.normThen ?_)
  refine Tr.seq ?_
  refine Tr.sr ?_
  refine Tr.asg rfl rfl ?_
  refine Tr.nil (Tr.normThen ?_)
  refine Tr.block ?_
  refine Tr.loop (σ := Int) (fun m w s => F_etchhouseref1_CheckRegion_L1 N p0 m s = some r) (fun s => [(0, (.slice Ap0_0 (p0).length cp0_0)), (4, (.int .i64 s))]) (fun s => []) N 1 H (.cons rfl (.cons rfl .nil)) .nil (fun _ _ h => noSome (h)) ?_
  intro w leF_etchhouseref1_CheckRegion_L1 mF_etchhouseref1_CheckRegion_L1 x110 hs
  have H := hs
  replace H : F_etchhouseref1_CheckRegion_L1 N p0 (mF_etchhouseref1_CheckRegion_L1 + 1) x110 = some r := H
  replace hp0_0 := hp0_0.leR leF_etchhouseref1_CheckRegion_L1
  replace leB := leB.trans leF_etchhouseref1_CheckRegion_L1
  rw [F_etchhouseref1_CheckRegion_L1.eq_2] at H
  show Tr _ _ (LF [(0, (.slice Ap0_0 (p0).length cp0_0)), (4, (.int .i64 x110))]) (LE []) _
  refine Tr.seq ?_
  refine Tr.sr ?_
  refine Tr.mv rfl rfl ?_
  refine Tr.mv rfl rfl ?_
  refine Tr.va rfl (fun _ _ h1 h2 => run_len un_22 (h1.ev rfl)) ?_
  refine Tr.va rfl (fun _ _ h1 h2 => run_lss (h1.ev rfl) (h1.ev rfl)) ?_
  refine Tr.nil (Tr.normThen ?_)
  refine Tr.cond rfl H (fun H => ?_) (fun H => ?_)
  ·refine Tr.skip (Tr.normThen ?_)
   refine Tr.seq ?_
   refine Tr.block ?_
   refine Tr.seq ?_
   refine Tr.draw (by kernel_rfl) (by kernel_rfl) ?_
   refine Tq.mv rfl rfl ?_
   refine Tq.mv rfl rfl ?_
   refine Tq.va rfl (fun _ _ h1 h2 => run_sub (h1.ev rfl) (h1.ev rfl)) ?_
   obtain ⟨x111, hx111, H⟩ := bnd H
   obtain ⟨hx1110, hx1111, hx1112⟩ := idx_some hx111
   refine Tq.va rfl (fun _ _ h1 h2 => run_indexAddr el_22 (h1.ev rfl) hp0_0.form (h1.ev rfl) hx1110 hx1111) ?_
   refine Tq.va rfl (fun _ _ h1 h2 => run_loadN (cs := [(.int .i64 x111.X0), (.int .i64 x111.Y0), (.int .i64 x111.X1), (.int .i64 x111.Y1)]) ag_29 sz_29 (h1.ev rfl) (CellsAt.take (rdF ef_TRect hp0_0 hx1112 h2) 4) rfl) ?_
   refine Tq.mv rfl rfl ?_
   refine Tq.mv rfl rfl ?_
   obtain ⟨x112, hx112, H⟩ := bnd H
   obtain ⟨hx1120, hx1121, hx1122⟩ := idx_some hx112
   refine Tq.va rfl (fun _ _ h1 h2 => run_indexAddr el_22 (h1.ev rfl) hp0_0.form (h1.ev rfl) hx1120 hx1121) ?_
   refine Tq.va rfl (fun _ _ h1 h2 => run_loadN (cs := [(.int .i64 x112.X0), (.int .i64 x112.Y0), (.int .i64 x112.X1), (.int .i64 x112.Y1)]) ag_29 sz_29 (h1.ev rfl) (CellsAt.take (rdF ef_TRect hp0_0 hx1122 h2) 4) rfl) ?_
   obtain ⟨y113, hy113, H⟩ := bnd H
   refine Tq.call0 (r := (.bool y113)) (wn rfl) rfl Try.call86 (evl_cons rfl (evl_cons rfl evl_nil)) (fun W hW => F_etchhouseref1_before_ok x111 x112 y113 hy113 (HF.start _)) ?_
   refine Tq.va rfl (fun _ _ h1 h2 => run_not (h1.ev rfl)) ?_
   refine Tq.nil (Tr.normThen ?_)
   refine Tr.cond rfl H (fun H => ?_) (fun H => ?_)
   ·refine Tr.sr ?_
    refine Tr.asg rfl rfl ?_
    refine Tr.nil (Tr.normThen ?_)
    refine Tr.ret (Tr.retBlock (Tr.retThen (Tr.retThen (Tr.retBlock (Tr.retThen ?_)))))
    obtain rfl := Option.some.inj H
    exact Tr.out (m := [(.int .i64 8)]) [] (res_tmp rfl res_nil) (fun W hW => ⟨rfl, hW.low leB⟩)
   ·refine Tr.skip (Tr.normBlock (Tr.normThen ?_))
    refine Tr.region ?_
    refine Tr.mv rfl rfl ?_
    refine Tr.va rfl (fun _ _ h1 h2 => run_add (h1.ev rfl) (h1.ev rfl)) ?_
    refine Tr.asg rfl rfl ?_
    refine Tr.nil ?_
    exact Tr.backThen leF_etchhouseref1_CheckRegion_L1 (w64 (x110 + 1)) H (.cons rfl (.cons rfl .nil)) .nil
  ·refine Tr.exit (Tr.exitThen (Tr.exitThen (Tr.exitBlock (Tr.normThen ?_))))
   refine Tr.seq ?_
   refine Tr.sr ?_
   refine Tr.mv rfl rfl ?_
   refine Tr.mv rfl rfl ?_
   obtain ⟨y114, hy114, H⟩ := bnd H
   refine Tr.callM [1] [emp] (U := (Option Addr × Nat)) (fun u => (.slice u.1 (y114).length u.2)) (fun u => SlF u.1 (y114).length u.2) (fun u => [ow u.1 u.2 29 fl_TRect y114]) rfl (pk_cons rfl pk_nil) (fun _ => rfl) (wn rfl) rfl Try.call88 (evl_cons rfl evl_nil) (fun W hW hp hE => F_etchhouseref1_Canonical_ok N p0 Ap0_0 cp0_0 (hp0_0.ext (hW.extS hp)) y114 hy114 hE) ?_
   intro u hu
   obtain ⟨Ay114_0, cy114_0⟩ := u
   have gy114_0 := hu
   have hgy114_0 : SlF Ay114_0 (y114).length cy114_0 := gy114_0 --@phi
   show Tr _ _ (uf _ 29 (.slice Ay114_0 (y114).length cy114_0)) (up _ 1 (ow Ay114_0 cy114_0 29 fl_TRect y114)) _
   obtain ⟨y116, hy116, H⟩ := bnd H
   refine Tr.call0 (r := (.bool y116)) (wn rfl) rfl Try.call87 (evl_cons rfl (evl_cons rfl evl_nil)) (fun W hW => F_etchhouseref1_SameRects_ok N p0 Ap0_0 cp0_0 (hp0_0.ext hW.extAll) y114 Ay114_0 cy114_0 (hW.slCall (k := 1) rfl) y116 hy116 (HF.start _)) ?_
   refine Tr.va rfl (fun _ _ h1 h2 => run_not (h1.ev rfl)) ?_
   refine Tr.nil (Tr.normThen ?_)
   refine Tr.cond rfl H (fun H => ?_) (fun H => ?_)
   ·refine Tr.sr ?_
    refine Tr.asg rfl rfl ?_
    refine Tr.nil (Tr.normThen ?_)
    refine Tr.ret (Tr.retThen ?_)
    obtain rfl := Option.some.inj H
    exact Tr.out (m := [(.int .i64 3)]) [] (res_tmp rfl res_nil) (fun W hW => ⟨rfl, hW.low leB⟩)
   ·refine Tr.skip (Tr.normThen ?_)
    refine Tr.sr ?_
    refine Tr.asg rfl rfl ?_
    refine Tr.nil (Tr.normThen ?_)
    refine Tr.ret ?_
    obtain rfl := Option.some.inj H
    exact Tr.out (m := [(.int .i64 0)]) [] (res_tmp rfl res_nil) (fun W hW => ⟨rfl, hW.low leB⟩)

theorem F_etchhouseref1_touch_ok {w : Bs} (p0 : TRect) (p1 : TRect) (r : Bool) (H : F_etchhouseref1_touch p0 p1 = some r) (hE : HF w w.W E0) : Calls Try.prog 89 [(.agg #[(.int .i64 p0.X0), (.int .i64 p0.Y0), (.int .i64 p0.X1), (.int .i64 p0.Y1)]), (.agg #[(.int .i64 p1.X0), (.int .i64 p1.Y0), (.int .i64 p1.X1), (.int .i64 p1.Y1)])].toArray w.W fun e W' => e = .returned (.bool r) ∧ HF w W' E0 := by
 unfold F_etchhouseref1_touch at H
 have leB := Bs.Le.refl w
 refine Tr.enter (n := 43) Try.func89 rfl rfl rfl hE ?_
 refine Tr.sr ?_
 refine Tr.box 1 (cs := [(.int .i64 p0.X0), (.int .i64 p0.Y0), (.int .i64 p0.X1), (.int .i64 p0.Y1)]) (wn rfl) rfl rfl rfl fun b100 => ?_
 refine Tr.box 2 (cs := [(.int .i64 p1.X0), (.int .i64 p1.Y0), (.int .i64 p1.X1), (.int .i64 p1.Y1)]) (wn rfl) rfl rfl rfl fun b101 => ?_
 refine Tr.asg rfl rfl ?_
 refine Tr.nil (Tr.normThen ?_)
 refine Tr.sr ?_
 refine Tr.va rfl (fun _ _ h1 h2 => run_fieldAddr fo_29_2 (h1.ev rfl)) ?_
 refine Tr.va rfl (fun _ _ h1 h2 => run_load1 ag_3 (h1.ev rfl) (rdb h2 (vs := [(.int .i64 p0.X0), (.int .i64 p0.Y0), (.int .i64 p0.X1), (.int .i64 p0.Y1)]) (k := 1) rfl 2) rfl) ?_
 refine Tr.va rfl (fun _ _ h1 h2 => run_fieldAddr fo_29_2 (h1.ev rfl)) ?_
 refine Tr.va rfl (fun _ _ h1 h2 => run_load1 ag_3 (h1.ev rfl) (rdb h2 (vs := [(.int .i64 p1.X0), (.int .i64 p1.Y0), (.int .i64 p1.X1), (.int .i64 p1.Y1)]) (k := 2) rfl 2) rfl) ?_
 refine Tr.va rfl (fun _ _ h1 h2 => run_min (h1.ev rfl) (h1.ev rfl) _) ?_
 refine Tr.va rfl (fun _ _ h1 h2 => run_fieldAddr fo_29_0 (h1.ev rfl)) ?_
 refine Tr.va rfl (fun _ _ h1 h2 => run_load1 ag_3 (h1.ev rfl) (rdb h2 (vs := [(.int .i64 p0.X0), (.int .i64 p0.Y0), (.int .i64 p0.X1), (.int .i64 p0.Y1)]) (k := 1) rfl 0) rfl) ?_
 refine Tr.va rfl (fun _ _ h1 h2 => run_fieldAddr fo_29_0 (h1.ev rfl)) ?_
 refine Tr.va rfl (fun _ _ h1 h2 => run_load1 ag_3 (h1.ev rfl) (rdb h2 (vs := [(.int .i64 p1.X0), (.int .i64 p1.Y0), (.int .i64 p1.X1), (.int .i64 p1.Y1)]) (k := 2) rfl 0) rfl) ?_
 refine Tr.va rfl (fun _ _ h1 h2 => run_max (h1.ev rfl) (h1.ev rfl) _) ?_
 refine Tr.va rfl (fun _ _ h1 h2 => run_sub (h1.ev rfl) (h1.ev rfl)) ?_
 refine Tr.asg rfl rfl ?_
 refine Tr.nil (Tr.normThen ?_)
 refine Tr.sr ?_
 refine Tr.va rfl (fun _ _ h1 h2 => run_fieldAddr fo_29_3 (h1.ev rfl)) ?_
 refine Tr.va rfl (fun _ _ h1 h2 => run_load1 ag_3 (h1.ev rfl) (rdb h2 (vs := [(.int .i64 p0.X0), (.int .i64 p0.Y0), (.int .i64 p0.X1), (.int .i64 p0.Y1)]) (k := 1) rfl 3) rfl) ?_
 refine Tr.va rfl (fun _ _ h1 h2 => run_fieldAddr fo_29_3 (h1.ev rfl)) ?_
 refine Tr.va rfl (fun _ _ h1 h2 => run_load1 ag_3 (h1.ev rfl) (rdb h2 (vs := [(.int .i64 p1.X0), (.int .i64 p1.Y0), (.int .i64 p1.X1), (.int .i64 p1.Y1)]) (k := 2) rfl 3) rfl) ?_
 refine Tr.va rfl (fun _ _ h1 h2 => run_min (h1.ev rfl) (h1.ev rfl) _) ?_
 refine Tr.va rfl (fun _ _ h1 h2 => run_fieldAddr fo_29_1 (h1.ev rfl)) ?_
 refine Tr.va rfl (fun _ _ h1 h2 => run_load1 ag_3 (h1.ev rfl) (rdb h2 (vs := [(.int .i64 p0.X0), (.int .i64 p0.Y0), (.int .i64 p0.X1), (.int .i64 p0.Y1)]) (k := 1) rfl 1) rfl) ?_
 refine Tr.va rfl (fun _ _ h1 h2 => run_fieldAddr fo_29_1 (h1.ev rfl)) ?_
 refine Tr.va rfl (fun _ _ h1 h2 => run_load1 ag_3 (h1.ev rfl) (rdb h2 (vs := [(.int .i64 p1.X0), (.int .i64 p1.Y0), (.int .i64 p1.X1), (.int .i64 p1.Y1)]) (k := 2) rfl 1) rfl) ?_
 refine Tr.va rfl (fun _ _ h1 h2 => run_max (h1.ev rfl) (h1.ev rfl) _) ?_
 refine Tr.va rfl (fun _ _ h1 h2 => run_sub (h1.ev rfl) (h1.ev rfl)) ?_
 refine Tr.asg rfl rfl ?_
 refine Tr.nil (Tr.normThen ?_)
 refine Tr.sr ?_
 refine Tr.mv rfl rfl ?_
 refine Tr.va rfl (fun _ _ h1 h2 => run_gtr (h1.ev rfl) (h1.ev rfl)) ?_
 refine Tr.mv rfl rfl ?_
 refine Tr.mid0 3 [(5, (.int .i64 (w64 ((min p0.X1 p1.X1) - (max p0.X0 p1.X0))))), (6, (.int .i64 (w64 ((min p0.Y1 p1.Y1) - (max p0.Y0 p1.Y0))))), (34, (.bool ((decide (0 < (w64 ((min p0.X1 p1.X1) - (max p0.X0 p1.X0))))) && (decide (0 ≤ (w64 ((min p0.Y1 p1.Y1) - (max p0.Y0 p1.Y0))))))))] [(1, bx b100 #[(.int .i64 p0.X0), (.int .i64 p0.Y0), (.int .i64 p0.X1), (.int .i64 p0.Y1)] 29), (2, bx b101 #[(.int .i64 p1.X0), (.int .i64 p1.Y0), (.int .i64 p1.X1), (.int .i64 p1.Y1)] 29)] ?_ ?_
 ·cases hg101 : (decide (0 < (w64 ((min p0.X1 p1.X1) - (max p0.X0 p1.X0)))))
  ·refine Tr.pass rfl rfl rfl rfl rfl (by decide) ?_
   refine Tr.pass rfl rfl rfl rfl rfl (by decide) ?_
   refine Tr.va rfl (fun _ _ h1 h2 => run_pickF (h1.ev rfl) (h1.ev rfl)) ?_
   exact Tr.nil (Tr.fin0 (.cons rfl (.cons rfl (.cons rfl .nil))) (.cons rfl (.cons rfl .nil)))
  ·refine Tr.val (wg rfl rfl rfl) rfl (fun _ _ h1 h2 => run_move (h1.ev rfl)) ?_
   refine Tr.val (wg rfl rfl rfl) rfl (fun _ _ h1 h2 => run_geq (h1.ev rfl) (h1.ev rfl)) ?_
   refine Tr.va rfl (fun _ _ h1 h2 => run_pickT (h1.ev rfl) (h1.ev rfl)) ?_
   exact Tr.nil (Tr.fin0 (.cons rfl (.cons rfl (.cons rfl .nil))) (.cons rfl (.cons rfl .nil)))
 ·show Tr _ _ (LF [(5, (.int .i64 (w64 ((min p0.X1 p1.X1) - (max p0.X0 p1.X0))))), (6, (.int .i64 (w64 ((min p0.Y1 p1.Y1) - (max p0.Y0 p1.Y0))))), (34, (.bool ((decide (0 < (w64 ((min p0.X1 p1.X1) - (max p0.X0 p1.X0))))) && (decide (0 ≤ (w64 ((min p0.Y1 p1.Y1) - (max p0.Y0 p1.Y0))))))))]) (LE [(1, bx b100 #[(.int .i64 p0.X0), (.int .i64 p0.Y0), (.int .i64 p0.X1), (.int .i64 p0.Y1)] 29), (2, bx b101 #[(.int .i64 p1.X0), (.int .i64 p1.Y0), (.int .i64 p1.X1), (.int .i64 p1.Y1)] 29)]) _
  refine Tr.mv rfl rfl ?_
  refine Tr.mid0 7 [(42, (.bool (((decide (0 < (w64 ((min p0.X1 p1.X1) - (max p0.X0 p1.X0))))) && (decide (0 ≤ (w64 ((min p0.Y1 p1.Y1) - (max p0.Y0 p1.Y0)))))) || ((decide (0 ≤ (w64 ((min p0.X1 p1.X1) - (max p0.X0 p1.X0))))) && (decide (0 < (w64 ((min p0.Y1 p1.Y1) - (max p0.Y0 p1.Y0)))))))))] [(1, bx b100 #[(.int .i64 p0.X0), (.int .i64 p0.Y0), (.int .i64 p0.X1), (.int .i64 p0.Y1)] 29), (2, bx b101 #[(.int .i64 p1.X0), (.int .i64 p1.Y0), (.int .i64 p1.X1), (.int .i64 p1.Y1)] 29)] ?_ ?_
  ·cases hg101 : ((decide (0 < (w64 ((min p0.X1 p1.X1) - (max p0.X0 p1.X0))))) && (decide (0 ≤ (w64 ((min p0.Y1 p1.Y1) - (max p0.Y0 p1.Y0))))))
   ·refine Tr.val (wg rfl rfl rfl) rfl (fun _ _ h1 h2 => run_move (h1.ev rfl)) ?_
    refine Tr.val (wg rfl rfl rfl) rfl (fun _ _ h1 h2 => run_geq (h1.ev rfl) (h1.ev rfl)) ?_
    refine Tr.val (wg rfl rfl rfl) rfl (fun _ _ h1 h2 => run_move (h1.ev rfl)) ?_
    refine Tr.mid0 3 [(35, (.bool false)), (41, (.bool ((decide (0 ≤ (w64 ((min p0.X1 p1.X1) - (max p0.X0 p1.X0))))) && (decide (0 < (w64 ((min p0.Y1 p1.Y1) - (max p0.Y0 p1.Y0))))))))] [(1, bx b100 #[(.int .i64 p0.X0), (.int .i64 p0.Y0), (.int .i64 p0.X1), (.int .i64 p0.Y1)] 29), (2, bx b101 #[(.int .i64 p1.X0), (.int .i64 p1.Y0), (.int .i64 p1.X1), (.int .i64 p1.Y1)] 29)] ?_ ?_
    ·cases hg101 : (decide (0 ≤ (w64 ((min p0.X1 p1.X1) - (max p0.X0 p1.X0)))))
     ·refine Tr.pass rfl rfl rfl rfl rfl (by decide) ?_
      refine Tr.pass rfl rfl rfl rfl rfl (by decide) ?_
      refine Tr.val (wg rfl rfl rfl) rfl (fun _ _ h1 h2 => run_pickF (h1.ev rfl) (h1.ev rfl)) ?_
      exact Tr.nil (Tr.fin0 (.cons rfl (.cons rfl .nil)) (.cons rfl (.cons rfl .nil)))
     ·refine Tr.val (wg rfl rfl rfl) rfl (fun _ _ h1 h2 => run_move (h1.ev rfl)) ?_
      refine Tr.val (wg rfl rfl rfl) rfl (fun _ _ h1 h2 => run_gtr (h1.ev rfl) (h1.ev rfl)) ?_
      refine Tr.val (wg rfl rfl rfl) rfl (fun _ _ h1 h2 => run_pickT (h1.ev rfl) (h1.ev rfl)) ?_
      exact Tr.nil (Tr.fin0 (.cons rfl (.cons rfl .nil)) (.cons rfl (.cons rfl .nil)))
    ·show Tr _ _ (LF [(35, (.bool false)), (41, (.bool ((decide (0 ≤ (w64 ((min p0.X1 p1.X1) - (max p0.X0 p1.X0))))) && (decide (0 < (w64 ((min p0.Y1 p1.Y1) - (max p0.Y0 p1.Y0))))))))]) (LE [(1, bx b100 #[(.int .i64 p0.X0), (.int .i64 p0.Y0), (.int .i64 p0.X1), (.int .i64 p0.Y1)] 29), (2, bx b101 #[(.int .i64 p1.X0), (.int .i64 p1.Y0), (.int .i64 p1.X1), (.int .i64 p1.Y1)] 29)]) _
     refine Tr.va rfl (fun _ _ h1 h2 => run_pickF (h1.ev rfl) (h1.ev rfl)) ?_
     exact Tr.nil (Tr.fin0 (.cons rfl .nil) (.cons rfl (.cons rfl .nil)))
   ·refine Tr.pass rfl rfl rfl rfl rfl (by decide) ?_
    refine Tr.pass rfl rfl rfl rfl rfl (by decide) ?_
    refine Tr.pass rfl rfl rfl rfl rfl (by decide) ?_
    refine Tr.passU rfl rfl rfl rfl (by decide) ?_
    refine Tr.passU rfl rfl rfl rfl (by decide) ?_
    refine Tr.pass rfl rfl rfl rfl rfl (by decide) ?_
    refine Tr.va rfl (fun _ _ h1 h2 => run_pickT (h1.ev rfl) (h1.ev rfl)) ?_
    exact Tr.nil (Tr.fin0 (.cons rfl .nil) (.cons rfl (.cons rfl .nil)))
  ·show Tr _ _ (LF [(42, (.bool (((decide (0 < (w64 ((min p0.X1 p1.X1) - (max p0.X0 p1.X0))))) && (decide (0 ≤ (w64 ((min p0.Y1 p1.Y1) - (max p0.Y0 p1.Y0)))))) || ((decide (0 ≤ (w64 ((min p0.X1 p1.X1) - (max p0.X0 p1.X0))))) && (decide (0 < (w64 ((min p0.Y1 p1.Y1) - (max p0.Y0 p1.Y0)))))))))]) (LE [(1, bx b100 #[(.int .i64 p0.X0), (.int .i64 p0.Y0), (.int .i64 p0.X1), (.int .i64 p0.Y1)] 29), (2, bx b101 #[(.int .i64 p1.X0), (.int .i64 p1.Y0), (.int .i64 p1.X1), (.int .i64 p1.Y1)] 29)]) _
   refine Tr.asg rfl rfl ?_
   refine Tr.nil (Tr.normThen ?_)
   refine Tr.ret ?_
   obtain rfl := Option.some.inj H
   exact Tr.out (m := [(.bool (((decide (0 < (w64 ((min p0.X1 p1.X1) - (max p0.X0 p1.X0))))) && (decide (0 ≤ (w64 ((min p0.Y1 p1.Y1) - (max p0.Y0 p1.Y0)))))) || ((decide (0 ≤ (w64 ((min p0.X1 p1.X1) - (max p0.X0 p1.X0))))) && (decide (0 < (w64 ((min p0.Y1 p1.Y1) - (max p0.Y0 p1.Y0))))))))]) [] (res_tmp rfl res_nil) (fun W hW => ⟨rfl, hW.low leB⟩)

theorem F_etchhouseref1_insert_ok (N : Nat) {w : Bs} (p0 : (List (List TRect))) (Ap0_0 : Option Addr) (cp0_0 : Nat) (hp0_0 : Sl w.O w.W fl_LTRect Ap0_0 cp0_0 p0) (p1 : (List TRect)) (Ap1_0 : Option Addr) (cp1_0 : Nat) (hp1_0 : Sl w.O w.W fl_TRect Ap1_0 cp1_0 p1) (r : (List (List TRect))) (H : F_etchhouseref1_insert N p0 p1 = some r) (hE : HF w w.W (LEn [emp])) : Calls Try.prog 90 [(.slice Ap0_0 (p0).length cp0_0), (.slice Ap1_0 (p1).length cp1_0)].toArray w.W fun e W' => ∃ (w' : Bs) (u : (Option Addr × Nat)), w.Le w' ∧ e = .returned (.slice u.1 (r).length u.2) ∧ (SlF u.1 (r).length u.2) ∧ HF w' W' (LEn [ow u.1 u.2 22 fl_LTRect r]) := by
 unfold F_etchhouseref1_insert at H
 have leB := Bs.Le.refl w
 refine Tr.enter (n := 40) Try.func90 rfl rfl rfl hE ?_
 refine Tr.sr ?_
 refine Tr.asg rfl rfl ?_
 refine Tr.nilOwn 1 22 fl_LTRect ?_
 show Tr _ _ (uf _ 4 (.slice none (([] : List (List TRect))).length 0)) _ _
 refine Tr.nil (Tr.normThen ?_)
 refine Tr.sr ?_
 refine Tr.mv rfl rfl ?_
 refine Tr.va rfl (fun _ _ h1 h2 => run_len un_40 (h1.ev rfl)) ?_
 refine Tr.asg rfl rfl ?_
 refine Tr.nil (Tr.normThen ?_)
 refine Tr.seq ?_
 refine Tr.block ?_
 refine Tr.loop (σ := Int) (fun m w s => F_etchhouseref1_insert_L1 p0 p1 m s = some r) (fun s => [(0, (.slice Ap0_0 (p0).length cp0_0)), (1, (.slice Ap1_0 (p1).length cp1_0)), (5, (.int .i64 s))]) (fun s => []) N (p0.length : Int) H (.cons rfl (.cons rfl (.cons rfl .nil))) .nil (fun _ _ h => noSome (h)) ?_
 intro w leF_etchhouseref1_insert_L1 mF_etchhouseref1_insert_L1 x125 hs
 have H := hs
 replace H : F_etchhouseref1_insert_L1 p0 p1 (mF_etchhouseref1_insert_L1 + 1) x125 = some r := H
 replace hp0_0 := hp0_0.le leF_etchhouseref1_insert_L1
 replace hp1_0 := hp1_0.le leF_etchhouseref1_insert_L1
 replace leB := leB.trans leF_etchhouseref1_insert_L1
 rw [F_etchhouseref1_insert_L1.eq_2] at H
 show Tr _ _ (LF [(0, (.slice Ap0_0 (p0).length cp0_0)), (1, (.slice Ap1_0 (p1).length cp1_0)), (5, (.int .i64 x125))]) (LE []) _
 refine Tr.seq ?_
 refine Tr.seq ?_
 refine Tr.draw (by kernel_rfl) (by kernel_rfl) ?_
 refine Tq.mv rfl rfl ?_
 refine Tq.va rfl (fun _ _ h1 h2 => run_gtr (h1.ev rfl) (h1.ev rfl)) ?_
 refine Tq.mv rfl rfl ?_
 obtain ⟨g131, hg131, H⟩ := bnd H
 refine Tq.mid 12 [(0, (.slice Ap0_0 (p0).length cp0_0)), (1, (.slice Ap1_0 (p1).length cp1_0)), (5, (.int .i64 x125)), (23, (.bool g131))] ?_ ?_
 ·cases hg142 : (decide (0 < x125))
  ·rw [hg142] at hg131
   rw [if_neg (by decide)] at hg131
   have H := hg131
   obtain rfl := Option.some.inj H
   refine Tq.pass rfl rfl rfl rfl rfl (by decide) ?_
   refine Tq.pass rfl rfl rfl rfl rfl (by decide) ?_
   refine Tq.pass rfl rfl rfl rfl rfl (by decide) ?_
   refine Tq.pass rfl rfl rfl rfl rfl (by decide) ?_
   refine Tq.pass rfl rfl rfl rfl rfl (by decide) ?_
   refine Tq.pass rfl rfl rfl rfl rfl (by decide) ?_
   refine Tq.pass rfl rfl rfl rfl rfl (by decide) ?_
   refine Tq.pass rfl rfl rfl rfl rfl (by decide) ?_
   refine Tq.pass rfl rfl rfl rfl rfl (by decide) ?_
   refine Tq.pass rfl rfl rfl rfl rfl (by decide) ?_
   refine Tq.pass rfl rfl rfl rfl rfl (by decide) ?_
   refine Tq.va rfl (fun _ _ h1 h2 => run_pickF (h1.ev rfl) (h1.ev rfl)) ?_
   exact Tq.fin (.cons rfl (.cons rfl (.cons rfl (.cons rfl .nil))))
  ·rw [hg142] at hg131
   rw [if_pos rfl] at hg131
   have H := hg131
   refine Tq.val (wg rfl rfl rfl) rfl (fun _ _ h1 h2 => run_move (h1.ev rfl)) ?_
   obtain ⟨x132, hx132, H⟩ := bnd H
   obtain ⟨hx1320, hx1321, hx1322⟩ := idx_some hx132
   refine Tq.val (wg rfl rfl rfl) rfl (fun _ _ h1 h2 => run_indexAddr el_22 (h1.ev rfl) hp1_0.form (h1.ev rfl) hx1320 hx1321) ?_
   refine Tq.val (wg rfl rfl rfl) rfl (fun _ _ h1 h2 => run_loadN (cs := [(.int .i64 x132.X0), (.int .i64 x132.Y0), (.int .i64 x132.X1), (.int .i64 x132.Y1)]) ag_29 sz_29 (h1.ev rfl) (CellsAt.take (rdF ef_TRect (hp1_0.rl) hx1322 h2) 4) rfl) ?_
   refine Tq.val (wg rfl rfl rfl) rfl (fun _ _ h1 h2 => run_move (h1.ev rfl)) ?_
   refine Tq.val (wg rfl rfl rfl) rfl (fun _ _ h1 h2 => run_move (h1.ev rfl)) ?_
   refine Tq.val (wg rfl rfl rfl) rfl (fun _ _ h1 h2 => run_sub (h1.ev rfl) (h1.ev rfl)) ?_
   obtain ⟨x133, hx133, H⟩ := bnd H
   obtain ⟨hx1330, hx1331, hx1332⟩ := idx_some hx133
   obtain ⟨u134, hRu134, hoku134, hcu134⟩ := (hp0_0).el hx1332
   obtain ⟨Au134_0, cu134_0⟩ := u134
   have hoku134_0 := hoku134
   replace hoku134_0 : Sl w.O w.W fl_TRect Au134_0 cu134_0 x133 := hoku134_0
   replace hRu134 : w.R (adB Ap0_0) := Or.inl hRu134
   refine Tq.val (wg rfl rfl rfl) rfl (fun _ _ h1 h2 => run_indexAddr el_40 (h1.ev rfl) hp0_0.form (h1.ev rfl) hx1330 hx1331) ?_
   refine Tq.val (wg rfl rfl rfl) rfl (fun _ _ h1 h2 => run_load1 ag_22 (h1.ev rfl) (rdR hRu134 hcu134 h2) rfl) ?_
   obtain ⟨x135, hx135, H⟩ := bnd H
   obtain ⟨hx1350, hx1351, hx1352⟩ := idx_some hx135
   refine Tq.val (wg rfl rfl rfl) rfl (fun _ _ h1 h2 => run_indexAddr el_22 (h1.ev rfl) hoku134_0.form (h1.ev rfl) hx1350 hx1351) ?_
   refine Tq.val (wg rfl rfl rfl) rfl (fun _ _ h1 h2 => run_loadN (cs := [(.int .i64 x135.X0), (.int .i64 x135.Y0), (.int .i64 x135.X1), (.int .i64 x135.Y1)]) ag_29 sz_29 (h1.ev rfl) (CellsAt.take (rdF ef_TRect (hoku134_0.rl) hx1352 h2) 4) rfl) ?_
   obtain ⟨y136, hy136, H⟩ := bnd H
   refine Tq.call0 (r := (.bool y136)) (wg rfl rfl rfl) rfl Try.call86 (evl_cons rfl (evl_cons rfl evl_nil)) (fun W hW => F_etchhouseref1_before_ok x132 x135 y136 hy136 (HF.start _)) ?_
   refine Tq.va rfl (fun _ _ h1 h2 => run_pickT (h1.ev rfl) (h1.ev rfl)) ?_
   obtain rfl := Option.some.inj H
   exact Tq.fin (.cons rfl (.cons rfl (.cons rfl (.cons rfl .nil))))
 ·refine Tq.nil (Tr.normThen ?_)
  refine Tr.cond rfl H (fun H => ?_) (fun H => ?_)
  ·refine Tr.skip (Tr.normThen ?_)
   refine Tr.block ?_
   refine Tr.region ?_
   refine Tr.mv rfl rfl ?_
   refine Tr.va rfl (fun _ _ h1 h2 => run_sub (h1.ev rfl) (h1.ev rfl)) ?_
   refine Tr.asg rfl rfl ?_
   refine Tr.nil (Tr.normBlock ?_)
   exact Tr.backThen leF_etchhouseref1_insert_L1 (w64 (x125 - 1)) H (.cons rfl (.cons rfl (.cons rfl .nil))) .nil
  ·refine Tr.exit (Tr.exitThen (Tr.exitThen (Tr.exitBlock (Tr.normThen ?_))))
   refine Tr.sr ?_
   refine Tr.asg rfl rfl ?_
   refine Tr.nilOwn 2 22 fl_LTRect ?_
   show Tr _ _ (uf _ 6 (.slice none (([] : List (List TRect))).length 0)) _ _
   refine Tr.nil (Tr.normThen ?_)
   refine Tr.sr ?_
   refine Tr.mv rfl rfl ?_
   refine Tr.mv rfl rfl ?_
   refine Tr.mv rfl rfl ?_
   obtain ⟨l137, hl137, H⟩ := bnd H
   refine Tr.va rfl (fun _ _ h1 h2 => run_pre el_40 (h1.ev rfl) hp0_0.form (h1.ev rfl) hl137) ?_
   obtain ⟨l138, hl138, H⟩ := bnd H
   refine Tr.appendS 2 (t := fl_LTRect) (l := ([] : List (List TRect))) (l2 := l137) (wn rfl) rfl rfl rfl rfl (apO (Sl.pre hp0_0 hl137)) un_40 sz_22 zl_22 (by decide) by_22 rfl hl138 fun Al138 cl138 hAl138 => ?_
   refine Tr.asg rfl rfl ?_
   refine Tr.nil (Tr.normThen ?_)
   refine Tr.sr ?_
   refine Tr.mv rfl rfl ?_
   refine Tr.mv rfl rfl ?_
   refine Tr.buildSlice 3 (e := 22) (vs := [(0, (.slice Ap1_0 (p1).length cp1_0))]) (cs := [(.slice Ap1_0 (p1).length cp1_0)]) (wn rfl) rfl (evs_cons rfl evs_nil) (by kernel_rfl) fun b139 => ?_
   obtain ⟨l140, hl140, H⟩ := bnd H
   refine Tr.append 2 (t := fl_LTRect) (l := l138) (l2 := [p1]) (wn rfl) rfl rfl rfl rfl (fun W hW => ⟨[[(.slice Ap1_0 (p1).length cp1_0)]], (.cons ⟨(Ap1_0, cp1_0), hp1_0, rfl⟩ .nil), rdb hW (vs := [(.slice Ap1_0 (p1).length cp1_0)]) (k := 3) rfl 0⟩) un_40 sz_22 zl_22 (by decide) by_22 rfl hl140 fun Al140 cl140 hAl140 => ?_
   refine Tr.asg rfl rfl ?_
   refine Tr.nil (Tr.normThen ?_)
   refine Tr.sr ?_
   refine Tr.mv rfl rfl ?_
   refine Tr.mv rfl rfl ?_
   refine Tr.mv rfl rfl ?_
   obtain ⟨l141, hl141, H⟩ := bnd H
   refine Tr.va rfl (fun _ _ h1 h2 => run_cutL el_40 (h1.ev rfl) hp0_0.form (h1.ev rfl) hl141) ?_
   obtain ⟨l142, hl142, H⟩ := bnd H
   refine Tr.appendS 2 (t := fl_LTRect) (l := l140) (l2 := l141) (wn rfl) rfl rfl rfl rfl (apO (Sl.cut hp0_0 hl141)) un_40 sz_22 zl_22 (by decide) by_22 rfl hl142 fun Al142 cl142 hAl142 => ?_
   refine Tr.asg rfl rfl ?_
   refine Tr.nil (Tr.normThen ?_)
   refine Tr.ret ?_
   obtain rfl := Option.some.inj H
   exact Tr.out (m := [(.slice Al142 (l142).length cl142)]) [] (res_tmp rfl res_nil) (fun W hW => ⟨w, (Al142, cl142), leB, rfl, hAl142, hW.pick (ks := [2]) (by decide) (pk_cons rfl pk_nil)⟩)

end Go.Proofs.Ytnlhigfglfahiaa
