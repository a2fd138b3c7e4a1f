/- The walks: each function computes its plain function. -/
import Derived.Test.YtokanbmnoghafaaGreatDoorXWa
namespace Go.Proofs.YtokanbmnoghafaaGreatDoor
open Go.RowKit
set_option maxRecDepth 100000
set_option maxHeartbeats 1000000
theorem zGy {w : Bs} (p0 : ByteArray) (r : (Int × Bool)) (H : zAO p0 = some r) (hE : HF w w.W E0) : Calls Tryz.prog 57 [(sv p0)].toArray w.W fun e W' => e = .returned (.tuple #[(iv r.1), (.bool r.2)]) ∧ HF w W' E0 := by
 unfold zAO at H
 have leB := Bs.Le.refl w
 refine Tr.enter (n := 37) Tryz.func57 rfl rfl rfl hE ?_
 refine Tr.sr (Tr.asg rfl rfl (Tr.asg rfl rfl (Tr.nil (Tr.zA (Tr.sr (Tr.mv rfl rfl ?_))))))
 obtain ⟨QU, zCy, H⟩ := bnd H
 refine Tr.Qr (r := (sv QU)) (wn rfl) rfl Tryz.call81 (zI rfl (zI rfl zb)) (fun W hW => zDD p0 (⟨#[45]⟩) QU zCy (HF.start _)) ?_
 refine Tr.asg rfl rfl (Tr.nil (Tr.zA (Tr.seq (Tr.sr (Tr.mv rfl rfl (Tr.va rfl (fun _ _ h1 h2 => zAJ zFR (h1.ev rfl)) ?_))))))
 refine Tr.va rfl (fun _ _ h1 h2 => Qm (h1.ev rfl) (h1.ev rfl)) ?_
 refine Tr.mv rfl rfl (Tr.KY 4 [(0, (sv p0)), (4, (sv QU)), (16, (.bool ((decide ((QU.size : Int) < 1)) || (decide (9 < (QU.size : Int))))))] [] ?_ ?_)
 ·cases zC2 : (decide ((QU.size : Int) < 1))
  ·refine Tr.val (wg rfl rfl rfl) rfl (fun _ _ h1 h2 => run_move (h1.ev rfl)) ?_
   refine Tr.val (wg rfl rfl rfl) rfl (fun _ _ h1 h2 => zAJ zFR (h1.ev rfl)) ?_
   refine Tr.val (wg rfl rfl rfl) rfl (fun _ _ h1 h2 => WB (h1.ev rfl) (h1.ev rfl)) ?_
   refine Tr.va rfl (fun _ _ h1 h2 => zh (h1.ev rfl) (h1.ev rfl)) ?_
   exact Tr.nil (Tr.Qc (.cons rfl (.cons rfl (.cons rfl .nil))) .nil)
  ·refine Tr.pass rfl rfl rfl rfl rfl (by decide) ?_
   refine Tr.pass rfl rfl rfl rfl rfl (by decide) ?_
   refine Tr.pass rfl rfl rfl rfl rfl (by decide) ?_
   refine Tr.va rfl (fun _ _ h1 h2 => zg (h1.ev rfl) (h1.ev rfl)) ?_
   exact Tr.nil (Tr.Qc (.cons rfl (.cons rfl (.cons rfl .nil))) .nil)
 ·show Tr _ _ (LF [(0, (sv p0)), (4, (sv QU)), (16, (.bool ((decide ((QU.size : Int) < 1)) || (decide (9 < (QU.size : Int))))))]) (LE []) _
  refine Tr.mv rfl rfl ?_
  obtain ⟨g102, zDt, H⟩ := bnd H
  refine Tr.KY 4 [(0, (sv p0)), (4, (sv QU)), (21, (.bool g102))] [] ?_ ?_
  ·cases zC2 : ((decide ((QU.size : Int) < 1)) || (decide (9 < (QU.size : Int))))
   ·rw [zC2] at zDt
    rw [if_neg (by decide)] at zDt
    have H := zDt
    refine Tr.val (wg rfl rfl rfl) rfl (fun _ _ h1 h2 => run_move (h1.ev rfl)) ?_
    obtain ⟨zn, zIh, H⟩ := bnd H
    refine Tr.Qr (r := (sv zn)) (wg rfl rfl rfl) rfl Tryz.call82 (zI rfl (zI rfl zb)) (fun W hW => zGE QU (⟨#[48, 49, 50, 51, 52, 53, 54, 55, 56, 57]⟩) zn zIh (HF.start _)) ?_
    refine Tr.val (wg rfl rfl rfl) rfl (fun _ _ h1 h2 => zCF (h1.ev rfl) (h1.ev rfl)) ?_
    refine Tr.va rfl (fun _ _ h1 h2 => zh (h1.ev rfl) (h1.ev rfl)) ?_
    obtain rfl := Option.some.inj H
    exact Tr.nil (Tr.Qc (.cons rfl (.cons rfl (.cons rfl .nil))) .nil)
   ·rw [zC2] at zDt
    rw [if_pos rfl] at zDt
    have H := zDt
    obtain rfl := Option.some.inj H
    refine Tr.pass rfl rfl rfl rfl rfl (by decide) ?_
    refine Tr.pass rfl rfl rfl rfl rfl (by decide) ?_
    refine Tr.pass rfl rfl rfl rfl rfl (by decide) ?_
    refine Tr.va rfl (fun _ _ h1 h2 => zg (h1.ev rfl) (h1.ev rfl)) ?_
    exact Tr.nil (Tr.Qc (.cons rfl (.cons rfl (.cons rfl .nil))) .nil)
  ·show Tr _ _ (LF [(0, (sv p0)), (4, (sv QU)), (21, (.bool g102))]) (LE []) _
   refine Tr.mv rfl rfl ?_
   obtain ⟨g105, zJs, H⟩ := bnd H
   refine Tr.KY 8 [(0, (sv p0)), (30, (.bool g105))] [] ?_ ?_
   ·cases zC2 : g102
    ·rw [zC2] at zJs
     rw [if_neg (by decide)] at zJs
     have H := zJs
     refine Tr.val (wg rfl rfl rfl) rfl (fun _ _ h1 h2 => run_move (h1.ev rfl)) ?_
     obtain ⟨c106, hc106, H⟩ := bnd H
     refine Tr.val (wg rfl rfl rfl) rfl (fun _ _ h1 h2 => zIS zFR (h1.ev rfl) (h1.ev rfl) hc106) ?_
     refine Tr.val (wg rfl rfl rfl) rfl (fun _ _ h1 h2 => Jy (h1.ev rfl) (h1.ev rfl)) ?_
     refine Tr.val (wg rfl rfl rfl) rfl (fun _ _ h1 h2 => run_move (h1.ev rfl)) ?_
     refine Tr.KY 3 [(0, (sv p0)), (22, (.bool false)), (29, (.bool ((c106 == 48) && (!sEq p0 (⟨#[48]⟩)))))] [] ?_ ?_
     ·cases zFv : (c106 == 48)
      ·refine Tr.pass rfl rfl rfl rfl rfl (by decide) ?_
       refine Tr.pass rfl rfl rfl rfl rfl (by decide) ?_
       refine Tr.val (wg rfl rfl rfl) rfl (fun _ _ h1 h2 => zh (h1.ev rfl) (h1.ev rfl)) ?_
       exact Tr.nil (Tr.Qc (.cons rfl (.cons rfl (.cons rfl .nil))) .nil)
      ·refine Tr.val (wg rfl rfl rfl) rfl (fun _ _ h1 h2 => run_move (h1.ev rfl)) ?_
       refine Tr.val (wg rfl rfl rfl) rfl (fun _ _ h1 h2 => zCF (h1.ev rfl) (h1.ev rfl)) ?_
       refine Tr.val (wg rfl rfl rfl) rfl (fun _ _ h1 h2 => zg (h1.ev rfl) (h1.ev rfl)) ?_
       exact Tr.nil (Tr.Qc (.cons rfl (.cons rfl (.cons rfl .nil))) .nil)
     ·show Tr _ _ (LF [(0, (sv p0)), (22, (.bool false)), (29, (.bool ((c106 == 48) && (!sEq p0 (⟨#[48]⟩)))))]) (LE []) _
      refine Tr.va rfl (fun _ _ h1 h2 => zh (h1.ev rfl) (h1.ev rfl)) ?_
      obtain rfl := Option.some.inj H
      exact Tr.nil (Tr.Qc (.cons rfl (.cons rfl .nil)) .nil)
    ·rw [zC2] at zJs
     rw [if_pos rfl] at zJs
     have H := zJs
     obtain rfl := Option.some.inj H
     refine Tr.pass rfl rfl rfl rfl rfl (by decide) ?_
     refine Tr.pass rfl rfl rfl rfl rfl (by decide) ?_
     refine Tr.pass rfl rfl rfl rfl rfl (by decide) ?_
     refine Tr.pass rfl rfl rfl rfl rfl (by decide) ?_
     refine Tr.Kj rfl rfl rfl rfl (by decide) ?_
     refine Tr.Kj rfl rfl rfl rfl (by decide) ?_
     refine Tr.pass rfl rfl rfl rfl rfl (by decide) ?_
     refine Tr.va rfl (fun _ _ h1 h2 => zg (h1.ev rfl) (h1.ev rfl)) ?_
     exact Tr.nil (Tr.Qc (.cons rfl (.cons rfl .nil)) .nil)
   ·show Tr _ _ (LF [(0, (sv p0)), (30, (.bool g105))]) (LE []) _
    refine Tr.nil (Tr.zA (Tr.cond rfl H (fun H => ?_) (fun H => ?_)))
    ·refine Tr.sr (Tr.asg rfl rfl (Tr.asg rfl rfl (Tr.nil (Tr.zA (Tr.ret (Tr.zO ?_))))))
     obtain rfl := Option.some.inj H
     exact Tr.out (m := [(iv 0), (.bool false)]) [] (zQ rfl (zQ rfl zT)) (fun W hW => ⟨rfl, hW.low leB⟩)
    ·refine Tr.skip (Tr.zA (Tr.sr (Tr.mv rfl rfl ?_)))
     obtain ⟨zJ6, hy107, H⟩ := bnd H
     refine Tr.Qr (r := (.tuple #[(iv zJ6), .nilIface])) (wn rfl) rfl Tryz.call83 (zI rfl zb) (fun W hW => zGF p0 zJ6 hy107 (HF.start _)) ?_
     refine Tr.mv rfl rfl (Tr.va rfl (fun _ _ h1 h2 => QW (h1.ev rfl) rfl) ?_)
     refine Tr.va rfl (fun _ _ h1 h2 => QW (h1.ev rfl) rfl) ?_
     refine Tr.asg rfl rfl (Tr.asg rfl rfl (Tr.nil (Tr.zA (Tr.sr (Tr.mv rfl rfl (Tr.asg rfl rfl (Tr.asg rfl rfl (Tr.nil (Tr.zA (Tr.ret ?_))))))))))
     obtain rfl := Option.some.inj H
     exact Tr.out (m := [(iv zJ6), (.bool true)]) [] (zQ rfl (zQ rfl zT)) (fun W hW => ⟨rfl, hW.low leB⟩)

theorem zAz {w : Bs} (p0 : (List ByteArray)) (zF : Option Addr) (zG : Nat) (zl : Sl w.R w.W zAq zF zG p0) (r : ((List Int) × Bool)) (H : VA p0 = some r) (hE : HF w w.W (LEn [emp])) : Calls Tryz.prog 36 [(.slice zF p0.length zG)].toArray w.W fun e W' => ∃ u : (Option Addr × Nat), e = .returned (.tuple #[(.slice u.1 r.1.length u.2), (.bool r.2)]) ∧ (SlF u.1 r.1.length u.2) ∧ HF w W' (LEn [ow u.1 u.2 3 Kh r.1]) := by
 unfold VA at H
 have leB := Bs.Le.refl w
 refine Tr.enter (n := 28) Tryz.func36 rfl rfl rfl hE ?_
 refine Tr.sr (Tr.asg rfl rfl (Tr.WC 1 3 Kh ?_))
 show Tr _ _ (uf _ 2 (.slice none (([] : List Int)).length 0)) _ _
 refine Tr.asg rfl rfl (Tr.nil (Tr.zA (Tr.sr (Tr.asg rfl rfl (Tr.WC 2 3 Kh ?_)))))
 show Tr _ _ (uf _ 4 (.slice none (([] : List Int)).length 0)) _ _
 refine Tr.nil (Tr.zA (Tr.seq (Tr.sr (Tr.mv rfl rfl (Tr.va rfl (fun _ _ h1 h2 => QL un_66 (h1.ev rfl)) ?_)))))
 refine Tr.mv rfl rfl (Tr.nil (Tr.zA (Tr.block (Tr.loop (σ := (List ByteArray) × Nat × (List Int) × (Option Addr) × Nat) (fun m w s => m = s.1.length + 1 ∧ s.1 = List.drop s.2.1 p0 ∧ s.2.1 ≤ p0.length ∧ JZ s.1 s.2.1 s.2.2.1 = some r ∧ SlF s.2.2.2.1 s.2.2.1.length s.2.2.2.2) (fun s => [(4, (.slice s.2.2.2.1 s.2.2.1.length s.2.2.2.2)), (9, (.slice zF p0.length zG)), (10, (iv (p0.length : Int))), (11, (iv (s.2.1 : Int)))]) (fun s => [(2, ow s.2.2.2.1 s.2.2.2.2 3 Kh s.2.2.1)]) (p0.length + 1) (p0, 0, ([] : List Int), none, 0) ⟨rfl, rfl, Nat.zero_le _, H, VC⟩ (.cons rfl (.cons rfl (.cons rfl (.cons rfl .nil)))) (.cons rfl .nil) (fun _ _ h => absurd h.1 (by simp)) ?_))))
 intro w Qy m s hs
 obtain ⟨ze, iL1, Va, Al114, cl114⟩ := s
 obtain ⟨WF, QM, hiL1, H, zJf⟩ := hs
 replace QM : ze = List.drop iL1 p0 := QM
 replace H : JZ ze iL1 Va = some r := H
 replace WF : m + 1 = ze.length + 1 := WF
 replace zl := zl.leR Qy
 replace leB := leB.trans Qy
 replace zJf : SlF Al114 Va.length cl114 := zJf
 obtain rfl : m = ze.length := by omega
 clear WF
 show Tr _ _ (LF [(4, (.slice Al114 Va.length cl114)), (9, (.slice zF p0.length zG)), (10, (iv (p0.length : Int))), (11, (iv (iL1 : Int)))]) (LE [(2, ow Al114 cl114 3 Kh Va)]) _
 cases ze with
 | nil =>
  rw [JZ.eq_1] at H
  refine Tr.sr (Tr.va rfl (fun _ _ h1 h2 => Qm (h1.ev rfl) (h1.ev rfl)) ?_)
  refine Tr.nil (Tr.zA (Tr.seq (Tr.zCJ rfl (VR QM) ?_)))
  refine Tr.exit (Tr.QK (Tr.QK (Tr.JV (Tr.zA (Tr.sr (Tr.mv rfl rfl (Tr.asg rfl rfl (Tr.asg rfl rfl (Tr.nil (Tr.zA (Tr.ret ?_)))))))))))
  obtain rfl := Option.some.inj H
  exact Tr.out (m := [(.slice Al114 Va.length cl114), (.bool true)]) [] (zQ rfl (zQ rfl zT)) (fun W hW => ⟨(Al114, cl114), rfl, zJf, HF.lowE leB (hW.pick (ks := [2]) (by decide) (zL rfl QI)) ⟨ow_any _ _ _ _ tr_i64, trivial⟩⟩)
 | cons xL1 ze =>
  rw [JZ.eq_2] at H
  refine Tr.sr (Tr.va rfl (fun _ _ h1 h2 => Qm (h1.ev rfl) (h1.ev rfl)) ?_)
  refine Tr.nil (Tr.zA (Tr.seq (Tr.zBn rfl (Vj QM) ?_)))
  refine Tr.skip (Tr.zA (Tr.seq (Tr.block (Tr.sr (Tr.va rfl (fun _ _ h1 h2 => zR zCc (h1.ev rfl) zl.form (h1.ev rfl) (Int.natCast_nonneg _) (QX QM)) ?_)))))
  refine Tr.va rfl (fun _ _ h1 h2 => zH zB2 (h1.ev rfl) (rdF zBj zl (Vk QM) h2) rfl) ?_
  refine Tr.asg rfl rfl (Tr.nil (Tr.zA (Tr.sr (Tr.mv rfl rfl ?_))))
  obtain ⟨y115, hy115, H⟩ := bnd H
  refine Tr.Qr (r := (.tuple #[(iv y115.1), (.bool y115.2)])) (wn rfl) rfl Tryz.call57 (zI rfl zb) (fun W hW => zGy xL1 y115 hy115 (HF.start _)) ?_
  refine Tr.mv rfl rfl (Tr.va rfl (fun _ _ h1 h2 => QW (h1.ev rfl) rfl) ?_)
  refine Tr.va rfl (fun _ _ h1 h2 => QW (h1.ev rfl) rfl) ?_
  refine Tr.asg rfl rfl (Tr.asg rfl rfl (Tr.nil (Tr.zA (Tr.seq (Tr.sr (Tr.mv rfl rfl (Tr.va rfl (fun _ _ h1 h2 => JA (h1.ev rfl)) ?_)))))))
  refine Tr.nil (Tr.zA (Tr.cond rfl H (fun H => ?_) (fun H => ?_)))
  ·refine Tr.sr (Tr.asg rfl rfl (Tr.WC 7 3 Kh ?_))
   show Tr _ _ (uf _ 2 (.slice none (([] : List Int)).length 0)) _ _
   refine Tr.asg rfl rfl (Tr.nil (Tr.zA (Tr.ret (Tr.zO (Tr.zm (Tr.zO (Tr.zO (Tr.zm (Tr.zO ?_)))))))))
   obtain rfl := Option.some.inj H
   exact Tr.out (m := [(.slice none (([] : List Int)).length 0), (.bool false)]) [] (zQ rfl (zQ rfl zT)) (fun W hW => ⟨(none, 0), rfl, VC, HF.lowE leB (hW.pick (ks := [7]) (by decide) (zL rfl QI)) ⟨ow_any _ _ _ _ tr_i64, trivial⟩⟩)
  ·refine Tr.skip (Tr.zA (Tr.region (Tr.mv rfl rfl (Tr.mv rfl rfl (Tr.buildSlice 8 (e := 3) (vs := [(0, (iv y115.1))]) (cs := [(iv y115.1)]) (wn rfl) rfl (QE rfl Qq) (by kernel_rfl) fun b116 => ?_)))))
   obtain ⟨l117, hl117, H⟩ := bnd H
   refine Tr.append 2 (t := Kh) (l := Va) (l2 := [y115.1]) (wn rfl) rfl rfl rfl rfl (fun W hW => ⟨[[(iv y115.1)]], (.cons ⟨(), trivial, rfl⟩ .nil), rdb hW (vs := [(iv y115.1)]) (k := 8) rfl 0⟩) zFS sz_3 zl_3 (by decide) by_3 rfl hl117 fun Al117 cl117 hAl117 => ?_
   refine Tr.asg rfl rfl (Tr.nil (Tr.zx (Tr.zA (Tr.region (Tr.va rfl (fun _ _ h1 h2 => Qo (h1.ev rfl) (h1.ev rfl)) ?_)))))
   exact Tr.mv rfl rfl (Tr.nil (Tr.QF Qy (ze, (iL1 + 1), l117, Al117, cl117) ⟨rfl, KE QM, QX QM, H, hAl117⟩ (.cons rfl (.cons rfl (.cons rfl (.cons (congrArg (fun z => some (Value.int .i64 z)) (KD QM zl.form)) .nil)))) (.cons rfl .nil)))

theorem zCT {w : Bs} (p0 : ByteArray) (p1 : Int → Option Bool) (fid1 : Nat) (cap1 : List Value) (hg1 : ∀ args W, (callFunc fid1 args).run Tryz.prog W = .ok (.enter fid1 args) W) (hf1 : ∀ (w' : Bs), w.Ext w' → ∀ (z0 : Int), ∀ y, p1 z0 = some y → Calls Tryz.prog fid1 (([(.int .i32 z0)] : List Value) ++ cap1).toArray w'.W fun e W'' => e = .returned (.bool y) ∧ HF w' W'' E0) (r : Bool) (H : zBL p0 p1 = some r) (hE : HF w w.W E0) : Calls Tryz.prog 55 [(sv p0), (.func (.func fid1) #[] cap1.toArray)].toArray w.W fun e W' => e = .returned (.bool r) ∧ HF w W' E0 :=
 zIv (ρ := Tryz.zCI) Tryz.zIt hg1 hf1 H hE

theorem zGH {w : Bs} (p0 : Int) (r : Bool) (H : Wu p0 = some r) (hE : HF w w.W E0) : Calls Tryz.prog 56 [(.int .i32 p0)].toArray w.W fun e W' => e = .returned (.bool r) ∧ HF w W' E0 := by
 unfold Wu at H
 have leB := Bs.Le.refl w
 refine Tr.enter (n := 9) Tryz.func56 rfl rfl rfl hE ?_
 refine Tr.sr (Tr.asg rfl rfl (Tr.nil (Tr.zA (Tr.sr (Tr.mv rfl rfl (Tr.va rfl (fun _ _ h1 h2 => Qm (h1.ev rfl) (h1.ev rfl)) ?_))))))
 refine Tr.mv rfl rfl (Tr.KY 3 [(8, (.bool ((decide (p0 < 33)) || (decide (126 < p0)))))] [] ?_ ?_)
 ·cases hg99 : (decide (p0 < 33))
  ·refine Tr.val (wg rfl rfl rfl) rfl (fun _ _ h1 h2 => run_move (h1.ev rfl)) ?_
   refine Tr.val (wg rfl rfl rfl) rfl (fun _ _ h1 h2 => WB (h1.ev rfl) (h1.ev rfl)) ?_
   refine Tr.va rfl (fun _ _ h1 h2 => zh (h1.ev rfl) (h1.ev rfl)) ?_
   exact Tr.nil (Tr.Qc (.cons rfl .nil) .nil)
  ·refine Tr.pass rfl rfl rfl rfl rfl (by decide) ?_
   refine Tr.pass rfl rfl rfl rfl rfl (by decide) ?_
   refine Tr.va rfl (fun _ _ h1 h2 => zg (h1.ev rfl) (h1.ev rfl)) ?_
   exact Tr.nil (Tr.Qc (.cons rfl .nil) .nil)
 ·show Tr _ _ (LF [(8, (.bool ((decide (p0 < 33)) || (decide (126 < p0)))))]) (LE []) _
  refine Tr.asg rfl rfl (Tr.nil (Tr.zA (Tr.ret ?_)))
  obtain rfl := Option.some.inj H
  exact Tr.out (m := [(.bool ((decide (p0 < 33)) || (decide (126 < p0))))]) [] (zQ rfl zT) (fun W hW => ⟨rfl, hW.low leB⟩)

theorem zDx {w : Bs} (p0 : ByteArray) (r : Bool) (H : zAA p0 = some r) (hE : HF w w.W E0) : Calls Tryz.prog 35 [(sv p0)].toArray w.W fun e W' => e = .returned (.bool r) ∧ HF w W' E0 := by
 unfold zAA at H
 have leB := Bs.Le.refl w
 refine Tr.enter (n := 10) Tryz.func35 rfl rfl rfl hE ?_
 refine Tr.sr (Tr.asg rfl rfl (Tr.nil (Tr.zA (Tr.sr (Tr.mv rfl rfl (Tr.va rfl (fun _ _ h1 h2 => zCF (h1.ev rfl) (h1.ev rfl)) ?_))))))
 refine Tr.mv rfl rfl ?_
 obtain ⟨zIo, zC4, H⟩ := bnd H
 refine Tr.KY 4 [(9, (.bool zIo))] [] ?_ ?_
 ·cases zDt : (!sEq p0 (⟨#[]⟩))
  ·rw [zDt] at zC4
   rw [if_neg (by decide)] at zC4
   have H := zC4
   obtain rfl := Option.some.inj H
   refine Tr.pass rfl rfl rfl rfl rfl (by decide) ?_
   refine Tr.pass rfl rfl rfl rfl rfl (by decide) ?_
   refine Tr.pass rfl rfl rfl rfl rfl (by decide) ?_
   refine Tr.va rfl (fun _ _ h1 h2 => zh (h1.ev rfl) (h1.ev rfl)) ?_
   exact Tr.nil (Tr.Qc (.cons rfl .nil) .nil)
  ·rw [zDt] at zC4
   rw [if_pos rfl] at zC4
   have H := zC4
   refine Tr.val (wg rfl rfl rfl) rfl (fun _ _ h1 h2 => run_move (h1.ev rfl)) ?_
   obtain ⟨y102, hy102, H⟩ := bnd H
   refine Tr.Qr (r := (.bool y102)) (wg rfl rfl rfl) rfl Tryz.call55 (zI rfl (zI rfl zb)) (fun W hW => zCT p0 (fun z0 => Wu z0) 56 [] Tryz.call56 (fun w' he z0 y hy => zGH z0 y hy (HF.start _)) y102 hy102 (HF.start _)) ?_
   refine Tr.val (wg rfl rfl rfl) rfl (fun _ _ h1 h2 => JA (h1.ev rfl)) ?_
   refine Tr.va rfl (fun _ _ h1 h2 => zg (h1.ev rfl) (h1.ev rfl)) ?_
   obtain rfl := Option.some.inj H
   exact Tr.nil (Tr.Qc (.cons rfl .nil) .nil)
 ·show Tr _ _ (LF [(9, (.bool zIo))]) (LE []) _
  refine Tr.asg rfl rfl (Tr.nil (Tr.zA (Tr.ret ?_)))
  obtain rfl := Option.some.inj H
  exact Tr.out (m := [(.bool zIo)]) [] (zQ rfl zT) (fun W hW => ⟨rfl, hW.low leB⟩)

theorem zDk (N : Nat) {w : Bs} (p0 : QD) (zF : Option Addr) (zG : Nat) (zN : Option Addr) (zM : Nat) (VN : Sl w.R w.W zC zN zM p0.p.Steps) (zX : Option Addr) (zZ : Nat) (Dhp0_2 : List (PE zC)) (Qu : SK Dhp0_2 p0.open_ ∧ SlF zX p0.open_.length zZ) (bp0 : Nat) (p1 : (List ByteArray)) (zV : Option Addr) (zW : Nat) (Ql : Sl w.R w.W zAq zV zW p1) (r : (Bool × Int × Bool × (List zS) × (List zB))) (H : VK N p0 p1 = some r) (hE : HF w w.W (LEn [bx bp0 #[(iv p0.p.Unit), (.slice zF p0.p.Tools.length zG), (.slice zN p0.p.Steps.length zM), (.bool p0.unit), (.slice zX p0.open_.length zZ), (.bool p0.step)] 59, ow zF zG 47 zK p0.p.Tools, sk zX zZ 85 80 80 zJ Dhp0_2])) : Calls Tryz.prog 33 [(.pointer (some ⟨bp0, 0, none⟩)), (.slice zV p1.length zW)].toArray w.W fun e W' => ∃ (w' : Bs) (u : (Option Addr × Nat) × (Option Addr × Nat × List (PE zC))), w.Le w' ∧ e = .returned (.bool r.1) ∧ (SlF u.1.1 r.2.2.2.1.length u.1.2 ∧ (SK u.2.2.2 r.2.2.2.2 ∧ SlF u.2.1 r.2.2.2.2.length u.2.2.1)) ∧ HF w' W' (LEn [bx bp0 #[(iv r.2.1), (.slice u.1.1 r.2.2.2.1.length u.1.2), (.slice zN p0.p.Steps.length zM), (.bool r.2.2.1), (.slice u.2.1 r.2.2.2.2.length u.2.2.1), (.bool p0.step)] 59, ow u.1.1 u.1.2 47 zK r.2.2.2.1, sk u.2.1 u.2.2.1 85 80 80 zJ u.2.2.2]) := by
 unfold VK at H
 have Wi := (hE.sl (k := 1) rfl).form
 have leB := Bs.Le.refl w
 refine Tr.enter (n := 133) Tryz.func33 rfl rfl rfl hE ?_
 refine Tr.sr (Tr.asg rfl rfl (Tr.nil (Tr.zA (Tr.seq (Tr.sr (Tr.mv rfl rfl ?_))))))
 obtain ⟨x100, hx100, H⟩ := bnd H
 obtain ⟨hx1000, hx1001, hx1002⟩ := QP hx100
 refine Tr.va rfl (fun _ _ h1 h2 => zR zCc (h1.ev rfl) Ql.form (h1.ev rfl) hx1000 hx1001) ?_
 refine Tr.va rfl (fun _ _ h1 h2 => zH zB2 (h1.ev rfl) (rdF zBj Ql hx1002 h2) rfl) ?_
 refine Tr.va rfl (fun _ _ h1 h2 => Kv (h1.ev rfl) (h1.ev rfl)) ?_
 refine Tr.nil (Tr.zA (Tr.cond rfl H (fun H => ?_) (fun H => ?_)))
 ·refine Tr.sr (Tr.mv rfl rfl ?_)
  obtain ⟨l101, hl101, H⟩ := bnd H
  refine Tr.va rfl (fun _ _ h1 h2 => zIT zCc (h1.ev rfl) Ql.form (h1.ev rfl) hl101) ?_
  obtain ⟨y102, hy102, H⟩ := bnd H
  refine Tr.zAE [3] [emp] (U := (Option Addr × Nat)) (fun u => (.tuple #[(.slice u.1 y102.1.length u.2), (.bool y102.2)])) (fun u => SlF u.1 y102.1.length u.2) (fun u => [ow u.1 u.2 3 Kh y102.1]) rfl (zL rfl QI) (fun _ => rfl) (wn rfl) rfl Tryz.call36 (zI rfl zb) (fun W hW hp hE => zAz l101 (zF2 zV (1 : Int).toNat 1 zW) (zW - (1 : Int).toNat) (Sl.cut (Ql.ext (hW.zFz hp)) hl101) y102 hy102 hE) ?_
  intro u hu
  obtain ⟨zA2, zAs⟩ := u
  have gy102_0 := hu
  have hgy102_0 : SlF zA2 y102.1.length zAs := gy102_0 --@phi
  show Tr _ _ (uf _ 18 (.tuple #[(.slice zA2 y102.1.length zAs), (.bool y102.2)])) (up _ 3 (ow zA2 zAs 3 Kh y102.1)) _
  refine Tr.mv rfl rfl (Tr.va rfl (fun _ _ h1 h2 => QW (h1.ev rfl) rfl) ?_)
  refine Tr.va rfl (fun _ _ h1 h2 => QW (h1.ev rfl) rfl) ?_
  refine Tr.asg rfl rfl (Tr.asg rfl rfl (Tr.nil (Tr.zA (Tr.seq (Tr.sr (Tr.mv rfl rfl (Tr.va rfl (fun _ _ h1 h2 => zz (h1.ev rfl)) ?_)))))))
  refine Tr.va rfl (fun _ _ h1 h2 => zD zFy (h1.ev rfl)) ?_
  refine Tr.va rfl (fun _ _ h1 h2 => zH zF9 (h1.ev rfl) (rdb h2 (vs := [(iv p0.p.Unit), (.slice zF p0.p.Tools.length zG), (.slice zN p0.p.Steps.length zM), (.bool p0.unit), (.slice zX p0.open_.length zZ), (.bool p0.step)]) (k := 0) rfl 3) rfl) ?_
  refine Tr.mv rfl rfl (Tr.KY 3 [(0, (.pointer (some ⟨bp0, 0, none⟩))), (5, (.slice zA2 y102.1.length zAs)), (28, (.bool (p0.unit || (!y102.2))))] [(0, bx bp0 #[(iv p0.p.Unit), (.slice zF p0.p.Tools.length zG), (.slice zN p0.p.Steps.length zM), (.bool p0.unit), (.slice zX p0.open_.length zZ), (.bool p0.step)] 59), (1, ow zF zG 47 zK p0.p.Tools), (2, sk zX zZ 85 80 80 zJ Dhp0_2), (3, ow zA2 zAs 3 Kh y102.1)] ?_ ?_)
  ·cases zEH : p0.unit
   ·refine Tr.val (wg rfl rfl rfl) rfl (fun _ _ h1 h2 => run_move (h1.ev rfl)) ?_
    refine Tr.val (wg rfl rfl rfl) rfl (fun _ _ h1 h2 => JA (h1.ev rfl)) ?_
    refine Tr.va rfl (fun _ _ h1 h2 => zh (h1.ev rfl) (h1.ev rfl)) ?_
    exact Tr.nil (Tr.Qc (.cons rfl (.cons rfl (.cons rfl .nil))) (.cons rfl (.cons rfl (.cons rfl (.cons rfl .nil)))))
   ·refine Tr.pass rfl rfl rfl rfl rfl (by decide) ?_
    refine Tr.pass rfl rfl rfl rfl rfl (by decide) ?_
    refine Tr.va rfl (fun _ _ h1 h2 => zg (h1.ev rfl) (h1.ev rfl)) ?_
    exact Tr.nil (Tr.Qc (.cons rfl (.cons rfl (.cons rfl .nil))) (.cons rfl (.cons rfl (.cons rfl (.cons rfl .nil)))))
  ·show Tr _ _ (LF [(0, (.pointer (some ⟨bp0, 0, none⟩))), (5, (.slice zA2 y102.1.length zAs)), (28, (.bool (p0.unit || (!y102.2))))]) (LE [(0, bx bp0 #[(iv p0.p.Unit), (.slice zF p0.p.Tools.length zG), (.slice zN p0.p.Steps.length zM), (.bool p0.unit), (.slice zX p0.open_.length zZ), (.bool p0.step)] 59), (1, ow zF zG 47 zK p0.p.Tools), (2, sk zX zZ 85 80 80 zJ Dhp0_2), (3, ow zA2 zAs 3 Kh y102.1)]) _
   refine Tr.mv rfl rfl (Tr.KY 4 [(0, (.pointer (some ⟨bp0, 0, none⟩))), (5, (.slice zA2 y102.1.length zAs)), (33, (.bool ((p0.unit || (!y102.2)) || ((y102.1.length : Int) != 1))))] [(0, bx bp0 #[(iv p0.p.Unit), (.slice zF p0.p.Tools.length zG), (.slice zN p0.p.Steps.length zM), (.bool p0.unit), (.slice zX p0.open_.length zZ), (.bool p0.step)] 59), (1, ow zF zG 47 zK p0.p.Tools), (2, sk zX zZ 85 80 80 zJ Dhp0_2), (3, ow zA2 zAs 3 Kh y102.1)] ?_ ?_)
   ·cases zEH : (p0.unit || (!y102.2))
    ·refine Tr.val (wg rfl rfl rfl) rfl (fun _ _ h1 h2 => run_move (h1.ev rfl)) ?_
     refine Tr.val (wg rfl rfl rfl) rfl (fun _ _ h1 h2 => QL zFS (h1.ev rfl)) ?_
     refine Tr.val (wg rfl rfl rfl) rfl (fun _ _ h1 h2 => Jw (h1.ev rfl) (h1.ev rfl)) ?_
     refine Tr.va rfl (fun _ _ h1 h2 => zh (h1.ev rfl) (h1.ev rfl)) ?_
     exact Tr.nil (Tr.Qc (.cons rfl (.cons rfl (.cons rfl .nil))) (.cons rfl (.cons rfl (.cons rfl (.cons rfl .nil)))))
    ·refine Tr.pass rfl rfl rfl rfl rfl (by decide) ?_
     refine Tr.pass rfl rfl rfl rfl rfl (by decide) ?_
     refine Tr.pass rfl rfl rfl rfl rfl (by decide) ?_
     refine Tr.va rfl (fun _ _ h1 h2 => zg (h1.ev rfl) (h1.ev rfl)) ?_
     exact Tr.nil (Tr.Qc (.cons rfl (.cons rfl (.cons rfl .nil))) (.cons rfl (.cons rfl (.cons rfl (.cons rfl .nil)))))
   ·show Tr _ _ (LF [(0, (.pointer (some ⟨bp0, 0, none⟩))), (5, (.slice zA2 y102.1.length zAs)), (33, (.bool ((p0.unit || (!y102.2)) || ((y102.1.length : Int) != 1))))]) (LE [(0, bx bp0 #[(iv p0.p.Unit), (.slice zF p0.p.Tools.length zG), (.slice zN p0.p.Steps.length zM), (.bool p0.unit), (.slice zX p0.open_.length zZ), (.bool p0.step)] 59), (1, ow zF zG 47 zK p0.p.Tools), (2, sk zX zZ 85 80 80 zJ Dhp0_2), (3, ow zA2 zAs 3 Kh y102.1)]) _
    refine Tr.nil (Tr.zA (Tr.cond rfl H (fun H => ?_) (fun H => ?_)))
    ·refine Tr.sr (Tr.asg rfl rfl (Tr.nil (Tr.zA (Tr.ret (Tr.zO (Tr.zO ?_))))))
     obtain rfl := Option.some.inj H
     exact Tr.out (m := [(.bool false)]) [] (zQ rfl zT) (fun W hW => ⟨w, ((zF, zG), (zX, zZ, Dhp0_2)), leB, rfl, ⟨Wi, ⟨Qu.1, Qu.2⟩⟩, hW.pick (ks := [0, 1, 2]) (by decide) (zL rfl (zL rfl (zL rfl QI)))⟩)
    ·refine Tr.skip (Tr.zA (Tr.sr (Tr.mv rfl rfl (Tr.mv rfl rfl (Tr.mv rfl rfl ?_)))))
     obtain ⟨x104, hx104, H⟩ := bnd H
     obtain ⟨hx1040, hx1041, hx1042⟩ := QP hx104
     refine Tr.va rfl (fun _ _ h1 h2 => zR zC7 (h1.ev rfl) hgy102_0 (h1.ev rfl) hx1040 hx1041) ?_
     refine Tr.va rfl (fun _ _ h1 h2 => zH Ji (h1.ev rfl) (rdo zBJ (k := 3) h2 rfl hx1042) rfl) ?_
     refine Tr.va rfl (fun _ _ h1 h2 => zz (h1.ev rfl)) ?_
     refine Tr.va rfl (fun _ _ h1 h2 => zD zDY (h1.ev rfl)) ?_
     refine Tr.va rfl (fun _ _ h1 h2 => zD zBy (h1.ev rfl)) ?_
     refine Tr.store 0 (cs := [(iv x104)]) [(iv x104), (.slice zF p0.p.Tools.length zG), (.slice zN p0.p.Steps.length zM), (.bool p0.unit), (.slice zX p0.open_.length zZ), (.bool p0.step)] (wn rfl) rfl rfl rfl rfl sz_3 rfl rfl rfl ?_
     refine Tr.va rfl (fun _ _ h1 h2 => zz (h1.ev rfl)) ?_
     refine Tr.va rfl (fun _ _ h1 h2 => zD zFy (h1.ev rfl)) ?_
     refine Tr.store 0 (cs := [(.bool true)]) [(iv x104), (.slice zF p0.p.Tools.length zG), (.slice zN p0.p.Steps.length zM), (.bool true), (.slice zX p0.open_.length zZ), (.bool p0.step)] (wn rfl) rfl rfl rfl rfl sz_4 rfl rfl rfl ?_
     refine Tr.nil (Tr.zA (Tr.sr (Tr.asg rfl rfl (Tr.nil (Tr.zA (Tr.ret (Tr.zO ?_)))))))
     obtain rfl := Option.some.inj H
     exact Tr.out (m := [(.bool true)]) [] (zQ rfl zT) (fun W hW => ⟨w, ((zF, zG), (zX, zZ, Dhp0_2)), leB, rfl, ⟨Wi, ⟨Qu.1, Qu.2⟩⟩, hW.pick (ks := [0, 1, 2]) (by decide) (zL rfl (zL rfl (zL rfl QI)))⟩)
 ·refine Tr.skip (Tr.zA (Tr.seq (Tr.sr (Tr.mv rfl rfl (Tr.va rfl (fun _ _ h1 h2 => zz (h1.ev rfl)) ?_)))))
  refine Tr.va rfl (fun _ _ h1 h2 => zD zFy (h1.ev rfl)) ?_
  refine Tr.va rfl (fun _ _ h1 h2 => zH zF9 (h1.ev rfl) (rdb h2 (vs := [(iv p0.p.Unit), (.slice zF p0.p.Tools.length zG), (.slice zN p0.p.Steps.length zM), (.bool p0.unit), (.slice zX p0.open_.length zZ), (.bool p0.step)]) (k := 0) rfl 3) rfl) ?_
  refine Tr.va rfl (fun _ _ h1 h2 => JA (h1.ev rfl)) ?_
  refine Tr.mv rfl rfl (Tr.KY 5 [(0, (.pointer (some ⟨bp0, 0, none⟩))), (1, (.slice zV p1.length zW)), (54, (.bool ((!p0.unit) || p0.step)))] [(0, bx bp0 #[(iv p0.p.Unit), (.slice zF p0.p.Tools.length zG), (.slice zN p0.p.Steps.length zM), (.bool p0.unit), (.slice zX p0.open_.length zZ), (.bool p0.step)] 59), (1, ow zF zG 47 zK p0.p.Tools), (2, sk zX zZ 85 80 80 zJ Dhp0_2)] ?_ ?_)
  ·cases zJh : (!p0.unit)
   ·refine Tr.val (wg rfl rfl rfl) rfl (fun _ _ h1 h2 => run_move (h1.ev rfl)) ?_
    refine Tr.val (wg rfl rfl rfl) rfl (fun _ _ h1 h2 => zz (h1.ev rfl)) ?_
    refine Tr.val (wg rfl rfl rfl) rfl (fun _ _ h1 h2 => zD fo_59_3 (h1.ev rfl)) ?_
    refine Tr.val (wg rfl rfl rfl) rfl (fun _ _ h1 h2 => zH zF9 (h1.ev rfl) (rdb h2 (vs := [(iv p0.p.Unit), (.slice zF p0.p.Tools.length zG), (.slice zN p0.p.Steps.length zM), (.bool p0.unit), (.slice zX p0.open_.length zZ), (.bool p0.step)]) (k := 0) rfl 5) rfl) ?_
    refine Tr.va rfl (fun _ _ h1 h2 => zh (h1.ev rfl) (h1.ev rfl)) ?_
    exact Tr.nil (Tr.Qc (.cons rfl (.cons rfl (.cons rfl .nil))) (.cons rfl (.cons rfl (.cons rfl .nil))))
   ·refine Tr.pass rfl rfl rfl rfl rfl (by decide) ?_
    refine Tr.pass rfl rfl rfl rfl rfl (by decide) ?_
    refine Tr.pass rfl rfl rfl rfl rfl (by decide) ?_
    refine Tr.pass rfl rfl rfl rfl rfl (by decide) ?_
    refine Tr.va rfl (fun _ _ h1 h2 => zg (h1.ev rfl) (h1.ev rfl)) ?_
    exact Tr.nil (Tr.Qc (.cons rfl (.cons rfl (.cons rfl .nil))) (.cons rfl (.cons rfl (.cons rfl .nil))))
  ·show Tr _ _ (LF [(0, (.pointer (some ⟨bp0, 0, none⟩))), (1, (.slice zV p1.length zW)), (54, (.bool ((!p0.unit) || p0.step)))]) (LE [(0, bx bp0 #[(iv p0.p.Unit), (.slice zF p0.p.Tools.length zG), (.slice zN p0.p.Steps.length zM), (.bool p0.unit), (.slice zX p0.open_.length zZ), (.bool p0.step)] 59), (1, ow zF zG 47 zK p0.p.Tools), (2, sk zX zZ 85 80 80 zJ Dhp0_2)]) _
   refine Tr.mv rfl rfl (Tr.KY 4 [(0, (.pointer (some ⟨bp0, 0, none⟩))), (1, (.slice zV p1.length zW)), (59, (.bool (((!p0.unit) || p0.step) || (decide ((p1.length : Int) < 2)))))] [(0, bx bp0 #[(iv p0.p.Unit), (.slice zF p0.p.Tools.length zG), (.slice zN p0.p.Steps.length zM), (.bool p0.unit), (.slice zX p0.open_.length zZ), (.bool p0.step)] 59), (1, ow zF zG 47 zK p0.p.Tools), (2, sk zX zZ 85 80 80 zJ Dhp0_2)] ?_ ?_)
   ·cases zJh : ((!p0.unit) || p0.step)
    ·refine Tr.val (wg rfl rfl rfl) rfl (fun _ _ h1 h2 => run_move (h1.ev rfl)) ?_
     refine Tr.val (wg rfl rfl rfl) rfl (fun _ _ h1 h2 => QL un_66 (h1.ev rfl)) ?_
     refine Tr.val (wg rfl rfl rfl) rfl (fun _ _ h1 h2 => Qm (h1.ev rfl) (h1.ev rfl)) ?_
     refine Tr.va rfl (fun _ _ h1 h2 => zh (h1.ev rfl) (h1.ev rfl)) ?_
     exact Tr.nil (Tr.Qc (.cons rfl (.cons rfl (.cons rfl .nil))) (.cons rfl (.cons rfl (.cons rfl .nil))))
    ·refine Tr.pass rfl rfl rfl rfl rfl (by decide) ?_
     refine Tr.pass rfl rfl rfl rfl rfl (by decide) ?_
     refine Tr.pass rfl rfl rfl rfl rfl (by decide) ?_
     refine Tr.va rfl (fun _ _ h1 h2 => zg (h1.ev rfl) (h1.ev rfl)) ?_
     exact Tr.nil (Tr.Qc (.cons rfl (.cons rfl (.cons rfl .nil))) (.cons rfl (.cons rfl (.cons rfl .nil))))
   ·show Tr _ _ (LF [(0, (.pointer (some ⟨bp0, 0, none⟩))), (1, (.slice zV p1.length zW)), (59, (.bool (((!p0.unit) || p0.step) || (decide ((p1.length : Int) < 2)))))]) (LE [(0, bx bp0 #[(iv p0.p.Unit), (.slice zF p0.p.Tools.length zG), (.slice zN p0.p.Steps.length zM), (.bool p0.unit), (.slice zX p0.open_.length zZ), (.bool p0.step)] 59), (1, ow zF zG 47 zK p0.p.Tools), (2, sk zX zZ 85 80 80 zJ Dhp0_2)]) _
    refine Tr.mv rfl rfl ?_
    obtain ⟨g107, zC2, H⟩ := bnd H
    refine Tr.KY 6 [(0, (.pointer (some ⟨bp0, 0, none⟩))), (1, (.slice zV p1.length zW)), (66, (.bool g107))] [(0, bx bp0 #[(iv p0.p.Unit), (.slice zF p0.p.Tools.length zG), (.slice zN p0.p.Steps.length zM), (.bool p0.unit), (.slice zX p0.open_.length zZ), (.bool p0.step)] 59), (1, ow zF zG 47 zK p0.p.Tools), (2, sk zX zZ 85 80 80 zJ Dhp0_2)] ?_ ?_
    ·cases zJh : (((!p0.unit) || p0.step) || (decide ((p1.length : Int) < 2)))
     ·rw [zJh] at zC2
      rw [if_neg (by decide)] at zC2
      have H := zC2
      refine Tr.val (wg rfl rfl rfl) rfl (fun _ _ h1 h2 => run_move (h1.ev rfl)) ?_
      obtain ⟨WP, zIl, H⟩ := bnd H
      obtain ⟨zFA, zE9, zE8⟩ := QP zIl
      refine Tr.val (wg rfl rfl rfl) rfl (fun _ _ h1 h2 => zR zCc (h1.ev rfl) Ql.form (h1.ev rfl) zFA zE9) ?_
      refine Tr.val (wg rfl rfl rfl) rfl (fun _ _ h1 h2 => zH zB2 (h1.ev rfl) (rdF zBj Ql zE8 h2) rfl) ?_
      obtain ⟨zGM, hy109, H⟩ := bnd H
      refine Tr.Qr (r := (.bool zGM)) (wg rfl rfl rfl) rfl Tryz.call35 (zI rfl zb) (fun W hW => zDx WP zGM hy109 (HF.start _)) ?_
      refine Tr.val (wg rfl rfl rfl) rfl (fun _ _ h1 h2 => JA (h1.ev rfl)) ?_
      refine Tr.va rfl (fun _ _ h1 h2 => zh (h1.ev rfl) (h1.ev rfl)) ?_
      obtain rfl := Option.some.inj H
      exact Tr.nil (Tr.Qc (.cons rfl (.cons rfl (.cons rfl .nil))) (.cons rfl (.cons rfl (.cons rfl .nil))))
     ·rw [zJh] at zC2
      rw [if_pos rfl] at zC2
      have H := zC2
      obtain rfl := Option.some.inj H
      refine Tr.pass rfl rfl rfl rfl rfl (by decide) ?_
      refine Tr.pass rfl rfl rfl rfl rfl (by decide) ?_
      refine Tr.pass rfl rfl rfl rfl rfl (by decide) ?_
      refine Tr.pass rfl rfl rfl rfl rfl (by decide) ?_
      refine Tr.pass rfl rfl rfl rfl rfl (by decide) ?_
      refine Tr.va rfl (fun _ _ h1 h2 => zg (h1.ev rfl) (h1.ev rfl)) ?_
      exact Tr.nil (Tr.Qc (.cons rfl (.cons rfl (.cons rfl .nil))) (.cons rfl (.cons rfl (.cons rfl .nil))))
    ·show Tr _ _ (LF [(0, (.pointer (some ⟨bp0, 0, none⟩))), (1, (.slice zV p1.length zW)), (66, (.bool g107))]) (LE [(0, bx bp0 #[(iv p0.p.Unit), (.slice zF p0.p.Tools.length zG), (.slice zN p0.p.Steps.length zM), (.bool p0.unit), (.slice zX p0.open_.length zZ), (.bool p0.step)] 59), (1, ow zF zG 47 zK p0.p.Tools), (2, sk zX zZ 85 80 80 zJ Dhp0_2)]) _
     refine Tr.nil (Tr.zA (Tr.cond rfl H (fun H => ?_) (fun H => ?_)))
     ·refine Tr.sr (Tr.asg rfl rfl (Tr.nil (Tr.zA (Tr.ret (Tr.zO ?_)))))
      obtain rfl := Option.some.inj H
      exact Tr.out (m := [(.bool false)]) [] (zQ rfl zT) (fun W hW => ⟨w, ((zF, zG), (zX, zZ, Dhp0_2)), leB, rfl, ⟨Wi, ⟨Qu.1, Qu.2⟩⟩, hW.pick (ks := [0, 1, 2]) (by decide) (zL rfl (zL rfl (zL rfl QI)))⟩)
     ·refine Tr.skip (Tr.zA (Tr.sr (Tr.mv rfl rfl ?_)))
      obtain ⟨l110, hl110, H⟩ := bnd H
      refine Tr.va rfl (fun _ _ h1 h2 => zIT zCc (h1.ev rfl) Ql.form (h1.ev rfl) hl110) ?_
      obtain ⟨KH, hy111, H⟩ := bnd H
      refine Tr.zAE [4] [emp] (U := (Option Addr × Nat)) (fun u => (.tuple #[(.slice u.1 KH.1.length u.2), (.bool KH.2)])) (fun u => SlF u.1 KH.1.length u.2) (fun u => [ow u.1 u.2 3 Kh KH.1]) rfl (zL rfl QI) (fun _ => rfl) (wn rfl) rfl Tryz.call36 (zI rfl zb) (fun W hW hp hE => zAz l110 (zF2 zV (2 : Int).toNat 1 zW) (zW - (2 : Int).toNat) (Sl.cut (Ql.ext (hW.zFz hp)) hl110) KH hy111 hE) ?_
      intro u hu
      obtain ⟨JM, KS⟩ := u
      have gy111_0 := hu
      have zFq : SlF JM KH.1.length KS := gy111_0 --@phi
      show Tr _ _ (uf _ 70 (.tuple #[(.slice JM KH.1.length KS), (.bool KH.2)])) (up _ 4 (ow JM KS 3 Kh KH.1)) _
      refine Tr.mv rfl rfl (Tr.va rfl (fun _ _ h1 h2 => QW (h1.ev rfl) rfl) ?_)
      refine Tr.va rfl (fun _ _ h1 h2 => QW (h1.ev rfl) rfl) ?_
      refine Tr.asg rfl rfl (Tr.asg rfl rfl (Tr.nil (Tr.zA (Tr.seq (Tr.sr (Tr.mv rfl rfl (Tr.va rfl (fun _ _ h1 h2 => JA (h1.ev rfl)) ?_)))))))
      refine Tr.mv rfl rfl (Tr.KY 4 [(0, (.pointer (some ⟨bp0, 0, none⟩))), (1, (.slice zV p1.length zW)), (7, (.slice JM KH.1.length KS)), (79, (.bool ((!KH.2) || ((KH.1.length : Int) == 0))))] [(0, bx bp0 #[(iv p0.p.Unit), (.slice zF p0.p.Tools.length zG), (.slice zN p0.p.Steps.length zM), (.bool p0.unit), (.slice zX p0.open_.length zZ), (.bool p0.step)] 59), (1, ow zF zG 47 zK p0.p.Tools), (2, sk zX zZ 85 80 80 zJ Dhp0_2), (4, ow JM KS 3 Kh KH.1)] ?_ ?_)
      ·cases zJh : (!KH.2)
       ·refine Tr.val (wg rfl rfl rfl) rfl (fun _ _ h1 h2 => run_move (h1.ev rfl)) ?_
        refine Tr.val (wg rfl rfl rfl) rfl (fun _ _ h1 h2 => QL zFS (h1.ev rfl)) ?_
        refine Tr.val (wg rfl rfl rfl) rfl (fun _ _ h1 h2 => Jy (h1.ev rfl) (h1.ev rfl)) ?_
        refine Tr.va rfl (fun _ _ h1 h2 => zh (h1.ev rfl) (h1.ev rfl)) ?_
        exact Tr.nil (Tr.Qc (.cons rfl (.cons rfl (.cons rfl (.cons rfl .nil)))) (.cons rfl (.cons rfl (.cons rfl (.cons rfl .nil)))))
       ·refine Tr.pass rfl rfl rfl rfl rfl (by decide) ?_
        refine Tr.pass rfl rfl rfl rfl rfl (by decide) ?_
        refine Tr.pass rfl rfl rfl rfl rfl (by decide) ?_
        refine Tr.va rfl (fun _ _ h1 h2 => zg (h1.ev rfl) (h1.ev rfl)) ?_
        exact Tr.nil (Tr.Qc (.cons rfl (.cons rfl (.cons rfl (.cons rfl .nil)))) (.cons rfl (.cons rfl (.cons rfl (.cons rfl .nil)))))
      ·show Tr _ _ (LF [(0, (.pointer (some ⟨bp0, 0, none⟩))), (1, (.slice zV p1.length zW)), (7, (.slice JM KH.1.length KS)), (79, (.bool ((!KH.2) || ((KH.1.length : Int) == 0))))]) (LE [(0, bx bp0 #[(iv p0.p.Unit), (.slice zF p0.p.Tools.length zG), (.slice zN p0.p.Steps.length zM), (.bool p0.unit), (.slice zX p0.open_.length zZ), (.bool p0.step)] 59), (1, ow zF zG 47 zK p0.p.Tools), (2, sk zX zZ 85 80 80 zJ Dhp0_2), (4, ow JM KS 3 Kh KH.1)]) _
       refine Tr.mv rfl rfl (Tr.KY 5 [(0, (.pointer (some ⟨bp0, 0, none⟩))), (1, (.slice zV p1.length zW)), (7, (.slice JM KH.1.length KS)), (85, (.bool (((!KH.2) || ((KH.1.length : Int) == 0)) || ((Int.tmod (KH.1.length : Int) 4) != 0))))] [(0, bx bp0 #[(iv p0.p.Unit), (.slice zF p0.p.Tools.length zG), (.slice zN p0.p.Steps.length zM), (.bool p0.unit), (.slice zX p0.open_.length zZ), (.bool p0.step)] 59), (1, ow zF zG 47 zK p0.p.Tools), (2, sk zX zZ 85 80 80 zJ Dhp0_2), (4, ow JM KS 3 Kh KH.1)] ?_ ?_)
       ·cases zJh : ((!KH.2) || ((KH.1.length : Int) == 0))
        ·refine Tr.val (wg rfl rfl rfl) rfl (fun _ _ h1 h2 => run_move (h1.ev rfl)) ?_
         refine Tr.val (wg rfl rfl rfl) rfl (fun _ _ h1 h2 => QL zFS (h1.ev rfl)) ?_
         refine Tr.val (wg rfl rfl rfl) rfl (fun _ _ h1 h2 => run_rem (h1.ev rfl) (h1.ev rfl) (by decide)) ?_
         refine Tr.val (wg rfl rfl rfl) rfl (fun _ _ h1 h2 => Jw (h1.ev rfl) (h1.ev rfl)) ?_
         refine Tr.va rfl (fun _ _ h1 h2 => zh (h1.ev rfl) (h1.ev rfl)) ?_
         exact Tr.nil (Tr.Qc (.cons rfl (.cons rfl (.cons rfl (.cons rfl .nil)))) (.cons rfl (.cons rfl (.cons rfl (.cons rfl .nil)))))
        ·refine Tr.pass rfl rfl rfl rfl rfl (by decide) ?_
         refine Tr.pass rfl rfl rfl rfl rfl (by decide) ?_
         refine Tr.pass rfl rfl rfl rfl rfl (by decide) ?_
         refine Tr.pass rfl rfl rfl rfl rfl (by decide) ?_
         refine Tr.va rfl (fun _ _ h1 h2 => zg (h1.ev rfl) (h1.ev rfl)) ?_
         exact Tr.nil (Tr.Qc (.cons rfl (.cons rfl (.cons rfl (.cons rfl .nil)))) (.cons rfl (.cons rfl (.cons rfl (.cons rfl .nil)))))
       ·show Tr _ _ (LF [(0, (.pointer (some ⟨bp0, 0, none⟩))), (1, (.slice zV p1.length zW)), (7, (.slice JM KH.1.length KS)), (85, (.bool (((!KH.2) || ((KH.1.length : Int) == 0)) || ((Int.tmod (KH.1.length : Int) 4) != 0))))]) (LE [(0, bx bp0 #[(iv p0.p.Unit), (.slice zF p0.p.Tools.length zG), (.slice zN p0.p.Steps.length zM), (.bool p0.unit), (.slice zX p0.open_.length zZ), (.bool p0.step)] 59), (1, ow zF zG 47 zK p0.p.Tools), (2, sk zX zZ 85 80 80 zJ Dhp0_2), (4, ow JM KS 3 Kh KH.1)]) _
        refine Tr.nil (Tr.zA (Tr.cond rfl H (fun H => ?_) (fun H => ?_)))
        ·refine Tr.sr (Tr.asg rfl rfl (Tr.nil (Tr.zA (Tr.ret (Tr.zO ?_)))))
         obtain rfl := Option.some.inj H
         exact Tr.out (m := [(.bool false)]) [] (zQ rfl zT) (fun W hW => ⟨w, ((zF, zG), (zX, zZ, Dhp0_2)), leB, rfl, ⟨Wi, ⟨Qu.1, Qu.2⟩⟩, hW.pick (ks := [0, 1, 2]) (by decide) (zL rfl (zL rfl (zL rfl QI)))⟩)
        ·refine Tr.skip (Tr.zA (Tr.sr (Tr.mv rfl rfl ?_)))
         obtain ⟨x113, hx113, H⟩ := bnd H
         obtain ⟨hx1130, hx1131, hx1132⟩ := QP hx113
         refine Tr.va rfl (fun _ _ h1 h2 => zR zCc (h1.ev rfl) Ql.form (h1.ev rfl) hx1130 hx1131) ?_
         refine Tr.va rfl (fun _ _ h1 h2 => zH zB2 (h1.ev rfl) (rdF zBj Ql hx1132 h2) rfl) ?_
         refine Tr.build (vs := [(0, (sv x113))]) (cs := [(sv x113), (.slice none 0 0)]) (wn rfl) rfl (QE rfl Qq) (by kernel_rfl) ?_
         refine Tr.alloc 5 (wn rfl) rfl ze_47 fun zJN => ?_
         refine Tr.store 5 (cs := [(sv x113), (.slice none 0 0)]) [(sv x113), (.slice none 0 0)] (wn rfl) rfl rfl rfl rfl zFU rfl rfl rfl ?_
         refine Tr.nil (Tr.zA (Tr.seq (Tr.sr (Tr.asg rfl rfl (Tr.nil (Tr.zA (Tr.block (Tr.WC 12 49 KR ?_))))))))
         refine Tr.loop (σ := (List JO) × Int × (Option Addr) × Nat) (fun m w s => Qx p0 KH x113 m s.1 s.2.1 = some r ∧ SlF s.2.2.1 s.1.length s.2.2.2) (fun s => [(0, (.pointer (some ⟨bp0, 0, none⟩))), (7, (.slice JM KH.1.length KS)), (9, (.pointer (some ⟨zJN, 0, none⟩))), (10, (iv s.2.1))]) (fun s => [(0, bx bp0 #[(iv p0.p.Unit), (.slice zF p0.p.Tools.length zG), (.slice zN p0.p.Steps.length zM), (.bool p0.unit), (.slice zX p0.open_.length zZ), (.bool p0.step)] 59), (1, ow zF zG 47 zK p0.p.Tools), (2, sk zX zZ 85 80 80 zJ Dhp0_2), (4, ow JM KS 3 Kh KH.1), (5, bx zJN #[(sv x113), (.slice s.2.2.1 s.1.length s.2.2.2)] 47), (12, ow s.2.2.1 s.2.2.2 49 KR s.1)]) N (([] : List JO), 0, none, 0) ⟨H, VC⟩ (.cons rfl (.cons rfl (.cons rfl (.cons rfl .nil)))) (.cons rfl (.cons rfl (.cons rfl (.cons rfl (.cons rfl (.cons rfl .nil)))))) (fun _ _ h => zEE (h.1)) ?_
         intro w Qy mL1 s hs
         obtain ⟨zCq, zA5, zBr, zBo⟩ := s
         obtain ⟨H, hl133⟩ := hs
         replace H : Qx p0 KH x113 (mL1 + 1) zCq zA5 = some r := H
         replace leB := leB.trans Qy
         rw [Qx.eq_2] at H
         show Tr _ _ (LF [(0, (.pointer (some ⟨bp0, 0, none⟩))), (7, (.slice JM KH.1.length KS)), (9, (.pointer (some ⟨zJN, 0, none⟩))), (10, (iv zA5))]) (LE [(0, bx bp0 #[(iv p0.p.Unit), (.slice zF p0.p.Tools.length zG), (.slice zN p0.p.Steps.length zM), (.bool p0.unit), (.slice zX p0.open_.length zZ), (.bool p0.step)] 59), (1, ow zF zG 47 zK p0.p.Tools), (2, sk zX zZ 85 80 80 zJ Dhp0_2), (4, ow JM KS 3 Kh KH.1), (5, bx zJN #[(sv x113), (.slice zBr zCq.length zBo)] 47), (12, ow zBr zBo 49 KR zCq)]) _
         refine Tr.seq (Tr.sr (Tr.mv rfl rfl (Tr.mv rfl rfl (Tr.va rfl (fun _ _ h1 h2 => QL zFS (h1.ev rfl)) ?_))))
         refine Tr.va rfl (fun _ _ h1 h2 => Qm (h1.ev rfl) (h1.ev rfl)) ?_
         refine Tr.nil (Tr.zA (Tr.cond rfl H (fun H => ?_) (fun H => ?_)))
         ·refine Tr.skip (Tr.zA (Tr.seq (Tr.block ?_)))
          obtain ⟨zDI, hx136, H⟩ := bnd H
          obtain ⟨hx1360, hx1361, hx1362⟩ := QP hx136
          obtain ⟨zCp, hx137, H⟩ := bnd H
          obtain ⟨hx1370, hx1371, hx1372⟩ := QP hx137
          obtain ⟨WY, hx138, H⟩ := bnd H
          obtain ⟨hx1380, hx1381, hx1382⟩ := QP hx138
          obtain ⟨VB, hx139, H⟩ := bnd H
          obtain ⟨hx1390, hx1391, hx1392⟩ := QP hx139
          refine Tr.drawF 23 [(22, .makeFunc (.func 0) #[] #[.tmp 117])] [(22, ⟨118, 13, (.func (.func 0) #[] #[(.agg #[(iv zDI), (iv zCp), (iv WY), (iv VB)])]), fun b => .slice (some ⟨b, 0, none⟩) 1 1, fun b => bx b #[(iv zDI), (iv zCp), (iv WY), (iv VB)] 49⟩)] [(0, (.pointer (some ⟨bp0, 0, none⟩))), (7, (.slice JM KH.1.length KS)), (9, (.pointer (some ⟨zJN, 0, none⟩))), (10, (iv zA5)), (90, (iv zA5)), (91, (.slice JM KH.1.length KS)), (92, (iv (KH.1.length : Int))), (93, (.bool (decide (zA5 < (KH.1.length : Int))))), (96, (.pointer (some ⟨zJN, 1, none⟩))), (97, (.slice zBr zCq.length zBo)), (98, (.slice JM KH.1.length KS)), (99, (iv zA5)), (100, (.pointer (some ⟨adB JM, adO JM + (zA5).toNat * 1, none⟩))), (101, (iv zDI)), (102, (.slice JM KH.1.length KS)), (103, (iv zA5)), (104, (iv (w64 (zA5 + 1)))), (105, (.pointer (some ⟨adB JM, adO JM + ((w64 (zA5 + 1))).toNat * 1, none⟩))), (106, (iv zCp)), (107, (.slice JM KH.1.length KS)), (108, (iv zA5)), (109, (iv (w64 (zA5 + 2)))), (110, (.pointer (some ⟨adB JM, adO JM + ((w64 (zA5 + 2))).toNat * 1, none⟩))), (111, (iv WY)), (112, (.slice JM KH.1.length KS)), (113, (iv zA5)), (114, (iv (w64 (zA5 + 3)))), (115, (.pointer (some ⟨adB JM, adO JM + ((w64 (zA5 + 3))).toNat * 1, none⟩))), (116, (iv VB)), (117, (.agg #[(iv zDI), (iv zCp), (iv WY), (iv VB)])), (118, (.func (.func 0) #[] #[(.agg #[(iv zDI), (iv zCp), (iv WY), (iv VB)])]))] (by kernel_rfl) (by kernel_rfl) (by kernel_rfl) (by kernel_rfl) (by kernel_rfl) (by kernel_rfl) (by kernel_rfl) (Wx (fr_lit (vs := [(0, (.agg #[(iv zDI), (iv zCp), (iv WY), (iv VB)]))]) rfl rfl rfl (by kernel_rfl)) zAr) (Wx rfl zAr) (Wx rfl zAr) ?_ ?_
          ·refine Tq.va rfl (fun _ _ h1 h2 => zD zCb (h1.ev rfl)) ?_
           refine Tq.va rfl (fun _ _ h1 h2 => zH zI4 (h1.ev rfl) (rdb h2 (vs := [(sv x113), (.slice zBr zCq.length zBo)]) (k := 5) rfl 1) rfl) ?_
           refine Tq.mv rfl rfl (Tq.mv rfl rfl (Tq.va rfl (fun _ _ h1 h2 => zR zC7 (h1.ev rfl) zFq (h1.ev rfl) hx1360 hx1361) ?_))
           refine Tq.va rfl (fun _ _ h1 h2 => zH Ji (h1.ev rfl) (rdo zBJ (k := 4) h2 rfl hx1362) rfl) ?_
           refine Tq.mv rfl rfl (Tq.mv rfl rfl (Tq.va rfl (fun _ _ h1 h2 => Qo (h1.ev rfl) (h1.ev rfl)) ?_))
           refine Tq.va rfl (fun _ _ h1 h2 => zR zC7 (h1.ev rfl) zFq (h1.ev rfl) hx1370 hx1371) ?_
           refine Tq.va rfl (fun _ _ h1 h2 => zH Ji (h1.ev rfl) (rdo zBJ (k := 4) h2 rfl hx1372) rfl) ?_
           refine Tq.mv rfl rfl (Tq.mv rfl rfl (Tq.va rfl (fun _ _ h1 h2 => Qo (h1.ev rfl) (h1.ev rfl)) ?_))
           refine Tq.va rfl (fun _ _ h1 h2 => zR zC7 (h1.ev rfl) zFq (h1.ev rfl) hx1380 hx1381) ?_
           refine Tq.va rfl (fun _ _ h1 h2 => zH Ji (h1.ev rfl) (rdo zBJ (k := 4) h2 rfl hx1382) rfl) ?_
           refine Tq.mv rfl rfl (Tq.mv rfl rfl (Tq.va rfl (fun _ _ h1 h2 => Qo (h1.ev rfl) (h1.ev rfl)) ?_))
           refine Tq.va rfl (fun _ _ h1 h2 => zR zC7 (h1.ev rfl) zFq (h1.ev rfl) hx1390 hx1391) ?_
           refine Tq.va rfl (fun _ _ h1 h2 => zH Ji (h1.ev rfl) (rdo zBJ (k := 4) h2 rfl hx1392) rfl) ?_
           refine Tq.build (vs := [(0, (iv zDI)), (1, (iv zCp)), (2, (iv WY)), (3, (iv VB))]) (cs := [(iv zDI), (iv zCp), (iv WY), (iv VB)]) (wn rfl) rfl (QE rfl (QE rfl (QE rfl (QE rfl Qq)))) (by kernel_rfl) ?_
           refine Tq.zGb (vs := [(.agg #[(iv zDI), (iv zCp), (iv WY), (iv VB)])]) (wn rfl) rfl (zI rfl zb) ?_
           exact Tq.fin (.cons rfl (.cons rfl (.cons rfl (.cons rfl (.cons rfl (.cons rfl (.cons rfl (.cons rfl (.cons rfl (.cons rfl (.cons rfl (.cons rfl (.cons rfl (.cons rfl (.cons rfl (.cons rfl (.cons rfl (.cons rfl (.cons rfl (.cons rfl (.cons rfl (.cons rfl (.cons rfl (.cons rfl (.cons rfl (.cons rfl (.cons rfl (.cons rfl (.cons rfl (.cons rfl (.cons rfl .nil)))))))))))))))))))))))))))))))
          ·intro bs135
           refine Tr.sel (lf := [(0, (.pointer (some ⟨bp0, 0, none⟩))), (7, (.slice JM KH.1.length KS)), (9, (.pointer (some ⟨zJN, 0, none⟩))), (10, (iv zA5)), (97, (.slice zBr zCq.length zBo)), (118, (.slice (some ⟨(bs135 22), 0, none⟩) 1 1))]) (le := [(0, bx bp0 #[(iv p0.p.Unit), (.slice zF p0.p.Tools.length zG), (.slice zN p0.p.Steps.length zM), (.bool p0.unit), (.slice zX p0.open_.length zZ), (.bool p0.step)] 59), (1, ow zF zG 47 zK p0.p.Tools), (2, sk zX zZ 85 80 80 zJ Dhp0_2), (4, ow JM KS 3 Kh KH.1), (5, bx zJN #[(sv x113), (.slice zBr zCq.length zBo)] 47), (12, ow zBr zBo 49 KR zCq), (13, bx (bs135 22) #[(iv zDI), (iv zCp), (iv WY), (iv VB)] 49)]) (.cons rfl (.cons rfl (.cons rfl (.cons rfl (.cons rfl (.cons rfl .nil)))))) (.cons rfl (.cons rfl (.cons rfl (.cons rfl (.cons rfl (.cons rfl (.cons rfl .nil))))))) ?_
           obtain ⟨zAL, hl140, H⟩ := bnd H
           refine Tr.append 12 (t := KR) (l := zCq) (l2 := [(JO.mk zDI zCp WY VB)]) (wn rfl) rfl rfl rfl rfl (fun W hW => ⟨[[(iv zDI), (iv zCp), (iv WY), (iv VB)]], (.cons ⟨(), trivial, rfl⟩ .nil), rdb hW (vs := [(iv zDI), (iv zCp), (iv WY), (iv VB)]) (k := 13) rfl 0⟩) zG1 zIL zl_49 (by decide) by_49 rfl hl140 fun WX WT hAl140 => ?_
           refine Tr.va rfl (fun _ _ h1 h2 => zD zCb (h1.ev rfl)) ?_
           refine Tr.store 5 (cs := [(.slice WX zAL.length WT)]) [(sv x113), (.slice WX zAL.length WT)] (wn rfl) rfl rfl rfl rfl sz_45 rfl rfl rfl ?_
           refine Tr.nil (Tr.zx (Tr.zA (Tr.region (Tr.mv rfl rfl (Tr.va rfl (fun _ _ h1 h2 => Qo (h1.ev rfl) (h1.ev rfl)) ?_)))))
           exact Tr.asg rfl rfl (Tr.nil (Tr.QF Qy (zAL, (w64 (zA5 + 4)), WX, WT) ⟨H, hAl140⟩ (.cons rfl (.cons rfl (.cons rfl (.cons rfl .nil)))) (.cons rfl (.cons rfl (.cons rfl (.cons rfl (.cons rfl (.cons rfl .nil))))))))
         ·refine Tr.exit (Tr.QK (Tr.QK (Tr.JV (Tr.zA (Tr.seq (Tr.freeze 12 rfl fun w le142 hz141 => ?_))))))
          replace leB := leB.trans le142
          refine Tr.zJw 9 [(8, (ow zF zG 47 zK p0.p.Tools).S)] [] (by kernel_rfl) (by kernel_rfl) fun sz143 hlosz143 hEsz143 => ?_
          refine Dr.Jb 0 (by kernel_rfl) rfl (wn rfl) rfl (by kernel_rfl) (fun _ _ h1 => run_move (h1.ev rfl)) rfl ?_
          refine Dr.Jb 1 (by kernel_rfl) rfl (wn rfl) rfl (by kernel_rfl) (fun _ _ h1 => run_move (h1.ev rfl)) rfl ?_
          refine Dr.Jb 2 (by kernel_rfl) rfl (wn rfl) rfl (by kernel_rfl) (fun _ _ h1 => zz (h1.ev rfl)) rfl ?_
          refine Dr.Jb 3 (by kernel_rfl) rfl (wn rfl) rfl (by kernel_rfl) (fun _ _ h1 => zD zDY (h1.ev rfl)) rfl ?_
          refine Dr.Jb 4 (by kernel_rfl) rfl (wn rfl) rfl (by kernel_rfl) (fun _ _ h1 => zD Wj (h1.ev rfl)) rfl ?_
          refine Dr.quiet 5 [(126, (.slice zF p0.p.Tools.length zG))] (by kernel_rfl) rfl rfl (by kernel_rfl) ?_ rfl rfl ?_
          ·refine Tq.va rfl (fun _ _ h1 h2 => zH zDB (h1.ev rfl) (rdb h2 (vs := [(iv p0.p.Unit), (.slice zF p0.p.Tools.length zG), (.slice zN p0.p.Steps.length zM), (.bool p0.unit), (.slice zX p0.open_.length zZ), (.bool p0.step)]) (k := 0) rfl 1) rfl) ?_
           exact Tq.fin (.cons rfl .nil)
          refine Dr.zAl 6 [(127, (.agg #[(sv x113), (.slice zBr zCq.length zBo)]))] [8] false (by kernel_rfl) rfl rfl (by kernel_rfl) (fun W W' h2 hsW hk => HF.zCx (le := [(5, bx zJN #[(sv x113), (.slice zBr zCq.length zBo)] 47)]) (ks := [(1, (ow zF zG 47 zK p0.p.Tools).S)]) (s0 := sz143) false h2 hk (fun h => absurd h (by decide)) (.cons rfl .nil) (fun b hb => hb.elim (fun ⟨p, hp, hf, hb⟩ => by simp only [List.mem_cons, List.not_mem_nil, or_false] at hp; rcases hp with rfl; exact .inl ⟨_, List.mem_cons_self, hb⟩) (fun hb => absurd hb.1 (by decide))) (List.forall_mem_cons.2 ⟨fun b hb => hb, (fun _ h => nomatch h)⟩) rfl) ?_ rfl rfl ?_
          ·refine Tq.va rfl (fun _ _ h1 h2 => zo (cs := [(sv x113), (.slice zBr zCq.length zBo)]) ag_47 zFU (h1.ev rfl) (zf.take (rdb h2 (vs := [(sv x113), (.slice zBr zCq.length zBo)]) (k := 5) rfl 0) 2) rfl) ?_
           exact Tq.fin (.cons rfl .nil)
          refine Dr.one 7 (by kernel_rfl) ?_
          refine St.buildSlice 7 14 (e := 47) (vs := [(0, (.agg #[(sv x113), (.slice zBr zCq.length zBo)]))]) (cs := [(sv x113), (.slice zBr zCq.length zBo)]) rfl (wn rfl) rfl (QE rfl Qq) (by kernel_rfl) fun b144 hb144 => ?_
          obtain ⟨l145, hl145, H⟩ := bnd H
          refine Dr.one 8 (by kernel_rfl) ?_
          refine St.append 8 1 (t' := zK) (ll := p0.p.Tools) (l2 := [(zS.mk x113 zCq)]) (fun b hb => .inl ⟨_, List.mem_cons_self, rfl, hb⟩) rfl (wn rfl) rfl rfl rfl rfl (fun W hW => ⟨[[(sv x113), (.slice zBr zCq.length zBo)]], (.cons ⟨(zBr, zBo), hz141, rfl⟩ .nil), rdb hW (vs := [(sv x113), (.slice zBr zCq.length zBo)]) (k := 14) rfl 0⟩) zG2 zFU zl_47 (by decide) by_47 rfl hl145 fun Al145 cl145 hAl145 => ?_
          refine Dr.tail (by kernel_rfl) ?_
          refine Tr.va rfl (fun _ _ h1 h2 => zz (h1.ev rfl)) ?_
          refine Tr.va rfl (fun _ _ h1 h2 => zD zDY (h1.ev rfl)) ?_
          refine Tr.va rfl (fun _ _ h1 h2 => zD Wj (h1.ev rfl)) ?_
          refine Tr.store 0 (cs := [(.slice Al145 l145.length cl145)]) [(iv p0.p.Unit), (.slice Al145 l145.length cl145), (.slice zN p0.p.Steps.length zM), (.bool p0.unit), (.slice zX p0.open_.length zZ), (.bool p0.step)] (wn rfl) rfl rfl rfl rfl sz_22 rfl rfl rfl ?_
          refine Tr.nil (Tr.zA (Tr.sr (Tr.asg rfl rfl (Tr.nil (Tr.zA (Tr.ret ?_))))))
          obtain rfl := Option.some.inj H
          exact Tr.out (m := [(.bool true)]) [] (zQ rfl zT) (fun W hW => ⟨w, ((Al145, cl145), (zX, zZ, Dhp0_2)), leB, rfl, ⟨hAl145, ⟨Qu.1, Qu.2⟩⟩, hW.pick (ks := [0, 1, 2]) (by decide) (zL rfl (zL rfl (zL rfl QI)))⟩)

theorem Ke {w : Bs} (p0 : QD) (zF : Option Addr) (zG : Nat) (zl : Sl w.R w.W zK zF zG p0.p.Tools) (zN : Option Addr) (zM : Nat) (zX : Option Addr) (zZ : Nat) (Dhp0_2 : List (PE zC)) (Qu : SK Dhp0_2 p0.open_ ∧ SlF zX p0.open_.length zZ) (bp0 : Nat) (p1 : zB) (zV : Option Addr) (zW : Nat) (Ql : Sl w.O w.W QH zV zW p1.Points) (QC : Option Addr) (QB : Nat) (zIm : Sl w.O w.W zC QC QB p1.Steps) (r : ((List zB) × (List zB))) (H : Qz p0 p1 = some r) (hE : HF w w.W (LEn [bx bp0 #[(iv p0.p.Unit), (.slice zF p0.p.Tools.length zG), (.slice zN p0.p.Steps.length zM), (.bool p0.unit), (.slice zX p0.open_.length zZ), (.bool p0.step)] 59, ow zN zM 80 zC p0.p.Steps, sk zX zZ 85 80 80 zJ Dhp0_2])) : Calls Tryz.prog 34 [(.pointer (some ⟨bp0, 0, none⟩)), (.agg #[(iv p1.Kind), (sv p1.Name), (iv p1.At.X), (iv p1.At.Y), (.slice zV p1.Points.length zW), (iv p1.NX), (iv p1.NY), (.slice QC p1.Steps.length QB)])].toArray w.W fun e W' => ∃ (w' : Bs) (u : (Option Addr × Nat) × (Option Addr × Nat × List (PE zC))), w.Le w' ∧ e = .returned (.tuple #[]) ∧ (SlF u.1.1 r.1.length u.1.2 ∧ (SK u.2.2.2 r.2 ∧ SlF u.2.1 r.2.length u.2.2.1)) ∧ HF w' W' (LEn [bx bp0 #[(iv p0.p.Unit), (.slice zF p0.p.Tools.length zG), (.slice u.1.1 r.1.length u.1.2), (.bool p0.unit), (.slice u.2.1 r.2.length u.2.2.1), (.bool p0.step)] 59, ow u.1.1 u.1.2 80 zC r.1, sk u.2.1 u.2.2.1 85 80 80 zJ u.2.2.2]) := by
 unfold Qz at H
 have Wh := (hE.sl (k := 1) rfl).form
 have leB := Bs.Le.refl w
 refine Tr.enter (n := 67) Tryz.func34 rfl rfl rfl hE ?_
 refine Tr.sr (Tr.box 3 (cs := [(iv p1.Kind), (sv p1.Name), (iv p1.At.X), (iv p1.At.Y), (.slice zV p1.Points.length zW), (iv p1.NX), (iv p1.NY), (.slice QC p1.Steps.length QB)]) (wn rfl) rfl rfl rfl fun QG => ?_)
 refine Tr.nil (Tr.zA (Tr.sr (Tr.mv rfl rfl (Tr.va rfl (fun _ _ h1 h2 => zz (h1.ev rfl)) ?_))))
 refine Tr.va rfl (fun _ _ h1 h2 => zD zAp (h1.ev rfl)) ?_
 refine Tr.va rfl (fun _ _ h1 h2 => zH zF8 (h1.ev rfl) (rdb h2 (vs := [(iv p0.p.Unit), (.slice zF p0.p.Tools.length zG), (.slice zN p0.p.Steps.length zM), (.bool p0.unit), (.slice zX p0.open_.length zZ), (.bool p0.step)]) (k := 0) rfl 4) rfl) ?_
 refine Tr.va rfl (fun _ _ h1 h2 => QL un_57 (h1.ev rfl)) ?_
 refine Tr.va rfl (fun _ _ h1 h2 => run_sub (h1.ev rfl) (h1.ev rfl)) ?_
 refine Tr.asg rfl rfl (Tr.nil (Tr.zA (Tr.sr (Tr.mv rfl rfl (Tr.va rfl (fun _ _ h1 h2 => zCW (h1.ev rfl) (h1.ev rfl)) ?_)))))
 refine Tr.nil (Tr.zA (Tr.cond rfl H (fun H => ?_) (fun H => ?_)))
 ·refine Tr.seq (Tr.zJw 3 [] [1, 2] (by kernel_rfl) (by kernel_rfl) fun sz101 hlosz101 hEsz101 => ?_)
  refine Dr.one 0 (by kernel_rfl) ?_
  refine St.alloc 0 4 rfl (wn rfl) rfl ze_4 fun Vf hb102 => ?_
  refine Dr.pair 1 2 (by kernel_rfl) ?_ ?_
  ·refine St.store 1 4 (cs := [(.bool true)]) [(.bool true)] rfl (wn rfl) (.inr ⟨by simp, hb102⟩) rfl rfl rfl rfl sz_4 rfl rfl rfl ?_
   refine Dr.one 2 (by kernel_rfl) ?_
   refine St.store 2 4 (cs := [(.bool false)]) [(.bool false)] rfl (wn rfl) (.inr ⟨by simp, hb102⟩) rfl rfl rfl rfl sz_4 rfl rfl rfl ?_
   refine Dr.tail (by kernel_rfl) ?_
   refine Tr.va rfl (fun _ _ h1 h2 => zH zF9 (h1.ev rfl) (rdb h2 (vs := [(.bool false)]) (k := 4) rfl 0) rfl) ?_
   refine Tr.nil (Tr.zA (Tr.zCJ rfl rfl ?_))
   obtain ⟨x103, hx103, H⟩ := bnd H
   obtain ⟨hx1030, hx1031, hx1032⟩ := QP hx103
   refine Tr.skTake 2 5 6 7 8 (i := ((w64 ((p0.open_.length : Int) - 1))).toNat) rfl rfl rfl rfl rfl rfl rfl rfl rfl rfl hx1032 rfl Qu.1 fun bku104 u104 hoku104 hfu104 hdu104 => ?_
   obtain ⟨⟨zAD, Wz⟩, ⟨Wo, Wm⟩⟩ := u104
   have zCz : Sl w.O w.W QH zAD Wz x103.Points := hoku104
   replace hfu104 : SlF Wo x103.Steps.length Wm := hfu104
   replace hdu104 : ST Dhp0_2 p0.open_ ((w64 ((p0.open_.length : Int) - 1))).toNat bku104 ((zAD, Wz), (Wo, Wm)) x103 := hdu104
   show Tr _ _ _ (up (up (up (up (up _ 2 (ow zX zZ 85 (flP zC) Dhp0_2)) 5 (bxs 80 zJ (List.set Dhp0_2 ((w64 ((p0.open_.length : Int) - 1))).toNat ⟨bku104, ((zAD, Wz), (Wo, Wm)), x103, false⟩))) 6 (ins 80 zC ((List.set Dhp0_2 ((w64 ((p0.open_.length : Int) - 1))).toNat ⟨bku104, ((zAD, Wz), (Wo, Wm)), x103, false⟩).map (pne zJ)))) 7 (bx bku104 #[(iv x103.Kind), (sv x103.Name), (iv x103.At.X), (iv x103.At.Y), (.slice zAD x103.Points.length Wz), (iv x103.NX), (iv x103.NY), (.slice Wo x103.Steps.length Wm)] 80)) 8 (ow Wo Wm 80 zC x103.Steps)) _
   refine Tr.zJw 20 [(19, (ow Wo Wm 80 zC x103.Steps).S)] [] (by kernel_rfl) (by kernel_rfl) fun sz105 hlosz105 hEsz105 => ?_
   refine Dr.Jb 0 (by kernel_rfl) rfl (wn rfl) rfl (by kernel_rfl) (fun _ _ h1 => run_move (h1.ev rfl)) rfl ?_
   refine Dr.Jb 1 (by kernel_rfl) rfl (wn rfl) rfl (by kernel_rfl) (fun _ _ h1 => zz (h1.ev rfl)) rfl ?_
   refine Dr.Jb 2 (by kernel_rfl) rfl (wn rfl) rfl (by kernel_rfl) (fun _ _ h1 => zD zAp (h1.ev rfl)) rfl ?_
   refine Dr.zAl 3 [(35, (.slice zX p0.open_.length zZ))] [19] false (by kernel_rfl) rfl rfl (by kernel_rfl) (fun W W' h2 hsW hk => HF.zCx (le := [(0, bx bp0 #[(iv p0.p.Unit), (.slice zF p0.p.Tools.length zG), (.slice zN p0.p.Steps.length zM), (.bool p0.unit), (.slice zX p0.open_.length zZ), (.bool p0.step)] 59)]) (ks := [(8, (ow Wo Wm 80 zC x103.Steps).S)]) (s0 := sz105) false h2 hk (fun h => absurd h (by decide)) (.cons rfl .nil) (fun b hb => hb.elim (fun ⟨p, hp, hf, hb⟩ => by simp only [List.mem_cons, List.not_mem_nil, or_false] at hp; rcases hp with rfl; exact .inl ⟨_, List.mem_cons_self, hb⟩) (fun hb => absurd hb.1 (by decide))) (List.forall_mem_cons.2 ⟨fun b hb => hb, (fun _ h => nomatch h)⟩) rfl) ?_ rfl rfl ?_
   ·refine Tq.va rfl (fun _ _ h1 h2 => zH zF8 (h1.ev rfl) (rdb h2 (vs := [(iv p0.p.Unit), (.slice zF p0.p.Tools.length zG), (.slice zN p0.p.Steps.length zM), (.bool p0.unit), (.slice zX p0.open_.length zZ), (.bool p0.step)]) (k := 0) rfl 4) rfl) ?_
    exact Tq.fin (.cons rfl .nil)
   refine Dr.Jb 4 (by kernel_rfl) rfl (wn rfl) rfl (by kernel_rfl) (fun _ _ h1 => run_move (h1.ev rfl)) rfl ?_
   refine Dr.Jb 5 (by kernel_rfl) rfl (wn rfl) rfl (by kernel_rfl) (fun _ _ h1 => zR el_57 (h1.ev rfl) Qu.2 (h1.ev rfl) hx1030 hx1031) rfl ?_
   refine Dr.zAl 6 [(38, (.pointer (some ⟨bku104, 0, none⟩)))] [19] false (by kernel_rfl) rfl rfl (by kernel_rfl) (fun W W' h2 hsW hk => HF.zCx (le := [(2, ow zX zZ 85 (flP zC) Dhp0_2)]) (ks := [(8, (ow Wo Wm 80 zC x103.Steps).S)]) (s0 := sz105) false h2 hk (fun h => absurd h (by decide)) (.cons rfl .nil) (fun b hb => hb.elim (fun ⟨p, hp, hf, hb⟩ => by simp only [List.mem_cons, List.not_mem_nil, or_false] at hp; rcases hp with rfl; exact .inl ⟨_, List.mem_cons_self, hb⟩) (fun hb => absurd hb.1 (by decide))) (List.forall_mem_cons.2 ⟨fun b hb => hb, (fun _ h => nomatch h)⟩) rfl) ?_ rfl rfl ?_
   ·refine Tq.va rfl (fun _ _ h1 h2 => zH ag_85 (h1.ev rfl) (rdo ef_P (k := 2) h2 rfl hdu104.2) rfl) ?_
    exact Tq.fin (.cons rfl .nil)
   refine Dr.Jb 7 (by kernel_rfl) rfl (wn rfl) rfl (by kernel_rfl) (fun _ _ h1 => run_move (h1.ev rfl)) rfl ?_
   refine Dr.Jb 8 (by kernel_rfl) rfl (wn rfl) rfl (by kernel_rfl) (fun _ _ h1 => zz (h1.ev rfl)) rfl ?_
   refine Dr.Jb 9 (by kernel_rfl) rfl (wn rfl) rfl (by kernel_rfl) (fun _ _ h1 => zD zAp (h1.ev rfl)) rfl ?_
   refine Dr.zAl 10 [(42, (.slice zX p0.open_.length zZ))] [19] false (by kernel_rfl) rfl rfl (by kernel_rfl) (fun W W' h2 hsW hk => HF.zCx (le := [(0, bx bp0 #[(iv p0.p.Unit), (.slice zF p0.p.Tools.length zG), (.slice zN p0.p.Steps.length zM), (.bool p0.unit), (.slice zX p0.open_.length zZ), (.bool p0.step)] 59)]) (ks := [(8, (ow Wo Wm 80 zC x103.Steps).S)]) (s0 := sz105) false h2 hk (fun h => absurd h (by decide)) (.cons rfl .nil) (fun b hb => hb.elim (fun ⟨p, hp, hf, hb⟩ => by simp only [List.mem_cons, List.not_mem_nil, or_false] at hp; rcases hp with rfl; exact .inl ⟨_, List.mem_cons_self, hb⟩) (fun hb => absurd hb.1 (by decide))) (List.forall_mem_cons.2 ⟨fun b hb => hb, (fun _ h => nomatch h)⟩) rfl) ?_ rfl rfl ?_
   ·refine Tq.va rfl (fun _ _ h1 h2 => zH zF8 (h1.ev rfl) (rdb h2 (vs := [(iv p0.p.Unit), (.slice zF p0.p.Tools.length zG), (.slice zN p0.p.Steps.length zM), (.bool p0.unit), (.slice zX p0.open_.length zZ), (.bool p0.step)]) (k := 0) rfl 4) rfl) ?_
    exact Tq.fin (.cons rfl .nil)
   refine Dr.Jb 11 (by kernel_rfl) rfl (wn rfl) rfl (by kernel_rfl) (fun _ _ h1 => run_move (h1.ev rfl)) rfl ?_
   refine Dr.Jb 12 (by kernel_rfl) rfl (wn rfl) rfl (by kernel_rfl) (fun _ _ h1 => zR el_57 (h1.ev rfl) Qu.2 (h1.ev rfl) hx1030 hx1031) rfl ?_
   refine Dr.zAl 13 [(45, (.pointer (some ⟨bku104, 0, none⟩)))] [19] false (by kernel_rfl) rfl rfl (by kernel_rfl) (fun W W' h2 hsW hk => HF.zCx (le := [(2, ow zX zZ 85 (flP zC) Dhp0_2)]) (ks := [(8, (ow Wo Wm 80 zC x103.Steps).S)]) (s0 := sz105) false h2 hk (fun h => absurd h (by decide)) (.cons rfl .nil) (fun b hb => hb.elim (fun ⟨p, hp, hf, hb⟩ => by simp only [List.mem_cons, List.not_mem_nil, or_false] at hp; rcases hp with rfl; exact .inl ⟨_, List.mem_cons_self, hb⟩) (fun hb => absurd hb.1 (by decide))) (List.forall_mem_cons.2 ⟨fun b hb => hb, (fun _ h => nomatch h)⟩) rfl) ?_ rfl rfl ?_
   ·refine Tq.va rfl (fun _ _ h1 h2 => zH ag_85 (h1.ev rfl) (rdo ef_P (k := 2) h2 rfl hdu104.2) rfl) ?_
    exact Tq.fin (.cons rfl .nil)
   refine Dr.Jb 14 (by kernel_rfl) rfl (wn rfl) rfl (by kernel_rfl) (fun _ _ h1 => zz (h1.ev rfl)) rfl ?_
   refine Dr.Jb 15 (by kernel_rfl) rfl (wn rfl) rfl (by kernel_rfl) (fun _ _ h1 => zD zAS (h1.ev rfl)) rfl ?_
   refine Dr.quiet 16 [(48, (.slice Wo x103.Steps.length Wm))] (by kernel_rfl) rfl rfl (by kernel_rfl) ?_ rfl rfl ?_
   ·refine Tq.va rfl (fun _ _ h1 h2 => zH zBp (h1.ev rfl) (rdb h2 (vs := [(iv x103.Kind), (sv x103.Name), (iv x103.At.X), (iv x103.At.Y), (.slice zAD x103.Points.length Wz), (iv x103.NX), (iv x103.NY), (.slice Wo x103.Steps.length Wm)]) (k := 7) rfl 7) rfl) ?_
    exact Tq.fin (.cons rfl .nil)
   refine Dr.zAl 17 [(49, (.agg #[(iv p1.Kind), (sv p1.Name), (iv p1.At.X), (iv p1.At.Y), (.slice zV p1.Points.length zW), (iv p1.NX), (iv p1.NY), (.slice QC p1.Steps.length QB)]))] [19] false (by kernel_rfl) rfl rfl (by kernel_rfl) (fun W W' h2 hsW hk => HF.zCx (le := [(3, bx QG #[(iv p1.Kind), (sv p1.Name), (iv p1.At.X), (iv p1.At.Y), (.slice zV p1.Points.length zW), (iv p1.NX), (iv p1.NY), (.slice QC p1.Steps.length QB)] 80)]) (ks := [(8, (ow Wo Wm 80 zC x103.Steps).S)]) (s0 := sz105) false h2 hk (fun h => absurd h (by decide)) (.cons rfl .nil) (fun b hb => hb.elim (fun ⟨p, hp, hf, hb⟩ => by simp only [List.mem_cons, List.not_mem_nil, or_false] at hp; rcases hp with rfl; exact .inl ⟨_, List.mem_cons_self, hb⟩) (fun hb => absurd hb.1 (by decide))) (List.forall_mem_cons.2 ⟨fun b hb => hb, (fun _ h => nomatch h)⟩) rfl) ?_ rfl rfl ?_
   ·refine Tq.va rfl (fun _ _ h1 h2 => zo (cs := [(iv p1.Kind), (sv p1.Name), (iv p1.At.X), (iv p1.At.Y), (.slice zV p1.Points.length zW), (iv p1.NX), (iv p1.NY), (.slice QC p1.Steps.length QB)]) zDA Vu (h1.ev rfl) (zf.take (rdb h2 (vs := [(iv p1.Kind), (sv p1.Name), (iv p1.At.X), (iv p1.At.Y), (.slice zV p1.Points.length zW), (iv p1.NX), (iv p1.NY), (.slice QC p1.Steps.length QB)]) (k := 3) rfl 0) 8) rfl) ?_
    exact Tq.fin (.cons rfl .nil)
   refine Dr.one 18 (by kernel_rfl) ?_
   refine St.buildSlice 18 9 (e := 80) (vs := [(0, (.agg #[(iv p1.Kind), (sv p1.Name), (iv p1.At.X), (iv p1.At.Y), (.slice zV p1.Points.length zW), (iv p1.NX), (iv p1.NY), (.slice QC p1.Steps.length QB)]))]) (cs := [(iv p1.Kind), (sv p1.Name), (iv p1.At.X), (iv p1.At.Y), (.slice zV p1.Points.length zW), (iv p1.NX), (iv p1.NY), (.slice QC p1.Steps.length QB)]) rfl (wn rfl) rfl (QE rfl Qq) (by kernel_rfl) fun b106 hb106 => ?_
   obtain ⟨zD1, hl107, H⟩ := bnd H
   refine Dr.one 19 (by kernel_rfl) ?_
   refine St.append 19 8 (t' := zC) (ll := x103.Steps) (l2 := [p1]) (fun b hb => .inl ⟨_, List.mem_cons_self, rfl, hb⟩) rfl (wn rfl) rfl rfl rfl rfl (fun W hW => ⟨[[(iv p1.Kind), (sv p1.Name), (iv p1.At.X), (iv p1.At.Y), (.slice zV p1.Points.length zW), (iv p1.NX), (iv p1.NY), (.slice QC p1.Steps.length QB)]], (.cons ⟨((zV, zW), (QC, QB)), (Jn.2 ⟨Ql, zIm⟩), rfl⟩ .nil), rdb hW (vs := [(iv p1.Kind), (sv p1.Name), (iv p1.At.X), (iv p1.At.Y), (.slice zV p1.Points.length zW), (iv p1.NX), (iv p1.NY), (.slice QC p1.Steps.length QB)]) (k := 9) rfl 0⟩) zCU Vu zl_80 (by decide) by_80 rfl hl107 fun Al107 cl107 hAl107 => ?_
   refine Dr.tail (by kernel_rfl) ?_
   refine Tr.va rfl (fun _ _ h1 h2 => zz (h1.ev rfl)) ?_
   refine Tr.va rfl (fun _ _ h1 h2 => zD zAS (h1.ev rfl)) ?_
   refine Tr.store 7 (cs := [(.slice Al107 zD1.length cl107)]) [(iv x103.Kind), (sv x103.Name), (iv x103.At.X), (iv x103.At.Y), (.slice zAD x103.Points.length Wz), (iv x103.NX), (iv x103.NY), (.slice Al107 zD1.length cl107)] (wn rfl) rfl rfl rfl rfl sz_23 rfl rfl rfl ?_
   refine Tr.nil (Tr.zIX ?_)
   obtain rfl := Option.some.inj H
   refine Tr.skPut (L := zJ) 2 5 6 7 8 (u := ((zAD, Wz), (Al107, cl107))) (x' := (zB.mk x103.Kind x103.Name x103.At x103.Points x103.NX x103.NY zD1)) (cs := [(iv x103.Kind), (sv x103.Name), (iv x103.At.X), (iv x103.At.Y), (.slice zAD x103.Points.length Wz), (iv x103.NX), (iv x103.NY), (.slice Al107 zD1.length cl107)]) rfl rfl rfl rfl rfl rfl rfl rfl rfl rfl rfl rfl rfl rfl rfl hdu104 zCz rfl rfl rfl hAl107 fun ms108 hmms108 => ?_
   have hnms108 : (List.set p0.open_ ((w64 ((p0.open_.length : Int) - 1))).toNat (zB.mk x103.Kind x103.Name x103.At x103.Points x103.NX x103.NY zD1)).length = p0.open_.length := List.length_set
   have hfms108 : SlF zX (List.set p0.open_ ((w64 ((p0.open_.length : Int) - 1))).toNat (zB.mk x103.Kind x103.Name x103.At x103.Points x103.NX x103.NY zD1)).length zZ := by rw [hnms108]; exact Qu.2
   refine Tr.sel (lf := [(0, (.pointer (some ⟨bp0, 0, none⟩))), (1, (.agg #[(iv p1.Kind), (sv p1.Name), (iv p1.At.X), (iv p1.At.Y), (.slice zV p1.Points.length zW), (iv p1.NX), (iv p1.NY), (.slice QC p1.Steps.length QB)])), (3, (.pointer (some ⟨QG, 0, none⟩))), (4, (iv (w64 ((p0.open_.length : Int) - 1)))), (5, (.pointer (some ⟨bp0, 0, none⟩))), (6, (.pointer (some ⟨bp0, 0, none⟩))), (7, (.pointer (some ⟨bp0, 4, none⟩))), (8, (.slice zX ((List.set p0.open_ ((w64 ((p0.open_.length : Int) - 1))).toNat (zB.mk x103.Kind x103.Name x103.At x103.Points x103.NX x103.NY zD1))).length zZ)), (9, (iv (p0.open_.length : Int))), (10, (iv (w64 ((p0.open_.length : Int) - 1)))), (11, (iv (w64 ((p0.open_.length : Int) - 1)))), (12, (.bool (decide (0 ≤ (w64 ((p0.open_.length : Int) - 1)))))), (13, (.pointer (some ⟨Vf, 0, none⟩))), (14, (.bool false)), (32, (.pointer (some ⟨bp0, 0, none⟩))), (33, (.pointer (some ⟨bp0, 0, none⟩))), (34, (.pointer (some ⟨bp0, 4, none⟩))), (35, (.slice zX ((List.set p0.open_ ((w64 ((p0.open_.length : Int) - 1))).toNat (zB.mk x103.Kind x103.Name x103.At x103.Points x103.NX x103.NY zD1))).length zZ)), (36, (iv (w64 ((p0.open_.length : Int) - 1)))), (39, (.pointer (some ⟨bp0, 0, none⟩))), (40, (.pointer (some ⟨bp0, 0, none⟩))), (41, (.pointer (some ⟨bp0, 4, none⟩))), (42, (.slice zX ((List.set p0.open_ ((w64 ((p0.open_.length : Int) - 1))).toNat (zB.mk x103.Kind x103.Name x103.At x103.Points x103.NX x103.NY zD1))).length zZ)), (43, (iv (w64 ((p0.open_.length : Int) - 1)))), (49, (.agg #[(iv p1.Kind), (sv p1.Name), (iv p1.At.X), (iv p1.At.Y), (.slice zV p1.Points.length zW), (iv p1.NX), (iv p1.NY), (.slice QC p1.Steps.length QB)]))]) (le := [(0, bx bp0 #[(iv p0.p.Unit), (.slice zF p0.p.Tools.length zG), (.slice zN p0.p.Steps.length zM), (.bool p0.unit), (.slice zX ((List.set p0.open_ ((w64 ((p0.open_.length : Int) - 1))).toNat (zB.mk x103.Kind x103.Name x103.At x103.Points x103.NX x103.NY zD1))).length zZ), (.bool p0.step)] 59), (1, ow zN zM 80 zC p0.p.Steps), (2, sk zX zZ 85 80 80 zJ ms108), (3, bx QG #[(iv p1.Kind), (sv p1.Name), (iv p1.At.X), (iv p1.At.Y), (.slice zV p1.Points.length zW), (iv p1.NX), (iv p1.NY), (.slice QC p1.Steps.length QB)] 80), (4, bx Vf #[(.bool false)] 4)]) (.cons rfl (.cons rfl (.cons rfl (.cons rfl (.cons rfl (.cons rfl (.cons rfl (.cons (zIO rfl (by rw [hnms108])) (.cons rfl (.cons rfl (.cons rfl (.cons rfl (.cons rfl (.cons rfl (.cons rfl (.cons rfl (.cons rfl (.cons (zIO rfl (by rw [hnms108])) (.cons rfl (.cons rfl (.cons rfl (.cons rfl (.cons (zIO rfl (by rw [hnms108])) (.cons rfl (.cons rfl .nil))))))))))))))))))))))))) (.cons (ebx rfl (by rw [hnms108])) (.cons rfl (.cons rfl (.cons rfl (.cons rfl .nil))))) ?_
   exact Tr.out (m := []) [] zT (fun W hW => ⟨w, ((zN, zM), (zX, zZ, ms108)), leB, rfl, ⟨Wh, ⟨hmms108, hfms108⟩⟩, hW.pick (ks := [0, 1, 2]) (by decide) (zL rfl (zL rfl (zL rfl QI)))⟩)
  ·replace H : ((idx p0.open_ (w64 ((p0.open_.length : Int) - 1))).bind fun Qb => (apd Qb.Steps ([(zB.mk 0 (⟨#[]⟩) (zU.mk 0 0) [] 0 0 [])])).bind fun l112 => (idx l112 (Qb.Steps.length : Int)).bind fun x113 => (sets l112 (Qb.Steps.length : Int) p1).bind fun Va => some (p0.p.Steps, (List.set p0.open_ ((w64 ((p0.open_.length : Int) - 1))).toNat (zB.mk Qb.Kind Qb.Name Qb.At Qb.Points Qb.NX Qb.NY Va)))) = some r := by simpa only [zI3] using H
   refine St.store 2 4 (cs := [(.bool false)]) [(.bool false)] rfl (wn rfl) (.inr ⟨by simp, hb102⟩) rfl rfl rfl rfl sz_4 rfl rfl rfl ?_
   refine Dr.one 1 (by kernel_rfl) ?_
   refine St.store 1 4 (cs := [(.bool true)]) [(.bool true)] rfl (wn rfl) (.inr ⟨by simp, hb102⟩) rfl rfl rfl rfl sz_4 rfl rfl rfl ?_
   refine Dr.tail (by kernel_rfl) ?_
   refine Tr.va rfl (fun _ _ h1 h2 => zH zF9 (h1.ev rfl) (rdb h2 (vs := [(.bool true)]) (k := 4) rfl 0) rfl) ?_
   refine Tr.nil (Tr.zA (Tr.zBn rfl rfl ?_))
   refine Tr.seq ?_
   obtain ⟨Qb, hx109, H⟩ := bnd H
   obtain ⟨zIk, zIj, zIi⟩ := QP hx109
   refine Tr.skTake 2 10 11 12 13 (i := ((w64 ((p0.open_.length : Int) - 1))).toNat) rfl rfl rfl rfl rfl rfl rfl rfl rfl rfl zIi rfl Qu.1 fun bku110 u110 hoku110 hfu110 hdu110 => ?_
   obtain ⟨⟨WO, WJ⟩, ⟨WN, WI⟩⟩ := u110
   have hoku110_0 : Sl w.O w.W QH WO WJ Qb.Points := hoku110
   replace hfu110 : SlF WN Qb.Steps.length WI := hfu110
   replace hdu110 : ST Dhp0_2 p0.open_ ((w64 ((p0.open_.length : Int) - 1))).toNat bku110 ((WO, WJ), (WN, WI)) Qb := hdu110
   show Tr _ _ _ (up (up (up (up (up _ 2 (ow zX zZ 85 (flP zC) Dhp0_2)) 10 (bxs 80 zJ (List.set Dhp0_2 ((w64 ((p0.open_.length : Int) - 1))).toNat ⟨bku110, ((WO, WJ), (WN, WI)), Qb, false⟩))) 11 (ins 80 zC ((List.set Dhp0_2 ((w64 ((p0.open_.length : Int) - 1))).toNat ⟨bku110, ((WO, WJ), (WN, WI)), Qb, false⟩).map (pne zJ)))) 12 (bx bku110 #[(iv Qb.Kind), (sv Qb.Name), (iv Qb.At.X), (iv Qb.At.Y), (.slice WO Qb.Points.length WJ), (iv Qb.NX), (iv Qb.NY), (.slice WN Qb.Steps.length WI)] 80)) 13 (ow WN WI 80 zC Qb.Steps)) _
   refine Tr.drawF 13 [(12, .makeFunc (.func 0) #[] #[.const (.agg #[(iv 0), (sv ⟨#[]⟩), (iv 0), (iv 0), (.slice none 0 0), (iv 0), (iv 0), (.slice none 0 0)])])] [(12, ⟨27, 14, (.func (.func 0) #[] #[(.agg #[(iv 0), (sv ⟨#[]⟩), (iv 0), (iv 0), (.slice none 0 0), (iv 0), (iv 0), (.slice none 0 0)])]), fun b => .slice (some ⟨b, 0, none⟩) 1 1, fun b => bx b #[(iv 0), (sv ⟨#[]⟩), (iv 0), (iv 0), (.slice none 0 0), (iv 0), (iv 0), (.slice none 0 0)] 80⟩)] [(0, (.pointer (some ⟨bp0, 0, none⟩))), (1, (.agg #[(iv p1.Kind), (sv p1.Name), (iv p1.At.X), (iv p1.At.Y), (.slice zV p1.Points.length zW), (iv p1.NX), (iv p1.NY), (.slice QC p1.Steps.length QB)])), (3, (.pointer (some ⟨QG, 0, none⟩))), (4, (iv (w64 ((p0.open_.length : Int) - 1)))), (5, (.pointer (some ⟨bp0, 0, none⟩))), (6, (.pointer (some ⟨bp0, 0, none⟩))), (7, (.pointer (some ⟨bp0, 4, none⟩))), (8, (.slice zX p0.open_.length zZ)), (9, (iv (p0.open_.length : Int))), (10, (iv (w64 ((p0.open_.length : Int) - 1)))), (11, (iv (w64 ((p0.open_.length : Int) - 1)))), (12, (.bool (decide (0 ≤ (w64 ((p0.open_.length : Int) - 1)))))), (13, (.pointer (some ⟨Vf, 0, none⟩))), (14, (.bool true)), (15, (.pointer (some ⟨bp0, 0, none⟩))), (16, (.pointer (some ⟨bp0, 0, none⟩))), (17, (.pointer (some ⟨bp0, 4, none⟩))), (18, (.slice zX p0.open_.length zZ)), (19, (iv (w64 ((p0.open_.length : Int) - 1)))), (20, (.pointer (some ⟨adB zX, adO zX + ((w64 ((p0.open_.length : Int) - 1))).toNat * 1, none⟩))), (21, (.pointer (some ⟨bku110, 0, none⟩))), (22, (.pointer (some ⟨bku110, 0, none⟩))), (23, (.pointer (some ⟨bku110, 7, none⟩))), (24, (.slice WN Qb.Steps.length WI)), (25, (.agg #[(iv p1.Kind), (sv p1.Name), (iv p1.At.X), (iv p1.At.Y), (.slice zV p1.Points.length zW), (iv p1.NX), (iv p1.NY), (.slice QC p1.Steps.length QB)])), (26, (iv (Qb.Steps.length : Int))), (27, (.func (.func 0) #[] #[(.agg #[(iv 0), (sv ⟨#[]⟩), (iv 0), (iv 0), (.slice none 0 0), (iv 0), (iv 0), (.slice none 0 0)])]))] (by kernel_rfl) (by kernel_rfl) (by kernel_rfl) (by kernel_rfl) (by kernel_rfl) (by kernel_rfl) (by kernel_rfl) (Wx (fr_lit (vs := [(0, (.agg #[(iv 0), (sv ⟨#[]⟩), (iv 0), (iv 0), (.slice none 0 0), (iv 0), (iv 0), (.slice none 0 0)]))]) rfl rfl rfl (by kernel_rfl)) zAr) (Wx rfl zAr) (Wx rfl zAr) ?_ ?_
   ·refine Tq.mv rfl rfl (Tq.va rfl (fun _ _ h1 h2 => zz (h1.ev rfl)) ?_)
    refine Tq.va rfl (fun _ _ h1 h2 => zD zAp (h1.ev rfl)) ?_
    refine Tq.va rfl (fun _ _ h1 h2 => zH zF8 (h1.ev rfl) (rdb h2 (vs := [(iv p0.p.Unit), (.slice zF p0.p.Tools.length zG), (.slice zN p0.p.Steps.length zM), (.bool p0.unit), (.slice zX p0.open_.length zZ), (.bool p0.step)]) (k := 0) rfl 4) rfl) ?_
    refine Tq.mv rfl rfl (Tq.va rfl (fun _ _ h1 h2 => zR el_57 (h1.ev rfl) Qu.2 (h1.ev rfl) zIk zIj) ?_)
    refine Tq.va rfl (fun _ _ h1 h2 => zH ag_85 (h1.ev rfl) (rdo ef_P (k := 2) h2 rfl hdu110.2) rfl) ?_
    refine Tq.va rfl (fun _ _ h1 h2 => zz (h1.ev rfl)) ?_
    refine Tq.va rfl (fun _ _ h1 h2 => zD zAS (h1.ev rfl)) ?_
    refine Tq.va rfl (fun _ _ h1 h2 => zH zBp (h1.ev rfl) (rdb h2 (vs := [(iv Qb.Kind), (sv Qb.Name), (iv Qb.At.X), (iv Qb.At.Y), (.slice WO Qb.Points.length WJ), (iv Qb.NX), (iv Qb.NY), (.slice WN Qb.Steps.length WI)]) (k := 12) rfl 7) rfl) ?_
    refine Tq.va rfl (fun _ _ h1 h2 => zo (cs := [(iv p1.Kind), (sv p1.Name), (iv p1.At.X), (iv p1.At.Y), (.slice zV p1.Points.length zW), (iv p1.NX), (iv p1.NY), (.slice QC p1.Steps.length QB)]) zDA Vu (h1.ev rfl) (zf.take (rdb h2 (vs := [(iv p1.Kind), (sv p1.Name), (iv p1.At.X), (iv p1.At.Y), (.slice zV p1.Points.length zW), (iv p1.NX), (iv p1.NY), (.slice QC p1.Steps.length QB)]) (k := 3) rfl 0) 8) rfl) ?_
    refine Tq.va rfl (fun _ _ h1 h2 => QL zCU (h1.ev rfl)) ?_
    refine Tq.zGb (vs := [(.agg #[(iv 0), (sv ⟨#[]⟩), (iv 0), (iv 0), (.slice none 0 0), (iv 0), (iv 0), (.slice none 0 0)])]) (wn rfl) rfl (zI rfl zb) ?_
    exact Tq.fin (.cons rfl (.cons rfl (.cons rfl (.cons rfl (.cons rfl (.cons rfl (.cons rfl (.cons rfl (.cons rfl (.cons rfl (.cons rfl (.cons rfl (.cons rfl (.cons rfl (.cons rfl (.cons rfl (.cons rfl (.cons rfl (.cons rfl (.cons rfl (.cons rfl (.cons rfl (.cons rfl (.cons rfl (.cons rfl (.cons rfl (.cons rfl .nil)))))))))))))))))))))))))))
   ·intro bs111
    refine Tr.sel (lf := [(21, (.pointer (some ⟨bku110, 0, none⟩))), (24, (.slice WN Qb.Steps.length WI)), (25, (.agg #[(iv p1.Kind), (sv p1.Name), (iv p1.At.X), (iv p1.At.Y), (.slice zV p1.Points.length zW), (iv p1.NX), (iv p1.NY), (.slice QC p1.Steps.length QB)])), (26, (iv (Qb.Steps.length : Int))), (27, (.slice (some ⟨(bs111 12), 0, none⟩) 1 1))]) (le := [(0, bx bp0 #[(iv p0.p.Unit), (.slice zF p0.p.Tools.length zG), (.slice zN p0.p.Steps.length zM), (.bool p0.unit), (.slice zX p0.open_.length zZ), (.bool p0.step)] 59), (1, ow zN zM 80 zC p0.p.Steps), (2, ow zX zZ 85 (flP zC) Dhp0_2), (3, bx QG #[(iv p1.Kind), (sv p1.Name), (iv p1.At.X), (iv p1.At.Y), (.slice zV p1.Points.length zW), (iv p1.NX), (iv p1.NY), (.slice QC p1.Steps.length QB)] 80), (4, bx Vf #[(.bool true)] 4), (10, bxs 80 zJ (List.set Dhp0_2 ((w64 ((p0.open_.length : Int) - 1))).toNat ⟨bku110, ((WO, WJ), (WN, WI)), Qb, false⟩)), (11, ins 80 zC ((List.set Dhp0_2 ((w64 ((p0.open_.length : Int) - 1))).toNat ⟨bku110, ((WO, WJ), (WN, WI)), Qb, false⟩).map (pne zJ))), (12, bx bku110 #[(iv Qb.Kind), (sv Qb.Name), (iv Qb.At.X), (iv Qb.At.Y), (.slice WO Qb.Points.length WJ), (iv Qb.NX), (iv Qb.NY), (.slice WN Qb.Steps.length WI)] 80), (13, ow WN WI 80 zC Qb.Steps), (14, bx (bs111 12) #[(iv 0), (sv ⟨#[]⟩), (iv 0), (iv 0), (.slice none 0 0), (iv 0), (iv 0), (.slice none 0 0)] 80)]) (.cons rfl (.cons rfl (.cons rfl (.cons rfl (.cons rfl .nil))))) (.cons rfl (.cons rfl (.cons rfl (.cons rfl (.cons rfl (.cons rfl (.cons rfl (.cons rfl (.cons rfl (.cons rfl .nil)))))))))) ?_
    obtain ⟨l112, hl112, H⟩ := bnd H
    refine Tr.append 13 (t := zC) (l := Qb.Steps) (l2 := [(zB.mk 0 (⟨#[]⟩) (zU.mk 0 0) [] 0 0 [])]) (wn rfl) rfl rfl rfl rfl (fun W hW => ⟨[[(iv 0), (sv ⟨#[]⟩), (iv 0), (iv 0), (.slice none 0 0), (iv 0), (iv 0), (.slice none 0 0)]], (.cons ⟨((none, 0), (none, 0)), (Jn.2 ⟨(Sl.nil _ _ _), (Sl.nil _ _ _)⟩), rfl⟩ .nil), rdb hW (vs := [(iv 0), (sv ⟨#[]⟩), (iv 0), (iv 0), (.slice none 0 0), (iv 0), (iv 0), (.slice none 0 0)]) (k := 14) rfl 0⟩) zCU Vu zl_80 (by decide) by_80 rfl hl112 fun zHR zHM hAl112 => ?_
    refine Tr.va rfl (fun _ _ h1 h2 => zz (h1.ev rfl)) ?_
    refine Tr.va rfl (fun _ _ h1 h2 => zD zAS (h1.ev rfl)) ?_
    refine Tr.store 12 (cs := [(.slice zHR l112.length zHM)]) [(iv Qb.Kind), (sv Qb.Name), (iv Qb.At.X), (iv Qb.At.Y), (.slice WO Qb.Points.length WJ), (iv Qb.NX), (iv Qb.NY), (.slice zHR l112.length zHM)] (wn rfl) rfl rfl rfl rfl sz_23 rfl rfl rfl ?_
    refine Tr.nil (Tr.zA (Tr.region ?_))
    obtain ⟨x113, hx113, H⟩ := bnd H
    obtain ⟨hx1130, hx1131, hx1132⟩ := QP hx113
    refine Tr.va rfl (fun _ _ h1 h2 => zR zIr (h1.ev rfl) hAl112 (h1.ev rfl) hx1130 hx1131) ?_
    obtain ⟨Va, zJf, H⟩ := bnd H
    have hnl114 := zIP zJf
    refine Tr.zHY 13 (t := zC) (l := l112) (i := (Qb.Steps.length : Int)) (fo := 0) (cs := [(iv p1.Kind), (sv p1.Name), (iv p1.At.X), (iv p1.At.Y), (.slice zV p1.Points.length zW), (iv p1.NX), (iv p1.NY), (.slice QC p1.Steps.length QB)]) p1 (wn rfl) rfl rfl rfl rfl rfl hx1132 Vu rfl (fun u hu => ⟨((zV, zW), (QC, QB)), (Jn.2 ⟨Ql, zIm⟩), rfl⟩) rfl zJf ?_
    have hfl114 : SlF zHR Va.length zHM := by rw [hnl114]; exact hAl112
    refine Tr.sel (lf := [(21, (.pointer (some ⟨bku110, 0, none⟩))), (25, (.agg #[(iv p1.Kind), (sv p1.Name), (iv p1.At.X), (iv p1.At.Y), (.slice zV p1.Points.length zW), (iv p1.NX), (iv p1.NY), (.slice QC p1.Steps.length QB)])), (26, (iv (Qb.Steps.length : Int))), (28, (.slice zHR Va.length zHM)), (29, (.pointer (some ⟨bku110, 0, none⟩))), (30, (.pointer (some ⟨bku110, 7, none⟩)))]) (le := [(0, bx bp0 #[(iv p0.p.Unit), (.slice zF p0.p.Tools.length zG), (.slice zN p0.p.Steps.length zM), (.bool p0.unit), (.slice zX p0.open_.length zZ), (.bool p0.step)] 59), (1, ow zN zM 80 zC p0.p.Steps), (2, ow zX zZ 85 (flP zC) Dhp0_2), (3, bx QG #[(iv p1.Kind), (sv p1.Name), (iv p1.At.X), (iv p1.At.Y), (.slice zV p1.Points.length zW), (iv p1.NX), (iv p1.NY), (.slice QC p1.Steps.length QB)] 80), (4, bx Vf #[(.bool true)] 4), (10, bxs 80 zJ (List.set Dhp0_2 ((w64 ((p0.open_.length : Int) - 1))).toNat ⟨bku110, ((WO, WJ), (WN, WI)), Qb, false⟩)), (11, ins 80 zC ((List.set Dhp0_2 ((w64 ((p0.open_.length : Int) - 1))).toNat ⟨bku110, ((WO, WJ), (WN, WI)), Qb, false⟩).map (pne zJ))), (12, bx bku110 #[(iv Qb.Kind), (sv Qb.Name), (iv Qb.At.X), (iv Qb.At.Y), (.slice WO Qb.Points.length WJ), (iv Qb.NX), (iv Qb.NY), (.slice zHR Va.length zHM)] 80), (13, ow zHR zHM 80 zC Va)]) (.cons rfl (.cons rfl (.cons rfl (.cons (zIO rfl (by rw [hnl114])) (.cons rfl (.cons rfl .nil)))))) (.cons rfl (.cons rfl (.cons rfl (.cons rfl (.cons rfl (.cons rfl (.cons rfl (.cons (ebx rfl (by rw [hnl114])) (.cons rfl .nil))))))))) ?_
    refine Tr.nil (Tr.zIX ?_)
    obtain rfl := Option.some.inj H
    refine Tr.skPut (L := zJ) 2 10 11 12 13 (u := ((WO, WJ), (zHR, zHM))) (x' := (zB.mk Qb.Kind Qb.Name Qb.At Qb.Points Qb.NX Qb.NY Va)) (cs := [(iv Qb.Kind), (sv Qb.Name), (iv Qb.At.X), (iv Qb.At.Y), (.slice WO Qb.Points.length WJ), (iv Qb.NX), (iv Qb.NY), (.slice zHR Va.length zHM)]) rfl rfl rfl rfl rfl rfl rfl rfl rfl rfl rfl rfl rfl rfl rfl hdu110 hoku110_0 rfl rfl rfl hfl114 fun ms115 hmms115 => ?_
    have hnms115 : (List.set p0.open_ ((w64 ((p0.open_.length : Int) - 1))).toNat (zB.mk Qb.Kind Qb.Name Qb.At Qb.Points Qb.NX Qb.NY Va)).length = p0.open_.length := List.length_set
    have hfms115 : SlF zX (List.set p0.open_ ((w64 ((p0.open_.length : Int) - 1))).toNat (zB.mk Qb.Kind Qb.Name Qb.At Qb.Points Qb.NX Qb.NY Va)).length zZ := by rw [hnms115]; exact Qu.2
    refine Tr.sel (lf := [(25, (.agg #[(iv p1.Kind), (sv p1.Name), (iv p1.At.X), (iv p1.At.Y), (.slice zV p1.Points.length zW), (iv p1.NX), (iv p1.NY), (.slice QC p1.Steps.length QB)])), (26, (iv (Qb.Steps.length : Int)))]) (le := [(0, bx bp0 #[(iv p0.p.Unit), (.slice zF p0.p.Tools.length zG), (.slice zN p0.p.Steps.length zM), (.bool p0.unit), (.slice zX ((List.set p0.open_ ((w64 ((p0.open_.length : Int) - 1))).toNat (zB.mk Qb.Kind Qb.Name Qb.At Qb.Points Qb.NX Qb.NY Va))).length zZ), (.bool p0.step)] 59), (1, ow zN zM 80 zC p0.p.Steps), (2, sk zX zZ 85 80 80 zJ ms115), (3, bx QG #[(iv p1.Kind), (sv p1.Name), (iv p1.At.X), (iv p1.At.Y), (.slice zV p1.Points.length zW), (iv p1.NX), (iv p1.NY), (.slice QC p1.Steps.length QB)] 80), (4, bx Vf #[(.bool true)] 4)]) (.cons rfl (.cons rfl .nil)) (.cons (ebx rfl (by rw [hnms115])) (.cons rfl (.cons rfl (.cons rfl (.cons rfl .nil))))) ?_
    exact Tr.out (m := []) [] zT (fun W hW => ⟨w, ((zN, zM), (zX, zZ, ms115)), leB, rfl, ⟨Wh, ⟨hmms115, hfms115⟩⟩, hW.pick (ks := [0, 1, 2]) (by decide) (zL rfl (zL rfl (zL rfl QI)))⟩)
 ·refine Tr.zJw 15 [(8, (ow zN zM 80 zC p0.p.Steps).S), (10, (ow zN zM 80 zC p0.p.Steps).S), (14, fun x => x = bp0)] [10] (by kernel_rfl) (by kernel_rfl) fun sz116 hlosz116 hEsz116 => ?_
  refine Dr.quiet 0 [(54, (.pointer (some ⟨bp0, 0, none⟩)))] (by kernel_rfl) rfl rfl (by kernel_rfl) ?_ rfl rfl ?_
  ·exact Tq.mv rfl rfl (Tq.fin (.cons rfl .nil))
  refine Dr.quiet 1 [(55, (.pointer (some ⟨bp0, 0, none⟩)))] (by kernel_rfl) rfl rfl (by kernel_rfl) ?_ rfl rfl ?_
  ·refine Tq.va rfl (fun _ _ h1 h2 => zz (h1.ev rfl)) ?_
   exact Tq.fin (.cons rfl .nil)
  refine Dr.quiet 2 [(56, (.pointer (some ⟨bp0, 0, none⟩)))] (by kernel_rfl) rfl rfl (by kernel_rfl) ?_ rfl rfl ?_
  ·refine Tq.va rfl (fun _ _ h1 h2 => zD zDY (h1.ev rfl)) ?_
   exact Tq.fin (.cons rfl .nil)
  refine Dr.quiet 3 [(57, (.pointer (some ⟨bp0, 2, none⟩)))] (by kernel_rfl) rfl rfl (by kernel_rfl) ?_ rfl rfl ?_
  ·refine Tq.va rfl (fun _ _ h1 h2 => zD zDa (h1.ev rfl)) ?_
   exact Tq.fin (.cons rfl .nil)
  refine Dr.quiet 4 [(58, (.slice zN p0.p.Steps.length zM))] (by kernel_rfl) rfl rfl (by kernel_rfl) ?_ rfl rfl ?_
  ·refine Tq.va rfl (fun _ _ h1 h2 => zH zBp (h1.ev rfl) (rdb h2 (vs := [(iv p0.p.Unit), (.slice zF p0.p.Tools.length zG), (.slice zN p0.p.Steps.length zM), (.bool p0.unit), (.slice zX p0.open_.length zZ), (.bool p0.step)]) (k := 0) rfl 2) rfl) ?_
   exact Tq.fin (.cons rfl .nil)
  refine Dr.quiet 5 [(59, (.agg #[(iv p1.Kind), (sv p1.Name), (iv p1.At.X), (iv p1.At.Y), (.slice zV p1.Points.length zW), (iv p1.NX), (iv p1.NY), (.slice QC p1.Steps.length QB)]))] (by kernel_rfl) rfl rfl (by kernel_rfl) ?_ rfl rfl ?_
  ·refine Tq.va rfl (fun _ _ h1 h2 => zo (cs := [(iv p1.Kind), (sv p1.Name), (iv p1.At.X), (iv p1.At.Y), (.slice zV p1.Points.length zW), (iv p1.NX), (iv p1.NY), (.slice QC p1.Steps.length QB)]) zDA Vu (h1.ev rfl) (zf.take (rdb h2 (vs := [(iv p1.Kind), (sv p1.Name), (iv p1.At.X), (iv p1.At.Y), (.slice zV p1.Points.length zW), (iv p1.NX), (iv p1.NY), (.slice QC p1.Steps.length QB)]) (k := 3) rfl 0) 8) rfl) ?_
   exact Tq.fin (.cons rfl .nil)
  refine Dr.quiet 6 [(60, (iv (p0.p.Steps.length : Int)))] (by kernel_rfl) rfl rfl (by kernel_rfl) ?_ rfl rfl ?_
  ·refine Tq.va rfl (fun _ _ h1 h2 => QL zCU (h1.ev rfl)) ?_
   exact Tq.fin (.cons rfl .nil)
  refine Dr.one 7 (by kernel_rfl) ?_
  refine St.buildSlice 7 15 (e := 80) (vs := [(0, (.agg #[(iv 0), (sv ⟨#[]⟩), (iv 0), (iv 0), (.slice none 0 0), (iv 0), (iv 0), (.slice none 0 0)]))]) (cs := [(iv 0), (sv ⟨#[]⟩), (iv 0), (iv 0), (.slice none 0 0), (iv 0), (iv 0), (.slice none 0 0)]) rfl (wn rfl) rfl (QE rfl Qq) (by kernel_rfl) fun b117 hb117 => ?_
  obtain ⟨l118, hl118, H⟩ := bnd H
  refine Dr.one 8 (by kernel_rfl) ?_
  refine St.appendY 8 1 (t' := zC) (ll := p0.p.Steps) (l2 := [(zB.mk 0 (⟨#[]⟩) (zU.mk 0 0) [] 0 0 [])]) (fun b hb => .inl ⟨_, List.mem_cons_self, rfl, hb⟩) rfl (wn rfl) rfl rfl rfl rfl (fun W hW => ⟨[[(iv 0), (sv ⟨#[]⟩), (iv 0), (iv 0), (.slice none 0 0), (iv 0), (iv 0), (.slice none 0 0)]], (.cons ⟨((none, 0), (none, 0)), (Jn.2 ⟨(Sl.nil _ _ _), (Sl.nil _ _ _)⟩), rfl⟩ .nil), rdb hW (vs := [(iv 0), (sv ⟨#[]⟩), (iv 0), (iv 0), (.slice none 0 0), (iv 0), (iv 0), (.slice none 0 0)]) (k := 15) rfl 0⟩) zCU Vu zl_80 (by decide) by_80 rfl hl118 fun zDG zC8 hAl118 hn8_sz116 => ?_
  obtain ⟨x119, hx119, H⟩ := bnd H
  obtain ⟨hx1190, hx1191, hx1192⟩ := QP hx119
  refine Dr.Jb 9 (by kernel_rfl) rfl (wn rfl) rfl (by kernel_rfl) (fun _ _ h1 => zR zIr (h1.ev rfl) hAl118 (h1.ev rfl) hx1190 hx1191) rfl ?_
  refine Dr.Jb 11 (by kernel_rfl) rfl (wn rfl) rfl (by kernel_rfl) (fun _ _ h1 => zz (h1.ev rfl)) rfl ?_
  refine Dr.Jb 12 (by kernel_rfl) rfl (wn rfl) rfl (by kernel_rfl) (fun _ _ h1 => zD zDY (h1.ev rfl)) rfl ?_
  refine Dr.Jb 13 (by kernel_rfl) rfl (wn rfl) rfl (by kernel_rfl) (fun _ _ h1 => zD zDa (h1.ev rfl)) rfl ?_
  refine Dr.pair 10 14 (by kernel_rfl) ?_ ?_
  ·obtain ⟨zJL, hl120, H⟩ := bnd H
   have hnl120 := zIP hl120
   refine St.zHY 10 1 (t' := zC) (ll := l118) (ix := (p0.p.Steps.length : Int)) (fo := 0) (cs := [(iv p1.Kind), (sv p1.Name), (iv p1.At.X), (iv p1.At.Y), (.slice zV p1.Points.length zW), (iv p1.NX), (iv p1.NY), (.slice QC p1.Steps.length QB)]) p1 (fun b hb => (hn8_sz116 b hb).elim (fun h => .inr ⟨by simp, h⟩) (fun h => .inl ⟨_, (List.mem_cons_of_mem _ List.mem_cons_self), rfl, h⟩)) rfl (wn rfl) rfl rfl rfl rfl rfl hx1192 Vu rfl (fun u hu => ⟨((zV, zW), (QC, QB)), (Jn.2 ⟨Ql, zIm⟩), rfl⟩) rfl hl120 ?_
   have hfl120 : SlF zDG zJL.length zC8 := by rw [hnl120]; exact hAl118
   refine Dr.use (lf := [(0, (.pointer (some ⟨bp0, 0, none⟩))), (1, (.agg #[(iv p1.Kind), (sv p1.Name), (iv p1.At.X), (iv p1.At.Y), (.slice zV p1.Points.length zW), (iv p1.NX), (iv p1.NY), (.slice QC p1.Steps.length QB)])), (3, (.pointer (some ⟨QG, 0, none⟩))), (4, (iv (w64 ((p0.open_.length : Int) - 1)))), (5, (.pointer (some ⟨bp0, 0, none⟩))), (6, (.pointer (some ⟨bp0, 0, none⟩))), (7, (.pointer (some ⟨bp0, 4, none⟩))), (8, (.slice zX p0.open_.length zZ)), (9, (iv (p0.open_.length : Int))), (10, (iv (w64 ((p0.open_.length : Int) - 1)))), (11, (iv (w64 ((p0.open_.length : Int) - 1)))), (12, (.bool (decide (0 ≤ (w64 ((p0.open_.length : Int) - 1)))))), (54, (.pointer (some ⟨bp0, 0, none⟩))), (55, (.pointer (some ⟨bp0, 0, none⟩))), (56, (.pointer (some ⟨bp0, 0, none⟩))), (57, (.pointer (some ⟨bp0, 2, none⟩))), (59, (.agg #[(iv p1.Kind), (sv p1.Name), (iv p1.At.X), (iv p1.At.Y), (.slice zV p1.Points.length zW), (iv p1.NX), (iv p1.NY), (.slice QC p1.Steps.length QB)])), (60, (iv (p0.p.Steps.length : Int))), (62, (.slice zDG zJL.length zC8)), (64, (.pointer (some ⟨bp0, 0, none⟩))), (65, (.pointer (some ⟨bp0, 0, none⟩))), (66, (.pointer (some ⟨bp0, 2, none⟩)))]) (le := [(0, bx bp0 #[(iv p0.p.Unit), (.slice zF p0.p.Tools.length zG), (.slice zN p0.p.Steps.length zM), (.bool p0.unit), (.slice zX p0.open_.length zZ), (.bool p0.step)] 59), (1, ow zDG zC8 80 zC zJL), (2, sk zX zZ 85 80 80 zJ Dhp0_2), (3, bx QG #[(iv p1.Kind), (sv p1.Name), (iv p1.At.X), (iv p1.At.Y), (.slice zV p1.Points.length zW), (iv p1.NX), (iv p1.NY), (.slice QC p1.Steps.length QB)] 80)]) ?_ rfl (.cons rfl (.cons rfl (.cons rfl (.cons rfl (.cons rfl (.cons rfl (.cons rfl (.cons rfl (.cons rfl (.cons rfl (.cons rfl (.cons rfl (.cons rfl (.cons rfl (.cons rfl (.cons rfl (.cons rfl (.cons rfl (.cons (zIO rfl (by rw [hnl120])) (.cons rfl (.cons rfl (.cons rfl .nil)))))))))))))))))))))) (.cons rfl (.cons rfl (.cons rfl (.cons rfl .nil))))
   refine Dr.one 14 (by kernel_rfl) ?_
   refine St.store 14 0 (cs := [(.slice zDG zJL.length zC8)]) [(iv p0.p.Unit), (.slice zF p0.p.Tools.length zG), (.slice zDG zJL.length zC8), (.bool p0.unit), (.slice zX p0.open_.length zZ), (.bool p0.step)] rfl (wn rfl) (.inl ⟨_, (List.mem_cons_of_mem _ (List.mem_cons_of_mem _ List.mem_cons_self)), rfl, rfl⟩) rfl rfl rfl rfl sz_23 rfl rfl rfl ?_
   refine Dr.tail (by kernel_rfl) ?_
   refine Tr.nil (Tr.zIX ?_)
   obtain rfl := Option.some.inj H
   exact Tr.out (m := []) [] zT (fun W hW => ⟨w, ((zDG, zC8), (zX, zZ, Dhp0_2)), leB, rfl, ⟨hfl120, ⟨Qu.1, Qu.2⟩⟩, hW.pick (ks := [0, 1, 2]) (by decide) (zL rfl (zL rfl (zL rfl QI)))⟩)
  ·replace H : ((sets l118 (p0.p.Steps.length : Int) p1).bind fun l121 => some (l121, p0.open_)) = some r := by simpa only [zI3] using H
   refine St.store 14 0 (cs := [(.slice zDG l118.length zC8)]) [(iv p0.p.Unit), (.slice zF p0.p.Tools.length zG), (.slice zDG l118.length zC8), (.bool p0.unit), (.slice zX p0.open_.length zZ), (.bool p0.step)] rfl (wn rfl) (.inl ⟨_, (List.mem_cons_of_mem _ (List.mem_cons_of_mem _ List.mem_cons_self)), rfl, rfl⟩) rfl rfl rfl rfl sz_23 rfl rfl rfl ?_
   obtain ⟨l121, hl121, H⟩ := bnd H
   refine Dr.one 10 (by kernel_rfl) ?_
   have hnl121 := zIP hl121
   refine St.zHY 10 1 (t' := zC) (ll := l118) (ix := (p0.p.Steps.length : Int)) (fo := 0) (cs := [(iv p1.Kind), (sv p1.Name), (iv p1.At.X), (iv p1.At.Y), (.slice zV p1.Points.length zW), (iv p1.NX), (iv p1.NY), (.slice QC p1.Steps.length QB)]) p1 (fun b hb => (hn8_sz116 b hb).elim (fun h => .inr ⟨by simp, h⟩) (fun h => .inl ⟨_, (List.mem_cons_of_mem _ List.mem_cons_self), rfl, h⟩)) rfl (wn rfl) rfl rfl rfl rfl rfl hx1192 Vu rfl (fun u hu => ⟨((zV, zW), (QC, QB)), (Jn.2 ⟨Ql, zIm⟩), rfl⟩) rfl hl121 ?_
   have hfl121 : SlF zDG l121.length zC8 := by rw [hnl121]; exact hAl118
   refine Dr.use (lf := [(0, (.pointer (some ⟨bp0, 0, none⟩))), (1, (.agg #[(iv p1.Kind), (sv p1.Name), (iv p1.At.X), (iv p1.At.Y), (.slice zV p1.Points.length zW), (iv p1.NX), (iv p1.NY), (.slice QC p1.Steps.length QB)])), (3, (.pointer (some ⟨QG, 0, none⟩))), (4, (iv (w64 ((p0.open_.length : Int) - 1)))), (5, (.pointer (some ⟨bp0, 0, none⟩))), (6, (.pointer (some ⟨bp0, 0, none⟩))), (7, (.pointer (some ⟨bp0, 4, none⟩))), (8, (.slice zX p0.open_.length zZ)), (9, (iv (p0.open_.length : Int))), (10, (iv (w64 ((p0.open_.length : Int) - 1)))), (11, (iv (w64 ((p0.open_.length : Int) - 1)))), (12, (.bool (decide (0 ≤ (w64 ((p0.open_.length : Int) - 1)))))), (54, (.pointer (some ⟨bp0, 0, none⟩))), (55, (.pointer (some ⟨bp0, 0, none⟩))), (56, (.pointer (some ⟨bp0, 0, none⟩))), (57, (.pointer (some ⟨bp0, 2, none⟩))), (59, (.agg #[(iv p1.Kind), (sv p1.Name), (iv p1.At.X), (iv p1.At.Y), (.slice zV p1.Points.length zW), (iv p1.NX), (iv p1.NY), (.slice QC p1.Steps.length QB)])), (60, (iv (p0.p.Steps.length : Int))), (62, (.slice zDG l121.length zC8)), (64, (.pointer (some ⟨bp0, 0, none⟩))), (65, (.pointer (some ⟨bp0, 0, none⟩))), (66, (.pointer (some ⟨bp0, 2, none⟩)))]) (le := [(0, bx bp0 #[(iv p0.p.Unit), (.slice zF p0.p.Tools.length zG), (.slice zDG l121.length zC8), (.bool p0.unit), (.slice zX p0.open_.length zZ), (.bool p0.step)] 59), (1, ow zDG zC8 80 zC l121), (2, sk zX zZ 85 80 80 zJ Dhp0_2), (3, bx QG #[(iv p1.Kind), (sv p1.Name), (iv p1.At.X), (iv p1.At.Y), (.slice zV p1.Points.length zW), (iv p1.NX), (iv p1.NY), (.slice QC p1.Steps.length QB)] 80)]) ?_ rfl (.cons rfl (.cons rfl (.cons rfl (.cons rfl (.cons rfl (.cons rfl (.cons rfl (.cons rfl (.cons rfl (.cons rfl (.cons rfl (.cons rfl (.cons rfl (.cons rfl (.cons rfl (.cons rfl (.cons rfl (.cons rfl (.cons (zIO rfl (by rw [hnl121])) (.cons rfl (.cons rfl (.cons rfl .nil)))))))))))))))))))))) (.cons (ebx rfl (by rw [hnl121])) (.cons rfl (.cons rfl (.cons rfl .nil))))
   refine Dr.tail (by kernel_rfl) ?_
   refine Tr.nil (Tr.zIX ?_)
   obtain rfl := Option.some.inj H
   exact Tr.out (m := []) [] zT (fun W hW => ⟨w, ((zDG, zC8), (zX, zZ, Dhp0_2)), leB, rfl, ⟨hfl121, ⟨Qu.1, Qu.2⟩⟩, hW.pick (ks := [0, 1, 2]) (by decide) (zL rfl (zL rfl (zL rfl QI)))⟩)

theorem zCs {w : Bs} (p0 : (List ByteArray)) (zF : Option Addr) (zG : Nat) (zl : Sl w.R w.W zAq zF zG p0) (p1 : ByteArray) (r : Int) (H : Qk p0 p1 = some r) (hE : HF w w.W E0) : Calls Tryz.prog 58 [(.slice zF p0.length zG), (sv p1)].toArray w.W fun e W' => e = .returned (iv r) ∧ HF w W' E0 := by
 unfold Qk at H
 have leB := Bs.Le.refl w
 refine Tr.enter (n := 19) Tryz.func58 rfl rfl rfl hE ?_
 refine Tr.sr (Tr.asg rfl rfl (Tr.nil (Tr.zA (Tr.seq (Tr.sr (Tr.mv rfl rfl (Tr.va rfl (fun _ _ h1 h2 => QL un_66 (h1.ev rfl)) ?_)))))))
 refine Tr.mv rfl rfl (Tr.nil (Tr.zA (Tr.block (Tr.loop (σ := (List ByteArray) × Nat) (fun m w s => m = s.1.length + 1 ∧ s.1 = List.drop s.2 p0 ∧ s.2 ≤ p0.length ∧ Qh p1 s.1 s.2 = some r) (fun s => [(0, (.slice zF p0.length zG)), (1, (sv p1)), (7, (iv (p0.length : Int))), (8, (iv (s.2 : Int)))]) (fun s => []) (p0.length + 1) (p0, 0) ⟨rfl, rfl, Nat.zero_le _, H⟩ (.cons rfl (.cons rfl (.cons rfl (.cons rfl .nil)))) .nil (fun _ _ h => absurd h.1 (by simp)) ?_))))
 intro w Qy m s hs
 obtain ⟨ze, iL1⟩ := s
 obtain ⟨WF, QM, hiL1, H⟩ := hs
 replace QM : ze = List.drop iL1 p0 := QM
 replace H : Qh p1 ze iL1 = some r := H
 replace WF : m + 1 = ze.length + 1 := WF
 replace zl := zl.leR Qy
 replace leB := leB.trans Qy
 obtain rfl : m = ze.length := by omega
 clear WF
 show Tr _ _ (LF [(0, (.slice zF p0.length zG)), (1, (sv p1)), (7, (iv (p0.length : Int))), (8, (iv (iL1 : Int)))]) (LE []) _
 cases ze with
 | nil =>
  rw [Qh.eq_1] at H
  refine Tr.sr (Tr.va rfl (fun _ _ h1 h2 => Qm (h1.ev rfl) (h1.ev rfl)) ?_)
  refine Tr.nil (Tr.zA (Tr.seq (Tr.zCJ rfl (VR QM) ?_)))
  refine Tr.exit (Tr.QK (Tr.QK (Tr.JV (Tr.zA (Tr.sr (Tr.asg rfl rfl (Tr.nil (Tr.zA (Tr.ret ?_)))))))))
  obtain rfl := Option.some.inj H
  exact Tr.out (m := [(iv (-1))]) [] (zQ rfl zT) (fun W hW => ⟨rfl, hW.low leB⟩)
 | cons xL1 ze =>
  rw [Qh.eq_2] at H
  refine Tr.sr (Tr.va rfl (fun _ _ h1 h2 => Qm (h1.ev rfl) (h1.ev rfl)) ?_)
  refine Tr.nil (Tr.zA (Tr.seq (Tr.zBn rfl (Vj QM) ?_)))
  refine Tr.skip (Tr.zA (Tr.seq (Tr.block (Tr.sr (Tr.mv rfl rfl (Tr.asg rfl rfl (Tr.nil (Tr.zA (Tr.sr (Tr.mv rfl rfl ?_))))))))))
  refine Tr.mv rfl rfl (Tr.mv rfl rfl (Tr.va rfl (fun _ _ h1 h2 => zR zCc (h1.ev rfl) zl.form (h1.ev rfl) (Int.natCast_nonneg _) (QX QM)) ?_))
  refine Tr.va rfl (fun _ _ h1 h2 => zH zB2 (h1.ev rfl) (rdF zBj zl (Vk QM) h2) rfl) ?_
  refine Tr.va rfl (fun _ _ h1 h2 => Kv (h1.ev rfl) (h1.ev rfl)) ?_
  refine Tr.nil (Tr.zA (Tr.cond rfl H (fun H => ?_) (fun H => ?_)))
  ·refine Tr.sr (Tr.mv rfl rfl (Tr.asg rfl rfl (Tr.nil (Tr.zA (Tr.ret (Tr.zm (Tr.zO (Tr.zO (Tr.zm (Tr.zO ?_))))))))))
   obtain rfl := Option.some.inj H
   exact Tr.out (m := [(iv (iL1 : Int))]) [] (zQ rfl zT) (fun W hW => ⟨rfl, hW.low leB⟩)
  ·refine Tr.skip (Tr.zx (Tr.zA (Tr.region (Tr.va rfl (fun _ _ h1 h2 => Qo (h1.ev rfl) (h1.ev rfl)) ?_))))
   exact Tr.mv rfl rfl (Tr.nil (Tr.QF Qy (ze, (iL1 + 1)) ⟨rfl, KE QM, QX QM, H⟩ (.cons rfl (.cons rfl (.cons rfl (.cons (congrArg (fun z => some (Value.int .i64 z)) (KD QM zl.form)) .nil)))) .nil))

theorem zCO (N : Nat) {w : Bs} (p0 : QD) (zF : Option Addr) (zG : Nat) (zl : Sl w.R w.W zK zF zG p0.p.Tools) (zN : Option Addr) (zM : Nat) (zX : Option Addr) (zZ : Nat) (Dhp0_2 : List (PE zC)) (Qu : SK Dhp0_2 p0.open_ ∧ SlF zX p0.open_.length zZ) (bp0 : Nat) (p1 : ByteArray) (p2 : (List Int)) (VV : Option Addr) (zAt : Nat) (zAc : Sl w.R w.W Kh VV zAt p2) (r : (Bool × (List zB) × (List zB))) (H : JE N p0 p1 p2 = some r) (hE : HF w w.W (LEn [bx bp0 #[(iv p0.p.Unit), (.slice zF p0.p.Tools.length zG), (.slice zN p0.p.Steps.length zM), (.bool p0.unit), (.slice zX p0.open_.length zZ), (.bool p0.step)] 59, ow zN zM 80 zC p0.p.Steps, sk zX zZ 85 80 80 zJ Dhp0_2])) : Calls Tryz.prog 37 [(.pointer (some ⟨bp0, 0, none⟩)), (sv p1), (.slice VV p2.length zAt)].toArray w.W fun e W' => ∃ (w' : Bs) (u : (Option Addr × Nat) × (Option Addr × Nat × List (PE zC))), w.Le w' ∧ e = .returned (.bool r.1) ∧ (SlF u.1.1 r.2.1.length u.1.2 ∧ (SK u.2.2.2 r.2.2 ∧ SlF u.2.1 r.2.2.length u.2.2.1)) ∧ HF w' W' (LEn [bx bp0 #[(iv p0.p.Unit), (.slice zF p0.p.Tools.length zG), (.slice u.1.1 r.2.1.length u.1.2), (.bool p0.unit), (.slice u.2.1 r.2.2.length u.2.2.1), (.bool p0.step)] 59, ow u.1.1 u.1.2 80 zC r.2.1, sk u.2.1 u.2.2.1 85 80 80 zJ u.2.2.2]) := by
 unfold JE at H
 have Wh := (hE.sl (k := 1) rfl).form
 have leB := Bs.Le.refl w
 refine Tr.enter (n := 91) Tryz.func37 rfl rfl rfl hE ?_
 refine Tr.sr (Tr.asg rfl rfl (Tr.nil (Tr.zA (Tr.sr (Tr.build (vs := []) (cs := [(iv 0), (sv ⟨#[]⟩), (iv 0), (iv 0), (.slice none 0 0), (iv 0), (iv 0), (.slice none 0 0)]) (wn rfl) rfl Qq (by kernel_rfl) ?_)))))
 refine Tr.alloc 3 (wn rfl) rfl zFO fun QG => ?_
 refine Tr.store 3 (cs := [(iv 0), (sv ⟨#[]⟩), (iv 0), (iv 0), (.slice none 0 0), (iv 0), (iv 0), (.slice none 0 0)]) [(iv 0), (sv ⟨#[]⟩), (iv 0), (iv 0), (.slice none 0 0), (iv 0), (iv 0), (.slice none 0 0)] (wn rfl) rfl rfl rfl rfl Vu rfl rfl rfl ?_
 refine Tr.nil (Tr.zA ?_)
 have leJ142 := Bs.Le.refl w
 refine Tr.cutJ (σ := Int × Int × Int × (List zU) × (Option Addr) × Nat) (fun w s => Qj p0 s.1 s.2.1 s.2.2.1 s.2.2.2.1 = some r ∧ SlF s.2.2.2.2.1 s.2.2.2.1.length s.2.2.2.2.2) (fun s => [(0, (.pointer (some ⟨bp0, 0, none⟩))), (7, (.pointer (some ⟨QG, 0, none⟩)))]) (fun s => [(0, bx bp0 #[(iv p0.p.Unit), (.slice zF p0.p.Tools.length zG), (.slice zN p0.p.Steps.length zM), (.bool p0.unit), (.slice zX p0.open_.length zZ), (.bool p0.step)] 59), (1, ow zN zM 80 zC p0.p.Steps), (2, sk zX zZ 85 80 80 zJ Dhp0_2), (3, bx QG #[(iv s.1), (sv ⟨#[]⟩), (iv s.2.1), (iv s.2.2.1), (.slice s.2.2.2.2.1 s.2.2.2.1.length s.2.2.2.2.2), (iv 0), (iv 0), (.slice none 0 0)] 80), (18, ow s.2.2.2.2.1 s.2.2.2.2.2 52 QH s.2.2.2.1)]) ?_ ?_
 ·refine Tr.sr (Tr.mv rfl rfl (Tr.nil (Tr.zA (Tr.block ?_))))
  have leJ149 := Bs.Le.refl w
  refine Tr.cutJ (σ := Bool) (fun w s => zy N p0 p1 p2 s = some r) (fun s => [(0, (.pointer (some ⟨bp0, 0, none⟩))), (1, (sv p1)), (2, (.slice VV p2.length zAt)), (7, (.pointer (some ⟨QG, 0, none⟩))), (10, (sv p1)), (11, (.bool s))]) (fun s => [(0, bx bp0 #[(iv p0.p.Unit), (.slice zF p0.p.Tools.length zG), (.slice zN p0.p.Steps.length zM), (.bool p0.unit), (.slice zX p0.open_.length zZ), (.bool p0.step)] 59), (1, ow zN zM 80 zC p0.p.Steps), (2, sk zX zZ 85 80 80 zJ Dhp0_2), (3, bx QG #[(iv 0), (sv ⟨#[]⟩), (iv 0), (iv 0), (.slice none 0 0), (iv 0), (iv 0), (.slice none 0 0)] 80)]) ?_ ?_
  ·refine Tr.sr (Tr.va rfl (fun _ _ h1 h2 => Kv (h1.ev rfl) (h1.ev rfl)) ?_)
   refine Tr.asg rfl rfl (Tr.nil (Tr.zA (Tr.cond rfl H (fun H => ?_) (fun H => ?_))))
   ·exact Tr.skip (Tr.QF leJ149 (sEq p1 (⟨#[109, 111, 118, 101]⟩)) H (.cons rfl (.cons rfl (.cons rfl (.cons rfl (.cons rfl (.cons rfl .nil)))))) (.cons rfl (.cons rfl (.cons rfl (.cons rfl .nil)))))
   ·refine Tr.sr (Tr.va rfl (fun _ _ h1 h2 => Kv (h1.ev rfl) (h1.ev rfl)) ?_)
    refine Tr.asg rfl rfl (Tr.nil (Tr.zA (Tr.cond rfl H (fun H => ?_) (fun H => ?_))))
    ·exact Tr.skip (Tr.QF leJ149 (sEq p1 (⟨#[102, 108, 97, 115, 104]⟩)) H (.cons rfl (.cons rfl (.cons rfl (.cons rfl (.cons rfl (.cons rfl .nil)))))) (.cons rfl (.cons rfl (.cons rfl (.cons rfl .nil)))))
    ·refine Tr.region (Tr.va rfl (fun _ _ h1 h2 => Kv (h1.ev rfl) (h1.ev rfl)) ?_)
     exact Tr.asg rfl rfl (Tr.nil (Tr.QF leJ149 (sEq p1 (⟨#[108, 105, 110, 101]⟩)) H (.cons rfl (.cons rfl (.cons rfl (.cons rfl (.cons rfl (.cons rfl .nil)))))) (.cons rfl (.cons rfl (.cons rfl (.cons rfl .nil))))))
  ·intro w x148 hlJ150 hs
   have H := hs
   replace H : zy N p0 p1 p2 x148 = some r := H
   replace zAc := zAc.leR hlJ150
   replace leB := leB.trans hlJ150
   replace leJ142 := leJ142.trans hlJ150
   unfold zy at H
   show Tr _ _ (LF [(0, (.pointer (some ⟨bp0, 0, none⟩))), (1, (sv p1)), (2, (.slice VV p2.length zAt)), (7, (.pointer (some ⟨QG, 0, none⟩))), (10, (sv p1)), (11, (.bool x148))]) (LE [(0, bx bp0 #[(iv p0.p.Unit), (.slice zF p0.p.Tools.length zG), (.slice zN p0.p.Steps.length zM), (.bool p0.unit), (.slice zX p0.open_.length zZ), (.bool p0.step)] 59), (1, ow zN zM 80 zC p0.p.Steps), (2, sk zX zZ 85 80 80 zJ Dhp0_2), (3, bx QG #[(iv 0), (sv ⟨#[]⟩), (iv 0), (iv 0), (.slice none 0 0), (iv 0), (iv 0), (.slice none 0 0)] 80)]) _
   refine Tr.cond rfl H (fun H => ?_) (fun H => ?_)
   ·refine Tr.seq (Tr.sr (Tr.mv rfl rfl (Tr.va rfl (fun _ _ h1 h2 => QL zFS (h1.ev rfl)) ?_)))
    refine Tr.va rfl (fun _ _ h1 h2 => Jw (h1.ev rfl) (h1.ev rfl)) ?_
    refine Tr.nil (Tr.zA (Tr.cond rfl H (fun H => ?_) (fun H => ?_)))
    ·refine Tr.sr (Tr.asg rfl rfl (Tr.nil (Tr.zA (Tr.ret (Tr.zO (Tr.zm (Tr.zO ?_)))))))
     obtain rfl := Option.some.inj H
     exact Tr.out (m := [(.bool false)]) [] (zQ rfl zT) (fun W hW => ⟨w, ((zN, zM), (zX, zZ, Dhp0_2)), leB, rfl, ⟨Wh, ⟨Qu.1, Qu.2⟩⟩, hW.pick (ks := [0, 1, 2]) (by decide) (zL rfl (zL rfl (zL rfl QI)))⟩)
    ·refine Tr.skip (Tr.zA (Tr.sr (Tr.buildSlice 19 (e := 9) (vs := [(0, (sv ⟨#[109, 111, 118, 101]⟩)), (1, (sv ⟨#[102, 108, 97, 115, 104]⟩)), (2, (sv ⟨#[108, 105, 110, 101]⟩))]) (cs := [(sv ⟨#[109, 111, 118, 101]⟩), (sv ⟨#[102, 108, 97, 115, 104]⟩), (sv ⟨#[108, 105, 110, 101]⟩)]) (wn rfl) rfl (QE rfl (QE rfl (QE rfl Qq))) (by kernel_rfl) fun b151 => ?_)))
     refine Tr.mv rfl rfl (Tr.own 19 zAq [⟨#[109, 111, 118, 101]⟩, ⟨#[102, 108, 97, 115, 104]⟩, ⟨#[108, 105, 110, 101]⟩] (css := [[(sv ⟨#[109, 111, 118, 101]⟩)], [(sv ⟨#[102, 108, 97, 115, 104]⟩)], [(sv ⟨#[108, 105, 110, 101]⟩)]]) rfl (.cons ⟨(), trivial, rfl⟩ (.cons ⟨(), trivial, rfl⟩ (.cons ⟨(), trivial, rfl⟩ .nil))) rfl (by decide) (zEZ rfl) ?_)
     obtain ⟨y152, hy152, H⟩ := bnd H
     refine Tr.Qr (r := (iv y152)) (wn rfl) rfl Tryz.call58 (zI rfl (zI rfl zb)) (fun W hW => zCs ([⟨#[109, 111, 118, 101]⟩, ⟨#[102, 108, 97, 115, 104]⟩, ⟨#[108, 105, 110, 101]⟩]) (some ⟨b151, 0, none⟩) 3 (hW.zBg (k := 19) rfl) p1 y152 hy152 (HF.start _)) ?_
     refine Tr.va rfl (fun _ _ h1 h2 => Qo (h1.ev rfl) (h1.ev rfl)) ?_
     refine Tr.va rfl (fun _ _ h1 h2 => zD zDX (h1.ev rfl)) ?_
     refine Tr.store 3 (cs := [(iv (w64 (4 + y152)))]) [(iv (w64 (4 + y152))), (sv ⟨#[]⟩), (iv 0), (iv 0), (.slice none 0 0), (iv 0), (iv 0), (.slice none 0 0)] (wn rfl) rfl rfl rfl rfl sz_3 rfl rfl rfl ?_
     refine Tr.nil (Tr.zA (Tr.drawTail 6 (by kernel_rfl) (by kernel_rfl) ?_))
     refine Tq.mv rfl rfl ?_
     obtain ⟨x153, hx153, H⟩ := bnd H
     obtain ⟨hx1530, hx1531, hx1532⟩ := QP hx153
     refine Tq.va rfl (fun _ _ h1 h2 => zR zC7 (h1.ev rfl) zAc.form (h1.ev rfl) hx1530 hx1531) ?_
     refine Tq.va rfl (fun _ _ h1 h2 => zH Ji (h1.ev rfl) (rdF zBJ zAc hx1532 h2) rfl) ?_
     refine Tq.mv rfl rfl ?_
     obtain ⟨x154, hx154, H⟩ := bnd H
     obtain ⟨hx1540, hx1541, hx1542⟩ := QP hx154
     refine Tq.va rfl (fun _ _ h1 h2 => zR zC7 (h1.ev rfl) zAc.form (h1.ev rfl) hx1540 hx1541) ?_
     refine Tq.va rfl (fun _ _ h1 h2 => zH Ji (h1.ev rfl) (rdF zBJ zAc hx1542 h2) rfl) ?_
     refine Tq.nil (Tr.build (vs := [(0, (iv x153)), (1, (iv x154))]) (cs := [(iv x153), (iv x154)]) (wn rfl) rfl (QE rfl (QE rfl Qq)) (by kernel_rfl) ?_)
     refine Tr.va rfl (fun _ _ h1 h2 => zD zBx (h1.ev rfl)) ?_
     refine Tr.store 3 (cs := [(iv x153), (iv x154)]) [(iv (w64 (4 + y152))), (sv ⟨#[]⟩), (iv x153), (iv x154), (.slice none 0 0), (iv 0), (iv 0), (.slice none 0 0)] (wn rfl) rfl rfl rfl rfl zAZ rfl rfl rfl ?_
     refine Tr.nil (Tr.zx (Tr.WC 18 52 QH ?_))
     exact Tr.QF leJ142 ((w64 (4 + y152)), x153, x154, ([] : List zU), none, 0) ⟨H, VC⟩ (.cons rfl (.cons rfl .nil)) (.cons rfl (.cons rfl (.cons rfl (.cons rfl (.cons rfl .nil)))))
   ·refine Tr.sr (Tr.va rfl (fun _ _ h1 h2 => Kv (h1.ev rfl) (h1.ev rfl)) ?_)
    refine Tr.asg rfl rfl (Tr.nil (Tr.zA (Tr.cond rfl H (fun H => ?_) (fun H => ?_))))
    ·refine Tr.seq (Tr.sr (Tr.mv rfl rfl (Tr.va rfl (fun _ _ h1 h2 => QL zFS (h1.ev rfl)) ?_)))
     refine Tr.va rfl (fun _ _ h1 h2 => run_rem (h1.ev rfl) (h1.ev rfl) (by decide)) ?_
     refine Tr.va rfl (fun _ _ h1 h2 => Jw (h1.ev rfl) (h1.ev rfl)) ?_
     refine Tr.nil (Tr.zA (Tr.cond rfl H (fun H => ?_) (fun H => ?_)))
     ·refine Tr.sr (Tr.asg rfl rfl (Tr.nil (Tr.zA (Tr.ret (Tr.zO (Tr.zm (Tr.zO ?_)))))))
      obtain rfl := Option.some.inj H
      exact Tr.out (m := [(.bool false)]) [] (zQ rfl zT) (fun W hW => ⟨w, ((zN, zM), (zX, zZ, Dhp0_2)), leB, rfl, ⟨Wh, ⟨Qu.1, Qu.2⟩⟩, hW.pick (ks := [0, 1, 2]) (by decide) (zL rfl (zL rfl (zL rfl QI)))⟩)
     ·refine Tr.skip (Tr.zA (Tr.sr (Tr.va rfl (fun _ _ h1 h2 => zD zDX (h1.ev rfl)) ?_)))
      refine Tr.store 3 (cs := [(iv 7)]) [(iv 7), (sv ⟨#[]⟩), (iv 0), (iv 0), (.slice none 0 0), (iv 0), (iv 0), (.slice none 0 0)] (wn rfl) rfl rfl rfl rfl sz_3 rfl rfl rfl ?_
      refine Tr.nil (Tr.zA (Tr.sr (Tr.asg rfl rfl (Tr.nil (Tr.zA (Tr.block (Tr.WC 26 52 QH ?_)))))))
      refine Tr.loop (σ := (List zU) × Int × (Option Addr) × Nat) (fun m w s => Qi p0 p2 m s.1 s.2.1 = some r ∧ SlF s.2.2.1 s.1.length s.2.2.2) (fun s => [(0, (.pointer (some ⟨bp0, 0, none⟩))), (2, (.slice VV p2.length zAt)), (7, (.pointer (some ⟨QG, 0, none⟩))), (8, (iv s.2.1))]) (fun s => [(0, bx bp0 #[(iv p0.p.Unit), (.slice zF p0.p.Tools.length zG), (.slice zN p0.p.Steps.length zM), (.bool p0.unit), (.slice zX p0.open_.length zZ), (.bool p0.step)] 59), (1, ow zN zM 80 zC p0.p.Steps), (2, sk zX zZ 85 80 80 zJ Dhp0_2), (3, bx QG #[(iv 7), (sv ⟨#[]⟩), (iv 0), (iv 0), (.slice s.2.2.1 s.1.length s.2.2.2), (iv 0), (iv 0), (.slice none 0 0)] 80), (26, ow s.2.2.1 s.2.2.2 52 QH s.1)]) N (([] : List zU), 0, none, 0) ⟨H, VC⟩ (.cons rfl (.cons rfl (.cons rfl (.cons rfl .nil)))) (.cons rfl (.cons rfl (.cons rfl (.cons rfl (.cons rfl .nil))))) (fun _ _ h => zEE (h.1)) ?_
      intro w leL4 mL4 s hs
      obtain ⟨zFn, zD5, zGK, zF3⟩ := s
      obtain ⟨H, hl169⟩ := hs
      replace H : Qi p0 p2 (mL4 + 1) zFn zD5 = some r := H
      replace zAc := zAc.leR leL4
      replace leJ142 := leJ142.trans leL4
      replace hl169 : SlF zGK zFn.length zF3 := hl169
      rw [Qi.eq_2] at H
      show Tr _ _ (LF [(0, (.pointer (some ⟨bp0, 0, none⟩))), (2, (.slice VV p2.length zAt)), (7, (.pointer (some ⟨QG, 0, none⟩))), (8, (iv zD5))]) (LE [(0, bx bp0 #[(iv p0.p.Unit), (.slice zF p0.p.Tools.length zG), (.slice zN p0.p.Steps.length zM), (.bool p0.unit), (.slice zX p0.open_.length zZ), (.bool p0.step)] 59), (1, ow zN zM 80 zC p0.p.Steps), (2, sk zX zZ 85 80 80 zJ Dhp0_2), (3, bx QG #[(iv 7), (sv ⟨#[]⟩), (iv 0), (iv 0), (.slice zGK zFn.length zF3), (iv 0), (iv 0), (.slice none 0 0)] 80), (26, ow zGK zF3 52 QH zFn)]) _
      refine Tr.seq (Tr.sr (Tr.mv rfl rfl (Tr.mv rfl rfl (Tr.va rfl (fun _ _ h1 h2 => QL zFS (h1.ev rfl)) ?_))))
      refine Tr.va rfl (fun _ _ h1 h2 => Qm (h1.ev rfl) (h1.ev rfl)) ?_
      refine Tr.nil (Tr.zA (Tr.cond rfl H (fun H => ?_) (fun H => ?_)))
      ·refine Tr.skip (Tr.zA (Tr.seq (Tr.block ?_)))
       obtain ⟨zEx, hx172, H⟩ := bnd H
       obtain ⟨hx1720, hx1721, hx1722⟩ := QP hx172
       obtain ⟨zEw, hx173, H⟩ := bnd H
       obtain ⟨hx1730, hx1731, hx1732⟩ := QP hx173
       refine Tr.drawF 13 [(12, .makeFunc (.func 0) #[] #[.tmp 55])] [(12, ⟨56, 27, (.func (.func 0) #[] #[(.agg #[(iv zEx), (iv zEw)])]), fun b => .slice (some ⟨b, 0, none⟩) 1 1, fun b => bx b #[(iv zEx), (iv zEw)] 52⟩)] [(0, (.pointer (some ⟨bp0, 0, none⟩))), (2, (.slice VV p2.length zAt)), (7, (.pointer (some ⟨QG, 0, none⟩))), (8, (iv zD5)), (38, (iv zD5)), (39, (.slice VV p2.length zAt)), (40, (iv (p2.length : Int))), (41, (.bool (decide (zD5 < (p2.length : Int))))), (44, (.pointer (some ⟨QG, 4, none⟩))), (45, (.slice zGK zFn.length zF3)), (46, (.slice VV p2.length zAt)), (47, (iv zD5)), (48, (.pointer (some ⟨adB VV, adO VV + (zD5).toNat * 1, none⟩))), (49, (iv zEx)), (50, (.slice VV p2.length zAt)), (51, (iv zD5)), (52, (iv (w64 (zD5 + 1)))), (53, (.pointer (some ⟨adB VV, adO VV + ((w64 (zD5 + 1))).toNat * 1, none⟩))), (54, (iv zEw)), (55, (.agg #[(iv zEx), (iv zEw)])), (56, (.func (.func 0) #[] #[(.agg #[(iv zEx), (iv zEw)])]))] (by kernel_rfl) (by kernel_rfl) (by kernel_rfl) (by kernel_rfl) (by kernel_rfl) (by kernel_rfl) (by kernel_rfl) (Wx (fr_lit (vs := [(0, (.agg #[(iv zEx), (iv zEw)]))]) rfl rfl rfl (by kernel_rfl)) zAr) (Wx rfl zAr) (Wx rfl zAr) ?_ ?_
       ·refine Tq.va rfl (fun _ _ h1 h2 => zD zBw (h1.ev rfl)) ?_
        refine Tq.va rfl (fun _ _ h1 h2 => zH zHO (h1.ev rfl) (rdb h2 (vs := [(iv 7), (sv ⟨#[]⟩), (iv 0), (iv 0), (.slice zGK zFn.length zF3), (iv 0), (iv 0), (.slice none 0 0)]) (k := 3) rfl 4) rfl) ?_
        refine Tq.mv rfl rfl (Tq.mv rfl rfl (Tq.va rfl (fun _ _ h1 h2 => zR zC7 (h1.ev rfl) zAc.form (h1.ev rfl) hx1720 hx1721) ?_))
        refine Tq.va rfl (fun _ _ h1 h2 => zH Ji (h1.ev rfl) (rdF zBJ zAc hx1722 h2) rfl) ?_
        refine Tq.mv rfl rfl (Tq.mv rfl rfl (Tq.va rfl (fun _ _ h1 h2 => Qo (h1.ev rfl) (h1.ev rfl)) ?_))
        refine Tq.va rfl (fun _ _ h1 h2 => zR zC7 (h1.ev rfl) zAc.form (h1.ev rfl) hx1730 hx1731) ?_
        refine Tq.va rfl (fun _ _ h1 h2 => zH Ji (h1.ev rfl) (rdF zBJ zAc hx1732 h2) rfl) ?_
        refine Tq.build (vs := [(0, (iv zEx)), (1, (iv zEw))]) (cs := [(iv zEx), (iv zEw)]) (wn rfl) rfl (QE rfl (QE rfl Qq)) (by kernel_rfl) ?_
        refine Tq.zGb (vs := [(.agg #[(iv zEx), (iv zEw)])]) (wn rfl) rfl (zI rfl zb) ?_
        exact Tq.fin (.cons rfl (.cons rfl (.cons rfl (.cons rfl (.cons rfl (.cons rfl (.cons rfl (.cons rfl (.cons rfl (.cons rfl (.cons rfl (.cons rfl (.cons rfl (.cons rfl (.cons rfl (.cons rfl (.cons rfl (.cons rfl (.cons rfl (.cons rfl (.cons rfl .nil)))))))))))))))))))))
       ·intro bs171
        refine Tr.sel (lf := [(0, (.pointer (some ⟨bp0, 0, none⟩))), (2, (.slice VV p2.length zAt)), (7, (.pointer (some ⟨QG, 0, none⟩))), (8, (iv zD5)), (45, (.slice zGK zFn.length zF3)), (56, (.slice (some ⟨(bs171 12), 0, none⟩) 1 1))]) (le := [(0, bx bp0 #[(iv p0.p.Unit), (.slice zF p0.p.Tools.length zG), (.slice zN p0.p.Steps.length zM), (.bool p0.unit), (.slice zX p0.open_.length zZ), (.bool p0.step)] 59), (1, ow zN zM 80 zC p0.p.Steps), (2, sk zX zZ 85 80 80 zJ Dhp0_2), (3, bx QG #[(iv 7), (sv ⟨#[]⟩), (iv 0), (iv 0), (.slice zGK zFn.length zF3), (iv 0), (iv 0), (.slice none 0 0)] 80), (26, ow zGK zF3 52 QH zFn), (27, bx (bs171 12) #[(iv zEx), (iv zEw)] 52)]) (.cons rfl (.cons rfl (.cons rfl (.cons rfl (.cons rfl (.cons rfl .nil)))))) (.cons rfl (.cons rfl (.cons rfl (.cons rfl (.cons rfl (.cons rfl .nil)))))) ?_
        obtain ⟨l174, hl174, H⟩ := bnd H
        refine Tr.append 26 (t := QH) (l := zFn) (l2 := [(zU.mk zEx zEw)]) (wn rfl) rfl rfl rfl rfl (fun W hW => ⟨[[(iv zEx), (iv zEw)]], (.cons ⟨(), trivial, rfl⟩ .nil), rdb hW (vs := [(iv zEx), (iv zEw)]) (k := 27) rfl 0⟩) zD7 zAZ zl_52 (by decide) by_52 rfl hl174 fun Al174 cl174 hAl174 => ?_
        refine Tr.va rfl (fun _ _ h1 h2 => zD zBw (h1.ev rfl)) ?_
        refine Tr.store 3 (cs := [(.slice Al174 l174.length cl174)]) [(iv 7), (sv ⟨#[]⟩), (iv 0), (iv 0), (.slice Al174 l174.length cl174), (iv 0), (iv 0), (.slice none 0 0)] (wn rfl) rfl rfl rfl rfl sz_78 rfl rfl rfl ?_
        refine Tr.nil (Tr.zx (Tr.zA (Tr.region (Tr.mv rfl rfl (Tr.va rfl (fun _ _ h1 h2 => Qo (h1.ev rfl) (h1.ev rfl)) ?_)))))
        exact Tr.asg rfl rfl (Tr.nil (Tr.QF leL4 (l174, (w64 (zD5 + 2)), Al174, cl174) ⟨H, hAl174⟩ (.cons rfl (.cons rfl (.cons rfl (.cons rfl .nil)))) (.cons rfl (.cons rfl (.cons rfl (.cons rfl (.cons rfl .nil)))))))
      ·refine Tr.exit (Tr.QK (Tr.QK (Tr.JV (Tr.zx (Tr.ren 26 18 rfl rfl rfl ?_)))))
       exact Tr.QF leJ142 (7, 0, 0, zFn, zGK, zF3) ⟨H, hl169⟩ (.cons rfl (.cons rfl .nil)) (.cons rfl (.cons rfl (.cons rfl (.cons rfl (.cons rfl .nil)))))
    ·refine Tr.sr (Tr.va rfl (fun _ _ h1 h2 => Kv (h1.ev rfl) (h1.ev rfl)) ?_)
     refine Tr.asg rfl rfl (Tr.nil (Tr.zA (Tr.cond rfl H (fun H => ?_) (fun H => ?_))))
     ·refine Tr.seq (Tr.sr (Tr.mv rfl rfl (Tr.va rfl (fun _ _ h1 h2 => QL zFS (h1.ev rfl)) ?_)))
      refine Tr.va rfl (fun _ _ h1 h2 => Jw (h1.ev rfl) (h1.ev rfl)) ?_
      refine Tr.nil (Tr.zA (Tr.cond rfl H (fun H => ?_) (fun H => ?_)))
      ·refine Tr.sr (Tr.asg rfl rfl (Tr.nil (Tr.zA (Tr.ret (Tr.zO (Tr.zm (Tr.zO ?_)))))))
       obtain rfl := Option.some.inj H
       exact Tr.out (m := [(.bool false)]) [] (zQ rfl zT) (fun W hW => ⟨w, ((zN, zM), (zX, zZ, Dhp0_2)), leB, rfl, ⟨Wh, ⟨Qu.1, Qu.2⟩⟩, hW.pick (ks := [0, 1, 2]) (by decide) (zL rfl (zL rfl (zL rfl QI)))⟩)
      ·refine Tr.skip (Tr.zA (Tr.seq (Tr.skOpen 2 28 29 rfl rfl rfl rfl ?_)))
       show Tr _ _ _ (up (up (up _ 2 (ow zX zZ 85 (flP zC) Dhp0_2)) 28 (bxs 80 zJ Dhp0_2)) 29 (ins 80 zC (Dhp0_2.map (pne zJ)))) _
       refine Tr.sel (lf := [(0, (.pointer (some ⟨bp0, 0, none⟩))), (1, (sv p1)), (2, (.slice VV p2.length zAt)), (7, (.pointer (some ⟨QG, 0, none⟩))), (10, (sv p1)), (11, (.bool x148)), (31, (.bool (sEq p1 (⟨#[97, 114, 101, 97]⟩)))), (32, (.bool (sEq p1 (⟨#[97, 114, 101, 97]⟩)))), (59, (.bool (sEq p1 (⟨#[114, 101, 112, 101, 97, 116]⟩)))), (60, (.bool (sEq p1 (⟨#[114, 101, 112, 101, 97, 116]⟩)))), (61, (.slice VV p2.length zAt)), (62, (iv (p2.length : Int))), (63, (.bool ((p2.length : Int) != 4)))]) (le := [(0, bx bp0 #[(iv p0.p.Unit), (.slice zF p0.p.Tools.length zG), (.slice zN p0.p.Steps.length zM), (.bool p0.unit), (.slice zX Dhp0_2.length zZ), (.bool p0.step)] 59), (1, ow zN zM 80 zC p0.p.Steps), (2, ow zX zZ 85 (flP zC) Dhp0_2), (3, bx QG #[(iv 0), (sv ⟨#[]⟩), (iv 0), (iv 0), (.slice none 0 0), (iv 0), (iv 0), (.slice none 0 0)] 80), (28, bxs 80 zJ Dhp0_2), (29, ins 80 zC (Dhp0_2.map (pne zJ)))]) (.cons rfl (.cons rfl (.cons rfl (.cons rfl (.cons rfl (.cons rfl (.cons rfl (.cons rfl (.cons rfl (.cons rfl (.cons rfl (.cons rfl (.cons rfl .nil))))))))))))) (.cons (ebx rfl (by rw [Qu.1.len])) (.cons rfl (.cons rfl (.cons rfl (.cons rfl (.cons rfl .nil)))))) ?_
       refine Tr.zJw 22 [(21, (ow zX zZ 85 (flP zC) Dhp0_2).S)] [] (by kernel_rfl) (by kernel_rfl) fun zJS hlosz175 hEsz175 => ?_
       refine Dr.Jb 0 (by kernel_rfl) rfl (wn rfl) rfl (by kernel_rfl) (fun _ _ h1 => run_move (h1.ev rfl)) rfl ?_
       refine Dr.Jb 1 (by kernel_rfl) rfl (wn rfl) rfl (by kernel_rfl) (fun _ _ h1 => run_move (h1.ev rfl)) rfl ?_
       refine Dr.Jb 2 (by kernel_rfl) rfl (wn rfl) rfl (by kernel_rfl) (fun _ _ h1 => zz (h1.ev rfl)) rfl ?_
       refine Dr.Jb 3 (by kernel_rfl) rfl (wn rfl) rfl (by kernel_rfl) (fun _ _ h1 => zD zAp (h1.ev rfl)) rfl ?_
       refine Dr.quiet 4 [(68, (.slice zX Dhp0_2.length zZ))] (by kernel_rfl) rfl rfl (by kernel_rfl) ?_ rfl rfl ?_
       ·refine Tq.va rfl (fun _ _ h1 h2 => zH zF8 (h1.ev rfl) (rdb h2 (vs := [(iv p0.p.Unit), (.slice zF p0.p.Tools.length zG), (.slice zN p0.p.Steps.length zM), (.bool p0.unit), (.slice zX Dhp0_2.length zZ), (.bool p0.step)]) (k := 0) rfl 4) rfl) ?_
        exact Tq.fin (.cons rfl .nil)
       refine Dr.Jb 5 (by kernel_rfl) rfl (wn rfl) rfl (by kernel_rfl) (fun _ _ h1 => run_move (h1.ev rfl)) rfl ?_
       obtain ⟨zEv, hx176, H⟩ := bnd H
       obtain ⟨hx1760, hx1761, hx1762⟩ := QP hx176
       refine Dr.Jb 6 (by kernel_rfl) rfl (wn rfl) rfl (by kernel_rfl) (fun _ _ h1 => zR zC7 (h1.ev rfl) zAc.form (h1.ev rfl) hx1760 hx1761) rfl ?_
       refine Dr.zAl 7 [(71, (iv zEv))] [21] false (by kernel_rfl) rfl rfl (by kernel_rfl) (fun W W' h2 hsW hk => HF.zCx (le := []) (ks := [(2, (ow zX zZ 85 (flP zC) Dhp0_2).S)]) (s0 := zJS) false h2 hk (fun h => absurd h (by decide)) .nil (fun b hb => hb.elim (fun ⟨p, hp, hf, hb⟩ => by simp only [List.mem_cons, List.not_mem_nil, or_false] at hp; rcases hp with rfl; exact .inl ⟨_, List.mem_cons_self, hb⟩) (fun hb => absurd hb.1 (by decide))) (List.forall_mem_cons.2 ⟨fun b hb => hb, (fun _ h => nomatch h)⟩) rfl) ?_ rfl rfl ?_
       ·refine Tq.va rfl (fun _ _ h1 h2 => zH Ji (h1.ev rfl) (rdF zBJ zAc hx1762 h2) rfl) ?_
        exact Tq.fin (.cons rfl .nil)
       refine Dr.Jb 8 (by kernel_rfl) rfl (wn rfl) rfl (by kernel_rfl) (fun _ _ h1 => run_move (h1.ev rfl)) rfl ?_
       obtain ⟨zEu, hx177, H⟩ := bnd H
       obtain ⟨hx1770, hx1771, hx1772⟩ := QP hx177
       refine Dr.Jb 9 (by kernel_rfl) rfl (wn rfl) rfl (by kernel_rfl) (fun _ _ h1 => zR zC7 (h1.ev rfl) zAc.form (h1.ev rfl) hx1770 hx1771) rfl ?_
       refine Dr.zAl 10 [(74, (iv zEu))] [21] false (by kernel_rfl) rfl rfl (by kernel_rfl) (fun W W' h2 hsW hk => HF.zCx (le := []) (ks := [(2, (ow zX zZ 85 (flP zC) Dhp0_2).S)]) (s0 := zJS) false h2 hk (fun h => absurd h (by decide)) .nil (fun b hb => hb.elim (fun ⟨p, hp, hf, hb⟩ => by simp only [List.mem_cons, List.not_mem_nil, or_false] at hp; rcases hp with rfl; exact .inl ⟨_, List.mem_cons_self, hb⟩) (fun hb => absurd hb.1 (by decide))) (List.forall_mem_cons.2 ⟨fun b hb => hb, (fun _ h => nomatch h)⟩) rfl) ?_ rfl rfl ?_
       ·refine Tq.va rfl (fun _ _ h1 h2 => zH Ji (h1.ev rfl) (rdF zBJ zAc hx1772 h2) rfl) ?_
        exact Tq.fin (.cons rfl .nil)
       refine Dr.Jb 11 (by kernel_rfl) rfl (wn rfl) rfl (by kernel_rfl) (fun _ _ h1 => run_move (h1.ev rfl)) rfl ?_
       obtain ⟨zDH, hx178, H⟩ := bnd H
       obtain ⟨hx1780, hx1781, hx1782⟩ := QP hx178
       refine Dr.Jb 12 (by kernel_rfl) rfl (wn rfl) rfl (by kernel_rfl) (fun _ _ h1 => zR zC7 (h1.ev rfl) zAc.form (h1.ev rfl) hx1780 hx1781) rfl ?_
       refine Dr.zAl 13 [(77, (iv zDH))] [21] false (by kernel_rfl) rfl rfl (by kernel_rfl) (fun W W' h2 hsW hk => HF.zCx (le := []) (ks := [(2, (ow zX zZ 85 (flP zC) Dhp0_2).S)]) (s0 := zJS) false h2 hk (fun h => absurd h (by decide)) .nil (fun b hb => hb.elim (fun ⟨p, hp, hf, hb⟩ => by simp only [List.mem_cons, List.not_mem_nil, or_false] at hp; rcases hp with rfl; exact .inl ⟨_, List.mem_cons_self, hb⟩) (fun hb => absurd hb.1 (by decide))) (List.forall_mem_cons.2 ⟨fun b hb => hb, (fun _ h => nomatch h)⟩) rfl) ?_ rfl rfl ?_
       ·refine Tq.va rfl (fun _ _ h1 h2 => zH Ji (h1.ev rfl) (rdF zBJ zAc hx1782 h2) rfl) ?_
        exact Tq.fin (.cons rfl .nil)
       refine Dr.Jb 14 (by kernel_rfl) rfl (wn rfl) rfl (by kernel_rfl) (fun _ _ h1 => run_move (h1.ev rfl)) rfl ?_
       obtain ⟨zCo, hx179, H⟩ := bnd H
       obtain ⟨hx1790, hx1791, hx1792⟩ := QP hx179
       refine Dr.Jb 15 (by kernel_rfl) rfl (wn rfl) rfl (by kernel_rfl) (fun _ _ h1 => zR zC7 (h1.ev rfl) zAc.form (h1.ev rfl) hx1790 hx1791) rfl ?_
       refine Dr.zAl 16 [(80, (iv zCo))] [21] false (by kernel_rfl) rfl rfl (by kernel_rfl) (fun W W' h2 hsW hk => HF.zCx (le := []) (ks := [(2, (ow zX zZ 85 (flP zC) Dhp0_2).S)]) (s0 := zJS) false h2 hk (fun h => absurd h (by decide)) .nil (fun b hb => hb.elim (fun ⟨p, hp, hf, hb⟩ => by simp only [List.mem_cons, List.not_mem_nil, or_false] at hp; rcases hp with rfl; exact .inl ⟨_, List.mem_cons_self, hb⟩) (fun hb => absurd hb.1 (by decide))) (List.forall_mem_cons.2 ⟨fun b hb => hb, (fun _ h => nomatch h)⟩) rfl) ?_ rfl rfl ?_
       ·refine Tq.va rfl (fun _ _ h1 h2 => zH Ji (h1.ev rfl) (rdF zBJ zAc hx1792 h2) rfl) ?_
        exact Tq.fin (.cons rfl .nil)
       refine Dr.zAl 17 [(81, (.agg #[(iv zDH), (iv zCo)]))] [21] false (by kernel_rfl) rfl rfl (by kernel_rfl) (fun W W' h2 hsW hk => HF.zCx (le := []) (ks := [(2, (ow zX zZ 85 (flP zC) Dhp0_2).S)]) (s0 := zJS) false h2 hk (fun h => absurd h (by decide)) .nil (fun b hb => hb.elim (fun ⟨p, hp, hf, hb⟩ => by simp only [List.mem_cons, List.not_mem_nil, or_false] at hp; rcases hp with rfl; exact .inl ⟨_, List.mem_cons_self, hb⟩) (fun hb => absurd hb.1 (by decide))) (List.forall_mem_cons.2 ⟨fun b hb => hb, (fun _ h => nomatch h)⟩) rfl) ?_ rfl rfl ?_
       ·refine Tq.build (vs := [(0, (iv zDH)), (1, (iv zCo))]) (cs := [(iv zDH), (iv zCo)]) (wn rfl) rfl (QE rfl (QE rfl Qq)) (by kernel_rfl) ?_
        exact Tq.fin (.cons rfl .nil)
       refine Dr.zAl 18 [(82, (.agg #[(iv 8), (sv ⟨#[]⟩), (iv zDH), (iv zCo), (.slice none 0 0), (iv zEv), (iv zEu), (.slice none 0 0)]))] [21] false (by kernel_rfl) rfl rfl (by kernel_rfl) (fun W W' h2 hsW hk => HF.zCx (le := []) (ks := [(2, (ow zX zZ 85 (flP zC) Dhp0_2).S)]) (s0 := zJS) false h2 hk (fun h => absurd h (by decide)) .nil (fun b hb => hb.elim (fun ⟨p, hp, hf, hb⟩ => by simp only [List.mem_cons, List.not_mem_nil, or_false] at hp; rcases hp with rfl; exact .inl ⟨_, List.mem_cons_self, hb⟩) (fun hb => absurd hb.1 (by decide))) (List.forall_mem_cons.2 ⟨fun b hb => hb, (fun _ h => nomatch h)⟩) rfl) ?_ rfl rfl ?_
       ·refine Tq.build (vs := [(0, (iv 8)), (4, (iv zEv)), (5, (iv zEu)), (2, (.agg #[(iv zDH), (iv zCo)]))]) (cs := [(iv 8), (sv ⟨#[]⟩), (iv zDH), (iv zCo), (.slice none 0 0), (iv zEv), (iv zEu), (.slice none 0 0)]) (wn rfl) rfl (QE rfl (QE rfl (QE rfl (QE rfl Qq)))) (by kernel_rfl) ?_
        exact Tq.fin (.cons rfl .nil)
       refine Dr.one 19 (by kernel_rfl) ?_
       refine St.box 19 30 (cs := [(iv 8), (sv ⟨#[]⟩), (iv zDH), (iv zCo), (.slice none 0 0), (iv zEv), (iv zEu), (.slice none 0 0)]) rfl (wn rfl) rfl rfl rfl fun b180 hb180 => ?_
       refine Dr.one 20 (by kernel_rfl) ?_
       refine St.buildSlice 20 31 (e := 85) (vs := [(0, (.pointer (some ⟨b180, 0, none⟩)))]) (cs := [(.pointer (some ⟨b180, 0, none⟩))]) rfl (wn rfl) rfl (QE rfl Qq) (by kernel_rfl) fun b181 hb181 => ?_
       obtain ⟨l182, hl182, H⟩ := bnd H
       refine Dr.one 21 (by kernel_rfl) ?_
       refine St.append 21 2 (t' := (flP zC)) (ll := Dhp0_2) (l2 := [(PE.mk (t := zC) b180 ((none, 0), (none, 0)) (zB.mk 8 (⟨#[]⟩) (zU.mk zDH zCo) [] zEv zEu []) true)]) (fun b hb => .inl ⟨_, List.mem_cons_self, rfl, hb⟩) rfl (wn rfl) rfl rfl rfl rfl (fun W hW => ⟨[[(.pointer (some ⟨b180, 0, none⟩))]], .cons ⟨(), trivial, rfl⟩ .nil, rdb hW (vs := [(.pointer (some ⟨b180, 0, none⟩))]) (k := 31) rfl 0⟩) un_57 sz_85 zl_85 Nat.one_pos by_85 rfl (apd_ms Qu.1 hl182) fun zJC zIx hAl182 => ?_
       refine Dr.tail (by kernel_rfl) ?_
       refine Tr.va rfl (fun _ _ h1 h2 => zz (h1.ev rfl)) ?_
       refine Tr.va rfl (fun _ _ h1 h2 => zD zAp (h1.ev rfl)) ?_
       refine Tr.store 0 (cs := [(.slice zJC (Dhp0_2 ++ [(PE.mk (t := zC) b180 ((none, 0), (none, 0)) (zB.mk 8 (⟨#[]⟩) (zU.mk zDH zCo) [] zEv zEu []) true)]).length zIx)]) [(iv p0.p.Unit), (.slice zF p0.p.Tools.length zG), (.slice zN p0.p.Steps.length zM), (.bool p0.unit), (.slice zJC (Dhp0_2 ++ [(PE.mk (t := zC) b180 ((none, 0), (none, 0)) (zB.mk 8 (⟨#[]⟩) (zU.mk zDH zCo) [] zEv zEu []) true)]).length zIx), (.bool p0.step)] (wn rfl) rfl rfl rfl rfl sz_57 rfl rfl rfl ?_
       refine Tr.WC 32 80 zC ?_
       refine Tr.skShut (L := zJ) 2 28 29 30 32 (u := ((none, 0), (none, 0))) (x := (zB.mk 8 (⟨#[]⟩) (zU.mk zDH zCo) [] zEv zEu ([] : List zB))) (cs := [(iv 8), (sv ⟨#[]⟩), (iv zDH), (iv zCo), (.slice none 0 0), (iv zEv), (iv zEu), (.slice none 0 0)]) rfl rfl rfl rfl rfl rfl rfl rfl rfl rfl rfl rfl rfl rfl rfl (Sl.nil _ _ _) rfl rfl rfl VC Qu.1 hl182 fun ms183 hmms183 => ?_
       have hl184 := (len_ms (e := (PE.mk (t := zC) b180 ((none, 0), (none, 0)) (zB.mk 8 (⟨#[]⟩) (zU.mk zDH zCo) [] zEv zEu []) true)) Qu.1 hl182)
       have hfhl184 : SlF zJC l182.length zIx := by rw [← hl184]; exact hAl182
       refine Tr.sel (lf := [(0, (.pointer (some ⟨bp0, 0, none⟩))), (1, (sv p1)), (2, (.slice VV p2.length zAt)), (7, (.pointer (some ⟨QG, 0, none⟩))), (10, (sv p1)), (11, (.bool x148)), (31, (.bool (sEq p1 (⟨#[97, 114, 101, 97]⟩)))), (32, (.bool (sEq p1 (⟨#[97, 114, 101, 97]⟩)))), (59, (.bool (sEq p1 (⟨#[114, 101, 112, 101, 97, 116]⟩)))), (60, (.bool (sEq p1 (⟨#[114, 101, 112, 101, 97, 116]⟩)))), (61, (.slice VV p2.length zAt)), (62, (iv (p2.length : Int))), (63, (.bool ((p2.length : Int) != 4))), (64, (.pointer (some ⟨bp0, 0, none⟩))), (65, (.pointer (some ⟨bp0, 0, none⟩))), (66, (.pointer (some ⟨bp0, 0, none⟩))), (67, (.pointer (some ⟨bp0, 4, none⟩))), (69, (.slice VV p2.length zAt)), (70, (.pointer (some ⟨adB VV, adO VV + ((0 : Int)).toNat * 1, none⟩))), (71, (iv zEv)), (72, (.slice VV p2.length zAt)), (73, (.pointer (some ⟨adB VV, adO VV + ((1 : Int)).toNat * 1, none⟩))), (74, (iv zEu)), (75, (.slice VV p2.length zAt)), (76, (.pointer (some ⟨adB VV, adO VV + ((2 : Int)).toNat * 1, none⟩))), (77, (iv zDH)), (78, (.slice VV p2.length zAt)), (79, (.pointer (some ⟨adB VV, adO VV + ((3 : Int)).toNat * 1, none⟩))), (80, (iv zCo)), (81, (.agg #[(iv zDH), (iv zCo)])), (82, (.agg #[(iv 8), (sv ⟨#[]⟩), (iv zDH), (iv zCo), (.slice none 0 0), (iv zEv), (iv zEu), (.slice none 0 0)])), (85, (.slice zJC l182.length zIx)), (86, (.pointer (some ⟨bp0, 0, none⟩))), (87, (.pointer (some ⟨bp0, 4, none⟩)))]) (le := [(0, bx bp0 #[(iv p0.p.Unit), (.slice zF p0.p.Tools.length zG), (.slice zN p0.p.Steps.length zM), (.bool p0.unit), (.slice zJC l182.length zIx), (.bool p0.step)] 59), (1, ow zN zM 80 zC p0.p.Steps), (2, sk zJC zIx 85 80 80 zJ ms183), (3, bx QG #[(iv 0), (sv ⟨#[]⟩), (iv 0), (iv 0), (.slice none 0 0), (iv 0), (iv 0), (.slice none 0 0)] 80)]) (.cons rfl (.cons rfl (.cons rfl (.cons rfl (.cons rfl (.cons rfl (.cons rfl (.cons rfl (.cons rfl (.cons rfl (.cons rfl (.cons rfl (.cons rfl (.cons rfl (.cons rfl (.cons rfl (.cons rfl (.cons rfl (.cons rfl (.cons rfl (.cons rfl (.cons rfl (.cons rfl (.cons rfl (.cons rfl (.cons rfl (.cons rfl (.cons rfl (.cons rfl (.cons rfl (.cons rfl (.cons (zIO rfl (by rw [hl184])) (.cons rfl (.cons rfl .nil)))))))))))))))))))))))))))))))))) (.cons (ebx rfl (by rw [hl184])) (.cons rfl (.cons rfl (.cons rfl .nil)))) ?_
       refine Tr.nil (Tr.zA (Tr.sr (Tr.asg rfl rfl (Tr.nil (Tr.zA (Tr.ret (Tr.zm (Tr.zO ?_))))))))
       obtain rfl := Option.some.inj H
       exact Tr.out (m := [(.bool true)]) [] (zQ rfl zT) (fun W hW => ⟨w, ((zN, zM), (zJC, zIx, ms183)), leB, rfl, ⟨Wh, ⟨hmms183, hfhl184⟩⟩, hW.pick (ks := [0, 1, 2]) (by decide) (zL rfl (zL rfl (zL rfl QI)))⟩)
     ·refine Tr.sr (Tr.asg rfl rfl (Tr.nil (Tr.zA (Tr.ret (Tr.zm (Tr.zO ?_))))))
      obtain rfl := Option.some.inj H
      exact Tr.out (m := [(.bool false)]) [] (zQ rfl zT) (fun W hW => ⟨w, ((zN, zM), (zX, zZ, Dhp0_2)), leB, rfl, ⟨Wh, ⟨Qu.1, Qu.2⟩⟩, hW.pick (ks := [0, 1, 2]) (by decide) (zL rfl (zL rfl (zL rfl QI)))⟩)
 ·intro w s hlJ143 hs
  obtain ⟨WY, VB, x140, Ww, Vs, Vm⟩ := s
  obtain ⟨H, hl141⟩ := hs
  replace H : Qj p0 WY VB x140 Ww = some r := H
  replace zl := zl.leR hlJ143
  replace leB := leB.trans hlJ143
  unfold Qj at H
  show Tr _ _ (LF [(0, (.pointer (some ⟨bp0, 0, none⟩))), (7, (.pointer (some ⟨QG, 0, none⟩)))]) (LE [(0, bx bp0 #[(iv p0.p.Unit), (.slice zF p0.p.Tools.length zG), (.slice zN p0.p.Steps.length zM), (.bool p0.unit), (.slice zX p0.open_.length zZ), (.bool p0.step)] 59), (1, ow zN zM 80 zC p0.p.Steps), (2, sk zX zZ 85 80 80 zJ Dhp0_2), (3, bx QG #[(iv WY), (sv ⟨#[]⟩), (iv VB), (iv x140), (.slice Vs Ww.length Vm), (iv 0), (iv 0), (.slice none 0 0)] 80), (18, ow Vs Vm 52 QH Ww)]) _
  refine Tr.sr (Tr.mv rfl rfl (Tr.va rfl (fun _ _ h1 h2 => zo (cs := [(iv WY), (sv ⟨#[]⟩), (iv VB), (iv x140), (.slice Vs Ww.length Vm), (iv 0), (iv 0), (.slice none 0 0)]) zDA Vu (h1.ev rfl) (zf.take (rdb h2 (vs := [(iv WY), (sv ⟨#[]⟩), (iv VB), (iv x140), (.slice Vs Ww.length Vm), (iv 0), (iv 0), (.slice none 0 0)]) (k := 3) rfl 0) 8) rfl) ?_))
  refine Tr.freeze 18 rfl fun w le145 hz144 => ?_
  replace zl := zl.leR le145
  replace leB := leB.trans le145
  obtain ⟨zA3, hy146, H⟩ := bnd H
  refine Tr.zEN [0, 1, 2] [bx bp0 #[(iv p0.p.Unit), (.slice zF p0.p.Tools.length zG), (.slice zN p0.p.Steps.length zM), (.bool p0.unit), (.slice zX p0.open_.length zZ), (.bool p0.step)] 59, ow zN zM 80 zC p0.p.Steps, sk zX zZ 85 80 80 zJ Dhp0_2] (U := (Option Addr × Nat) × (Option Addr × Nat × List (PE zC))) (fun u => (.tuple #[])) (fun O W u => SlF u.1.1 zA3.1.length u.1.2 ∧ (SK u.2.2.2 zA3.2 ∧ SlF u.2.1 zA3.2.length u.2.2.1)) (fun u => [bx bp0 #[(iv p0.p.Unit), (.slice zF p0.p.Tools.length zG), (.slice u.1.1 zA3.1.length u.1.2), (.bool p0.unit), (.slice u.2.1 zA3.2.length u.2.2.1), (.bool p0.step)] 59, ow u.1.1 u.1.2 80 zC zA3.1, sk u.2.1 u.2.2.1 85 80 80 zJ u.2.2.2]) rfl (zL rfl (zL rfl (zL rfl QI))) (fun _ => rfl) (wn rfl) rfl Tryz.call34 (zI rfl (zI rfl zb)) (fun W hW hp hE => Ke p0 zF zG (zl.ext (hW.zFz hp)) zN zM zX zZ Dhp0_2 ⟨Qu.1, Qu.2⟩ bp0 (zB.mk WY (⟨#[]⟩) (zU.mk VB x140) Ww 0 0 []) Vs Vm (hz144.extO (hW.zFz hp)) none 0 (Sl.nil _ _ _) zA3 hy146 hE) ?_
  intro w u le147 hu
  obtain ⟨⟨zH1, zHk⟩, ⟨zH0, zHj, Dy146_1⟩⟩ := u
  obtain ⟨gy146_0, gy146_1⟩ := hu
  replace hz144 := hz144.le le147
  replace leB := leB.trans le147
  have hgy146_0 : SlF zH1 zA3.1.length zHk := gy146_0 --@phi
  have hgy146_1 : (SK Dy146_1 zA3.2 ∧ SlF zH0 zA3.2.length zHj) := gy146_1 --@phi
  show Tr _ _ (uf _ 90 (.tuple #[])) (up (up (up _ 2 (sk zH0 zHj 85 80 80 zJ Dy146_1)) 1 (ow zH1 zHk 80 zC zA3.1)) 0 (bx bp0 #[(iv p0.p.Unit), (.slice zF p0.p.Tools.length zG), (.slice zH1 zA3.1.length zHk), (.bool p0.unit), (.slice zH0 zA3.2.length zHj), (.bool p0.step)] 59)) _
  refine Tr.nil (Tr.zA (Tr.sr (Tr.asg rfl rfl (Tr.nil (Tr.zA (Tr.ret ?_))))))
  obtain rfl := Option.some.inj H
  exact Tr.out (m := [(.bool true)]) [] (zQ rfl zT) (fun W hW => ⟨w, ((zH1, zHk), (zH0, zHj, Dy146_1)), leB, rfl, ⟨hgy146_0, ⟨hgy146_1.1, hgy146_1.2⟩⟩, hW.pick (ks := [0, 1, 2]) (by decide) (zL rfl (zL rfl (zL rfl QI)))⟩)

theorem zDj (N : Nat) {w : Bs} (hT : Tab Tryz.prog w) (p0 : QD) (zF : Option Addr) (zG : Nat) (zN : Option Addr) (zM : Nat) (zX : Option Addr) (zZ : Nat) (Dhp0_2 : List (PE zC)) (Qu : SK Dhp0_2 p0.open_ ∧ SlF zX p0.open_.length zZ) (bp0 : Nat) (p1 : ByteArray) (r : (Bool × Int × Bool × Bool × (List zS) × (List zB) × (List zB))) (H : VJ N p0 p1 = some r) (hE : HF w w.W (LEn [bx bp0 #[(iv p0.p.Unit), (.slice zF p0.p.Tools.length zG), (.slice zN p0.p.Steps.length zM), (.bool p0.unit), (.slice zX p0.open_.length zZ), (.bool p0.step)] 59, ow zF zG 47 zK p0.p.Tools, ow zN zM 80 zC p0.p.Steps, sk zX zZ 85 80 80 zJ Dhp0_2])) : Calls Tryz.prog 18 [(.pointer (some ⟨bp0, 0, none⟩)), (sv p1)].toArray w.W fun e W' => ∃ (w' : Bs) (u : (Option Addr × Nat) × (Option Addr × Nat) × (Option Addr × Nat × List (PE zC))), w.Le w' ∧ e = .returned (.bool r.1) ∧ (SlF u.1.1 r.2.2.2.2.1.length u.1.2 ∧ SlF u.2.1.1 r.2.2.2.2.2.1.length u.2.1.2 ∧ (SK u.2.2.2.2 r.2.2.2.2.2.2 ∧ SlF u.2.2.1 r.2.2.2.2.2.2.length u.2.2.2.1)) ∧ HF w' W' (LEn [bx bp0 #[(iv r.2.1), (.slice u.1.1 r.2.2.2.2.1.length u.1.2), (.slice u.2.1.1 r.2.2.2.2.2.1.length u.2.1.2), (.bool r.2.2.1), (.slice u.2.2.1 r.2.2.2.2.2.2.length u.2.2.2.1), (.bool r.2.2.2.1)] 59, ow u.1.1 u.1.2 47 zK r.2.2.2.2.1, ow u.2.1.1 u.2.1.2 80 zC r.2.2.2.2.2.1, sk u.2.2.1 u.2.2.2.1 85 80 80 zJ u.2.2.2.2]) := by
 unfold VJ at H
 have Wi := (hE.sl (k := 1) rfl).form
 have Wh := (hE.sl (k := 2) rfl).form
 have leB := Bs.Le.refl w
 refine Tr.enter (n := 113) Tryz.func18 rfl rfl rfl hE ?_
 refine Tr.sr (Tr.asg rfl rfl (Tr.nil (Tr.zA (Tr.sr (Tr.mv rfl rfl ?_)))))
 obtain ⟨QU, zCy, H⟩ := bnd H
 refine Tr.zAE [4] [emp] (U := (Option Addr × Nat)) (fun u => (.slice u.1 QU.length u.2)) (fun u => SlF u.1 QU.length u.2) (fun u => [ow u.1 u.2 9 zAq QU]) rfl (zL rfl QI) (fun _ => rfl) (wn rfl) rfl Tryz.call32 (zI rfl (zI rfl zb)) (fun W hW hp hE => zFK (hT.ext (hW.zFz hp)) p1 (⟨#[32]⟩) QU zCy hE) ?_
 intro u hu
 obtain ⟨zAB, Wl⟩ := u
 have gy100_0 := hu
 have zCH : SlF zAB QU.length Wl := gy100_0 --@phi
 show Tr _ _ (uf _ 11 (.slice zAB QU.length Wl)) (up _ 4 (ow zAB Wl 9 zAq QU)) _
 refine Tr.asg rfl rfl (Tr.nil (Tr.zA (Tr.seq (Tr.sr (Tr.mv rfl rfl ?_)))))
 obtain ⟨x102, hx102, H⟩ := bnd H
 obtain ⟨hx1020, hx1021, hx1022⟩ := QP hx102
 refine Tr.va rfl (fun _ _ h1 h2 => zR zCc (h1.ev rfl) zCH (h1.ev rfl) hx1020 hx1021) ?_
 refine Tr.va rfl (fun _ _ h1 h2 => zH zB2 (h1.ev rfl) (rdo zBj (k := 4) h2 rfl hx1022) rfl) ?_
 refine Tr.va rfl (fun _ _ h1 h2 => Kv (h1.ev rfl) (h1.ev rfl)) ?_
 refine Tr.mv rfl rfl ?_
 obtain ⟨g104, zEH, H⟩ := bnd H
 refine Tr.KY 5 [(0, (.pointer (some ⟨bp0, 0, none⟩))), (1, (sv p1)), (5, (.slice zAB QU.length Wl)), (21, (.bool g104))] [(0, bx bp0 #[(iv p0.p.Unit), (.slice zF p0.p.Tools.length zG), (.slice zN p0.p.Steps.length zM), (.bool p0.unit), (.slice zX p0.open_.length zZ), (.bool p0.step)] 59), (1, ow zF zG 47 zK p0.p.Tools), (2, ow zN zM 80 zC p0.p.Steps), (3, sk zX zZ 85 80 80 zJ Dhp0_2), (4, ow zAB Wl 9 zAq QU)] ?_ ?_
 ·cases hg139 : (sEq x102 (⟨#[117, 110, 105, 116]⟩))
  ·rw [hg139] at zEH
   rw [if_neg (by decide)] at zEH
   have H := zEH
   refine Tr.val (wg rfl rfl rfl) rfl (fun _ _ h1 h2 => run_move (h1.ev rfl)) ?_
   obtain ⟨x105, hx105, H⟩ := bnd H
   obtain ⟨hx1050, hx1051, hx1052⟩ := QP hx105
   refine Tr.val (wg rfl rfl rfl) rfl (fun _ _ h1 h2 => zR zCc (h1.ev rfl) zCH (h1.ev rfl) hx1050 hx1051) ?_
   refine Tr.val (wg rfl rfl rfl) rfl (fun _ _ h1 h2 => zH zB2 (h1.ev rfl) (rdo zBj (k := 4) h2 rfl hx1052) rfl) ?_
   refine Tr.val (wg rfl rfl rfl) rfl (fun _ _ h1 h2 => Kv (h1.ev rfl) (h1.ev rfl)) ?_
   refine Tr.va rfl (fun _ _ h1 h2 => zh (h1.ev rfl) (h1.ev rfl)) ?_
   obtain rfl := Option.some.inj H
   exact Tr.nil (Tr.Qc (.cons rfl (.cons rfl (.cons rfl (.cons rfl .nil)))) (.cons rfl (.cons rfl (.cons rfl (.cons rfl (.cons rfl .nil))))))
  ·rw [hg139] at zEH
   rw [if_pos rfl] at zEH
   have H := zEH
   obtain rfl := Option.some.inj H
   refine Tr.pass rfl rfl rfl rfl rfl (by decide) ?_
   refine Tr.pass rfl rfl rfl rfl rfl (by decide) ?_
   refine Tr.pass rfl rfl rfl rfl rfl (by decide) ?_
   refine Tr.pass rfl rfl rfl rfl rfl (by decide) ?_
   refine Tr.va rfl (fun _ _ h1 h2 => zg (h1.ev rfl) (h1.ev rfl)) ?_
   exact Tr.nil (Tr.Qc (.cons rfl (.cons rfl (.cons rfl (.cons rfl .nil)))) (.cons rfl (.cons rfl (.cons rfl (.cons rfl (.cons rfl .nil))))))
 ·show Tr _ _ (LF [(0, (.pointer (some ⟨bp0, 0, none⟩))), (1, (sv p1)), (5, (.slice zAB QU.length Wl)), (21, (.bool g104))]) (LE [(0, bx bp0 #[(iv p0.p.Unit), (.slice zF p0.p.Tools.length zG), (.slice zN p0.p.Steps.length zM), (.bool p0.unit), (.slice zX p0.open_.length zZ), (.bool p0.step)] 59), (1, ow zF zG 47 zK p0.p.Tools), (2, ow zN zM 80 zC p0.p.Steps), (3, sk zX zZ 85 80 80 zJ Dhp0_2), (4, ow zAB Wl 9 zAq QU)]) _
  refine Tr.nil (Tr.zA (Tr.cond rfl H (fun H => ?_) (fun H => ?_)))
  ·refine Tr.sr (Tr.mv rfl rfl (Tr.mv rfl rfl ?_))
   obtain ⟨Wp, hy106, H⟩ := bnd H
   refine Tr.zEN [0, 1, 3] [bx bp0 #[(iv p0.p.Unit), (.slice zF p0.p.Tools.length zG), (.slice zN p0.p.Steps.length zM), (.bool p0.unit), (.slice zX p0.open_.length zZ), (.bool p0.step)] 59, ow zF zG 47 zK p0.p.Tools, sk zX zZ 85 80 80 zJ Dhp0_2] (U := (Option Addr × Nat) × (Option Addr × Nat × List (PE zC))) (fun u => (.bool Wp.1)) (fun O W u => SlF u.1.1 Wp.2.2.2.1.length u.1.2 ∧ (SK u.2.2.2 Wp.2.2.2.2 ∧ SlF u.2.1 Wp.2.2.2.2.length u.2.2.1)) (fun u => [bx bp0 #[(iv Wp.2.1), (.slice u.1.1 Wp.2.2.2.1.length u.1.2), (.slice zN p0.p.Steps.length zM), (.bool Wp.2.2.1), (.slice u.2.1 Wp.2.2.2.2.length u.2.2.1), (.bool p0.step)] 59, ow u.1.1 u.1.2 47 zK Wp.2.2.2.1, sk u.2.1 u.2.2.1 85 80 80 zJ u.2.2.2]) rfl (zL rfl (zL rfl (zL rfl QI))) (fun _ => rfl) (wn rfl) rfl Tryz.call33 (zI rfl (zI rfl zb)) (fun W hW hp hE => zDk N p0 zF zG zN zM (hW.slS (k := 2) rfl hp rfl) zX zZ Dhp0_2 ⟨Qu.1, Qu.2⟩ bp0 QU zAB Wl (hW.slS (k := 4) rfl hp rfl) Wp hy106 hE) ?_
   intro w u le107 hu
   obtain ⟨⟨zDp, zDe⟩, ⟨zID, zHw, Dy106_1⟩⟩ := u
   obtain ⟨gy106_0, gy106_1⟩ := hu
   replace hT := hT.ext le107.ext
   replace leB := leB.trans le107
   have hgy106_0 : SlF zDp Wp.2.2.2.1.length zDe := gy106_0 --@phi
   have hgy106_1 : (SK Dy106_1 Wp.2.2.2.2 ∧ SlF zID Wp.2.2.2.2.length zHw) := gy106_1 --@phi
   show Tr _ _ (uf _ 24 (.bool Wp.1)) (up (up (up _ 3 (sk zID zHw 85 80 80 zJ Dy106_1)) 1 (ow zDp zDe 47 zK Wp.2.2.2.1)) 0 (bx bp0 #[(iv Wp.2.1), (.slice zDp Wp.2.2.2.1.length zDe), (.slice zN p0.p.Steps.length zM), (.bool Wp.2.2.1), (.slice zID Wp.2.2.2.2.length zHw), (.bool p0.step)] 59)) _
   refine Tr.asg rfl rfl (Tr.nil (Tr.zA (Tr.ret (Tr.zO ?_))))
   obtain rfl := Option.some.inj H
   exact Tr.out (m := [(.bool Wp.1)]) [] (zQ rfl zT) (fun W hW => ⟨w, ((zDp, zDe), (zN, zM), (zID, zHw, Dy106_1)), leB, rfl, ⟨hgy106_0, Wh, ⟨hgy106_1.1, hgy106_1.2⟩⟩, hW.pick (ks := [0, 1, 2, 3]) (by decide) (zL rfl (zL rfl (zL rfl (zL rfl QI))))⟩)
  ·refine Tr.skip (Tr.zA (Tr.seq (Tr.sr (Tr.mv rfl rfl (Tr.va rfl (fun _ _ h1 h2 => zz (h1.ev rfl)) ?_)))))
   refine Tr.va rfl (fun _ _ h1 h2 => zD zFy (h1.ev rfl)) ?_
   refine Tr.va rfl (fun _ _ h1 h2 => zH zF9 (h1.ev rfl) (rdb h2 (vs := [(iv p0.p.Unit), (.slice zF p0.p.Tools.length zG), (.slice zN p0.p.Steps.length zM), (.bool p0.unit), (.slice zX p0.open_.length zZ), (.bool p0.step)]) (k := 0) rfl 3) rfl) ?_
   refine Tr.va rfl (fun _ _ h1 h2 => JA (h1.ev rfl)) ?_
   refine Tr.nil (Tr.zA (Tr.cond rfl H (fun H => ?_) (fun H => ?_)))
   ·refine Tr.sr (Tr.asg rfl rfl (Tr.nil (Tr.zA (Tr.ret (Tr.zO ?_)))))
    obtain rfl := Option.some.inj H
    exact Tr.out (m := [(.bool false)]) [] (zQ rfl zT) (fun W hW => ⟨w, ((zF, zG), (zN, zM), (zX, zZ, Dhp0_2)), leB, rfl, ⟨Wi, Wh, ⟨Qu.1, Qu.2⟩⟩, hW.pick (ks := [0, 1, 2, 3]) (by decide) (zL rfl (zL rfl (zL rfl (zL rfl QI))))⟩)
   ·refine Tr.skip (Tr.zA (Tr.sr (Tr.mv rfl rfl (Tr.va rfl (fun _ _ h1 h2 => zz (h1.ev rfl)) ?_))))
    refine Tr.va rfl (fun _ _ h1 h2 => zD fo_59_3 (h1.ev rfl)) ?_
    refine Tr.store 0 (cs := [(.bool true)]) [(iv p0.p.Unit), (.slice zF p0.p.Tools.length zG), (.slice zN p0.p.Steps.length zM), (.bool p0.unit), (.slice zX p0.open_.length zZ), (.bool true)] (wn rfl) rfl rfl rfl rfl sz_4 rfl rfl rfl ?_
    refine Tr.nil (Tr.zA (Tr.seq (Tr.block (Tr.sr (Tr.mv rfl rfl (Tr.va rfl (fun _ _ h1 h2 => Kv (h1.ev rfl) (h1.ev rfl)) ?_))))))
    refine Tr.asg rfl rfl (Tr.nil (Tr.zA (Tr.cond rfl H (fun H => ?_) (fun H => ?_))))
    ·refine Tr.sr (Tr.mv rfl rfl (Tr.build (vs := [(0, (iv 1))]) (cs := [(iv 1), (sv ⟨#[]⟩), (iv 0), (iv 0), (.slice none 0 0), (iv 0), (iv 0), (.slice none 0 0)]) (wn rfl) rfl (QE rfl Qq) (by kernel_rfl) ?_))
     obtain ⟨zCn, hy108, H⟩ := bnd H
     refine Tr.zEN [0, 2, 3] [bx bp0 #[(iv p0.p.Unit), (.slice zF p0.p.Tools.length zG), (.slice zN p0.p.Steps.length zM), (.bool p0.unit), (.slice zX p0.open_.length zZ), (.bool true)] 59, ow zN zM 80 zC p0.p.Steps, sk zX zZ 85 80 80 zJ Dhp0_2] (U := (Option Addr × Nat) × (Option Addr × Nat × List (PE zC))) (fun u => (.tuple #[])) (fun O W u => SlF u.1.1 zCn.1.length u.1.2 ∧ (SK u.2.2.2 zCn.2 ∧ SlF u.2.1 zCn.2.length u.2.2.1)) (fun u => [bx bp0 #[(iv p0.p.Unit), (.slice zF p0.p.Tools.length zG), (.slice u.1.1 zCn.1.length u.1.2), (.bool p0.unit), (.slice u.2.1 zCn.2.length u.2.2.1), (.bool true)] 59, ow u.1.1 u.1.2 80 zC zCn.1, sk u.2.1 u.2.2.1 85 80 80 zJ u.2.2.2]) rfl (zL rfl (zL rfl (zL rfl QI))) (fun _ => rfl) (wn rfl) rfl Tryz.call34 (zI rfl (zI rfl zb)) (fun W hW hp hE => Ke (QD.mk p0.p p0.unit p0.open_ true) zF zG (hW.slS (k := 1) rfl hp rfl) zN zM zX zZ Dhp0_2 ⟨Qu.1, Qu.2⟩ bp0 (zB.mk 1 (⟨#[]⟩) (zU.mk 0 0) [] 0 0 []) none 0 (Sl.nil _ _ _) none 0 (Sl.nil _ _ _) zCn hy108 hE) ?_
     intro w u le109 hu
     obtain ⟨⟨zIC, zHv⟩, ⟨zIB, zHu, Dy108_1⟩⟩ := u
     obtain ⟨gy108_0, gy108_1⟩ := hu
     replace hT := hT.ext le109.ext
     replace leB := leB.trans le109
     have hgy108_0 : SlF zIC zCn.1.length zHv := gy108_0 --@phi
     have hgy108_1 : (SK Dy108_1 zCn.2 ∧ SlF zIB zCn.2.length zHu) := gy108_1 --@phi
     show Tr _ _ (uf _ 38 (.tuple #[])) (up (up (up _ 3 (sk zIB zHu 85 80 80 zJ Dy108_1)) 2 (ow zIC zHv 80 zC zCn.1)) 0 (bx bp0 #[(iv p0.p.Unit), (.slice zF p0.p.Tools.length zG), (.slice zIC zCn.1.length zHv), (.bool p0.unit), (.slice zIB zCn.2.length zHu), (.bool true)] 59)) _
     refine Tr.nil (Tr.zA (Tr.sr (Tr.asg rfl rfl (Tr.nil (Tr.zA (Tr.ret (Tr.zm (Tr.zO ?_))))))))
     obtain rfl := Option.some.inj H
     exact Tr.out (m := [(.bool true)]) [] (zQ rfl zT) (fun W hW => ⟨w, ((zF, zG), (zIC, zHv), (zIB, zHu, Dy108_1)), leB, rfl, ⟨Wi, hgy108_0, ⟨hgy108_1.1, hgy108_1.2⟩⟩, hW.pick (ks := [0, 1, 2, 3]) (by decide) (zL rfl (zL rfl (zL rfl (zL rfl QI))))⟩)
    ·refine Tr.sr (Tr.mv rfl rfl (Tr.va rfl (fun _ _ h1 h2 => Kv (h1.ev rfl) (h1.ev rfl)) ?_))
     refine Tr.asg rfl rfl (Tr.nil (Tr.zA (Tr.cond rfl H (fun H => ?_) (fun H => ?_))))
     ·refine Tr.sr (Tr.mv rfl rfl (Tr.build (vs := [(0, (iv 2))]) (cs := [(iv 2), (sv ⟨#[]⟩), (iv 0), (iv 0), (.slice none 0 0), (iv 0), (iv 0), (.slice none 0 0)]) (wn rfl) rfl (QE rfl Qq) (by kernel_rfl) ?_))
      obtain ⟨zA4, hy110, H⟩ := bnd H
      refine Tr.zEN [0, 2, 3] [bx bp0 #[(iv p0.p.Unit), (.slice zF p0.p.Tools.length zG), (.slice zN p0.p.Steps.length zM), (.bool p0.unit), (.slice zX p0.open_.length zZ), (.bool true)] 59, ow zN zM 80 zC p0.p.Steps, sk zX zZ 85 80 80 zJ Dhp0_2] (U := (Option Addr × Nat) × (Option Addr × Nat × List (PE zC))) (fun u => (.tuple #[])) (fun O W u => SlF u.1.1 zA4.1.length u.1.2 ∧ (SK u.2.2.2 zA4.2 ∧ SlF u.2.1 zA4.2.length u.2.2.1)) (fun u => [bx bp0 #[(iv p0.p.Unit), (.slice zF p0.p.Tools.length zG), (.slice u.1.1 zA4.1.length u.1.2), (.bool p0.unit), (.slice u.2.1 zA4.2.length u.2.2.1), (.bool true)] 59, ow u.1.1 u.1.2 80 zC zA4.1, sk u.2.1 u.2.2.1 85 80 80 zJ u.2.2.2]) rfl (zL rfl (zL rfl (zL rfl QI))) (fun _ => rfl) (wn rfl) rfl Tryz.call34 (zI rfl (zI rfl zb)) (fun W hW hp hE => Ke (QD.mk p0.p p0.unit p0.open_ true) zF zG (hW.slS (k := 1) rfl hp rfl) zN zM zX zZ Dhp0_2 ⟨Qu.1, Qu.2⟩ bp0 (zB.mk 2 (⟨#[]⟩) (zU.mk 0 0) [] 0 0 []) none 0 (Sl.nil _ _ _) none 0 (Sl.nil _ _ _) zA4 hy110 hE) ?_
      intro w u le111 hu
      obtain ⟨⟨zIA, zHt⟩, ⟨zH9, zHs, Dy110_1⟩⟩ := u
      obtain ⟨gy110_0, gy110_1⟩ := hu
      replace hT := hT.ext le111.ext
      replace leB := leB.trans le111
      have hgy110_0 : SlF zIA zA4.1.length zHt := gy110_0 --@phi
      have hgy110_1 : (SK Dy110_1 zA4.2 ∧ SlF zH9 zA4.2.length zHs) := gy110_1 --@phi
      show Tr _ _ (uf _ 44 (.tuple #[])) (up (up (up _ 3 (sk zH9 zHs 85 80 80 zJ Dy110_1)) 2 (ow zIA zHt 80 zC zA4.1)) 0 (bx bp0 #[(iv p0.p.Unit), (.slice zF p0.p.Tools.length zG), (.slice zIA zA4.1.length zHt), (.bool p0.unit), (.slice zH9 zA4.2.length zHs), (.bool true)] 59)) _
      refine Tr.nil (Tr.zA (Tr.sr (Tr.asg rfl rfl (Tr.nil (Tr.zA (Tr.ret (Tr.zm (Tr.zO ?_))))))))
      obtain rfl := Option.some.inj H
      exact Tr.out (m := [(.bool true)]) [] (zQ rfl zT) (fun W hW => ⟨w, ((zF, zG), (zIA, zHt), (zH9, zHs, Dy110_1)), leB, rfl, ⟨Wi, hgy110_0, ⟨hgy110_1.1, hgy110_1.2⟩⟩, hW.pick (ks := [0, 1, 2, 3]) (by decide) (zL rfl (zL rfl (zL rfl (zL rfl QI))))⟩)
     ·refine Tr.sr (Tr.mv rfl rfl (Tr.va rfl (fun _ _ h1 h2 => Kv (h1.ev rfl) (h1.ev rfl)) ?_))
      refine Tr.asg rfl rfl (Tr.nil (Tr.zA (Tr.cond rfl H (fun H => ?_) (fun H => ?_))))
      ·refine Tr.sr (Tr.mv rfl rfl (Tr.va rfl (fun _ _ h1 h2 => zz (h1.ev rfl)) ?_))
       refine Tr.va rfl (fun _ _ h1 h2 => zD zAp (h1.ev rfl)) ?_
       refine Tr.va rfl (fun _ _ h1 h2 => zH zF8 (h1.ev rfl) (rdb h2 (vs := [(iv p0.p.Unit), (.slice zF p0.p.Tools.length zG), (.slice zN p0.p.Steps.length zM), (.bool p0.unit), (.slice zX p0.open_.length zZ), (.bool true)]) (k := 0) rfl 4) rfl) ?_
       refine Tr.va rfl (fun _ _ h1 h2 => QL un_57 (h1.ev rfl)) ?_
       refine Tr.va rfl (fun _ _ h1 h2 => run_sub (h1.ev rfl) (h1.ev rfl)) ?_
       refine Tr.asg rfl rfl (Tr.nil (Tr.zA (Tr.seq (Tr.sr (Tr.mv rfl rfl (Tr.va rfl (fun _ _ h1 h2 => Qm (h1.ev rfl) (h1.ev rfl)) ?_))))))
       refine Tr.nil (Tr.zA (Tr.cond rfl H (fun H => ?_) (fun H => ?_)))
       ·refine Tr.sr (Tr.asg rfl rfl (Tr.nil (Tr.zA (Tr.ret (Tr.zO (Tr.zm (Tr.zO ?_)))))))
        obtain rfl := Option.some.inj H
        exact Tr.out (m := [(.bool false)]) [] (zQ rfl zT) (fun W hW => ⟨w, ((zF, zG), (zN, zM), (zX, zZ, Dhp0_2)), leB, rfl, ⟨Wi, Wh, ⟨Qu.1, Qu.2⟩⟩, hW.pick (ks := [0, 1, 2, 3]) (by decide) (zL rfl (zL rfl (zL rfl (zL rfl QI))))⟩)
       ·refine Tr.skip (Tr.zA (Tr.sr (Tr.mv rfl rfl (Tr.va rfl (fun _ _ h1 h2 => zz (h1.ev rfl)) ?_))))
        refine Tr.va rfl (fun _ _ h1 h2 => zD zAp (h1.ev rfl)) ?_
        refine Tr.va rfl (fun _ _ h1 h2 => zH zF8 (h1.ev rfl) (rdb h2 (vs := [(iv p0.p.Unit), (.slice zF p0.p.Tools.length zG), (.slice zN p0.p.Steps.length zM), (.bool p0.unit), (.slice zX p0.open_.length zZ), (.bool true)]) (k := 0) rfl 4) rfl) ?_
        refine Tr.mv rfl rfl ?_
        obtain ⟨x112, hx112, H⟩ := bnd H
        obtain ⟨hx1120, hx1121, hx1122⟩ := QP hx112
        refine Tr.skTake 3 5 6 7 8 (i := ((w64 ((p0.open_.length : Int) - 1))).toNat) rfl rfl rfl rfl rfl rfl rfl rfl rfl rfl hx1122 rfl Qu.1 fun bku113 u113 hoku113 hfu113 hdu113 => ?_
        obtain ⟨⟨zAV, zAT⟩, ⟨zAC, Wy⟩⟩ := u113
        have zGo : Sl w.O w.W QH zAV zAT x112.Points := hoku113
        replace hfu113 : SlF zAC x112.Steps.length Wy := hfu113
        replace hdu113 : ST Dhp0_2 p0.open_ ((w64 ((p0.open_.length : Int) - 1))).toNat bku113 ((zAV, zAT), (zAC, Wy)) x112 := hdu113
        show Tr _ _ _ (up (up (up (up (up _ 3 (ow zX zZ 85 (flP zC) Dhp0_2)) 5 (bxs 80 zJ (List.set Dhp0_2 ((w64 ((p0.open_.length : Int) - 1))).toNat ⟨bku113, ((zAV, zAT), (zAC, Wy)), x112, false⟩))) 6 (ins 80 zC ((List.set Dhp0_2 ((w64 ((p0.open_.length : Int) - 1))).toNat ⟨bku113, ((zAV, zAT), (zAC, Wy)), x112, false⟩).map (pne zJ)))) 7 (bx bku113 #[(iv x112.Kind), (sv x112.Name), (iv x112.At.X), (iv x112.At.Y), (.slice zAV x112.Points.length zAT), (iv x112.NX), (iv x112.NY), (.slice zAC x112.Steps.length Wy)] 80)) 8 (ow zAC Wy 80 zC x112.Steps)) _
        refine Tr.va rfl (fun _ _ h1 h2 => zR el_57 (h1.ev rfl) Qu.2 (h1.ev rfl) hx1120 hx1121) ?_
        refine Tr.va rfl (fun _ _ h1 h2 => zH ag_85 (h1.ev rfl) (rdo ef_P (k := 3) h2 rfl hdu113.2) rfl) ?_
        refine Tr.va rfl (fun _ _ h1 h2 => zz (h1.ev rfl)) ?_
        refine Tr.va rfl (fun _ _ h1 h2 => zo (cs := [(iv x112.Kind), (sv x112.Name), (iv x112.At.X), (iv x112.At.Y), (.slice zAV x112.Points.length zAT), (iv x112.NX), (iv x112.NY), (.slice zAC x112.Steps.length Wy)]) zDA Vu (h1.ev rfl) (zf.take (rdb h2 (vs := [(iv x112.Kind), (sv x112.Name), (iv x112.At.X), (iv x112.At.Y), (.slice zAV x112.Points.length zAT), (iv x112.NX), (iv x112.NY), (.slice zAC x112.Steps.length Wy)]) (k := 7) rfl 0) 8) rfl) ?_
        refine Tr.alloc 9 (wn rfl) rfl zFO fun zJN => ?_
        refine Tr.store 9 (cs := [(iv x112.Kind), (sv x112.Name), (iv x112.At.X), (iv x112.At.Y), (.slice zAV x112.Points.length zAT), (iv x112.NX), (iv x112.NY), (.slice zAC x112.Steps.length Wy)]) [(iv x112.Kind), (sv x112.Name), (iv x112.At.X), (iv x112.At.Y), (.slice zAV x112.Points.length zAT), (iv x112.NX), (iv x112.NY), (.slice zAC x112.Steps.length Wy)] (wn rfl) rfl rfl rfl rfl Vu rfl rfl rfl ?_
        refine Tr.nil (Tr.zA (Tr.sr (Tr.mv rfl rfl (Tr.mv rfl rfl (Tr.va rfl (fun _ _ h1 h2 => zz (h1.ev rfl)) ?_)))))
        refine Tr.va rfl (fun _ _ h1 h2 => zD zAp (h1.ev rfl)) ?_
        refine Tr.va rfl (fun _ _ h1 h2 => zH zF8 (h1.ev rfl) (rdb h2 (vs := [(iv p0.p.Unit), (.slice zF p0.p.Tools.length zG), (.slice zN p0.p.Steps.length zM), (.bool p0.unit), (.slice zX p0.open_.length zZ), (.bool true)]) (k := 0) rfl 4) rfl) ?_
        refine Tr.mv rfl rfl ?_
        obtain ⟨l115, hl115, H⟩ := bnd H
        refine Tr.va rfl (fun _ _ h1 h2 => run_pre el_57 (h1.ev rfl) Qu.2 (h1.ev rfl) hl115) ?_
        refine Tr.skPop 3 5 6 rfl rfl rfl rfl rfl rfl hdu113 fun ms116 hmms116 => ?_
        replace hmms116 : SK ms116 l115 := (pre_some hl115).2 ▸ hmms116
        refine Tr.va rfl (fun _ _ h1 h2 => zz (h1.ev rfl)) ?_
        refine Tr.va rfl (fun _ _ h1 h2 => zD zAp (h1.ev rfl)) ?_
        refine Tr.store 0 (cs := [(.slice zX l115.length zZ)]) [(iv p0.p.Unit), (.slice zF p0.p.Tools.length zG), (.slice zN p0.p.Steps.length zM), (.bool p0.unit), (.slice zX l115.length zZ), (.bool true)] (wn rfl) rfl rfl rfl rfl sz_57 rfl rfl rfl ?_
        refine Tr.nil (Tr.zA (Tr.sr (Tr.mv rfl rfl (Tr.va rfl (fun _ _ h1 h2 => zo (cs := [(iv x112.Kind), (sv x112.Name), (iv x112.At.X), (iv x112.At.Y), (.slice zAV x112.Points.length zAT), (iv x112.NX), (iv x112.NY), (.slice zAC x112.Steps.length Wy)]) zDA Vu (h1.ev rfl) (zf.take (rdb h2 (vs := [(iv x112.Kind), (sv x112.Name), (iv x112.At.X), (iv x112.At.Y), (.slice zAV x112.Points.length zAT), (iv x112.NX), (iv x112.NY), (.slice zAC x112.Steps.length Wy)]) (k := 9) rfl 0) 8) rfl) ?_))))
        refine Tr.freeze 8 rfl fun w le118 hz117 => ?_
        replace hT := hT.ext le118.ext
        replace zGo := zGo.le le118
        replace leB := leB.trans le118
        obtain ⟨KW, hy119, H⟩ := bnd H
        refine Tr.zEN [0, 2, 3] [bx bp0 #[(iv p0.p.Unit), (.slice zF p0.p.Tools.length zG), (.slice zN p0.p.Steps.length zM), (.bool p0.unit), (.slice zX l115.length zZ), (.bool true)] 59, ow zN zM 80 zC p0.p.Steps, sk zX zZ 85 80 80 zJ ms116] (U := (Option Addr × Nat) × (Option Addr × Nat × List (PE zC))) (fun u => (.tuple #[])) (fun O W u => SlF u.1.1 KW.1.length u.1.2 ∧ (SK u.2.2.2 KW.2 ∧ SlF u.2.1 KW.2.length u.2.2.1)) (fun u => [bx bp0 #[(iv p0.p.Unit), (.slice zF p0.p.Tools.length zG), (.slice u.1.1 KW.1.length u.1.2), (.bool p0.unit), (.slice u.2.1 KW.2.length u.2.2.1), (.bool true)] 59, ow u.1.1 u.1.2 80 zC KW.1, sk u.2.1 u.2.2.1 85 80 80 zJ u.2.2.2]) rfl (zL rfl (zL rfl (zL rfl QI))) (fun _ => rfl) (wn rfl) rfl Tryz.call34 (zI rfl (zI rfl zb)) (fun W hW hp hE => Ke (QD.mk p0.p p0.unit l115 true) zF zG (hW.slS (k := 1) rfl hp rfl) zN zM zX zZ ms116 ⟨hmms116, (pre_form Qu.2 hl115)⟩ bp0 x112 zAV zAT (zGo.extO (hW.zFz hp)) zAC Wy (hz117.extO (hW.zFz hp)) KW hy119 hE) ?_
        intro w u le120 hu
        obtain ⟨⟨zH8, zHr⟩, ⟨zH7, zHq, Dy119_1⟩⟩ := u
        obtain ⟨gy119_0, gy119_1⟩ := hu
        replace hT := hT.ext le120.ext
        replace hz117 := hz117.le le120
        replace leB := leB.trans le120
        have hgy119_0 : SlF zH8 KW.1.length zHr := gy119_0 --@phi
        have hgy119_1 : (SK Dy119_1 KW.2 ∧ SlF zH7 KW.2.length zHq) := gy119_1 --@phi
        show Tr _ _ (uf _ 76 (.tuple #[])) (up (up (up _ 3 (sk zH7 zHq 85 80 80 zJ Dy119_1)) 2 (ow zH8 zHr 80 zC KW.1)) 0 (bx bp0 #[(iv p0.p.Unit), (.slice zF p0.p.Tools.length zG), (.slice zH8 KW.1.length zHr), (.bool p0.unit), (.slice zH7 KW.2.length zHq), (.bool true)] 59)) _
        refine Tr.nil (Tr.zA (Tr.sr (Tr.asg rfl rfl (Tr.nil (Tr.zA (Tr.ret (Tr.zm (Tr.zO ?_))))))))
        obtain rfl := Option.some.inj H
        exact Tr.out (m := [(.bool true)]) [] (zQ rfl zT) (fun W hW => ⟨w, ((zF, zG), (zH8, zHr), (zH7, zHq, Dy119_1)), leB, rfl, ⟨Wi, hgy119_0, ⟨hgy119_1.1, hgy119_1.2⟩⟩, hW.pick (ks := [0, 1, 2, 3]) (by decide) (zL rfl (zL rfl (zL rfl (zL rfl QI))))⟩)
      ·refine Tr.sr (Tr.mv rfl rfl ?_)
       obtain ⟨x121, hx121, H⟩ := bnd H
       obtain ⟨hx1210, hx1211, hx1212⟩ := QP hx121
       refine Tr.va rfl (fun _ _ h1 h2 => zR zCc (h1.ev rfl) zCH (h1.ev rfl) hx1210 hx1211) ?_
       refine Tr.va rfl (fun _ _ h1 h2 => zH zB2 (h1.ev rfl) (rdo zBj (k := 4) h2 rfl hx1212) rfl) ?_
       refine Tr.va rfl (fun _ _ h1 h2 => Kv (h1.ev rfl) (h1.ev rfl)) ?_
       refine Tr.asg rfl rfl (Tr.nil (Tr.zA (Tr.cond rfl H (fun H => ?_) (fun H => ?_))))
       ·refine Tr.seq (Tr.sr (Tr.mv rfl rfl (Tr.va rfl (fun _ _ h1 h2 => QL un_66 (h1.ev rfl)) ?_)))
        refine Tr.va rfl (fun _ _ h1 h2 => Jw (h1.ev rfl) (h1.ev rfl)) ?_
        refine Tr.mv rfl rfl ?_
        obtain ⟨g124, zC0, H⟩ := bnd H
        refine Tr.KY 6 [(0, (.pointer (some ⟨bp0, 0, none⟩))), (5, (.slice zAB QU.length Wl)), (91, (.bool g124))] [(0, bx bp0 #[(iv p0.p.Unit), (.slice zF p0.p.Tools.length zG), (.slice zN p0.p.Steps.length zM), (.bool p0.unit), (.slice zX p0.open_.length zZ), (.bool true)] 59), (1, ow zF zG 47 zK p0.p.Tools), (2, ow zN zM 80 zC p0.p.Steps), (3, sk zX zZ 85 80 80 zJ Dhp0_2), (4, ow zAB Wl 9 zAq QU)] ?_ ?_
        ·cases hg129 : ((QU.length : Int) != 2)
         ·rw [hg129] at zC0
          rw [if_neg (by decide)] at zC0
          have H := zC0
          refine Tr.val (wg rfl rfl rfl) rfl (fun _ _ h1 h2 => run_move (h1.ev rfl)) ?_
          obtain ⟨zJ8, hx125, H⟩ := bnd H
          obtain ⟨hx1250, hx1251, hx1252⟩ := QP hx125
          refine Tr.val (wg rfl rfl rfl) rfl (fun _ _ h1 h2 => zR zCc (h1.ev rfl) zCH (h1.ev rfl) hx1250 hx1251) ?_
          refine Tr.val (wg rfl rfl rfl) rfl (fun _ _ h1 h2 => zH zB2 (h1.ev rfl) (rdo zBj (k := 4) h2 rfl hx1252) rfl) ?_
          obtain ⟨y126, hy126, H⟩ := bnd H
          refine Tr.Qr (r := (.bool y126)) (wg rfl rfl rfl) rfl Tryz.call35 (zI rfl zb) (fun W hW => zDx zJ8 y126 hy126 (HF.start _)) ?_
          refine Tr.val (wg rfl rfl rfl) rfl (fun _ _ h1 h2 => JA (h1.ev rfl)) ?_
          refine Tr.va rfl (fun _ _ h1 h2 => zh (h1.ev rfl) (h1.ev rfl)) ?_
          obtain rfl := Option.some.inj H
          exact Tr.nil (Tr.Qc (.cons rfl (.cons rfl (.cons rfl .nil))) (.cons rfl (.cons rfl (.cons rfl (.cons rfl (.cons rfl .nil))))))
         ·rw [hg129] at zC0
          rw [if_pos rfl] at zC0
          have H := zC0
          obtain rfl := Option.some.inj H
          refine Tr.pass rfl rfl rfl rfl rfl (by decide) ?_
          refine Tr.pass rfl rfl rfl rfl rfl (by decide) ?_
          refine Tr.pass rfl rfl rfl rfl rfl (by decide) ?_
          refine Tr.pass rfl rfl rfl rfl rfl (by decide) ?_
          refine Tr.pass rfl rfl rfl rfl rfl (by decide) ?_
          refine Tr.va rfl (fun _ _ h1 h2 => zg (h1.ev rfl) (h1.ev rfl)) ?_
          exact Tr.nil (Tr.Qc (.cons rfl (.cons rfl (.cons rfl .nil))) (.cons rfl (.cons rfl (.cons rfl (.cons rfl (.cons rfl .nil))))))
        ·show Tr _ _ (LF [(0, (.pointer (some ⟨bp0, 0, none⟩))), (5, (.slice zAB QU.length Wl)), (91, (.bool g124))]) (LE [(0, bx bp0 #[(iv p0.p.Unit), (.slice zF p0.p.Tools.length zG), (.slice zN p0.p.Steps.length zM), (.bool p0.unit), (.slice zX p0.open_.length zZ), (.bool true)] 59), (1, ow zF zG 47 zK p0.p.Tools), (2, ow zN zM 80 zC p0.p.Steps), (3, sk zX zZ 85 80 80 zJ Dhp0_2), (4, ow zAB Wl 9 zAq QU)]) _
         refine Tr.nil (Tr.zA (Tr.cond rfl H (fun H => ?_) (fun H => ?_)))
         ·refine Tr.sr (Tr.asg rfl rfl (Tr.nil (Tr.zA (Tr.ret (Tr.zO (Tr.zm (Tr.zO ?_)))))))
          obtain rfl := Option.some.inj H
          exact Tr.out (m := [(.bool false)]) [] (zQ rfl zT) (fun W hW => ⟨w, ((zF, zG), (zN, zM), (zX, zZ, Dhp0_2)), leB, rfl, ⟨Wi, Wh, ⟨Qu.1, Qu.2⟩⟩, hW.pick (ks := [0, 1, 2, 3]) (by decide) (zL rfl (zL rfl (zL rfl (zL rfl QI))))⟩)
         ·refine Tr.skip (Tr.zA (Tr.sr (Tr.mv rfl rfl (Tr.mv rfl rfl ?_))))
          obtain ⟨zFQ, hx127, H⟩ := bnd H
          obtain ⟨hx1270, hx1271, hx1272⟩ := QP hx127
          refine Tr.va rfl (fun _ _ h1 h2 => zR zCc (h1.ev rfl) zCH (h1.ev rfl) hx1270 hx1271) ?_
          refine Tr.va rfl (fun _ _ h1 h2 => zH zB2 (h1.ev rfl) (rdo zBj (k := 4) h2 rfl hx1272) rfl) ?_
          refine Tr.build (vs := [(0, (iv 3)), (1, (sv zFQ))]) (cs := [(iv 3), (sv zFQ), (iv 0), (iv 0), (.slice none 0 0), (iv 0), (iv 0), (.slice none 0 0)]) (wn rfl) rfl (QE rfl (QE rfl Qq)) (by kernel_rfl) ?_
          obtain ⟨zEg, hy128, H⟩ := bnd H
          refine Tr.zEN [0, 2, 3] [bx bp0 #[(iv p0.p.Unit), (.slice zF p0.p.Tools.length zG), (.slice zN p0.p.Steps.length zM), (.bool p0.unit), (.slice zX p0.open_.length zZ), (.bool true)] 59, ow zN zM 80 zC p0.p.Steps, sk zX zZ 85 80 80 zJ Dhp0_2] (U := (Option Addr × Nat) × (Option Addr × Nat × List (PE zC))) (fun u => (.tuple #[])) (fun O W u => SlF u.1.1 zEg.1.length u.1.2 ∧ (SK u.2.2.2 zEg.2 ∧ SlF u.2.1 zEg.2.length u.2.2.1)) (fun u => [bx bp0 #[(iv p0.p.Unit), (.slice zF p0.p.Tools.length zG), (.slice u.1.1 zEg.1.length u.1.2), (.bool p0.unit), (.slice u.2.1 zEg.2.length u.2.2.1), (.bool true)] 59, ow u.1.1 u.1.2 80 zC zEg.1, sk u.2.1 u.2.2.1 85 80 80 zJ u.2.2.2]) rfl (zL rfl (zL rfl (zL rfl QI))) (fun _ => rfl) (wn rfl) rfl Tryz.call34 (zI rfl (zI rfl zb)) (fun W hW hp hE => Ke (QD.mk p0.p p0.unit p0.open_ true) zF zG (hW.slS (k := 1) rfl hp rfl) zN zM zX zZ Dhp0_2 ⟨Qu.1, Qu.2⟩ bp0 (zB.mk 3 zFQ (zU.mk 0 0) [] 0 0 []) none 0 (Sl.nil _ _ _) none 0 (Sl.nil _ _ _) zEg hy128 hE) ?_
          intro w u le129 hu
          obtain ⟨⟨zH6, zHp⟩, ⟨zH5, zHo, Dy128_1⟩⟩ := u
          obtain ⟨gy128_0, gy128_1⟩ := hu
          replace hT := hT.ext le129.ext
          replace leB := leB.trans le129
          have hgy128_0 : SlF zH6 zEg.1.length zHp := gy128_0 --@phi
          have hgy128_1 : (SK Dy128_1 zEg.2 ∧ SlF zH5 zEg.2.length zHo) := gy128_1 --@phi
          show Tr _ _ (uf _ 97 (.tuple #[])) (up (up (up _ 3 (sk zH5 zHo 85 80 80 zJ Dy128_1)) 2 (ow zH6 zHp 80 zC zEg.1)) 0 (bx bp0 #[(iv p0.p.Unit), (.slice zF p0.p.Tools.length zG), (.slice zH6 zEg.1.length zHp), (.bool p0.unit), (.slice zH5 zEg.2.length zHo), (.bool true)] 59)) _
          refine Tr.nil (Tr.zA (Tr.sr (Tr.asg rfl rfl (Tr.nil (Tr.zA (Tr.ret (Tr.zm (Tr.zO ?_))))))))
          obtain rfl := Option.some.inj H
          exact Tr.out (m := [(.bool true)]) [] (zQ rfl zT) (fun W hW => ⟨w, ((zF, zG), (zH6, zHp), (zH5, zHo, Dy128_1)), leB, rfl, ⟨Wi, hgy128_0, ⟨hgy128_1.1, hgy128_1.2⟩⟩, hW.pick (ks := [0, 1, 2, 3]) (by decide) (zL rfl (zL rfl (zL rfl (zL rfl QI))))⟩)
       ·refine Tr.skip (Tr.zx (Tr.zA (Tr.sr (Tr.mv rfl rfl ?_))))
        obtain ⟨l130, hl130, H⟩ := bnd H
        refine Tr.va rfl (fun _ _ h1 h2 => zIT zCc (h1.ev rfl) zCH (h1.ev rfl) hl130) ?_
        obtain ⟨zD4, hy131, H⟩ := bnd H
        refine Tr.zAE [10] [emp] (U := (Option Addr × Nat)) (fun u => (.tuple #[(.slice u.1 zD4.1.length u.2), (.bool zD4.2)])) (fun u => SlF u.1 zD4.1.length u.2) (fun u => [ow u.1 u.2 3 Kh zD4.1]) rfl (zL rfl QI) (fun _ => rfl) (wn rfl) rfl Tryz.call36 (zI rfl zb) (fun W hW hp hE => zAz l130 (zF2 zAB (1 : Int).toNat 1 Wl) (Wl - (1 : Int).toNat) (Sl.cut (hW.slS (k := 4) rfl hp rfl) hl130) zD4 hy131 hE) ?_
        intro u hu
        obtain ⟨zH4, zHn⟩ := u
        have gy131_0 := hu
        have hgy131_0 : SlF zH4 zD4.1.length zHn := gy131_0 --@phi
        show Tr _ _ (uf _ 101 (.tuple #[(.slice zH4 zD4.1.length zHn), (.bool zD4.2)])) (up _ 10 (ow zH4 zHn 3 Kh zD4.1)) _
        refine Tr.mv rfl rfl (Tr.va rfl (fun _ _ h1 h2 => QW (h1.ev rfl) rfl) ?_)
        refine Tr.va rfl (fun _ _ h1 h2 => QW (h1.ev rfl) rfl) ?_
        refine Tr.asg rfl rfl (Tr.asg rfl rfl (Tr.nil (Tr.zA (Tr.sr (Tr.mv rfl rfl (Tr.mv rfl rfl ?_))))))
        cases hg135 : zD4.2
        ·rw [hg135, if_neg (by decide)] at H
         refine Tr.pass rfl rfl rfl rfl rfl (by decide) ?_
         refine Tr.pass rfl rfl rfl rfl rfl (by decide) ?_
         refine Tr.pass rfl rfl rfl rfl rfl (by decide) ?_
         refine Tr.pass rfl rfl rfl rfl rfl (by decide) ?_
         refine Tr.pass rfl rfl rfl rfl rfl (by decide) ?_
         refine Tr.pass rfl rfl rfl rfl rfl (by decide) ?_
         refine Tr.va rfl (fun _ _ h1 h2 => zh (h1.ev rfl) (h1.ev rfl)) ?_
         refine Tr.asg rfl rfl (Tr.nil (Tr.zA (Tr.ret ?_)))
         obtain rfl := Option.some.inj H
         exact Tr.out (m := [(.bool false)]) [] (zQ rfl zT) (fun W hW => ⟨w, ((zF, zG), (zN, zM), (zX, zZ, Dhp0_2)), leB, rfl, ⟨Wi, Wh, ⟨Qu.1, Qu.2⟩⟩, hW.pick (ks := [0, 1, 2, 3]) (by decide) (zL rfl (zL rfl (zL rfl (zL rfl QI))))⟩)
        ·rw [hg135, if_pos rfl] at H
         refine Tr.val (wg rfl rfl rfl) rfl (fun _ _ h1 h2 => run_move (h1.ev rfl)) ?_
         refine Tr.val (wg rfl rfl rfl) rfl (fun _ _ h1 h2 => run_move (h1.ev rfl)) ?_
         obtain ⟨zCp, hx137, H⟩ := bnd H
         obtain ⟨hx1370, hx1371, hx1372⟩ := QP hx137
         refine Tr.val (wg rfl rfl rfl) rfl (fun _ _ h1 h2 => zR zCc (h1.ev rfl) zCH (h1.ev rfl) hx1370 hx1371) ?_
         refine Tr.val (wg rfl rfl rfl) rfl (fun _ _ h1 h2 => zH zB2 (h1.ev rfl) (rdo zBj (k := 4) h2 rfl hx1372) rfl) ?_
         refine Tr.val (wg rfl rfl rfl) rfl (fun _ _ h1 h2 => run_move (h1.ev rfl)) ?_
         obtain ⟨zBs, hy138, H⟩ := bnd H
         refine Tr.zEN [0, 2, 3] [bx bp0 #[(iv p0.p.Unit), (.slice zF p0.p.Tools.length zG), (.slice zN p0.p.Steps.length zM), (.bool p0.unit), (.slice zX p0.open_.length zZ), (.bool true)] 59, ow zN zM 80 zC p0.p.Steps, sk zX zZ 85 80 80 zJ Dhp0_2] (U := (Option Addr × Nat) × (Option Addr × Nat × List (PE zC))) (fun u => (.bool zBs.1)) (fun O W u => SlF u.1.1 zBs.2.1.length u.1.2 ∧ (SK u.2.2.2 zBs.2.2 ∧ SlF u.2.1 zBs.2.2.length u.2.2.1)) (fun u => [bx bp0 #[(iv p0.p.Unit), (.slice zF p0.p.Tools.length zG), (.slice u.1.1 zBs.2.1.length u.1.2), (.bool p0.unit), (.slice u.2.1 zBs.2.2.length u.2.2.1), (.bool true)] 59, ow u.1.1 u.1.2 80 zC zBs.2.1, sk u.2.1 u.2.2.1 85 80 80 zJ u.2.2.2]) rfl (zL rfl (zL rfl (zL rfl QI))) (fun _ => rfl) (wg rfl rfl rfl) rfl Tryz.call37 (zI rfl (zI rfl (zI rfl zb))) (fun W hW hp hE => zCO N (QD.mk p0.p p0.unit p0.open_ true) zF zG (hW.slS (k := 1) rfl hp rfl) zN zM zX zZ Dhp0_2 ⟨Qu.1, Qu.2⟩ bp0 zCp zD4.1 zH4 zHn (hW.slS (k := 10) rfl hp rfl) zBs hy138 hE) ?_
         intro w u le139 hu
         obtain ⟨⟨zH3, zHm⟩, ⟨zH2, zHl, Dy138_1⟩⟩ := u
         obtain ⟨gy138_0, gy138_1⟩ := hu
         replace hT := hT.ext le139.ext
         replace leB := leB.trans le139
         have hgy138_0 : SlF zH3 zBs.2.1.length zHm := gy138_0 --@phi
         have hgy138_1 : (SK Dy138_1 zBs.2.2 ∧ SlF zH2 zBs.2.2.length zHl) := gy138_1 --@phi
         show Tr _ _ (uf _ 111 (.bool zBs.1)) (up (up (up _ 3 (sk zH2 zHl 85 80 80 zJ Dy138_1)) 2 (ow zH3 zHm 80 zC zBs.2.1)) 0 (bx bp0 #[(iv p0.p.Unit), (.slice zF p0.p.Tools.length zG), (.slice zH3 zBs.2.1.length zHm), (.bool p0.unit), (.slice zH2 zBs.2.2.length zHl), (.bool true)] 59)) _
         refine Tr.va rfl (fun _ _ h1 h2 => zg (h1.ev rfl) (h1.ev rfl)) ?_
         refine Tr.asg rfl rfl (Tr.nil (Tr.zA (Tr.ret ?_)))
         obtain rfl := Option.some.inj H
         exact Tr.out (m := [(.bool zBs.1)]) [] (zQ rfl zT) (fun W hW => ⟨w, ((zF, zG), (zH3, zHm), (zH2, zHl, Dy138_1)), leB, rfl, ⟨Wi, hgy138_0, ⟨hgy138_1.1, hgy138_1.2⟩⟩, hW.pick (ks := [0, 1, 2, 3]) (by decide) (zL rfl (zL rfl (zL rfl (zL rfl QI))))⟩)

theorem zEO (N : Nat) {w : Bs} (hT : Tab Tryz.prog w) (p0 : ByteArray) (r : (zi × Int × Int)) (H : KX N p0 = some r) (hE : HF w w.W (LEn [emp, emp])) : Calls Tryz.prog 6 [(sv p0)].toArray w.W fun e W' => ∃ (w' : Bs) (u : (Option Addr × Nat) × (Option Addr × Nat)), w.Le w' ∧ e = .returned (.tuple #[(.agg #[(iv r.1.Unit), (.slice u.1.1 r.1.Tools.length u.1.2), (.slice u.2.1 r.1.Steps.length u.2.2)]), (iv r.2.1), (iv r.2.2)]) ∧ (SlF u.1.1 r.1.Tools.length u.1.2 ∧ SlF u.2.1 r.1.Steps.length u.2.2) ∧ HF w' W' (LEn [ow u.1.1 u.1.2 47 zK r.1.Tools, ow u.2.1 u.2.2 80 zC r.1.Steps]) := by
 unfold KX at H
 have leB := Bs.Le.refl w
 refine Tr.enter (n := 66) Tryz.func6 rfl rfl rfl hE ?_
 refine Tr.sr (Tr.alloc 1 (wn rfl) rfl ze_25 fun QG => ?_)
 refine Tr.asg rfl rfl (Tr.asg rfl rfl (Tr.nil (Tr.zA (Tr.seq (Tr.sr (Tr.mv rfl rfl (Tr.va rfl (fun _ _ h1 h2 => zAJ zFR (h1.ev rfl)) ?_)))))))
 refine Tr.va rfl (fun _ _ h1 h2 => WB (h1.ev rfl) (h1.ev rfl)) ?_
 refine Tr.nil (Tr.zA (Tr.cond rfl H (fun H => ?_) (fun H => ?_)))
 ·refine Tr.sr (Tr.build (vs := []) (cs := [(iv 0), (.slice none 0 0), (.slice none 0 0)]) (wn rfl) rfl Qq (by kernel_rfl) ?_)
  refine Tr.store 1 (cs := [(iv 0), (.slice none 0 0), (.slice none 0 0)]) [(iv 0), (.slice none 0 0), (.slice none 0 0)] (wn rfl) rfl rfl rfl rfl WQ rfl rfl rfl ?_
  refine Tr.asg rfl rfl (Tr.asg rfl rfl (Tr.nil (Tr.zA (Tr.ret (Tr.zO ?_)))))
  obtain rfl := Option.some.inj H
  refine Tr.WC 2 47 zK ?_
  refine Tr.WC 3 80 zC ?_
  exact Tr.out (m := [(.agg #[(iv 0), (.slice none 0 0), (.slice none 0 0)]), (iv 0), (iv 2)]) [1] (Ws rfl rfl zBZ WQ (zQ rfl (zQ rfl zT))) (fun W hW => ⟨w, ((none, 0), (none, 0)), leB, rfl, ⟨VC, VC⟩, hW.pick (ks := [2, 3]) (by decide) (zL rfl (zL rfl QI))⟩)
 ·refine Tr.skip (Tr.zA (Tr.sr (Tr.build (vs := []) (cs := [(iv 0), (.slice none 0 0), (.slice none 0 0), (.bool false), (.slice none 0 0), (.bool false)]) (wn rfl) rfl Qq (by kernel_rfl) ?_)))
  refine Tr.box 4 (cs := [(iv 0), (.slice none 0 0), (.slice none 0 0), (.bool false), (.slice none 0 0), (.bool false)]) (wn rfl) rfl rfl rfl fun JX => ?_
  refine Tr.asg rfl rfl (Tr.nil (Tr.zA (Tr.sr (Tr.asg rfl rfl (Tr.nil (Tr.zA (Tr.seq (Tr.block (Tr.skNil 5 85 80 80 zJ ?_)))))))))
  refine Tr.WC 16 47 zK ?_
  refine Tr.WC 17 80 zC ?_
  refine Tr.loop (σ := (List zB) × Int × (List zS) × (List zB) × Bool × Bool × ByteArray × Int × (Option Addr) × Nat × (List (PE zC)) × (Option Addr) × Nat × (Option Addr) × Nat) (fun m w s => Kz N m s.1 s.2.1 s.2.2.1 s.2.2.2.1 s.2.2.2.2.1 s.2.2.2.2.2.1 s.2.2.2.2.2.2.1 s.2.2.2.2.2.2.2.1 = some r ∧ (SK s.2.2.2.2.2.2.2.2.2.2.1 s.1 ∧ SlF s.2.2.2.2.2.2.2.2.1 s.1.length s.2.2.2.2.2.2.2.2.2.1) ∧ SlF s.2.2.2.2.2.2.2.2.2.2.2.1 s.2.2.1.length s.2.2.2.2.2.2.2.2.2.2.2.2.1 ∧ SlF s.2.2.2.2.2.2.2.2.2.2.2.2.2.1 s.2.2.2.1.length s.2.2.2.2.2.2.2.2.2.2.2.2.2.2) (fun s => [(0, (sv s.2.2.2.2.2.2.1)), (2, (.pointer (some ⟨QG, 0, none⟩))), (5, (.pointer (some ⟨JX, 0, none⟩))), (6, (iv s.2.2.2.2.2.2.2.1))]) (fun s => [(1, bx QG #[(iv 0), (.slice none 0 0), (.slice none 0 0)] 25), (4, bx JX #[(iv s.2.1), (.slice s.2.2.2.2.2.2.2.2.2.2.2.1 s.2.2.1.length s.2.2.2.2.2.2.2.2.2.2.2.2.1), (.slice s.2.2.2.2.2.2.2.2.2.2.2.2.2.1 s.2.2.2.1.length s.2.2.2.2.2.2.2.2.2.2.2.2.2.2), (.bool s.2.2.2.2.1), (.slice s.2.2.2.2.2.2.2.2.1 s.1.length s.2.2.2.2.2.2.2.2.2.1), (.bool s.2.2.2.2.2.1)] 59), (5, sk s.2.2.2.2.2.2.2.2.1 s.2.2.2.2.2.2.2.2.2.1 85 80 80 zJ s.2.2.2.2.2.2.2.2.2.2.1), (16, ow s.2.2.2.2.2.2.2.2.2.2.2.1 s.2.2.2.2.2.2.2.2.2.2.2.2.1 47 zK s.2.2.1), (17, ow s.2.2.2.2.2.2.2.2.2.2.2.2.2.1 s.2.2.2.2.2.2.2.2.2.2.2.2.2.2 80 zC s.2.2.2.1)]) N (([] : List zB), 0, ([] : List zS), ([] : List zB), false, false, p0, 1, none, 0, [], none, 0, none, 0) ⟨H, ⟨SK.nil, VC⟩, VC, VC⟩ (.cons rfl (.cons rfl (.cons rfl (.cons rfl .nil)))) (.cons rfl (.cons rfl (.cons rfl (.cons rfl (.cons rfl .nil))))) (fun _ _ h => zEE (h.1)) ?_
  intro w Qy mL1 s hs
  obtain ⟨m138, VB, zAL, Ww, zDy, zFP, x144, zGP, Am138, cm138, msm138, WX, WT, Vs, Vm⟩ := s
  obtain ⟨H, hm138, hl140, hl141⟩ := hs
  replace H : Kz N (mL1 + 1) m138 VB zAL Ww zDy zFP x144 zGP = some r := H
  replace hT := hT.ext Qy.ext
  replace leB := leB.trans Qy
  replace hm138 : SK msm138 m138 ∧ SlF Am138 m138.length cm138 := hm138
  replace hl140 : SlF WX zAL.length WT := hl140
  replace hl141 : SlF Vs Ww.length Vm := hl141
  rw [Kz.eq_2] at H
  show Tr _ _ (LF [(0, (sv x144)), (2, (.pointer (some ⟨QG, 0, none⟩))), (5, (.pointer (some ⟨JX, 0, none⟩))), (6, (iv zGP))]) (LE [(1, bx QG #[(iv 0), (.slice none 0 0), (.slice none 0 0)] 25), (4, bx JX #[(iv VB), (.slice WX zAL.length WT), (.slice Vs Ww.length Vm), (.bool zDy), (.slice Am138 m138.length cm138), (.bool zFP)] 59), (5, sk Am138 cm138 85 80 80 zJ msm138), (16, ow WX WT 47 zK zAL), (17, ow Vs Vm 80 zC Ww)]) _
  refine Tr.seq (Tr.sr (Tr.mv rfl rfl (Tr.va rfl (fun _ _ h1 h2 => zCF (h1.ev rfl) (h1.ev rfl)) ?_)))
  refine Tr.nil (Tr.zA (Tr.cond rfl H (fun H => ?_) (fun H => ?_)))
  ·refine Tr.skip (Tr.zA (Tr.seq (Tr.block (Tr.sr (Tr.mv rfl rfl ?_)))))
   obtain ⟨zA3, hy146, H⟩ := bnd H
   refine Tr.Qr (r := (.tuple #[(sv zA3.1), (sv zA3.2.1), (.bool zA3.2.2)])) (wn rfl) rfl Tryz.call17 (zI rfl (zI rfl zb)) (fun W hW => zGv (hT.ext hW.QV) x144 (⟨#[10]⟩) zA3 hy146 (HF.start _)) ?_
   refine Tr.mv rfl rfl (Tr.va rfl (fun _ _ h1 h2 => QW (h1.ev rfl) rfl) ?_)
   refine Tr.va rfl (fun _ _ h1 h2 => QW (h1.ev rfl) rfl) ?_
   refine Tr.va rfl (fun _ _ h1 h2 => QW (h1.ev rfl) rfl) ?_
   refine Tr.asg rfl rfl (Tr.asg rfl rfl (Tr.asg rfl rfl (Tr.nil (Tr.zA (Tr.seq (Tr.sr (Tr.mv rfl rfl (Tr.va rfl (fun _ _ h1 h2 => JA (h1.ev rfl)) ?_))))))))
   refine Tr.mv rfl rfl ?_
   cases zFr : (!zA3.2.2)
   ·rw [zFr, if_neg (by decide)] at H
    refine Tr.val (wg rfl rfl rfl) rfl (fun _ _ h1 h2 => run_move (h1.ev rfl)) ?_
    refine Tr.val (wg rfl rfl rfl) rfl (fun _ _ h1 h2 => run_move (h1.ev rfl)) ?_
    obtain ⟨y150, hy150, H⟩ := bnd H
    refine Tr.zEN [4, 16, 17, 5] [bx JX #[(iv VB), (.slice WX zAL.length WT), (.slice Vs Ww.length Vm), (.bool zDy), (.slice Am138 m138.length cm138), (.bool zFP)] 59, ow WX WT 47 zK zAL, ow Vs Vm 80 zC Ww, sk Am138 cm138 85 80 80 zJ msm138] (U := (Option Addr × Nat) × (Option Addr × Nat) × (Option Addr × Nat × List (PE zC))) (fun u => (.bool y150.1)) (fun O W u => SlF u.1.1 y150.2.2.2.2.1.length u.1.2 ∧ SlF u.2.1.1 y150.2.2.2.2.2.1.length u.2.1.2 ∧ (SK u.2.2.2.2 y150.2.2.2.2.2.2 ∧ SlF u.2.2.1 y150.2.2.2.2.2.2.length u.2.2.2.1)) (fun u => [bx JX #[(iv y150.2.1), (.slice u.1.1 y150.2.2.2.2.1.length u.1.2), (.slice u.2.1.1 y150.2.2.2.2.2.1.length u.2.1.2), (.bool y150.2.2.1), (.slice u.2.2.1 y150.2.2.2.2.2.2.length u.2.2.2.1), (.bool y150.2.2.2.1)] 59, ow u.1.1 u.1.2 47 zK y150.2.2.2.2.1, ow u.2.1.1 u.2.1.2 80 zC y150.2.2.2.2.2.1, sk u.2.2.1 u.2.2.2.1 85 80 80 zJ u.2.2.2.2]) rfl (zL rfl (zL rfl (zL rfl (zL rfl QI)))) (fun _ => rfl) (wg rfl rfl rfl) rfl Tryz.call18 (zI rfl (zI rfl zb)) (fun W hW hp hE => zDj N (hT.ext (hW.zFz hp)) (QD.mk (zi.mk VB zAL Ww) zDy m138 zFP) WX WT Vs Vm Am138 cm138 msm138 ⟨hm138.1, hm138.2⟩ JX zA3.1 y150 hy150 hE) ?_
    intro w u le151 hu
    obtain ⟨⟨zHz, zHi⟩, ⟨zHy, zHh⟩, ⟨zHx, zHg, Dy150_2⟩⟩ := u
    obtain ⟨gy150_0, gy150_1, gy150_2⟩ := hu
    replace hT := hT.ext le151.ext
    replace leB := leB.trans le151
    replace Qy := Qy.trans le151
    have hgy150_0 : SlF zHz y150.2.2.2.2.1.length zHi := gy150_0 --@phi
    have hgy150_1 : SlF zHy y150.2.2.2.2.2.1.length zHh := gy150_1 --@phi
    have hgy150_2 : (SK Dy150_2 y150.2.2.2.2.2.2 ∧ SlF zHx y150.2.2.2.2.2.2.length zHg) := gy150_2 --@phi
    show Tr _ _ (uf _ 32 (.bool y150.1)) (up (up (up (up _ 5 (sk zHx zHg 85 80 80 zJ Dy150_2)) 17 (ow zHy zHh 80 zC y150.2.2.2.2.2.1)) 16 (ow zHz zHi 47 zK y150.2.2.2.2.1)) 4 (bx JX #[(iv y150.2.1), (.slice zHz y150.2.2.2.2.1.length zHi), (.slice zHy y150.2.2.2.2.2.1.length zHh), (.bool y150.2.2.1), (.slice zHx y150.2.2.2.2.2.2.length zHg), (.bool y150.2.2.2.1)] 59)) _
    refine Tr.val (wg rfl rfl rfl) rfl (fun _ _ h1 h2 => JA (h1.ev rfl)) ?_
    refine Tr.va rfl (fun _ _ h1 h2 => zh (h1.ev rfl) (h1.ev rfl)) ?_
    refine Tr.nil (Tr.zA (Tr.cond rfl H (fun H => ?_) (fun H => ?_)))
    ·refine Tr.sr (Tr.build (vs := []) (cs := [(iv 0), (.slice none 0 0), (.slice none 0 0)]) (wn rfl) rfl Qq (by kernel_rfl) ?_)
     refine Tr.mv rfl rfl (Tr.store 1 (cs := [(iv 0), (.slice none 0 0), (.slice none 0 0)]) [(iv 0), (.slice none 0 0), (.slice none 0 0)] (wn rfl) rfl rfl rfl rfl WQ rfl rfl rfl ?_)
     refine Tr.asg rfl rfl (Tr.asg rfl rfl (Tr.nil (Tr.zA (Tr.ret (Tr.zO (Tr.zm (Tr.zO (Tr.zO (Tr.zm (Tr.zO ?_))))))))))
     obtain rfl := Option.some.inj H
     refine Tr.WC 20 47 zK ?_
     refine Tr.WC 21 80 zC ?_
     exact Tr.out (m := [(.agg #[(iv 0), (.slice none 0 0), (.slice none 0 0)]), (iv zGP), (iv 10)]) [1] (Ws rfl rfl zBZ WQ (zQ rfl (zQ rfl zT))) (fun W hW => ⟨w, ((none, 0), (none, 0)), leB, rfl, ⟨VC, VC⟩, hW.pick (ks := [20, 21]) (by decide) (zL rfl (zL rfl QI))⟩)
    ·refine Tr.skip (Tr.zA (Tr.region (Tr.mv rfl rfl (Tr.asg rfl rfl (Tr.nil (Tr.zx (Tr.zA (Tr.region (Tr.mv rfl rfl (Tr.va rfl (fun _ _ h1 h2 => Qo (h1.ev rfl) (h1.ev rfl)) ?_))))))))))
     exact Tr.asg rfl rfl (Tr.nil (Tr.QF Qy (y150.2.2.2.2.2.2, y150.2.1, y150.2.2.2.2.1, y150.2.2.2.2.2.1, y150.2.2.1, y150.2.2.2.1, zA3.2.1, (w64 (zGP + 1)), zHx, zHg, Dy150_2, zHz, zHi, zHy, zHh) ⟨H, ⟨hgy150_2.1, hgy150_2.2⟩, hgy150_0, hgy150_1⟩ (.cons rfl (.cons rfl (.cons rfl (.cons rfl .nil)))) (.cons rfl (.cons rfl (.cons rfl (.cons rfl (.cons rfl .nil)))))))
   ·rw [zFr, if_pos rfl] at H
    refine Tr.pass rfl rfl rfl rfl rfl (by decide) ?_
    refine Tr.pass rfl rfl rfl rfl rfl (by decide) ?_
    refine Tr.pass rfl rfl rfl rfl rfl (by decide) ?_
    refine Tr.pass rfl rfl rfl rfl rfl (by decide) ?_
    refine Tr.va rfl (fun _ _ h1 h2 => zg (h1.ev rfl) (h1.ev rfl)) ?_
    refine Tr.nil (Tr.zA (Tr.zBn rfl rfl ?_))
    refine Tr.sr (Tr.build (vs := []) (cs := [(iv 0), (.slice none 0 0), (.slice none 0 0)]) (wn rfl) rfl Qq (by kernel_rfl) ?_)
    refine Tr.mv rfl rfl (Tr.store 1 (cs := [(iv 0), (.slice none 0 0), (.slice none 0 0)]) [(iv 0), (.slice none 0 0), (.slice none 0 0)] (wn rfl) rfl rfl rfl rfl WQ rfl rfl rfl ?_)
    refine Tr.asg rfl rfl (Tr.asg rfl rfl (Tr.nil (Tr.zA (Tr.ret (Tr.zO (Tr.zm (Tr.zO (Tr.zO (Tr.zm (Tr.zO ?_))))))))))
    obtain rfl := Option.some.inj H
    refine Tr.WC 18 47 zK ?_
    refine Tr.WC 19 80 zC ?_
    exact Tr.out (m := [(.agg #[(iv 0), (.slice none 0 0), (.slice none 0 0)]), (iv zGP), (iv 10)]) [1] (Ws rfl rfl zBZ WQ (zQ rfl (zQ rfl zT))) (fun W hW => ⟨w, ((none, 0), (none, 0)), leB, rfl, ⟨VC, VC⟩, hW.pick (ks := [18, 19]) (by decide) (zL rfl (zL rfl QI))⟩)
  ·refine Tr.exit (Tr.QK (Tr.QK (Tr.JV (Tr.zA (Tr.seq (Tr.sr (Tr.mv rfl rfl (Tr.va rfl (fun _ _ h1 h2 => zz (h1.ev rfl)) ?_))))))))
   refine Tr.va rfl (fun _ _ h1 h2 => zD zFy (h1.ev rfl)) ?_
   refine Tr.va rfl (fun _ _ h1 h2 => zH zF9 (h1.ev rfl) (rdb h2 (vs := [(iv VB), (.slice WX zAL.length WT), (.slice Vs Ww.length Vm), (.bool zDy), (.slice Am138 m138.length cm138), (.bool zFP)]) (k := 4) rfl 3) rfl) ?_
   refine Tr.va rfl (fun _ _ h1 h2 => JA (h1.ev rfl)) ?_
   refine Tr.mv rfl rfl (Tr.KY 7 [(2, (.pointer (some ⟨QG, 0, none⟩))), (5, (.pointer (some ⟨JX, 0, none⟩))), (6, (iv zGP)), (50, (.bool ((!zDy) || (decide (0 < (m138.length : Int))))))] [(1, bx QG #[(iv 0), (.slice none 0 0), (.slice none 0 0)] 25), (4, bx JX #[(iv VB), (.slice WX zAL.length WT), (.slice Vs Ww.length Vm), (.bool zDy), (.slice Am138 m138.length cm138), (.bool zFP)] 59), (5, sk Am138 cm138 85 80 80 zJ msm138), (16, ow WX WT 47 zK zAL), (17, ow Vs Vm 80 zC Ww)] ?_ ?_)
   ·cases hg152 : (!zDy)
    ·refine Tr.val (wg rfl rfl rfl) rfl (fun _ _ h1 h2 => run_move (h1.ev rfl)) ?_
     refine Tr.val (wg rfl rfl rfl) rfl (fun _ _ h1 h2 => zz (h1.ev rfl)) ?_
     refine Tr.val (wg rfl rfl rfl) rfl (fun _ _ h1 h2 => zD zAp (h1.ev rfl)) ?_
     refine Tr.val (wg rfl rfl rfl) rfl (fun _ _ h1 h2 => zH zF8 (h1.ev rfl) (rdb h2 (vs := [(iv VB), (.slice WX zAL.length WT), (.slice Vs Ww.length Vm), (.bool zDy), (.slice Am138 m138.length cm138), (.bool zFP)]) (k := 4) rfl 4) rfl) ?_
     refine Tr.val (wg rfl rfl rfl) rfl (fun _ _ h1 h2 => QL un_57 (h1.ev rfl)) ?_
     refine Tr.val (wg rfl rfl rfl) rfl (fun _ _ h1 h2 => WB (h1.ev rfl) (h1.ev rfl)) ?_
     refine Tr.va rfl (fun _ _ h1 h2 => zh (h1.ev rfl) (h1.ev rfl)) ?_
     exact Tr.nil (Tr.Qc (.cons rfl (.cons rfl (.cons rfl (.cons rfl .nil)))) (.cons rfl (.cons rfl (.cons rfl (.cons rfl (.cons rfl .nil))))))
    ·refine Tr.pass rfl rfl rfl rfl rfl (by decide) ?_
     refine Tr.pass rfl rfl rfl rfl rfl (by decide) ?_
     refine Tr.pass rfl rfl rfl rfl rfl (by decide) ?_
     refine Tr.pass rfl rfl rfl rfl rfl (by decide) ?_
     refine Tr.pass rfl rfl rfl rfl rfl (by decide) ?_
     refine Tr.pass rfl rfl rfl rfl rfl (by decide) ?_
     refine Tr.va rfl (fun _ _ h1 h2 => zg (h1.ev rfl) (h1.ev rfl)) ?_
     exact Tr.nil (Tr.Qc (.cons rfl (.cons rfl (.cons rfl (.cons rfl .nil)))) (.cons rfl (.cons rfl (.cons rfl (.cons rfl (.cons rfl .nil))))))
   ·show Tr _ _ (LF [(2, (.pointer (some ⟨QG, 0, none⟩))), (5, (.pointer (some ⟨JX, 0, none⟩))), (6, (iv zGP)), (50, (.bool ((!zDy) || (decide (0 < (m138.length : Int))))))]) (LE [(1, bx QG #[(iv 0), (.slice none 0 0), (.slice none 0 0)] 25), (4, bx JX #[(iv VB), (.slice WX zAL.length WT), (.slice Vs Ww.length Vm), (.bool zDy), (.slice Am138 m138.length cm138), (.bool zFP)] 59), (5, sk Am138 cm138 85 80 80 zJ msm138), (16, ow WX WT 47 zK zAL), (17, ow Vs Vm 80 zC Ww)]) _
    refine Tr.nil (Tr.zA (Tr.cond rfl H (fun H => ?_) (fun H => ?_)))
    ·refine Tr.sr (Tr.build (vs := []) (cs := [(iv 0), (.slice none 0 0), (.slice none 0 0)]) (wn rfl) rfl Qq (by kernel_rfl) ?_)
     refine Tr.mv rfl rfl (Tr.store 1 (cs := [(iv 0), (.slice none 0 0), (.slice none 0 0)]) [(iv 0), (.slice none 0 0), (.slice none 0 0)] (wn rfl) rfl rfl rfl rfl WQ rfl rfl rfl ?_)
     refine Tr.asg rfl rfl (Tr.asg rfl rfl (Tr.nil (Tr.zA (Tr.ret (Tr.zO ?_)))))
     obtain rfl := Option.some.inj H
     refine Tr.WC 22 47 zK ?_
     refine Tr.WC 23 80 zC ?_
     exact Tr.out (m := [(.agg #[(iv 0), (.slice none 0 0), (.slice none 0 0)]), (iv zGP), (iv 10)]) [1] (Ws rfl rfl zBZ WQ (zQ rfl (zQ rfl zT))) (fun W hW => ⟨w, ((none, 0), (none, 0)), leB, rfl, ⟨VC, VC⟩, hW.pick (ks := [22, 23]) (by decide) (zL rfl (zL rfl QI))⟩)
    ·refine Tr.skip (Tr.zA (Tr.seq (Tr.sr (Tr.mv rfl rfl (Tr.va rfl (fun _ _ h1 h2 => zz (h1.ev rfl)) ?_)))))
     refine Tr.va rfl (fun _ _ h1 h2 => zD zDY (h1.ev rfl)) ?_
     refine Tr.va rfl (fun _ _ h1 h2 => zo (cs := [(iv VB), (.slice WX zAL.length WT), (.slice Vs Ww.length Vm)]) zBZ WQ (h1.ev rfl) (zf.take (rdb h2 (vs := [(iv VB), (.slice WX zAL.length WT), (.slice Vs Ww.length Vm), (.bool zDy), (.slice Am138 m138.length cm138), (.bool zFP)]) (k := 4) rfl 0) 3) rfl) ?_
     obtain ⟨y152, hy152, H⟩ := bnd H
     refine Tr.Qr (r := (iv y152)) (wn rfl) rfl Tryz.call10 (zI rfl zb) (fun W hW => zBq N (zi.mk VB zAL Ww) WX WT (hW.zBg (k := 16) rfl) Vs Vm (hW.zBg (k := 17) rfl) y152 hy152 (HF.start _)) ?_
     refine Tr.asg rfl rfl (Tr.nil (Tr.zA (Tr.sr (Tr.mv rfl rfl (Tr.va rfl (fun _ _ h1 h2 => Jw (h1.ev rfl) (h1.ev rfl)) ?_)))))
     refine Tr.nil (Tr.zA (Tr.cond rfl H (fun H => ?_) (fun H => ?_)))
     ·refine Tr.sr (Tr.build (vs := []) (cs := [(iv 0), (.slice none 0 0), (.slice none 0 0)]) (wn rfl) rfl Qq (by kernel_rfl) ?_)
      refine Tr.mv rfl rfl (Tr.store 1 (cs := [(iv 0), (.slice none 0 0), (.slice none 0 0)]) [(iv 0), (.slice none 0 0), (.slice none 0 0)] (wn rfl) rfl rfl rfl rfl WQ rfl rfl rfl ?_)
      refine Tr.asg rfl rfl (Tr.asg rfl rfl (Tr.nil (Tr.zA (Tr.ret (Tr.zO ?_)))))
      obtain rfl := Option.some.inj H
      refine Tr.WC 24 47 zK ?_
      refine Tr.WC 25 80 zC ?_
      exact Tr.out (m := [(.agg #[(iv 0), (.slice none 0 0), (.slice none 0 0)]), (iv 0), (iv y152)]) [1] (Ws rfl rfl zBZ WQ (zQ rfl (zQ rfl zT))) (fun W hW => ⟨w, ((none, 0), (none, 0)), leB, rfl, ⟨VC, VC⟩, hW.pick (ks := [24, 25]) (by decide) (zL rfl (zL rfl QI))⟩)
     ·refine Tr.skip (Tr.zA (Tr.sr (Tr.mv rfl rfl (Tr.va rfl (fun _ _ h1 h2 => zz (h1.ev rfl)) ?_))))
      refine Tr.va rfl (fun _ _ h1 h2 => zD zDY (h1.ev rfl)) ?_
      refine Tr.va rfl (fun _ _ h1 h2 => zo (cs := [(iv VB), (.slice WX zAL.length WT), (.slice Vs Ww.length Vm)]) zBZ WQ (h1.ev rfl) (zf.take (rdb h2 (vs := [(iv VB), (.slice WX zAL.length WT), (.slice Vs Ww.length Vm), (.bool zDy), (.slice Am138 m138.length cm138), (.bool zFP)]) (k := 4) rfl 0) 3) rfl) ?_
      refine Tr.store 1 (cs := [(iv VB), (.slice WX zAL.length WT), (.slice Vs Ww.length Vm)]) [(iv VB), (.slice WX zAL.length WT), (.slice Vs Ww.length Vm)] (wn rfl) rfl rfl rfl rfl WQ rfl rfl rfl ?_
      refine Tr.asg rfl rfl (Tr.asg rfl rfl (Tr.nil (Tr.zA (Tr.ret ?_))))
      obtain rfl := Option.some.inj H
      exact Tr.out (m := [(.agg #[(iv VB), (.slice WX zAL.length WT), (.slice Vs Ww.length Vm)]), (iv 0), (iv 0)]) [1] (Ws rfl rfl zBZ WQ (zQ rfl (zQ rfl zT))) (fun W hW => ⟨w, ((WX, WT), (Vs, Vm)), leB, rfl, ⟨hl140, hl141⟩, hW.pick (ks := [16, 17]) (by decide) (zL rfl (zL rfl QI))⟩)

theorem zBd (N : Nat) {w : Bs} (p0 : (List zU)) (zF : Option Addr) (zG : Nat) (zl : Sl w.R w.W QH zF zG p0) (p1 : (List zU)) (zV : Option Addr) (zW : Nat) (Ql : Sl w.R w.W QH zV zW p1) (r : Bool) (H : Jf N p0 p1 = some r) (hE : HF w w.W E0) : Calls Tryz.prog 38 [(.slice zF p0.length zG), (.slice zV p1.length zW)].toArray w.W fun e W' => e = .returned (.bool r) ∧ HF w W' E0 := by
 unfold Jf at H
 have leB := Bs.Le.refl w
 refine Tr.enter (n := 26) Tryz.func38 rfl rfl rfl hE ?_
 refine Tr.sr (Tr.asg rfl rfl (Tr.nil (Tr.zA (Tr.seq (Tr.sr (Tr.mv rfl rfl (Tr.va rfl (fun _ _ h1 h2 => QL zD7 (h1.ev rfl)) ?_)))))))
 refine Tr.mv rfl rfl (Tr.va rfl (fun _ _ h1 h2 => QL zD7 (h1.ev rfl)) ?_)
 refine Tr.va rfl (fun _ _ h1 h2 => Jw (h1.ev rfl) (h1.ev rfl)) ?_
 refine Tr.nil (Tr.zA (Tr.cond rfl H (fun H => ?_) (fun H => ?_)))
 ·refine Tr.sr (Tr.asg rfl rfl (Tr.nil (Tr.zA (Tr.ret (Tr.zO ?_)))))
  obtain rfl := Option.some.inj H
  exact Tr.out (m := [(.bool false)]) [] (zQ rfl zT) (fun W hW => ⟨rfl, hW.low leB⟩)
 ·refine Tr.skip (Tr.zA (Tr.seq (Tr.sr (Tr.asg rfl rfl (Tr.nil (Tr.zA (Tr.block (Tr.loop (σ := Int) (fun m w s => QO p0 p1 m s = some r) (fun s => [(0, (.slice zF p0.length zG)), (1, (.slice zV p1.length zW)), (5, (iv s))]) (fun s => []) N 0 H (.cons rfl (.cons rfl (.cons rfl .nil))) .nil (fun _ _ h => zEE (h)) ?_))))))))
  intro w Qy mL1 x107 hs
  have H := hs
  replace H : QO p0 p1 (mL1 + 1) x107 = some r := H
  replace zl := zl.leR Qy
  replace Ql := Ql.leR Qy
  replace leB := leB.trans Qy
  rw [QO.eq_2] at H
  show Tr _ _ (LF [(0, (.slice zF p0.length zG)), (1, (.slice zV p1.length zW)), (5, (iv x107))]) (LE []) _
  refine Tr.seq (Tr.sr (Tr.mv rfl rfl (Tr.mv rfl rfl (Tr.va rfl (fun _ _ h1 h2 => QL zD7 (h1.ev rfl)) ?_))))
  refine Tr.va rfl (fun _ _ h1 h2 => Qm (h1.ev rfl) (h1.ev rfl)) ?_
  refine Tr.nil (Tr.zA (Tr.cond rfl H (fun H => ?_) (fun H => ?_)))
  ·refine Tr.skip (Tr.zA (Tr.seq (Tr.block (Tr.seq (Tr.draw (by kernel_rfl) (by kernel_rfl) ?_)))))
   refine Tq.mv rfl rfl (Tq.mv rfl rfl ?_)
   obtain ⟨WP, zIl, H⟩ := bnd H
   obtain ⟨zFA, zE9, zE8⟩ := QP zIl
   refine Tq.va rfl (fun _ _ h1 h2 => zR zJv (h1.ev rfl) zl.form (h1.ev rfl) zFA zE9) ?_
   refine Tq.va rfl (fun _ _ h1 h2 => zo (cs := [(iv WP.X), (iv WP.Y)]) zCM zAZ (h1.ev rfl) (zf.take (rdF zBK zl zE8 h2) 2) rfl) ?_
   refine Tq.mv rfl rfl (Tq.mv rfl rfl ?_)
   obtain ⟨Qb, hx109, H⟩ := bnd H
   obtain ⟨zIk, zIj, zIi⟩ := QP hx109
   refine Tq.va rfl (fun _ _ h1 h2 => zR zJv (h1.ev rfl) Ql.form (h1.ev rfl) zIk zIj) ?_
   refine Tq.va rfl (fun _ _ h1 h2 => zo (cs := [(iv Qb.X), (iv Qb.Y)]) zCM zAZ (h1.ev rfl) (zf.take (rdF zBK Ql zIi h2) 2) rfl) ?_
   refine Tq.va rfl (fun _ _ h1 h2 => zE2 WP Qb (h1.ev rfl) (h1.ev rfl)) ?_
   refine Tq.nil (Tr.zA (Tr.cond rfl H (fun H => ?_) (fun H => ?_)))
   ·refine Tr.sr (Tr.asg rfl rfl (Tr.nil (Tr.zA (Tr.ret (Tr.zm (Tr.zO (Tr.zO (Tr.zm (Tr.zO ?_)))))))))
    obtain rfl := Option.some.inj H
    exact Tr.out (m := [(.bool false)]) [] (zQ rfl zT) (fun W hW => ⟨rfl, hW.low leB⟩)
   ·refine Tr.skip (Tr.zx (Tr.zA (Tr.region (Tr.mv rfl rfl (Tr.va rfl (fun _ _ h1 h2 => Qo (h1.ev rfl) (h1.ev rfl)) ?_)))))
    exact Tr.asg rfl rfl (Tr.nil (Tr.QF Qy (w64 (x107 + 1)) H (.cons rfl (.cons rfl (.cons rfl .nil))) .nil))
  ·refine Tr.exit (Tr.QK (Tr.QK (Tr.JV (Tr.zA (Tr.sr (Tr.asg rfl rfl (Tr.nil (Tr.zA (Tr.ret ?_)))))))))
   obtain rfl := Option.some.inj H
   exact Tr.out (m := [(.bool true)]) [] (zQ rfl zT) (fun W hW => ⟨rfl, hW.low leB⟩)

end Go.Proofs.YtokanbmnoghafaaGreatDoor
