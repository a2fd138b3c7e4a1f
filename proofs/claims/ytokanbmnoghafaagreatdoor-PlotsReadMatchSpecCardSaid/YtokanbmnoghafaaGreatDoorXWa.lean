/- The walks: each function computes its plain function. -/
import Derived.Test.YtokanbmnoghafaaGreatDoorXF
namespace Go.Proofs.YtokanbmnoghafaaGreatDoor
open Go.RowKit
set_option maxRecDepth 100000
set_option maxHeartbeats 1000000
theorem zEa {w : Bs} (hT : Tab Tryz.prog w) (p0 : ByteArray) (p1 : ByteArray) (r : (ByteArray × ByteArray × Bool)) (H : cutF p0 p1 = some r) (hE : HF w w.W E0) : Calls Tryz.prog 17 [(sv p0), (sv p1)].toArray w.W fun e W' => e = .returned (.tuple #[(sv r.1), (sv r.2.1), (.bool r.2.2)]) ∧ HF w W' E0 :=
 cutF_rule (ρ := Tryz.cut17_ren) { Tryz.cut17 with } hT Tryz.cut17.g1 H hE

theorem zDZ {w : Bs} (hT : Tab Tryz.prog w) (p0 : ByteArray) (p1 : ByteArray) (r : (List ByteArray)) (H : zGY p0 p1 = some r) (hE : HF w w.W (LEn [emp])) : Calls Tryz.prog 32 [(sv p0), (sv p1)].toArray w.W fun e W' => ∃ u : (Option Addr × Nat), e = .returned (.slice u.1 r.length u.2) ∧ (SlF u.1 r.length u.2) ∧ HF w W' (LEn [ow u.1 u.2 9 JG r]) :=
 splitF_rule (ρ := Tryz.zIS) Tryz.split32 hT Tryz.split32.g1 (t := JG) rfl Wq () zJZ (by kernel_rfl) H hE

theorem zBA {w : Bs} (p0 : ByteArray) (p1 : ByteArray) (r : Bool) (H : Ke p0 p1 = some r) (hE : HF w w.W E0) : Calls Tryz.prog 119 [(sv p0), (sv p1)].toArray w.W fun e W' => e = .returned (.bool r) ∧ HF w W' E0 := by
 unfold Ke at H
 have leB := Bs.Le.refl w
 refine Tr.enter (n := 18) Tryz.func119 rfl rfl rfl hE ?_
 refine Tr.sr (Tr.asg rfl rfl (Tr.nil (Tr.zA (Tr.sr (Tr.mv rfl rfl (Tr.va rfl (fun _ _ h1 h2 => Vn zBw (h1.ev rfl)) ?_))))))
 refine Tr.mv rfl rfl (Tr.va rfl (fun _ _ h1 h2 => Vn zBw (h1.ev rfl)) ?_)
 refine Tr.va rfl (fun _ _ h1 h2 => zAz (h1.ev rfl) (h1.ev rfl)) ?_
 refine Tr.mv rfl rfl ?_
 obtain ⟨g101, zES, H⟩ := bnd H
 refine Tr.Jl 7 [(17, (.bool g101))] [] ?_ ?_
 ·cases zB5 : (decide ((p1.size : Int) ≤ (p0.size : Int)))
  ·rw [zB5] at zES
   rw [if_neg (by decide)] at zES
   have H := zES
   obtain rfl := Option.some.inj H
   refine Tr.pass rfl rfl rfl rfl rfl (by decide) ?_
   refine Tr.pass rfl rfl rfl rfl rfl (by decide) ?_
   refine Tr.pass rfl rfl rfl rfl rfl (by decide) ?_
   refine Tr.pass rfl rfl rfl rfl rfl (by decide) ?_
   refine Tr.pass rfl rfl rfl rfl rfl (by decide) ?_
   refine Tr.pass rfl rfl rfl rfl rfl (by decide) ?_
   refine Tr.va rfl (fun _ _ h1 h2 => zV (h1.ev rfl) (h1.ev rfl)) ?_
   exact Tr.nil (Tr.QI (.cons rfl .nil) .nil)
  ·rw [zB5] at zES
   rw [if_pos rfl] at zES
   have H := zES
   refine Tr.val (wg rfl rfl rfl) rfl (fun _ _ h1 h2 => run_move (h1.ev rfl)) ?_
   refine Tr.val (wg rfl rfl rfl) rfl (fun _ _ h1 h2 => run_move (h1.ev rfl)) ?_
   refine Tr.val (wg rfl rfl rfl) rfl (fun _ _ h1 h2 => Vn zBw (h1.ev rfl)) ?_
   obtain ⟨t102, ht102, H⟩ := bnd H
   refine Tr.val (wg rfl rfl rfl) rfl (fun _ _ h1 h2 => run_cutSH zBw (h1.ev rfl) (h1.ev rfl) ht102) ?_
   refine Tr.val (wg rfl rfl rfl) rfl (fun _ _ h1 h2 => run_move (h1.ev rfl)) ?_
   refine Tr.val (wg rfl rfl rfl) rfl (fun _ _ h1 h2 => Qq (h1.ev rfl) (h1.ev rfl)) ?_
   refine Tr.va rfl (fun _ _ h1 h2 => zU (h1.ev rfl) (h1.ev rfl)) ?_
   obtain rfl := Option.some.inj H
   exact Tr.nil (Tr.QI (.cons rfl .nil) .nil)
 ·show Tr _ _ (LF [(17, (.bool g101))]) (LE []) _
  refine Tr.asg rfl rfl (Tr.nil (Tr.zA (Tr.ret ?_)))
  obtain rfl := Option.some.inj H
  exact Tr.out (m := [(.bool g101)]) [] (zJ rfl zR) (fun W hW => ⟨rfl, hW.low leB⟩)

theorem zDL {w : Bs} (p0 : ByteArray) (p1 : ByteArray) (r : ByteArray) (H : Vv p0 p1 = some r) (hE : HF w w.W E0) : Calls Tryz.prog 104 [(sv p0), (sv p1)].toArray w.W fun e W' => e = .returned (sv r) ∧ HF w W' E0 := by
 unfold Vv at H
 have leB := Bs.Le.refl w
 refine Tr.enter (n := 13) Tryz.func104 rfl rfl rfl hE ?_
 refine Tr.sr (Tr.asg rfl rfl (Tr.nil (Tr.zA (Tr.seq (Tr.sr (Tr.mv rfl rfl (Tr.mv rfl rfl ?_)))))))
 obtain ⟨zl, zAO, H⟩ := bnd H
 refine Tr.Qa (r := (.bool zl)) (wn rfl) rfl Tryz.call119 (zI rfl (zI rfl zT)) (fun W hW => zBA p0 p1 zl zAO (HF.start _)) ?_
 refine Tr.nil (Tr.zA (Tr.cond rfl H (fun H => ?_) (fun H => ?_)))
 ·refine Tr.sr (Tr.mv rfl rfl (Tr.mv rfl rfl (Tr.va rfl (fun _ _ h1 h2 => Vn zBw (h1.ev rfl)) ?_)))
  obtain ⟨t101, ht101, H⟩ := bnd H
  refine Tr.va rfl (fun _ _ h1 h2 => run_cutSL zBw (h1.ev rfl) (h1.ev rfl) ht101) ?_
  refine Tr.asg rfl rfl (Tr.nil (Tr.zA (Tr.ret (Tr.zM ?_))))
  obtain rfl := Option.some.inj H
  exact Tr.out (m := [(sv t101)]) [] (zJ rfl zR) (fun W hW => ⟨rfl, hW.low leB⟩)
 ·refine Tr.skip (Tr.zA (Tr.sr (Tr.mv rfl rfl (Tr.asg rfl rfl (Tr.nil (Tr.zA (Tr.ret ?_)))))))
  obtain rfl := Option.some.inj H
  exact Tr.out (m := [(sv p0)]) [] (zJ rfl zR) (fun W hW => ⟨rfl, hW.low leB⟩)

theorem zEZ {w : Bs} (p0 : ByteArray) (p1 : ByteArray) (r : ByteArray) (H : Vz p0 p1 = some r) (hE : HF w w.W E0) : Calls Tryz.prog 81 [(sv p0), (sv p1)].toArray w.W fun e W' => e = .returned (sv r) ∧ HF w W' E0 := by
 unfold Vz at H
 have leB := Bs.Le.refl w
 refine Tr.enter (n := 8) Tryz.func81 rfl rfl rfl hE ?_
 refine Tr.sr (Tr.asg rfl rfl (Tr.nil (Tr.zA (Tr.sr (Tr.mv rfl rfl (Tr.mv rfl rfl ?_))))))
 obtain ⟨zl, zAO, H⟩ := bnd H
 refine Tr.Qa (r := (sv zl)) (wn rfl) rfl Tryz.call104 (zI rfl (zI rfl zT)) (fun W hW => zDL p0 p1 zl zAO (HF.start _)) ?_
 refine Tr.asg rfl rfl (Tr.nil (Tr.zA (Tr.ret ?_)))
 obtain rfl := Option.some.inj H
 exact Tr.out (m := [(sv zl)]) [] (zJ rfl zR) (fun W hW => ⟨rfl, hW.low leB⟩)

theorem zHe {w : Bs} (p0 : ByteArray) (p1 : ByteArray) (r : ByteArray) (H : trimF p0 p1 = some r) (hE : HF w w.W E0) : Calls Tryz.prog 82 [(sv p0), (sv p1)].toArray w.W fun e W' => e = .returned (sv r) ∧ HF w W' E0 :=
 trimF_rule (ρ := Tryz.zJY) Tryz.trim82 (by kernel_rfl) H hE

theorem zDz {w : Bs} (p0 : ByteArray) (r : Int) (H : zHW p0 = some r) (hE : HF w w.W E0) : Calls Tryz.prog 83 [(sv p0)].toArray w.W fun e W' => e = .returned (.tuple #[(iv r), .nilIface]) ∧ HF w W' E0 :=
 atoiF_rule (ρ := Tryz.atoi83_ren) Tryz.atoi83 H hE

theorem zIM {w : Bs} (p0 : ByteArray) (r : (Int × Bool)) (H : zBa p0 = some r) (hE : HF w w.W E0) : Calls Tryz.prog 57 [(sv p0)].toArray w.W fun e W' => e = .returned (.tuple #[(iv r.1), (.bool r.2)]) ∧ HF w W' E0 := by
 unfold zBa at H
 have leB := Bs.Le.refl w
 refine Tr.enter (n := 37) Tryz.func57 rfl rfl rfl hE ?_
 refine Tr.sr (Tr.asg rfl rfl (Tr.asg rfl rfl (Tr.nil (Tr.zA (Tr.sr (Tr.mv rfl rfl ?_))))))
 obtain ⟨zl, zAO, H⟩ := bnd H
 refine Tr.Qa (r := (sv zl)) (wn rfl) rfl Tryz.call81 (zI rfl (zI rfl zT)) (fun W hW => zEZ p0 (⟨#[45]⟩) zl zAO (HF.start _)) ?_
 refine Tr.asg rfl rfl (Tr.nil (Tr.zA (Tr.seq (Tr.sr (Tr.mv rfl rfl (Tr.va rfl (fun _ _ h1 h2 => Vn zBw (h1.ev rfl)) ?_))))))
 refine Tr.va rfl (fun _ _ h1 h2 => QV (h1.ev rfl) (h1.ev rfl)) ?_
 refine Tr.mv rfl rfl (Tr.Jl 4 [(0, (sv p0)), (4, (sv zl)), (16, (.bool ((decide ((zl.size : Int) < 1)) || (decide (9 < (zl.size : Int))))))] [] ?_ ?_)
 ·cases zER : (decide ((zl.size : Int) < 1))
  ·refine Tr.val (wg rfl rfl rfl) rfl (fun _ _ h1 h2 => run_move (h1.ev rfl)) ?_
   refine Tr.val (wg rfl rfl rfl) rfl (fun _ _ h1 h2 => Vn zBw (h1.ev rfl)) ?_
   refine Tr.val (wg rfl rfl rfl) rfl (fun _ _ h1 h2 => VR (h1.ev rfl) (h1.ev rfl)) ?_
   refine Tr.va rfl (fun _ _ h1 h2 => zV (h1.ev rfl) (h1.ev rfl)) ?_
   exact Tr.nil (Tr.QI (.cons rfl (.cons rfl (.cons rfl .nil))) .nil)
  ·refine Tr.pass rfl rfl rfl rfl rfl (by decide) ?_
   refine Tr.pass rfl rfl rfl rfl rfl (by decide) ?_
   refine Tr.pass rfl rfl rfl rfl rfl (by decide) ?_
   refine Tr.va rfl (fun _ _ h1 h2 => zU (h1.ev rfl) (h1.ev rfl)) ?_
   exact Tr.nil (Tr.QI (.cons rfl (.cons rfl (.cons rfl .nil))) .nil)
 ·show Tr _ _ (LF [(0, (sv p0)), (4, (sv zl)), (16, (.bool ((decide ((zl.size : Int) < 1)) || (decide (9 < (zl.size : Int))))))]) (LE []) _
  refine Tr.mv rfl rfl ?_
  obtain ⟨g102, zB5, H⟩ := bnd H
  refine Tr.Jl 4 [(0, (sv p0)), (4, (sv zl)), (21, (.bool g102))] [] ?_ ?_
  ·cases zER : ((decide ((zl.size : Int) < 1)) || (decide (9 < (zl.size : Int))))
   ·rw [zER] at zB5
    rw [if_neg (by decide)] at zB5
    have H := zB5
    refine Tr.val (wg rfl rfl rfl) rfl (fun _ _ h1 h2 => run_move (h1.ev rfl)) ?_
    obtain ⟨zk, zEN, H⟩ := bnd H
    refine Tr.Qa (r := (sv zk)) (wg rfl rfl rfl) rfl Tryz.call82 (zI rfl (zI rfl zT)) (fun W hW => zHe zl (⟨#[48, 49, 50, 51, 52, 53, 54, 55, 56, 57]⟩) zk zEN (HF.start _)) ?_
    refine Tr.val (wg rfl rfl rfl) rfl (fun _ _ h1 h2 => zBW (h1.ev rfl) (h1.ev rfl)) ?_
    refine Tr.va rfl (fun _ _ h1 h2 => zV (h1.ev rfl) (h1.ev rfl)) ?_
    obtain rfl := Option.some.inj H
    exact Tr.nil (Tr.QI (.cons rfl (.cons rfl (.cons rfl .nil))) .nil)
   ·rw [zER] at zB5
    rw [if_pos rfl] at zB5
    have H := zB5
    obtain rfl := Option.some.inj H
    refine Tr.pass rfl rfl rfl rfl rfl (by decide) ?_
    refine Tr.pass rfl rfl rfl rfl rfl (by decide) ?_
    refine Tr.pass rfl rfl rfl rfl rfl (by decide) ?_
    refine Tr.va rfl (fun _ _ h1 h2 => zU (h1.ev rfl) (h1.ev rfl)) ?_
    exact Tr.nil (Tr.QI (.cons rfl (.cons rfl (.cons rfl .nil))) .nil)
  ·show Tr _ _ (LF [(0, (sv p0)), (4, (sv zl)), (21, (.bool g102))]) (LE []) _
   refine Tr.mv rfl rfl ?_
   obtain ⟨zIG, zBn, H⟩ := bnd H
   refine Tr.Jl 8 [(0, (sv p0)), (30, (.bool zIG))] [] ?_ ?_
   ·cases zER : g102
    ·rw [zER] at zBn
     rw [if_neg (by decide)] at zBn
     have H := zBn
     refine Tr.val (wg rfl rfl rfl) rfl (fun _ _ h1 h2 => run_move (h1.ev rfl)) ?_
     obtain ⟨c106, hc106, H⟩ := bnd H
     refine Tr.val (wg rfl rfl rfl) rfl (fun _ _ h1 h2 => zA6 zBw (h1.ev rfl) (h1.ev rfl) hc106) ?_
     refine Tr.val (wg rfl rfl rfl) rfl (fun _ _ h1 h2 => QY (h1.ev rfl) (h1.ev rfl)) ?_
     refine Tr.val (wg rfl rfl rfl) rfl (fun _ _ h1 h2 => run_move (h1.ev rfl)) ?_
     refine Tr.Jl 3 [(0, (sv p0)), (22, (.bool false)), (29, (.bool ((c106 == 48) && (!sEq p0 (⟨#[48]⟩)))))] [] ?_ ?_
     ·cases zCs : (c106 == 48)
      ·refine Tr.pass rfl rfl rfl rfl rfl (by decide) ?_
       refine Tr.pass rfl rfl rfl rfl rfl (by decide) ?_
       refine Tr.val (wg rfl rfl rfl) rfl (fun _ _ h1 h2 => zV (h1.ev rfl) (h1.ev rfl)) ?_
       exact Tr.nil (Tr.QI (.cons rfl (.cons rfl (.cons rfl .nil))) .nil)
      ·refine Tr.val (wg rfl rfl rfl) rfl (fun _ _ h1 h2 => run_move (h1.ev rfl)) ?_
       refine Tr.val (wg rfl rfl rfl) rfl (fun _ _ h1 h2 => zBW (h1.ev rfl) (h1.ev rfl)) ?_
       refine Tr.val (wg rfl rfl rfl) rfl (fun _ _ h1 h2 => zU (h1.ev rfl) (h1.ev rfl)) ?_
       exact Tr.nil (Tr.QI (.cons rfl (.cons rfl (.cons rfl .nil))) .nil)
     ·show Tr _ _ (LF [(0, (sv p0)), (22, (.bool false)), (29, (.bool ((c106 == 48) && (!sEq p0 (⟨#[48]⟩)))))]) (LE []) _
      refine Tr.va rfl (fun _ _ h1 h2 => zV (h1.ev rfl) (h1.ev rfl)) ?_
      obtain rfl := Option.some.inj H
      exact Tr.nil (Tr.QI (.cons rfl (.cons rfl .nil)) .nil)
    ·rw [zER] at zBn
     rw [if_pos rfl] at zBn
     have H := zBn
     obtain rfl := Option.some.inj H
     refine Tr.pass rfl rfl rfl rfl rfl (by decide) ?_
     refine Tr.pass rfl rfl rfl rfl rfl (by decide) ?_
     refine Tr.pass rfl rfl rfl rfl rfl (by decide) ?_
     refine Tr.pass rfl rfl rfl rfl rfl (by decide) ?_
     refine Tr.QX rfl rfl rfl rfl (by decide) ?_
     refine Tr.QX rfl rfl rfl rfl (by decide) ?_
     refine Tr.pass rfl rfl rfl rfl rfl (by decide) ?_
     refine Tr.va rfl (fun _ _ h1 h2 => zU (h1.ev rfl) (h1.ev rfl)) ?_
     exact Tr.nil (Tr.QI (.cons rfl (.cons rfl .nil)) .nil)
   ·show Tr _ _ (LF [(0, (sv p0)), (30, (.bool zIG))]) (LE []) _
    refine Tr.nil (Tr.zA (Tr.cond rfl H (fun H => ?_) (fun H => ?_)))
    ·refine Tr.sr (Tr.asg rfl rfl (Tr.asg rfl rfl (Tr.nil (Tr.zA (Tr.ret (Tr.zM ?_))))))
     obtain rfl := Option.some.inj H
     exact Tr.out (m := [(iv 0), (.bool false)]) [] (zJ rfl (zJ rfl zR)) (fun W hW => ⟨rfl, hW.low leB⟩)
    ·refine Tr.skip (Tr.zA (Tr.sr (Tr.mv rfl rfl ?_)))
     obtain ⟨zGB, hy107, H⟩ := bnd H
     refine Tr.Qa (r := (.tuple #[(iv zGB), .nilIface])) (wn rfl) rfl Tryz.call83 (zI rfl zT) (fun W hW => zDz p0 zGB hy107 (HF.start _)) ?_
     refine Tr.mv rfl rfl (Tr.va rfl (fun _ _ h1 h2 => QC (h1.ev rfl) rfl) ?_)
     refine Tr.va rfl (fun _ _ h1 h2 => QC (h1.ev rfl) rfl) ?_
     refine Tr.asg rfl rfl (Tr.asg rfl rfl (Tr.nil (Tr.zA (Tr.sr (Tr.mv rfl rfl (Tr.asg rfl rfl (Tr.asg rfl rfl (Tr.nil (Tr.zA (Tr.ret ?_))))))))))
     obtain rfl := Option.some.inj H
     exact Tr.out (m := [(iv zGB), (.bool true)]) [] (zJ rfl (zJ rfl zR)) (fun W hW => ⟨rfl, hW.low leB⟩)

theorem zCG {w : Bs} (p0 : (List ByteArray)) (zG : Option Addr) (zH : Nat) (ze : Sl w.R w.W JG zG zH p0) (r : ((List Int) × Bool)) (H : WB p0 = some r) (hE : HF w w.W (LEn [emp])) : Calls Tryz.prog 36 [(.slice zG p0.length zH)].toArray w.W fun e W' => ∃ u : (Option Addr × Nat), e = .returned (.tuple #[(.slice u.1 r.1.length u.2), (.bool r.2)]) ∧ (SlF u.1 r.1.length u.2) ∧ HF w W' (LEn [ow u.1 u.2 3 QT r.1]) := by
 unfold WB at H
 have leB := Bs.Le.refl w
 refine Tr.enter (n := 28) Tryz.func36 rfl rfl rfl hE ?_
 refine Tr.sr (Tr.asg rfl rfl (Tr.JZ 1 3 QT ?_))
 show Tr _ _ (uf _ 2 (.slice none (([] : List Int)).length 0)) _ _
 refine Tr.asg rfl rfl (Tr.nil (Tr.zA (Tr.sr (Tr.asg rfl rfl (Tr.JZ 2 3 QT ?_)))))
 show Tr _ _ (uf _ 4 (.slice none (([] : List Int)).length 0)) _ _
 refine Tr.nil (Tr.zA (Tr.seq (Tr.sr (Tr.mv rfl rfl (Tr.va rfl (fun _ _ h1 h2 => QG zFZ (h1.ev rfl)) ?_)))))
 refine Tr.mv rfl rfl (Tr.nil (Tr.zA (Tr.block (Tr.loop (σ := (List ByteArray) × Nat × (List Int) × (Option Addr) × Nat) (fun m w s => m = s.1.length + 1 ∧ s.1 = List.drop s.2.1 p0 ∧ s.2.1 ≤ p0.length ∧ KY s.1 s.2.1 s.2.2.1 = some r ∧ SlF s.2.2.2.1 s.2.2.1.length s.2.2.2.2) (fun s => [(4, (.slice s.2.2.2.1 s.2.2.1.length s.2.2.2.2)), (9, (.slice zG p0.length zH)), (10, (iv (p0.length : Int))), (11, (iv (s.2.1 : Int)))]) (fun s => [(2, ow s.2.2.2.1 s.2.2.2.2 3 QT s.2.2.1)]) (p0.length + 1) (p0, 0, ([] : List Int), none, 0) ⟨rfl, rfl, Nat.zero_le _, H, Qr⟩ (.cons rfl (.cons rfl (.cons rfl (.cons rfl .nil)))) (.cons rfl .nil) (fun _ _ h => absurd h.1 (by simp)) ?_))))
 intro w Qs m s hs
 obtain ⟨zz, iL1, Kl, zBS, zBQ⟩ := s
 obtain ⟨zAe, Qt, hiL1, H, zB4⟩ := hs
 replace Qt : zz = List.drop iL1 p0 := Qt
 replace H : KY zz iL1 Kl = some r := H
 replace zAe : m + 1 = zz.length + 1 := zAe
 replace ze := ze.leR Qs
 replace leB := leB.trans Qs
 replace zB4 : SlF zBS Kl.length zBQ := zB4
 obtain rfl : m = zz.length := by omega
 clear zAe
 show Tr _ _ (LF [(4, (.slice zBS Kl.length zBQ)), (9, (.slice zG p0.length zH)), (10, (iv (p0.length : Int))), (11, (iv (iL1 : Int)))]) (LE [(2, ow zBS zBQ 3 QT Kl)]) _
 cases zz with
 | nil =>
  rw [KY.eq_1] at H
  refine Tr.sr (Tr.va rfl (fun _ _ h1 h2 => QV (h1.ev rfl) (h1.ev rfl)) ?_)
  refine Tr.nil (Tr.zA (Tr.seq (Tr.zDV rfl (Wh Qt) ?_)))
  refine Tr.exit (Tr.zx (Tr.zx (Tr.Qd (Tr.zA (Tr.sr (Tr.mv rfl rfl (Tr.asg rfl rfl (Tr.asg rfl rfl (Tr.nil (Tr.zA (Tr.ret ?_)))))))))))
  obtain rfl := Option.some.inj H
  exact Tr.out (m := [(.slice zBS Kl.length zBQ), (.bool true)]) [] (zJ rfl (zJ rfl zR)) (fun W hW => ⟨(zBS, zBQ), rfl, zB4, HF.zH0 leB (hW.pick (ks := [2]) (by decide) (zO rfl QH)) ⟨zCW _ _ _ _ zFb, trivial⟩⟩)
 | cons xL1 zz =>
  rw [KY.eq_2] at H
  refine Tr.sr (Tr.va rfl (fun _ _ h1 h2 => QV (h1.ev rfl) (h1.ev rfl)) ?_)
  refine Tr.nil (Tr.zA (Tr.seq (Tr.zC7 rfl (zAL Qt) ?_)))
  refine Tr.skip (Tr.zA (Tr.seq (Tr.block (Tr.sr (Tr.va rfl (fun _ _ h1 h2 => zN zAP (h1.ev rfl) ze.form (h1.ev rfl) (Int.natCast_nonneg _) (Qz Qt)) ?_)))))
  refine Tr.va rfl (fun _ _ h1 h2 => zF zAR (h1.ev rfl) (rdF Wq ze (zAM Qt) h2) rfl) ?_
  refine Tr.asg rfl rfl (Tr.nil (Tr.zA (Tr.sr (Tr.mv rfl rfl ?_))))
  obtain ⟨y115, hy115, H⟩ := bnd H
  refine Tr.Qa (r := (.tuple #[(iv y115.1), (.bool y115.2)])) (wn rfl) rfl Tryz.call57 (zI rfl zT) (fun W hW => zIM xL1 y115 hy115 (HF.start _)) ?_
  refine Tr.mv rfl rfl (Tr.va rfl (fun _ _ h1 h2 => QC (h1.ev rfl) rfl) ?_)
  refine Tr.va rfl (fun _ _ h1 h2 => QC (h1.ev rfl) rfl) ?_
  refine Tr.asg rfl rfl (Tr.asg rfl rfl (Tr.nil (Tr.zA (Tr.seq (Tr.sr (Tr.mv rfl rfl (Tr.va rfl (fun _ _ h1 h2 => Qb (h1.ev rfl)) ?_)))))))
  refine Tr.nil (Tr.zA (Tr.cond rfl H (fun H => ?_) (fun H => ?_)))
  ·refine Tr.sr (Tr.asg rfl rfl (Tr.JZ 7 3 QT ?_))
   show Tr _ _ (uf _ 2 (.slice none (([] : List Int)).length 0)) _ _
   refine Tr.asg rfl rfl (Tr.nil (Tr.zA (Tr.ret (Tr.zM (Tr.zW (Tr.zM (Tr.zM (Tr.zW (Tr.zM ?_)))))))))
   obtain rfl := Option.some.inj H
   exact Tr.out (m := [(.slice none (([] : List Int)).length 0), (.bool false)]) [] (zJ rfl (zJ rfl zR)) (fun W hW => ⟨(none, 0), rfl, Qr, HF.zH0 leB (hW.pick (ks := [7]) (by decide) (zO rfl QH)) ⟨zCW _ _ _ _ zFb, trivial⟩⟩)
  ·refine Tr.skip (Tr.zA (Tr.region (Tr.mv rfl rfl (Tr.mv rfl rfl (Tr.buildSlice 8 (e := 3) (vs := [(0, (iv y115.1))]) (cs := [(iv y115.1)]) (wn rfl) rfl (QE rfl Qj) (by kernel_rfl) fun b116 => ?_)))))
   obtain ⟨l117, hl117, H⟩ := bnd H
   refine Tr.append 2 (t := QT) (l := Kl) (l2 := [y115.1]) (wn rfl) rfl rfl rfl rfl (fun W hW => ⟨[[(iv y115.1)]], (.cons ⟨(), trivial, rfl⟩ .nil), rdb hW (vs := [(iv y115.1)]) (k := 8) rfl 0⟩) zEH zJa zl_3 (by decide) by_3 rfl hl117 fun Al117 cl117 hAl117 => ?_
   refine Tr.asg rfl rfl (Tr.nil (Tr.zi (Tr.zA (Tr.region (Tr.va rfl (fun _ _ h1 h2 => QS (h1.ev rfl) (h1.ev rfl)) ?_)))))
   exact Tr.mv rfl rfl (Tr.nil (Tr.zb Qs (zz, (iL1 + 1), l117, Al117, cl117) ⟨rfl, VN Qt, Qz Qt, H, hAl117⟩ (.cons rfl (.cons rfl (.cons rfl (.cons (congrArg (fun z => some (Value.int .i64 z)) (VM Qt ze.form)) .nil)))) (.cons rfl .nil)))

theorem zDi {w : Bs} (p0 : ByteArray) (p1 : Int → Option Bool) (fid1 : Nat) (cap1 : List Value) (hg1 : ∀ args W, (callFunc fid1 args).run Tryz.prog W = .ok (.enter fid1 args) W) (hf1 : ∀ (w' : Bs), w.Ext w' → ∀ (z0 : Int), ∀ y, p1 z0 = some y → Calls Tryz.prog fid1 (([(.int .i32 z0)] : List Value) ++ cap1).toArray w'.W fun e W'' => e = .returned (.bool y) ∧ HF w' W'' E0) (r : Bool) (H : zCc p0 p1 = some r) (hE : HF w w.W E0) : Calls Tryz.prog 55 [(sv p0), (.func (.func fid1) #[] cap1.toArray)].toArray w.W fun e W' => e = .returned (.bool r) ∧ HF w W' E0 :=
 containsF_rule (ρ := Tryz.zDU) Tryz.containsfunc55 hg1 hf1 H hE

theorem zHg {w : Bs} (p0 : Int) (r : Bool) (H : zBB p0 = some r) (hE : HF w w.W E0) : Calls Tryz.prog 56 [(.int .i32 p0)].toArray w.W fun e W' => e = .returned (.bool r) ∧ HF w W' E0 := by
 unfold zBB at H
 have leB := Bs.Le.refl w
 refine Tr.enter (n := 9) Tryz.func56 rfl rfl rfl hE ?_
 refine Tr.sr (Tr.asg rfl rfl (Tr.nil (Tr.zA (Tr.sr (Tr.mv rfl rfl (Tr.va rfl (fun _ _ h1 h2 => QV (h1.ev rfl) (h1.ev rfl)) ?_))))))
 refine Tr.mv rfl rfl (Tr.Jl 3 [(8, (.bool ((decide (p0 < 33)) || (decide (126 < p0)))))] [] ?_ ?_)
 ·cases hg99 : (decide (p0 < 33))
  ·refine Tr.val (wg rfl rfl rfl) rfl (fun _ _ h1 h2 => run_move (h1.ev rfl)) ?_
   refine Tr.val (wg rfl rfl rfl) rfl (fun _ _ h1 h2 => VR (h1.ev rfl) (h1.ev rfl)) ?_
   refine Tr.va rfl (fun _ _ h1 h2 => zV (h1.ev rfl) (h1.ev rfl)) ?_
   exact Tr.nil (Tr.QI (.cons rfl .nil) .nil)
  ·refine Tr.pass rfl rfl rfl rfl rfl (by decide) ?_
   refine Tr.pass rfl rfl rfl rfl rfl (by decide) ?_
   refine Tr.va rfl (fun _ _ h1 h2 => zU (h1.ev rfl) (h1.ev rfl)) ?_
   exact Tr.nil (Tr.QI (.cons rfl .nil) .nil)
 ·show Tr _ _ (LF [(8, (.bool ((decide (p0 < 33)) || (decide (126 < p0)))))]) (LE []) _
  refine Tr.asg rfl rfl (Tr.nil (Tr.zA (Tr.ret ?_)))
  obtain rfl := Option.some.inj H
  exact Tr.out (m := [(.bool ((decide (p0 < 33)) || (decide (126 < p0))))]) [] (zJ rfl zR) (fun W hW => ⟨rfl, hW.low leB⟩)

theorem zFS {w : Bs} (p0 : ByteArray) (r : Bool) (H : zBM p0 = some r) (hE : HF w w.W E0) : Calls Tryz.prog 35 [(sv p0)].toArray w.W fun e W' => e = .returned (.bool r) ∧ HF w W' E0 := by
 unfold zBM at H
 have leB := Bs.Le.refl w
 refine Tr.enter (n := 10) Tryz.func35 rfl rfl rfl hE ?_
 refine Tr.sr (Tr.asg rfl rfl (Tr.nil (Tr.zA (Tr.sr (Tr.mv rfl rfl (Tr.va rfl (fun _ _ h1 h2 => zBW (h1.ev rfl) (h1.ev rfl)) ?_))))))
 refine Tr.mv rfl rfl ?_
 obtain ⟨g101, zES, H⟩ := bnd H
 refine Tr.Jl 4 [(9, (.bool g101))] [] ?_ ?_
 ·cases zB5 : (!sEq p0 (⟨#[]⟩))
  ·rw [zB5] at zES
   rw [if_neg (by decide)] at zES
   have H := zES
   obtain rfl := Option.some.inj H
   refine Tr.pass rfl rfl rfl rfl rfl (by decide) ?_
   refine Tr.pass rfl rfl rfl rfl rfl (by decide) ?_
   refine Tr.pass rfl rfl rfl rfl rfl (by decide) ?_
   refine Tr.va rfl (fun _ _ h1 h2 => zV (h1.ev rfl) (h1.ev rfl)) ?_
   exact Tr.nil (Tr.QI (.cons rfl .nil) .nil)
  ·rw [zB5] at zES
   rw [if_pos rfl] at zES
   have H := zES
   refine Tr.val (wg rfl rfl rfl) rfl (fun _ _ h1 h2 => run_move (h1.ev rfl)) ?_
   obtain ⟨y102, hy102, H⟩ := bnd H
   refine Tr.Qa (r := (.bool y102)) (wg rfl rfl rfl) rfl Tryz.call55 (zI rfl (zI rfl zT)) (fun W hW => zDi p0 (fun z0 => zBB z0) 56 [] Tryz.call56 (fun w' he z0 y hy => zHg z0 y hy (HF.start _)) y102 hy102 (HF.start _)) ?_
   refine Tr.val (wg rfl rfl rfl) rfl (fun _ _ h1 h2 => Qb (h1.ev rfl)) ?_
   refine Tr.va rfl (fun _ _ h1 h2 => zU (h1.ev rfl) (h1.ev rfl)) ?_
   obtain rfl := Option.some.inj H
   exact Tr.nil (Tr.QI (.cons rfl .nil) .nil)
 ·show Tr _ _ (LF [(9, (.bool g101))]) (LE []) _
  refine Tr.asg rfl rfl (Tr.nil (Tr.zA (Tr.ret ?_)))
  obtain rfl := Option.some.inj H
  exact Tr.out (m := [(.bool g101)]) [] (zJ rfl zR) (fun W hW => ⟨rfl, hW.low leB⟩)

theorem zFE (N : Nat) {w : Bs} (p0 : QZ) (zG : Option Addr) (zH : Nat) (zL : Option Addr) (zK : Nat) (KE : Sl w.R w.W zC zL zK p0.p.Steps) (zn : Option Addr) (zo : Nat) (Dhp0_2 : List (PE zC)) (Js : SK Dhp0_2 p0.open_ ∧ SlF zn p0.open_.length zo) (bp0 : Nat) (p1 : (List ByteArray)) (zX : Option Addr) (zY : Nat) (Qv : Sl w.R w.W JG zX zY p1) (r : (Bool × Int × Bool × (List zt) × (List zD))) (H : WU N p0 p1 = some r) (hE : HF w w.W (LEn [bx bp0 #[(iv p0.p.Unit), (.slice zG p0.p.Tools.length zH), (.slice zL p0.p.Steps.length zK), (.bool p0.unit), (.slice zn p0.open_.length zo), (.bool p0.step)] 59, ow zG zH 47 zQ p0.p.Tools, sk zn zo 85 80 80 zS Dhp0_2])) : Calls Tryz.prog 33 [(.pointer (some ⟨bp0, 0, none⟩)), (.slice zX p1.length zY)].toArray w.W fun e W' => ∃ (w' : Bs) (u : (Option Addr × Nat) × (Option Addr × Nat × List (PE zC))), w.Le w' ∧ e = .returned (.bool r.1) ∧ (SlF u.1.1 r.2.2.2.1.length u.1.2 ∧ (SK u.2.2.2 r.2.2.2.2 ∧ SlF u.2.1 r.2.2.2.2.length u.2.2.1)) ∧ HF w' W' (LEn [bx bp0 #[(iv r.2.1), (.slice u.1.1 r.2.2.2.1.length u.1.2), (.slice zL p0.p.Steps.length zK), (.bool r.2.2.1), (.slice u.2.1 r.2.2.2.2.length u.2.2.1), (.bool p0.step)] 59, ow u.1.1 u.1.2 47 zQ r.2.2.2.1, sk u.2.1 u.2.2.1 85 80 80 zS u.2.2.2]) := by
 unfold WU at H
 have zA1 := (hE.sl (k := 1) rfl).form
 have leB := Bs.Le.refl w
 refine Tr.enter (n := 133) Tryz.func33 rfl rfl rfl hE ?_
 refine Tr.sr (Tr.asg rfl rfl (Tr.nil (Tr.zA (Tr.seq (Tr.sr (Tr.mv rfl rfl ?_))))))
 obtain ⟨x100, hx100, H⟩ := bnd H
 obtain ⟨hx1000, hx1001, hx1002⟩ := zw hx100
 refine Tr.va rfl (fun _ _ h1 h2 => zN zAP (h1.ev rfl) Qv.form (h1.ev rfl) hx1000 hx1001) ?_
 refine Tr.va rfl (fun _ _ h1 h2 => zF zAR (h1.ev rfl) (rdF Wq Qv hx1002 h2) rfl) ?_
 refine Tr.va rfl (fun _ _ h1 h2 => Qq (h1.ev rfl) (h1.ev rfl)) ?_
 refine Tr.nil (Tr.zA (Tr.cond rfl H (fun H => ?_) (fun H => ?_)))
 ·refine Tr.sr (Tr.mv rfl rfl ?_)
  obtain ⟨l101, hl101, H⟩ := bnd H
  refine Tr.va rfl (fun _ _ h1 h2 => zFd zAP (h1.ev rfl) Qv.form (h1.ev rfl) hl101) ?_
  obtain ⟨y102, hy102, H⟩ := bnd H
  refine Tr.zAC [3] [emp] (U := (Option Addr × Nat)) (fun u => (.tuple #[(.slice u.1 y102.1.length u.2), (.bool y102.2)])) (fun u => SlF u.1 y102.1.length u.2) (fun u => [ow u.1 u.2 3 QT y102.1]) rfl (zO rfl QH) (fun _ => rfl) (wn rfl) rfl Tryz.call36 (zI rfl zT) (fun W hW hp hE => zCG l101 (zE8 zX (1 : Int).toNat 1 zY) (zY - (1 : Int).toNat) (Sl.cut (Qv.ext (hW.zCb hp)) hl101) y102 hy102 hE) ?_
  intro u hu
  obtain ⟨QK, QF⟩ := u
  have gy102_0 := hu
  have zCr : SlF QK y102.1.length QF := gy102_0 --@phi
  show Tr _ _ (uf _ 18 (.tuple #[(.slice QK y102.1.length QF), (.bool y102.2)])) (up _ 3 (ow QK QF 3 QT y102.1)) _
  refine Tr.mv rfl rfl (Tr.va rfl (fun _ _ h1 h2 => QC (h1.ev rfl) rfl) ?_)
  refine Tr.va rfl (fun _ _ h1 h2 => QC (h1.ev rfl) rfl) ?_
  refine Tr.asg rfl rfl (Tr.asg rfl rfl (Tr.nil (Tr.zA (Tr.seq (Tr.sr (Tr.mv rfl rfl (Tr.va rfl (fun _ _ h1 h2 => zg (h1.ev rfl)) ?_)))))))
  refine Tr.va rfl (fun _ _ h1 h2 => zB zHH (h1.ev rfl)) ?_
  refine Tr.va rfl (fun _ _ h1 h2 => zF zFt (h1.ev rfl) (rdb h2 (vs := [(iv p0.p.Unit), (.slice zG p0.p.Tools.length zH), (.slice zL p0.p.Steps.length zK), (.bool p0.unit), (.slice zn p0.open_.length zo), (.bool p0.step)]) (k := 0) rfl 3) rfl) ?_
  refine Tr.mv rfl rfl (Tr.Jl 3 [(0, (.pointer (some ⟨bp0, 0, none⟩))), (5, (.slice QK y102.1.length QF)), (28, (.bool (p0.unit || (!y102.2))))] [(0, bx bp0 #[(iv p0.p.Unit), (.slice zG p0.p.Tools.length zH), (.slice zL p0.p.Steps.length zK), (.bool p0.unit), (.slice zn p0.open_.length zo), (.bool p0.step)] 59), (1, ow zG zH 47 zQ p0.p.Tools), (2, sk zn zo 85 80 80 zS Dhp0_2), (3, ow QK QF 3 QT y102.1)] ?_ ?_)
  ·cases zC6 : p0.unit
   ·refine Tr.val (wg rfl rfl rfl) rfl (fun _ _ h1 h2 => run_move (h1.ev rfl)) ?_
    refine Tr.val (wg rfl rfl rfl) rfl (fun _ _ h1 h2 => Qb (h1.ev rfl)) ?_
    refine Tr.va rfl (fun _ _ h1 h2 => zV (h1.ev rfl) (h1.ev rfl)) ?_
    exact Tr.nil (Tr.QI (.cons rfl (.cons rfl (.cons rfl .nil))) (.cons rfl (.cons rfl (.cons rfl (.cons rfl .nil)))))
   ·refine Tr.pass rfl rfl rfl rfl rfl (by decide) ?_
    refine Tr.pass rfl rfl rfl rfl rfl (by decide) ?_
    refine Tr.va rfl (fun _ _ h1 h2 => zU (h1.ev rfl) (h1.ev rfl)) ?_
    exact Tr.nil (Tr.QI (.cons rfl (.cons rfl (.cons rfl .nil))) (.cons rfl (.cons rfl (.cons rfl (.cons rfl .nil)))))
  ·show Tr _ _ (LF [(0, (.pointer (some ⟨bp0, 0, none⟩))), (5, (.slice QK y102.1.length QF)), (28, (.bool (p0.unit || (!y102.2))))]) (LE [(0, bx bp0 #[(iv p0.p.Unit), (.slice zG p0.p.Tools.length zH), (.slice zL p0.p.Steps.length zK), (.bool p0.unit), (.slice zn p0.open_.length zo), (.bool p0.step)] 59), (1, ow zG zH 47 zQ p0.p.Tools), (2, sk zn zo 85 80 80 zS Dhp0_2), (3, ow QK QF 3 QT y102.1)]) _
   refine Tr.mv rfl rfl (Tr.Jl 4 [(0, (.pointer (some ⟨bp0, 0, none⟩))), (5, (.slice QK y102.1.length QF)), (33, (.bool ((p0.unit || (!y102.2)) || ((y102.1.length : Int) != 1))))] [(0, bx bp0 #[(iv p0.p.Unit), (.slice zG p0.p.Tools.length zH), (.slice zL p0.p.Steps.length zK), (.bool p0.unit), (.slice zn p0.open_.length zo), (.bool p0.step)] 59), (1, ow zG zH 47 zQ p0.p.Tools), (2, sk zn zo 85 80 80 zS Dhp0_2), (3, ow QK QF 3 QT y102.1)] ?_ ?_)
   ·cases zC6 : (p0.unit || (!y102.2))
    ·refine Tr.val (wg rfl rfl rfl) rfl (fun _ _ h1 h2 => run_move (h1.ev rfl)) ?_
     refine Tr.val (wg rfl rfl rfl) rfl (fun _ _ h1 h2 => QG zEH (h1.ev rfl)) ?_
     refine Tr.val (wg rfl rfl rfl) rfl (fun _ _ h1 h2 => KV (h1.ev rfl) (h1.ev rfl)) ?_
     refine Tr.va rfl (fun _ _ h1 h2 => zV (h1.ev rfl) (h1.ev rfl)) ?_
     exact Tr.nil (Tr.QI (.cons rfl (.cons rfl (.cons rfl .nil))) (.cons rfl (.cons rfl (.cons rfl (.cons rfl .nil)))))
    ·refine Tr.pass rfl rfl rfl rfl rfl (by decide) ?_
     refine Tr.pass rfl rfl rfl rfl rfl (by decide) ?_
     refine Tr.pass rfl rfl rfl rfl rfl (by decide) ?_
     refine Tr.va rfl (fun _ _ h1 h2 => zU (h1.ev rfl) (h1.ev rfl)) ?_
     exact Tr.nil (Tr.QI (.cons rfl (.cons rfl (.cons rfl .nil))) (.cons rfl (.cons rfl (.cons rfl (.cons rfl .nil)))))
   ·show Tr _ _ (LF [(0, (.pointer (some ⟨bp0, 0, none⟩))), (5, (.slice QK y102.1.length QF)), (33, (.bool ((p0.unit || (!y102.2)) || ((y102.1.length : Int) != 1))))]) (LE [(0, bx bp0 #[(iv p0.p.Unit), (.slice zG p0.p.Tools.length zH), (.slice zL p0.p.Steps.length zK), (.bool p0.unit), (.slice zn p0.open_.length zo), (.bool p0.step)] 59), (1, ow zG zH 47 zQ p0.p.Tools), (2, sk zn zo 85 80 80 zS Dhp0_2), (3, ow QK QF 3 QT y102.1)]) _
    refine Tr.nil (Tr.zA (Tr.cond rfl H (fun H => ?_) (fun H => ?_)))
    ·refine Tr.sr (Tr.asg rfl rfl (Tr.nil (Tr.zA (Tr.ret (Tr.zM (Tr.zM ?_))))))
     obtain rfl := Option.some.inj H
     exact Tr.out (m := [(.bool false)]) [] (zJ rfl zR) (fun W hW => ⟨w, ((zG, zH), (zn, zo, Dhp0_2)), leB, rfl, ⟨zA1, ⟨Js.1, Js.2⟩⟩, hW.pick (ks := [0, 1, 2]) (by decide) (zO rfl (zO rfl (zO rfl QH)))⟩)
    ·refine Tr.skip (Tr.zA (Tr.sr (Tr.mv rfl rfl (Tr.mv rfl rfl (Tr.mv rfl rfl ?_)))))
     obtain ⟨x104, hx104, H⟩ := bnd H
     obtain ⟨hx1040, hx1041, hx1042⟩ := zw hx104
     refine Tr.va rfl (fun _ _ h1 h2 => zN zAb (h1.ev rfl) zCr (h1.ev rfl) hx1040 hx1041) ?_
     refine Tr.va rfl (fun _ _ h1 h2 => zF Qu (h1.ev rfl) (rdo Vy (k := 3) h2 rfl hx1042) rfl) ?_
     refine Tr.va rfl (fun _ _ h1 h2 => zg (h1.ev rfl)) ?_
     refine Tr.va rfl (fun _ _ h1 h2 => zB zE2 (h1.ev rfl)) ?_
     refine Tr.va rfl (fun _ _ h1 h2 => zB zBe (h1.ev rfl)) ?_
     refine Tr.store 0 (cs := [(iv x104)]) [(iv x104), (.slice zG p0.p.Tools.length zH), (.slice zL p0.p.Steps.length zK), (.bool p0.unit), (.slice zn p0.open_.length zo), (.bool p0.step)] (wn rfl) rfl rfl rfl rfl zJa rfl rfl rfl ?_
     refine Tr.va rfl (fun _ _ h1 h2 => zg (h1.ev rfl)) ?_
     refine Tr.va rfl (fun _ _ h1 h2 => zB zHH (h1.ev rfl)) ?_
     refine Tr.store 0 (cs := [(.bool true)]) [(iv x104), (.slice zG p0.p.Tools.length zH), (.slice zL p0.p.Steps.length zK), (.bool true), (.slice zn p0.open_.length zo), (.bool p0.step)] (wn rfl) rfl rfl rfl rfl sz_4 rfl rfl rfl ?_
     refine Tr.nil (Tr.zA (Tr.sr (Tr.asg rfl rfl (Tr.nil (Tr.zA (Tr.ret (Tr.zM ?_)))))))
     obtain rfl := Option.some.inj H
     exact Tr.out (m := [(.bool true)]) [] (zJ rfl zR) (fun W hW => ⟨w, ((zG, zH), (zn, zo, Dhp0_2)), leB, rfl, ⟨zA1, ⟨Js.1, Js.2⟩⟩, hW.pick (ks := [0, 1, 2]) (by decide) (zO rfl (zO rfl (zO rfl QH)))⟩)
 ·refine Tr.skip (Tr.zA (Tr.seq (Tr.sr (Tr.mv rfl rfl (Tr.va rfl (fun _ _ h1 h2 => zg (h1.ev rfl)) ?_)))))
  refine Tr.va rfl (fun _ _ h1 h2 => zB zHH (h1.ev rfl)) ?_
  refine Tr.va rfl (fun _ _ h1 h2 => zF zFt (h1.ev rfl) (rdb h2 (vs := [(iv p0.p.Unit), (.slice zG p0.p.Tools.length zH), (.slice zL p0.p.Steps.length zK), (.bool p0.unit), (.slice zn p0.open_.length zo), (.bool p0.step)]) (k := 0) rfl 3) rfl) ?_
  refine Tr.va rfl (fun _ _ h1 h2 => Qb (h1.ev rfl)) ?_
  refine Tr.mv rfl rfl (Tr.Jl 5 [(0, (.pointer (some ⟨bp0, 0, none⟩))), (1, (.slice zX p1.length zY)), (54, (.bool ((!p0.unit) || p0.step)))] [(0, bx bp0 #[(iv p0.p.Unit), (.slice zG p0.p.Tools.length zH), (.slice zL p0.p.Steps.length zK), (.bool p0.unit), (.slice zn p0.open_.length zo), (.bool p0.step)] 59), (1, ow zG zH 47 zQ p0.p.Tools), (2, sk zn zo 85 80 80 zS Dhp0_2)] ?_ ?_)
  ·cases hg145 : (!p0.unit)
   ·refine Tr.val (wg rfl rfl rfl) rfl (fun _ _ h1 h2 => run_move (h1.ev rfl)) ?_
    refine Tr.val (wg rfl rfl rfl) rfl (fun _ _ h1 h2 => zg (h1.ev rfl)) ?_
    refine Tr.val (wg rfl rfl rfl) rfl (fun _ _ h1 h2 => zB fo_59_3 (h1.ev rfl)) ?_
    refine Tr.val (wg rfl rfl rfl) rfl (fun _ _ h1 h2 => zF zFt (h1.ev rfl) (rdb h2 (vs := [(iv p0.p.Unit), (.slice zG p0.p.Tools.length zH), (.slice zL p0.p.Steps.length zK), (.bool p0.unit), (.slice zn p0.open_.length zo), (.bool p0.step)]) (k := 0) rfl 5) rfl) ?_
    refine Tr.va rfl (fun _ _ h1 h2 => zV (h1.ev rfl) (h1.ev rfl)) ?_
    exact Tr.nil (Tr.QI (.cons rfl (.cons rfl (.cons rfl .nil))) (.cons rfl (.cons rfl (.cons rfl .nil))))
   ·refine Tr.pass rfl rfl rfl rfl rfl (by decide) ?_
    refine Tr.pass rfl rfl rfl rfl rfl (by decide) ?_
    refine Tr.pass rfl rfl rfl rfl rfl (by decide) ?_
    refine Tr.pass rfl rfl rfl rfl rfl (by decide) ?_
    refine Tr.va rfl (fun _ _ h1 h2 => zU (h1.ev rfl) (h1.ev rfl)) ?_
    exact Tr.nil (Tr.QI (.cons rfl (.cons rfl (.cons rfl .nil))) (.cons rfl (.cons rfl (.cons rfl .nil))))
  ·show Tr _ _ (LF [(0, (.pointer (some ⟨bp0, 0, none⟩))), (1, (.slice zX p1.length zY)), (54, (.bool ((!p0.unit) || p0.step)))]) (LE [(0, bx bp0 #[(iv p0.p.Unit), (.slice zG p0.p.Tools.length zH), (.slice zL p0.p.Steps.length zK), (.bool p0.unit), (.slice zn p0.open_.length zo), (.bool p0.step)] 59), (1, ow zG zH 47 zQ p0.p.Tools), (2, sk zn zo 85 80 80 zS Dhp0_2)]) _
   refine Tr.mv rfl rfl (Tr.Jl 4 [(0, (.pointer (some ⟨bp0, 0, none⟩))), (1, (.slice zX p1.length zY)), (59, (.bool (((!p0.unit) || p0.step) || (decide ((p1.length : Int) < 2)))))] [(0, bx bp0 #[(iv p0.p.Unit), (.slice zG p0.p.Tools.length zH), (.slice zL p0.p.Steps.length zK), (.bool p0.unit), (.slice zn p0.open_.length zo), (.bool p0.step)] 59), (1, ow zG zH 47 zQ p0.p.Tools), (2, sk zn zo 85 80 80 zS Dhp0_2)] ?_ ?_)
   ·cases hg145 : ((!p0.unit) || p0.step)
    ·refine Tr.val (wg rfl rfl rfl) rfl (fun _ _ h1 h2 => run_move (h1.ev rfl)) ?_
     refine Tr.val (wg rfl rfl rfl) rfl (fun _ _ h1 h2 => QG zFZ (h1.ev rfl)) ?_
     refine Tr.val (wg rfl rfl rfl) rfl (fun _ _ h1 h2 => QV (h1.ev rfl) (h1.ev rfl)) ?_
     refine Tr.va rfl (fun _ _ h1 h2 => zV (h1.ev rfl) (h1.ev rfl)) ?_
     exact Tr.nil (Tr.QI (.cons rfl (.cons rfl (.cons rfl .nil))) (.cons rfl (.cons rfl (.cons rfl .nil))))
    ·refine Tr.pass rfl rfl rfl rfl rfl (by decide) ?_
     refine Tr.pass rfl rfl rfl rfl rfl (by decide) ?_
     refine Tr.pass rfl rfl rfl rfl rfl (by decide) ?_
     refine Tr.va rfl (fun _ _ h1 h2 => zU (h1.ev rfl) (h1.ev rfl)) ?_
     exact Tr.nil (Tr.QI (.cons rfl (.cons rfl (.cons rfl .nil))) (.cons rfl (.cons rfl (.cons rfl .nil))))
   ·show Tr _ _ (LF [(0, (.pointer (some ⟨bp0, 0, none⟩))), (1, (.slice zX p1.length zY)), (59, (.bool (((!p0.unit) || p0.step) || (decide ((p1.length : Int) < 2)))))]) (LE [(0, bx bp0 #[(iv p0.p.Unit), (.slice zG p0.p.Tools.length zH), (.slice zL p0.p.Steps.length zK), (.bool p0.unit), (.slice zn p0.open_.length zo), (.bool p0.step)] 59), (1, ow zG zH 47 zQ p0.p.Tools), (2, sk zn zo 85 80 80 zS Dhp0_2)]) _
    refine Tr.mv rfl rfl ?_
    obtain ⟨g107, zER, H⟩ := bnd H
    refine Tr.Jl 6 [(0, (.pointer (some ⟨bp0, 0, none⟩))), (1, (.slice zX p1.length zY)), (66, (.bool g107))] [(0, bx bp0 #[(iv p0.p.Unit), (.slice zG p0.p.Tools.length zH), (.slice zL p0.p.Steps.length zK), (.bool p0.unit), (.slice zn p0.open_.length zo), (.bool p0.step)] 59), (1, ow zG zH 47 zQ p0.p.Tools), (2, sk zn zo 85 80 80 zS Dhp0_2)] ?_ ?_
    ·cases hg145 : (((!p0.unit) || p0.step) || (decide ((p1.length : Int) < 2)))
     ·rw [hg145] at zER
      rw [if_neg (by decide)] at zER
      have H := zER
      refine Tr.val (wg rfl rfl rfl) rfl (fun _ _ h1 h2 => run_move (h1.ev rfl)) ?_
      obtain ⟨Wm, zHA, H⟩ := bnd H
      obtain ⟨zEz, zEy, zEx⟩ := zw zHA
      refine Tr.val (wg rfl rfl rfl) rfl (fun _ _ h1 h2 => zN zAP (h1.ev rfl) Qv.form (h1.ev rfl) zEz zEy) ?_
      refine Tr.val (wg rfl rfl rfl) rfl (fun _ _ h1 h2 => zF zAR (h1.ev rfl) (rdF Wq Qv zEx h2) rfl) ?_
      obtain ⟨zD7, zJz, H⟩ := bnd H
      refine Tr.Qa (r := (.bool zD7)) (wg rfl rfl rfl) rfl Tryz.call35 (zI rfl zT) (fun W hW => zFS Wm zD7 zJz (HF.start _)) ?_
      refine Tr.val (wg rfl rfl rfl) rfl (fun _ _ h1 h2 => Qb (h1.ev rfl)) ?_
      refine Tr.va rfl (fun _ _ h1 h2 => zV (h1.ev rfl) (h1.ev rfl)) ?_
      obtain rfl := Option.some.inj H
      exact Tr.nil (Tr.QI (.cons rfl (.cons rfl (.cons rfl .nil))) (.cons rfl (.cons rfl (.cons rfl .nil))))
     ·rw [hg145] at zER
      rw [if_pos rfl] at zER
      have H := zER
      obtain rfl := Option.some.inj H
      refine Tr.pass rfl rfl rfl rfl rfl (by decide) ?_
      refine Tr.pass rfl rfl rfl rfl rfl (by decide) ?_
      refine Tr.pass rfl rfl rfl rfl rfl (by decide) ?_
      refine Tr.pass rfl rfl rfl rfl rfl (by decide) ?_
      refine Tr.pass rfl rfl rfl rfl rfl (by decide) ?_
      refine Tr.va rfl (fun _ _ h1 h2 => zU (h1.ev rfl) (h1.ev rfl)) ?_
      exact Tr.nil (Tr.QI (.cons rfl (.cons rfl (.cons rfl .nil))) (.cons rfl (.cons rfl (.cons rfl .nil))))
    ·show Tr _ _ (LF [(0, (.pointer (some ⟨bp0, 0, none⟩))), (1, (.slice zX p1.length zY)), (66, (.bool g107))]) (LE [(0, bx bp0 #[(iv p0.p.Unit), (.slice zG p0.p.Tools.length zH), (.slice zL p0.p.Steps.length zK), (.bool p0.unit), (.slice zn p0.open_.length zo), (.bool p0.step)] 59), (1, ow zG zH 47 zQ p0.p.Tools), (2, sk zn zo 85 80 80 zS Dhp0_2)]) _
     refine Tr.nil (Tr.zA (Tr.cond rfl H (fun H => ?_) (fun H => ?_)))
     ·refine Tr.sr (Tr.asg rfl rfl (Tr.nil (Tr.zA (Tr.ret (Tr.zM ?_)))))
      obtain rfl := Option.some.inj H
      exact Tr.out (m := [(.bool false)]) [] (zJ rfl zR) (fun W hW => ⟨w, ((zG, zH), (zn, zo, Dhp0_2)), leB, rfl, ⟨zA1, ⟨Js.1, Js.2⟩⟩, hW.pick (ks := [0, 1, 2]) (by decide) (zO rfl (zO rfl (zO rfl QH)))⟩)
     ·refine Tr.skip (Tr.zA (Tr.sr (Tr.mv rfl rfl ?_)))
      obtain ⟨l110, hl110, H⟩ := bnd H
      refine Tr.va rfl (fun _ _ h1 h2 => zFd zAP (h1.ev rfl) Qv.form (h1.ev rfl) hl110) ?_
      obtain ⟨VQ, hy111, H⟩ := bnd H
      refine Tr.zAC [4] [emp] (U := (Option Addr × Nat)) (fun u => (.tuple #[(.slice u.1 VQ.1.length u.2), (.bool VQ.2)])) (fun u => SlF u.1 VQ.1.length u.2) (fun u => [ow u.1 u.2 3 QT VQ.1]) rfl (zO rfl QH) (fun _ => rfl) (wn rfl) rfl Tryz.call36 (zI rfl zT) (fun W hW hp hE => zCG l110 (zE8 zX (2 : Int).toNat 1 zY) (zY - (2 : Int).toNat) (Sl.cut (Qv.ext (hW.zCb hp)) hl110) VQ hy111 hE) ?_
      intro u hu
      obtain ⟨KR, Vd⟩ := u
      have gy111_0 := hu
      have zHD : SlF KR VQ.1.length Vd := gy111_0 --@phi
      show Tr _ _ (uf _ 70 (.tuple #[(.slice KR VQ.1.length Vd), (.bool VQ.2)])) (up _ 4 (ow KR Vd 3 QT VQ.1)) _
      refine Tr.mv rfl rfl (Tr.va rfl (fun _ _ h1 h2 => QC (h1.ev rfl) rfl) ?_)
      refine Tr.va rfl (fun _ _ h1 h2 => QC (h1.ev rfl) rfl) ?_
      refine Tr.asg rfl rfl (Tr.asg rfl rfl (Tr.nil (Tr.zA (Tr.seq (Tr.sr (Tr.mv rfl rfl (Tr.va rfl (fun _ _ h1 h2 => Qb (h1.ev rfl)) ?_)))))))
      refine Tr.mv rfl rfl (Tr.Jl 4 [(0, (.pointer (some ⟨bp0, 0, none⟩))), (1, (.slice zX p1.length zY)), (7, (.slice KR VQ.1.length Vd)), (79, (.bool ((!VQ.2) || ((VQ.1.length : Int) == 0))))] [(0, bx bp0 #[(iv p0.p.Unit), (.slice zG p0.p.Tools.length zH), (.slice zL p0.p.Steps.length zK), (.bool p0.unit), (.slice zn p0.open_.length zo), (.bool p0.step)] 59), (1, ow zG zH 47 zQ p0.p.Tools), (2, sk zn zo 85 80 80 zS Dhp0_2), (4, ow KR Vd 3 QT VQ.1)] ?_ ?_)
      ·cases hg145 : (!VQ.2)
       ·refine Tr.val (wg rfl rfl rfl) rfl (fun _ _ h1 h2 => run_move (h1.ev rfl)) ?_
        refine Tr.val (wg rfl rfl rfl) rfl (fun _ _ h1 h2 => QG zEH (h1.ev rfl)) ?_
        refine Tr.val (wg rfl rfl rfl) rfl (fun _ _ h1 h2 => QY (h1.ev rfl) (h1.ev rfl)) ?_
        refine Tr.va rfl (fun _ _ h1 h2 => zV (h1.ev rfl) (h1.ev rfl)) ?_
        exact Tr.nil (Tr.QI (.cons rfl (.cons rfl (.cons rfl (.cons rfl .nil)))) (.cons rfl (.cons rfl (.cons rfl (.cons rfl .nil)))))
       ·refine Tr.pass rfl rfl rfl rfl rfl (by decide) ?_
        refine Tr.pass rfl rfl rfl rfl rfl (by decide) ?_
        refine Tr.pass rfl rfl rfl rfl rfl (by decide) ?_
        refine Tr.va rfl (fun _ _ h1 h2 => zU (h1.ev rfl) (h1.ev rfl)) ?_
        exact Tr.nil (Tr.QI (.cons rfl (.cons rfl (.cons rfl (.cons rfl .nil)))) (.cons rfl (.cons rfl (.cons rfl (.cons rfl .nil)))))
      ·show Tr _ _ (LF [(0, (.pointer (some ⟨bp0, 0, none⟩))), (1, (.slice zX p1.length zY)), (7, (.slice KR VQ.1.length Vd)), (79, (.bool ((!VQ.2) || ((VQ.1.length : Int) == 0))))]) (LE [(0, bx bp0 #[(iv p0.p.Unit), (.slice zG p0.p.Tools.length zH), (.slice zL p0.p.Steps.length zK), (.bool p0.unit), (.slice zn p0.open_.length zo), (.bool p0.step)] 59), (1, ow zG zH 47 zQ p0.p.Tools), (2, sk zn zo 85 80 80 zS Dhp0_2), (4, ow KR Vd 3 QT VQ.1)]) _
       refine Tr.mv rfl rfl (Tr.Jl 5 [(0, (.pointer (some ⟨bp0, 0, none⟩))), (1, (.slice zX p1.length zY)), (7, (.slice KR VQ.1.length Vd)), (85, (.bool (((!VQ.2) || ((VQ.1.length : Int) == 0)) || ((Int.tmod (VQ.1.length : Int) 4) != 0))))] [(0, bx bp0 #[(iv p0.p.Unit), (.slice zG p0.p.Tools.length zH), (.slice zL p0.p.Steps.length zK), (.bool p0.unit), (.slice zn p0.open_.length zo), (.bool p0.step)] 59), (1, ow zG zH 47 zQ p0.p.Tools), (2, sk zn zo 85 80 80 zS Dhp0_2), (4, ow KR Vd 3 QT VQ.1)] ?_ ?_)
       ·cases hg145 : ((!VQ.2) || ((VQ.1.length : Int) == 0))
        ·refine Tr.val (wg rfl rfl rfl) rfl (fun _ _ h1 h2 => run_move (h1.ev rfl)) ?_
         refine Tr.val (wg rfl rfl rfl) rfl (fun _ _ h1 h2 => QG zEH (h1.ev rfl)) ?_
         refine Tr.val (wg rfl rfl rfl) rfl (fun _ _ h1 h2 => zGv (h1.ev rfl) (h1.ev rfl) (by decide)) ?_
         refine Tr.val (wg rfl rfl rfl) rfl (fun _ _ h1 h2 => KV (h1.ev rfl) (h1.ev rfl)) ?_
         refine Tr.va rfl (fun _ _ h1 h2 => zV (h1.ev rfl) (h1.ev rfl)) ?_
         exact Tr.nil (Tr.QI (.cons rfl (.cons rfl (.cons rfl (.cons rfl .nil)))) (.cons rfl (.cons rfl (.cons rfl (.cons rfl .nil)))))
        ·refine Tr.pass rfl rfl rfl rfl rfl (by decide) ?_
         refine Tr.pass rfl rfl rfl rfl rfl (by decide) ?_
         refine Tr.pass rfl rfl rfl rfl rfl (by decide) ?_
         refine Tr.pass rfl rfl rfl rfl rfl (by decide) ?_
         refine Tr.va rfl (fun _ _ h1 h2 => zU (h1.ev rfl) (h1.ev rfl)) ?_
         exact Tr.nil (Tr.QI (.cons rfl (.cons rfl (.cons rfl (.cons rfl .nil)))) (.cons rfl (.cons rfl (.cons rfl (.cons rfl .nil)))))
       ·show Tr _ _ (LF [(0, (.pointer (some ⟨bp0, 0, none⟩))), (1, (.slice zX p1.length zY)), (7, (.slice KR VQ.1.length Vd)), (85, (.bool (((!VQ.2) || ((VQ.1.length : Int) == 0)) || ((Int.tmod (VQ.1.length : Int) 4) != 0))))]) (LE [(0, bx bp0 #[(iv p0.p.Unit), (.slice zG p0.p.Tools.length zH), (.slice zL p0.p.Steps.length zK), (.bool p0.unit), (.slice zn p0.open_.length zo), (.bool p0.step)] 59), (1, ow zG zH 47 zQ p0.p.Tools), (2, sk zn zo 85 80 80 zS Dhp0_2), (4, ow KR Vd 3 QT VQ.1)]) _
        refine Tr.nil (Tr.zA (Tr.cond rfl H (fun H => ?_) (fun H => ?_)))
        ·refine Tr.sr (Tr.asg rfl rfl (Tr.nil (Tr.zA (Tr.ret (Tr.zM ?_)))))
         obtain rfl := Option.some.inj H
         exact Tr.out (m := [(.bool false)]) [] (zJ rfl zR) (fun W hW => ⟨w, ((zG, zH), (zn, zo, Dhp0_2)), leB, rfl, ⟨zA1, ⟨Js.1, Js.2⟩⟩, hW.pick (ks := [0, 1, 2]) (by decide) (zO rfl (zO rfl (zO rfl QH)))⟩)
        ·refine Tr.skip (Tr.zA (Tr.sr (Tr.mv rfl rfl ?_)))
         obtain ⟨x113, hx113, H⟩ := bnd H
         obtain ⟨hx1130, hx1131, hx1132⟩ := zw hx113
         refine Tr.va rfl (fun _ _ h1 h2 => zN zAP (h1.ev rfl) Qv.form (h1.ev rfl) hx1130 hx1131) ?_
         refine Tr.va rfl (fun _ _ h1 h2 => zF zAR (h1.ev rfl) (rdF Wq Qv hx1132 h2) rfl) ?_
         refine Tr.build (vs := [(0, (sv x113))]) (cs := [(sv x113), (.slice none 0 0)]) (wn rfl) rfl (QE rfl Qj) (by kernel_rfl) ?_
         refine Tr.alloc 5 (wn rfl) rfl ze_47 fun b114 => ?_
         refine Tr.store 5 (cs := [(sv x113), (.slice none 0 0)]) [(sv x113), (.slice none 0 0)] (wn rfl) rfl rfl rfl rfl zDo rfl rfl rfl ?_
         refine Tr.nil (Tr.zA (Tr.seq (Tr.sr (Tr.asg rfl rfl (Tr.nil (Tr.zA (Tr.block (Tr.JZ 12 49 KW ?_))))))))
         refine Tr.loop (σ := (List VS) × Int × (Option Addr) × Nat) (fun m w s => Jv p0 VQ x113 m s.1 s.2.1 = some r ∧ SlF s.2.2.1 s.1.length s.2.2.2) (fun s => [(0, (.pointer (some ⟨bp0, 0, none⟩))), (7, (.slice KR VQ.1.length Vd)), (9, (.pointer (some ⟨b114, 0, none⟩))), (10, (iv s.2.1))]) (fun s => [(0, bx bp0 #[(iv p0.p.Unit), (.slice zG p0.p.Tools.length zH), (.slice zL p0.p.Steps.length zK), (.bool p0.unit), (.slice zn p0.open_.length zo), (.bool p0.step)] 59), (1, ow zG zH 47 zQ p0.p.Tools), (2, sk zn zo 85 80 80 zS Dhp0_2), (4, ow KR Vd 3 QT VQ.1), (5, bx b114 #[(sv x113), (.slice s.2.2.1 s.1.length s.2.2.2)] 47), (12, ow s.2.2.1 s.2.2.2 49 KW s.1)]) N (([] : List VS), 0, none, 0) ⟨H, Qr⟩ (.cons rfl (.cons rfl (.cons rfl (.cons rfl .nil)))) (.cons rfl (.cons rfl (.cons rfl (.cons rfl (.cons rfl (.cons rfl .nil)))))) (fun _ _ h => WM (h.1)) ?_
         intro w Qs mL1 s hs
         obtain ⟨zEA, zBv, zDD, zC9⟩ := s
         obtain ⟨H, hl133⟩ := hs
         replace H : Jv p0 VQ x113 (mL1 + 1) zEA zBv = some r := H
         replace leB := leB.trans Qs
         rw [Jv.eq_2] at H
         show Tr _ _ (LF [(0, (.pointer (some ⟨bp0, 0, none⟩))), (7, (.slice KR VQ.1.length Vd)), (9, (.pointer (some ⟨b114, 0, none⟩))), (10, (iv zBv))]) (LE [(0, bx bp0 #[(iv p0.p.Unit), (.slice zG p0.p.Tools.length zH), (.slice zL p0.p.Steps.length zK), (.bool p0.unit), (.slice zn p0.open_.length zo), (.bool p0.step)] 59), (1, ow zG zH 47 zQ p0.p.Tools), (2, sk zn zo 85 80 80 zS Dhp0_2), (4, ow KR Vd 3 QT VQ.1), (5, bx b114 #[(sv x113), (.slice zDD zEA.length zC9)] 47), (12, ow zDD zC9 49 KW zEA)]) _
         refine Tr.seq (Tr.sr (Tr.mv rfl rfl (Tr.mv rfl rfl (Tr.va rfl (fun _ _ h1 h2 => QG zEH (h1.ev rfl)) ?_))))
         refine Tr.va rfl (fun _ _ h1 h2 => QV (h1.ev rfl) (h1.ev rfl)) ?_
         refine Tr.nil (Tr.zA (Tr.cond rfl H (fun H => ?_) (fun H => ?_)))
         ·refine Tr.skip (Tr.zA (Tr.seq (Tr.block ?_)))
          obtain ⟨zDe, hx136, H⟩ := bnd H
          obtain ⟨hx1360, hx1361, hx1362⟩ := zw hx136
          obtain ⟨zD8, hx137, H⟩ := bnd H
          obtain ⟨hx1370, hx1371, hx1372⟩ := zw hx137
          obtain ⟨zAv, hx138, H⟩ := bnd H
          obtain ⟨hx1380, hx1381, hx1382⟩ := zw hx138
          obtain ⟨Vt, hx139, H⟩ := bnd H
          obtain ⟨zJ3, zJ2, zJ1⟩ := zw hx139
          refine Tr.drawF 23 [(22, .makeFunc (.func 0) #[] #[.tmp 117])] [(22, ⟨118, 13, (.func (.func 0) #[] #[(.agg #[(iv zDe), (iv zD8), (iv zAv), (iv Vt)])]), fun b => .slice (some ⟨b, 0, none⟩) 1 1, fun b => bx b #[(iv zDe), (iv zD8), (iv zAv), (iv Vt)] 49⟩)] [(0, (.pointer (some ⟨bp0, 0, none⟩))), (7, (.slice KR VQ.1.length Vd)), (9, (.pointer (some ⟨b114, 0, none⟩))), (10, (iv zBv)), (90, (iv zBv)), (91, (.slice KR VQ.1.length Vd)), (92, (iv (VQ.1.length : Int))), (93, (.bool (decide (zBv < (VQ.1.length : Int))))), (96, (.pointer (some ⟨b114, 1, none⟩))), (97, (.slice zDD zEA.length zC9)), (98, (.slice KR VQ.1.length Vd)), (99, (iv zBv)), (100, (.pointer (some ⟨adB KR, adO KR + (zBv).toNat * 1, none⟩))), (101, (iv zDe)), (102, (.slice KR VQ.1.length Vd)), (103, (iv zBv)), (104, (iv (w64 (zBv + 1)))), (105, (.pointer (some ⟨adB KR, adO KR + ((w64 (zBv + 1))).toNat * 1, none⟩))), (106, (iv zD8)), (107, (.slice KR VQ.1.length Vd)), (108, (iv zBv)), (109, (iv (w64 (zBv + 2)))), (110, (.pointer (some ⟨adB KR, adO KR + ((w64 (zBv + 2))).toNat * 1, none⟩))), (111, (iv zAv)), (112, (.slice KR VQ.1.length Vd)), (113, (iv zBv)), (114, (iv (w64 (zBv + 3)))), (115, (.pointer (some ⟨adB KR, adO KR + ((w64 (zBv + 3))).toNat * 1, none⟩))), (116, (iv Vt)), (117, (.agg #[(iv zDe), (iv zD8), (iv zAv), (iv Vt)])), (118, (.func (.func 0) #[] #[(.agg #[(iv zDe), (iv zD8), (iv zAv), (iv Vt)])]))] (by kernel_rfl) (by kernel_rfl) (by kernel_rfl) (by kernel_rfl) (by kernel_rfl) (by kernel_rfl) (by kernel_rfl) (Vr (fr_lit (vs := [(0, (.agg #[(iv zDe), (iv zD8), (iv zAv), (iv Vt)]))]) rfl rfl rfl (by kernel_rfl)) Wp) (Vr rfl Wp) (Vr rfl Wp) ?_ ?_
          ·refine Tq.va rfl (fun _ _ h1 h2 => zB zB9 (h1.ev rfl)) ?_
           refine Tq.va rfl (fun _ _ h1 h2 => zF zHZ (h1.ev rfl) (rdb h2 (vs := [(sv x113), (.slice zDD zEA.length zC9)]) (k := 5) rfl 1) rfl) ?_
           refine Tq.mv rfl rfl (Tq.mv rfl rfl (Tq.va rfl (fun _ _ h1 h2 => zN zAb (h1.ev rfl) zHD (h1.ev rfl) hx1360 hx1361) ?_))
           refine Tq.va rfl (fun _ _ h1 h2 => zF Qu (h1.ev rfl) (rdo Vy (k := 4) h2 rfl hx1362) rfl) ?_
           refine Tq.mv rfl rfl (Tq.mv rfl rfl (Tq.va rfl (fun _ _ h1 h2 => QS (h1.ev rfl) (h1.ev rfl)) ?_))
           refine Tq.va rfl (fun _ _ h1 h2 => zN zAb (h1.ev rfl) zHD (h1.ev rfl) hx1370 hx1371) ?_
           refine Tq.va rfl (fun _ _ h1 h2 => zF Qu (h1.ev rfl) (rdo Vy (k := 4) h2 rfl hx1372) rfl) ?_
           refine Tq.mv rfl rfl (Tq.mv rfl rfl (Tq.va rfl (fun _ _ h1 h2 => QS (h1.ev rfl) (h1.ev rfl)) ?_))
           refine Tq.va rfl (fun _ _ h1 h2 => zN zAb (h1.ev rfl) zHD (h1.ev rfl) hx1380 hx1381) ?_
           refine Tq.va rfl (fun _ _ h1 h2 => zF Qu (h1.ev rfl) (rdo Vy (k := 4) h2 rfl hx1382) rfl) ?_
           refine Tq.mv rfl rfl (Tq.mv rfl rfl (Tq.va rfl (fun _ _ h1 h2 => QS (h1.ev rfl) (h1.ev rfl)) ?_))
           refine Tq.va rfl (fun _ _ h1 h2 => zN zAb (h1.ev rfl) zHD (h1.ev rfl) zJ3 zJ2) ?_
           refine Tq.va rfl (fun _ _ h1 h2 => zF Qu (h1.ev rfl) (rdo Vy (k := 4) h2 rfl zJ1) rfl) ?_
           refine Tq.build (vs := [(0, (iv zDe)), (1, (iv zD8)), (2, (iv zAv)), (3, (iv Vt))]) (cs := [(iv zDe), (iv zD8), (iv zAv), (iv Vt)]) (wn rfl) rfl (QE rfl (QE rfl (QE rfl (QE rfl Qj)))) (by kernel_rfl) ?_
           refine Tq.zFg (vs := [(.agg #[(iv zDe), (iv zD8), (iv zAv), (iv Vt)])]) (wn rfl) rfl (zI rfl zT) ?_
           exact Tq.fin (.cons rfl (.cons rfl (.cons rfl (.cons rfl (.cons rfl (.cons rfl (.cons rfl (.cons rfl (.cons rfl (.cons rfl (.cons rfl (.cons rfl (.cons rfl (.cons rfl (.cons rfl (.cons rfl (.cons rfl (.cons rfl (.cons rfl (.cons rfl (.cons rfl (.cons rfl (.cons rfl (.cons rfl (.cons rfl (.cons rfl (.cons rfl (.cons rfl (.cons rfl (.cons rfl (.cons rfl .nil)))))))))))))))))))))))))))))))
          ·intro bs135
           refine Tr.sel (lf := [(0, (.pointer (some ⟨bp0, 0, none⟩))), (7, (.slice KR VQ.1.length Vd)), (9, (.pointer (some ⟨b114, 0, none⟩))), (10, (iv zBv)), (97, (.slice zDD zEA.length zC9)), (118, (.slice (some ⟨(bs135 22), 0, none⟩) 1 1))]) (le := [(0, bx bp0 #[(iv p0.p.Unit), (.slice zG p0.p.Tools.length zH), (.slice zL p0.p.Steps.length zK), (.bool p0.unit), (.slice zn p0.open_.length zo), (.bool p0.step)] 59), (1, ow zG zH 47 zQ p0.p.Tools), (2, sk zn zo 85 80 80 zS Dhp0_2), (4, ow KR Vd 3 QT VQ.1), (5, bx b114 #[(sv x113), (.slice zDD zEA.length zC9)] 47), (12, ow zDD zC9 49 KW zEA), (13, bx (bs135 22) #[(iv zDe), (iv zD8), (iv zAv), (iv Vt)] 49)]) (.cons rfl (.cons rfl (.cons rfl (.cons rfl (.cons rfl (.cons rfl .nil)))))) (.cons rfl (.cons rfl (.cons rfl (.cons rfl (.cons rfl (.cons rfl (.cons rfl .nil))))))) ?_
           obtain ⟨zBX, hl140, H⟩ := bnd H
           refine Tr.append 12 (t := KW) (l := zEA) (l2 := [(VS.mk zDe zD8 zAv Vt)]) (wn rfl) rfl rfl rfl rfl (fun W hW => ⟨[[(iv zDe), (iv zD8), (iv zAv), (iv Vt)]], (.cons ⟨(), trivial, rfl⟩ .nil), rdb hW (vs := [(iv zDe), (iv zD8), (iv zAv), (iv Vt)]) (k := 13) rfl 0⟩) zFI zGH zl_49 (by decide) by_49 rfl hl140 fun zAt zAo hAl140 => ?_
           refine Tr.va rfl (fun _ _ h1 h2 => zB zB9 (h1.ev rfl)) ?_
           refine Tr.store 5 (cs := [(.slice zAt zBX.length zAo)]) [(sv x113), (.slice zAt zBX.length zAo)] (wn rfl) rfl rfl rfl rfl sz_45 rfl rfl rfl ?_
           refine Tr.nil (Tr.zi (Tr.zA (Tr.region (Tr.mv rfl rfl (Tr.va rfl (fun _ _ h1 h2 => QS (h1.ev rfl) (h1.ev rfl)) ?_)))))
           exact Tr.asg rfl rfl (Tr.nil (Tr.zb Qs (zBX, (w64 (zBv + 4)), zAt, zAo) ⟨H, hAl140⟩ (.cons rfl (.cons rfl (.cons rfl (.cons rfl .nil)))) (.cons rfl (.cons rfl (.cons rfl (.cons rfl (.cons rfl (.cons rfl .nil))))))))
         ·refine Tr.exit (Tr.zx (Tr.zx (Tr.Qd (Tr.zA (Tr.seq (Tr.freeze 12 rfl fun w le142 hz141 => ?_))))))
          replace leB := leB.trans le142
          refine Tr.zGK 9 [(8, (ow zG zH 47 zQ p0.p.Tools).S)] [] (by kernel_rfl) (by kernel_rfl) fun sz143 hlosz143 hEsz143 => ?_
          refine Dr.JR 0 (by kernel_rfl) rfl (wn rfl) rfl (by kernel_rfl) (fun _ _ h1 => run_move (h1.ev rfl)) rfl ?_
          refine Dr.JR 1 (by kernel_rfl) rfl (wn rfl) rfl (by kernel_rfl) (fun _ _ h1 => run_move (h1.ev rfl)) rfl ?_
          refine Dr.JR 2 (by kernel_rfl) rfl (wn rfl) rfl (by kernel_rfl) (fun _ _ h1 => zg (h1.ev rfl)) rfl ?_
          refine Dr.JR 3 (by kernel_rfl) rfl (wn rfl) rfl (by kernel_rfl) (fun _ _ h1 => zB zE2 (h1.ev rfl)) rfl ?_
          refine Dr.JR 4 (by kernel_rfl) rfl (wn rfl) rfl (by kernel_rfl) (fun _ _ h1 => zB Vl (h1.ev rfl)) rfl ?_
          refine Dr.quiet 5 [(126, (.slice zG p0.p.Tools.length zH))] (by kernel_rfl) rfl rfl (by kernel_rfl) ?_ rfl rfl ?_
          ·refine Tq.va rfl (fun _ _ h1 h2 => zF zBp (h1.ev rfl) (rdb h2 (vs := [(iv p0.p.Unit), (.slice zG p0.p.Tools.length zH), (.slice zL p0.p.Steps.length zK), (.bool p0.unit), (.slice zn p0.open_.length zo), (.bool p0.step)]) (k := 0) rfl 1) rfl) ?_
           exact Tq.fin (.cons rfl .nil)
          refine Dr.zAN 6 [(127, (.agg #[(sv x113), (.slice zDD zEA.length zC9)]))] [8] false (by kernel_rfl) rfl rfl (by kernel_rfl) (fun W W' h2 hsW hk => HF.zB3 (le := [(5, bx b114 #[(sv x113), (.slice zDD zEA.length zC9)] 47)]) (ks := [(1, (ow zG zH 47 zQ p0.p.Tools).S)]) (s0 := sz143) false h2 hk (fun h => absurd h (by decide)) (.cons rfl .nil) (fun b hb => hb.elim (fun ⟨p, hp, hf, hb⟩ => by simp only [List.mem_cons, List.not_mem_nil, or_false] at hp; rcases hp with rfl; exact .inl ⟨_, List.mem_cons_self, hb⟩) (fun hb => absurd hb.1 (by decide))) (List.forall_mem_cons.2 ⟨fun b hb => hb, (fun _ h => nomatch h)⟩) rfl) ?_ rfl rfl ?_
          ·refine Tq.va rfl (fun _ _ h1 h2 => zu (cs := [(sv x113), (.slice zDD zEA.length zC9)]) ag_47 zDo (h1.ev rfl) (za.take (rdb h2 (vs := [(sv x113), (.slice zDD zEA.length zC9)]) (k := 5) rfl 0) 2) rfl) ?_
           exact Tq.fin (.cons rfl .nil)
          refine Dr.one 7 (by kernel_rfl) ?_
          refine St.buildSlice 7 14 (e := 47) (vs := [(0, (.agg #[(sv x113), (.slice zDD zEA.length zC9)]))]) (cs := [(sv x113), (.slice zDD zEA.length zC9)]) rfl (wn rfl) rfl (QE rfl Qj) (by kernel_rfl) fun b144 hb144 => ?_
          obtain ⟨l145, hl145, H⟩ := bnd H
          refine Dr.one 8 (by kernel_rfl) ?_
          refine St.append 8 1 (t' := zQ) (ll := p0.p.Tools) (l2 := [(zt.mk x113 zEA)]) (fun b hb => .inl ⟨_, List.mem_cons_self, rfl, hb⟩) rfl (wn rfl) rfl rfl rfl rfl (fun W hW => ⟨[[(sv x113), (.slice zDD zEA.length zC9)]], (.cons ⟨(zDD, zC9), hz141, rfl⟩ .nil), rdb hW (vs := [(sv x113), (.slice zDD zEA.length zC9)]) (k := 14) rfl 0⟩) zFJ zDo zl_47 (by decide) by_47 rfl hl145 fun Al145 cl145 hAl145 => ?_
          refine Dr.tail (by kernel_rfl) ?_
          refine Tr.va rfl (fun _ _ h1 h2 => zg (h1.ev rfl)) ?_
          refine Tr.va rfl (fun _ _ h1 h2 => zB zE2 (h1.ev rfl)) ?_
          refine Tr.va rfl (fun _ _ h1 h2 => zB Vl (h1.ev rfl)) ?_
          refine Tr.store 0 (cs := [(.slice Al145 l145.length cl145)]) [(iv p0.p.Unit), (.slice Al145 l145.length cl145), (.slice zL p0.p.Steps.length zK), (.bool p0.unit), (.slice zn p0.open_.length zo), (.bool p0.step)] (wn rfl) rfl rfl rfl rfl sz_22 rfl rfl rfl ?_
          refine Tr.nil (Tr.zA (Tr.sr (Tr.asg rfl rfl (Tr.nil (Tr.zA (Tr.ret ?_))))))
          obtain rfl := Option.some.inj H
          exact Tr.out (m := [(.bool true)]) [] (zJ rfl zR) (fun W hW => ⟨w, ((Al145, cl145), (zn, zo, Dhp0_2)), leB, rfl, ⟨hAl145, ⟨Js.1, Js.2⟩⟩, hW.pick (ks := [0, 1, 2]) (by decide) (zO rfl (zO rfl (zO rfl QH)))⟩)

theorem Vo {w : Bs} (p0 : QZ) (zG : Option Addr) (zH : Nat) (ze : Sl w.R w.W zQ zG zH p0.p.Tools) (zL : Option Addr) (zK : Nat) (zn : Option Addr) (zo : Nat) (Dhp0_2 : List (PE zC)) (Js : SK Dhp0_2 p0.open_ ∧ SlF zn p0.open_.length zo) (bp0 : Nat) (p1 : zD) (zX : Option Addr) (zY : Nat) (Qv : Sl w.O w.W QM zX zY p1.Points) (QL : Option Addr) (QJ : Nat) (zHB : Sl w.O w.W zC QL QJ p1.Steps) (r : ((List zD) × (List zD))) (H : Jw p0 p1 = some r) (hE : HF w w.W (LEn [bx bp0 #[(iv p0.p.Unit), (.slice zG p0.p.Tools.length zH), (.slice zL p0.p.Steps.length zK), (.bool p0.unit), (.slice zn p0.open_.length zo), (.bool p0.step)] 59, ow zL zK 80 zC p0.p.Steps, sk zn zo 85 80 80 zS Dhp0_2])) : Calls Tryz.prog 34 [(.pointer (some ⟨bp0, 0, none⟩)), (.agg #[(iv p1.Kind), (sv p1.Name), (iv p1.At.X), (iv p1.At.Y), (.slice zX p1.Points.length zY), (iv p1.NX), (iv p1.NY), (.slice QL p1.Steps.length QJ)])].toArray w.W fun e W' => ∃ (w' : Bs) (u : (Option Addr × Nat) × (Option Addr × Nat × List (PE zC))), w.Le w' ∧ e = .returned (.tuple #[]) ∧ (SlF u.1.1 r.1.length u.1.2 ∧ (SK u.2.2.2 r.2 ∧ SlF u.2.1 r.2.length u.2.2.1)) ∧ HF w' W' (LEn [bx bp0 #[(iv p0.p.Unit), (.slice zG p0.p.Tools.length zH), (.slice u.1.1 r.1.length u.1.2), (.bool p0.unit), (.slice u.2.1 r.2.length u.2.2.1), (.bool p0.step)] 59, ow u.1.1 u.1.2 80 zC r.1, sk u.2.1 u.2.2.1 85 80 80 zS u.2.2.2]) := by
 unfold Jw at H
 have zA0 := (hE.sl (k := 1) rfl).form
 have leB := Bs.Le.refl w
 refine Tr.enter (n := 67) Tryz.func34 rfl rfl rfl hE ?_
 refine Tr.sr (Tr.box 3 (cs := [(iv p1.Kind), (sv p1.Name), (iv p1.At.X), (iv p1.At.Y), (.slice zX p1.Points.length zY), (iv p1.NX), (iv p1.NY), (.slice QL p1.Steps.length QJ)]) (wn rfl) rfl rfl rfl fun QB => ?_)
 refine Tr.nil (Tr.zA (Tr.sr (Tr.mv rfl rfl (Tr.va rfl (fun _ _ h1 h2 => zg (h1.ev rfl)) ?_))))
 refine Tr.va rfl (fun _ _ h1 h2 => zB zB8 (h1.ev rfl)) ?_
 refine Tr.va rfl (fun _ _ h1 h2 => zF zHY (h1.ev rfl) (rdb h2 (vs := [(iv p0.p.Unit), (.slice zG p0.p.Tools.length zH), (.slice zL p0.p.Steps.length zK), (.bool p0.unit), (.slice zn p0.open_.length zo), (.bool p0.step)]) (k := 0) rfl 4) rfl) ?_
 refine Tr.va rfl (fun _ _ h1 h2 => QG un_57 (h1.ev rfl)) ?_
 refine Tr.va rfl (fun _ _ h1 h2 => zIr (h1.ev rfl) (h1.ev rfl)) ?_
 refine Tr.asg rfl rfl (Tr.nil (Tr.zA (Tr.sr (Tr.mv rfl rfl (Tr.va rfl (fun _ _ h1 h2 => zAz (h1.ev rfl) (h1.ev rfl)) ?_)))))
 refine Tr.nil (Tr.zA (Tr.cond rfl H (fun H => ?_) (fun H => ?_)))
 ·refine Tr.seq (Tr.zGK 3 [] [1, 2] (by kernel_rfl) (by kernel_rfl) fun sz101 hlosz101 hEsz101 => ?_)
  refine Dr.one 0 (by kernel_rfl) ?_
  refine St.alloc 0 4 rfl (wn rfl) rfl ze_4 fun WR hb102 => ?_
  refine Dr.pair 1 2 (by kernel_rfl) ?_ ?_
  ·refine St.store 1 4 (cs := [(.bool true)]) [(.bool true)] rfl (wn rfl) (.inr ⟨by simp, hb102⟩) rfl rfl rfl rfl sz_4 rfl rfl rfl ?_
   refine Dr.one 2 (by kernel_rfl) ?_
   refine St.store 2 4 (cs := [(.bool false)]) [(.bool false)] rfl (wn rfl) (.inr ⟨by simp, hb102⟩) rfl rfl rfl rfl sz_4 rfl rfl rfl ?_
   refine Dr.tail (by kernel_rfl) ?_
   refine Tr.va rfl (fun _ _ h1 h2 => zF zFt (h1.ev rfl) (rdb h2 (vs := [(.bool false)]) (k := 4) rfl 0) rfl) ?_
   refine Tr.nil (Tr.zA (Tr.zDV rfl rfl ?_))
   obtain ⟨x103, hx103, H⟩ := bnd H
   obtain ⟨hx1030, hx1031, hx1032⟩ := zw hx103
   refine Tr.skTake 2 5 6 7 8 (i := ((w64 ((p0.open_.length : Int) - 1))).toNat) rfl rfl rfl rfl rfl rfl rfl rfl rfl rfl hx1032 rfl Js.1 fun bku104 u104 hoku104 hfu104 hdu104 => ?_
   obtain ⟨⟨zBP, zBL⟩, ⟨zA5, zA3⟩⟩ := u104
   have zEO : Sl w.O w.W QM zBP zBL x103.Points := hoku104
   replace hfu104 : SlF zA5 x103.Steps.length zA3 := hfu104
   replace hdu104 : ST Dhp0_2 p0.open_ ((w64 ((p0.open_.length : Int) - 1))).toNat bku104 ((zBP, zBL), (zA5, zA3)) x103 := hdu104
   show Tr _ _ _ (up (up (up (up (up _ 2 (ow zn zo 85 (flP zC) Dhp0_2)) 5 (bxs 80 zS (List.set Dhp0_2 ((w64 ((p0.open_.length : Int) - 1))).toNat ⟨bku104, ((zBP, zBL), (zA5, zA3)), x103, false⟩))) 6 (ins 80 zC ((List.set Dhp0_2 ((w64 ((p0.open_.length : Int) - 1))).toNat ⟨bku104, ((zBP, zBL), (zA5, zA3)), x103, false⟩).map (pne zS)))) 7 (bx bku104 #[(iv x103.Kind), (sv x103.Name), (iv x103.At.X), (iv x103.At.Y), (.slice zBP x103.Points.length zBL), (iv x103.NX), (iv x103.NY), (.slice zA5 x103.Steps.length zA3)] 80)) 8 (ow zA5 zA3 80 zC x103.Steps)) _
   refine Tr.zGK 20 [(19, (ow zA5 zA3 80 zC x103.Steps).S)] [] (by kernel_rfl) (by kernel_rfl) fun sz105 hlosz105 hEsz105 => ?_
   refine Dr.JR 0 (by kernel_rfl) rfl (wn rfl) rfl (by kernel_rfl) (fun _ _ h1 => run_move (h1.ev rfl)) rfl ?_
   refine Dr.JR 1 (by kernel_rfl) rfl (wn rfl) rfl (by kernel_rfl) (fun _ _ h1 => zg (h1.ev rfl)) rfl ?_
   refine Dr.JR 2 (by kernel_rfl) rfl (wn rfl) rfl (by kernel_rfl) (fun _ _ h1 => zB zB8 (h1.ev rfl)) rfl ?_
   refine Dr.zAN 3 [(35, (.slice zn p0.open_.length zo))] [19] false (by kernel_rfl) rfl rfl (by kernel_rfl) (fun W W' h2 hsW hk => HF.zB3 (le := [(0, bx bp0 #[(iv p0.p.Unit), (.slice zG p0.p.Tools.length zH), (.slice zL p0.p.Steps.length zK), (.bool p0.unit), (.slice zn p0.open_.length zo), (.bool p0.step)] 59)]) (ks := [(8, (ow zA5 zA3 80 zC x103.Steps).S)]) (s0 := sz105) false h2 hk (fun h => absurd h (by decide)) (.cons rfl .nil) (fun b hb => hb.elim (fun ⟨p, hp, hf, hb⟩ => by simp only [List.mem_cons, List.not_mem_nil, or_false] at hp; rcases hp with rfl; exact .inl ⟨_, List.mem_cons_self, hb⟩) (fun hb => absurd hb.1 (by decide))) (List.forall_mem_cons.2 ⟨fun b hb => hb, (fun _ h => nomatch h)⟩) rfl) ?_ rfl rfl ?_
   ·refine Tq.va rfl (fun _ _ h1 h2 => zF zHY (h1.ev rfl) (rdb h2 (vs := [(iv p0.p.Unit), (.slice zG p0.p.Tools.length zH), (.slice zL p0.p.Steps.length zK), (.bool p0.unit), (.slice zn p0.open_.length zo), (.bool p0.step)]) (k := 0) rfl 4) rfl) ?_
    exact Tq.fin (.cons rfl .nil)
   refine Dr.JR 4 (by kernel_rfl) rfl (wn rfl) rfl (by kernel_rfl) (fun _ _ h1 => run_move (h1.ev rfl)) rfl ?_
   refine Dr.JR 5 (by kernel_rfl) rfl (wn rfl) rfl (by kernel_rfl) (fun _ _ h1 => zN el_57 (h1.ev rfl) Js.2 (h1.ev rfl) hx1030 hx1031) rfl ?_
   refine Dr.zAN 6 [(38, (.pointer (some ⟨bku104, 0, none⟩)))] [19] false (by kernel_rfl) rfl rfl (by kernel_rfl) (fun W W' h2 hsW hk => HF.zB3 (le := [(2, ow zn zo 85 (flP zC) Dhp0_2)]) (ks := [(8, (ow zA5 zA3 80 zC x103.Steps).S)]) (s0 := sz105) false h2 hk (fun h => absurd h (by decide)) (.cons rfl .nil) (fun b hb => hb.elim (fun ⟨p, hp, hf, hb⟩ => by simp only [List.mem_cons, List.not_mem_nil, or_false] at hp; rcases hp with rfl; exact .inl ⟨_, List.mem_cons_self, hb⟩) (fun hb => absurd hb.1 (by decide))) (List.forall_mem_cons.2 ⟨fun b hb => hb, (fun _ h => nomatch h)⟩) rfl) ?_ rfl rfl ?_
   ·refine Tq.va rfl (fun _ _ h1 h2 => zF ag_85 (h1.ev rfl) (rdo ef_P (k := 2) h2 rfl hdu104.2) rfl) ?_
    exact Tq.fin (.cons rfl .nil)
   refine Dr.JR 7 (by kernel_rfl) rfl (wn rfl) rfl (by kernel_rfl) (fun _ _ h1 => run_move (h1.ev rfl)) rfl ?_
   refine Dr.JR 8 (by kernel_rfl) rfl (wn rfl) rfl (by kernel_rfl) (fun _ _ h1 => zg (h1.ev rfl)) rfl ?_
   refine Dr.JR 9 (by kernel_rfl) rfl (wn rfl) rfl (by kernel_rfl) (fun _ _ h1 => zB zB8 (h1.ev rfl)) rfl ?_
   refine Dr.zAN 10 [(42, (.slice zn p0.open_.length zo))] [19] false (by kernel_rfl) rfl rfl (by kernel_rfl) (fun W W' h2 hsW hk => HF.zB3 (le := [(0, bx bp0 #[(iv p0.p.Unit), (.slice zG p0.p.Tools.length zH), (.slice zL p0.p.Steps.length zK), (.bool p0.unit), (.slice zn p0.open_.length zo), (.bool p0.step)] 59)]) (ks := [(8, (ow zA5 zA3 80 zC x103.Steps).S)]) (s0 := sz105) false h2 hk (fun h => absurd h (by decide)) (.cons rfl .nil) (fun b hb => hb.elim (fun ⟨p, hp, hf, hb⟩ => by simp only [List.mem_cons, List.not_mem_nil, or_false] at hp; rcases hp with rfl; exact .inl ⟨_, List.mem_cons_self, hb⟩) (fun hb => absurd hb.1 (by decide))) (List.forall_mem_cons.2 ⟨fun b hb => hb, (fun _ h => nomatch h)⟩) rfl) ?_ rfl rfl ?_
   ·refine Tq.va rfl (fun _ _ h1 h2 => zF zHY (h1.ev rfl) (rdb h2 (vs := [(iv p0.p.Unit), (.slice zG p0.p.Tools.length zH), (.slice zL p0.p.Steps.length zK), (.bool p0.unit), (.slice zn p0.open_.length zo), (.bool p0.step)]) (k := 0) rfl 4) rfl) ?_
    exact Tq.fin (.cons rfl .nil)
   refine Dr.JR 11 (by kernel_rfl) rfl (wn rfl) rfl (by kernel_rfl) (fun _ _ h1 => run_move (h1.ev rfl)) rfl ?_
   refine Dr.JR 12 (by kernel_rfl) rfl (wn rfl) rfl (by kernel_rfl) (fun _ _ h1 => zN el_57 (h1.ev rfl) Js.2 (h1.ev rfl) hx1030 hx1031) rfl ?_
   refine Dr.zAN 13 [(45, (.pointer (some ⟨bku104, 0, none⟩)))] [19] false (by kernel_rfl) rfl rfl (by kernel_rfl) (fun W W' h2 hsW hk => HF.zB3 (le := [(2, ow zn zo 85 (flP zC) Dhp0_2)]) (ks := [(8, (ow zA5 zA3 80 zC x103.Steps).S)]) (s0 := sz105) false h2 hk (fun h => absurd h (by decide)) (.cons rfl .nil) (fun b hb => hb.elim (fun ⟨p, hp, hf, hb⟩ => by simp only [List.mem_cons, List.not_mem_nil, or_false] at hp; rcases hp with rfl; exact .inl ⟨_, List.mem_cons_self, hb⟩) (fun hb => absurd hb.1 (by decide))) (List.forall_mem_cons.2 ⟨fun b hb => hb, (fun _ h => nomatch h)⟩) rfl) ?_ rfl rfl ?_
   ·refine Tq.va rfl (fun _ _ h1 h2 => zF ag_85 (h1.ev rfl) (rdo ef_P (k := 2) h2 rfl hdu104.2) rfl) ?_
    exact Tq.fin (.cons rfl .nil)
   refine Dr.JR 14 (by kernel_rfl) rfl (wn rfl) rfl (by kernel_rfl) (fun _ _ h1 => zg (h1.ev rfl)) rfl ?_
   refine Dr.JR 15 (by kernel_rfl) rfl (wn rfl) rfl (by kernel_rfl) (fun _ _ h1 => zB zAB (h1.ev rfl)) rfl ?_
   refine Dr.quiet 16 [(48, (.slice zA5 x103.Steps.length zA3))] (by kernel_rfl) rfl rfl (by kernel_rfl) ?_ rfl rfl ?_
   ·refine Tq.va rfl (fun _ _ h1 h2 => zF zBR (h1.ev rfl) (rdb h2 (vs := [(iv x103.Kind), (sv x103.Name), (iv x103.At.X), (iv x103.At.Y), (.slice zBP x103.Points.length zBL), (iv x103.NX), (iv x103.NY), (.slice zA5 x103.Steps.length zA3)]) (k := 7) rfl 7) rfl) ?_
    exact Tq.fin (.cons rfl .nil)
   refine Dr.zAN 17 [(49, (.agg #[(iv p1.Kind), (sv p1.Name), (iv p1.At.X), (iv p1.At.Y), (.slice zX p1.Points.length zY), (iv p1.NX), (iv p1.NY), (.slice QL p1.Steps.length QJ)]))] [19] false (by kernel_rfl) rfl rfl (by kernel_rfl) (fun W W' h2 hsW hk => HF.zB3 (le := [(3, bx QB #[(iv p1.Kind), (sv p1.Name), (iv p1.At.X), (iv p1.At.Y), (.slice zX p1.Points.length zY), (iv p1.NX), (iv p1.NY), (.slice QL p1.Steps.length QJ)] 80)]) (ks := [(8, (ow zA5 zA3 80 zC x103.Steps).S)]) (s0 := sz105) false h2 hk (fun h => absurd h (by decide)) (.cons rfl .nil) (fun b hb => hb.elim (fun ⟨p, hp, hf, hb⟩ => by simp only [List.mem_cons, List.not_mem_nil, or_false] at hp; rcases hp with rfl; exact .inl ⟨_, List.mem_cons_self, hb⟩) (fun hb => absurd hb.1 (by decide))) (List.forall_mem_cons.2 ⟨fun b hb => hb, (fun _ h => nomatch h)⟩) rfl) ?_ rfl rfl ?_
   ·refine Tq.va rfl (fun _ _ h1 h2 => zu (cs := [(iv p1.Kind), (sv p1.Name), (iv p1.At.X), (iv p1.At.Y), (.slice zX p1.Points.length zY), (iv p1.NX), (iv p1.NY), (.slice QL p1.Steps.length QJ)]) zDA Wo (h1.ev rfl) (za.take (rdb h2 (vs := [(iv p1.Kind), (sv p1.Name), (iv p1.At.X), (iv p1.At.Y), (.slice zX p1.Points.length zY), (iv p1.NX), (iv p1.NY), (.slice QL p1.Steps.length QJ)]) (k := 3) rfl 0) 8) rfl) ?_
    exact Tq.fin (.cons rfl .nil)
   refine Dr.one 18 (by kernel_rfl) ?_
   refine St.buildSlice 18 9 (e := 80) (vs := [(0, (.agg #[(iv p1.Kind), (sv p1.Name), (iv p1.At.X), (iv p1.At.Y), (.slice zX p1.Points.length zY), (iv p1.NX), (iv p1.NY), (.slice QL p1.Steps.length QJ)]))]) (cs := [(iv p1.Kind), (sv p1.Name), (iv p1.At.X), (iv p1.At.Y), (.slice zX p1.Points.length zY), (iv p1.NX), (iv p1.NY), (.slice QL p1.Steps.length QJ)]) rfl (wn rfl) rfl (QE rfl Qj) (by kernel_rfl) fun b106 hb106 => ?_
   obtain ⟨zDh, zIX, H⟩ := bnd H
   refine Dr.one 19 (by kernel_rfl) ?_
   refine St.append 19 8 (t' := zC) (ll := x103.Steps) (l2 := [p1]) (fun b hb => .inl ⟨_, List.mem_cons_self, rfl, hb⟩) rfl (wn rfl) rfl rfl rfl rfl (fun W hW => ⟨[[(iv p1.Kind), (sv p1.Name), (iv p1.At.X), (iv p1.At.Y), (.slice zX p1.Points.length zY), (iv p1.NX), (iv p1.NY), (.slice QL p1.Steps.length QJ)]], (.cons ⟨((zX, zY), (QL, QJ)), (Jc.2 ⟨Qv, zHB⟩), rfl⟩ .nil), rdb hW (vs := [(iv p1.Kind), (sv p1.Name), (iv p1.At.X), (iv p1.At.Y), (.slice zX p1.Points.length zY), (iv p1.NX), (iv p1.NY), (.slice QL p1.Steps.length QJ)]) (k := 9) rfl 0⟩) zBx Wo zl_80 (by decide) by_80 rfl zIX fun Al107 cl107 hAl107 => ?_
   refine Dr.tail (by kernel_rfl) ?_
   refine Tr.va rfl (fun _ _ h1 h2 => zg (h1.ev rfl)) ?_
   refine Tr.va rfl (fun _ _ h1 h2 => zB zAB (h1.ev rfl)) ?_
   refine Tr.store 7 (cs := [(.slice Al107 zDh.length cl107)]) [(iv x103.Kind), (sv x103.Name), (iv x103.At.X), (iv x103.At.Y), (.slice zBP x103.Points.length zBL), (iv x103.NX), (iv x103.NY), (.slice Al107 zDh.length cl107)] (wn rfl) rfl rfl rfl rfl sz_23 rfl rfl rfl ?_
   refine Tr.nil (Tr.zJn ?_)
   obtain rfl := Option.some.inj H
   refine Tr.skPut (L := zS) 2 5 6 7 8 (u := ((zBP, zBL), (Al107, cl107))) (x' := (zD.mk x103.Kind x103.Name x103.At x103.Points x103.NX x103.NY zDh)) (cs := [(iv x103.Kind), (sv x103.Name), (iv x103.At.X), (iv x103.At.Y), (.slice zBP x103.Points.length zBL), (iv x103.NX), (iv x103.NY), (.slice Al107 zDh.length cl107)]) rfl rfl rfl rfl rfl rfl rfl rfl rfl rfl rfl rfl rfl rfl rfl hdu104 zEO rfl rfl rfl hAl107 fun ms108 hmms108 => ?_
   have hnms108 : (List.set p0.open_ ((w64 ((p0.open_.length : Int) - 1))).toNat (zD.mk x103.Kind x103.Name x103.At x103.Points x103.NX x103.NY zDh)).length = p0.open_.length := List.length_set
   have hfms108 : SlF zn (List.set p0.open_ ((w64 ((p0.open_.length : Int) - 1))).toNat (zD.mk x103.Kind x103.Name x103.At x103.Points x103.NX x103.NY zDh)).length zo := by rw [hnms108]; exact Js.2
   refine Tr.sel (lf := [(0, (.pointer (some ⟨bp0, 0, none⟩))), (1, (.agg #[(iv p1.Kind), (sv p1.Name), (iv p1.At.X), (iv p1.At.Y), (.slice zX p1.Points.length zY), (iv p1.NX), (iv p1.NY), (.slice QL p1.Steps.length QJ)])), (3, (.pointer (some ⟨QB, 0, none⟩))), (4, (iv (w64 ((p0.open_.length : Int) - 1)))), (5, (.pointer (some ⟨bp0, 0, none⟩))), (6, (.pointer (some ⟨bp0, 0, none⟩))), (7, (.pointer (some ⟨bp0, 4, none⟩))), (8, (.slice zn ((List.set p0.open_ ((w64 ((p0.open_.length : Int) - 1))).toNat (zD.mk x103.Kind x103.Name x103.At x103.Points x103.NX x103.NY zDh))).length zo)), (9, (iv (p0.open_.length : Int))), (10, (iv (w64 ((p0.open_.length : Int) - 1)))), (11, (iv (w64 ((p0.open_.length : Int) - 1)))), (12, (.bool (decide (0 ≤ (w64 ((p0.open_.length : Int) - 1)))))), (13, (.pointer (some ⟨WR, 0, none⟩))), (14, (.bool false)), (32, (.pointer (some ⟨bp0, 0, none⟩))), (33, (.pointer (some ⟨bp0, 0, none⟩))), (34, (.pointer (some ⟨bp0, 4, none⟩))), (35, (.slice zn ((List.set p0.open_ ((w64 ((p0.open_.length : Int) - 1))).toNat (zD.mk x103.Kind x103.Name x103.At x103.Points x103.NX x103.NY zDh))).length zo)), (36, (iv (w64 ((p0.open_.length : Int) - 1)))), (39, (.pointer (some ⟨bp0, 0, none⟩))), (40, (.pointer (some ⟨bp0, 0, none⟩))), (41, (.pointer (some ⟨bp0, 4, none⟩))), (42, (.slice zn ((List.set p0.open_ ((w64 ((p0.open_.length : Int) - 1))).toNat (zD.mk x103.Kind x103.Name x103.At x103.Points x103.NX x103.NY zDh))).length zo)), (43, (iv (w64 ((p0.open_.length : Int) - 1)))), (49, (.agg #[(iv p1.Kind), (sv p1.Name), (iv p1.At.X), (iv p1.At.Y), (.slice zX p1.Points.length zY), (iv p1.NX), (iv p1.NY), (.slice QL p1.Steps.length QJ)]))]) (le := [(0, bx bp0 #[(iv p0.p.Unit), (.slice zG p0.p.Tools.length zH), (.slice zL p0.p.Steps.length zK), (.bool p0.unit), (.slice zn ((List.set p0.open_ ((w64 ((p0.open_.length : Int) - 1))).toNat (zD.mk x103.Kind x103.Name x103.At x103.Points x103.NX x103.NY zDh))).length zo), (.bool p0.step)] 59), (1, ow zL zK 80 zC p0.p.Steps), (2, sk zn zo 85 80 80 zS ms108), (3, bx QB #[(iv p1.Kind), (sv p1.Name), (iv p1.At.X), (iv p1.At.Y), (.slice zX p1.Points.length zY), (iv p1.NX), (iv p1.NY), (.slice QL p1.Steps.length QJ)] 80), (4, bx WR #[(.bool false)] 4)]) (.cons rfl (.cons rfl (.cons rfl (.cons rfl (.cons rfl (.cons rfl (.cons rfl (.cons (zJe rfl (by rw [hnms108])) (.cons rfl (.cons rfl (.cons rfl (.cons rfl (.cons rfl (.cons rfl (.cons rfl (.cons rfl (.cons rfl (.cons (zJe rfl (by rw [hnms108])) (.cons rfl (.cons rfl (.cons rfl (.cons rfl (.cons (zJe rfl (by rw [hnms108])) (.cons rfl (.cons rfl .nil))))))))))))))))))))))))) (.cons (ebx rfl (by rw [hnms108])) (.cons rfl (.cons rfl (.cons rfl (.cons rfl .nil))))) ?_
   exact Tr.out (m := []) [] zR (fun W hW => ⟨w, ((zL, zK), (zn, zo, ms108)), leB, rfl, ⟨zA0, ⟨hmms108, hfms108⟩⟩, hW.pick (ks := [0, 1, 2]) (by decide) (zO rfl (zO rfl (zO rfl QH)))⟩)
  ·replace H : ((idx p0.open_ (w64 ((p0.open_.length : Int) - 1))).bind fun JF => (apd JF.Steps ([(zD.mk 0 (⟨#[]⟩) (zf.mk 0 0) [] 0 0 [])])).bind fun l112 => (idx l112 (JF.Steps.length : Int)).bind fun x113 => (sets l112 (JF.Steps.length : Int) p1).bind fun Kl => some (p0.p.Steps, (List.set p0.open_ ((w64 ((p0.open_.length : Int) - 1))).toNat (zD.mk JF.Kind JF.Name JF.At JF.Points JF.NX JF.NY Kl)))) = some r := by simpa only [apd_sets] using H
   refine St.store 2 4 (cs := [(.bool false)]) [(.bool false)] rfl (wn rfl) (.inr ⟨by simp, hb102⟩) rfl rfl rfl rfl sz_4 rfl rfl rfl ?_
   refine Dr.one 1 (by kernel_rfl) ?_
   refine St.store 1 4 (cs := [(.bool true)]) [(.bool true)] rfl (wn rfl) (.inr ⟨by simp, hb102⟩) rfl rfl rfl rfl sz_4 rfl rfl rfl ?_
   refine Dr.tail (by kernel_rfl) ?_
   refine Tr.va rfl (fun _ _ h1 h2 => zF zFt (h1.ev rfl) (rdb h2 (vs := [(.bool true)]) (k := 4) rfl 0) rfl) ?_
   refine Tr.nil (Tr.zA (Tr.zC7 rfl rfl ?_))
   refine Tr.seq ?_
   obtain ⟨JF, zJ4, H⟩ := bnd H
   obtain ⟨zGf, zGe, zGd⟩ := zw zJ4
   refine Tr.skTake 2 10 11 12 13 (i := ((w64 ((p0.open_.length : Int) - 1))).toNat) rfl rfl rfl rfl rfl rfl rfl rfl rfl rfl zGd rfl Js.1 fun bku110 u110 hoku110 hfu110 hdu110 => ?_
   obtain ⟨⟨zAJ, zAI⟩, ⟨zAm, zAh⟩⟩ := u110
   have hoku110_0 : Sl w.O w.W QM zAJ zAI JF.Points := hoku110
   replace hfu110 : SlF zAm JF.Steps.length zAh := hfu110
   replace hdu110 : ST Dhp0_2 p0.open_ ((w64 ((p0.open_.length : Int) - 1))).toNat bku110 ((zAJ, zAI), (zAm, zAh)) JF := hdu110
   show Tr _ _ _ (up (up (up (up (up _ 2 (ow zn zo 85 (flP zC) Dhp0_2)) 10 (bxs 80 zS (List.set Dhp0_2 ((w64 ((p0.open_.length : Int) - 1))).toNat ⟨bku110, ((zAJ, zAI), (zAm, zAh)), JF, false⟩))) 11 (ins 80 zC ((List.set Dhp0_2 ((w64 ((p0.open_.length : Int) - 1))).toNat ⟨bku110, ((zAJ, zAI), (zAm, zAh)), JF, false⟩).map (pne zS)))) 12 (bx bku110 #[(iv JF.Kind), (sv JF.Name), (iv JF.At.X), (iv JF.At.Y), (.slice zAJ JF.Points.length zAI), (iv JF.NX), (iv JF.NY), (.slice zAm JF.Steps.length zAh)] 80)) 13 (ow zAm zAh 80 zC JF.Steps)) _
   refine Tr.drawF 13 [(12, .makeFunc (.func 0) #[] #[.const (.agg #[(iv 0), (sv ⟨#[]⟩), (iv 0), (iv 0), (.slice none 0 0), (iv 0), (iv 0), (.slice none 0 0)])])] [(12, ⟨27, 14, (.func (.func 0) #[] #[(.agg #[(iv 0), (sv ⟨#[]⟩), (iv 0), (iv 0), (.slice none 0 0), (iv 0), (iv 0), (.slice none 0 0)])]), fun b => .slice (some ⟨b, 0, none⟩) 1 1, fun b => bx b #[(iv 0), (sv ⟨#[]⟩), (iv 0), (iv 0), (.slice none 0 0), (iv 0), (iv 0), (.slice none 0 0)] 80⟩)] [(0, (.pointer (some ⟨bp0, 0, none⟩))), (1, (.agg #[(iv p1.Kind), (sv p1.Name), (iv p1.At.X), (iv p1.At.Y), (.slice zX p1.Points.length zY), (iv p1.NX), (iv p1.NY), (.slice QL p1.Steps.length QJ)])), (3, (.pointer (some ⟨QB, 0, none⟩))), (4, (iv (w64 ((p0.open_.length : Int) - 1)))), (5, (.pointer (some ⟨bp0, 0, none⟩))), (6, (.pointer (some ⟨bp0, 0, none⟩))), (7, (.pointer (some ⟨bp0, 4, none⟩))), (8, (.slice zn p0.open_.length zo)), (9, (iv (p0.open_.length : Int))), (10, (iv (w64 ((p0.open_.length : Int) - 1)))), (11, (iv (w64 ((p0.open_.length : Int) - 1)))), (12, (.bool (decide (0 ≤ (w64 ((p0.open_.length : Int) - 1)))))), (13, (.pointer (some ⟨WR, 0, none⟩))), (14, (.bool true)), (15, (.pointer (some ⟨bp0, 0, none⟩))), (16, (.pointer (some ⟨bp0, 0, none⟩))), (17, (.pointer (some ⟨bp0, 4, none⟩))), (18, (.slice zn p0.open_.length zo)), (19, (iv (w64 ((p0.open_.length : Int) - 1)))), (20, (.pointer (some ⟨adB zn, adO zn + ((w64 ((p0.open_.length : Int) - 1))).toNat * 1, none⟩))), (21, (.pointer (some ⟨bku110, 0, none⟩))), (22, (.pointer (some ⟨bku110, 0, none⟩))), (23, (.pointer (some ⟨bku110, 7, none⟩))), (24, (.slice zAm JF.Steps.length zAh)), (25, (.agg #[(iv p1.Kind), (sv p1.Name), (iv p1.At.X), (iv p1.At.Y), (.slice zX p1.Points.length zY), (iv p1.NX), (iv p1.NY), (.slice QL p1.Steps.length QJ)])), (26, (iv (JF.Steps.length : Int))), (27, (.func (.func 0) #[] #[(.agg #[(iv 0), (sv ⟨#[]⟩), (iv 0), (iv 0), (.slice none 0 0), (iv 0), (iv 0), (.slice none 0 0)])]))] (by kernel_rfl) (by kernel_rfl) (by kernel_rfl) (by kernel_rfl) (by kernel_rfl) (by kernel_rfl) (by kernel_rfl) (Vr (fr_lit (vs := [(0, (.agg #[(iv 0), (sv ⟨#[]⟩), (iv 0), (iv 0), (.slice none 0 0), (iv 0), (iv 0), (.slice none 0 0)]))]) rfl rfl rfl (by kernel_rfl)) Wp) (Vr rfl Wp) (Vr rfl Wp) ?_ ?_
   ·refine Tq.mv rfl rfl (Tq.va rfl (fun _ _ h1 h2 => zg (h1.ev rfl)) ?_)
    refine Tq.va rfl (fun _ _ h1 h2 => zB zB8 (h1.ev rfl)) ?_
    refine Tq.va rfl (fun _ _ h1 h2 => zF zHY (h1.ev rfl) (rdb h2 (vs := [(iv p0.p.Unit), (.slice zG p0.p.Tools.length zH), (.slice zL p0.p.Steps.length zK), (.bool p0.unit), (.slice zn p0.open_.length zo), (.bool p0.step)]) (k := 0) rfl 4) rfl) ?_
    refine Tq.mv rfl rfl (Tq.va rfl (fun _ _ h1 h2 => zN el_57 (h1.ev rfl) Js.2 (h1.ev rfl) zGf zGe) ?_)
    refine Tq.va rfl (fun _ _ h1 h2 => zF ag_85 (h1.ev rfl) (rdo ef_P (k := 2) h2 rfl hdu110.2) rfl) ?_
    refine Tq.va rfl (fun _ _ h1 h2 => zg (h1.ev rfl)) ?_
    refine Tq.va rfl (fun _ _ h1 h2 => zB zAB (h1.ev rfl)) ?_
    refine Tq.va rfl (fun _ _ h1 h2 => zF zBR (h1.ev rfl) (rdb h2 (vs := [(iv JF.Kind), (sv JF.Name), (iv JF.At.X), (iv JF.At.Y), (.slice zAJ JF.Points.length zAI), (iv JF.NX), (iv JF.NY), (.slice zAm JF.Steps.length zAh)]) (k := 12) rfl 7) rfl) ?_
    refine Tq.va rfl (fun _ _ h1 h2 => zu (cs := [(iv p1.Kind), (sv p1.Name), (iv p1.At.X), (iv p1.At.Y), (.slice zX p1.Points.length zY), (iv p1.NX), (iv p1.NY), (.slice QL p1.Steps.length QJ)]) zDA Wo (h1.ev rfl) (za.take (rdb h2 (vs := [(iv p1.Kind), (sv p1.Name), (iv p1.At.X), (iv p1.At.Y), (.slice zX p1.Points.length zY), (iv p1.NX), (iv p1.NY), (.slice QL p1.Steps.length QJ)]) (k := 3) rfl 0) 8) rfl) ?_
    refine Tq.va rfl (fun _ _ h1 h2 => QG zBx (h1.ev rfl)) ?_
    refine Tq.zFg (vs := [(.agg #[(iv 0), (sv ⟨#[]⟩), (iv 0), (iv 0), (.slice none 0 0), (iv 0), (iv 0), (.slice none 0 0)])]) (wn rfl) rfl (zI rfl zT) ?_
    exact Tq.fin (.cons rfl (.cons rfl (.cons rfl (.cons rfl (.cons rfl (.cons rfl (.cons rfl (.cons rfl (.cons rfl (.cons rfl (.cons rfl (.cons rfl (.cons rfl (.cons rfl (.cons rfl (.cons rfl (.cons rfl (.cons rfl (.cons rfl (.cons rfl (.cons rfl (.cons rfl (.cons rfl (.cons rfl (.cons rfl (.cons rfl (.cons rfl .nil)))))))))))))))))))))))))))
   ·intro bs111
    refine Tr.sel (lf := [(21, (.pointer (some ⟨bku110, 0, none⟩))), (24, (.slice zAm JF.Steps.length zAh)), (25, (.agg #[(iv p1.Kind), (sv p1.Name), (iv p1.At.X), (iv p1.At.Y), (.slice zX p1.Points.length zY), (iv p1.NX), (iv p1.NY), (.slice QL p1.Steps.length QJ)])), (26, (iv (JF.Steps.length : Int))), (27, (.slice (some ⟨(bs111 12), 0, none⟩) 1 1))]) (le := [(0, bx bp0 #[(iv p0.p.Unit), (.slice zG p0.p.Tools.length zH), (.slice zL p0.p.Steps.length zK), (.bool p0.unit), (.slice zn p0.open_.length zo), (.bool p0.step)] 59), (1, ow zL zK 80 zC p0.p.Steps), (2, ow zn zo 85 (flP zC) Dhp0_2), (3, bx QB #[(iv p1.Kind), (sv p1.Name), (iv p1.At.X), (iv p1.At.Y), (.slice zX p1.Points.length zY), (iv p1.NX), (iv p1.NY), (.slice QL p1.Steps.length QJ)] 80), (4, bx WR #[(.bool true)] 4), (10, bxs 80 zS (List.set Dhp0_2 ((w64 ((p0.open_.length : Int) - 1))).toNat ⟨bku110, ((zAJ, zAI), (zAm, zAh)), JF, false⟩)), (11, ins 80 zC ((List.set Dhp0_2 ((w64 ((p0.open_.length : Int) - 1))).toNat ⟨bku110, ((zAJ, zAI), (zAm, zAh)), JF, false⟩).map (pne zS))), (12, bx bku110 #[(iv JF.Kind), (sv JF.Name), (iv JF.At.X), (iv JF.At.Y), (.slice zAJ JF.Points.length zAI), (iv JF.NX), (iv JF.NY), (.slice zAm JF.Steps.length zAh)] 80), (13, ow zAm zAh 80 zC JF.Steps), (14, bx (bs111 12) #[(iv 0), (sv ⟨#[]⟩), (iv 0), (iv 0), (.slice none 0 0), (iv 0), (iv 0), (.slice none 0 0)] 80)]) (.cons rfl (.cons rfl (.cons rfl (.cons rfl (.cons rfl .nil))))) (.cons rfl (.cons rfl (.cons rfl (.cons rfl (.cons rfl (.cons rfl (.cons rfl (.cons rfl (.cons rfl (.cons rfl .nil)))))))))) ?_
    obtain ⟨l112, hl112, H⟩ := bnd H
    refine Tr.append 13 (t := zC) (l := JF.Steps) (l2 := [(zD.mk 0 (⟨#[]⟩) (zf.mk 0 0) [] 0 0 [])]) (wn rfl) rfl rfl rfl rfl (fun W hW => ⟨[[(iv 0), (sv ⟨#[]⟩), (iv 0), (iv 0), (.slice none 0 0), (iv 0), (iv 0), (.slice none 0 0)]], (.cons ⟨((none, 0), (none, 0)), (Jc.2 ⟨(Sl.nil _ _ _), (Sl.nil _ _ _)⟩), rfl⟩ .nil), rdb hW (vs := [(iv 0), (sv ⟨#[]⟩), (iv 0), (iv 0), (.slice none 0 0), (iv 0), (iv 0), (.slice none 0 0)]) (k := 14) rfl 0⟩) zBx Wo zl_80 (by decide) by_80 rfl hl112 fun zIe zIZ hAl112 => ?_
    refine Tr.va rfl (fun _ _ h1 h2 => zg (h1.ev rfl)) ?_
    refine Tr.va rfl (fun _ _ h1 h2 => zB zAB (h1.ev rfl)) ?_
    refine Tr.store 12 (cs := [(.slice zIe l112.length zIZ)]) [(iv JF.Kind), (sv JF.Name), (iv JF.At.X), (iv JF.At.Y), (.slice zAJ JF.Points.length zAI), (iv JF.NX), (iv JF.NY), (.slice zIe l112.length zIZ)] (wn rfl) rfl rfl rfl rfl sz_23 rfl rfl rfl ?_
    refine Tr.nil (Tr.zA (Tr.region ?_))
    obtain ⟨x113, hx113, H⟩ := bnd H
    obtain ⟨hx1130, hx1131, hx1132⟩ := zw hx113
    refine Tr.va rfl (fun _ _ h1 h2 => zN zDt (h1.ev rfl) hAl112 (h1.ev rfl) hx1130 hx1131) ?_
    obtain ⟨Kl, zB4, H⟩ := bnd H
    have hnl114 := zJf zB4
    refine Tr.zIo 13 (t := zC) (l := l112) (i := (JF.Steps.length : Int)) (fo := 0) (cs := [(iv p1.Kind), (sv p1.Name), (iv p1.At.X), (iv p1.At.Y), (.slice zX p1.Points.length zY), (iv p1.NX), (iv p1.NY), (.slice QL p1.Steps.length QJ)]) p1 (wn rfl) rfl rfl rfl rfl rfl hx1132 Wo rfl (fun u hu => ⟨((zX, zY), (QL, QJ)), (Jc.2 ⟨Qv, zHB⟩), rfl⟩) rfl zB4 ?_
    have hfl114 : SlF zIe Kl.length zIZ := by rw [hnl114]; exact hAl112
    refine Tr.sel (lf := [(21, (.pointer (some ⟨bku110, 0, none⟩))), (25, (.agg #[(iv p1.Kind), (sv p1.Name), (iv p1.At.X), (iv p1.At.Y), (.slice zX p1.Points.length zY), (iv p1.NX), (iv p1.NY), (.slice QL p1.Steps.length QJ)])), (26, (iv (JF.Steps.length : Int))), (28, (.slice zIe Kl.length zIZ)), (29, (.pointer (some ⟨bku110, 0, none⟩))), (30, (.pointer (some ⟨bku110, 7, none⟩)))]) (le := [(0, bx bp0 #[(iv p0.p.Unit), (.slice zG p0.p.Tools.length zH), (.slice zL p0.p.Steps.length zK), (.bool p0.unit), (.slice zn p0.open_.length zo), (.bool p0.step)] 59), (1, ow zL zK 80 zC p0.p.Steps), (2, ow zn zo 85 (flP zC) Dhp0_2), (3, bx QB #[(iv p1.Kind), (sv p1.Name), (iv p1.At.X), (iv p1.At.Y), (.slice zX p1.Points.length zY), (iv p1.NX), (iv p1.NY), (.slice QL p1.Steps.length QJ)] 80), (4, bx WR #[(.bool true)] 4), (10, bxs 80 zS (List.set Dhp0_2 ((w64 ((p0.open_.length : Int) - 1))).toNat ⟨bku110, ((zAJ, zAI), (zAm, zAh)), JF, false⟩)), (11, ins 80 zC ((List.set Dhp0_2 ((w64 ((p0.open_.length : Int) - 1))).toNat ⟨bku110, ((zAJ, zAI), (zAm, zAh)), JF, false⟩).map (pne zS))), (12, bx bku110 #[(iv JF.Kind), (sv JF.Name), (iv JF.At.X), (iv JF.At.Y), (.slice zAJ JF.Points.length zAI), (iv JF.NX), (iv JF.NY), (.slice zIe Kl.length zIZ)] 80), (13, ow zIe zIZ 80 zC Kl)]) (.cons rfl (.cons rfl (.cons rfl (.cons (zJe rfl (by rw [hnl114])) (.cons rfl (.cons rfl .nil)))))) (.cons rfl (.cons rfl (.cons rfl (.cons rfl (.cons rfl (.cons rfl (.cons rfl (.cons (ebx rfl (by rw [hnl114])) (.cons rfl .nil))))))))) ?_
    refine Tr.nil (Tr.zJn ?_)
    obtain rfl := Option.some.inj H
    refine Tr.skPut (L := zS) 2 10 11 12 13 (u := ((zAJ, zAI), (zIe, zIZ))) (x' := (zD.mk JF.Kind JF.Name JF.At JF.Points JF.NX JF.NY Kl)) (cs := [(iv JF.Kind), (sv JF.Name), (iv JF.At.X), (iv JF.At.Y), (.slice zAJ JF.Points.length zAI), (iv JF.NX), (iv JF.NY), (.slice zIe Kl.length zIZ)]) rfl rfl rfl rfl rfl rfl rfl rfl rfl rfl rfl rfl rfl rfl rfl hdu110 hoku110_0 rfl rfl rfl hfl114 fun ms115 hmms115 => ?_
    have hnms115 : (List.set p0.open_ ((w64 ((p0.open_.length : Int) - 1))).toNat (zD.mk JF.Kind JF.Name JF.At JF.Points JF.NX JF.NY Kl)).length = p0.open_.length := List.length_set
    have hfms115 : SlF zn (List.set p0.open_ ((w64 ((p0.open_.length : Int) - 1))).toNat (zD.mk JF.Kind JF.Name JF.At JF.Points JF.NX JF.NY Kl)).length zo := by rw [hnms115]; exact Js.2
    refine Tr.sel (lf := [(25, (.agg #[(iv p1.Kind), (sv p1.Name), (iv p1.At.X), (iv p1.At.Y), (.slice zX p1.Points.length zY), (iv p1.NX), (iv p1.NY), (.slice QL p1.Steps.length QJ)])), (26, (iv (JF.Steps.length : Int)))]) (le := [(0, bx bp0 #[(iv p0.p.Unit), (.slice zG p0.p.Tools.length zH), (.slice zL p0.p.Steps.length zK), (.bool p0.unit), (.slice zn ((List.set p0.open_ ((w64 ((p0.open_.length : Int) - 1))).toNat (zD.mk JF.Kind JF.Name JF.At JF.Points JF.NX JF.NY Kl))).length zo), (.bool p0.step)] 59), (1, ow zL zK 80 zC p0.p.Steps), (2, sk zn zo 85 80 80 zS ms115), (3, bx QB #[(iv p1.Kind), (sv p1.Name), (iv p1.At.X), (iv p1.At.Y), (.slice zX p1.Points.length zY), (iv p1.NX), (iv p1.NY), (.slice QL p1.Steps.length QJ)] 80), (4, bx WR #[(.bool true)] 4)]) (.cons rfl (.cons rfl .nil)) (.cons (ebx rfl (by rw [hnms115])) (.cons rfl (.cons rfl (.cons rfl (.cons rfl .nil))))) ?_
    exact Tr.out (m := []) [] zR (fun W hW => ⟨w, ((zL, zK), (zn, zo, ms115)), leB, rfl, ⟨zA0, ⟨hmms115, hfms115⟩⟩, hW.pick (ks := [0, 1, 2]) (by decide) (zO rfl (zO rfl (zO rfl QH)))⟩)
 ·refine Tr.zGK 15 [(8, (ow zL zK 80 zC p0.p.Steps).S), (10, (ow zL zK 80 zC p0.p.Steps).S), (14, fun x => x = bp0)] [10] (by kernel_rfl) (by kernel_rfl) fun sz116 hlosz116 hEsz116 => ?_
  refine Dr.quiet 0 [(54, (.pointer (some ⟨bp0, 0, none⟩)))] (by kernel_rfl) rfl rfl (by kernel_rfl) ?_ rfl rfl ?_
  ·exact Tq.mv rfl rfl (Tq.fin (.cons rfl .nil))
  refine Dr.quiet 1 [(55, (.pointer (some ⟨bp0, 0, none⟩)))] (by kernel_rfl) rfl rfl (by kernel_rfl) ?_ rfl rfl ?_
  ·refine Tq.va rfl (fun _ _ h1 h2 => zg (h1.ev rfl)) ?_
   exact Tq.fin (.cons rfl .nil)
  refine Dr.quiet 2 [(56, (.pointer (some ⟨bp0, 0, none⟩)))] (by kernel_rfl) rfl rfl (by kernel_rfl) ?_ rfl rfl ?_
  ·refine Tq.va rfl (fun _ _ h1 h2 => zB zE2 (h1.ev rfl)) ?_
   exact Tq.fin (.cons rfl .nil)
  refine Dr.quiet 3 [(57, (.pointer (some ⟨bp0, 2, none⟩)))] (by kernel_rfl) rfl rfl (by kernel_rfl) ?_ rfl rfl ?_
  ·refine Tq.va rfl (fun _ _ h1 h2 => zB zCg (h1.ev rfl)) ?_
   exact Tq.fin (.cons rfl .nil)
  refine Dr.quiet 4 [(58, (.slice zL p0.p.Steps.length zK))] (by kernel_rfl) rfl rfl (by kernel_rfl) ?_ rfl rfl ?_
  ·refine Tq.va rfl (fun _ _ h1 h2 => zF zBR (h1.ev rfl) (rdb h2 (vs := [(iv p0.p.Unit), (.slice zG p0.p.Tools.length zH), (.slice zL p0.p.Steps.length zK), (.bool p0.unit), (.slice zn p0.open_.length zo), (.bool p0.step)]) (k := 0) rfl 2) rfl) ?_
   exact Tq.fin (.cons rfl .nil)
  refine Dr.quiet 5 [(59, (.agg #[(iv p1.Kind), (sv p1.Name), (iv p1.At.X), (iv p1.At.Y), (.slice zX p1.Points.length zY), (iv p1.NX), (iv p1.NY), (.slice QL p1.Steps.length QJ)]))] (by kernel_rfl) rfl rfl (by kernel_rfl) ?_ rfl rfl ?_
  ·refine Tq.va rfl (fun _ _ h1 h2 => zu (cs := [(iv p1.Kind), (sv p1.Name), (iv p1.At.X), (iv p1.At.Y), (.slice zX p1.Points.length zY), (iv p1.NX), (iv p1.NY), (.slice QL p1.Steps.length QJ)]) zDA Wo (h1.ev rfl) (za.take (rdb h2 (vs := [(iv p1.Kind), (sv p1.Name), (iv p1.At.X), (iv p1.At.Y), (.slice zX p1.Points.length zY), (iv p1.NX), (iv p1.NY), (.slice QL p1.Steps.length QJ)]) (k := 3) rfl 0) 8) rfl) ?_
   exact Tq.fin (.cons rfl .nil)
  refine Dr.quiet 6 [(60, (iv (p0.p.Steps.length : Int)))] (by kernel_rfl) rfl rfl (by kernel_rfl) ?_ rfl rfl ?_
  ·refine Tq.va rfl (fun _ _ h1 h2 => QG zBx (h1.ev rfl)) ?_
   exact Tq.fin (.cons rfl .nil)
  refine Dr.one 7 (by kernel_rfl) ?_
  refine St.buildSlice 7 15 (e := 80) (vs := [(0, (.agg #[(iv 0), (sv ⟨#[]⟩), (iv 0), (iv 0), (.slice none 0 0), (iv 0), (iv 0), (.slice none 0 0)]))]) (cs := [(iv 0), (sv ⟨#[]⟩), (iv 0), (iv 0), (.slice none 0 0), (iv 0), (iv 0), (.slice none 0 0)]) rfl (wn rfl) rfl (QE rfl Qj) (by kernel_rfl) fun b117 hb117 => ?_
  obtain ⟨l118, hl118, H⟩ := bnd H
  refine Dr.one 8 (by kernel_rfl) ?_
  refine St.appendY 8 1 (t' := zC) (ll := p0.p.Steps) (l2 := [(zD.mk 0 (⟨#[]⟩) (zf.mk 0 0) [] 0 0 [])]) (fun b hb => .inl ⟨_, List.mem_cons_self, rfl, hb⟩) rfl (wn rfl) rfl rfl rfl rfl (fun W hW => ⟨[[(iv 0), (sv ⟨#[]⟩), (iv 0), (iv 0), (.slice none 0 0), (iv 0), (iv 0), (.slice none 0 0)]], (.cons ⟨((none, 0), (none, 0)), (Jc.2 ⟨(Sl.nil _ _ _), (Sl.nil _ _ _)⟩), rfl⟩ .nil), rdb hW (vs := [(iv 0), (sv ⟨#[]⟩), (iv 0), (iv 0), (.slice none 0 0), (iv 0), (iv 0), (.slice none 0 0)]) (k := 15) rfl 0⟩) zBx Wo zl_80 (by decide) by_80 rfl hl118 fun zEf zEW hAl118 hn8_sz116 => ?_
  obtain ⟨x119, hx119, H⟩ := bnd H
  obtain ⟨hx1190, hx1191, hx1192⟩ := zw hx119
  refine Dr.JR 9 (by kernel_rfl) rfl (wn rfl) rfl (by kernel_rfl) (fun _ _ h1 => zN zDt (h1.ev rfl) hAl118 (h1.ev rfl) hx1190 hx1191) rfl ?_
  refine Dr.JR 11 (by kernel_rfl) rfl (wn rfl) rfl (by kernel_rfl) (fun _ _ h1 => zg (h1.ev rfl)) rfl ?_
  refine Dr.JR 12 (by kernel_rfl) rfl (wn rfl) rfl (by kernel_rfl) (fun _ _ h1 => zB zE2 (h1.ev rfl)) rfl ?_
  refine Dr.JR 13 (by kernel_rfl) rfl (wn rfl) rfl (by kernel_rfl) (fun _ _ h1 => zB zCg (h1.ev rfl)) rfl ?_
  refine Dr.pair 10 14 (by kernel_rfl) ?_ ?_
  ·obtain ⟨zFj, hl120, H⟩ := bnd H
   have hnl120 := zJf hl120
   refine St.zIo 10 1 (t' := zC) (ll := l118) (ix := (p0.p.Steps.length : Int)) (fo := 0) (cs := [(iv p1.Kind), (sv p1.Name), (iv p1.At.X), (iv p1.At.Y), (.slice zX p1.Points.length zY), (iv p1.NX), (iv p1.NY), (.slice QL p1.Steps.length QJ)]) p1 (fun b hb => (hn8_sz116 b hb).elim (fun h => .inr ⟨by simp, h⟩) (fun h => .inl ⟨_, (List.mem_cons_of_mem _ List.mem_cons_self), rfl, h⟩)) rfl (wn rfl) rfl rfl rfl rfl rfl hx1192 Wo rfl (fun u hu => ⟨((zX, zY), (QL, QJ)), (Jc.2 ⟨Qv, zHB⟩), rfl⟩) rfl hl120 ?_
   have hfl120 : SlF zEf zFj.length zEW := by rw [hnl120]; exact hAl118
   refine Dr.use (lf := [(0, (.pointer (some ⟨bp0, 0, none⟩))), (1, (.agg #[(iv p1.Kind), (sv p1.Name), (iv p1.At.X), (iv p1.At.Y), (.slice zX p1.Points.length zY), (iv p1.NX), (iv p1.NY), (.slice QL p1.Steps.length QJ)])), (3, (.pointer (some ⟨QB, 0, none⟩))), (4, (iv (w64 ((p0.open_.length : Int) - 1)))), (5, (.pointer (some ⟨bp0, 0, none⟩))), (6, (.pointer (some ⟨bp0, 0, none⟩))), (7, (.pointer (some ⟨bp0, 4, none⟩))), (8, (.slice zn p0.open_.length zo)), (9, (iv (p0.open_.length : Int))), (10, (iv (w64 ((p0.open_.length : Int) - 1)))), (11, (iv (w64 ((p0.open_.length : Int) - 1)))), (12, (.bool (decide (0 ≤ (w64 ((p0.open_.length : Int) - 1)))))), (54, (.pointer (some ⟨bp0, 0, none⟩))), (55, (.pointer (some ⟨bp0, 0, none⟩))), (56, (.pointer (some ⟨bp0, 0, none⟩))), (57, (.pointer (some ⟨bp0, 2, none⟩))), (59, (.agg #[(iv p1.Kind), (sv p1.Name), (iv p1.At.X), (iv p1.At.Y), (.slice zX p1.Points.length zY), (iv p1.NX), (iv p1.NY), (.slice QL p1.Steps.length QJ)])), (60, (iv (p0.p.Steps.length : Int))), (62, (.slice zEf zFj.length zEW)), (64, (.pointer (some ⟨bp0, 0, none⟩))), (65, (.pointer (some ⟨bp0, 0, none⟩))), (66, (.pointer (some ⟨bp0, 2, none⟩)))]) (le := [(0, bx bp0 #[(iv p0.p.Unit), (.slice zG p0.p.Tools.length zH), (.slice zL p0.p.Steps.length zK), (.bool p0.unit), (.slice zn p0.open_.length zo), (.bool p0.step)] 59), (1, ow zEf zEW 80 zC zFj), (2, sk zn zo 85 80 80 zS Dhp0_2), (3, bx QB #[(iv p1.Kind), (sv p1.Name), (iv p1.At.X), (iv p1.At.Y), (.slice zX p1.Points.length zY), (iv p1.NX), (iv p1.NY), (.slice QL p1.Steps.length QJ)] 80)]) ?_ rfl (.cons rfl (.cons rfl (.cons rfl (.cons rfl (.cons rfl (.cons rfl (.cons rfl (.cons rfl (.cons rfl (.cons rfl (.cons rfl (.cons rfl (.cons rfl (.cons rfl (.cons rfl (.cons rfl (.cons rfl (.cons rfl (.cons (zJe rfl (by rw [hnl120])) (.cons rfl (.cons rfl (.cons rfl .nil)))))))))))))))))))))) (.cons rfl (.cons rfl (.cons rfl (.cons rfl .nil))))
   refine Dr.one 14 (by kernel_rfl) ?_
   refine St.store 14 0 (cs := [(.slice zEf zFj.length zEW)]) [(iv p0.p.Unit), (.slice zG p0.p.Tools.length zH), (.slice zEf zFj.length zEW), (.bool p0.unit), (.slice zn p0.open_.length zo), (.bool p0.step)] rfl (wn rfl) (.inl ⟨_, (List.mem_cons_of_mem _ (List.mem_cons_of_mem _ List.mem_cons_self)), rfl, rfl⟩) rfl rfl rfl rfl sz_23 rfl rfl rfl ?_
   refine Dr.tail (by kernel_rfl) ?_
   refine Tr.nil (Tr.zJn ?_)
   obtain rfl := Option.some.inj H
   exact Tr.out (m := []) [] zR (fun W hW => ⟨w, ((zEf, zEW), (zn, zo, Dhp0_2)), leB, rfl, ⟨hfl120, ⟨Js.1, Js.2⟩⟩, hW.pick (ks := [0, 1, 2]) (by decide) (zO rfl (zO rfl (zO rfl QH)))⟩)
  ·replace H : ((sets l118 (p0.p.Steps.length : Int) p1).bind fun zFT => some (zFT, p0.open_)) = some r := by simpa only [apd_sets] using H
   refine St.store 14 0 (cs := [(.slice zEf l118.length zEW)]) [(iv p0.p.Unit), (.slice zG p0.p.Tools.length zH), (.slice zEf l118.length zEW), (.bool p0.unit), (.slice zn p0.open_.length zo), (.bool p0.step)] rfl (wn rfl) (.inl ⟨_, (List.mem_cons_of_mem _ (List.mem_cons_of_mem _ List.mem_cons_self)), rfl, rfl⟩) rfl rfl rfl rfl sz_23 rfl rfl rfl ?_
   obtain ⟨zFT, hl121, H⟩ := bnd H
   refine Dr.one 10 (by kernel_rfl) ?_
   have hnl121 := zJf hl121
   refine St.zIo 10 1 (t' := zC) (ll := l118) (ix := (p0.p.Steps.length : Int)) (fo := 0) (cs := [(iv p1.Kind), (sv p1.Name), (iv p1.At.X), (iv p1.At.Y), (.slice zX p1.Points.length zY), (iv p1.NX), (iv p1.NY), (.slice QL p1.Steps.length QJ)]) p1 (fun b hb => (hn8_sz116 b hb).elim (fun h => .inr ⟨by simp, h⟩) (fun h => .inl ⟨_, (List.mem_cons_of_mem _ List.mem_cons_self), rfl, h⟩)) rfl (wn rfl) rfl rfl rfl rfl rfl hx1192 Wo rfl (fun u hu => ⟨((zX, zY), (QL, QJ)), (Jc.2 ⟨Qv, zHB⟩), rfl⟩) rfl hl121 ?_
   have hfl121 : SlF zEf zFT.length zEW := by rw [hnl121]; exact hAl118
   refine Dr.use (lf := [(0, (.pointer (some ⟨bp0, 0, none⟩))), (1, (.agg #[(iv p1.Kind), (sv p1.Name), (iv p1.At.X), (iv p1.At.Y), (.slice zX p1.Points.length zY), (iv p1.NX), (iv p1.NY), (.slice QL p1.Steps.length QJ)])), (3, (.pointer (some ⟨QB, 0, none⟩))), (4, (iv (w64 ((p0.open_.length : Int) - 1)))), (5, (.pointer (some ⟨bp0, 0, none⟩))), (6, (.pointer (some ⟨bp0, 0, none⟩))), (7, (.pointer (some ⟨bp0, 4, none⟩))), (8, (.slice zn p0.open_.length zo)), (9, (iv (p0.open_.length : Int))), (10, (iv (w64 ((p0.open_.length : Int) - 1)))), (11, (iv (w64 ((p0.open_.length : Int) - 1)))), (12, (.bool (decide (0 ≤ (w64 ((p0.open_.length : Int) - 1)))))), (54, (.pointer (some ⟨bp0, 0, none⟩))), (55, (.pointer (some ⟨bp0, 0, none⟩))), (56, (.pointer (some ⟨bp0, 0, none⟩))), (57, (.pointer (some ⟨bp0, 2, none⟩))), (59, (.agg #[(iv p1.Kind), (sv p1.Name), (iv p1.At.X), (iv p1.At.Y), (.slice zX p1.Points.length zY), (iv p1.NX), (iv p1.NY), (.slice QL p1.Steps.length QJ)])), (60, (iv (p0.p.Steps.length : Int))), (62, (.slice zEf zFT.length zEW)), (64, (.pointer (some ⟨bp0, 0, none⟩))), (65, (.pointer (some ⟨bp0, 0, none⟩))), (66, (.pointer (some ⟨bp0, 2, none⟩)))]) (le := [(0, bx bp0 #[(iv p0.p.Unit), (.slice zG p0.p.Tools.length zH), (.slice zEf zFT.length zEW), (.bool p0.unit), (.slice zn p0.open_.length zo), (.bool p0.step)] 59), (1, ow zEf zEW 80 zC zFT), (2, sk zn zo 85 80 80 zS Dhp0_2), (3, bx QB #[(iv p1.Kind), (sv p1.Name), (iv p1.At.X), (iv p1.At.Y), (.slice zX p1.Points.length zY), (iv p1.NX), (iv p1.NY), (.slice QL p1.Steps.length QJ)] 80)]) ?_ rfl (.cons rfl (.cons rfl (.cons rfl (.cons rfl (.cons rfl (.cons rfl (.cons rfl (.cons rfl (.cons rfl (.cons rfl (.cons rfl (.cons rfl (.cons rfl (.cons rfl (.cons rfl (.cons rfl (.cons rfl (.cons rfl (.cons (zJe rfl (by rw [hnl121])) (.cons rfl (.cons rfl (.cons rfl .nil)))))))))))))))))))))) (.cons (ebx rfl (by rw [hnl121])) (.cons rfl (.cons rfl (.cons rfl .nil))))
   refine Dr.tail (by kernel_rfl) ?_
   refine Tr.nil (Tr.zJn ?_)
   obtain rfl := Option.some.inj H
   exact Tr.out (m := []) [] zR (fun W hW => ⟨w, ((zEf, zEW), (zn, zo, Dhp0_2)), leB, rfl, ⟨hfl121, ⟨Js.1, Js.2⟩⟩, hW.pick (ks := [0, 1, 2]) (by decide) (zO rfl (zO rfl (zO rfl QH)))⟩)

theorem zED {w : Bs} (p0 : (List ByteArray)) (zG : Option Addr) (zH : Nat) (ze : Sl w.R w.W JG zG zH p0) (p1 : ByteArray) (r : Int) (H : Je p0 p1 = some r) (hE : HF w w.W E0) : Calls Tryz.prog 58 [(.slice zG p0.length zH), (sv p1)].toArray w.W fun e W' => e = .returned (iv r) ∧ HF w W' E0 := by
 unfold Je at H
 have leB := Bs.Le.refl w
 refine Tr.enter (n := 19) Tryz.func58 rfl rfl rfl hE ?_
 refine Tr.sr (Tr.asg rfl rfl (Tr.nil (Tr.zA (Tr.seq (Tr.sr (Tr.mv rfl rfl (Tr.va rfl (fun _ _ h1 h2 => QG zFZ (h1.ev rfl)) ?_)))))))
 refine Tr.mv rfl rfl (Tr.nil (Tr.zA (Tr.block (Tr.loop (σ := (List ByteArray) × Nat) (fun m w s => m = s.1.length + 1 ∧ s.1 = List.drop s.2 p0 ∧ s.2 ≤ p0.length ∧ JQ p1 s.1 s.2 = some r) (fun s => [(0, (.slice zG p0.length zH)), (1, (sv p1)), (7, (iv (p0.length : Int))), (8, (iv (s.2 : Int)))]) (fun s => []) (p0.length + 1) (p0, 0) ⟨rfl, rfl, Nat.zero_le _, H⟩ (.cons rfl (.cons rfl (.cons rfl (.cons rfl .nil)))) .nil (fun _ _ h => absurd h.1 (by simp)) ?_))))
 intro w Qs m s hs
 obtain ⟨zz, iL1⟩ := s
 obtain ⟨zAe, Qt, hiL1, H⟩ := hs
 replace Qt : zz = List.drop iL1 p0 := Qt
 replace H : JQ p1 zz iL1 = some r := H
 replace zAe : m + 1 = zz.length + 1 := zAe
 replace ze := ze.leR Qs
 replace leB := leB.trans Qs
 obtain rfl : m = zz.length := by omega
 clear zAe
 show Tr _ _ (LF [(0, (.slice zG p0.length zH)), (1, (sv p1)), (7, (iv (p0.length : Int))), (8, (iv (iL1 : Int)))]) (LE []) _
 cases zz with
 | nil =>
  rw [JQ.eq_1] at H
  refine Tr.sr (Tr.va rfl (fun _ _ h1 h2 => QV (h1.ev rfl) (h1.ev rfl)) ?_)
  refine Tr.nil (Tr.zA (Tr.seq (Tr.zDV rfl (Wh Qt) ?_)))
  refine Tr.exit (Tr.zx (Tr.zx (Tr.Qd (Tr.zA (Tr.sr (Tr.asg rfl rfl (Tr.nil (Tr.zA (Tr.ret ?_)))))))))
  obtain rfl := Option.some.inj H
  exact Tr.out (m := [(iv (-1))]) [] (zJ rfl zR) (fun W hW => ⟨rfl, hW.low leB⟩)
 | cons xL1 zz =>
  rw [JQ.eq_2] at H
  refine Tr.sr (Tr.va rfl (fun _ _ h1 h2 => QV (h1.ev rfl) (h1.ev rfl)) ?_)
  refine Tr.nil (Tr.zA (Tr.seq (Tr.zC7 rfl (zAL Qt) ?_)))
  refine Tr.skip (Tr.zA (Tr.seq (Tr.block (Tr.sr (Tr.mv rfl rfl (Tr.asg rfl rfl (Tr.nil (Tr.zA (Tr.sr (Tr.mv rfl rfl ?_))))))))))
  refine Tr.mv rfl rfl (Tr.mv rfl rfl (Tr.va rfl (fun _ _ h1 h2 => zN zAP (h1.ev rfl) ze.form (h1.ev rfl) (Int.natCast_nonneg _) (Qz Qt)) ?_))
  refine Tr.va rfl (fun _ _ h1 h2 => zF zAR (h1.ev rfl) (rdF Wq ze (zAM Qt) h2) rfl) ?_
  refine Tr.va rfl (fun _ _ h1 h2 => Qq (h1.ev rfl) (h1.ev rfl)) ?_
  refine Tr.nil (Tr.zA (Tr.cond rfl H (fun H => ?_) (fun H => ?_)))
  ·refine Tr.sr (Tr.mv rfl rfl (Tr.asg rfl rfl (Tr.nil (Tr.zA (Tr.ret (Tr.zW (Tr.zM (Tr.zM (Tr.zW (Tr.zM ?_))))))))))
   obtain rfl := Option.some.inj H
   exact Tr.out (m := [(iv (iL1 : Int))]) [] (zJ rfl zR) (fun W hW => ⟨rfl, hW.low leB⟩)
  ·refine Tr.skip (Tr.zi (Tr.zA (Tr.region (Tr.va rfl (fun _ _ h1 h2 => QS (h1.ev rfl) (h1.ev rfl)) ?_))))
   exact Tr.mv rfl rfl (Tr.nil (Tr.zb Qs (zz, (iL1 + 1)) ⟨rfl, VN Qt, Qz Qt, H⟩ (.cons rfl (.cons rfl (.cons rfl (.cons (congrArg (fun z => some (Value.int .i64 z)) (VM Qt ze.form)) .nil)))) .nil))

theorem zDa (N : Nat) {w : Bs} (p0 : QZ) (zG : Option Addr) (zH : Nat) (ze : Sl w.R w.W zQ zG zH p0.p.Tools) (zL : Option Addr) (zK : Nat) (zn : Option Addr) (zo : Nat) (Dhp0_2 : List (PE zC)) (Js : SK Dhp0_2 p0.open_ ∧ SlF zn p0.open_.length zo) (bp0 : Nat) (p1 : ByteArray) (p2 : (List Int)) (Wt : Option Addr) (zCB : Nat) (zBl : Sl w.R w.W QT Wt zCB p2) (r : (Bool × (List zD) × (List zD))) (H : KG N p0 p1 p2 = some r) (hE : HF w w.W (LEn [bx bp0 #[(iv p0.p.Unit), (.slice zG p0.p.Tools.length zH), (.slice zL p0.p.Steps.length zK), (.bool p0.unit), (.slice zn p0.open_.length zo), (.bool p0.step)] 59, ow zL zK 80 zC p0.p.Steps, sk zn zo 85 80 80 zS Dhp0_2])) : Calls Tryz.prog 37 [(.pointer (some ⟨bp0, 0, none⟩)), (sv p1), (.slice Wt p2.length zCB)].toArray w.W fun e W' => ∃ (w' : Bs) (u : (Option Addr × Nat) × (Option Addr × Nat × List (PE zC))), w.Le w' ∧ e = .returned (.bool r.1) ∧ (SlF u.1.1 r.2.1.length u.1.2 ∧ (SK u.2.2.2 r.2.2 ∧ SlF u.2.1 r.2.2.length u.2.2.1)) ∧ HF w' W' (LEn [bx bp0 #[(iv p0.p.Unit), (.slice zG p0.p.Tools.length zH), (.slice u.1.1 r.2.1.length u.1.2), (.bool p0.unit), (.slice u.2.1 r.2.2.length u.2.2.1), (.bool p0.step)] 59, ow u.1.1 u.1.2 80 zC r.2.1, sk u.2.1 u.2.2.1 85 80 80 zS u.2.2.2]) := by
 unfold KG at H
 have zA0 := (hE.sl (k := 1) rfl).form
 have leB := Bs.Le.refl w
 refine Tr.enter (n := 91) Tryz.func37 rfl rfl rfl hE ?_
 refine Tr.sr (Tr.asg rfl rfl (Tr.nil (Tr.zA (Tr.sr (Tr.build (vs := []) (cs := [(iv 0), (sv ⟨#[]⟩), (iv 0), (iv 0), (.slice none 0 0), (iv 0), (iv 0), (.slice none 0 0)]) (wn rfl) rfl Qj (by kernel_rfl) ?_)))))
 refine Tr.alloc 3 (wn rfl) rfl zGG fun QB => ?_
 refine Tr.store 3 (cs := [(iv 0), (sv ⟨#[]⟩), (iv 0), (iv 0), (.slice none 0 0), (iv 0), (iv 0), (.slice none 0 0)]) [(iv 0), (sv ⟨#[]⟩), (iv 0), (iv 0), (.slice none 0 0), (iv 0), (iv 0), (.slice none 0 0)] (wn rfl) rfl rfl rfl rfl Wo rfl rfl rfl ?_
 refine Tr.nil (Tr.zA ?_)
 have leJ142 := Bs.Le.refl w
 refine Tr.zFq (σ := Int × Int × Int × (List zf) × (Option Addr) × Nat) (fun w s => JV p0 s.1 s.2.1 s.2.2.1 s.2.2.2.1 = some r ∧ SlF s.2.2.2.2.1 s.2.2.2.1.length s.2.2.2.2.2) (fun s => [(0, (.pointer (some ⟨bp0, 0, none⟩))), (7, (.pointer (some ⟨QB, 0, none⟩)))]) (fun s => [(0, bx bp0 #[(iv p0.p.Unit), (.slice zG p0.p.Tools.length zH), (.slice zL p0.p.Steps.length zK), (.bool p0.unit), (.slice zn p0.open_.length zo), (.bool p0.step)] 59), (1, ow zL zK 80 zC p0.p.Steps), (2, sk zn zo 85 80 80 zS Dhp0_2), (3, bx QB #[(iv s.1), (sv ⟨#[]⟩), (iv s.2.1), (iv s.2.2.1), (.slice s.2.2.2.2.1 s.2.2.2.1.length s.2.2.2.2.2), (iv 0), (iv 0), (.slice none 0 0)] 80), (18, ow s.2.2.2.2.1 s.2.2.2.2.2 52 QM s.2.2.2.1)]) ?_ ?_
 ·refine Tr.sr (Tr.mv rfl rfl (Tr.nil (Tr.zA (Tr.block ?_))))
  have leJ149 := Bs.Le.refl w
  refine Tr.zFq (σ := Bool) (fun w s => QU N p0 p1 p2 s = some r) (fun s => [(0, (.pointer (some ⟨bp0, 0, none⟩))), (1, (sv p1)), (2, (.slice Wt p2.length zCB)), (7, (.pointer (some ⟨QB, 0, none⟩))), (10, (sv p1)), (11, (.bool s))]) (fun s => [(0, bx bp0 #[(iv p0.p.Unit), (.slice zG p0.p.Tools.length zH), (.slice zL p0.p.Steps.length zK), (.bool p0.unit), (.slice zn p0.open_.length zo), (.bool p0.step)] 59), (1, ow zL zK 80 zC p0.p.Steps), (2, sk zn zo 85 80 80 zS Dhp0_2), (3, bx QB #[(iv 0), (sv ⟨#[]⟩), (iv 0), (iv 0), (.slice none 0 0), (iv 0), (iv 0), (.slice none 0 0)] 80)]) ?_ ?_
  ·refine Tr.sr (Tr.va rfl (fun _ _ h1 h2 => Qq (h1.ev rfl) (h1.ev rfl)) ?_)
   refine Tr.asg rfl rfl (Tr.nil (Tr.zA (Tr.cond rfl H (fun H => ?_) (fun H => ?_))))
   ·exact Tr.skip (Tr.zb leJ149 (sEq p1 (⟨#[109, 111, 118, 101]⟩)) H (.cons rfl (.cons rfl (.cons rfl (.cons rfl (.cons rfl (.cons rfl .nil)))))) (.cons rfl (.cons rfl (.cons rfl (.cons rfl .nil)))))
   ·refine Tr.sr (Tr.va rfl (fun _ _ h1 h2 => Qq (h1.ev rfl) (h1.ev rfl)) ?_)
    refine Tr.asg rfl rfl (Tr.nil (Tr.zA (Tr.cond rfl H (fun H => ?_) (fun H => ?_))))
    ·exact Tr.skip (Tr.zb leJ149 (sEq p1 (⟨#[102, 108, 97, 115, 104]⟩)) H (.cons rfl (.cons rfl (.cons rfl (.cons rfl (.cons rfl (.cons rfl .nil)))))) (.cons rfl (.cons rfl (.cons rfl (.cons rfl .nil)))))
    ·refine Tr.region (Tr.va rfl (fun _ _ h1 h2 => Qq (h1.ev rfl) (h1.ev rfl)) ?_)
     exact Tr.asg rfl rfl (Tr.nil (Tr.zb leJ149 (sEq p1 (⟨#[108, 105, 110, 101]⟩)) H (.cons rfl (.cons rfl (.cons rfl (.cons rfl (.cons rfl (.cons rfl .nil)))))) (.cons rfl (.cons rfl (.cons rfl (.cons rfl .nil))))))
  ·intro w x148 hlJ150 hs
   have H := hs
   replace H : QU N p0 p1 p2 x148 = some r := H
   replace zBl := zBl.leR hlJ150
   replace leB := leB.trans hlJ150
   replace leJ142 := leJ142.trans hlJ150
   unfold QU at H
   show Tr _ _ (LF [(0, (.pointer (some ⟨bp0, 0, none⟩))), (1, (sv p1)), (2, (.slice Wt p2.length zCB)), (7, (.pointer (some ⟨QB, 0, none⟩))), (10, (sv p1)), (11, (.bool x148))]) (LE [(0, bx bp0 #[(iv p0.p.Unit), (.slice zG p0.p.Tools.length zH), (.slice zL p0.p.Steps.length zK), (.bool p0.unit), (.slice zn p0.open_.length zo), (.bool p0.step)] 59), (1, ow zL zK 80 zC p0.p.Steps), (2, sk zn zo 85 80 80 zS Dhp0_2), (3, bx QB #[(iv 0), (sv ⟨#[]⟩), (iv 0), (iv 0), (.slice none 0 0), (iv 0), (iv 0), (.slice none 0 0)] 80)]) _
   refine Tr.cond rfl H (fun H => ?_) (fun H => ?_)
   ·refine Tr.seq (Tr.sr (Tr.mv rfl rfl (Tr.va rfl (fun _ _ h1 h2 => QG zEH (h1.ev rfl)) ?_)))
    refine Tr.va rfl (fun _ _ h1 h2 => KV (h1.ev rfl) (h1.ev rfl)) ?_
    refine Tr.nil (Tr.zA (Tr.cond rfl H (fun H => ?_) (fun H => ?_)))
    ·refine Tr.sr (Tr.asg rfl rfl (Tr.nil (Tr.zA (Tr.ret (Tr.zM (Tr.zW (Tr.zM ?_)))))))
     obtain rfl := Option.some.inj H
     exact Tr.out (m := [(.bool false)]) [] (zJ rfl zR) (fun W hW => ⟨w, ((zL, zK), (zn, zo, Dhp0_2)), leB, rfl, ⟨zA0, ⟨Js.1, Js.2⟩⟩, hW.pick (ks := [0, 1, 2]) (by decide) (zO rfl (zO rfl (zO rfl QH)))⟩)
    ·refine Tr.skip (Tr.zA (Tr.sr (Tr.buildSlice 19 (e := 9) (vs := [(0, (sv ⟨#[109, 111, 118, 101]⟩)), (1, (sv ⟨#[102, 108, 97, 115, 104]⟩)), (2, (sv ⟨#[108, 105, 110, 101]⟩))]) (cs := [(sv ⟨#[109, 111, 118, 101]⟩), (sv ⟨#[102, 108, 97, 115, 104]⟩), (sv ⟨#[108, 105, 110, 101]⟩)]) (wn rfl) rfl (QE rfl (QE rfl (QE rfl Qj))) (by kernel_rfl) fun b151 => ?_)))
     refine Tr.mv rfl rfl (Tr.own 19 JG [⟨#[109, 111, 118, 101]⟩, ⟨#[102, 108, 97, 115, 104]⟩, ⟨#[108, 105, 110, 101]⟩] (css := [[(sv ⟨#[109, 111, 118, 101]⟩)], [(sv ⟨#[102, 108, 97, 115, 104]⟩)], [(sv ⟨#[108, 105, 110, 101]⟩)]]) rfl (.cons ⟨(), trivial, rfl⟩ (.cons ⟨(), trivial, rfl⟩ (.cons ⟨(), trivial, rfl⟩ .nil))) rfl (by decide) (zF1 rfl) ?_)
     obtain ⟨y152, hy152, H⟩ := bnd H
     refine Tr.Qa (r := (iv y152)) (wn rfl) rfl Tryz.call58 (zI rfl (zI rfl zT)) (fun W hW => zED ([⟨#[109, 111, 118, 101]⟩, ⟨#[102, 108, 97, 115, 104]⟩, ⟨#[108, 105, 110, 101]⟩]) (some ⟨b151, 0, none⟩) 3 (hW.zBy (k := 19) rfl) p1 y152 hy152 (HF.start _)) ?_
     refine Tr.va rfl (fun _ _ h1 h2 => QS (h1.ev rfl) (h1.ev rfl)) ?_
     refine Tr.va rfl (fun _ _ h1 h2 => zB zBd (h1.ev rfl)) ?_
     refine Tr.store 3 (cs := [(iv (w64 (4 + y152)))]) [(iv (w64 (4 + y152))), (sv ⟨#[]⟩), (iv 0), (iv 0), (.slice none 0 0), (iv 0), (iv 0), (.slice none 0 0)] (wn rfl) rfl rfl rfl rfl zJa rfl rfl rfl ?_
     refine Tr.nil (Tr.zA (Tr.drawTail 6 (by kernel_rfl) (by kernel_rfl) ?_))
     refine Tq.mv rfl rfl ?_
     obtain ⟨x153, hx153, H⟩ := bnd H
     obtain ⟨hx1530, hx1531, hx1532⟩ := zw hx153
     refine Tq.va rfl (fun _ _ h1 h2 => zN zAb (h1.ev rfl) zBl.form (h1.ev rfl) hx1530 hx1531) ?_
     refine Tq.va rfl (fun _ _ h1 h2 => zF Qu (h1.ev rfl) (rdF Vy zBl hx1532 h2) rfl) ?_
     refine Tq.mv rfl rfl ?_
     obtain ⟨x154, hx154, H⟩ := bnd H
     obtain ⟨hx1540, hx1541, hx1542⟩ := zw hx154
     refine Tq.va rfl (fun _ _ h1 h2 => zN zAb (h1.ev rfl) zBl.form (h1.ev rfl) hx1540 hx1541) ?_
     refine Tq.va rfl (fun _ _ h1 h2 => zF Qu (h1.ev rfl) (rdF Vy zBl hx1542 h2) rfl) ?_
     refine Tq.nil (Tr.build (vs := [(0, (iv x153)), (1, (iv x154))]) (cs := [(iv x153), (iv x154)]) (wn rfl) rfl (QE rfl (QE rfl Qj)) (by kernel_rfl) ?_)
     refine Tr.va rfl (fun _ _ h1 h2 => zB zBH (h1.ev rfl)) ?_
     refine Tr.store 3 (cs := [(iv x153), (iv x154)]) [(iv (w64 (4 + y152))), (sv ⟨#[]⟩), (iv x153), (iv x154), (.slice none 0 0), (iv 0), (iv 0), (.slice none 0 0)] (wn rfl) rfl rfl rfl rfl Wx rfl rfl rfl ?_
     refine Tr.nil (Tr.zi (Tr.JZ 18 52 QM ?_))
     exact Tr.zb leJ142 ((w64 (4 + y152)), x153, x154, ([] : List zf), none, 0) ⟨H, Qr⟩ (.cons rfl (.cons rfl .nil)) (.cons rfl (.cons rfl (.cons rfl (.cons rfl (.cons rfl .nil)))))
   ·refine Tr.sr (Tr.va rfl (fun _ _ h1 h2 => Qq (h1.ev rfl) (h1.ev rfl)) ?_)
    refine Tr.asg rfl rfl (Tr.nil (Tr.zA (Tr.cond rfl H (fun H => ?_) (fun H => ?_))))
    ·refine Tr.seq (Tr.sr (Tr.mv rfl rfl (Tr.va rfl (fun _ _ h1 h2 => QG zEH (h1.ev rfl)) ?_)))
     refine Tr.va rfl (fun _ _ h1 h2 => zGv (h1.ev rfl) (h1.ev rfl) (by decide)) ?_
     refine Tr.va rfl (fun _ _ h1 h2 => KV (h1.ev rfl) (h1.ev rfl)) ?_
     refine Tr.nil (Tr.zA (Tr.cond rfl H (fun H => ?_) (fun H => ?_)))
     ·refine Tr.sr (Tr.asg rfl rfl (Tr.nil (Tr.zA (Tr.ret (Tr.zM (Tr.zW (Tr.zM ?_)))))))
      obtain rfl := Option.some.inj H
      exact Tr.out (m := [(.bool false)]) [] (zJ rfl zR) (fun W hW => ⟨w, ((zL, zK), (zn, zo, Dhp0_2)), leB, rfl, ⟨zA0, ⟨Js.1, Js.2⟩⟩, hW.pick (ks := [0, 1, 2]) (by decide) (zO rfl (zO rfl (zO rfl QH)))⟩)
     ·refine Tr.skip (Tr.zA (Tr.sr (Tr.va rfl (fun _ _ h1 h2 => zB zBd (h1.ev rfl)) ?_)))
      refine Tr.store 3 (cs := [(iv 7)]) [(iv 7), (sv ⟨#[]⟩), (iv 0), (iv 0), (.slice none 0 0), (iv 0), (iv 0), (.slice none 0 0)] (wn rfl) rfl rfl rfl rfl zJa rfl rfl rfl ?_
      refine Tr.nil (Tr.zA (Tr.sr (Tr.asg rfl rfl (Tr.nil (Tr.zA (Tr.block (Tr.JZ 26 52 QM ?_)))))))
      refine Tr.loop (σ := (List zf) × Int × (Option Addr) × Nat) (fun m w s => JU p0 p2 m s.1 s.2.1 = some r ∧ SlF s.2.2.1 s.1.length s.2.2.2) (fun s => [(0, (.pointer (some ⟨bp0, 0, none⟩))), (2, (.slice Wt p2.length zCB)), (7, (.pointer (some ⟨QB, 0, none⟩))), (8, (iv s.2.1))]) (fun s => [(0, bx bp0 #[(iv p0.p.Unit), (.slice zG p0.p.Tools.length zH), (.slice zL p0.p.Steps.length zK), (.bool p0.unit), (.slice zn p0.open_.length zo), (.bool p0.step)] 59), (1, ow zL zK 80 zC p0.p.Steps), (2, sk zn zo 85 80 80 zS Dhp0_2), (3, bx QB #[(iv 7), (sv ⟨#[]⟩), (iv 0), (iv 0), (.slice s.2.2.1 s.1.length s.2.2.2), (iv 0), (iv 0), (.slice none 0 0)] 80), (26, ow s.2.2.1 s.2.2.2 52 QM s.1)]) N (([] : List zf), 0, none, 0) ⟨H, Qr⟩ (.cons rfl (.cons rfl (.cons rfl (.cons rfl .nil)))) (.cons rfl (.cons rfl (.cons rfl (.cons rfl (.cons rfl .nil))))) (fun _ _ h => WM (h.1)) ?_
      intro w zG3 mL4 s hs
      obtain ⟨zG6, zFX, zHl, zHT⟩ := s
      obtain ⟨H, hl169⟩ := hs
      replace H : JU p0 p2 (mL4 + 1) zG6 zFX = some r := H
      replace zBl := zBl.leR zG3
      replace leJ142 := leJ142.trans zG3
      replace hl169 : SlF zHl zG6.length zHT := hl169
      rw [JU.eq_2] at H
      show Tr _ _ (LF [(0, (.pointer (some ⟨bp0, 0, none⟩))), (2, (.slice Wt p2.length zCB)), (7, (.pointer (some ⟨QB, 0, none⟩))), (8, (iv zFX))]) (LE [(0, bx bp0 #[(iv p0.p.Unit), (.slice zG p0.p.Tools.length zH), (.slice zL p0.p.Steps.length zK), (.bool p0.unit), (.slice zn p0.open_.length zo), (.bool p0.step)] 59), (1, ow zL zK 80 zC p0.p.Steps), (2, sk zn zo 85 80 80 zS Dhp0_2), (3, bx QB #[(iv 7), (sv ⟨#[]⟩), (iv 0), (iv 0), (.slice zHl zG6.length zHT), (iv 0), (iv 0), (.slice none 0 0)] 80), (26, ow zHl zHT 52 QM zG6)]) _
      refine Tr.seq (Tr.sr (Tr.mv rfl rfl (Tr.mv rfl rfl (Tr.va rfl (fun _ _ h1 h2 => QG zEH (h1.ev rfl)) ?_))))
      refine Tr.va rfl (fun _ _ h1 h2 => QV (h1.ev rfl) (h1.ev rfl)) ?_
      refine Tr.nil (Tr.zA (Tr.cond rfl H (fun H => ?_) (fun H => ?_)))
      ·refine Tr.skip (Tr.zA (Tr.seq (Tr.block ?_)))
       obtain ⟨zGU, hx172, H⟩ := bnd H
       obtain ⟨hx1720, hx1721, hx1722⟩ := zw hx172
       obtain ⟨zGT, hx173, H⟩ := bnd H
       obtain ⟨hx1730, hx1731, hx1732⟩ := zw hx173
       refine Tr.drawF 13 [(12, .makeFunc (.func 0) #[] #[.tmp 55])] [(12, ⟨56, 27, (.func (.func 0) #[] #[(.agg #[(iv zGU), (iv zGT)])]), fun b => .slice (some ⟨b, 0, none⟩) 1 1, fun b => bx b #[(iv zGU), (iv zGT)] 52⟩)] [(0, (.pointer (some ⟨bp0, 0, none⟩))), (2, (.slice Wt p2.length zCB)), (7, (.pointer (some ⟨QB, 0, none⟩))), (8, (iv zFX)), (38, (iv zFX)), (39, (.slice Wt p2.length zCB)), (40, (iv (p2.length : Int))), (41, (.bool (decide (zFX < (p2.length : Int))))), (44, (.pointer (some ⟨QB, 4, none⟩))), (45, (.slice zHl zG6.length zHT)), (46, (.slice Wt p2.length zCB)), (47, (iv zFX)), (48, (.pointer (some ⟨adB Wt, adO Wt + (zFX).toNat * 1, none⟩))), (49, (iv zGU)), (50, (.slice Wt p2.length zCB)), (51, (iv zFX)), (52, (iv (w64 (zFX + 1)))), (53, (.pointer (some ⟨adB Wt, adO Wt + ((w64 (zFX + 1))).toNat * 1, none⟩))), (54, (iv zGT)), (55, (.agg #[(iv zGU), (iv zGT)])), (56, (.func (.func 0) #[] #[(.agg #[(iv zGU), (iv zGT)])]))] (by kernel_rfl) (by kernel_rfl) (by kernel_rfl) (by kernel_rfl) (by kernel_rfl) (by kernel_rfl) (by kernel_rfl) (Vr (fr_lit (vs := [(0, (.agg #[(iv zGU), (iv zGT)]))]) rfl rfl rfl (by kernel_rfl)) Wp) (Vr rfl Wp) (Vr rfl Wp) ?_ ?_
       ·refine Tq.va rfl (fun _ _ h1 h2 => zB zBG (h1.ev rfl)) ?_
        refine Tq.va rfl (fun _ _ h1 h2 => zF zFs (h1.ev rfl) (rdb h2 (vs := [(iv 7), (sv ⟨#[]⟩), (iv 0), (iv 0), (.slice zHl zG6.length zHT), (iv 0), (iv 0), (.slice none 0 0)]) (k := 3) rfl 4) rfl) ?_
        refine Tq.mv rfl rfl (Tq.mv rfl rfl (Tq.va rfl (fun _ _ h1 h2 => zN zAb (h1.ev rfl) zBl.form (h1.ev rfl) hx1720 hx1721) ?_))
        refine Tq.va rfl (fun _ _ h1 h2 => zF Qu (h1.ev rfl) (rdF Vy zBl hx1722 h2) rfl) ?_
        refine Tq.mv rfl rfl (Tq.mv rfl rfl (Tq.va rfl (fun _ _ h1 h2 => QS (h1.ev rfl) (h1.ev rfl)) ?_))
        refine Tq.va rfl (fun _ _ h1 h2 => zN zAb (h1.ev rfl) zBl.form (h1.ev rfl) hx1730 hx1731) ?_
        refine Tq.va rfl (fun _ _ h1 h2 => zF Qu (h1.ev rfl) (rdF Vy zBl hx1732 h2) rfl) ?_
        refine Tq.build (vs := [(0, (iv zGU)), (1, (iv zGT))]) (cs := [(iv zGU), (iv zGT)]) (wn rfl) rfl (QE rfl (QE rfl Qj)) (by kernel_rfl) ?_
        refine Tq.zFg (vs := [(.agg #[(iv zGU), (iv zGT)])]) (wn rfl) rfl (zI rfl zT) ?_
        exact Tq.fin (.cons rfl (.cons rfl (.cons rfl (.cons rfl (.cons rfl (.cons rfl (.cons rfl (.cons rfl (.cons rfl (.cons rfl (.cons rfl (.cons rfl (.cons rfl (.cons rfl (.cons rfl (.cons rfl (.cons rfl (.cons rfl (.cons rfl (.cons rfl (.cons rfl .nil)))))))))))))))))))))
       ·intro bs171
        refine Tr.sel (lf := [(0, (.pointer (some ⟨bp0, 0, none⟩))), (2, (.slice Wt p2.length zCB)), (7, (.pointer (some ⟨QB, 0, none⟩))), (8, (iv zFX)), (45, (.slice zHl zG6.length zHT)), (56, (.slice (some ⟨(bs171 12), 0, none⟩) 1 1))]) (le := [(0, bx bp0 #[(iv p0.p.Unit), (.slice zG p0.p.Tools.length zH), (.slice zL p0.p.Steps.length zK), (.bool p0.unit), (.slice zn p0.open_.length zo), (.bool p0.step)] 59), (1, ow zL zK 80 zC p0.p.Steps), (2, sk zn zo 85 80 80 zS Dhp0_2), (3, bx QB #[(iv 7), (sv ⟨#[]⟩), (iv 0), (iv 0), (.slice zHl zG6.length zHT), (iv 0), (iv 0), (.slice none 0 0)] 80), (26, ow zHl zHT 52 QM zG6), (27, bx (bs171 12) #[(iv zGU), (iv zGT)] 52)]) (.cons rfl (.cons rfl (.cons rfl (.cons rfl (.cons rfl (.cons rfl .nil)))))) (.cons rfl (.cons rfl (.cons rfl (.cons rfl (.cons rfl (.cons rfl .nil)))))) ?_
        obtain ⟨l174, hl174, H⟩ := bnd H
        refine Tr.append 26 (t := QM) (l := zG6) (l2 := [(zf.mk zGU zGT)]) (wn rfl) rfl rfl rfl rfl (fun W hW => ⟨[[(iv zGU), (iv zGT)]], (.cons ⟨(), trivial, rfl⟩ .nil), rdb hW (vs := [(iv zGU), (iv zGT)]) (k := 27) rfl 0⟩) zCM Wx zl_52 (by decide) by_52 rfl hl174 fun Al174 cl174 hAl174 => ?_
        refine Tr.va rfl (fun _ _ h1 h2 => zB zBG (h1.ev rfl)) ?_
        refine Tr.store 3 (cs := [(.slice Al174 l174.length cl174)]) [(iv 7), (sv ⟨#[]⟩), (iv 0), (iv 0), (.slice Al174 l174.length cl174), (iv 0), (iv 0), (.slice none 0 0)] (wn rfl) rfl rfl rfl rfl sz_78 rfl rfl rfl ?_
        refine Tr.nil (Tr.zi (Tr.zA (Tr.region (Tr.mv rfl rfl (Tr.va rfl (fun _ _ h1 h2 => QS (h1.ev rfl) (h1.ev rfl)) ?_)))))
        exact Tr.asg rfl rfl (Tr.nil (Tr.zb zG3 (l174, (w64 (zFX + 2)), Al174, cl174) ⟨H, hAl174⟩ (.cons rfl (.cons rfl (.cons rfl (.cons rfl .nil)))) (.cons rfl (.cons rfl (.cons rfl (.cons rfl (.cons rfl .nil)))))))
      ·refine Tr.exit (Tr.zx (Tr.zx (Tr.Qd (Tr.zi (Tr.ren 26 18 rfl rfl rfl ?_)))))
       exact Tr.zb leJ142 (7, 0, 0, zG6, zHl, zHT) ⟨H, hl169⟩ (.cons rfl (.cons rfl .nil)) (.cons rfl (.cons rfl (.cons rfl (.cons rfl (.cons rfl .nil)))))
    ·refine Tr.sr (Tr.va rfl (fun _ _ h1 h2 => Qq (h1.ev rfl) (h1.ev rfl)) ?_)
     refine Tr.asg rfl rfl (Tr.nil (Tr.zA (Tr.cond rfl H (fun H => ?_) (fun H => ?_))))
     ·refine Tr.seq (Tr.sr (Tr.mv rfl rfl (Tr.va rfl (fun _ _ h1 h2 => QG zEH (h1.ev rfl)) ?_)))
      refine Tr.va rfl (fun _ _ h1 h2 => KV (h1.ev rfl) (h1.ev rfl)) ?_
      refine Tr.nil (Tr.zA (Tr.cond rfl H (fun H => ?_) (fun H => ?_)))
      ·refine Tr.sr (Tr.asg rfl rfl (Tr.nil (Tr.zA (Tr.ret (Tr.zM (Tr.zW (Tr.zM ?_)))))))
       obtain rfl := Option.some.inj H
       exact Tr.out (m := [(.bool false)]) [] (zJ rfl zR) (fun W hW => ⟨w, ((zL, zK), (zn, zo, Dhp0_2)), leB, rfl, ⟨zA0, ⟨Js.1, Js.2⟩⟩, hW.pick (ks := [0, 1, 2]) (by decide) (zO rfl (zO rfl (zO rfl QH)))⟩)
      ·refine Tr.skip (Tr.zA (Tr.seq (Tr.skOpen 2 28 29 rfl rfl rfl rfl ?_)))
       show Tr _ _ _ (up (up (up _ 2 (ow zn zo 85 (flP zC) Dhp0_2)) 28 (bxs 80 zS Dhp0_2)) 29 (ins 80 zC (Dhp0_2.map (pne zS)))) _
       refine Tr.sel (lf := [(0, (.pointer (some ⟨bp0, 0, none⟩))), (1, (sv p1)), (2, (.slice Wt p2.length zCB)), (7, (.pointer (some ⟨QB, 0, none⟩))), (10, (sv p1)), (11, (.bool x148)), (31, (.bool (sEq p1 (⟨#[97, 114, 101, 97]⟩)))), (32, (.bool (sEq p1 (⟨#[97, 114, 101, 97]⟩)))), (59, (.bool (sEq p1 (⟨#[114, 101, 112, 101, 97, 116]⟩)))), (60, (.bool (sEq p1 (⟨#[114, 101, 112, 101, 97, 116]⟩)))), (61, (.slice Wt p2.length zCB)), (62, (iv (p2.length : Int))), (63, (.bool ((p2.length : Int) != 4)))]) (le := [(0, bx bp0 #[(iv p0.p.Unit), (.slice zG p0.p.Tools.length zH), (.slice zL p0.p.Steps.length zK), (.bool p0.unit), (.slice zn Dhp0_2.length zo), (.bool p0.step)] 59), (1, ow zL zK 80 zC p0.p.Steps), (2, ow zn zo 85 (flP zC) Dhp0_2), (3, bx QB #[(iv 0), (sv ⟨#[]⟩), (iv 0), (iv 0), (.slice none 0 0), (iv 0), (iv 0), (.slice none 0 0)] 80), (28, bxs 80 zS Dhp0_2), (29, ins 80 zC (Dhp0_2.map (pne zS)))]) (.cons rfl (.cons rfl (.cons rfl (.cons rfl (.cons rfl (.cons rfl (.cons rfl (.cons rfl (.cons rfl (.cons rfl (.cons rfl (.cons rfl (.cons rfl .nil))))))))))))) (.cons (ebx rfl (by rw [Js.1.len])) (.cons rfl (.cons rfl (.cons rfl (.cons rfl (.cons rfl .nil)))))) ?_
       refine Tr.zGK 22 [(21, (ow zn zo 85 (flP zC) Dhp0_2).S)] [] (by kernel_rfl) (by kernel_rfl) fun sz175 hlosz175 hEsz175 => ?_
       refine Dr.JR 0 (by kernel_rfl) rfl (wn rfl) rfl (by kernel_rfl) (fun _ _ h1 => run_move (h1.ev rfl)) rfl ?_
       refine Dr.JR 1 (by kernel_rfl) rfl (wn rfl) rfl (by kernel_rfl) (fun _ _ h1 => run_move (h1.ev rfl)) rfl ?_
       refine Dr.JR 2 (by kernel_rfl) rfl (wn rfl) rfl (by kernel_rfl) (fun _ _ h1 => zg (h1.ev rfl)) rfl ?_
       refine Dr.JR 3 (by kernel_rfl) rfl (wn rfl) rfl (by kernel_rfl) (fun _ _ h1 => zB zB8 (h1.ev rfl)) rfl ?_
       refine Dr.quiet 4 [(68, (.slice zn Dhp0_2.length zo))] (by kernel_rfl) rfl rfl (by kernel_rfl) ?_ rfl rfl ?_
       ·refine Tq.va rfl (fun _ _ h1 h2 => zF zHY (h1.ev rfl) (rdb h2 (vs := [(iv p0.p.Unit), (.slice zG p0.p.Tools.length zH), (.slice zL p0.p.Steps.length zK), (.bool p0.unit), (.slice zn Dhp0_2.length zo), (.bool p0.step)]) (k := 0) rfl 4) rfl) ?_
        exact Tq.fin (.cons rfl .nil)
       refine Dr.JR 5 (by kernel_rfl) rfl (wn rfl) rfl (by kernel_rfl) (fun _ _ h1 => run_move (h1.ev rfl)) rfl ?_
       obtain ⟨zGS, hx176, H⟩ := bnd H
       obtain ⟨hx1760, hx1761, hx1762⟩ := zw hx176
       refine Dr.JR 6 (by kernel_rfl) rfl (wn rfl) rfl (by kernel_rfl) (fun _ _ h1 => zN zAb (h1.ev rfl) zBl.form (h1.ev rfl) hx1760 hx1761) rfl ?_
       refine Dr.zAN 7 [(71, (iv zGS))] [21] false (by kernel_rfl) rfl rfl (by kernel_rfl) (fun W W' h2 hsW hk => HF.zB3 (le := []) (ks := [(2, (ow zn zo 85 (flP zC) Dhp0_2).S)]) (s0 := sz175) false h2 hk (fun h => absurd h (by decide)) .nil (fun b hb => hb.elim (fun ⟨p, hp, hf, hb⟩ => by simp only [List.mem_cons, List.not_mem_nil, or_false] at hp; rcases hp with rfl; exact .inl ⟨_, List.mem_cons_self, hb⟩) (fun hb => absurd hb.1 (by decide))) (List.forall_mem_cons.2 ⟨fun b hb => hb, (fun _ h => nomatch h)⟩) rfl) ?_ rfl rfl ?_
       ·refine Tq.va rfl (fun _ _ h1 h2 => zF Qu (h1.ev rfl) (rdF Vy zBl hx1762 h2) rfl) ?_
        exact Tq.fin (.cons rfl .nil)
       refine Dr.JR 8 (by kernel_rfl) rfl (wn rfl) rfl (by kernel_rfl) (fun _ _ h1 => run_move (h1.ev rfl)) rfl ?_
       obtain ⟨zGR, hx177, H⟩ := bnd H
       obtain ⟨hx1770, hx1771, hx1772⟩ := zw hx177
       refine Dr.JR 9 (by kernel_rfl) rfl (wn rfl) rfl (by kernel_rfl) (fun _ _ h1 => zN zAb (h1.ev rfl) zBl.form (h1.ev rfl) hx1770 hx1771) rfl ?_
       refine Dr.zAN 10 [(74, (iv zGR))] [21] false (by kernel_rfl) rfl rfl (by kernel_rfl) (fun W W' h2 hsW hk => HF.zB3 (le := []) (ks := [(2, (ow zn zo 85 (flP zC) Dhp0_2).S)]) (s0 := sz175) false h2 hk (fun h => absurd h (by decide)) .nil (fun b hb => hb.elim (fun ⟨p, hp, hf, hb⟩ => by simp only [List.mem_cons, List.not_mem_nil, or_false] at hp; rcases hp with rfl; exact .inl ⟨_, List.mem_cons_self, hb⟩) (fun hb => absurd hb.1 (by decide))) (List.forall_mem_cons.2 ⟨fun b hb => hb, (fun _ h => nomatch h)⟩) rfl) ?_ rfl rfl ?_
       ·refine Tq.va rfl (fun _ _ h1 h2 => zF Qu (h1.ev rfl) (rdF Vy zBl hx1772 h2) rfl) ?_
        exact Tq.fin (.cons rfl .nil)
       refine Dr.JR 11 (by kernel_rfl) rfl (wn rfl) rfl (by kernel_rfl) (fun _ _ h1 => run_move (h1.ev rfl)) rfl ?_
       obtain ⟨zEh, hx178, H⟩ := bnd H
       obtain ⟨hx1780, hx1781, hx1782⟩ := zw hx178
       refine Dr.JR 12 (by kernel_rfl) rfl (wn rfl) rfl (by kernel_rfl) (fun _ _ h1 => zN zAb (h1.ev rfl) zBl.form (h1.ev rfl) hx1780 hx1781) rfl ?_
       refine Dr.zAN 13 [(77, (iv zEh))] [21] false (by kernel_rfl) rfl rfl (by kernel_rfl) (fun W W' h2 hsW hk => HF.zB3 (le := []) (ks := [(2, (ow zn zo 85 (flP zC) Dhp0_2).S)]) (s0 := sz175) false h2 hk (fun h => absurd h (by decide)) .nil (fun b hb => hb.elim (fun ⟨p, hp, hf, hb⟩ => by simp only [List.mem_cons, List.not_mem_nil, or_false] at hp; rcases hp with rfl; exact .inl ⟨_, List.mem_cons_self, hb⟩) (fun hb => absurd hb.1 (by decide))) (List.forall_mem_cons.2 ⟨fun b hb => hb, (fun _ h => nomatch h)⟩) rfl) ?_ rfl rfl ?_
       ·refine Tq.va rfl (fun _ _ h1 h2 => zF Qu (h1.ev rfl) (rdF Vy zBl hx1782 h2) rfl) ?_
        exact Tq.fin (.cons rfl .nil)
       refine Dr.JR 14 (by kernel_rfl) rfl (wn rfl) rfl (by kernel_rfl) (fun _ _ h1 => run_move (h1.ev rfl)) rfl ?_
       obtain ⟨zCz, hx179, H⟩ := bnd H
       obtain ⟨hx1790, hx1791, hx1792⟩ := zw hx179
       refine Dr.JR 15 (by kernel_rfl) rfl (wn rfl) rfl (by kernel_rfl) (fun _ _ h1 => zN zAb (h1.ev rfl) zBl.form (h1.ev rfl) hx1790 hx1791) rfl ?_
       refine Dr.zAN 16 [(80, (iv zCz))] [21] false (by kernel_rfl) rfl rfl (by kernel_rfl) (fun W W' h2 hsW hk => HF.zB3 (le := []) (ks := [(2, (ow zn zo 85 (flP zC) Dhp0_2).S)]) (s0 := sz175) false h2 hk (fun h => absurd h (by decide)) .nil (fun b hb => hb.elim (fun ⟨p, hp, hf, hb⟩ => by simp only [List.mem_cons, List.not_mem_nil, or_false] at hp; rcases hp with rfl; exact .inl ⟨_, List.mem_cons_self, hb⟩) (fun hb => absurd hb.1 (by decide))) (List.forall_mem_cons.2 ⟨fun b hb => hb, (fun _ h => nomatch h)⟩) rfl) ?_ rfl rfl ?_
       ·refine Tq.va rfl (fun _ _ h1 h2 => zF Qu (h1.ev rfl) (rdF Vy zBl hx1792 h2) rfl) ?_
        exact Tq.fin (.cons rfl .nil)
       refine Dr.zAN 17 [(81, (.agg #[(iv zEh), (iv zCz)]))] [21] false (by kernel_rfl) rfl rfl (by kernel_rfl) (fun W W' h2 hsW hk => HF.zB3 (le := []) (ks := [(2, (ow zn zo 85 (flP zC) Dhp0_2).S)]) (s0 := sz175) false h2 hk (fun h => absurd h (by decide)) .nil (fun b hb => hb.elim (fun ⟨p, hp, hf, hb⟩ => by simp only [List.mem_cons, List.not_mem_nil, or_false] at hp; rcases hp with rfl; exact .inl ⟨_, List.mem_cons_self, hb⟩) (fun hb => absurd hb.1 (by decide))) (List.forall_mem_cons.2 ⟨fun b hb => hb, (fun _ h => nomatch h)⟩) rfl) ?_ rfl rfl ?_
       ·refine Tq.build (vs := [(0, (iv zEh)), (1, (iv zCz))]) (cs := [(iv zEh), (iv zCz)]) (wn rfl) rfl (QE rfl (QE rfl Qj)) (by kernel_rfl) ?_
        exact Tq.fin (.cons rfl .nil)
       refine Dr.zAN 18 [(82, (.agg #[(iv 8), (sv ⟨#[]⟩), (iv zEh), (iv zCz), (.slice none 0 0), (iv zGS), (iv zGR), (.slice none 0 0)]))] [21] false (by kernel_rfl) rfl rfl (by kernel_rfl) (fun W W' h2 hsW hk => HF.zB3 (le := []) (ks := [(2, (ow zn zo 85 (flP zC) Dhp0_2).S)]) (s0 := sz175) false h2 hk (fun h => absurd h (by decide)) .nil (fun b hb => hb.elim (fun ⟨p, hp, hf, hb⟩ => by simp only [List.mem_cons, List.not_mem_nil, or_false] at hp; rcases hp with rfl; exact .inl ⟨_, List.mem_cons_self, hb⟩) (fun hb => absurd hb.1 (by decide))) (List.forall_mem_cons.2 ⟨fun b hb => hb, (fun _ h => nomatch h)⟩) rfl) ?_ rfl rfl ?_
       ·refine Tq.build (vs := [(0, (iv 8)), (4, (iv zGS)), (5, (iv zGR)), (2, (.agg #[(iv zEh), (iv zCz)]))]) (cs := [(iv 8), (sv ⟨#[]⟩), (iv zEh), (iv zCz), (.slice none 0 0), (iv zGS), (iv zGR), (.slice none 0 0)]) (wn rfl) rfl (QE rfl (QE rfl (QE rfl (QE rfl Qj)))) (by kernel_rfl) ?_
        exact Tq.fin (.cons rfl .nil)
       refine Dr.one 19 (by kernel_rfl) ?_
       refine St.box 19 30 (cs := [(iv 8), (sv ⟨#[]⟩), (iv zEh), (iv zCz), (.slice none 0 0), (iv zGS), (iv zGR), (.slice none 0 0)]) rfl (wn rfl) rfl rfl rfl fun b180 hb180 => ?_
       refine Dr.one 20 (by kernel_rfl) ?_
       refine St.buildSlice 20 31 (e := 85) (vs := [(0, (.pointer (some ⟨b180, 0, none⟩)))]) (cs := [(.pointer (some ⟨b180, 0, none⟩))]) rfl (wn rfl) rfl (QE rfl Qj) (by kernel_rfl) fun b181 hb181 => ?_
       obtain ⟨l182, hl182, H⟩ := bnd H
       refine Dr.one 21 (by kernel_rfl) ?_
       refine St.append 21 2 (t' := (flP zC)) (ll := Dhp0_2) (l2 := [(PE.mk (t := zC) b180 ((none, 0), (none, 0)) (zD.mk 8 (⟨#[]⟩) (zf.mk zEh zCz) [] zGS zGR []) true)]) (fun b hb => .inl ⟨_, List.mem_cons_self, rfl, hb⟩) rfl (wn rfl) rfl rfl rfl rfl (fun W hW => ⟨[[(.pointer (some ⟨b180, 0, none⟩))]], .cons ⟨(), trivial, rfl⟩ .nil, rdb hW (vs := [(.pointer (some ⟨b180, 0, none⟩))]) (k := 31) rfl 0⟩) un_57 sz_85 zl_85 Nat.one_pos by_85 rfl (apd_ms Js.1 hl182) fun Al182 cl182 hAl182 => ?_
       refine Dr.tail (by kernel_rfl) ?_
       refine Tr.va rfl (fun _ _ h1 h2 => zg (h1.ev rfl)) ?_
       refine Tr.va rfl (fun _ _ h1 h2 => zB zB8 (h1.ev rfl)) ?_
       refine Tr.store 0 (cs := [(.slice Al182 (Dhp0_2 ++ [(PE.mk (t := zC) b180 ((none, 0), (none, 0)) (zD.mk 8 (⟨#[]⟩) (zf.mk zEh zCz) [] zGS zGR []) true)]).length cl182)]) [(iv p0.p.Unit), (.slice zG p0.p.Tools.length zH), (.slice zL p0.p.Steps.length zK), (.bool p0.unit), (.slice Al182 (Dhp0_2 ++ [(PE.mk (t := zC) b180 ((none, 0), (none, 0)) (zD.mk 8 (⟨#[]⟩) (zf.mk zEh zCz) [] zGS zGR []) true)]).length cl182), (.bool p0.step)] (wn rfl) rfl rfl rfl rfl sz_57 rfl rfl rfl ?_
       refine Tr.JZ 32 80 zC ?_
       refine Tr.skShut (L := zS) 2 28 29 30 32 (u := ((none, 0), (none, 0))) (x := (zD.mk 8 (⟨#[]⟩) (zf.mk zEh zCz) [] zGS zGR ([] : List zD))) (cs := [(iv 8), (sv ⟨#[]⟩), (iv zEh), (iv zCz), (.slice none 0 0), (iv zGS), (iv zGR), (.slice none 0 0)]) rfl rfl rfl rfl rfl rfl rfl rfl rfl rfl rfl rfl rfl rfl rfl (Sl.nil _ _ _) rfl rfl rfl Qr Js.1 hl182 fun ms183 hmms183 => ?_
       have hl184 := (len_ms (e := (PE.mk (t := zC) b180 ((none, 0), (none, 0)) (zD.mk 8 (⟨#[]⟩) (zf.mk zEh zCz) [] zGS zGR []) true)) Js.1 hl182)
       have hfhl184 : SlF Al182 l182.length cl182 := by rw [← hl184]; exact hAl182
       refine Tr.sel (lf := [(0, (.pointer (some ⟨bp0, 0, none⟩))), (1, (sv p1)), (2, (.slice Wt p2.length zCB)), (7, (.pointer (some ⟨QB, 0, none⟩))), (10, (sv p1)), (11, (.bool x148)), (31, (.bool (sEq p1 (⟨#[97, 114, 101, 97]⟩)))), (32, (.bool (sEq p1 (⟨#[97, 114, 101, 97]⟩)))), (59, (.bool (sEq p1 (⟨#[114, 101, 112, 101, 97, 116]⟩)))), (60, (.bool (sEq p1 (⟨#[114, 101, 112, 101, 97, 116]⟩)))), (61, (.slice Wt p2.length zCB)), (62, (iv (p2.length : Int))), (63, (.bool ((p2.length : Int) != 4))), (64, (.pointer (some ⟨bp0, 0, none⟩))), (65, (.pointer (some ⟨bp0, 0, none⟩))), (66, (.pointer (some ⟨bp0, 0, none⟩))), (67, (.pointer (some ⟨bp0, 4, none⟩))), (69, (.slice Wt p2.length zCB)), (70, (.pointer (some ⟨adB Wt, adO Wt + ((0 : Int)).toNat * 1, none⟩))), (71, (iv zGS)), (72, (.slice Wt p2.length zCB)), (73, (.pointer (some ⟨adB Wt, adO Wt + ((1 : Int)).toNat * 1, none⟩))), (74, (iv zGR)), (75, (.slice Wt p2.length zCB)), (76, (.pointer (some ⟨adB Wt, adO Wt + ((2 : Int)).toNat * 1, none⟩))), (77, (iv zEh)), (78, (.slice Wt p2.length zCB)), (79, (.pointer (some ⟨adB Wt, adO Wt + ((3 : Int)).toNat * 1, none⟩))), (80, (iv zCz)), (81, (.agg #[(iv zEh), (iv zCz)])), (82, (.agg #[(iv 8), (sv ⟨#[]⟩), (iv zEh), (iv zCz), (.slice none 0 0), (iv zGS), (iv zGR), (.slice none 0 0)])), (85, (.slice Al182 l182.length cl182)), (86, (.pointer (some ⟨bp0, 0, none⟩))), (87, (.pointer (some ⟨bp0, 4, none⟩)))]) (le := [(0, bx bp0 #[(iv p0.p.Unit), (.slice zG p0.p.Tools.length zH), (.slice zL p0.p.Steps.length zK), (.bool p0.unit), (.slice Al182 l182.length cl182), (.bool p0.step)] 59), (1, ow zL zK 80 zC p0.p.Steps), (2, sk Al182 cl182 85 80 80 zS ms183), (3, bx QB #[(iv 0), (sv ⟨#[]⟩), (iv 0), (iv 0), (.slice none 0 0), (iv 0), (iv 0), (.slice none 0 0)] 80)]) (.cons rfl (.cons rfl (.cons rfl (.cons rfl (.cons rfl (.cons rfl (.cons rfl (.cons rfl (.cons rfl (.cons rfl (.cons rfl (.cons rfl (.cons rfl (.cons rfl (.cons rfl (.cons rfl (.cons rfl (.cons rfl (.cons rfl (.cons rfl (.cons rfl (.cons rfl (.cons rfl (.cons rfl (.cons rfl (.cons rfl (.cons rfl (.cons rfl (.cons rfl (.cons rfl (.cons rfl (.cons (zJe rfl (by rw [hl184])) (.cons rfl (.cons rfl .nil)))))))))))))))))))))))))))))))))) (.cons (ebx rfl (by rw [hl184])) (.cons rfl (.cons rfl (.cons rfl .nil)))) ?_
       refine Tr.nil (Tr.zA (Tr.sr (Tr.asg rfl rfl (Tr.nil (Tr.zA (Tr.ret (Tr.zW (Tr.zM ?_))))))))
       obtain rfl := Option.some.inj H
       exact Tr.out (m := [(.bool true)]) [] (zJ rfl zR) (fun W hW => ⟨w, ((zL, zK), (Al182, cl182, ms183)), leB, rfl, ⟨zA0, ⟨hmms183, hfhl184⟩⟩, hW.pick (ks := [0, 1, 2]) (by decide) (zO rfl (zO rfl (zO rfl QH)))⟩)
     ·refine Tr.sr (Tr.asg rfl rfl (Tr.nil (Tr.zA (Tr.ret (Tr.zW (Tr.zM ?_))))))
      obtain rfl := Option.some.inj H
      exact Tr.out (m := [(.bool false)]) [] (zJ rfl zR) (fun W hW => ⟨w, ((zL, zK), (zn, zo, Dhp0_2)), leB, rfl, ⟨zA0, ⟨Js.1, Js.2⟩⟩, hW.pick (ks := [0, 1, 2]) (by decide) (zO rfl (zO rfl (zO rfl QH)))⟩)
 ·intro w s hlJ143 hs
  obtain ⟨zAv, Vt, x140, zBF, zAZ, zAQ⟩ := s
  obtain ⟨H, hl141⟩ := hs
  replace H : JV p0 zAv Vt x140 zBF = some r := H
  replace ze := ze.leR hlJ143
  replace leB := leB.trans hlJ143
  unfold JV at H
  show Tr _ _ (LF [(0, (.pointer (some ⟨bp0, 0, none⟩))), (7, (.pointer (some ⟨QB, 0, none⟩)))]) (LE [(0, bx bp0 #[(iv p0.p.Unit), (.slice zG p0.p.Tools.length zH), (.slice zL p0.p.Steps.length zK), (.bool p0.unit), (.slice zn p0.open_.length zo), (.bool p0.step)] 59), (1, ow zL zK 80 zC p0.p.Steps), (2, sk zn zo 85 80 80 zS Dhp0_2), (3, bx QB #[(iv zAv), (sv ⟨#[]⟩), (iv Vt), (iv x140), (.slice zAZ zBF.length zAQ), (iv 0), (iv 0), (.slice none 0 0)] 80), (18, ow zAZ zAQ 52 QM zBF)]) _
  refine Tr.sr (Tr.mv rfl rfl (Tr.va rfl (fun _ _ h1 h2 => zu (cs := [(iv zAv), (sv ⟨#[]⟩), (iv Vt), (iv x140), (.slice zAZ zBF.length zAQ), (iv 0), (iv 0), (.slice none 0 0)]) zDA Wo (h1.ev rfl) (za.take (rdb h2 (vs := [(iv zAv), (sv ⟨#[]⟩), (iv Vt), (iv x140), (.slice zAZ zBF.length zAQ), (iv 0), (iv 0), (.slice none 0 0)]) (k := 3) rfl 0) 8) rfl) ?_))
  refine Tr.freeze 18 rfl fun w le145 hz144 => ?_
  replace ze := ze.leR le145
  replace leB := leB.trans le145
  obtain ⟨zCH, hy146, H⟩ := bnd H
  refine Tr.zEX [0, 1, 2] [bx bp0 #[(iv p0.p.Unit), (.slice zG p0.p.Tools.length zH), (.slice zL p0.p.Steps.length zK), (.bool p0.unit), (.slice zn p0.open_.length zo), (.bool p0.step)] 59, ow zL zK 80 zC p0.p.Steps, sk zn zo 85 80 80 zS Dhp0_2] (U := (Option Addr × Nat) × (Option Addr × Nat × List (PE zC))) (fun u => (.tuple #[])) (fun O W u => SlF u.1.1 zCH.1.length u.1.2 ∧ (SK u.2.2.2 zCH.2 ∧ SlF u.2.1 zCH.2.length u.2.2.1)) (fun u => [bx bp0 #[(iv p0.p.Unit), (.slice zG p0.p.Tools.length zH), (.slice u.1.1 zCH.1.length u.1.2), (.bool p0.unit), (.slice u.2.1 zCH.2.length u.2.2.1), (.bool p0.step)] 59, ow u.1.1 u.1.2 80 zC zCH.1, sk u.2.1 u.2.2.1 85 80 80 zS u.2.2.2]) rfl (zO rfl (zO rfl (zO rfl QH))) (fun _ => rfl) (wn rfl) rfl Tryz.call34 (zI rfl (zI rfl zT)) (fun W hW hp hE => Vo p0 zG zH (ze.ext (hW.zCb hp)) zL zK zn zo Dhp0_2 ⟨Js.1, Js.2⟩ bp0 (zD.mk zAv (⟨#[]⟩) (zf.mk Vt x140) zBF 0 0 []) zAZ zAQ (hz144.extO (hW.zCb hp)) none 0 (Sl.nil _ _ _) zCH hy146 hE) ?_
  intro w u le147 hu
  obtain ⟨⟨zJE, zIy⟩, ⟨zJD, zIx, Dy146_1⟩⟩ := u
  obtain ⟨gy146_0, gy146_1⟩ := hu
  replace hz144 := hz144.le le147
  replace leB := leB.trans le147
  have hgy146_0 : SlF zJE zCH.1.length zIy := gy146_0 --@phi
  have hgy146_1 : (SK Dy146_1 zCH.2 ∧ SlF zJD zCH.2.length zIx) := gy146_1 --@phi
  show Tr _ _ (uf _ 90 (.tuple #[])) (up (up (up _ 2 (sk zJD zIx 85 80 80 zS Dy146_1)) 1 (ow zJE zIy 80 zC zCH.1)) 0 (bx bp0 #[(iv p0.p.Unit), (.slice zG p0.p.Tools.length zH), (.slice zJE zCH.1.length zIy), (.bool p0.unit), (.slice zJD zCH.2.length zIx), (.bool p0.step)] 59)) _
  refine Tr.nil (Tr.zA (Tr.sr (Tr.asg rfl rfl (Tr.nil (Tr.zA (Tr.ret ?_))))))
  obtain rfl := Option.some.inj H
  exact Tr.out (m := [(.bool true)]) [] (zJ rfl zR) (fun W hW => ⟨w, ((zJE, zIy), (zJD, zIx, Dy146_1)), leB, rfl, ⟨hgy146_0, ⟨hgy146_1.1, hgy146_1.2⟩⟩, hW.pick (ks := [0, 1, 2]) (by decide) (zO rfl (zO rfl (zO rfl QH)))⟩)

theorem zFD (N : Nat) {w : Bs} (hT : Tab Tryz.prog w) (p0 : QZ) (zG : Option Addr) (zH : Nat) (zL : Option Addr) (zK : Nat) (zn : Option Addr) (zo : Nat) (Dhp0_2 : List (PE zC)) (Js : SK Dhp0_2 p0.open_ ∧ SlF zn p0.open_.length zo) (bp0 : Nat) (p1 : ByteArray) (r : (Bool × Int × Bool × Bool × (List zt) × (List zD) × (List zD))) (H : WT N p0 p1 = some r) (hE : HF w w.W (LEn [bx bp0 #[(iv p0.p.Unit), (.slice zG p0.p.Tools.length zH), (.slice zL p0.p.Steps.length zK), (.bool p0.unit), (.slice zn p0.open_.length zo), (.bool p0.step)] 59, ow zG zH 47 zQ p0.p.Tools, ow zL zK 80 zC p0.p.Steps, sk zn zo 85 80 80 zS Dhp0_2])) : Calls Tryz.prog 18 [(.pointer (some ⟨bp0, 0, none⟩)), (sv p1)].toArray w.W fun e W' => ∃ (w' : Bs) (u : (Option Addr × Nat) × (Option Addr × Nat) × (Option Addr × Nat × List (PE zC))), w.Le w' ∧ e = .returned (.bool r.1) ∧ (SlF u.1.1 r.2.2.2.2.1.length u.1.2 ∧ SlF u.2.1.1 r.2.2.2.2.2.1.length u.2.1.2 ∧ (SK u.2.2.2.2 r.2.2.2.2.2.2 ∧ SlF u.2.2.1 r.2.2.2.2.2.2.length u.2.2.2.1)) ∧ HF w' W' (LEn [bx bp0 #[(iv r.2.1), (.slice u.1.1 r.2.2.2.2.1.length u.1.2), (.slice u.2.1.1 r.2.2.2.2.2.1.length u.2.1.2), (.bool r.2.2.1), (.slice u.2.2.1 r.2.2.2.2.2.2.length u.2.2.2.1), (.bool r.2.2.2.1)] 59, ow u.1.1 u.1.2 47 zQ r.2.2.2.2.1, ow u.2.1.1 u.2.1.2 80 zC r.2.2.2.2.2.1, sk u.2.2.1 u.2.2.2.1 85 80 80 zS u.2.2.2.2]) := by
 unfold WT at H
 have zA1 := (hE.sl (k := 1) rfl).form
 have zA0 := (hE.sl (k := 2) rfl).form
 have leB := Bs.Le.refl w
 refine Tr.enter (n := 113) Tryz.func18 rfl rfl rfl hE ?_
 refine Tr.sr (Tr.asg rfl rfl (Tr.nil (Tr.zA (Tr.sr (Tr.mv rfl rfl ?_)))))
 obtain ⟨zl, zAO, H⟩ := bnd H
 refine Tr.zAC [4] [emp] (U := (Option Addr × Nat)) (fun u => (.slice u.1 zl.length u.2)) (fun u => SlF u.1 zl.length u.2) (fun u => [ow u.1 u.2 9 JG zl]) rfl (zO rfl QH) (fun _ => rfl) (wn rfl) rfl Tryz.call32 (zI rfl (zI rfl zT)) (fun W hW hp hE => zDZ (hT.ext (hW.zCb hp)) p1 (⟨#[32]⟩) zl zAO hE) ?_
 intro u hu
 obtain ⟨Qk, Qh⟩ := u
 have gy100_0 := hu
 have zAA : SlF Qk zl.length Qh := gy100_0 --@phi
 show Tr _ _ (uf _ 11 (.slice Qk zl.length Qh)) (up _ 4 (ow Qk Qh 9 JG zl)) _
 refine Tr.asg rfl rfl (Tr.nil (Tr.zA (Tr.seq (Tr.sr (Tr.mv rfl rfl ?_)))))
 obtain ⟨x102, hx102, H⟩ := bnd H
 obtain ⟨hx1020, hx1021, hx1022⟩ := zw hx102
 refine Tr.va rfl (fun _ _ h1 h2 => zN zAP (h1.ev rfl) zAA (h1.ev rfl) hx1020 hx1021) ?_
 refine Tr.va rfl (fun _ _ h1 h2 => zF zAR (h1.ev rfl) (rdo Wq (k := 4) h2 rfl hx1022) rfl) ?_
 refine Tr.va rfl (fun _ _ h1 h2 => Qq (h1.ev rfl) (h1.ev rfl)) ?_
 refine Tr.mv rfl rfl ?_
 obtain ⟨g104, zC6, H⟩ := bnd H
 refine Tr.Jl 5 [(0, (.pointer (some ⟨bp0, 0, none⟩))), (1, (sv p1)), (5, (.slice Qk zl.length Qh)), (21, (.bool g104))] [(0, bx bp0 #[(iv p0.p.Unit), (.slice zG p0.p.Tools.length zH), (.slice zL p0.p.Steps.length zK), (.bool p0.unit), (.slice zn p0.open_.length zo), (.bool p0.step)] 59), (1, ow zG zH 47 zQ p0.p.Tools), (2, ow zL zK 80 zC p0.p.Steps), (3, sk zn zo 85 80 80 zS Dhp0_2), (4, ow Qk Qh 9 JG zl)] ?_ ?_
 ·cases zFM : (sEq x102 (⟨#[117, 110, 105, 116]⟩))
  ·rw [zFM] at zC6
   rw [if_neg (by decide)] at zC6
   have H := zC6
   refine Tr.val (wg rfl rfl rfl) rfl (fun _ _ h1 h2 => run_move (h1.ev rfl)) ?_
   obtain ⟨x105, hx105, H⟩ := bnd H
   obtain ⟨hx1050, hx1051, hx1052⟩ := zw hx105
   refine Tr.val (wg rfl rfl rfl) rfl (fun _ _ h1 h2 => zN zAP (h1.ev rfl) zAA (h1.ev rfl) hx1050 hx1051) ?_
   refine Tr.val (wg rfl rfl rfl) rfl (fun _ _ h1 h2 => zF zAR (h1.ev rfl) (rdo Wq (k := 4) h2 rfl hx1052) rfl) ?_
   refine Tr.val (wg rfl rfl rfl) rfl (fun _ _ h1 h2 => Qq (h1.ev rfl) (h1.ev rfl)) ?_
   refine Tr.va rfl (fun _ _ h1 h2 => zV (h1.ev rfl) (h1.ev rfl)) ?_
   obtain rfl := Option.some.inj H
   exact Tr.nil (Tr.QI (.cons rfl (.cons rfl (.cons rfl (.cons rfl .nil)))) (.cons rfl (.cons rfl (.cons rfl (.cons rfl (.cons rfl .nil))))))
  ·rw [zFM] at zC6
   rw [if_pos rfl] at zC6
   have H := zC6
   obtain rfl := Option.some.inj H
   refine Tr.pass rfl rfl rfl rfl rfl (by decide) ?_
   refine Tr.pass rfl rfl rfl rfl rfl (by decide) ?_
   refine Tr.pass rfl rfl rfl rfl rfl (by decide) ?_
   refine Tr.pass rfl rfl rfl rfl rfl (by decide) ?_
   refine Tr.va rfl (fun _ _ h1 h2 => zU (h1.ev rfl) (h1.ev rfl)) ?_
   exact Tr.nil (Tr.QI (.cons rfl (.cons rfl (.cons rfl (.cons rfl .nil)))) (.cons rfl (.cons rfl (.cons rfl (.cons rfl (.cons rfl .nil))))))
 ·show Tr _ _ (LF [(0, (.pointer (some ⟨bp0, 0, none⟩))), (1, (sv p1)), (5, (.slice Qk zl.length Qh)), (21, (.bool g104))]) (LE [(0, bx bp0 #[(iv p0.p.Unit), (.slice zG p0.p.Tools.length zH), (.slice zL p0.p.Steps.length zK), (.bool p0.unit), (.slice zn p0.open_.length zo), (.bool p0.step)] 59), (1, ow zG zH 47 zQ p0.p.Tools), (2, ow zL zK 80 zC p0.p.Steps), (3, sk zn zo 85 80 80 zS Dhp0_2), (4, ow Qk Qh 9 JG zl)]) _
  refine Tr.nil (Tr.zA (Tr.cond rfl H (fun H => ?_) (fun H => ?_)))
  ·refine Tr.sr (Tr.mv rfl rfl (Tr.mv rfl rfl ?_))
   obtain ⟨WP, zJ0, H⟩ := bnd H
   refine Tr.zEX [0, 1, 3] [bx bp0 #[(iv p0.p.Unit), (.slice zG p0.p.Tools.length zH), (.slice zL p0.p.Steps.length zK), (.bool p0.unit), (.slice zn p0.open_.length zo), (.bool p0.step)] 59, ow zG zH 47 zQ p0.p.Tools, sk zn zo 85 80 80 zS Dhp0_2] (U := (Option Addr × Nat) × (Option Addr × Nat × List (PE zC))) (fun u => (.bool WP.1)) (fun O W u => SlF u.1.1 WP.2.2.2.1.length u.1.2 ∧ (SK u.2.2.2 WP.2.2.2.2 ∧ SlF u.2.1 WP.2.2.2.2.length u.2.2.1)) (fun u => [bx bp0 #[(iv WP.2.1), (.slice u.1.1 WP.2.2.2.1.length u.1.2), (.slice zL p0.p.Steps.length zK), (.bool WP.2.2.1), (.slice u.2.1 WP.2.2.2.2.length u.2.2.1), (.bool p0.step)] 59, ow u.1.1 u.1.2 47 zQ WP.2.2.2.1, sk u.2.1 u.2.2.1 85 80 80 zS u.2.2.2]) rfl (zO rfl (zO rfl (zO rfl QH))) (fun _ => rfl) (wn rfl) rfl Tryz.call33 (zI rfl (zI rfl zT)) (fun W hW hp hE => zFE N p0 zG zH zL zK (hW.slS (k := 2) rfl hp rfl) zn zo Dhp0_2 ⟨Js.1, Js.2⟩ bp0 zl Qk Qh (hW.slS (k := 4) rfl hp rfl) WP zJ0 hE) ?_
   intro w u le107 hu
   obtain ⟨⟨zFG, zE6⟩, ⟨zJP, zI9, Dy106_1⟩⟩ := u
   obtain ⟨gy106_0, gy106_1⟩ := hu
   replace hT := hT.ext le107.ext
   replace leB := leB.trans le107
   have hgy106_0 : SlF zFG WP.2.2.2.1.length zE6 := gy106_0 --@phi
   have hgy106_1 : (SK Dy106_1 WP.2.2.2.2 ∧ SlF zJP WP.2.2.2.2.length zI9) := gy106_1 --@phi
   show Tr _ _ (uf _ 24 (.bool WP.1)) (up (up (up _ 3 (sk zJP zI9 85 80 80 zS Dy106_1)) 1 (ow zFG zE6 47 zQ WP.2.2.2.1)) 0 (bx bp0 #[(iv WP.2.1), (.slice zFG WP.2.2.2.1.length zE6), (.slice zL p0.p.Steps.length zK), (.bool WP.2.2.1), (.slice zJP WP.2.2.2.2.length zI9), (.bool p0.step)] 59)) _
   refine Tr.asg rfl rfl (Tr.nil (Tr.zA (Tr.ret (Tr.zM ?_))))
   obtain rfl := Option.some.inj H
   exact Tr.out (m := [(.bool WP.1)]) [] (zJ rfl zR) (fun W hW => ⟨w, ((zFG, zE6), (zL, zK), (zJP, zI9, Dy106_1)), leB, rfl, ⟨hgy106_0, zA0, ⟨hgy106_1.1, hgy106_1.2⟩⟩, hW.pick (ks := [0, 1, 2, 3]) (by decide) (zO rfl (zO rfl (zO rfl (zO rfl QH))))⟩)
  ·refine Tr.skip (Tr.zA (Tr.seq (Tr.sr (Tr.mv rfl rfl (Tr.va rfl (fun _ _ h1 h2 => zg (h1.ev rfl)) ?_)))))
   refine Tr.va rfl (fun _ _ h1 h2 => zB zHH (h1.ev rfl)) ?_
   refine Tr.va rfl (fun _ _ h1 h2 => zF zFt (h1.ev rfl) (rdb h2 (vs := [(iv p0.p.Unit), (.slice zG p0.p.Tools.length zH), (.slice zL p0.p.Steps.length zK), (.bool p0.unit), (.slice zn p0.open_.length zo), (.bool p0.step)]) (k := 0) rfl 3) rfl) ?_
   refine Tr.va rfl (fun _ _ h1 h2 => Qb (h1.ev rfl)) ?_
   refine Tr.nil (Tr.zA (Tr.cond rfl H (fun H => ?_) (fun H => ?_)))
   ·refine Tr.sr (Tr.asg rfl rfl (Tr.nil (Tr.zA (Tr.ret (Tr.zM ?_)))))
    obtain rfl := Option.some.inj H
    exact Tr.out (m := [(.bool false)]) [] (zJ rfl zR) (fun W hW => ⟨w, ((zG, zH), (zL, zK), (zn, zo, Dhp0_2)), leB, rfl, ⟨zA1, zA0, ⟨Js.1, Js.2⟩⟩, hW.pick (ks := [0, 1, 2, 3]) (by decide) (zO rfl (zO rfl (zO rfl (zO rfl QH))))⟩)
   ·refine Tr.skip (Tr.zA (Tr.sr (Tr.mv rfl rfl (Tr.va rfl (fun _ _ h1 h2 => zg (h1.ev rfl)) ?_))))
    refine Tr.va rfl (fun _ _ h1 h2 => zB fo_59_3 (h1.ev rfl)) ?_
    refine Tr.store 0 (cs := [(.bool true)]) [(iv p0.p.Unit), (.slice zG p0.p.Tools.length zH), (.slice zL p0.p.Steps.length zK), (.bool p0.unit), (.slice zn p0.open_.length zo), (.bool true)] (wn rfl) rfl rfl rfl rfl sz_4 rfl rfl rfl ?_
    refine Tr.nil (Tr.zA (Tr.seq (Tr.block (Tr.sr (Tr.mv rfl rfl (Tr.va rfl (fun _ _ h1 h2 => Qq (h1.ev rfl) (h1.ev rfl)) ?_))))))
    refine Tr.asg rfl rfl (Tr.nil (Tr.zA (Tr.cond rfl H (fun H => ?_) (fun H => ?_))))
    ·refine Tr.sr (Tr.mv rfl rfl (Tr.build (vs := [(0, (iv 1))]) (cs := [(iv 1), (sv ⟨#[]⟩), (iv 0), (iv 0), (.slice none 0 0), (iv 0), (iv 0), (.slice none 0 0)]) (wn rfl) rfl (QE rfl Qj) (by kernel_rfl) ?_))
     obtain ⟨zCy, hy108, H⟩ := bnd H
     refine Tr.zEX [0, 2, 3] [bx bp0 #[(iv p0.p.Unit), (.slice zG p0.p.Tools.length zH), (.slice zL p0.p.Steps.length zK), (.bool p0.unit), (.slice zn p0.open_.length zo), (.bool true)] 59, ow zL zK 80 zC p0.p.Steps, sk zn zo 85 80 80 zS Dhp0_2] (U := (Option Addr × Nat) × (Option Addr × Nat × List (PE zC))) (fun u => (.tuple #[])) (fun O W u => SlF u.1.1 zCy.1.length u.1.2 ∧ (SK u.2.2.2 zCy.2 ∧ SlF u.2.1 zCy.2.length u.2.2.1)) (fun u => [bx bp0 #[(iv p0.p.Unit), (.slice zG p0.p.Tools.length zH), (.slice u.1.1 zCy.1.length u.1.2), (.bool p0.unit), (.slice u.2.1 zCy.2.length u.2.2.1), (.bool true)] 59, ow u.1.1 u.1.2 80 zC zCy.1, sk u.2.1 u.2.2.1 85 80 80 zS u.2.2.2]) rfl (zO rfl (zO rfl (zO rfl QH))) (fun _ => rfl) (wn rfl) rfl Tryz.call34 (zI rfl (zI rfl zT)) (fun W hW hp hE => Vo (QZ.mk p0.p p0.unit p0.open_ true) zG zH (hW.slS (k := 1) rfl hp rfl) zL zK zn zo Dhp0_2 ⟨Js.1, Js.2⟩ bp0 (zD.mk 1 (⟨#[]⟩) (zf.mk 0 0) [] 0 0 []) none 0 (Sl.nil _ _ _) none 0 (Sl.nil _ _ _) zCy hy108 hE) ?_
     intro w u le109 hu
     obtain ⟨⟨zJO, zI8⟩, ⟨zJN, zI7, Dy108_1⟩⟩ := u
     obtain ⟨gy108_0, gy108_1⟩ := hu
     replace hT := hT.ext le109.ext
     replace leB := leB.trans le109
     have hgy108_0 : SlF zJO zCy.1.length zI8 := gy108_0 --@phi
     have hgy108_1 : (SK Dy108_1 zCy.2 ∧ SlF zJN zCy.2.length zI7) := gy108_1 --@phi
     show Tr _ _ (uf _ 38 (.tuple #[])) (up (up (up _ 3 (sk zJN zI7 85 80 80 zS Dy108_1)) 2 (ow zJO zI8 80 zC zCy.1)) 0 (bx bp0 #[(iv p0.p.Unit), (.slice zG p0.p.Tools.length zH), (.slice zJO zCy.1.length zI8), (.bool p0.unit), (.slice zJN zCy.2.length zI7), (.bool true)] 59)) _
     refine Tr.nil (Tr.zA (Tr.sr (Tr.asg rfl rfl (Tr.nil (Tr.zA (Tr.ret (Tr.zW (Tr.zM ?_))))))))
     obtain rfl := Option.some.inj H
     exact Tr.out (m := [(.bool true)]) [] (zJ rfl zR) (fun W hW => ⟨w, ((zG, zH), (zJO, zI8), (zJN, zI7, Dy108_1)), leB, rfl, ⟨zA1, hgy108_0, ⟨hgy108_1.1, hgy108_1.2⟩⟩, hW.pick (ks := [0, 1, 2, 3]) (by decide) (zO rfl (zO rfl (zO rfl (zO rfl QH))))⟩)
    ·refine Tr.sr (Tr.mv rfl rfl (Tr.va rfl (fun _ _ h1 h2 => Qq (h1.ev rfl) (h1.ev rfl)) ?_))
     refine Tr.asg rfl rfl (Tr.nil (Tr.zA (Tr.cond rfl H (fun H => ?_) (fun H => ?_))))
     ·refine Tr.sr (Tr.mv rfl rfl (Tr.build (vs := [(0, (iv 2))]) (cs := [(iv 2), (sv ⟨#[]⟩), (iv 0), (iv 0), (.slice none 0 0), (iv 0), (iv 0), (.slice none 0 0)]) (wn rfl) rfl (QE rfl Qj) (by kernel_rfl) ?_))
      obtain ⟨zCI, hy110, H⟩ := bnd H
      refine Tr.zEX [0, 2, 3] [bx bp0 #[(iv p0.p.Unit), (.slice zG p0.p.Tools.length zH), (.slice zL p0.p.Steps.length zK), (.bool p0.unit), (.slice zn p0.open_.length zo), (.bool true)] 59, ow zL zK 80 zC p0.p.Steps, sk zn zo 85 80 80 zS Dhp0_2] (U := (Option Addr × Nat) × (Option Addr × Nat × List (PE zC))) (fun u => (.tuple #[])) (fun O W u => SlF u.1.1 zCI.1.length u.1.2 ∧ (SK u.2.2.2 zCI.2 ∧ SlF u.2.1 zCI.2.length u.2.2.1)) (fun u => [bx bp0 #[(iv p0.p.Unit), (.slice zG p0.p.Tools.length zH), (.slice u.1.1 zCI.1.length u.1.2), (.bool p0.unit), (.slice u.2.1 zCI.2.length u.2.2.1), (.bool true)] 59, ow u.1.1 u.1.2 80 zC zCI.1, sk u.2.1 u.2.2.1 85 80 80 zS u.2.2.2]) rfl (zO rfl (zO rfl (zO rfl QH))) (fun _ => rfl) (wn rfl) rfl Tryz.call34 (zI rfl (zI rfl zT)) (fun W hW hp hE => Vo (QZ.mk p0.p p0.unit p0.open_ true) zG zH (hW.slS (k := 1) rfl hp rfl) zL zK zn zo Dhp0_2 ⟨Js.1, Js.2⟩ bp0 (zD.mk 2 (⟨#[]⟩) (zf.mk 0 0) [] 0 0 []) none 0 (Sl.nil _ _ _) none 0 (Sl.nil _ _ _) zCI hy110 hE) ?_
      intro w u le111 hu
      obtain ⟨⟨zJM, zI6⟩, ⟨zJL, zI5, Dy110_1⟩⟩ := u
      obtain ⟨gy110_0, gy110_1⟩ := hu
      replace hT := hT.ext le111.ext
      replace leB := leB.trans le111
      have hgy110_0 : SlF zJM zCI.1.length zI6 := gy110_0 --@phi
      have hgy110_1 : (SK Dy110_1 zCI.2 ∧ SlF zJL zCI.2.length zI5) := gy110_1 --@phi
      show Tr _ _ (uf _ 44 (.tuple #[])) (up (up (up _ 3 (sk zJL zI5 85 80 80 zS Dy110_1)) 2 (ow zJM zI6 80 zC zCI.1)) 0 (bx bp0 #[(iv p0.p.Unit), (.slice zG p0.p.Tools.length zH), (.slice zJM zCI.1.length zI6), (.bool p0.unit), (.slice zJL zCI.2.length zI5), (.bool true)] 59)) _
      refine Tr.nil (Tr.zA (Tr.sr (Tr.asg rfl rfl (Tr.nil (Tr.zA (Tr.ret (Tr.zW (Tr.zM ?_))))))))
      obtain rfl := Option.some.inj H
      exact Tr.out (m := [(.bool true)]) [] (zJ rfl zR) (fun W hW => ⟨w, ((zG, zH), (zJM, zI6), (zJL, zI5, Dy110_1)), leB, rfl, ⟨zA1, hgy110_0, ⟨hgy110_1.1, hgy110_1.2⟩⟩, hW.pick (ks := [0, 1, 2, 3]) (by decide) (zO rfl (zO rfl (zO rfl (zO rfl QH))))⟩)
     ·refine Tr.sr (Tr.mv rfl rfl (Tr.va rfl (fun _ _ h1 h2 => Qq (h1.ev rfl) (h1.ev rfl)) ?_))
      refine Tr.asg rfl rfl (Tr.nil (Tr.zA (Tr.cond rfl H (fun H => ?_) (fun H => ?_))))
      ·refine Tr.sr (Tr.mv rfl rfl (Tr.va rfl (fun _ _ h1 h2 => zg (h1.ev rfl)) ?_))
       refine Tr.va rfl (fun _ _ h1 h2 => zB zB8 (h1.ev rfl)) ?_
       refine Tr.va rfl (fun _ _ h1 h2 => zF zHY (h1.ev rfl) (rdb h2 (vs := [(iv p0.p.Unit), (.slice zG p0.p.Tools.length zH), (.slice zL p0.p.Steps.length zK), (.bool p0.unit), (.slice zn p0.open_.length zo), (.bool true)]) (k := 0) rfl 4) rfl) ?_
       refine Tr.va rfl (fun _ _ h1 h2 => QG un_57 (h1.ev rfl)) ?_
       refine Tr.va rfl (fun _ _ h1 h2 => zIr (h1.ev rfl) (h1.ev rfl)) ?_
       refine Tr.asg rfl rfl (Tr.nil (Tr.zA (Tr.seq (Tr.sr (Tr.mv rfl rfl (Tr.va rfl (fun _ _ h1 h2 => QV (h1.ev rfl) (h1.ev rfl)) ?_))))))
       refine Tr.nil (Tr.zA (Tr.cond rfl H (fun H => ?_) (fun H => ?_)))
       ·refine Tr.sr (Tr.asg rfl rfl (Tr.nil (Tr.zA (Tr.ret (Tr.zM (Tr.zW (Tr.zM ?_)))))))
        obtain rfl := Option.some.inj H
        exact Tr.out (m := [(.bool false)]) [] (zJ rfl zR) (fun W hW => ⟨w, ((zG, zH), (zL, zK), (zn, zo, Dhp0_2)), leB, rfl, ⟨zA1, zA0, ⟨Js.1, Js.2⟩⟩, hW.pick (ks := [0, 1, 2, 3]) (by decide) (zO rfl (zO rfl (zO rfl (zO rfl QH))))⟩)
       ·refine Tr.skip (Tr.zA (Tr.sr (Tr.mv rfl rfl (Tr.va rfl (fun _ _ h1 h2 => zg (h1.ev rfl)) ?_))))
        refine Tr.va rfl (fun _ _ h1 h2 => zB zB8 (h1.ev rfl)) ?_
        refine Tr.va rfl (fun _ _ h1 h2 => zF zHY (h1.ev rfl) (rdb h2 (vs := [(iv p0.p.Unit), (.slice zG p0.p.Tools.length zH), (.slice zL p0.p.Steps.length zK), (.bool p0.unit), (.slice zn p0.open_.length zo), (.bool true)]) (k := 0) rfl 4) rfl) ?_
        refine Tr.mv rfl rfl ?_
        obtain ⟨x112, hx112, H⟩ := bnd H
        obtain ⟨hx1120, hx1121, hx1122⟩ := zw hx112
        refine Tr.skTake 3 5 6 7 8 (i := ((w64 ((p0.open_.length : Int) - 1))).toNat) rfl rfl rfl rfl rfl rfl rfl rfl rfl rfl hx1122 rfl Js.1 fun bku113 u113 hoku113 hfu113 hdu113 => ?_
        obtain ⟨⟨zBh, zBf⟩, ⟨zBO, zBK⟩⟩ := u113
        have zIE : Sl w.O w.W QM zBh zBf x112.Points := hoku113
        replace hfu113 : SlF zBO x112.Steps.length zBK := hfu113
        replace hdu113 : ST Dhp0_2 p0.open_ ((w64 ((p0.open_.length : Int) - 1))).toNat bku113 ((zBh, zBf), (zBO, zBK)) x112 := hdu113
        show Tr _ _ _ (up (up (up (up (up _ 3 (ow zn zo 85 (flP zC) Dhp0_2)) 5 (bxs 80 zS (List.set Dhp0_2 ((w64 ((p0.open_.length : Int) - 1))).toNat ⟨bku113, ((zBh, zBf), (zBO, zBK)), x112, false⟩))) 6 (ins 80 zC ((List.set Dhp0_2 ((w64 ((p0.open_.length : Int) - 1))).toNat ⟨bku113, ((zBh, zBf), (zBO, zBK)), x112, false⟩).map (pne zS)))) 7 (bx bku113 #[(iv x112.Kind), (sv x112.Name), (iv x112.At.X), (iv x112.At.Y), (.slice zBh x112.Points.length zBf), (iv x112.NX), (iv x112.NY), (.slice zBO x112.Steps.length zBK)] 80)) 8 (ow zBO zBK 80 zC x112.Steps)) _
        refine Tr.va rfl (fun _ _ h1 h2 => zN el_57 (h1.ev rfl) Js.2 (h1.ev rfl) hx1120 hx1121) ?_
        refine Tr.va rfl (fun _ _ h1 h2 => zF ag_85 (h1.ev rfl) (rdo ef_P (k := 3) h2 rfl hdu113.2) rfl) ?_
        refine Tr.va rfl (fun _ _ h1 h2 => zg (h1.ev rfl)) ?_
        refine Tr.va rfl (fun _ _ h1 h2 => zu (cs := [(iv x112.Kind), (sv x112.Name), (iv x112.At.X), (iv x112.At.Y), (.slice zBh x112.Points.length zBf), (iv x112.NX), (iv x112.NY), (.slice zBO x112.Steps.length zBK)]) zDA Wo (h1.ev rfl) (za.take (rdb h2 (vs := [(iv x112.Kind), (sv x112.Name), (iv x112.At.X), (iv x112.At.Y), (.slice zBh x112.Points.length zBf), (iv x112.NX), (iv x112.NY), (.slice zBO x112.Steps.length zBK)]) (k := 7) rfl 0) 8) rfl) ?_
        refine Tr.alloc 9 (wn rfl) rfl zGG fun b114 => ?_
        refine Tr.store 9 (cs := [(iv x112.Kind), (sv x112.Name), (iv x112.At.X), (iv x112.At.Y), (.slice zBh x112.Points.length zBf), (iv x112.NX), (iv x112.NY), (.slice zBO x112.Steps.length zBK)]) [(iv x112.Kind), (sv x112.Name), (iv x112.At.X), (iv x112.At.Y), (.slice zBh x112.Points.length zBf), (iv x112.NX), (iv x112.NY), (.slice zBO x112.Steps.length zBK)] (wn rfl) rfl rfl rfl rfl Wo rfl rfl rfl ?_
        refine Tr.nil (Tr.zA (Tr.sr (Tr.mv rfl rfl (Tr.mv rfl rfl (Tr.va rfl (fun _ _ h1 h2 => zg (h1.ev rfl)) ?_)))))
        refine Tr.va rfl (fun _ _ h1 h2 => zB zB8 (h1.ev rfl)) ?_
        refine Tr.va rfl (fun _ _ h1 h2 => zF zHY (h1.ev rfl) (rdb h2 (vs := [(iv p0.p.Unit), (.slice zG p0.p.Tools.length zH), (.slice zL p0.p.Steps.length zK), (.bool p0.unit), (.slice zn p0.open_.length zo), (.bool true)]) (k := 0) rfl 4) rfl) ?_
        refine Tr.mv rfl rfl ?_
        obtain ⟨zG7, zJ5, H⟩ := bnd H
        refine Tr.va rfl (fun _ _ h1 h2 => run_pre el_57 (h1.ev rfl) Js.2 (h1.ev rfl) zJ5) ?_
        refine Tr.skPop 3 5 6 rfl rfl rfl rfl rfl rfl hdu113 fun ms116 hmms116 => ?_
        replace hmms116 : SK ms116 zG7 := (pre_some zJ5).2 ▸ hmms116
        refine Tr.va rfl (fun _ _ h1 h2 => zg (h1.ev rfl)) ?_
        refine Tr.va rfl (fun _ _ h1 h2 => zB zB8 (h1.ev rfl)) ?_
        refine Tr.store 0 (cs := [(.slice zn zG7.length zo)]) [(iv p0.p.Unit), (.slice zG p0.p.Tools.length zH), (.slice zL p0.p.Steps.length zK), (.bool p0.unit), (.slice zn zG7.length zo), (.bool true)] (wn rfl) rfl rfl rfl rfl sz_57 rfl rfl rfl ?_
        refine Tr.nil (Tr.zA (Tr.sr (Tr.mv rfl rfl (Tr.va rfl (fun _ _ h1 h2 => zu (cs := [(iv x112.Kind), (sv x112.Name), (iv x112.At.X), (iv x112.At.Y), (.slice zBh x112.Points.length zBf), (iv x112.NX), (iv x112.NY), (.slice zBO x112.Steps.length zBK)]) zDA Wo (h1.ev rfl) (za.take (rdb h2 (vs := [(iv x112.Kind), (sv x112.Name), (iv x112.At.X), (iv x112.At.Y), (.slice zBh x112.Points.length zBf), (iv x112.NX), (iv x112.NY), (.slice zBO x112.Steps.length zBK)]) (k := 9) rfl 0) 8) rfl) ?_))))
        refine Tr.freeze 8 rfl fun w le118 hz117 => ?_
        replace hT := hT.ext le118.ext
        replace zIE := zIE.le le118
        replace leB := leB.trans le118
        obtain ⟨Ja, zJy, H⟩ := bnd H
        refine Tr.zEX [0, 2, 3] [bx bp0 #[(iv p0.p.Unit), (.slice zG p0.p.Tools.length zH), (.slice zL p0.p.Steps.length zK), (.bool p0.unit), (.slice zn zG7.length zo), (.bool true)] 59, ow zL zK 80 zC p0.p.Steps, sk zn zo 85 80 80 zS ms116] (U := (Option Addr × Nat) × (Option Addr × Nat × List (PE zC))) (fun u => (.tuple #[])) (fun O W u => SlF u.1.1 Ja.1.length u.1.2 ∧ (SK u.2.2.2 Ja.2 ∧ SlF u.2.1 Ja.2.length u.2.2.1)) (fun u => [bx bp0 #[(iv p0.p.Unit), (.slice zG p0.p.Tools.length zH), (.slice u.1.1 Ja.1.length u.1.2), (.bool p0.unit), (.slice u.2.1 Ja.2.length u.2.2.1), (.bool true)] 59, ow u.1.1 u.1.2 80 zC Ja.1, sk u.2.1 u.2.2.1 85 80 80 zS u.2.2.2]) rfl (zO rfl (zO rfl (zO rfl QH))) (fun _ => rfl) (wn rfl) rfl Tryz.call34 (zI rfl (zI rfl zT)) (fun W hW hp hE => Vo (QZ.mk p0.p p0.unit zG7 true) zG zH (hW.slS (k := 1) rfl hp rfl) zL zK zn zo ms116 ⟨hmms116, (pre_form Js.2 zJ5)⟩ bp0 x112 zBh zBf (zIE.extO (hW.zCb hp)) zBO zBK (hz117.extO (hW.zCb hp)) Ja zJy hE) ?_
        intro w u le120 hu
        obtain ⟨⟨VJ, VI⟩, ⟨zJK, zI4, Dy119_1⟩⟩ := u
        obtain ⟨gy119_0, gy119_1⟩ := hu
        replace hT := hT.ext le120.ext
        replace hz117 := hz117.le le120
        replace leB := leB.trans le120
        have zJ6 : SlF VJ Ja.1.length VI := gy119_0 --@phi
        have hgy119_1 : (SK Dy119_1 Ja.2 ∧ SlF zJK Ja.2.length zI4) := gy119_1 --@phi
        show Tr _ _ (uf _ 76 (.tuple #[])) (up (up (up _ 3 (sk zJK zI4 85 80 80 zS Dy119_1)) 2 (ow VJ VI 80 zC Ja.1)) 0 (bx bp0 #[(iv p0.p.Unit), (.slice zG p0.p.Tools.length zH), (.slice VJ Ja.1.length VI), (.bool p0.unit), (.slice zJK Ja.2.length zI4), (.bool true)] 59)) _
        refine Tr.nil (Tr.zA (Tr.sr (Tr.asg rfl rfl (Tr.nil (Tr.zA (Tr.ret (Tr.zW (Tr.zM ?_))))))))
        obtain rfl := Option.some.inj H
        exact Tr.out (m := [(.bool true)]) [] (zJ rfl zR) (fun W hW => ⟨w, ((zG, zH), (VJ, VI), (zJK, zI4, Dy119_1)), leB, rfl, ⟨zA1, zJ6, ⟨hgy119_1.1, hgy119_1.2⟩⟩, hW.pick (ks := [0, 1, 2, 3]) (by decide) (zO rfl (zO rfl (zO rfl (zO rfl QH))))⟩)
      ·refine Tr.sr (Tr.mv rfl rfl ?_)
       obtain ⟨x121, hx121, H⟩ := bnd H
       obtain ⟨hx1210, hx1211, hx1212⟩ := zw hx121
       refine Tr.va rfl (fun _ _ h1 h2 => zN zAP (h1.ev rfl) zAA (h1.ev rfl) hx1210 hx1211) ?_
       refine Tr.va rfl (fun _ _ h1 h2 => zF zAR (h1.ev rfl) (rdo Wq (k := 4) h2 rfl hx1212) rfl) ?_
       refine Tr.va rfl (fun _ _ h1 h2 => Qq (h1.ev rfl) (h1.ev rfl)) ?_
       refine Tr.asg rfl rfl (Tr.nil (Tr.zA (Tr.cond rfl H (fun H => ?_) (fun H => ?_))))
       ·refine Tr.seq (Tr.sr (Tr.mv rfl rfl (Tr.va rfl (fun _ _ h1 h2 => QG zFZ (h1.ev rfl)) ?_)))
        refine Tr.va rfl (fun _ _ h1 h2 => KV (h1.ev rfl) (h1.ev rfl)) ?_
        refine Tr.mv rfl rfl ?_
        obtain ⟨g124, zEP, H⟩ := bnd H
        refine Tr.Jl 6 [(0, (.pointer (some ⟨bp0, 0, none⟩))), (5, (.slice Qk zl.length Qh)), (91, (.bool g124))] [(0, bx bp0 #[(iv p0.p.Unit), (.slice zG p0.p.Tools.length zH), (.slice zL p0.p.Steps.length zK), (.bool p0.unit), (.slice zn p0.open_.length zo), (.bool true)] 59), (1, ow zG zH 47 zQ p0.p.Tools), (2, ow zL zK 80 zC p0.p.Steps), (3, sk zn zo 85 80 80 zS Dhp0_2), (4, ow Qk Qh 9 JG zl)] ?_ ?_
        ·cases hg129 : ((zl.length : Int) != 2)
         ·rw [hg129] at zEP
          rw [if_neg (by decide)] at zEP
          have H := zEP
          refine Tr.val (wg rfl rfl rfl) rfl (fun _ _ h1 h2 => run_move (h1.ev rfl)) ?_
          obtain ⟨zGV, hx125, H⟩ := bnd H
          obtain ⟨hx1250, hx1251, hx1252⟩ := zw hx125
          refine Tr.val (wg rfl rfl rfl) rfl (fun _ _ h1 h2 => zN zAP (h1.ev rfl) zAA (h1.ev rfl) hx1250 hx1251) ?_
          refine Tr.val (wg rfl rfl rfl) rfl (fun _ _ h1 h2 => zF zAR (h1.ev rfl) (rdo Wq (k := 4) h2 rfl hx1252) rfl) ?_
          obtain ⟨y126, hy126, H⟩ := bnd H
          refine Tr.Qa (r := (.bool y126)) (wg rfl rfl rfl) rfl Tryz.call35 (zI rfl zT) (fun W hW => zFS zGV y126 hy126 (HF.start _)) ?_
          refine Tr.val (wg rfl rfl rfl) rfl (fun _ _ h1 h2 => Qb (h1.ev rfl)) ?_
          refine Tr.va rfl (fun _ _ h1 h2 => zV (h1.ev rfl) (h1.ev rfl)) ?_
          obtain rfl := Option.some.inj H
          exact Tr.nil (Tr.QI (.cons rfl (.cons rfl (.cons rfl .nil))) (.cons rfl (.cons rfl (.cons rfl (.cons rfl (.cons rfl .nil))))))
         ·rw [hg129] at zEP
          rw [if_pos rfl] at zEP
          have H := zEP
          obtain rfl := Option.some.inj H
          refine Tr.pass rfl rfl rfl rfl rfl (by decide) ?_
          refine Tr.pass rfl rfl rfl rfl rfl (by decide) ?_
          refine Tr.pass rfl rfl rfl rfl rfl (by decide) ?_
          refine Tr.pass rfl rfl rfl rfl rfl (by decide) ?_
          refine Tr.pass rfl rfl rfl rfl rfl (by decide) ?_
          refine Tr.va rfl (fun _ _ h1 h2 => zU (h1.ev rfl) (h1.ev rfl)) ?_
          exact Tr.nil (Tr.QI (.cons rfl (.cons rfl (.cons rfl .nil))) (.cons rfl (.cons rfl (.cons rfl (.cons rfl (.cons rfl .nil))))))
        ·show Tr _ _ (LF [(0, (.pointer (some ⟨bp0, 0, none⟩))), (5, (.slice Qk zl.length Qh)), (91, (.bool g124))]) (LE [(0, bx bp0 #[(iv p0.p.Unit), (.slice zG p0.p.Tools.length zH), (.slice zL p0.p.Steps.length zK), (.bool p0.unit), (.slice zn p0.open_.length zo), (.bool true)] 59), (1, ow zG zH 47 zQ p0.p.Tools), (2, ow zL zK 80 zC p0.p.Steps), (3, sk zn zo 85 80 80 zS Dhp0_2), (4, ow Qk Qh 9 JG zl)]) _
         refine Tr.nil (Tr.zA (Tr.cond rfl H (fun H => ?_) (fun H => ?_)))
         ·refine Tr.sr (Tr.asg rfl rfl (Tr.nil (Tr.zA (Tr.ret (Tr.zM (Tr.zW (Tr.zM ?_)))))))
          obtain rfl := Option.some.inj H
          exact Tr.out (m := [(.bool false)]) [] (zJ rfl zR) (fun W hW => ⟨w, ((zG, zH), (zL, zK), (zn, zo, Dhp0_2)), leB, rfl, ⟨zA1, zA0, ⟨Js.1, Js.2⟩⟩, hW.pick (ks := [0, 1, 2, 3]) (by decide) (zO rfl (zO rfl (zO rfl (zO rfl QH))))⟩)
         ·refine Tr.skip (Tr.zA (Tr.sr (Tr.mv rfl rfl (Tr.mv rfl rfl ?_))))
          obtain ⟨Ww, hx127, H⟩ := bnd H
          obtain ⟨hx1270, hx1271, hx1272⟩ := zw hx127
          refine Tr.va rfl (fun _ _ h1 h2 => zN zAP (h1.ev rfl) zAA (h1.ev rfl) hx1270 hx1271) ?_
          refine Tr.va rfl (fun _ _ h1 h2 => zF zAR (h1.ev rfl) (rdo Wq (k := 4) h2 rfl hx1272) rfl) ?_
          refine Tr.build (vs := [(0, (iv 3)), (1, (sv Ww))]) (cs := [(iv 3), (sv Ww), (iv 0), (iv 0), (.slice none 0 0), (iv 0), (iv 0), (.slice none 0 0)]) (wn rfl) rfl (QE rfl (QE rfl Qj)) (by kernel_rfl) ?_
          obtain ⟨zF9, hy128, H⟩ := bnd H
          refine Tr.zEX [0, 2, 3] [bx bp0 #[(iv p0.p.Unit), (.slice zG p0.p.Tools.length zH), (.slice zL p0.p.Steps.length zK), (.bool p0.unit), (.slice zn p0.open_.length zo), (.bool true)] 59, ow zL zK 80 zC p0.p.Steps, sk zn zo 85 80 80 zS Dhp0_2] (U := (Option Addr × Nat) × (Option Addr × Nat × List (PE zC))) (fun u => (.tuple #[])) (fun O W u => SlF u.1.1 zF9.1.length u.1.2 ∧ (SK u.2.2.2 zF9.2 ∧ SlF u.2.1 zF9.2.length u.2.2.1)) (fun u => [bx bp0 #[(iv p0.p.Unit), (.slice zG p0.p.Tools.length zH), (.slice u.1.1 zF9.1.length u.1.2), (.bool p0.unit), (.slice u.2.1 zF9.2.length u.2.2.1), (.bool true)] 59, ow u.1.1 u.1.2 80 zC zF9.1, sk u.2.1 u.2.2.1 85 80 80 zS u.2.2.2]) rfl (zO rfl (zO rfl (zO rfl QH))) (fun _ => rfl) (wn rfl) rfl Tryz.call34 (zI rfl (zI rfl zT)) (fun W hW hp hE => Vo (QZ.mk p0.p p0.unit p0.open_ true) zG zH (hW.slS (k := 1) rfl hp rfl) zL zK zn zo Dhp0_2 ⟨Js.1, Js.2⟩ bp0 (zD.mk 3 Ww (zf.mk 0 0) [] 0 0 []) none 0 (Sl.nil _ _ _) none 0 (Sl.nil _ _ _) zF9 hy128 hE) ?_
          intro w u le129 hu
          obtain ⟨⟨zJJ, zI3⟩, ⟨zJI, zI2, Dy128_1⟩⟩ := u
          obtain ⟨gy128_0, gy128_1⟩ := hu
          replace hT := hT.ext le129.ext
          replace leB := leB.trans le129
          have hgy128_0 : SlF zJJ zF9.1.length zI3 := gy128_0 --@phi
          have hgy128_1 : (SK Dy128_1 zF9.2 ∧ SlF zJI zF9.2.length zI2) := gy128_1 --@phi
          show Tr _ _ (uf _ 97 (.tuple #[])) (up (up (up _ 3 (sk zJI zI2 85 80 80 zS Dy128_1)) 2 (ow zJJ zI3 80 zC zF9.1)) 0 (bx bp0 #[(iv p0.p.Unit), (.slice zG p0.p.Tools.length zH), (.slice zJJ zF9.1.length zI3), (.bool p0.unit), (.slice zJI zF9.2.length zI2), (.bool true)] 59)) _
          refine Tr.nil (Tr.zA (Tr.sr (Tr.asg rfl rfl (Tr.nil (Tr.zA (Tr.ret (Tr.zW (Tr.zM ?_))))))))
          obtain rfl := Option.some.inj H
          exact Tr.out (m := [(.bool true)]) [] (zJ rfl zR) (fun W hW => ⟨w, ((zG, zH), (zJJ, zI3), (zJI, zI2, Dy128_1)), leB, rfl, ⟨zA1, hgy128_0, ⟨hgy128_1.1, hgy128_1.2⟩⟩, hW.pick (ks := [0, 1, 2, 3]) (by decide) (zO rfl (zO rfl (zO rfl (zO rfl QH))))⟩)
       ·refine Tr.skip (Tr.zi (Tr.zA (Tr.sr (Tr.mv rfl rfl ?_))))
        obtain ⟨l130, hl130, H⟩ := bnd H
        refine Tr.va rfl (fun _ _ h1 h2 => zFd zAP (h1.ev rfl) zAA (h1.ev rfl) hl130) ?_
        obtain ⟨zFV, hy131, H⟩ := bnd H
        refine Tr.zAC [10] [emp] (U := (Option Addr × Nat)) (fun u => (.tuple #[(.slice u.1 zFV.1.length u.2), (.bool zFV.2)])) (fun u => SlF u.1 zFV.1.length u.2) (fun u => [ow u.1 u.2 3 QT zFV.1]) rfl (zO rfl QH) (fun _ => rfl) (wn rfl) rfl Tryz.call36 (zI rfl zT) (fun W hW hp hE => zCG l130 (zE8 Qk (1 : Int).toNat 1 Qh) (Qh - (1 : Int).toNat) (Sl.cut (hW.slS (k := 4) rfl hp rfl) hl130) zFV hy131 hE) ?_
        intro u hu
        obtain ⟨zJH, zI1⟩ := u
        have gy131_0 := hu
        have hgy131_0 : SlF zJH zFV.1.length zI1 := gy131_0 --@phi
        show Tr _ _ (uf _ 101 (.tuple #[(.slice zJH zFV.1.length zI1), (.bool zFV.2)])) (up _ 10 (ow zJH zI1 3 QT zFV.1)) _
        refine Tr.mv rfl rfl (Tr.va rfl (fun _ _ h1 h2 => QC (h1.ev rfl) rfl) ?_)
        refine Tr.va rfl (fun _ _ h1 h2 => QC (h1.ev rfl) rfl) ?_
        refine Tr.asg rfl rfl (Tr.asg rfl rfl (Tr.nil (Tr.zA (Tr.sr (Tr.mv rfl rfl (Tr.mv rfl rfl ?_))))))
        cases zFN : zFV.2
        ·rw [zFN, if_neg (by decide)] at H
         refine Tr.pass rfl rfl rfl rfl rfl (by decide) ?_
         refine Tr.pass rfl rfl rfl rfl rfl (by decide) ?_
         refine Tr.pass rfl rfl rfl rfl rfl (by decide) ?_
         refine Tr.pass rfl rfl rfl rfl rfl (by decide) ?_
         refine Tr.pass rfl rfl rfl rfl rfl (by decide) ?_
         refine Tr.pass rfl rfl rfl rfl rfl (by decide) ?_
         refine Tr.va rfl (fun _ _ h1 h2 => zV (h1.ev rfl) (h1.ev rfl)) ?_
         refine Tr.asg rfl rfl (Tr.nil (Tr.zA (Tr.ret ?_)))
         obtain rfl := Option.some.inj H
         exact Tr.out (m := [(.bool false)]) [] (zJ rfl zR) (fun W hW => ⟨w, ((zG, zH), (zL, zK), (zn, zo, Dhp0_2)), leB, rfl, ⟨zA1, zA0, ⟨Js.1, Js.2⟩⟩, hW.pick (ks := [0, 1, 2, 3]) (by decide) (zO rfl (zO rfl (zO rfl (zO rfl QH))))⟩)
        ·rw [zFN, if_pos rfl] at H
         refine Tr.val (wg rfl rfl rfl) rfl (fun _ _ h1 h2 => run_move (h1.ev rfl)) ?_
         refine Tr.val (wg rfl rfl rfl) rfl (fun _ _ h1 h2 => run_move (h1.ev rfl)) ?_
         obtain ⟨zD8, hx137, H⟩ := bnd H
         obtain ⟨hx1370, hx1371, hx1372⟩ := zw hx137
         refine Tr.val (wg rfl rfl rfl) rfl (fun _ _ h1 h2 => zN zAP (h1.ev rfl) zAA (h1.ev rfl) hx1370 hx1371) ?_
         refine Tr.val (wg rfl rfl rfl) rfl (fun _ _ h1 h2 => zF zAR (h1.ev rfl) (rdo Wq (k := 4) h2 rfl hx1372) rfl) ?_
         refine Tr.val (wg rfl rfl rfl) rfl (fun _ _ h1 h2 => run_move (h1.ev rfl)) ?_
         obtain ⟨zDE, hy138, H⟩ := bnd H
         refine Tr.zEX [0, 2, 3] [bx bp0 #[(iv p0.p.Unit), (.slice zG p0.p.Tools.length zH), (.slice zL p0.p.Steps.length zK), (.bool p0.unit), (.slice zn p0.open_.length zo), (.bool true)] 59, ow zL zK 80 zC p0.p.Steps, sk zn zo 85 80 80 zS Dhp0_2] (U := (Option Addr × Nat) × (Option Addr × Nat × List (PE zC))) (fun u => (.bool zDE.1)) (fun O W u => SlF u.1.1 zDE.2.1.length u.1.2 ∧ (SK u.2.2.2 zDE.2.2 ∧ SlF u.2.1 zDE.2.2.length u.2.2.1)) (fun u => [bx bp0 #[(iv p0.p.Unit), (.slice zG p0.p.Tools.length zH), (.slice u.1.1 zDE.2.1.length u.1.2), (.bool p0.unit), (.slice u.2.1 zDE.2.2.length u.2.2.1), (.bool true)] 59, ow u.1.1 u.1.2 80 zC zDE.2.1, sk u.2.1 u.2.2.1 85 80 80 zS u.2.2.2]) rfl (zO rfl (zO rfl (zO rfl QH))) (fun _ => rfl) (wg rfl rfl rfl) rfl Tryz.call37 (zI rfl (zI rfl (zI rfl zT))) (fun W hW hp hE => zDa N (QZ.mk p0.p p0.unit p0.open_ true) zG zH (hW.slS (k := 1) rfl hp rfl) zL zK zn zo Dhp0_2 ⟨Js.1, Js.2⟩ bp0 zD8 zFV.1 zJH zI1 (hW.slS (k := 10) rfl hp rfl) zDE hy138 hE) ?_
         intro w u le139 hu
         obtain ⟨⟨zJG, zI0⟩, ⟨zJF, zIz, Dy138_1⟩⟩ := u
         obtain ⟨gy138_0, gy138_1⟩ := hu
         replace hT := hT.ext le139.ext
         replace leB := leB.trans le139
         have hgy138_0 : SlF zJG zDE.2.1.length zI0 := gy138_0 --@phi
         have hgy138_1 : (SK Dy138_1 zDE.2.2 ∧ SlF zJF zDE.2.2.length zIz) := gy138_1 --@phi
         show Tr _ _ (uf _ 111 (.bool zDE.1)) (up (up (up _ 3 (sk zJF zIz 85 80 80 zS Dy138_1)) 2 (ow zJG zI0 80 zC zDE.2.1)) 0 (bx bp0 #[(iv p0.p.Unit), (.slice zG p0.p.Tools.length zH), (.slice zJG zDE.2.1.length zI0), (.bool p0.unit), (.slice zJF zDE.2.2.length zIz), (.bool true)] 59)) _
         refine Tr.va rfl (fun _ _ h1 h2 => zU (h1.ev rfl) (h1.ev rfl)) ?_
         refine Tr.asg rfl rfl (Tr.nil (Tr.zA (Tr.ret ?_)))
         obtain rfl := Option.some.inj H
         exact Tr.out (m := [(.bool zDE.1)]) [] (zJ rfl zR) (fun W hW => ⟨w, ((zG, zH), (zJG, zI0), (zJF, zIz, Dy138_1)), leB, rfl, ⟨zA1, hgy138_0, ⟨hgy138_1.1, hgy138_1.2⟩⟩, hW.pick (ks := [0, 1, 2, 3]) (by decide) (zO rfl (zO rfl (zO rfl (zO rfl QH))))⟩)

theorem Wi {w : Bs} (p0 : Int) (p1 : Int) (p2 : Int) (r : Bool) (H : VO p0 p1 p2 = some r) (hE : HF w w.W E0) : Calls Tryz.prog 25 [(iv p0), (iv p1), (iv p2)].toArray w.W fun e W' => e = .returned (.bool r) ∧ HF w W' E0 := by
 unfold VO at H
 have leB := Bs.Le.refl w
 refine Tr.enter (n := 15) Tryz.func25 rfl rfl rfl hE ?_
 refine Tr.sr (Tr.asg rfl rfl (Tr.nil (Tr.zA (Tr.sr (Tr.mv rfl rfl (Tr.mv rfl rfl (Tr.va rfl (fun _ _ h1 h2 => zAz (h1.ev rfl) (h1.ev rfl)) ?_)))))))
 refine Tr.mv rfl rfl (Tr.Jl 4 [(14, (.bool ((decide (p1 ≤ p0)) && (decide (p0 ≤ p2)))))] [] ?_ ?_)
 ·cases hg99 : (decide (p1 ≤ p0))
  ·refine Tr.pass rfl rfl rfl rfl rfl (by decide) ?_
   refine Tr.pass rfl rfl rfl rfl rfl (by decide) ?_
   refine Tr.pass rfl rfl rfl rfl rfl (by decide) ?_
   refine Tr.va rfl (fun _ _ h1 h2 => zV (h1.ev rfl) (h1.ev rfl)) ?_
   exact Tr.nil (Tr.QI (.cons rfl .nil) .nil)
  ·refine Tr.val (wg rfl rfl rfl) rfl (fun _ _ h1 h2 => run_move (h1.ev rfl)) ?_
   refine Tr.val (wg rfl rfl rfl) rfl (fun _ _ h1 h2 => run_move (h1.ev rfl)) ?_
   refine Tr.val (wg rfl rfl rfl) rfl (fun _ _ h1 h2 => zAy (h1.ev rfl) (h1.ev rfl)) ?_
   refine Tr.va rfl (fun _ _ h1 h2 => zU (h1.ev rfl) (h1.ev rfl)) ?_
   exact Tr.nil (Tr.QI (.cons rfl .nil) .nil)
 ·show Tr _ _ (LF [(14, (.bool ((decide (p1 ≤ p0)) && (decide (p0 ≤ p2)))))]) (LE []) _
  refine Tr.asg rfl rfl (Tr.nil (Tr.zA (Tr.ret ?_)))
  obtain rfl := Option.some.inj H
  exact Tr.out (m := [(.bool ((decide (p1 ≤ p0)) && (decide (p0 ≤ p2))))]) [] (zJ rfl zR) (fun W hW => ⟨rfl, hW.low leB⟩)

theorem zIN (N : Nat) {w : Bs} (p0 : ByteArray) (r : Bool) (H : zBb N p0 = some r) (hE : HF w w.W E0) : Calls Tryz.prog 47 [(sv p0)].toArray w.W fun e W' => e = .returned (.bool r) ∧ HF w W' E0 := by
 unfold zBb at H
 have leB := Bs.Le.refl w
 refine Tr.enter (n := 59) Tryz.func47 rfl rfl rfl hE ?_
 refine Tr.sr (Tr.asg rfl rfl (Tr.nil (Tr.zA (Tr.seq (Tr.sr (Tr.mv rfl rfl (Tr.va rfl (fun _ _ h1 h2 => Vn zBw (h1.ev rfl)) ?_)))))))
 refine Tr.mv rfl rfl (Tr.nil (Tr.zA (Tr.block (Tr.loop (σ := Int) (fun m w s => Ku p0 m s = some r) (fun s => [(0, (sv p0)), (7, (iv (p0.size : Int))), (8, (iv s))]) (fun s => []) N 0 H (.cons rfl (.cons rfl (.cons rfl .nil))) .nil (fun _ _ h => WM (h)) ?_))))
 intro w Qs mL1 x105 hs
 have H := hs
 replace H : Ku p0 (mL1 + 1) x105 = some r := H
 replace leB := leB.trans Qs
 rw [Ku.eq_2] at H
 show Tr _ _ (LF [(0, (sv p0)), (7, (iv (p0.size : Int))), (8, (iv x105))]) (LE []) _
 refine Tr.sr (Tr.va rfl (fun _ _ h1 h2 => QV (h1.ev rfl) (h1.ev rfl)) ?_)
 refine Tr.nil (Tr.zA (Tr.seq (Tr.cond rfl H (fun H => ?_) (fun H => ?_))))
 ·refine Tr.skip (Tr.zA (Tr.seq (Tr.block (Tr.sr (Tr.mv rfl rfl (Tr.asg rfl rfl (Tr.nil (Tr.zA (Tr.sr (Tr.mv rfl rfl ?_))))))))))
  refine Tr.mv rfl rfl ?_
  obtain ⟨c106, hc106, H⟩ := bnd H
  refine Tr.va rfl (fun _ _ h1 h2 => zA6 zBw (h1.ev rfl) (h1.ev rfl) hc106) ?_
  refine Tr.asg rfl rfl (Tr.nil (Tr.zA (Tr.sr (Tr.mv rfl rfl (Tr.va rfl (fun _ _ h1 h2 => zAz (h1.ev rfl) (h1.ev rfl)) ?_)))))
  refine Tr.mv rfl rfl (Tr.Jl 3 [(0, (sv p0)), (3, (iv x105)), (4, (.int .u8 c106)), (7, (iv (p0.size : Int))), (8, (iv x105)), (19, (.bool ((decide (97 ≤ c106)) && (decide (c106 ≤ 122)))))] [] ?_ ?_)
  ·cases zCs : (decide (97 ≤ c106))
   ·refine Tr.pass rfl rfl rfl rfl rfl (by decide) ?_
    refine Tr.pass rfl rfl rfl rfl rfl (by decide) ?_
    refine Tr.va rfl (fun _ _ h1 h2 => zV (h1.ev rfl) (h1.ev rfl)) ?_
    exact Tr.nil (Tr.QI (.cons rfl (.cons rfl (.cons rfl (.cons rfl (.cons rfl (.cons rfl .nil)))))) .nil)
   ·refine Tr.val (wg rfl rfl rfl) rfl (fun _ _ h1 h2 => run_move (h1.ev rfl)) ?_
    refine Tr.val (wg rfl rfl rfl) rfl (fun _ _ h1 h2 => zAy (h1.ev rfl) (h1.ev rfl)) ?_
    refine Tr.va rfl (fun _ _ h1 h2 => zU (h1.ev rfl) (h1.ev rfl)) ?_
    exact Tr.nil (Tr.QI (.cons rfl (.cons rfl (.cons rfl (.cons rfl (.cons rfl (.cons rfl .nil)))))) .nil)
  ·show Tr _ _ (LF [(0, (sv p0)), (3, (iv x105)), (4, (.int .u8 c106)), (7, (iv (p0.size : Int))), (8, (iv x105)), (19, (.bool ((decide (97 ≤ c106)) && (decide (c106 ≤ 122)))))]) (LE []) _
   refine Tr.mv rfl rfl (Tr.Jl 7 [(0, (sv p0)), (3, (iv x105)), (4, (.int .u8 c106)), (7, (iv (p0.size : Int))), (8, (iv x105)), (27, (.bool (((decide (97 ≤ c106)) && (decide (c106 ≤ 122))) || ((decide (65 ≤ c106)) && (decide (c106 ≤ 90))))))] [] ?_ ?_)
   ·cases zCs : ((decide (97 ≤ c106)) && (decide (c106 ≤ 122)))
    ·refine Tr.val (wg rfl rfl rfl) rfl (fun _ _ h1 h2 => run_move (h1.ev rfl)) ?_
     refine Tr.val (wg rfl rfl rfl) rfl (fun _ _ h1 h2 => zAz (h1.ev rfl) (h1.ev rfl)) ?_
     refine Tr.val (wg rfl rfl rfl) rfl (fun _ _ h1 h2 => run_move (h1.ev rfl)) ?_
     refine Tr.Jl 3 [(0, (sv p0)), (3, (iv x105)), (4, (.int .u8 c106)), (7, (iv (p0.size : Int))), (8, (iv x105)), (20, (.bool false)), (26, (.bool ((decide (65 ≤ c106)) && (decide (c106 ≤ 90)))))] [] ?_ ?_
     ·cases zCs : (decide (65 ≤ c106))
      ·refine Tr.pass rfl rfl rfl rfl rfl (by decide) ?_
       refine Tr.pass rfl rfl rfl rfl rfl (by decide) ?_
       refine Tr.val (wg rfl rfl rfl) rfl (fun _ _ h1 h2 => zV (h1.ev rfl) (h1.ev rfl)) ?_
       exact Tr.nil (Tr.QI (.cons rfl (.cons rfl (.cons rfl (.cons rfl (.cons rfl (.cons rfl (.cons rfl .nil))))))) .nil)
      ·refine Tr.val (wg rfl rfl rfl) rfl (fun _ _ h1 h2 => run_move (h1.ev rfl)) ?_
       refine Tr.val (wg rfl rfl rfl) rfl (fun _ _ h1 h2 => zAy (h1.ev rfl) (h1.ev rfl)) ?_
       refine Tr.val (wg rfl rfl rfl) rfl (fun _ _ h1 h2 => zU (h1.ev rfl) (h1.ev rfl)) ?_
       exact Tr.nil (Tr.QI (.cons rfl (.cons rfl (.cons rfl (.cons rfl (.cons rfl (.cons rfl (.cons rfl .nil))))))) .nil)
     ·show Tr _ _ (LF [(0, (sv p0)), (3, (iv x105)), (4, (.int .u8 c106)), (7, (iv (p0.size : Int))), (8, (iv x105)), (20, (.bool false)), (26, (.bool ((decide (65 ≤ c106)) && (decide (c106 ≤ 90)))))]) (LE []) _
      refine Tr.va rfl (fun _ _ h1 h2 => zV (h1.ev rfl) (h1.ev rfl)) ?_
      exact Tr.nil (Tr.QI (.cons rfl (.cons rfl (.cons rfl (.cons rfl (.cons rfl (.cons rfl .nil)))))) .nil)
    ·refine Tr.pass rfl rfl rfl rfl rfl (by decide) ?_
     refine Tr.pass rfl rfl rfl rfl rfl (by decide) ?_
     refine Tr.pass rfl rfl rfl rfl rfl (by decide) ?_
     refine Tr.QX rfl rfl rfl rfl (by decide) ?_
     refine Tr.QX rfl rfl rfl rfl (by decide) ?_
     refine Tr.pass rfl rfl rfl rfl rfl (by decide) ?_
     refine Tr.va rfl (fun _ _ h1 h2 => zU (h1.ev rfl) (h1.ev rfl)) ?_
     exact Tr.nil (Tr.QI (.cons rfl (.cons rfl (.cons rfl (.cons rfl (.cons rfl (.cons rfl .nil)))))) .nil)
   ·show Tr _ _ (LF [(0, (sv p0)), (3, (iv x105)), (4, (.int .u8 c106)), (7, (iv (p0.size : Int))), (8, (iv x105)), (27, (.bool (((decide (97 ≤ c106)) && (decide (c106 ≤ 122))) || ((decide (65 ≤ c106)) && (decide (c106 ≤ 90))))))]) (LE []) _
    refine Tr.asg rfl rfl (Tr.nil (Tr.zA (Tr.sr (Tr.mv rfl rfl (Tr.va rfl (fun _ _ h1 h2 => Qb (h1.ev rfl)) ?_)))))
    refine Tr.mv rfl rfl (Tr.Jl 19 [(0, (sv p0)), (7, (iv (p0.size : Int))), (8, (iv x105)), (49, (.bool ((!(((decide (97 ≤ c106)) && (decide (c106 ≤ 122))) || ((decide (65 ≤ c106)) && (decide (c106 ≤ 90))))) && ((x105 == 0) || ((((decide (c106 < 48)) || (decide (57 < c106))) && (c106 != 95)) && (c106 != 45))))))] [] ?_ ?_)
    ·cases zCs : (!(((decide (97 ≤ c106)) && (decide (c106 ≤ 122))) || ((decide (65 ≤ c106)) && (decide (c106 ≤ 90)))))
     ·refine Tr.pass rfl rfl rfl rfl rfl (by decide) ?_
      refine Tr.pass rfl rfl rfl rfl rfl (by decide) ?_
      refine Tr.pass rfl rfl rfl rfl rfl (by decide) ?_
      refine Tr.QX rfl rfl rfl rfl (by decide) ?_
      refine Tr.QX rfl rfl rfl rfl (by decide) ?_
      refine Tr.QX rfl rfl rfl rfl (by decide) ?_
      refine Tr.QX rfl rfl rfl rfl (by decide) ?_
      refine Tr.QX rfl rfl rfl rfl (by decide) ?_
      refine Tr.QX rfl rfl rfl rfl (by decide) ?_
      refine Tr.QX rfl rfl rfl rfl (by decide) ?_
      refine Tr.QX rfl rfl rfl rfl (by decide) ?_
      refine Tr.QX rfl rfl rfl rfl (by decide) ?_
      refine Tr.QX rfl rfl rfl rfl (by decide) ?_
      refine Tr.QX rfl rfl rfl rfl (by decide) ?_
      refine Tr.QX rfl rfl rfl rfl (by decide) ?_
      refine Tr.QX rfl rfl rfl rfl (by decide) ?_
      refine Tr.QX rfl rfl rfl rfl (by decide) ?_
      refine Tr.pass rfl rfl rfl rfl rfl (by decide) ?_
      refine Tr.va rfl (fun _ _ h1 h2 => zV (h1.ev rfl) (h1.ev rfl)) ?_
      exact Tr.nil (Tr.QI (.cons rfl (.cons rfl (.cons rfl (.cons rfl .nil)))) .nil)
     ·refine Tr.val (wg rfl rfl rfl) rfl (fun _ _ h1 h2 => run_move (h1.ev rfl)) ?_
      refine Tr.val (wg rfl rfl rfl) rfl (fun _ _ h1 h2 => QY (h1.ev rfl) (h1.ev rfl)) ?_
      refine Tr.val (wg rfl rfl rfl) rfl (fun _ _ h1 h2 => run_move (h1.ev rfl)) ?_
      refine Tr.Jl 15 [(0, (sv p0)), (7, (iv (p0.size : Int))), (8, (iv x105)), (30, (.bool true)), (48, (.bool ((x105 == 0) || ((((decide (c106 < 48)) || (decide (57 < c106))) && (c106 != 95)) && (c106 != 45)))))] [] ?_ ?_
      ·cases zCs : (x105 == 0)
       ·refine Tr.val (wg rfl rfl rfl) rfl (fun _ _ h1 h2 => run_move (h1.ev rfl)) ?_
        refine Tr.val (wg rfl rfl rfl) rfl (fun _ _ h1 h2 => QV (h1.ev rfl) (h1.ev rfl)) ?_
        refine Tr.val (wg rfl rfl rfl) rfl (fun _ _ h1 h2 => run_move (h1.ev rfl)) ?_
        refine Tr.Jl 3 [(0, (sv p0)), (4, (.int .u8 c106)), (7, (iv (p0.size : Int))), (8, (iv x105)), (30, (.bool true)), (33, (.bool false)), (39, (.bool ((decide (c106 < 48)) || (decide (57 < c106)))))] [] ?_ ?_
        ·cases zCs : (decide (c106 < 48))
         ·refine Tr.val (wg rfl rfl rfl) rfl (fun _ _ h1 h2 => run_move (h1.ev rfl)) ?_
          refine Tr.val (wg rfl rfl rfl) rfl (fun _ _ h1 h2 => VR (h1.ev rfl) (h1.ev rfl)) ?_
          refine Tr.val (wg rfl rfl rfl) rfl (fun _ _ h1 h2 => zV (h1.ev rfl) (h1.ev rfl)) ?_
          exact Tr.nil (Tr.QI (.cons rfl (.cons rfl (.cons rfl (.cons rfl (.cons rfl (.cons rfl (.cons rfl .nil))))))) .nil)
         ·refine Tr.pass rfl rfl rfl rfl rfl (by decide) ?_
          refine Tr.pass rfl rfl rfl rfl rfl (by decide) ?_
          refine Tr.val (wg rfl rfl rfl) rfl (fun _ _ h1 h2 => zU (h1.ev rfl) (h1.ev rfl)) ?_
          exact Tr.nil (Tr.QI (.cons rfl (.cons rfl (.cons rfl (.cons rfl (.cons rfl (.cons rfl (.cons rfl .nil))))))) .nil)
        ·show Tr _ _ (LF [(0, (sv p0)), (4, (.int .u8 c106)), (7, (iv (p0.size : Int))), (8, (iv x105)), (30, (.bool true)), (33, (.bool false)), (39, (.bool ((decide (c106 < 48)) || (decide (57 < c106)))))]) (LE []) _
         refine Tr.val (wg rfl rfl rfl) rfl (fun _ _ h1 h2 => run_move (h1.ev rfl)) ?_
         refine Tr.Jl 3 [(0, (sv p0)), (4, (.int .u8 c106)), (7, (iv (p0.size : Int))), (8, (iv x105)), (30, (.bool true)), (33, (.bool false)), (43, (.bool (((decide (c106 < 48)) || (decide (57 < c106))) && (c106 != 95))))] [] ?_ ?_
         ·cases zCs : ((decide (c106 < 48)) || (decide (57 < c106)))
          ·refine Tr.pass rfl rfl rfl rfl rfl (by decide) ?_
           refine Tr.pass rfl rfl rfl rfl rfl (by decide) ?_
           refine Tr.val (wg rfl rfl rfl) rfl (fun _ _ h1 h2 => zV (h1.ev rfl) (h1.ev rfl)) ?_
           exact Tr.nil (Tr.QI (.cons rfl (.cons rfl (.cons rfl (.cons rfl (.cons rfl (.cons rfl (.cons rfl .nil))))))) .nil)
          ·refine Tr.val (wg rfl rfl rfl) rfl (fun _ _ h1 h2 => run_move (h1.ev rfl)) ?_
           refine Tr.val (wg rfl rfl rfl) rfl (fun _ _ h1 h2 => KV (h1.ev rfl) (h1.ev rfl)) ?_
           refine Tr.val (wg rfl rfl rfl) rfl (fun _ _ h1 h2 => zU (h1.ev rfl) (h1.ev rfl)) ?_
           exact Tr.nil (Tr.QI (.cons rfl (.cons rfl (.cons rfl (.cons rfl (.cons rfl (.cons rfl (.cons rfl .nil))))))) .nil)
         ·show Tr _ _ (LF [(0, (sv p0)), (4, (.int .u8 c106)), (7, (iv (p0.size : Int))), (8, (iv x105)), (30, (.bool true)), (33, (.bool false)), (43, (.bool (((decide (c106 < 48)) || (decide (57 < c106))) && (c106 != 95))))]) (LE []) _
          refine Tr.val (wg rfl rfl rfl) rfl (fun _ _ h1 h2 => run_move (h1.ev rfl)) ?_
          refine Tr.Jl 3 [(0, (sv p0)), (7, (iv (p0.size : Int))), (8, (iv x105)), (30, (.bool true)), (33, (.bool false)), (47, (.bool ((((decide (c106 < 48)) || (decide (57 < c106))) && (c106 != 95)) && (c106 != 45))))] [] ?_ ?_
          ·cases zCs : (((decide (c106 < 48)) || (decide (57 < c106))) && (c106 != 95))
           ·refine Tr.pass rfl rfl rfl rfl rfl (by decide) ?_
            refine Tr.pass rfl rfl rfl rfl rfl (by decide) ?_
            refine Tr.val (wg rfl rfl rfl) rfl (fun _ _ h1 h2 => zV (h1.ev rfl) (h1.ev rfl)) ?_
            exact Tr.nil (Tr.QI (.cons rfl (.cons rfl (.cons rfl (.cons rfl (.cons rfl (.cons rfl .nil)))))) .nil)
           ·refine Tr.val (wg rfl rfl rfl) rfl (fun _ _ h1 h2 => run_move (h1.ev rfl)) ?_
            refine Tr.val (wg rfl rfl rfl) rfl (fun _ _ h1 h2 => KV (h1.ev rfl) (h1.ev rfl)) ?_
            refine Tr.val (wg rfl rfl rfl) rfl (fun _ _ h1 h2 => zU (h1.ev rfl) (h1.ev rfl)) ?_
            exact Tr.nil (Tr.QI (.cons rfl (.cons rfl (.cons rfl (.cons rfl (.cons rfl (.cons rfl .nil)))))) .nil)
          ·show Tr _ _ (LF [(0, (sv p0)), (7, (iv (p0.size : Int))), (8, (iv x105)), (30, (.bool true)), (33, (.bool false)), (47, (.bool ((((decide (c106 < 48)) || (decide (57 < c106))) && (c106 != 95)) && (c106 != 45))))]) (LE []) _
           refine Tr.val (wg rfl rfl rfl) rfl (fun _ _ h1 h2 => zV (h1.ev rfl) (h1.ev rfl)) ?_
           exact Tr.nil (Tr.QI (.cons rfl (.cons rfl (.cons rfl (.cons rfl (.cons rfl .nil))))) .nil)
       ·refine Tr.pass rfl rfl rfl rfl rfl (by decide) ?_
        refine Tr.pass rfl rfl rfl rfl rfl (by decide) ?_
        refine Tr.pass rfl rfl rfl rfl rfl (by decide) ?_
        refine Tr.QX rfl rfl rfl rfl (by decide) ?_
        refine Tr.QX rfl rfl rfl rfl (by decide) ?_
        refine Tr.pass rfl rfl rfl rfl rfl (by decide) ?_
        refine Tr.pass rfl rfl rfl rfl rfl (by decide) ?_
        refine Tr.QX rfl rfl rfl rfl (by decide) ?_
        refine Tr.QX rfl rfl rfl rfl (by decide) ?_
        refine Tr.pass rfl rfl rfl rfl rfl (by decide) ?_
        refine Tr.pass rfl rfl rfl rfl rfl (by decide) ?_
        refine Tr.QX rfl rfl rfl rfl (by decide) ?_
        refine Tr.QX rfl rfl rfl rfl (by decide) ?_
        refine Tr.pass rfl rfl rfl rfl rfl (by decide) ?_
        refine Tr.val (wg rfl rfl rfl) rfl (fun _ _ h1 h2 => zU (h1.ev rfl) (h1.ev rfl)) ?_
        exact Tr.nil (Tr.QI (.cons rfl (.cons rfl (.cons rfl (.cons rfl (.cons rfl .nil))))) .nil)
      ·show Tr _ _ (LF [(0, (sv p0)), (7, (iv (p0.size : Int))), (8, (iv x105)), (30, (.bool true)), (48, (.bool ((x105 == 0) || ((((decide (c106 < 48)) || (decide (57 < c106))) && (c106 != 95)) && (c106 != 45)))))]) (LE []) _
       refine Tr.va rfl (fun _ _ h1 h2 => zU (h1.ev rfl) (h1.ev rfl)) ?_
       exact Tr.nil (Tr.QI (.cons rfl (.cons rfl (.cons rfl (.cons rfl .nil)))) .nil)
    ·show Tr _ _ (LF [(0, (sv p0)), (7, (iv (p0.size : Int))), (8, (iv x105)), (49, (.bool ((!(((decide (97 ≤ c106)) && (decide (c106 ≤ 122))) || ((decide (65 ≤ c106)) && (decide (c106 ≤ 90))))) && ((x105 == 0) || ((((decide (c106 < 48)) || (decide (57 < c106))) && (c106 != 95)) && (c106 != 45))))))]) (LE []) _
     refine Tr.nil (Tr.zA (Tr.cond rfl H (fun H => ?_) (fun H => ?_)))
     ·refine Tr.sr (Tr.asg rfl rfl (Tr.nil (Tr.zA (Tr.ret (Tr.zW (Tr.zM (Tr.zM (Tr.zW (Tr.zM ?_)))))))))
      obtain rfl := Option.some.inj H
      exact Tr.out (m := [(.bool false)]) [] (zJ rfl zR) (fun W hW => ⟨rfl, hW.low leB⟩)
     ·refine Tr.skip (Tr.zi (Tr.zA (Tr.region (Tr.va rfl (fun _ _ h1 h2 => QS (h1.ev rfl) (h1.ev rfl)) ?_))))
      exact Tr.mv rfl rfl (Tr.nil (Tr.zb Qs (w64 (x105 + 1)) H (.cons rfl (.cons rfl (.cons rfl .nil))) .nil))
 ·refine Tr.exit (Tr.zx (Tr.zx (Tr.Qd (Tr.zA (Tr.sr (Tr.mv rfl rfl (Tr.va rfl (fun _ _ h1 h2 => Vn zBw (h1.ev rfl)) ?_)))))))
  refine Tr.va rfl (fun _ _ h1 h2 => zAz (h1.ev rfl) (h1.ev rfl)) ?_
  refine Tr.mv rfl rfl (Tr.Jl 4 [(58, (.bool ((decide (1 ≤ (p0.size : Int))) && (decide ((p0.size : Int) ≤ 40)))))] [] ?_ ?_)
  ·cases zCs : (decide (1 ≤ (p0.size : Int)))
   ·refine Tr.pass rfl rfl rfl rfl rfl (by decide) ?_
    refine Tr.pass rfl rfl rfl rfl rfl (by decide) ?_
    refine Tr.pass rfl rfl rfl rfl rfl (by decide) ?_
    refine Tr.va rfl (fun _ _ h1 h2 => zV (h1.ev rfl) (h1.ev rfl)) ?_
    exact Tr.nil (Tr.QI (.cons rfl .nil) .nil)
   ·refine Tr.val (wg rfl rfl rfl) rfl (fun _ _ h1 h2 => run_move (h1.ev rfl)) ?_
    refine Tr.val (wg rfl rfl rfl) rfl (fun _ _ h1 h2 => Vn zBw (h1.ev rfl)) ?_
    refine Tr.val (wg rfl rfl rfl) rfl (fun _ _ h1 h2 => zAy (h1.ev rfl) (h1.ev rfl)) ?_
    refine Tr.va rfl (fun _ _ h1 h2 => zU (h1.ev rfl) (h1.ev rfl)) ?_
    exact Tr.nil (Tr.QI (.cons rfl .nil) .nil)
  ·show Tr _ _ (LF [(58, (.bool ((decide (1 ≤ (p0.size : Int))) && (decide ((p0.size : Int) ≤ 40)))))]) (LE []) _
   refine Tr.asg rfl rfl (Tr.nil (Tr.zA (Tr.ret ?_)))
   obtain rfl := Option.some.inj H
   exact Tr.out (m := [(.bool ((decide (1 ≤ (p0.size : Int))) && (decide ((p0.size : Int) ≤ 40))))]) [] (zJ rfl zR) (fun W hW => ⟨rfl, hW.low leB⟩)

theorem zAU {w : Bs} (p0 : Int) (p1 : Int) (r : Bool) (H : We p0 p1 = some r) (hE : HF w w.W E0) : Calls Tryz.prog 48 [(iv p0), (iv p1)].toArray w.W fun e W' => e = .returned (.bool r) ∧ HF w W' E0 := by
 unfold We at H
 have leB := Bs.Le.refl w
 refine Tr.enter (n := 11) Tryz.func48 rfl rfl rfl hE ?_
 refine Tr.sr (Tr.asg rfl rfl (Tr.nil (Tr.zA (Tr.seq (Tr.draw (by kernel_rfl) (by kernel_rfl) ?_)))))
 refine Tq.mv rfl rfl (Tq.mv rfl rfl ?_)
 obtain ⟨q100, hq100, H⟩ := bnd H
 refine Tq.va rfl (fun _ _ h1 h2 => run_dv (h1.ev rfl) (h1.ev rfl) hq100) ?_
 refine Tq.mv rfl rfl ?_
 obtain ⟨q101, hq101, H⟩ := bnd H
 refine Tq.va rfl (fun _ _ h1 h2 => run_dv (h1.ev rfl) (h1.ev rfl) hq101) ?_
 obtain ⟨y102, hy102, H⟩ := bnd H
 refine Tq.Qa (r := (.bool y102)) (wn rfl) rfl Tryz.call25 (zI rfl (zI rfl (zI rfl zT))) (fun W hW => Wi p0 q100 q101 y102 hy102 (HF.start _)) ?_
 refine Tq.asg rfl rfl (Tq.nil (Tr.zA (Tr.ret ?_)))
 obtain rfl := Option.some.inj H
 exact Tr.out (m := [(.bool y102)]) [] (zJ rfl zR) (fun W hW => ⟨rfl, hW.low leB⟩)

end Go.Proofs.YtokanbmnoghafaaGreatDoor
