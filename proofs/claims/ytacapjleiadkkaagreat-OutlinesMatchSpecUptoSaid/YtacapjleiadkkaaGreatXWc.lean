/- The walks: each function computes its plain function. -/
import Derived.Test.YtacapjleiadkkaaGreatXWb
namespace Go.Proofs.YtacapjleiadkkaaGreat
open Go.RowKit
set_option maxRecDepth 100000
set_option maxHeartbeats 1000000
theorem zEr (N : Nat) {w : Bs} (p0 : (List zJ)) (zF : Option Addr) (zH : Nat) (zK : Sl w.R w.W zL zF zH p0) (p1 : (List zJ)) (Ql : Option Addr) (Qk : Nat) (KU : Sl w.R w.W zL Ql Qk p1) (r : Bool) (H : VK N p0 p1 = some r) (hE : HF w w.W E0) : Calls Tryz.prog 49 [sL zF p0 zH, sL Ql p1 Qk].toArray w.W fun e W' => e = .returned (bV r) ∧ HF w W' E0 := by
 unfold VK at H
 have leB := Bs.Le.refl w
 refine Tr.enter (n := 26) Tryz.func49 rfl rfl rfl hE ?_
 refine Tr.sr (Tr.asg rfl rfl (Tr.nil (Tr.zA (Tr.seq (Tr.sr (Tr.mv rfl rfl (Tr.va rfl (fun _ _ a c => zf zA9 (a.ev rfl)) ?_)))))))
 refine Tr.mv rfl rfl (Tr.va rfl (fun _ _ a c => zf zA9 (a.ev rfl)) ?_)
 refine Tr.va rfl (fun _ _ a c => zCi (a.ev rfl) (a.ev rfl)) ?_
 refine Tr.nil (Tr.zA (Tr.cond rfl H (fun H => ?_) (fun H => ?_)))
 ·refine Tr.sr (Tr.asg rfl rfl (Tr.nil (Tr.zA (Tr.ret (Tr.zq ?_)))))
  obtain rfl := oI H
  exact Tr.out (m := [bV false]) [] (zU rfl zY) (fun W hW => ⟨rfl, hW.low leB⟩)
 ·refine Tr.skip (Tr.zA (Tr.seq (Tr.sr (Tr.asg rfl rfl (Tr.nil (Tr.zA (Tr.block (Tr.loop (σ := Int) (fun m w s => JO p0 p1 m s = some r) (fun s => [(0, sL zF p0 zH), (1, sL Ql p1 Qk), (5, iv s)]) (fun s => []) N 0 H (.cons rfl (.cons rfl (.cons rfl .nil))) .nil (fun _ _ h => KG (h)) ?_))))))))
  intro w QI mL1 x107 hs
  have H := hs
  replace H : JO p0 p1 (mL1 + 1) x107 = some r := H
  replace zK := zK.leR QI
  replace KU := KU.leR QI
  replace leB := leB.trans QI
  rw [JO.eq_2] at H
  show Tr _ _ (LF [(0, sL zF p0 zH), (1, sL Ql p1 Qk), (5, iv x107)]) (LE []) _
  refine Tr.seq (Tr.sr (Tr.mv rfl rfl (Tr.mv rfl rfl (Tr.va rfl (fun _ _ a c => zf zA9 (a.ev rfl)) ?_))))
  refine Tr.va rfl (fun _ _ a c => zh (a.ev rfl) (a.ev rfl)) ?_
  refine Tr.nil (Tr.zA (Tr.cond rfl H (fun H => ?_) (fun H => ?_)))
  ·refine Tr.skip (Tr.zA (Tr.seq (Tr.block (Tr.seq (Tr.draw (by kernel_rfl) (by kernel_rfl) ?_)))))
   refine Tq.mv rfl rfl (Tq.mv rfl rfl ?_)
   obtain ⟨Vt, zIJ, H⟩ := bnd H
   obtain ⟨zFZ, zFY, zFX⟩ := zO zIJ
   refine Tq.va rfl (fun _ _ a c => zD zA3 (a.ev rfl) zK.form (a.ev rfl) zFZ zFY) ?_
   refine Tq.va rfl (fun _ _ a c => ze (cs := [iv Vt.X0, iv Vt.Y0, iv Vt.X1, iv Vt.Y1]) zCw zAK (a.ev rfl) (zQ.take (rdF KL zK zFX c) 4) rfl) ?_
   refine Tq.mv rfl rfl (Tq.mv rfl rfl ?_)
   obtain ⟨zEh, zai, H⟩ := bnd H
   obtain ⟨zVz, zVy, zVx⟩ := zO zai
   refine Tq.va rfl (fun _ _ a c => zD zA3 (a.ev rfl) KU.form (a.ev rfl) zVz zVy) ?_
   refine Tq.va rfl (fun _ _ a c => ze (cs := [iv zEh.X0, iv zEh.Y0, iv zEh.X1, iv zEh.Y1]) zCw zAK (a.ev rfl) (zQ.take (rdF KL KU zVx c) 4) rfl) ?_
   refine Tq.va rfl (fun _ _ a c => zNw Vt zEh (a.ev rfl) (a.ev rfl)) ?_
   refine Tq.nil (Tr.zA (Tr.cond rfl H (fun H => ?_) (fun H => ?_)))
   ·refine Tr.sr (Tr.asg rfl rfl (Tr.nil (Tr.zA (Tr.ret (Tr.QY (Tr.zq (Tr.zq (Tr.QY (Tr.zq ?_)))))))))
    obtain rfl := oI H
    exact Tr.out (m := [bV false]) [] (zU rfl zY) (fun W hW => ⟨rfl, hW.low leB⟩)
   ·refine Tr.skip (Tr.zb (Tr.zA (Tr.region (Tr.mv rfl rfl (Tr.va rfl (fun _ _ a c => zg (a.ev rfl) (a.ev rfl)) ?_)))))
    exact Tr.asg rfl rfl (Tr.nil (Tr.zZ QI (w64 (x107 + 1)) H (.cons rfl (.cons rfl (.cons rfl .nil))) .nil))
  ·refine Tr.exit (Tr.zP (Tr.zP (Tr.zl (Tr.zA (Tr.sr (Tr.asg rfl rfl (Tr.nil (Tr.zA (Tr.ret ?_)))))))))
   obtain rfl := oI H
   exact Tr.out (m := [bV true]) [] (zU rfl zY) (fun W hW => ⟨rfl, hW.low leB⟩)

theorem zEL (N : Nat) {w : Bs} (p0 : (List zJ)) (zF : Option Addr) (zH : Nat) (zK : Sl w.R w.W zL zF zH p0) (r : Int) (H : Vg N p0 = some r) (hE : HF w w.W E0) : Calls Tryz.prog 15 [sL zF p0 zH].toArray w.W fun e W' => e = .returned (iv r) ∧ HF w W' E0 := by
 unfold Vg at H
 have leB := Bs.Le.refl w
 refine Tr.enter (n := 32) Tryz.func15 rfl rfl rfl hE ?_
 refine Tr.sr (Tr.asg rfl rfl (Tr.nil (Tr.zA (Tr.seq (Tr.sr (Tr.mv rfl rfl ?_))))))
 obtain ⟨zN, zAQ, H⟩ := bnd H
 refine Tr.KV (r := (iv zN)) (wn rfl) rfl Tryz.call47 (zI rfl zX) (fun W hW => zEe N p0 zF zH (zK.ext hW.Ky) zN zAQ (HF.start _)) ?_
 refine Tr.asg rfl rfl (Tr.nil (Tr.zA (Tr.sr (Tr.mv rfl rfl (Tr.va rfl (fun _ _ a c => zCi (a.ev rfl) (a.ev rfl)) ?_)))))
 refine Tr.nil (Tr.zA (Tr.cond rfl H (fun H => ?_) (fun H => ?_)))
 ·refine Tr.sr (Tr.mv rfl rfl (Tr.asg rfl rfl (Tr.nil (Tr.zA (Tr.ret (Tr.zq ?_))))))
  obtain rfl := oI H
  exact Tr.out (m := [iv zN]) [] (zU rfl zY) (fun W hW => ⟨rfl, hW.low leB⟩)
 ·refine Tr.skip (Tr.zA (Tr.seq (Tr.sr (Tr.asg rfl rfl (Tr.nil (Tr.zA (Tr.block (Tr.loop (σ := Int) (fun m w s => QL N p0 m s = some r) (fun s => [(0, sL zF p0 zH), (4, iv s)]) (fun s => []) N 1 H (.cons rfl (.cons rfl .nil)) .nil (fun _ _ h => KG (h)) ?_))))))))
  intro w QI mL1 zAm hs
  have H := hs
  replace H : QL N p0 (mL1 + 1) zAm = some r := H
  replace zK := zK.leR QI
  replace leB := leB.trans QI
  rw [QL.eq_2] at H
  show Tr _ _ (LF [(0, sL zF p0 zH), (4, iv zAm)]) (LE []) _
  refine Tr.seq (Tr.sr (Tr.mv rfl rfl (Tr.mv rfl rfl (Tr.va rfl (fun _ _ a c => zf zA9 (a.ev rfl)) ?_))))
  refine Tr.va rfl (fun _ _ a c => zh (a.ev rfl) (a.ev rfl)) ?_
  refine Tr.nil (Tr.zA (Tr.cond rfl H (fun H => ?_) (fun H => ?_)))
  ·refine Tr.skip (Tr.zA (Tr.seq (Tr.block (Tr.seq (Tr.draw (by kernel_rfl) (by kernel_rfl) ?_)))))
   refine Tq.mv rfl rfl (Tq.mv rfl rfl (Tq.va rfl (fun _ _ a c => Jn (a.ev rfl) (a.ev rfl)) ?_))
   obtain ⟨zB7, zTo, H⟩ := bnd H
   obtain ⟨zOh, zOg, zOf⟩ := zO zTo
   refine Tq.va rfl (fun _ _ a c => zD zA3 (a.ev rfl) zK.form (a.ev rfl) zOh zOg) ?_
   refine Tq.va rfl (fun _ _ a c => ze (cs := [iv zB7.X0, iv zB7.Y0, iv zB7.X1, iv zB7.Y1]) zCw zAK (a.ev rfl) (zQ.take (rdF KL zK zOf c) 4) rfl) ?_
   refine Tq.mv rfl rfl (Tq.mv rfl rfl ?_)
   obtain ⟨x112, hx112, H⟩ := bnd H
   obtain ⟨zOe, zOd, zOc⟩ := zO hx112
   refine Tq.va rfl (fun _ _ a c => zD zA3 (a.ev rfl) zK.form (a.ev rfl) zOe zOd) ?_
   refine Tq.va rfl (fun _ _ a c => ze (cs := [iv x112.X0, iv x112.Y0, iv x112.X1, iv x112.Y1]) zCw zAK (a.ev rfl) (zQ.take (rdF KL zK zOc c) 4) rfl) ?_
   obtain ⟨y113, hy113, H⟩ := bnd H
   refine Tq.KV (r := (bV y113)) (wn rfl) rfl Tryz.call48 (zI rfl (zI rfl zX)) (fun W hW => zFx zB7 x112 y113 hy113 (HF.start _)) ?_
   refine Tq.va rfl (fun _ _ a c => Wm (a.ev rfl)) ?_
   refine Tq.nil (Tr.zA (Tr.cond rfl H (fun H => ?_) (fun H => ?_)))
   ·refine Tr.sr (Tr.asg rfl rfl (Tr.nil (Tr.zA (Tr.ret (Tr.QY (Tr.zq (Tr.zq (Tr.QY (Tr.zq ?_)))))))))
    obtain rfl := oI H
    exact Tr.out (m := [iv 8]) [] (zU rfl zY) (fun W hW => ⟨rfl, hW.low leB⟩)
   ·refine Tr.skip (Tr.zb (Tr.zA (Tr.region (Tr.mv rfl rfl (Tr.va rfl (fun _ _ a c => zg (a.ev rfl) (a.ev rfl)) ?_)))))
    exact Tr.asg rfl rfl (Tr.nil (Tr.zZ QI (w64 (zAm + 1)) H (.cons rfl (.cons rfl .nil)) .nil))
  ·refine Tr.exit (Tr.zP (Tr.zP (Tr.zl (Tr.zA (Tr.seq (Tr.sr (Tr.mv rfl rfl (Tr.mv rfl rfl ?_))))))))
   obtain ⟨y114, hy114, H⟩ := bnd H
   refine Tr.zAi [1] [emp] (U := (Option Addr × Nat)) (fun u => (sL u.1 y114 u.2)) (fun u => SlF u.1 y114.length u.2) (fun u => [ow u.1 u.2 36 zL y114]) rfl (zn rfl zw) (fun _ => rfl) (wn rfl) rfl Tryz.call50 (zI rfl zX) (fun W hW hp hE => zEs N p0 zF zH (zK.ext (hW.zCA hp)) y114 hy114 hE) ?_
   intro u hu
   obtain ⟨zNY, zM6⟩ := u
   have gy114_0 := hu
   have zpQ : SlF zNY y114.length zM6 := gy114_0 --@phi
   show Tr _ _ (uf _ 29 (sL zNY y114 zM6)) (up _ 1 (ow zNY zM6 36 zL y114)) _
   obtain ⟨zGJ, zaT, H⟩ := bnd H
   refine Tr.KV (r := (bV zGJ)) (wn rfl) rfl Tryz.call49 (zI rfl (zI rfl zX)) (fun W hW => zEr N p0 zF zH (zK.ext hW.Ky) y114 zNY zM6 (hW.zCo (k := 1) rfl) zGJ zaT (HF.start _)) ?_
   refine Tr.va rfl (fun _ _ a c => Wm (a.ev rfl)) ?_
   refine Tr.nil (Tr.zA (Tr.cond rfl H (fun H => ?_) (fun H => ?_)))
   ·refine Tr.sr (Tr.asg rfl rfl (Tr.nil (Tr.zA (Tr.ret (Tr.zq ?_)))))
    obtain rfl := oI H
    exact Tr.out (m := [iv 3]) [] (zU rfl zY) (fun W hW => ⟨rfl, hW.low leB⟩)
   ·refine Tr.skip (Tr.zA (Tr.sr (Tr.asg rfl rfl (Tr.nil (Tr.zA (Tr.ret ?_))))))
    obtain rfl := oI H
    exact Tr.out (m := [iv 0]) [] (zU rfl zY) (fun W hW => ⟨rfl, hW.low leB⟩)

theorem zFw (N : Nat) {w : Bs} (p0 : (List KH)) (zF : Option Addr) (zH : Nat) (zK : Sl w.R w.W Qm zF zH p0) (p1 : Int) (r : Bool) (H : zAs N p0 p1 = some r) (hE : HF w w.W E0) : Calls Tryz.prog 118 [sL zF p0 zH, iv p1].toArray w.W fun e W' => e = .returned (bV r) ∧ HF w W' E0 := by
 unfold zAs at H
 have leB := Bs.Le.refl w
 refine Tr.enter (n := 28) Tryz.func118 rfl rfl rfl hE ?_
 refine Tr.sr (Tr.asg rfl rfl (Tr.nil (Tr.zA (Tr.seq (Tr.sr (Tr.asg rfl rfl (Tr.nil (Tr.zA (Tr.block (Tr.loop (σ := Int) (fun m w s => Jv p0 p1 m s = some r) (fun s => [(0, sL zF p0 zH), (1, iv p1), (5, iv s)]) (fun s => []) N 0 H (.cons rfl (.cons rfl (.cons rfl .nil))) .nil (fun _ _ h => KG (h)) ?_))))))))))
 intro w QI mL1 zB7 hs
 have H := hs
 replace H : Jv p0 p1 (mL1 + 1) zB7 = some r := H
 replace zK := zK.leR QI
 replace leB := leB.trans QI
 rw [Jv.eq_2] at H
 show Tr _ _ (LF [(0, sL zF p0 zH), (1, iv p1), (5, iv zB7)]) (LE []) _
 refine Tr.seq (Tr.sr (Tr.mv rfl rfl (Tr.mv rfl rfl (Tr.va rfl (fun _ _ a c => zf zH3 (a.ev rfl)) ?_))))
 refine Tr.va rfl (fun _ _ a c => zh (a.ev rfl) (a.ev rfl)) ?_
 refine Tr.nil (Tr.zA (Tr.cond rfl H (fun H => ?_) (fun H => ?_)))
 ·refine Tr.skip (Tr.zA (Tr.seq (Tr.block (Tr.sr (Tr.mv rfl rfl (Tr.mv rfl rfl ?_))))))
  obtain ⟨x112, hx112, H⟩ := bnd H
  obtain ⟨zOe, zOd, zOc⟩ := zO hx112
  refine Tr.va rfl (fun _ _ a c => zD zHg (a.ev rfl) zK.form (a.ev rfl) zOe zOd) ?_
  refine Tr.va rfl (fun _ _ a c => zB zFd (a.ev rfl)) ?_
  refine Tr.va rfl (fun _ _ a c => zC QA (a.ev rfl) (zQ.drop (rdF zCa zK zOc c) 0) rfl) ?_
  refine Tr.mv rfl rfl (Tr.va rfl (fun _ _ a c => zBJ (a.ev rfl) (a.ev rfl)) ?_)
  refine Tr.mv rfl rfl ?_
  obtain ⟨zda, zBk, H⟩ := bnd H
  refine Tr.zBy 8 [(0, sL zF p0 zH), (1, iv p1), (5, iv zB7), (27, bV zda)] [] ?_ ?_
  ·cases zT3 : (decide (x112.from_ ≤ p1))
   ·rw [zT3] at zBk
    rw [if_neg (by decide)] at zBk
    have H := zBk
    obtain rfl := oI H
    refine Tr.pass rfl rfl rfl rfl rfl (by decide) ?_
    refine Tr.pass rfl rfl rfl rfl rfl (by decide) ?_
    refine Tr.pass rfl rfl rfl rfl rfl (by decide) ?_
    refine Tr.pass rfl rfl rfl rfl rfl (by decide) ?_
    refine Tr.pass rfl rfl rfl rfl rfl (by decide) ?_
    refine Tr.pass rfl rfl rfl rfl rfl (by decide) ?_
    refine Tr.pass rfl rfl rfl rfl rfl (by decide) ?_
    refine Tr.va rfl (fun _ _ a c => zy (a.ev rfl) (a.ev rfl)) ?_
    exact Tr.nil (Tr.VW (.cons rfl (.cons rfl (.cons rfl (.cons rfl .nil)))) .nil)
   ·rw [zT3] at zBk
    rw [if_pos rfl] at zBk
    have H := zBk
    refine Tr.val (wg rfl rfl rfl) rfl (fun _ _ a c => run_move (a.ev rfl)) ?_
    refine Tr.val (wg rfl rfl rfl) rfl (fun _ _ a c => run_move (a.ev rfl)) ?_
    refine Tr.val (wg rfl rfl rfl) rfl (fun _ _ a c => run_move (a.ev rfl)) ?_
    obtain ⟨x115, hx115, H⟩ := bnd H
    obtain ⟨zOb, zOa, zOZ⟩ := zO hx115
    refine Tr.val (wg rfl rfl rfl) rfl (fun _ _ a c => zD zHg (a.ev rfl) zK.form (a.ev rfl) zOb zOa) ?_
    refine Tr.val (wg rfl rfl rfl) rfl (fun _ _ a c => zB zFc (a.ev rfl)) ?_
    refine Tr.val (wg rfl rfl rfl) rfl (fun _ _ a c => zC QA (a.ev rfl) (zQ.drop (rdF zCa zK zOZ c) 1) rfl) ?_
    refine Tr.val (wg rfl rfl rfl) rfl (fun _ _ a c => zh (a.ev rfl) (a.ev rfl)) ?_
    refine Tr.va rfl (fun _ _ a c => zx (a.ev rfl) (a.ev rfl)) ?_
    obtain rfl := oI H
    exact Tr.nil (Tr.VW (.cons rfl (.cons rfl (.cons rfl (.cons rfl .nil)))) .nil)
  ·show Tr _ _ (LF [(0, sL zF p0 zH), (1, iv p1), (5, iv zB7), (27, bV zda)]) (LE []) _
   refine Tr.nil (Tr.zA (Tr.cond rfl H (fun H => ?_) (fun H => ?_)))
   ·refine Tr.sr (Tr.asg rfl rfl (Tr.nil (Tr.zA (Tr.ret (Tr.QY (Tr.zq (Tr.zq (Tr.QY (Tr.zq ?_)))))))))
    obtain rfl := oI H
    exact Tr.out (m := [bV true]) [] (zU rfl zY) (fun W hW => ⟨rfl, hW.low leB⟩)
   ·refine Tr.skip (Tr.zb (Tr.zA (Tr.region (Tr.mv rfl rfl (Tr.va rfl (fun _ _ a c => zg (a.ev rfl) (a.ev rfl)) ?_)))))
    exact Tr.asg rfl rfl (Tr.nil (Tr.zZ QI (w64 (zB7 + 1)) H (.cons rfl (.cons rfl (.cons rfl .nil))) .nil))
 ·refine Tr.exit (Tr.zP (Tr.zP (Tr.zl (Tr.zA (Tr.sr (Tr.asg rfl rfl (Tr.nil (Tr.zA (Tr.ret ?_)))))))))
  obtain rfl := oI H
  exact Tr.out (m := [bV false]) [] (zU rfl zY) (fun W hW => ⟨rfl, hW.low leB⟩)

theorem zFl (N : Nat) {w : Bs} (p0 : (List zJ)) (zF : Option Addr) (zH : Nat) (zK : Sl w.R w.W zL zF zH p0) (r : zCq) (H : Wd N p0 = some r) (hE : HF w w.W (LEn [emp])) : Calls Tryz.prog 83 [sL zF p0 zH].toArray w.W fun e W' => ∃ (w' : Bs) (u : (Option Addr × Nat) × (Option Addr × Nat) × (Option Addr × Nat)), w.Le w' ∧ e = .returned (.agg #[sL u.1.1 r.xs u.1.2, sL u.2.1.1 r.ys u.2.1.2, sL u.2.2.1 r.in_ u.2.2.2]) ∧ (Sl w'.O w'.W zW u.1.1 u.1.2 r.xs ∧ Sl w'.O w'.W zW u.2.1.1 u.2.1.2 r.ys ∧ SlF u.2.2.1 r.in_.length u.2.2.2) ∧ HF w' W' (LEn [ow u.2.2.1 u.2.2.2 73 Ve r.in_]) := by
 unfold Wd at H
 have leB := Bs.Le.refl w
 refine Tr.enter (n := 90) Tryz.func83 rfl rfl rfl hE ?_
 refine Tr.sr (Tr.alloc 1 (wn rfl) rfl zUu fun QQ => ?_)
 refine Tr.nil (Tr.zA (Tr.sr (Tr.alloc 2 (wn rfl) rfl zUu fun WE => ?_)))
 refine Tr.nil (Tr.zA (Tr.seq (Tr.sr (Tr.asg rfl rfl (Tr.nil (Tr.zA (Tr.block (Tr.loop (σ := (List Int) × (List Int) × Int × (Option Addr) × Nat × (Option Addr) × Nat) (fun m w s => Jl N p0 m s.1 s.2.1 s.2.2.1 = some r ∧ Sl w.O w.W zW s.2.2.2.1 s.2.2.2.2.1 s.1 ∧ Sl w.O w.W zW s.2.2.2.2.2.1 s.2.2.2.2.2.2 s.2.1) (fun s => [(0, sL zF p0 zH), (2, pV QQ), (3, pV WE), (4, iv s.2.2.1)]) (fun s => [(1, bx QQ #[.slice none 0 0, .slice none 0 0, .slice none 0 0] 117), (2, bx WE #[sL s.2.2.2.1 s.1 s.2.2.2.2.1, sL s.2.2.2.2.2.1 s.2.1 s.2.2.2.2.2.2, .slice none 0 0] 117)]) N ([], [], 0, none, 0, none, 0) ⟨H, (Sl.nil _ _ _), (Sl.nil _ _ _)⟩ (.cons rfl (.cons rfl (.cons rfl (.cons rfl .nil)))) (.cons rfl (.cons rfl .nil)) (fun _ _ h => KG (h.1)) ?_))))))))
 intro w QI mL1 s hs
 obtain ⟨zAH, zCN, zEP, zBp, zCE, zCJ, zCD⟩ := s
 obtain ⟨H, zGj, zHd⟩ := hs
 replace H : Jl N p0 (mL1 + 1) zAH zCN zEP = some r := H
 replace zK := zK.leR QI
 replace leB := leB.trans QI
 replace zGj : Sl w.O w.W zW zBp zCE zAH := zGj
 replace zHd : Sl w.O w.W zW zCJ zCD zCN := zHd
 rw [Jl.eq_2] at H
 show Tr _ _ (LF [(0, sL zF p0 zH), (2, pV QQ), (3, pV WE), (4, iv zEP)]) (LE [(1, bx QQ #[.slice none 0 0, .slice none 0 0, .slice none 0 0] 117), (2, bx WE #[sL zBp zAH zCE, sL zCJ zCN zCD, .slice none 0 0] 117)]) _
 refine Tr.seq (Tr.sr (Tr.mv rfl rfl (Tr.mv rfl rfl (Tr.va rfl (fun _ _ a c => zf zA9 (a.ev rfl)) ?_))))
 refine Tr.va rfl (fun _ _ a c => zh (a.ev rfl) (a.ev rfl)) ?_
 refine Tr.nil (Tr.zA (Tr.cond rfl H (fun H => ?_) (fun H => ?_)))
 ·refine Tr.skip (Tr.zA (Tr.seq (Tr.block (Tr.seq (Tr.zJQ 13 [] [] (by kernel_rfl) (by kernel_rfl) fun zrW zok zqM => ?_)))))
  refine Dr.quiet 0 [(15, pV WE)] (by kernel_rfl) rfl rfl (by kernel_rfl) ?_ rfl rfl ?_
  ·refine Tq.va rfl (fun _ _ a c => zB zDh (a.ev rfl)) ?_
   exact Tq.fin (.cons rfl .nil)
  refine Dr.quiet 1 [(16, sL zBp zAH zCE)] (by kernel_rfl) rfl rfl (by kernel_rfl) ?_ rfl rfl ?_
  ·refine Tq.va rfl (fun _ _ a c => zC zAA (a.ev rfl) (rdb c (vs := [sL zBp zAH zCE, sL zCJ zCN zCD, .slice none 0 0]) (k := 2) rfl 0) rfl) ?_
   exact Tq.fin (.cons rfl .nil)
  refine Dr.quiet 2 [(17, sL zF p0 zH)] (by kernel_rfl) rfl rfl (by kernel_rfl) ?_ rfl rfl ?_
  ·exact Tq.mv rfl rfl (Tq.fin (.cons rfl .nil))
  refine Dr.quiet 3 [(18, iv zEP)] (by kernel_rfl) rfl rfl (by kernel_rfl) ?_ rfl rfl ?_
  ·exact Tq.mv rfl rfl (Tq.fin (.cons rfl .nil))
  obtain ⟨zcU, zoT, H⟩ := bnd H
  obtain ⟨zj3, zj2, zj1⟩ := zO zoT
  refine Dr.quiet 4 [(19, .pointer (some ⟨adB zF, adO zF + (zEP).toNat * 4, none⟩))] (by kernel_rfl) rfl rfl (by kernel_rfl) ?_ rfl rfl ?_
  ·refine Tq.va rfl (fun _ _ a c => zD zA3 (a.ev rfl) zK.form (a.ev rfl) zj3 zj2) ?_
   exact Tq.fin (.cons rfl .nil)
  refine Dr.quiet 5 [(20, .pointer (some ⟨adB zF, adO zF + (zEP).toNat * 4 + 0, none⟩))] (by kernel_rfl) rfl rfl (by kernel_rfl) ?_ rfl rfl ?_
  ·refine Tq.va rfl (fun _ _ a c => zB zAo (a.ev rfl)) ?_
   exact Tq.fin (.cons rfl .nil)
  refine Dr.quiet 6 [(21, iv zcU.X0)] (by kernel_rfl) rfl rfl (by kernel_rfl) ?_ rfl rfl ?_
  ·refine Tq.va rfl (fun _ _ a c => zC QA (a.ev rfl) (zQ.drop (rdF KL zK zj1 c) 0) rfl) ?_
   exact Tq.fin (.cons rfl .nil)
  refine Dr.quiet 8 [(23, sL zF p0 zH)] (by kernel_rfl) rfl rfl (by kernel_rfl) ?_ rfl rfl ?_
  ·exact Tq.mv rfl rfl (Tq.fin (.cons rfl .nil))
  refine Dr.quiet 9 [(24, iv zEP)] (by kernel_rfl) rfl rfl (by kernel_rfl) ?_ rfl rfl ?_
  ·exact Tq.mv rfl rfl (Tq.fin (.cons rfl .nil))
  obtain ⟨zcT, zoS, H⟩ := bnd H
  obtain ⟨zj0, zjz, zjy⟩ := zO zoS
  refine Dr.quiet 10 [(25, .pointer (some ⟨adB zF, adO zF + (zEP).toNat * 4, none⟩))] (by kernel_rfl) rfl rfl (by kernel_rfl) ?_ rfl rfl ?_
  ·refine Tq.va rfl (fun _ _ a c => zD zA3 (a.ev rfl) zK.form (a.ev rfl) zj0 zjz) ?_
   exact Tq.fin (.cons rfl .nil)
  refine Dr.quiet 11 [(26, .pointer (some ⟨adB zF, adO zF + (zEP).toNat * 4 + 2, none⟩))] (by kernel_rfl) rfl rfl (by kernel_rfl) ?_ rfl rfl ?_
  ·refine Tq.va rfl (fun _ _ a c => zB zE2 (a.ev rfl)) ?_
   exact Tq.fin (.cons rfl .nil)
  refine Dr.quiet 12 [(27, iv zcT.X1)] (by kernel_rfl) rfl rfl (by kernel_rfl) ?_ rfl rfl ?_
  ·refine Tq.va rfl (fun _ _ a c => zC QA (a.ev rfl) (zQ.drop (rdF KL zK zjy c) 2) rfl) ?_
   exact Tq.fin (.cons rfl .nil)
  obtain ⟨zSu, zmt, H⟩ := bnd H
  refine Dr.one 7 (by kernel_rfl) ?_
  refine St.zCe 7 [] [] (U := (Option Addr × Nat)) (fun u => (sL u.1 zSu u.2)) (fun O W u => Sl O W zW u.1 u.2 zSu) (fun u => []) rfl zw (fun _ => rfl) (zKS rfl) rfl (wn rfl) rfl Tryz.call60 (zI rfl (zI rfl zX)) (fun W hW hp hE => VU N zAH zBp zCE (zGj.zMY (hW.zCA hp)) zcU.X0 zSu zmt hE) ?_
  intro w u zZw hu zrJ
  obtain ⟨zSm, zST⟩ := u
  have gy145_0 := hu
  replace zK := zK.leR zZw
  replace zHd := zHd.le zZw
  replace QI := QI.trans zZw
  have zFa : Sl w.O w.W zW zSm zST zSu := gy145_0
  show Dr _ _ _ _ _ _ _ _ _ (uf _ 22 (sL zSm zSu zST)) (_)
  refine Dr.tail (by kernel_rfl) ?_
  obtain ⟨zHz, zaP, H⟩ := bnd H
  refine Tr.zCe [] [] (U := (Option Addr × Nat)) (fun u => (sL u.1 zHz u.2)) (fun O W u => Sl O W zW u.1 u.2 zHz) (fun u => []) rfl zw (fun _ => rfl) (wn rfl) rfl Tryz.call60 (zI rfl (zI rfl zX)) (fun W hW hp hE => VU N zSu zSm zST (zFa.zMY (hW.zCA hp)) zcT.X1 zHz zaP hE) ?_
  intro w u zW4 hu
  obtain ⟨zHV, zHP⟩ := u
  have gy147_0 := hu
  replace zK := zK.leR zW4
  replace zHd := zHd.le zW4
  replace zFa := zFa.le zW4
  replace QI := QI.trans zW4
  have zIK : Sl w.O w.W zW zHV zHP zHz := gy147_0 --@phi
  show Tr _ _ (uf _ 28 (sL zHV zHz zHP)) (_) _
  refine Tr.va rfl (fun _ _ a c => zB zDh (a.ev rfl)) ?_
  refine Tr.store 2 (cs := [sL zHV zHz zHP]) [sL zHV zHz zHP, sL zCJ zCN zCD, .slice none 0 0] (wn rfl) rfl rfl rfl rfl zWd rfl rfl rfl ?_
  refine Tr.nil (Tr.zA (Tr.zJQ 13 [] [] (by kernel_rfl) (by kernel_rfl) fun zrV zoj zqL => ?_))
  refine Dr.quiet 0 [(30, .pointer (some ⟨WE, 1, none⟩))] (by kernel_rfl) rfl rfl (by kernel_rfl) ?_ rfl rfl ?_
  ·refine Tq.va rfl (fun _ _ a c => zB zGp (a.ev rfl)) ?_
   exact Tq.fin (.cons rfl .nil)
  refine Dr.quiet 1 [(31, sL zCJ zCN zCD)] (by kernel_rfl) rfl rfl (by kernel_rfl) ?_ rfl rfl ?_
  ·refine Tq.va rfl (fun _ _ a c => zC zAA (a.ev rfl) (rdb c (vs := [sL zHV zHz zHP, sL zCJ zCN zCD, .slice none 0 0]) (k := 2) rfl 1) rfl) ?_
   exact Tq.fin (.cons rfl .nil)
  refine Dr.quiet 2 [(32, sL zF p0 zH)] (by kernel_rfl) rfl rfl (by kernel_rfl) ?_ rfl rfl ?_
  ·exact Tq.mv rfl rfl (Tq.fin (.cons rfl .nil))
  refine Dr.quiet 3 [(33, iv zEP)] (by kernel_rfl) rfl rfl (by kernel_rfl) ?_ rfl rfl ?_
  ·exact Tq.mv rfl rfl (Tq.fin (.cons rfl .nil))
  obtain ⟨x150, hx150, H⟩ := bnd H
  obtain ⟨zju, zjt, zjs⟩ := zO hx150
  refine Dr.quiet 4 [(34, .pointer (some ⟨adB zF, adO zF + (zEP).toNat * 4, none⟩))] (by kernel_rfl) rfl rfl (by kernel_rfl) ?_ rfl rfl ?_
  ·refine Tq.va rfl (fun _ _ a c => zD zA3 (a.ev rfl) zK.form (a.ev rfl) zju zjt) ?_
   exact Tq.fin (.cons rfl .nil)
  refine Dr.quiet 5 [(35, .pointer (some ⟨adB zF, adO zF + (zEP).toNat * 4 + 1, none⟩))] (by kernel_rfl) rfl rfl (by kernel_rfl) ?_ rfl rfl ?_
  ·refine Tq.va rfl (fun _ _ a c => zB zAL (a.ev rfl)) ?_
   exact Tq.fin (.cons rfl .nil)
  refine Dr.quiet 6 [(36, iv x150.Y0)] (by kernel_rfl) rfl rfl (by kernel_rfl) ?_ rfl rfl ?_
  ·refine Tq.va rfl (fun _ _ a c => zC QA (a.ev rfl) (zQ.drop (rdF KL zK zjs c) 1) rfl) ?_
   exact Tq.fin (.cons rfl .nil)
  refine Dr.quiet 8 [(38, sL zF p0 zH)] (by kernel_rfl) rfl rfl (by kernel_rfl) ?_ rfl rfl ?_
  ·exact Tq.mv rfl rfl (Tq.fin (.cons rfl .nil))
  refine Dr.quiet 9 [(39, iv zEP)] (by kernel_rfl) rfl rfl (by kernel_rfl) ?_ rfl rfl ?_
  ·exact Tq.mv rfl rfl (Tq.fin (.cons rfl .nil))
  obtain ⟨x151, hx151, H⟩ := bnd H
  obtain ⟨zVh, zVg, zVf⟩ := zO hx151
  refine Dr.quiet 10 [(40, .pointer (some ⟨adB zF, adO zF + (zEP).toNat * 4, none⟩))] (by kernel_rfl) rfl rfl (by kernel_rfl) ?_ rfl rfl ?_
  ·refine Tq.va rfl (fun _ _ a c => zD zA3 (a.ev rfl) zK.form (a.ev rfl) zVh zVg) ?_
   exact Tq.fin (.cons rfl .nil)
  refine Dr.quiet 11 [(41, .pointer (some ⟨adB zF, adO zF + (zEP).toNat * 4 + 3, none⟩))] (by kernel_rfl) rfl rfl (by kernel_rfl) ?_ rfl rfl ?_
  ·refine Tq.va rfl (fun _ _ a c => zB zDg (a.ev rfl)) ?_
   exact Tq.fin (.cons rfl .nil)
  refine Dr.quiet 12 [(42, iv x151.Y1)] (by kernel_rfl) rfl rfl (by kernel_rfl) ?_ rfl rfl ?_
  ·refine Tq.va rfl (fun _ _ a c => zC QA (a.ev rfl) (zQ.drop (rdF KL zK zVf c) 3) rfl) ?_
   exact Tq.fin (.cons rfl .nil)
  obtain ⟨y152, hy152, H⟩ := bnd H
  refine Dr.one 7 (by kernel_rfl) ?_
  refine St.zCe 7 [] [] (U := (Option Addr × Nat)) (fun u => (sL u.1 y152 u.2)) (fun O W u => Sl O W zW u.1 u.2 y152) (fun u => []) rfl zw (fun _ => rfl) (zKS rfl) rfl (wn rfl) rfl Tryz.call60 (zI rfl (zI rfl zX)) (fun W hW hp hE => VU N zCN zCJ zCD (zHd.zMY (hW.zCA hp)) x150.Y0 y152 hy152 hE) ?_
  intro w u zZv hu zrI
  obtain ⟨zSl, zSS⟩ := u
  have gy152_0 := hu
  replace zIK := zIK.le zZv
  replace zFa := zFa.le zZv
  replace QI := QI.trans zZv
  have zOn : Sl w.O w.W zW zSl zSS y152 := gy152_0
  show Dr _ _ _ _ _ _ _ _ _ (uf _ 37 (sL zSl y152 zSS)) (_)
  refine Dr.tail (by kernel_rfl) ?_
  obtain ⟨zPZ, zmr, H⟩ := bnd H
  refine Tr.zCe [] [] (U := (Option Addr × Nat)) (fun u => (sL u.1 zPZ u.2)) (fun O W u => Sl O W zW u.1 u.2 zPZ) (fun u => []) rfl zw (fun _ => rfl) (wn rfl) rfl Tryz.call60 (zI rfl (zI rfl zX)) (fun W hW hp hE => VU N y152 zSl zSS (zOn.zMY (hW.zCA hp)) x151.Y1 zPZ zmr hE) ?_
  intro w u zW3 hu
  obtain ⟨zK1, zKf⟩ := u
  have gy154_0 := hu
  replace zIK := zIK.le zW3
  replace zFa := zFa.le zW3
  replace zOn := zOn.le zW3
  replace QI := QI.trans zW3
  have zbF : Sl w.O w.W zW zK1 zKf zPZ := gy154_0 --@phi
  show Tr _ _ (uf _ 43 (sL zK1 zPZ zKf)) (_) _
  refine Tr.va rfl (fun _ _ a c => zB zGp (a.ev rfl)) ?_
  refine Tr.store 2 (cs := [sL zK1 zPZ zKf]) [sL zHV zHz zHP, sL zK1 zPZ zKf, .slice none 0 0] (wn rfl) rfl rfl rfl rfl zWd rfl rfl rfl ?_
  refine Tr.nil (Tr.zb (Tr.zA (Tr.region (Tr.mv rfl rfl (Tr.va rfl (fun _ _ a c => zg (a.ev rfl) (a.ev rfl)) ?_)))))
  exact Tr.asg rfl rfl (Tr.nil (Tr.zZ QI (zHz, zPZ, (w64 (zEP + 1)), zHV, zHP, zK1, zKf) ⟨H, zIK, zbF⟩ (.cons rfl (.cons rfl (.cons rfl (.cons rfl .nil)))) (.cons rfl (.cons rfl .nil))))
 ·refine Tr.exit (Tr.zP (Tr.zP (Tr.zl (Tr.zA (Tr.seq (Tr.sr (Tr.asg rfl rfl (Tr.nil (Tr.zA (Tr.block (Tr.Qb 13 73 Ve ?_)))))))))))
  refine Tr.loop (σ := (List (List Bool)) × Int × (Option Addr) × Nat) (fun m w s => QM N p0 zAH zCN m s.1 s.2.1 = some r ∧ SlF s.2.2.1 s.1.length s.2.2.2) (fun s => [(0, sL zF p0 zH), (2, pV QQ), (3, pV WE), (5, iv s.2.1)]) (fun s => [(1, bx QQ #[.slice none 0 0, .slice none 0 0, .slice none 0 0] 117), (2, bx WE #[sL zBp zAH zCE, sL zCJ zCN zCD, sL s.2.2.1 s.1 s.2.2.2] 117), (13, ow s.2.2.1 s.2.2.2 73 Ve s.1)]) N (([] : List (List Bool)), 1, none, 0) ⟨H, Jm⟩ (.cons rfl (.cons rfl (.cons rfl (.cons rfl .nil)))) (.cons rfl (.cons rfl (.cons rfl .nil))) (fun _ _ h => KG (h.1)) ?_
  intro w zCM mL4 s hs
  obtain ⟨zDQ, zJe, zCz, zCv⟩ := s
  obtain ⟨H, zaw⟩ := hs
  replace H : QM N p0 zAH zCN (mL4 + 1) zDQ zJe = some r := H
  replace zK := zK.leR zCM
  replace zGj := zGj.le zCM
  replace zHd := zHd.le zCM
  replace leB := leB.trans zCM
  replace zaw : SlF zCz zDQ.length zCv := zaw
  rw [QM.eq_2] at H
  show Tr _ _ (LF [(0, sL zF p0 zH), (2, pV QQ), (3, pV WE), (5, iv zJe)]) (LE [(1, bx QQ #[.slice none 0 0, .slice none 0 0, .slice none 0 0] 117), (2, bx WE #[sL zBp zAH zCE, sL zCJ zCN zCD, sL zCz zDQ zCv] 117), (13, ow zCz zCv 73 Ve zDQ)]) _
  refine Tr.seq (Tr.sr (Tr.mv rfl rfl (Tr.va rfl (fun _ _ a c => zB zGp (a.ev rfl)) ?_)))
  refine Tr.va rfl (fun _ _ a c => zC zAA (a.ev rfl) (rdb c (vs := [sL zBp zAH zCE, sL zCJ zCN zCD, sL zCz zDQ zCv]) (k := 2) rfl 1) rfl) ?_
  refine Tr.va rfl (fun _ _ a c => zf Vu (a.ev rfl)) ?_
  refine Tr.va rfl (fun _ _ a c => zh (a.ev rfl) (a.ev rfl)) ?_
  refine Tr.nil (Tr.zA (Tr.cond rfl H (fun H => ?_) (fun H => ?_)))
  ·refine Tr.skip (Tr.zA (Tr.seq (Tr.block (Tr.sr (Tr.mv rfl rfl (Tr.va rfl (fun _ _ a c => zB zGp (a.ev rfl)) ?_))))))
   refine Tr.va rfl (fun _ _ a c => zC zAA (a.ev rfl) (rdb c (vs := [sL zBp zAH zCE, sL zCJ zCN zCD, sL zCz zDQ zCv]) (k := 2) rfl 1) rfl) ?_
   refine Tr.mv rfl rfl (Tr.va rfl (fun _ _ a c => Jn (a.ev rfl) (a.ev rfl)) ?_)
   obtain ⟨ze5, zoC, H⟩ := bnd H
   obtain ⟨zi7, zi6, zi5⟩ := zO zoC
   refine Tr.va rfl (fun _ _ a c => zD Kb (a.ev rfl) zHd.form (a.ev rfl) zi7 zi6) ?_
   refine Tr.va rfl (fun _ _ a c => zC QA (a.ev rfl) (rdF Jd (zHd.rl) zi5 c) rfl) ?_
   obtain ⟨zFn, zmk, H⟩ := bnd H
   refine Tr.zAi [14] [emp] (U := (Option Addr × Nat)) (fun u => (sL u.1 zFn u.2)) (fun u => SlF u.1 zFn.length u.2) (fun u => [ow u.1 u.2 125 Qm zFn]) rfl (zn rfl zw) (fun _ => rfl) (wn rfl) rfl Tryz.call82 (zI rfl (zI rfl zX)) (fun W hW hp hE => zDv N p0 zF zH (zK.ext (hW.zCA hp)) ze5 zFn zmk hE) ?_
   intro u hu
   obtain ⟨zDw, zDi⟩ := u
   have gy223_0 := hu
   have zpL : SlF zDw zFn.length zDi := gy223_0 --@phi
   show Tr _ _ (uf _ 59 (sL zDw zFn zDi)) (up _ 14 (ow zDw zDi 125 Qm zFn)) _
   refine Tr.asg rfl rfl (Tr.nil (Tr.zA (Tr.sr (Tr.va rfl (fun _ _ a c => zB zDh (a.ev rfl)) ?_))))
   refine Tr.va rfl (fun _ _ a c => zC zAA (a.ev rfl) (rdb c (vs := [sL zBp zAH zCE, sL zCJ zCN zCD, sL zCz zDQ zCv]) (k := 2) rfl 0) rfl) ?_
   refine Tr.va rfl (fun _ _ a c => zf Vu (a.ev rfl)) ?_
   obtain ⟨zcw, zo7, H⟩ := bnd H
   refine Tr.makeSlice 15 VQ false (wn rfl) rfl rfl rfl zZX zYY rfl zey zkx rfl ⟨(), fun _ _ => zRi _ _ _ _, rfl⟩ zo7 fun zrQ zka => ?_
   refine Tr.asg rfl rfl (Tr.nil (Tr.zA (Tr.seq (Tr.sr (Tr.asg rfl rfl (Tr.nil (Tr.zA (Tr.block (Tr.loop (σ := (List Bool) × Int × (Option Addr) × Nat) (fun m w s => JL N zAH zDQ zJe (QM N p0 zAH zCN mL4) zFn m s.1 s.2.1 = some r ∧ SlF s.2.2.1 s.1.length s.2.2.2) (fun s => [(0, sL zF p0 zH), (2, pV QQ), (3, pV WE), (5, iv zJe), (6, sL zDw zFn zDi), (7, sL s.2.2.1 s.1 s.2.2.2), (8, iv s.2.1)]) (fun s => [(1, bx QQ #[.slice none 0 0, .slice none 0 0, .slice none 0 0] 117), (2, bx WE #[sL zBp zAH zCE, sL zCJ zCN zCD, sL zCz zDQ zCv] 117), (13, ow zCz zCv 73 Ve zDQ), (14, ow zDw zDi 125 Qm zFn), (15, ow s.2.2.1 s.2.2.2 4 VQ s.1)]) N (zcw, 1, (some ⟨zrQ, 0, none⟩), zcw.length) ⟨H, zka⟩ (.cons rfl (.cons rfl (.cons rfl (.cons rfl (.cons rfl (.cons rfl (.cons rfl .nil))))))) (.cons rfl (.cons rfl (.cons rfl (.cons rfl (.cons rfl .nil))))) (fun _ _ h => KG (h.1)) ?_)))))))))
   intro w zC8 mL5 s hs
   obtain ⟨zKQ, zHq, zG3, zGs⟩ := s
   obtain ⟨H, zXH⟩ := hs
   replace H : JL N zAH zDQ zJe (QM N p0 zAH zCN mL4) zFn (mL5 + 1) zKQ zHq = some r := H
   replace zGj := zGj.le zC8
   replace zCM := zCM.trans zC8
   replace zXH : SlF zG3 zKQ.length zGs := zXH
   rw [JL.eq_2] at H
   show Tr _ _ (LF [(0, sL zF p0 zH), (2, pV QQ), (3, pV WE), (5, iv zJe), (6, sL zDw zFn zDi), (7, sL zG3 zKQ zGs), (8, iv zHq)]) (LE [(1, bx QQ #[.slice none 0 0, .slice none 0 0, .slice none 0 0] 117), (2, bx WE #[sL zBp zAH zCE, sL zCJ zCN zCD, sL zCz zDQ zCv] 117), (13, ow zCz zCv 73 Ve zDQ), (14, ow zDw zDi 125 Qm zFn), (15, ow zG3 zGs 4 VQ zKQ)]) _
   refine Tr.seq (Tr.sr (Tr.mv rfl rfl (Tr.va rfl (fun _ _ a c => zB zDh (a.ev rfl)) ?_)))
   refine Tr.va rfl (fun _ _ a c => zC zAA (a.ev rfl) (rdb c (vs := [sL zBp zAH zCE, sL zCJ zCN zCD, sL zCz zDQ zCv]) (k := 2) rfl 0) rfl) ?_
   refine Tr.va rfl (fun _ _ a c => zf Vu (a.ev rfl)) ?_
   refine Tr.va rfl (fun _ _ a c => zh (a.ev rfl) (a.ev rfl)) ?_
   refine Tr.nil (Tr.zA (Tr.cond rfl H (fun H => ?_) (fun H => ?_)))
   ·refine Tr.skip (Tr.zA (Tr.seq (Tr.block (Tr.region (Tr.mv rfl rfl (Tr.mv rfl rfl (Tr.va rfl (fun _ _ a c => Jn (a.ev rfl) (a.ev rfl)) ?_)))))))
    refine Tr.mv rfl rfl (Tr.va rfl (fun _ _ a c => zB zDh (a.ev rfl)) ?_)
    refine Tr.va rfl (fun _ _ a c => zC zAA (a.ev rfl) (rdb c (vs := [sL zBp zAH zCE, sL zCJ zCN zCD, sL zCz zDQ zCv]) (k := 2) rfl 0) rfl) ?_
    refine Tr.mv rfl rfl (Tr.va rfl (fun _ _ a c => Jn (a.ev rfl) (a.ev rfl)) ?_)
    obtain ⟨zFM, zoB, H⟩ := bnd H
    obtain ⟨zi4, zi3, zi2⟩ := zO zoB
    refine Tr.va rfl (fun _ _ a c => zD Kb (a.ev rfl) zGj.form (a.ev rfl) zi4 zi3) ?_
    refine Tr.va rfl (fun _ _ a c => zC QA (a.ev rfl) (rdF Jd (zGj.rl) zi2 c) rfl) ?_
    obtain ⟨zUw, zmi, H⟩ := bnd H
    refine Tr.KV (r := (bV zUw)) (wn rfl) rfl Tryz.call118 (zI rfl (zI rfl zX)) (fun W hW => zFw N zFn zDw zDi (hW.zCo (k := 14) rfl) zFM zUw zmi (HF.start _)) ?_
    obtain ⟨zqh, zn9, H⟩ := bnd H
    obtain ⟨ziy, zix, ziw⟩ := zO zn9
    refine Tr.va rfl (fun _ _ a c => zD zKc (a.ev rfl) zXH (a.ev rfl) ziy zix) ?_
    obtain ⟨zVT, zeb, H⟩ := bnd H
    have zV5 := zFS zeb
    refine Tr.zFz 15 (t := VQ) (l := zKQ) (i := (w64 (zHq - 1))) (fo := 0) (cs := [bV zUw]) zUw (wn rfl) rfl rfl rfl rfl rfl ziw zYY rfl (fun u _ => ⟨u, trivial, rfl⟩) rfl zeb ?_
    have zkZ : SlF zG3 zVT.length zGs := by rw [zV5]; exact zXH
    refine Tr.sel (lf := [(0, sL zF p0 zH), (2, pV QQ), (3, pV WE), (5, iv zJe), (6, sL zDw zFn zDi), (7, sL zG3 zVT zGs), (8, iv zHq), (64, iv zHq), (65, pV WE), (66, sL zBp zAH zCE), (67, iv (zAH.length : Int)), (68, bV (decide (zHq < (zAH.length : Int)))), (71, sL zG3 zVT zGs), (72, iv zHq), (73, iv (w64 (zHq - 1))), (74, sL zDw zFn zDi), (75, pV WE), (76, sL zBp zAH zCE), (77, iv zHq), (78, iv (w64 (zHq - 1))), (79, .pointer (some ⟨adB zBp, adO zBp + ((w64 (zHq - 1))).toNat * 1, none⟩)), (80, iv zFM), (81, bV zUw)]) (le := [(1, bx QQ #[.slice none 0 0, .slice none 0 0, .slice none 0 0] 117), (2, bx WE #[sL zBp zAH zCE, sL zCJ zCN zCD, sL zCz zDQ zCv] 117), (13, ow zCz zCv 73 Ve zDQ), (14, ow zDw zDi 125 Qm zFn), (15, ow zG3 zGs 4 VQ zVT)]) (.cons rfl (.cons rfl (.cons rfl (.cons rfl (.cons rfl (.cons (zAg rfl (by unfold sL; rw [zV5])) (.cons rfl (.cons rfl (.cons rfl (.cons rfl (.cons rfl (.cons rfl (.cons (zAg rfl (by unfold sL; rw [zV5])) (.cons rfl (.cons rfl (.cons rfl (.cons rfl (.cons rfl (.cons rfl (.cons rfl (.cons rfl (.cons rfl (.cons rfl .nil))))))))))))))))))))))) (.cons rfl (.cons rfl (.cons rfl (.cons rfl (.cons rfl .nil))))) ?_
    refine Tr.nil (Tr.zb (Tr.zA (Tr.region (Tr.mv rfl rfl (Tr.va rfl (fun _ _ a c => zg (a.ev rfl) (a.ev rfl)) ?_)))))
    exact Tr.asg rfl rfl (Tr.nil (Tr.zZ zC8 (zVT, (w64 (zHq + 1)), zG3, zGs) ⟨H, zkZ⟩ (.cons rfl (.cons rfl (.cons rfl (.cons rfl (.cons rfl (.cons rfl (.cons rfl .nil))))))) (.cons rfl (.cons rfl (.cons rfl (.cons rfl (.cons rfl .nil)))))))
   ·refine Tr.exit (Tr.zP (Tr.zP (Tr.zl (Tr.zA (Tr.region (Tr.va rfl (fun _ _ a c => zB zGo (a.ev rfl)) ?_))))))
    refine Tr.va rfl (fun _ _ a c => zC zPI (a.ev rfl) (rdb c (vs := [sL zBp zAH zCE, sL zCJ zCN zCD, sL zCz zDQ zCv]) (k := 2) rfl 2) rfl) ?_
    refine Tr.mv rfl rfl (Tr.freeze 15 rfl fun w zl2 zmE => ?_)
    replace zCM := zCM.trans zl2
    refine Tr.buildSlice 16 (e := 73) (vs := [(0, sL zG3 zKQ zGs)]) (cs := [sL zG3 zKQ zGs]) (wn rfl) rfl (zi rfl Qh) (by kernel_rfl) fun zsI => ?_
    obtain ⟨zZ6, zo6, H⟩ := bnd H
    refine Tr.append 13 (t := Ve) (l := zDQ) (l2 := [zKQ]) (wn rfl) rfl rfl rfl rfl (fun W hW => ⟨[[sL zG3 zKQ zGs]], (.cons ⟨(zG3, zGs), zmE, rfl⟩ .nil), rdb hW (vs := [sL zG3 zKQ zGs]) (k := 16) rfl 0⟩) zVB zeB zlE (by decide) zpr rfl zo6 fun zcB zbw hAl250 => ?_
    refine Tr.va rfl (fun _ _ a c => zB zGo (a.ev rfl)) ?_
    refine Tr.store 2 (cs := [sL zcB zZ6 zbw]) [sL zBp zAH zCE, sL zCJ zCN zCD, sL zcB zZ6 zbw] (wn rfl) rfl rfl rfl rfl zfF rfl rfl rfl ?_
    refine Tr.nil (Tr.zb (Tr.zA (Tr.region (Tr.mv rfl rfl (Tr.va rfl (fun _ _ a c => zg (a.ev rfl) (a.ev rfl)) ?_)))))
    exact Tr.asg rfl rfl (Tr.nil (Tr.zZ zCM (zZ6, (w64 (zJe + 1)), zcB, zbw) ⟨H, hAl250⟩ (.cons rfl (.cons rfl (.cons rfl (.cons rfl .nil)))) (.cons rfl (.cons rfl (.cons rfl .nil)))))
  ·refine Tr.exit (Tr.zP (Tr.zP (Tr.zl (Tr.zA (Tr.sr (Tr.va rfl (fun _ _ a c => ze (cs := [sL zBp zAH zCE, sL zCJ zCN zCD, sL zCz zDQ zCv]) zLs zH7 (a.ev rfl) (zQ.take (rdb c (vs := [sL zBp zAH zCE, sL zCJ zCN zCD, sL zCz zDQ zCv]) (k := 2) rfl 0) 3) rfl) ?_))))))
   refine Tr.store 1 (cs := [sL zBp zAH zCE, sL zCJ zCN zCD, sL zCz zDQ zCv]) [sL zBp zAH zCE, sL zCJ zCN zCD, sL zCz zDQ zCv] (wn rfl) rfl rfl rfl rfl zH7 rfl rfl rfl ?_
   refine Tr.nil (Tr.zA (Tr.ret ?_))
   obtain rfl := oI H
   exact Tr.out (m := [.agg #[sL zBp zAH zCE, sL zCJ zCN zCD, sL zCz zDQ zCv]]) [1] (zKD rfl rfl zLs zH7 zY) (fun W hW => ⟨w, ((zBp, zCE), (zCJ, zCD), (zCz, zCv)), leB, rfl, ⟨zGj, zHd, zaw⟩, hW.pick (ks := [13]) (by decide) (zn rfl zw)⟩)

theorem WJ {w : Bs} (p0 : zCq) (zF : Option Addr) (zH : Nat) (zK : Sl w.R w.W zW zF zH p0.xs) (zGG : Option Addr) (zF9 : Nat) (zrb : Sl w.R w.W zW zGG zF9 p0.ys) (zGF : Option Addr) (zF8 : Nat) (zeU : Sl w.R w.W Ve zGF zF8 p0.in_) (p1 : Int) (p2 : Int) (r : Bool) (H : Jk p0 p1 p2 = some r) (hE : HF w w.W E0) : Calls Tryz.prog 84 [.agg #[sL zF p0.xs zH, sL zGG p0.ys zF9, sL zGF p0.in_ zF8], iv p1, iv p2].toArray w.W fun e W' => e = .returned (bV r) ∧ HF w W' E0 := by
 unfold Jk at H
 have leB := Bs.Le.refl w
 refine Tr.enter (n := 38) Tryz.func84 rfl rfl rfl hE ?_
 refine Tr.sr (Tr.box 1 (cs := [sL zF p0.xs zH, sL zGG p0.ys zF9, sL zGF p0.in_ zF8]) (wn rfl) rfl rfl rfl fun QQ => ?_)
 refine Tr.asg rfl rfl (Tr.nil (Tr.zA (Tr.sr (Tr.mv rfl rfl (Tr.va rfl (fun _ _ a c => zEz (a.ev rfl) (a.ev rfl)) ?_)))))
 refine Tr.mv rfl rfl (Tr.zBy 6 [(1, iv p1), (2, iv p2), (3, pV QQ), (15, bV ((decide (0 ≤ p2)) && (decide (p2 < (p0.in_.length : Int)))))] [(1, bx QQ #[sL zF p0.xs zH, sL zGG p0.ys zF9, sL zGF p0.in_ zF8] 117)] ?_ ?_)
 ·cases zCk : (decide (0 ≤ p2))
  ·refine Tr.pass rfl rfl rfl rfl rfl (by decide) ?_
   refine Tr.pass rfl rfl rfl rfl rfl (by decide) ?_
   refine Tr.pass rfl rfl rfl rfl rfl (by decide) ?_
   refine Tr.pass rfl rfl rfl rfl rfl (by decide) ?_
   refine Tr.pass rfl rfl rfl rfl rfl (by decide) ?_
   refine Tr.va rfl (fun _ _ a c => zy (a.ev rfl) (a.ev rfl)) ?_
   exact Tr.nil (Tr.VW (.cons rfl (.cons rfl (.cons rfl (.cons rfl .nil)))) (.cons rfl .nil))
  ·refine Tr.val (wg rfl rfl rfl) rfl (fun _ _ a c => run_move (a.ev rfl)) ?_
   refine Tr.val (wg rfl rfl rfl) rfl (fun _ _ a c => zB zGo (a.ev rfl)) ?_
   refine Tr.val (wg rfl rfl rfl) rfl (fun _ _ a c => zC zPI (a.ev rfl) (rdb c (vs := [sL zF p0.xs zH, sL zGG p0.ys zF9, sL zGF p0.in_ zF8]) (k := 1) rfl 2) rfl) ?_
   refine Tr.val (wg rfl rfl rfl) rfl (fun _ _ a c => zf zVB (a.ev rfl)) ?_
   refine Tr.val (wg rfl rfl rfl) rfl (fun _ _ a c => zh (a.ev rfl) (a.ev rfl)) ?_
   refine Tr.va rfl (fun _ _ a c => zx (a.ev rfl) (a.ev rfl)) ?_
   exact Tr.nil (Tr.VW (.cons rfl (.cons rfl (.cons rfl (.cons rfl .nil)))) (.cons rfl .nil))
 ·show Tr _ _ (LF [(1, iv p1), (2, iv p2), (3, pV QQ), (15, bV ((decide (0 ≤ p2)) && (decide (p2 < (p0.in_.length : Int)))))]) (LE [(1, bx QQ #[sL zF p0.xs zH, sL zGG p0.ys zF9, sL zGF p0.in_ zF8] 117)]) _
  refine Tr.mv rfl rfl (Tr.zBy 3 [(1, iv p1), (2, iv p2), (3, pV QQ), (19, bV (((decide (0 ≤ p2)) && (decide (p2 < (p0.in_.length : Int)))) && (decide (0 ≤ p1))))] [(1, bx QQ #[sL zF p0.xs zH, sL zGG p0.ys zF9, sL zGF p0.in_ zF8] 117)] ?_ ?_)
  ·cases zCk : ((decide (0 ≤ p2)) && (decide (p2 < (p0.in_.length : Int))))
   ·refine Tr.pass rfl rfl rfl rfl rfl (by decide) ?_
    refine Tr.pass rfl rfl rfl rfl rfl (by decide) ?_
    refine Tr.va rfl (fun _ _ a c => zy (a.ev rfl) (a.ev rfl)) ?_
    exact Tr.nil (Tr.VW (.cons rfl (.cons rfl (.cons rfl (.cons rfl .nil)))) (.cons rfl .nil))
   ·refine Tr.val (wg rfl rfl rfl) rfl (fun _ _ a c => run_move (a.ev rfl)) ?_
    refine Tr.val (wg rfl rfl rfl) rfl (fun _ _ a c => zEz (a.ev rfl) (a.ev rfl)) ?_
    refine Tr.va rfl (fun _ _ a c => zx (a.ev rfl) (a.ev rfl)) ?_
    exact Tr.nil (Tr.VW (.cons rfl (.cons rfl (.cons rfl (.cons rfl .nil)))) (.cons rfl .nil))
  ·show Tr _ _ (LF [(1, iv p1), (2, iv p2), (3, pV QQ), (19, bV (((decide (0 ≤ p2)) && (decide (p2 < (p0.in_.length : Int)))) && (decide (0 ≤ p1))))]) (LE [(1, bx QQ #[sL zF p0.xs zH, sL zGG p0.ys zF9, sL zGF p0.in_ zF8] 117)]) _
   refine Tr.mv rfl rfl (Tr.zBy 7 [(1, iv p1), (2, iv p2), (3, pV QQ), (27, bV ((((decide (0 ≤ p2)) && (decide (p2 < (p0.in_.length : Int)))) && (decide (0 ≤ p1))) && (decide (p1 < (w64 ((p0.xs.length : Int) - 1))))))] [(1, bx QQ #[sL zF p0.xs zH, sL zGG p0.ys zF9, sL zGF p0.in_ zF8] 117)] ?_ ?_)
   ·cases zCk : (((decide (0 ≤ p2)) && (decide (p2 < (p0.in_.length : Int)))) && (decide (0 ≤ p1)))
    ·refine Tr.pass rfl rfl rfl rfl rfl (by decide) ?_
     refine Tr.pass rfl rfl rfl rfl rfl (by decide) ?_
     refine Tr.pass rfl rfl rfl rfl rfl (by decide) ?_
     refine Tr.pass rfl rfl rfl rfl rfl (by decide) ?_
     refine Tr.pass rfl rfl rfl rfl rfl (by decide) ?_
     refine Tr.pass rfl rfl rfl rfl rfl (by decide) ?_
     refine Tr.va rfl (fun _ _ a c => zy (a.ev rfl) (a.ev rfl)) ?_
     exact Tr.nil (Tr.VW (.cons rfl (.cons rfl (.cons rfl (.cons rfl .nil)))) (.cons rfl .nil))
    ·refine Tr.val (wg rfl rfl rfl) rfl (fun _ _ a c => run_move (a.ev rfl)) ?_
     refine Tr.val (wg rfl rfl rfl) rfl (fun _ _ a c => zB zDh (a.ev rfl)) ?_
     refine Tr.val (wg rfl rfl rfl) rfl (fun _ _ a c => zC zAA (a.ev rfl) (rdb c (vs := [sL zF p0.xs zH, sL zGG p0.ys zF9, sL zGF p0.in_ zF8]) (k := 1) rfl 0) rfl) ?_
     refine Tr.val (wg rfl rfl rfl) rfl (fun _ _ a c => zf Vu (a.ev rfl)) ?_
     refine Tr.val (wg rfl rfl rfl) rfl (fun _ _ a c => Jn (a.ev rfl) (a.ev rfl)) ?_
     refine Tr.val (wg rfl rfl rfl) rfl (fun _ _ a c => zh (a.ev rfl) (a.ev rfl)) ?_
     refine Tr.va rfl (fun _ _ a c => zx (a.ev rfl) (a.ev rfl)) ?_
     exact Tr.nil (Tr.VW (.cons rfl (.cons rfl (.cons rfl (.cons rfl .nil)))) (.cons rfl .nil))
   ·show Tr _ _ (LF [(1, iv p1), (2, iv p2), (3, pV QQ), (27, bV ((((decide (0 ≤ p2)) && (decide (p2 < (p0.in_.length : Int)))) && (decide (0 ≤ p1))) && (decide (p1 < (w64 ((p0.xs.length : Int) - 1))))))]) (LE [(1, bx QQ #[sL zF p0.xs zH, sL zGG p0.ys zF9, sL zGF p0.in_ zF8] 117)]) _
    refine Tr.mv rfl rfl ?_
    obtain ⟨zbZ, zHf, H⟩ := bnd H
    refine Tr.zBy 9 [(37, bV zbZ)] [(1, bx QQ #[sL zF p0.xs zH, sL zGG p0.ys zF9, sL zGF p0.in_ zF8] 117)] ?_ ?_
    ·cases zCk : ((((decide (0 ≤ p2)) && (decide (p2 < (p0.in_.length : Int)))) && (decide (0 ≤ p1))) && (decide (p1 < (w64 ((p0.xs.length : Int) - 1)))))
     ·rw [zCk] at zHf
      rw [if_neg (by decide)] at zHf
      have H := zHf
      obtain rfl := oI H
      refine Tr.pass rfl rfl rfl rfl rfl (by decide) ?_
      refine Tr.pass rfl rfl rfl rfl rfl (by decide) ?_
      refine Tr.pass rfl rfl rfl rfl rfl (by decide) ?_
      refine Tr.pass rfl rfl rfl rfl rfl (by decide) ?_
      refine Tr.pass rfl rfl rfl rfl rfl (by decide) ?_
      refine Tr.pass rfl rfl rfl rfl rfl (by decide) ?_
      refine Tr.pass rfl rfl rfl rfl rfl (by decide) ?_
      refine Tr.pass rfl rfl rfl rfl rfl (by decide) ?_
      refine Tr.va rfl (fun _ _ a c => zy (a.ev rfl) (a.ev rfl)) ?_
      exact Tr.nil (Tr.VW (.cons rfl .nil) (.cons rfl .nil))
     ·rw [zCk] at zHf
      rw [if_pos rfl] at zHf
      have H := zHf
      refine Tr.val (wg rfl rfl rfl) rfl (fun _ _ a c => zB zGo (a.ev rfl)) ?_
      refine Tr.val (wg rfl rfl rfl) rfl (fun _ _ a c => zC zPI (a.ev rfl) (rdb c (vs := [sL zF p0.xs zH, sL zGG p0.ys zF9, sL zGF p0.in_ zF8]) (k := 1) rfl 2) rfl) ?_
      refine Tr.val (wg rfl rfl rfl) rfl (fun _ _ a c => run_move (a.ev rfl)) ?_
      obtain ⟨x105, zoZ, H⟩ := bnd H
      obtain ⟨zkR, zkQ, zkP⟩ := zO zoZ
      obtain ⟨zfD, hRu106, zSF, hcu106⟩ := (zeU).el zkP
      obtain ⟨zNa, zNA⟩ := zfD
      have zDG := zSF
      replace zDG : Sl w.R w.W VQ zNa zNA x105 := zDG
      refine Tr.val (wg rfl rfl rfl) rfl (fun _ _ a c => zD zbl (a.ev rfl) zeU.form (a.ev rfl) zkR zkQ) ?_
      refine Tr.val (wg rfl rfl rfl) rfl (fun _ _ a c => zC zUc (a.ev rfl) (rdR hRu106 hcu106 c) rfl) ?_
      refine Tr.val (wg rfl rfl rfl) rfl (fun _ _ a c => run_move (a.ev rfl)) ?_
      obtain ⟨x107, zaj, H⟩ := bnd H
      obtain ⟨zV2, zV1, zV0⟩ := zO zaj
      refine Tr.val (wg rfl rfl rfl) rfl (fun _ _ a c => zD zKc (a.ev rfl) zDG.form (a.ev rfl) zV2 zV1) ?_
      refine Tr.val (wg rfl rfl rfl) rfl (fun _ _ a c => zC zY8 (a.ev rfl) (rdF zI1 zDG zV0 c) rfl) ?_
      refine Tr.va rfl (fun _ _ a c => zx (a.ev rfl) (a.ev rfl)) ?_
      obtain rfl := oI H
      exact Tr.nil (Tr.VW (.cons rfl .nil) (.cons rfl .nil))
    ·show Tr _ _ (LF [(37, bV zbZ)]) (LE [(1, bx QQ #[sL zF p0.xs zH, sL zGG p0.ys zF9, sL zGF p0.in_ zF8] 117)]) _
     refine Tr.asg rfl rfl (Tr.nil (Tr.zA (Tr.ret ?_)))
     obtain rfl := oI H
     exact Tr.out (m := [bV zbZ]) [] (zU rfl zY) (fun W hW => ⟨rfl, hW.low leB⟩)

theorem zGS (N : Nat) {w : Bs} (p0 : (List zJ)) (zF : Option Addr) (zH : Nat) (zK : Sl w.R w.W zL zF zH p0) (r : (List zM)) (H : zAB N p0 = some r) (hE : HF w w.W (LEn [emp])) : Calls Tryz.prog 51 [sL zF p0 zH].toArray w.W fun e W' => ∃ u : (Option Addr × Nat), e = .returned (sL u.1 r u.2) ∧ (SlF u.1 r.length u.2) ∧ HF w W' (LEn [ow u.1 u.2 87 za r]) := by
 unfold zAB at H
 have leB := Bs.Le.refl w
 refine Tr.enter (n := 124) Tryz.func51 rfl rfl rfl hE ?_
 refine Tr.sr (Tr.asg rfl rfl (Tr.Qb 1 87 za ?_))
 show Tr _ _ (uf _ 2 (sL none (([] : List zM)) 0)) _ _
 refine Tr.nil (Tr.zA (Tr.sr (Tr.mv rfl rfl ?_)))
 obtain ⟨zN, zAQ, H⟩ := bnd H
 refine Tr.zCe [2] [emp] (U := (Option Addr × Nat) × (Option Addr × Nat) × (Option Addr × Nat)) (fun u => (.agg #[sL u.1.1 zN.xs u.1.2, sL u.2.1.1 zN.ys u.2.1.2, sL u.2.2.1 zN.in_ u.2.2.2])) (fun O W u => Sl O W zW u.1.1 u.1.2 zN.xs ∧ Sl O W zW u.2.1.1 u.2.1.2 zN.ys ∧ SlF u.2.2.1 zN.in_.length u.2.2.2) (fun u => [ow u.2.2.1 u.2.2.2 73 Ve zN.in_]) rfl (zn rfl zw) (fun _ => rfl) (wn rfl) rfl Tryz.call83 (zI rfl zX) (fun W hW hp hE => zFl N p0 zF zH (zK.ext (hW.zCA hp)) zN zAQ hE) ?_
 intro w u zJO hu
 obtain ⟨⟨zR, zT⟩, ⟨VC, Kz⟩, ⟨Ja, JS⟩⟩ := u
 obtain ⟨gy100_0, gy100_1, gy100_2⟩ := hu
 replace leB := leB.trans zJO
 have QZ : Sl w.O w.W zW zR zT zN.xs := gy100_0 --@phi
 have Wz : Sl w.O w.W zW VC Kz zN.ys := gy100_1 --@phi
 have zbQ : SlF Ja zN.in_.length JS := gy100_2 --@phi
 show Tr _ _ (uf _ 12 (.agg #[sL zR zN.xs zT, sL VC zN.ys Kz, sL Ja zN.in_ JS])) (up _ 2 (ow Ja JS 73 Ve zN.in_)) _
 refine Tr.alloc 3 (wn rfl) rfl zUu fun WS => ?_
 refine Tr.store 3 (cs := [sL zR zN.xs zT, sL VC zN.ys Kz, sL Ja zN.in_ JS]) [sL zR zN.xs zT, sL VC zN.ys Kz, sL Ja zN.in_ JS] (wn rfl) rfl rfl rfl rfl zH7 rfl rfl rfl ?_
 refine Tr.nil (Tr.zA (Tr.sr (Tr.asg rfl rfl (Tr.Qb 4 87 za ?_))))
 show Tr _ _ (uf _ 4 (sL none (([] : List zM)) 0)) _ _
 refine Tr.nil (Tr.zA (Tr.seq (Tr.sr (Tr.asg rfl rfl (Tr.nil (Tr.zA (Tr.block (Tr.loop (σ := (List zM) × Int × (Option Addr) × Nat) (fun m w s => QD N zN m s.1 s.2.1 = some r ∧ SlF s.2.2.1 s.1.length s.2.2.2) (fun s => [(3, pV WS), (4, sL s.2.2.1 s.1 s.2.2.2), (5, iv s.2.1)]) (fun s => [(2, ow Ja JS 73 Ve zN.in_), (3, bx WS #[sL zR zN.xs zT, sL VC zN.ys Kz, sL Ja zN.in_ JS] 117), (4, ow s.2.2.1 s.2.2.2 87 za s.1)]) N (([] : List zM), 0, none, 0) ⟨H, Jm⟩ (.cons rfl (.cons rfl (.cons rfl .nil))) (.cons rfl (.cons rfl (.cons rfl .nil))) (fun _ _ h => KG (h.1)) ?_))))))))
 intro w zQO zN9 s hs
 obtain ⟨zR7, zAO, zRW, zRE⟩ := s
 obtain ⟨H, zXF⟩ := hs
 replace H : QD N zN (zN9 + 1) zR7 zAO = some r := H
 replace QZ := QZ.le zQO
 replace Wz := Wz.le zQO
 replace leB := leB.trans zQO
 replace zXF : SlF zRW zR7.length zRE := zXF
 rw [QD.eq_2] at H
 show Tr _ _ (LF [(3, pV WS), (4, sL zRW zR7 zRE), (5, iv zAO)]) (LE [(2, ow Ja JS 73 Ve zN.in_), (3, bx WS #[sL zR zN.xs zT, sL VC zN.ys Kz, sL Ja zN.in_ JS] 117), (4, ow zRW zRE 87 za zR7)]) _
 refine Tr.seq (Tr.sr (Tr.mv rfl rfl (Tr.va rfl (fun _ _ a c => zB zGo (a.ev rfl)) ?_)))
 refine Tr.va rfl (fun _ _ a c => zC zPI (a.ev rfl) (rdb c (vs := [sL zR zN.xs zT, sL VC zN.ys Kz, sL Ja zN.in_ JS]) (k := 3) rfl 2) rfl) ?_
 refine Tr.va rfl (fun _ _ a c => zf zVB (a.ev rfl)) ?_
 refine Tr.va rfl (fun _ _ a c => zh (a.ev rfl) (a.ev rfl)) ?_
 refine Tr.nil (Tr.zA (Tr.cond rfl H (fun H => ?_) (fun H => ?_)))
 ·refine Tr.skip (Tr.zA (Tr.seq (Tr.block (Tr.sr (Tr.asg rfl rfl (Tr.nil (Tr.zA (Tr.block (Tr.loop (σ := (List zM) × Int × (Option Addr) × Nat) (fun m w s => zo zN zAO (QD N zN zN9) m s.1 s.2.1 = some r ∧ SlF s.2.2.1 s.1.length s.2.2.2) (fun s => [(3, pV WS), (4, sL s.2.2.1 s.1 s.2.2.2), (5, iv zAO), (6, iv s.2.1)]) (fun s => [(2, ow Ja JS 73 Ve zN.in_), (3, bx WS #[sL zR zN.xs zT, sL VC zN.ys Kz, sL Ja zN.in_ JS] 117), (4, ow s.2.2.1 s.2.2.2 87 za s.1)]) N (zR7, 0, zRW, zRE) ⟨H, zXF⟩ (.cons rfl (.cons rfl (.cons rfl (.cons rfl .nil)))) (.cons rfl (.cons rfl (.cons rfl .nil))) (fun _ _ h => KG (h.1)) ?_)))))))))
  intro w zHb zN8 s hs
  obtain ⟨zLX, zBZ, zRV, zRD⟩ := s
  obtain ⟨H, zTs⟩ := hs
  replace H : zo zN zAO (QD N zN zN9) (zN8 + 1) zLX zBZ = some r := H
  replace QZ := QZ.le zHb
  replace Wz := Wz.le zHb
  replace zQO := zQO.trans zHb
  replace zTs : SlF zRV zLX.length zRD := zTs
  rw [zo.eq_2] at H
  show Tr _ _ (LF [(3, pV WS), (4, sL zRV zLX zRD), (5, iv zAO), (6, iv zBZ)]) (LE [(2, ow Ja JS 73 Ve zN.in_), (3, bx WS #[sL zR zN.xs zT, sL VC zN.ys Kz, sL Ja zN.in_ JS] 117), (4, ow zRV zRD 87 za zLX)]) _
  refine Tr.seq (Tr.sr (Tr.mv rfl rfl (Tr.va rfl (fun _ _ a c => zB zDh (a.ev rfl)) ?_)))
  refine Tr.va rfl (fun _ _ a c => zC zAA (a.ev rfl) (rdb c (vs := [sL zR zN.xs zT, sL VC zN.ys Kz, sL Ja zN.in_ JS]) (k := 3) rfl 0) rfl) ?_
  refine Tr.va rfl (fun _ _ a c => zf Vu (a.ev rfl)) ?_
  refine Tr.va rfl (fun _ _ a c => Jn (a.ev rfl) (a.ev rfl)) ?_
  refine Tr.va rfl (fun _ _ a c => zh (a.ev rfl) (a.ev rfl)) ?_
  refine Tr.nil (Tr.zA (Tr.cond rfl H (fun H => ?_) (fun H => ?_)))
  ·refine Tr.skip (Tr.zA (Tr.seq (Tr.block (Tr.seq (Tr.sr (Tr.va rfl (fun _ _ a c => zB zGo (a.ev rfl)) ?_))))))
   refine Tr.va rfl (fun _ _ a c => zC zPI (a.ev rfl) (rdb c (vs := [sL zR zN.xs zT, sL VC zN.ys Kz, sL Ja zN.in_ JS]) (k := 3) rfl 2) rfl) ?_
   refine Tr.mv rfl rfl ?_
   obtain ⟨zU6, zni, H⟩ := bnd H
   obtain ⟨zha, zhZ, zhY⟩ := zO zni
   refine Tr.va rfl (fun _ _ a c => zD zbl (a.ev rfl) zbQ (a.ev rfl) zha zhZ) ?_
   refine Tr.zRf (U := (Ve).Ad) (fun u => (Ve).ok w.O w.W u zU6) (fun u => (sL u.1 zU6 u.2)) (wn rfl) rfl (ldN (κ := 2) (t := Ve) (V := fun u => (sL u.1 zU6 u.2)) rfl zhY (fun _ _ u a hc => zC zUc (a.ev rfl) hc rfl)) ?_
   intro zqq zc5
   obtain ⟨zX8, zXl⟩ := zqq
   have zIr := zc5
   replace zIr : Sl w.O w.W VQ zX8 zXl zU6 := zIr
   show Tr _ _ (uf _ 32 (sL zX8 zU6 zXl)) _ _
   refine Tr.mv rfl rfl ?_
   obtain ⟨zlO, znh, H⟩ := bnd H
   obtain ⟨zhX, zhW, zhV⟩ := zO znh
   refine Tr.va rfl (fun _ _ a c => zD zKc (a.ev rfl) zIr.form (a.ev rfl) zhX zhW) ?_
   refine Tr.va rfl (fun _ _ a c => zC zY8 (a.ev rfl) (rdF zI1 (zIr.rl) zhV c) rfl) ?_
   refine Tr.va rfl (fun _ _ a c => Wm (a.ev rfl)) ?_
   refine Tr.nil (Tr.zA (Tr.cond rfl H (fun H => ?_) (fun H => ?_)))
   ·refine Tr.exit (Tr.zP (Tr.zl (Tr.zA (Tr.region (Tr.mv rfl rfl (Tr.va rfl (fun _ _ a c => zg (a.ev rfl) (a.ev rfl)) ?_))))))
    exact Tr.asg rfl rfl (Tr.nil (Tr.zZ zHb (zLX, (w64 (zBZ + 1)), zRV, zRD) ⟨H, zTs⟩ (.cons rfl (.cons rfl (.cons rfl (.cons rfl .nil)))) (.cons rfl (.cons rfl (.cons rfl .nil)))))
   ·refine Tr.skip (Tr.zA (Tr.seq (Tr.draw (by kernel_rfl) (by kernel_rfl) ?_)))
    refine Tq.va rfl (fun _ _ a c => zB zDh (a.ev rfl)) ?_
    refine Tq.va rfl (fun _ _ a c => zC zAA (a.ev rfl) (rdb c (vs := [sL zR zN.xs zT, sL VC zN.ys Kz, sL Ja zN.in_ JS]) (k := 3) rfl 0) rfl) ?_
    refine Tq.mv rfl rfl ?_
    obtain ⟨WV, zng, H⟩ := bnd H
    obtain ⟨zhU, zhT, zhS⟩ := zO zng
    refine Tq.va rfl (fun _ _ a c => zD Kb (a.ev rfl) QZ.form (a.ev rfl) zhU zhT) ?_
    refine Tq.va rfl (fun _ _ a c => zC QA (a.ev rfl) (rdF Jd (QZ.rl) zhS c) rfl) ?_
    refine Tq.va rfl (fun _ _ a c => zB zDh (a.ev rfl)) ?_
    refine Tq.va rfl (fun _ _ a c => zC zAA (a.ev rfl) (rdb c (vs := [sL zR zN.xs zT, sL VC zN.ys Kz, sL Ja zN.in_ JS]) (k := 3) rfl 0) rfl) ?_
    refine Tq.mv rfl rfl (Tq.va rfl (fun _ _ a c => zg (a.ev rfl) (a.ev rfl)) ?_)
    obtain ⟨zAE, znf, H⟩ := bnd H
    obtain ⟨zhR, zhQ, zhP⟩ := zO znf
    refine Tq.va rfl (fun _ _ a c => zD Kb (a.ev rfl) QZ.form (a.ev rfl) zhR zhQ) ?_
    refine Tq.va rfl (fun _ _ a c => zC QA (a.ev rfl) (rdF Jd (QZ.rl) zhP c) rfl) ?_
    refine Tq.va rfl (fun _ _ a c => zB zGp (a.ev rfl)) ?_
    refine Tq.va rfl (fun _ _ a c => zC zAA (a.ev rfl) (rdb c (vs := [sL zR zN.xs zT, sL VC zN.ys Kz, sL Ja zN.in_ JS]) (k := 3) rfl 1) rfl) ?_
    refine Tq.mv rfl rfl ?_
    obtain ⟨WU, zne, H⟩ := bnd H
    obtain ⟨zhO, zhN, zhM⟩ := zO zne
    refine Tq.va rfl (fun _ _ a c => zD Kb (a.ev rfl) Wz.form (a.ev rfl) zhO zhN) ?_
    refine Tq.va rfl (fun _ _ a c => zC QA (a.ev rfl) (rdF Jd (Wz.rl) zhM c) rfl) ?_
    refine Tq.va rfl (fun _ _ a c => zB zGp (a.ev rfl)) ?_
    refine Tq.va rfl (fun _ _ a c => zC zAA (a.ev rfl) (rdb c (vs := [sL zR zN.xs zT, sL VC zN.ys Kz, sL Ja zN.in_ JS]) (k := 3) rfl 1) rfl) ?_
    refine Tq.mv rfl rfl (Tq.va rfl (fun _ _ a c => zg (a.ev rfl) (a.ev rfl)) ?_)
    obtain ⟨WT, znd, H⟩ := bnd H
    obtain ⟨zhL, zhK, zhJ⟩ := zO znd
    refine Tq.va rfl (fun _ _ a c => zD Kb (a.ev rfl) Wz.form (a.ev rfl) zhL zhK) ?_
    refine Tq.va rfl (fun _ _ a c => zC QA (a.ev rfl) (rdF Jd (Wz.rl) zhJ c) rfl) ?_
    refine Tq.asg rfl rfl (Tq.asg rfl rfl (Tq.asg rfl rfl (Tq.asg rfl rfl (Tq.nil (Tr.zA ?_)))))
    have leJ442 := Bs.Le.refl w
    refine Tr.zSV (σ := (List zM) × (Option Addr) × Nat) (fun w s => KY zN zAO zBZ (zo zN zAO (QD N zN zN9) zN8) WV zAE WU WT s.1 = some r ∧ SlF s.2.1 s.1.length s.2.2) (fun s => [(3, pV WS), (4, sL s.2.1 s.1 s.2.2), (5, iv zAO), (6, iv zBZ), (7, iv WV), (8, iv zAE), (9, iv WU), (10, iv WT)]) (fun s => [(2, ow Ja JS 73 Ve zN.in_), (3, bx WS #[sL zR zN.xs zT, sL VC zN.ys Kz, sL Ja zN.in_ JS] 117), (4, ow s.2.1 s.2.2 87 za s.1)]) ?_ ?_
    ·refine Tr.sr (Tr.va rfl (fun _ _ a c => ze (cs := [sL zR zN.xs zT, sL VC zN.ys Kz, sL Ja zN.in_ JS]) zLs zH7 (a.ev rfl) (zQ.take (rdb c (vs := [sL zR zN.xs zT, sL VC zN.ys Kz, sL Ja zN.in_ JS]) (k := 3) rfl 0) 3) rfl) ?_)
     refine Tr.mv rfl rfl (Tr.mv rfl rfl (Tr.va rfl (fun _ _ a c => Jn (a.ev rfl) (a.ev rfl)) ?_))
     obtain ⟨zcD, zmT, H⟩ := bnd H
     refine Tr.KV (r := (bV zcD)) (wn rfl) rfl Tryz.call84 (zI rfl (zI rfl (zI rfl zX))) (fun W hW => WJ zN zR zT (QZ.rl.ext hW.Ky) VC Kz (Wz.rl.ext hW.Ky) Ja JS (hW.zCo (k := 2) rfl) zBZ (w64 (zAO - 1)) zcD zmT (HF.start _)) ?_
     refine Tr.va rfl (fun _ _ a c => Wm (a.ev rfl)) ?_
     refine Tr.nil (Tr.zA (Tr.cond rfl H (fun H => ?_) (fun H => ?_)))
     ·refine Tr.region (Tr.mv rfl rfl (Tr.mv rfl rfl (Tr.mv rfl rfl (Tr.build (vs := [(0, iv WV), (1, iv WU)]) (cs := [iv WV, iv WU]) (wn rfl) rfl (zi rfl (zi rfl Qh)) (by kernel_rfl) ?_))))
      refine Tr.mv rfl rfl (Tr.mv rfl rfl (Tr.build (vs := [(0, iv zAE), (1, iv WU)]) (cs := [iv zAE, iv WU]) (wn rfl) rfl (zi rfl (zi rfl Qh)) (by kernel_rfl) ?_))
      refine Tr.build (vs := [(0, .agg #[iv WV, iv WU]), (1, .agg #[iv zAE, iv WU])]) (cs := [iv WV, iv WU, iv zAE, iv WU]) (wn rfl) rfl (zi rfl (zi rfl Qh)) (by kernel_rfl) ?_
      refine Tr.buildSlice 67 (e := 87) (vs := [(0, .agg #[iv WV, iv WU, iv zAE, iv WU])]) (cs := [iv WV, iv WU, iv zAE, iv WU]) (wn rfl) rfl (zi rfl Qh) (by kernel_rfl) fun zr4 => ?_
      obtain ⟨zfc, zov, H⟩ := bnd H
      refine Tr.append 4 (t := za) (l := zLX) (l2 := [(zM.mk (zG.mk WV WU) (zG.mk zAE WU))]) (wn rfl) rfl rfl rfl rfl (fun W hW => ⟨[[iv WV, iv WU, iv zAE, iv WU]], (.cons ⟨(), trivial, rfl⟩ .nil), rdb hW (vs := [iv WV, iv WU, iv zAE, iv WU]) (k := 67) rfl 0⟩) zH4 zGX zSr (by decide) zUV rfl zov fun zp0 zpa hAl467 => ?_
      exact Tr.asg rfl rfl (Tr.nil (Tr.zZ leJ442 (zfc, zp0, zpa) ⟨H, hAl467⟩ (.cons rfl (.cons rfl (.cons rfl (.cons rfl (.cons rfl (.cons rfl (.cons rfl (.cons rfl .nil)))))))) (.cons rfl (.cons rfl (.cons rfl .nil)))))
     ·exact Tr.skip (Tr.zZ leJ442 (zLX, zRV, zRD) ⟨H, zTs⟩ (.cons rfl (.cons rfl (.cons rfl (.cons rfl (.cons rfl (.cons rfl (.cons rfl (.cons rfl .nil)))))))) (.cons rfl (.cons rfl (.cons rfl .nil))))
    ·intro w s hlJ443 hs
     obtain ⟨zR6, zYD, zXw⟩ := s
     obtain ⟨H, zar⟩ := hs
     replace H : KY zN zAO zBZ (zo zN zAO (QD N zN zN9) zN8) WV zAE WU WT zR6 = some r := H
     replace QZ := QZ.le hlJ443
     replace Wz := Wz.le hlJ443
     replace zHb := zHb.trans hlJ443
     replace zar : SlF zYD zR6.length zXw := zar
     unfold KY at H
     show Tr _ _ (LF [(3, pV WS), (4, sL zYD zR6 zXw), (5, iv zAO), (6, iv zBZ), (7, iv WV), (8, iv zAE), (9, iv WU), (10, iv WT)]) (LE [(2, ow Ja JS 73 Ve zN.in_), (3, bx WS #[sL zR zN.xs zT, sL VC zN.ys Kz, sL Ja zN.in_ JS] 117), (4, ow zYD zXw 87 za zR6)]) _
     have leJ448 := Bs.Le.refl w
     refine Tr.zSV (σ := (List zM) × (Option Addr) × Nat) (fun w s => KZ zN zAO zBZ (zo zN zAO (QD N zN zN9) zN8) WV zAE WU WT s.1 = some r ∧ SlF s.2.1 s.1.length s.2.2) (fun s => [(3, pV WS), (4, sL s.2.1 s.1 s.2.2), (5, iv zAO), (6, iv zBZ), (7, iv WV), (8, iv zAE), (9, iv WU), (10, iv WT)]) (fun s => [(2, ow Ja JS 73 Ve zN.in_), (3, bx WS #[sL zR zN.xs zT, sL VC zN.ys Kz, sL Ja zN.in_ JS] 117), (4, ow s.2.1 s.2.2 87 za s.1)]) ?_ ?_
     ·refine Tr.sr (Tr.va rfl (fun _ _ a c => ze (cs := [sL zR zN.xs zT, sL VC zN.ys Kz, sL Ja zN.in_ JS]) zLs zH7 (a.ev rfl) (zQ.take (rdb c (vs := [sL zR zN.xs zT, sL VC zN.ys Kz, sL Ja zN.in_ JS]) (k := 3) rfl 0) 3) rfl) ?_)
      refine Tr.mv rfl rfl (Tr.va rfl (fun _ _ a c => zg (a.ev rfl) (a.ev rfl)) ?_)
      refine Tr.mv rfl rfl ?_
      obtain ⟨zcE, zmU, H⟩ := bnd H
      refine Tr.KV (r := (bV zcE)) (wn rfl) rfl Tryz.call84 (zI rfl (zI rfl (zI rfl zX))) (fun W hW => WJ zN zR zT (QZ.rl.ext hW.Ky) VC Kz (Wz.rl.ext hW.Ky) Ja JS (hW.zCo (k := 2) rfl) (w64 (zBZ + 1)) zAO zcE zmU (HF.start _)) ?_
      refine Tr.va rfl (fun _ _ a c => Wm (a.ev rfl)) ?_
      refine Tr.nil (Tr.zA (Tr.cond rfl H (fun H => ?_) (fun H => ?_)))
      ·refine Tr.region (Tr.mv rfl rfl (Tr.mv rfl rfl (Tr.mv rfl rfl (Tr.build (vs := [(0, iv zAE), (1, iv WU)]) (cs := [iv zAE, iv WU]) (wn rfl) rfl (zi rfl (zi rfl Qh)) (by kernel_rfl) ?_))))
       refine Tr.mv rfl rfl (Tr.mv rfl rfl (Tr.build (vs := [(0, iv zAE), (1, iv WT)]) (cs := [iv zAE, iv WT]) (wn rfl) rfl (zi rfl (zi rfl Qh)) (by kernel_rfl) ?_))
       refine Tr.build (vs := [(0, .agg #[iv zAE, iv WU]), (1, .agg #[iv zAE, iv WT])]) (cs := [iv zAE, iv WU, iv zAE, iv WT]) (wn rfl) rfl (zi rfl (zi rfl Qh)) (by kernel_rfl) ?_
       refine Tr.buildSlice 66 (e := 87) (vs := [(0, .agg #[iv zAE, iv WU, iv zAE, iv WT])]) (cs := [iv zAE, iv WU, iv zAE, iv WT]) (wn rfl) rfl (zi rfl Qh) (by kernel_rfl) fun zr5 => ?_
       obtain ⟨zfd, zow, H⟩ := bnd H
       refine Tr.append 4 (t := za) (l := zR6) (l2 := [(zM.mk (zG.mk zAE WU) (zG.mk zAE WT))]) (wn rfl) rfl rfl rfl rfl (fun W hW => ⟨[[iv zAE, iv WU, iv zAE, iv WT]], (.cons ⟨(), trivial, rfl⟩ .nil), rdb hW (vs := [iv zAE, iv WU, iv zAE, iv WT]) (k := 66) rfl 0⟩) zH4 zGX zSr (by decide) zUV rfl zow fun zp1 zpb hAl464 => ?_
       exact Tr.asg rfl rfl (Tr.nil (Tr.zZ leJ448 (zfd, zp1, zpb) ⟨H, hAl464⟩ (.cons rfl (.cons rfl (.cons rfl (.cons rfl (.cons rfl (.cons rfl (.cons rfl (.cons rfl .nil)))))))) (.cons rfl (.cons rfl (.cons rfl .nil)))))
      ·exact Tr.skip (Tr.zZ leJ448 (zR6, zYD, zXw) ⟨H, zar⟩ (.cons rfl (.cons rfl (.cons rfl (.cons rfl (.cons rfl (.cons rfl (.cons rfl (.cons rfl .nil)))))))) (.cons rfl (.cons rfl (.cons rfl .nil))))
     ·intro w s hlJ449 hs
      obtain ⟨zR5, zYC, zXv⟩ := s
      obtain ⟨H, zaq⟩ := hs
      replace H : KZ zN zAO zBZ (zo zN zAO (QD N zN zN9) zN8) WV zAE WU WT zR5 = some r := H
      replace QZ := QZ.le hlJ449
      replace Wz := Wz.le hlJ449
      replace zHb := zHb.trans hlJ449
      replace zaq : SlF zYC zR5.length zXv := zaq
      unfold KZ at H
      show Tr _ _ (LF [(3, pV WS), (4, sL zYC zR5 zXv), (5, iv zAO), (6, iv zBZ), (7, iv WV), (8, iv zAE), (9, iv WU), (10, iv WT)]) (LE [(2, ow Ja JS 73 Ve zN.in_), (3, bx WS #[sL zR zN.xs zT, sL VC zN.ys Kz, sL Ja zN.in_ JS] 117), (4, ow zYC zXv 87 za zR5)]) _
      have leJ454 := Bs.Le.refl w
      refine Tr.zSV (σ := (List zM) × (Option Addr) × Nat) (fun w s => Ka zN zAO zBZ (zo zN zAO (QD N zN zN9) zN8) WV WU WT s.1 = some r ∧ SlF s.2.1 s.1.length s.2.2) (fun s => [(3, pV WS), (4, sL s.2.1 s.1 s.2.2), (5, iv zAO), (6, iv zBZ), (7, iv WV), (9, iv WU), (10, iv WT)]) (fun s => [(2, ow Ja JS 73 Ve zN.in_), (3, bx WS #[sL zR zN.xs zT, sL VC zN.ys Kz, sL Ja zN.in_ JS] 117), (4, ow s.2.1 s.2.2 87 za s.1)]) ?_ ?_
      ·refine Tr.sr (Tr.va rfl (fun _ _ a c => ze (cs := [sL zR zN.xs zT, sL VC zN.ys Kz, sL Ja zN.in_ JS]) zLs zH7 (a.ev rfl) (zQ.take (rdb c (vs := [sL zR zN.xs zT, sL VC zN.ys Kz, sL Ja zN.in_ JS]) (k := 3) rfl 0) 3) rfl) ?_)
       refine Tr.mv rfl rfl (Tr.mv rfl rfl (Tr.va rfl (fun _ _ a c => zg (a.ev rfl) (a.ev rfl)) ?_))
       obtain ⟨zcF, zmV, H⟩ := bnd H
       refine Tr.KV (r := (bV zcF)) (wn rfl) rfl Tryz.call84 (zI rfl (zI rfl (zI rfl zX))) (fun W hW => WJ zN zR zT (QZ.rl.ext hW.Ky) VC Kz (Wz.rl.ext hW.Ky) Ja JS (hW.zCo (k := 2) rfl) zBZ (w64 (zAO + 1)) zcF zmV (HF.start _)) ?_
       refine Tr.va rfl (fun _ _ a c => Wm (a.ev rfl)) ?_
       refine Tr.nil (Tr.zA (Tr.cond rfl H (fun H => ?_) (fun H => ?_)))
       ·refine Tr.region (Tr.mv rfl rfl (Tr.mv rfl rfl (Tr.mv rfl rfl (Tr.build (vs := [(0, iv zAE), (1, iv WT)]) (cs := [iv zAE, iv WT]) (wn rfl) rfl (zi rfl (zi rfl Qh)) (by kernel_rfl) ?_))))
        refine Tr.mv rfl rfl (Tr.mv rfl rfl (Tr.build (vs := [(0, iv WV), (1, iv WT)]) (cs := [iv WV, iv WT]) (wn rfl) rfl (zi rfl (zi rfl Qh)) (by kernel_rfl) ?_))
        refine Tr.build (vs := [(0, .agg #[iv zAE, iv WT]), (1, .agg #[iv WV, iv WT])]) (cs := [iv zAE, iv WT, iv WV, iv WT]) (wn rfl) rfl (zi rfl (zi rfl Qh)) (by kernel_rfl) ?_
        refine Tr.buildSlice 65 (e := 87) (vs := [(0, .agg #[iv zAE, iv WT, iv WV, iv WT])]) (cs := [iv zAE, iv WT, iv WV, iv WT]) (wn rfl) rfl (zi rfl Qh) (by kernel_rfl) fun zr7 => ?_
        obtain ⟨zff, zoy, H⟩ := bnd H
        refine Tr.append 4 (t := za) (l := zR5) (l2 := [(zM.mk (zG.mk zAE WT) (zG.mk WV WT))]) (wn rfl) rfl rfl rfl rfl (fun W hW => ⟨[[iv zAE, iv WT, iv WV, iv WT]], (.cons ⟨(), trivial, rfl⟩ .nil), rdb hW (vs := [iv zAE, iv WT, iv WV, iv WT]) (k := 65) rfl 0⟩) zH4 zGX zSr (by decide) zUV rfl zoy fun zp3 zpd hAl461 => ?_
        exact Tr.asg rfl rfl (Tr.nil (Tr.zZ leJ454 (zff, zp3, zpd) ⟨H, hAl461⟩ (.cons rfl (.cons rfl (.cons rfl (.cons rfl (.cons rfl (.cons rfl (.cons rfl .nil))))))) (.cons rfl (.cons rfl (.cons rfl .nil)))))
       ·exact Tr.skip (Tr.zZ leJ454 (zR5, zYC, zXv) ⟨H, zaq⟩ (.cons rfl (.cons rfl (.cons rfl (.cons rfl (.cons rfl (.cons rfl (.cons rfl .nil))))))) (.cons rfl (.cons rfl (.cons rfl .nil))))
      ·intro w s hlJ455 hs
       obtain ⟨zIF, zK8, zKq⟩ := s
       obtain ⟨H, zOk⟩ := hs
       replace H : Ka zN zAO zBZ (zo zN zAO (QD N zN zN9) zN8) WV WU WT zIF = some r := H
       replace QZ := QZ.le hlJ455
       replace Wz := Wz.le hlJ455
       replace zHb := zHb.trans hlJ455
       replace zOk : SlF zK8 zIF.length zKq := zOk
       unfold Ka at H
       show Tr _ _ (LF [(3, pV WS), (4, sL zK8 zIF zKq), (5, iv zAO), (6, iv zBZ), (7, iv WV), (9, iv WU), (10, iv WT)]) (LE [(2, ow Ja JS 73 Ve zN.in_), (3, bx WS #[sL zR zN.xs zT, sL VC zN.ys Kz, sL Ja zN.in_ JS] 117), (4, ow zK8 zKq 87 za zIF)]) _
       refine Tr.sr (Tr.va rfl (fun _ _ a c => ze (cs := [sL zR zN.xs zT, sL VC zN.ys Kz, sL Ja zN.in_ JS]) zLs zH7 (a.ev rfl) (zQ.take (rdb c (vs := [sL zR zN.xs zT, sL VC zN.ys Kz, sL Ja zN.in_ JS]) (k := 3) rfl 0) 3) rfl) ?_)
       refine Tr.mv rfl rfl (Tr.va rfl (fun _ _ a c => Jn (a.ev rfl) (a.ev rfl)) ?_)
       refine Tr.mv rfl rfl ?_
       obtain ⟨zcG, zmX, H⟩ := bnd H
       refine Tr.KV (r := (bV zcG)) (wn rfl) rfl Tryz.call84 (zI rfl (zI rfl (zI rfl zX))) (fun W hW => WJ zN zR zT (QZ.rl.ext hW.Ky) VC Kz (Wz.rl.ext hW.Ky) Ja JS (hW.zCo (k := 2) rfl) (w64 (zBZ - 1)) zAO zcG zmX (HF.start _)) ?_
       refine Tr.va rfl (fun _ _ a c => Wm (a.ev rfl)) ?_
       refine Tr.nil (Tr.zA (Tr.cond rfl H (fun H => ?_) (fun H => ?_)))
       ·refine Tr.region (Tr.mv rfl rfl (Tr.mv rfl rfl (Tr.mv rfl rfl (Tr.build (vs := [(0, iv WV), (1, iv WT)]) (cs := [iv WV, iv WT]) (wn rfl) rfl (zi rfl (zi rfl Qh)) (by kernel_rfl) ?_))))
        refine Tr.mv rfl rfl (Tr.mv rfl rfl (Tr.build (vs := [(0, iv WV), (1, iv WU)]) (cs := [iv WV, iv WU]) (wn rfl) rfl (zi rfl (zi rfl Qh)) (by kernel_rfl) ?_))
        refine Tr.build (vs := [(0, .agg #[iv WV, iv WT]), (1, .agg #[iv WV, iv WU])]) (cs := [iv WV, iv WT, iv WV, iv WU]) (wn rfl) rfl (zi rfl (zi rfl Qh)) (by kernel_rfl) ?_
        refine Tr.buildSlice 64 (e := 87) (vs := [(0, .agg #[iv WV, iv WT, iv WV, iv WU])]) (cs := [iv WV, iv WT, iv WV, iv WU]) (wn rfl) rfl (zi rfl Qh) (by kernel_rfl) fun zr8 => ?_
        obtain ⟨zfg, zoz, H⟩ := bnd H
        refine Tr.append 4 (t := za) (l := zIF) (l2 := [(zM.mk (zG.mk WV WT) (zG.mk WV WU))]) (wn rfl) rfl rfl rfl rfl (fun W hW => ⟨[[iv WV, iv WT, iv WV, iv WU]], (.cons ⟨(), trivial, rfl⟩ .nil), rdb hW (vs := [iv WV, iv WT, iv WV, iv WU]) (k := 64) rfl 0⟩) zH4 zGX zSr (by decide) zUV rfl zoz fun zp4 zpe hAl458 => ?_
        refine Tr.asg rfl rfl (Tr.nil (Tr.zb (Tr.zA (Tr.region (Tr.mv rfl rfl (Tr.va rfl (fun _ _ a c => zg (a.ev rfl) (a.ev rfl)) ?_))))))
        exact Tr.asg rfl rfl (Tr.nil (Tr.zZ zHb (zfg, (w64 (zBZ + 1)), zp4, zpe) ⟨H, hAl458⟩ (.cons rfl (.cons rfl (.cons rfl (.cons rfl .nil)))) (.cons rfl (.cons rfl (.cons rfl .nil)))))
       ·refine Tr.skip (Tr.zb (Tr.zA (Tr.region (Tr.mv rfl rfl (Tr.va rfl (fun _ _ a c => zg (a.ev rfl) (a.ev rfl)) ?_)))))
        exact Tr.asg rfl rfl (Tr.nil (Tr.zZ zHb (zIF, (w64 (zBZ + 1)), zK8, zKq) ⟨H, zOk⟩ (.cons rfl (.cons rfl (.cons rfl (.cons rfl .nil)))) (.cons rfl (.cons rfl (.cons rfl .nil)))))
  ·refine Tr.exit (Tr.zP (Tr.zP (Tr.zl (Tr.zb (Tr.zA (Tr.region (Tr.mv rfl rfl (Tr.va rfl (fun _ _ a c => zg (a.ev rfl) (a.ev rfl)) ?_))))))))
   exact Tr.asg rfl rfl (Tr.nil (Tr.zZ zQO (zLX, (w64 (zAO + 1)), zRV, zRD) ⟨H, zTs⟩ (.cons rfl (.cons rfl (.cons rfl .nil))) (.cons rfl (.cons rfl (.cons rfl .nil)))))
 ·refine Tr.exit (Tr.zP (Tr.zP (Tr.zl (Tr.zA (Tr.sr (Tr.mv rfl rfl (Tr.asg rfl rfl (Tr.nil (Tr.zA (Tr.ret ?_))))))))))
  obtain rfl := oI H
  exact Tr.out (m := [sL zRW zR7 zRE]) [] (zU rfl zY) (fun W hW => ⟨(zRW, zRE), rfl, zXF, HF.zEF leB (hW.pick (ks := [4]) (by decide) (zn rfl zw)) ⟨Ww _ _ _ _ zHr, trivial⟩⟩)

theorem zDM {w : Bs} (p0 : Int) (r : Int) (H : Kk p0 = some r) (hE : HF w w.W E0) : Calls Tryz.prog 119 [iv p0].toArray w.W fun e W' => e = .returned (iv r) ∧ HF w W' E0 := by
 unfold Kk at H
 have leB := Bs.Le.refl w
 refine Tr.enter (n := 9) Tryz.func119 rfl rfl rfl hE ?_
 refine Tr.sr (Tr.asg rfl rfl (Tr.nil (Tr.zA (Tr.seq (Tr.block (Tr.sr (Tr.mv rfl rfl (Tr.va rfl (fun _ _ a c => zh (a.ev rfl) (a.ev rfl)) ?_))))))))
 refine Tr.asg rfl rfl (Tr.nil (Tr.zA (Tr.cond rfl H (fun H => ?_) (fun H => ?_))))
 ·refine Tr.sr (Tr.asg rfl rfl (Tr.nil (Tr.zA (Tr.ret (Tr.QY (Tr.zq ?_))))))
  obtain rfl := oI H
  exact Tr.out (m := [iv (-1)]) [] (zU rfl zY) (fun W hW => ⟨rfl, hW.low leB⟩)
 ·refine Tr.sr (Tr.mv rfl rfl (Tr.va rfl (fun _ _ a c => Wx (a.ev rfl) (a.ev rfl)) ?_))
  refine Tr.asg rfl rfl (Tr.nil (Tr.zA (Tr.cond rfl H (fun H => ?_) (fun H => ?_))))
  ·refine Tr.sr (Tr.asg rfl rfl (Tr.nil (Tr.zA (Tr.ret (Tr.QY (Tr.zq ?_))))))
   obtain rfl := oI H
   exact Tr.out (m := [iv 1]) [] (zU rfl zY) (fun W hW => ⟨rfl, hW.low leB⟩)
  ·refine Tr.skip (Tr.zb (Tr.zA (Tr.sr (Tr.asg rfl rfl (Tr.nil (Tr.zA (Tr.ret ?_)))))))
   obtain rfl := oI H
   exact Tr.out (m := [iv 0]) [] (zU rfl zY) (fun W hW => ⟨rfl, hW.low leB⟩)

theorem zAq {w : Bs} (p0 : zM) (r : zG) (H : VB p0 = some r) (hE : HF w w.W E0) : Calls Tryz.prog 85 [.agg #[iv p0.from_.X, iv p0.from_.Y, iv p0.to_.X, iv p0.to_.Y]].toArray w.W fun e W' => e = .returned (.agg #[iv r.X, iv r.Y]) ∧ HF w W' E0 := by
 unfold VB at H
 have leB := Bs.Le.refl w
 refine Tr.enter (n := 20) Tryz.func85 rfl rfl rfl hE ?_
 refine Tr.sr (Tr.box 1 (cs := [iv p0.from_.X, iv p0.from_.Y, iv p0.to_.X, iv p0.to_.Y]) (wn rfl) rfl rfl rfl fun QQ => ?_)
 refine Tr.alloc 2 (wn rfl) rfl zDS fun WE => ?_
 refine Tr.nil (Tr.zA (Tr.seq (Tr.zCB 15 (by kernel_rfl) (by kernel_rfl) ?_)))
 refine Tq.va rfl (fun _ _ a c => zB zSO (a.ev rfl)) ?_
 refine Tq.va rfl (fun _ _ a c => zB Wo (a.ev rfl)) ?_
 refine Tq.va rfl (fun _ _ a c => zC QA (a.ev rfl) (rdb c (vs := [iv p0.from_.X, iv p0.from_.Y, iv p0.to_.X, iv p0.to_.Y]) (k := 1) rfl 2) rfl) ?_
 refine Tq.va rfl (fun _ _ a c => zB zMo (a.ev rfl)) ?_
 refine Tq.va rfl (fun _ _ a c => zB Wo (a.ev rfl)) ?_
 refine Tq.va rfl (fun _ _ a c => zC QA (a.ev rfl) (rdb c (vs := [iv p0.from_.X, iv p0.from_.Y, iv p0.to_.X, iv p0.to_.Y]) (k := 1) rfl 0) rfl) ?_
 refine Tq.va rfl (fun _ _ a c => Jn (a.ev rfl) (a.ev rfl)) ?_
 obtain ⟨y102, hy102, H⟩ := bnd H
 refine Tq.KV (r := (iv y102)) (wn rfl) rfl Tryz.call119 (zI rfl zX) (fun W hW => zDM (w64 (p0.to_.X - p0.from_.X)) y102 hy102 (HF.start _)) ?_
 refine Tq.va rfl (fun _ _ a c => zB zSO (a.ev rfl)) ?_
 refine Tq.va rfl (fun _ _ a c => zB VP (a.ev rfl)) ?_
 refine Tq.va rfl (fun _ _ a c => zC QA (a.ev rfl) (rdb c (vs := [iv p0.from_.X, iv p0.from_.Y, iv p0.to_.X, iv p0.to_.Y]) (k := 1) rfl 3) rfl) ?_
 refine Tq.va rfl (fun _ _ a c => zB zMo (a.ev rfl)) ?_
 refine Tq.va rfl (fun _ _ a c => zB VP (a.ev rfl)) ?_
 refine Tq.va rfl (fun _ _ a c => zC QA (a.ev rfl) (rdb c (vs := [iv p0.from_.X, iv p0.from_.Y, iv p0.to_.X, iv p0.to_.Y]) (k := 1) rfl 1) rfl) ?_
 refine Tq.va rfl (fun _ _ a c => Jn (a.ev rfl) (a.ev rfl)) ?_
 refine Tq.nil ?_
 obtain ⟨Wv, zKT, H⟩ := bnd H
 refine Tr.KV (r := (iv Wv)) (wn rfl) rfl Tryz.call119 (zI rfl zX) (fun W hW => zDM (w64 (p0.to_.Y - p0.from_.Y)) Wv zKT (HF.start _)) ?_
 refine Tr.build (vs := [(0, iv y102), (1, iv Wv)]) (cs := [iv y102, iv Wv]) (wn rfl) rfl (zi rfl (zi rfl Qh)) (by kernel_rfl) ?_
 refine Tr.store 2 (cs := [iv y102, iv Wv]) [iv y102, iv Wv] (wn rfl) rfl rfl rfl rfl KI rfl rfl rfl ?_
 refine Tr.nil (Tr.zA (Tr.ret ?_))
 obtain rfl := oI H
 exact Tr.out (m := [.agg #[iv y102, iv Wv]]) [2] (zKD rfl rfl WP KI zY) (fun W hW => ⟨rfl, hW.low leB⟩)

theorem zG1 (N : Nat) {w : Bs} (p0 : (List zM)) (zF : Option Addr) (zH : Nat) (zK : Sl w.R w.W za zF zH p0) (p1 : (List Bool)) (Ql : Option Addr) (Qk : Nat) (KU : Sl w.R w.W VQ Ql Qk p1) (p2 : zM) (r : Int) (H : zBQ N p0 p1 p2 = some r) (hE : HF w w.W E0) : Calls Tryz.prog 52 [sL zF p0 zH, sL Ql p1 Qk, .agg #[iv p2.from_.X, iv p2.from_.Y, iv p2.to_.X, iv p2.to_.Y]].toArray w.W fun e W' => e = .returned (iv r) ∧ HF w W' E0 := by
 unfold zBQ at H
 have leB := Bs.Le.refl w
 refine Tr.enter (n := 58) Tryz.func52 rfl rfl rfl hE ?_
 refine Tr.sr (Tr.box 1 (cs := [iv p2.from_.X, iv p2.from_.Y, iv p2.to_.X, iv p2.to_.Y]) (wn rfl) rfl rfl rfl fun QQ => ?_)
 refine Tr.asg rfl rfl (Tr.nil (Tr.zA (Tr.sr (Tr.asg rfl rfl (Tr.nil (Tr.zA (Tr.sr (Tr.va rfl (fun _ _ a c => ze (cs := [iv p2.from_.X, iv p2.from_.Y, iv p2.to_.X, iv p2.to_.Y]) zPH zGX (a.ev rfl) (zQ.take (rdb c (vs := [iv p2.from_.X, iv p2.from_.Y, iv p2.to_.X, iv p2.to_.Y]) (k := 1) rfl 0) 4) rfl) ?_))))))))
 obtain ⟨y101, hy101, H⟩ := bnd H
 refine Tr.KV (r := (.agg #[iv y101.X, iv y101.Y])) (wn rfl) rfl Tryz.call85 (zI rfl zX) (fun W hW => zAq p2 y101 hy101 (HF.start _)) ?_
 refine Tr.alloc 2 (wn rfl) rfl zDS fun WS => ?_
 refine Tr.store 2 (cs := [iv y101.X, iv y101.Y]) [iv y101.X, iv y101.Y] (wn rfl) rfl rfl rfl rfl KI rfl rfl rfl ?_
 refine Tr.nil (Tr.zA (Tr.seq (Tr.sr (Tr.asg rfl rfl (Tr.nil (Tr.zA (Tr.block (Tr.loop (σ := Int × Int) (fun m w s => QO p0 p1 p2 y101 m s.1 s.2 = some r) (fun s => [(0, sL zF p0 zH), (1, sL Ql p1 Qk), (5, pV QQ), (7, iv s.1), (8, pV WS), (9, iv s.2)]) (fun s => [(1, bx QQ #[iv p2.from_.X, iv p2.from_.Y, iv p2.to_.X, iv p2.to_.Y] 87), (2, bx WS #[iv y101.X, iv y101.Y] 33)]) N ((-1), 0) H (.cons rfl (.cons rfl (.cons rfl (.cons rfl (.cons rfl (.cons rfl .nil)))))) (.cons rfl (.cons rfl .nil)) (fun _ _ h => KG (h)) ?_))))))))
 intro w QI mL1 s hs
 obtain ⟨Jp, zBa⟩ := s
 have H := hs
 replace H : QO p0 p1 p2 y101 (mL1 + 1) Jp zBa = some r := H
 replace zK := zK.leR QI
 replace KU := KU.leR QI
 replace leB := leB.trans QI
 rw [QO.eq_2] at H
 show Tr _ _ (LF [(0, sL zF p0 zH), (1, sL Ql p1 Qk), (5, pV QQ), (7, iv Jp), (8, pV WS), (9, iv zBa)]) (LE [(1, bx QQ #[iv p2.from_.X, iv p2.from_.Y, iv p2.to_.X, iv p2.to_.Y] 87), (2, bx WS #[iv y101.X, iv y101.Y] 33)]) _
 refine Tr.seq (Tr.sr (Tr.mv rfl rfl (Tr.mv rfl rfl (Tr.va rfl (fun _ _ a c => zf zH4 (a.ev rfl)) ?_))))
 refine Tr.va rfl (fun _ _ a c => zh (a.ev rfl) (a.ev rfl)) ?_
 refine Tr.nil (Tr.zA (Tr.cond rfl H (fun H => ?_) (fun H => ?_)))
 ·refine Tr.skip (Tr.zA (Tr.seq (Tr.block (Tr.seq (Tr.seq (Tr.draw (by kernel_rfl) (by kernel_rfl) ?_))))))
  refine Tq.mv rfl rfl (Tq.mv rfl rfl ?_)
  obtain ⟨zDW, zae, H⟩ := bnd H
  obtain ⟨zVt, zVs, zVr⟩ := zO zae
  refine Tq.va rfl (fun _ _ a c => zD zKc (a.ev rfl) KU.form (a.ev rfl) zVt zVs) ?_
  refine Tq.va rfl (fun _ _ a c => zC zY8 (a.ev rfl) (rdF zI1 KU zVr c) rfl) ?_
  refine Tq.mv rfl rfl ?_
  obtain ⟨zkr, zQt, H⟩ := bnd H
  refine Tq.mid 9 [(0, sL zF p0 zH), (1, sL Ql p1 Qk), (5, pV QQ), (7, iv Jp), (8, pV WS), (9, iv zBa), (33, bV zkr)] ?_ ?_
  ·cases zGl : zDW
   ·rw [zGl] at zQt
    rw [if_neg (by decide)] at zQt
    have H := zQt
    refine Tq.val (wg rfl rfl rfl) rfl (fun _ _ a c => run_move (a.ev rfl)) ?_
    refine Tq.val (wg rfl rfl rfl) rfl (fun _ _ a c => run_move (a.ev rfl)) ?_
    obtain ⟨JM, hx128, H⟩ := bnd H
    obtain ⟨zJt, zJs, zJr⟩ := zO hx128
    refine Tq.val (wg rfl rfl rfl) rfl (fun _ _ a c => zD zO5 (a.ev rfl) zK.form (a.ev rfl) zJt zJs) ?_
    refine Tq.val (wg rfl rfl rfl) rfl (fun _ _ a c => zB zMo (a.ev rfl)) ?_
    refine Tq.val (wg rfl rfl rfl) rfl (fun _ _ a c => ze (cs := [iv JM.from_.X, iv JM.from_.Y]) WP KI (a.ev rfl) (zQ.take (zQ.drop (rdF Va zK zJr c) 0) 2) rfl) ?_
    refine Tq.val (wg rfl rfl rfl) rfl (fun _ _ a c => zB zSO (a.ev rfl)) ?_
    refine Tq.val (wg rfl rfl rfl) rfl (fun _ _ a c => ze (cs := [iv p2.to_.X, iv p2.to_.Y]) WP KI (a.ev rfl) (zQ.take (rdb c (vs := [iv p2.from_.X, iv p2.from_.Y, iv p2.to_.X, iv p2.to_.Y]) (k := 1) rfl 2) 2) rfl) ?_
    refine Tq.val (wg rfl rfl rfl) rfl (fun _ _ a c => zHA JM.from_ p2.to_ (a.ev rfl) (a.ev rfl)) ?_
    refine Tq.va rfl (fun _ _ a c => zy (a.ev rfl) (a.ev rfl)) ?_
    obtain rfl := oI H
    exact Tq.fin (.cons rfl (.cons rfl (.cons rfl (.cons rfl (.cons rfl (.cons rfl (.cons rfl .nil)))))))
   ·rw [zGl] at zQt
    rw [if_pos rfl] at zQt
    have H := zQt
    obtain rfl := oI H
    refine Tq.pass rfl rfl rfl rfl rfl (by decide) ?_
    refine Tq.pass rfl rfl rfl rfl rfl (by decide) ?_
    refine Tq.pass rfl rfl rfl rfl rfl (by decide) ?_
    refine Tq.pass rfl rfl rfl rfl rfl (by decide) ?_
    refine Tq.pass rfl rfl rfl rfl rfl (by decide) ?_
    refine Tq.pass rfl rfl rfl rfl rfl (by decide) ?_
    refine Tq.pass rfl rfl rfl rfl rfl (by decide) ?_
    refine Tq.pass rfl rfl rfl rfl rfl (by decide) ?_
    refine Tq.va rfl (fun _ _ a c => zx (a.ev rfl) (a.ev rfl)) ?_
    exact Tq.fin (.cons rfl (.cons rfl (.cons rfl (.cons rfl (.cons rfl (.cons rfl (.cons rfl .nil)))))))
  ·refine Tq.nil (Tr.zA (Tr.cond rfl H (fun H => ?_) (fun H => ?_)))
   ·refine Tr.exit (Tr.zP (Tr.zl (Tr.zA (Tr.region (Tr.mv rfl rfl (Tr.va rfl (fun _ _ a c => zg (a.ev rfl) (a.ev rfl)) ?_))))))
    exact Tr.asg rfl rfl (Tr.nil (Tr.zZ QI (Jp, (w64 (zBa + 1))) H (.cons rfl (.cons rfl (.cons rfl (.cons rfl (.cons rfl (.cons rfl .nil)))))) (.cons rfl (.cons rfl .nil))))
   ·refine Tr.skip (Tr.zA (Tr.sr (Tr.mv rfl rfl (Tr.mv rfl rfl ?_))))
    obtain ⟨zAb, zTj, H⟩ := bnd H
    obtain ⟨zOS, zOR, zOQ⟩ := zO zTj
    refine Tr.va rfl (fun _ _ a c => zD zO5 (a.ev rfl) zK.form (a.ev rfl) zOS zOR) ?_
    refine Tr.va rfl (fun _ _ a c => ze (cs := [iv zAb.from_.X, iv zAb.from_.Y, iv zAb.to_.X, iv zAb.to_.Y]) zPH zGX (a.ev rfl) (zQ.take (rdF Va zK zOQ c) 4) rfl) ?_
    obtain ⟨zBv, zTf, H⟩ := bnd H
    refine Tr.KV (r := (.agg #[iv zBv.X, iv zBv.Y])) (wn rfl) rfl Tryz.call85 (zI rfl zX) (fun W hW => zAq zAb zBv zTf (HF.start _)) ?_
    refine Tr.alloc 5 (wn rfl) rfl zDS fun zpu => ?_
    refine Tr.store 5 (cs := [iv zBv.X, iv zBv.Y]) [iv zBv.X, iv zBv.Y] (wn rfl) rfl rfl rfl rfl KI rfl rfl rfl ?_
    refine Tr.nil (Tr.zA (Tr.sr (Tr.va rfl (fun _ _ a c => zB Wo (a.ev rfl)) ?_)))
    refine Tr.va rfl (fun _ _ a c => zC QA (a.ev rfl) (rdb c (vs := [iv y101.X, iv y101.Y]) (k := 2) rfl 0) rfl) ?_
    refine Tr.va rfl (fun _ _ a c => zB VP (a.ev rfl)) ?_
    refine Tr.va rfl (fun _ _ a c => zC QA (a.ev rfl) (rdb c (vs := [iv zBv.X, iv zBv.Y]) (k := 5) rfl 1) rfl) ?_
    refine Tr.va rfl (fun _ _ a c => zRq (a.ev rfl) (a.ev rfl)) ?_
    refine Tr.va rfl (fun _ _ a c => zB VP (a.ev rfl)) ?_
    refine Tr.va rfl (fun _ _ a c => zC QA (a.ev rfl) (rdb c (vs := [iv y101.X, iv y101.Y]) (k := 2) rfl 1) rfl) ?_
    refine Tr.va rfl (fun _ _ a c => zB Wo (a.ev rfl)) ?_
    refine Tr.va rfl (fun _ _ a c => zC QA (a.ev rfl) (rdb c (vs := [iv zBv.X, iv zBv.Y]) (k := 5) rfl 0) rfl) ?_
    refine Tr.va rfl (fun _ _ a c => zRq (a.ev rfl) (a.ev rfl)) ?_
    refine Tr.va rfl (fun _ _ a c => Jn (a.ev rfl) (a.ev rfl)) ?_
    refine Tr.va rfl (fun _ _ a c => Wx (a.ev rfl) (a.ev rfl)) ?_
    refine Tr.asg rfl rfl (Tr.nil (Tr.zA (Tr.sr (Tr.mv rfl rfl (Tr.va rfl (fun _ _ a c => zh (a.ev rfl) (a.ev rfl)) ?_)))))
    refine Tr.mv rfl rfl (Tr.zBy 2 [(0, sL zF p0 zH), (1, sL Ql p1 Qk), (5, pV QQ), (7, iv Jp), (8, pV WS), (9, iv zBa), (55, bV ((decide (Jp < 0)) || (decide (0 < (w64 ((w64 (y101.X * zBv.Y)) - (w64 (y101.Y * zBv.X))))))))] [(1, bx QQ #[iv p2.from_.X, iv p2.from_.Y, iv p2.to_.X, iv p2.to_.Y] 87), (2, bx WS #[iv y101.X, iv y101.Y] 33), (5, bx zpu #[iv zBv.X, iv zBv.Y] 33)] ?_ ?_)
    ·cases zGl : (decide (Jp < 0))
     ·refine Tr.val (wg rfl rfl rfl) rfl (fun _ _ a c => run_move (a.ev rfl)) ?_
      refine Tr.va rfl (fun _ _ a c => zy (a.ev rfl) (a.ev rfl)) ?_
      exact Tr.nil (Tr.VW (.cons rfl (.cons rfl (.cons rfl (.cons rfl (.cons rfl (.cons rfl (.cons rfl .nil))))))) (.cons rfl (.cons rfl (.cons rfl .nil))))
     ·refine Tr.pass rfl rfl rfl rfl rfl (by decide) ?_
      refine Tr.va rfl (fun _ _ a c => zx (a.ev rfl) (a.ev rfl)) ?_
      exact Tr.nil (Tr.VW (.cons rfl (.cons rfl (.cons rfl (.cons rfl (.cons rfl (.cons rfl (.cons rfl .nil))))))) (.cons rfl (.cons rfl (.cons rfl .nil))))
    ·show Tr _ _ (LF [(0, sL zF p0 zH), (1, sL Ql p1 Qk), (5, pV QQ), (7, iv Jp), (8, pV WS), (9, iv zBa), (55, bV ((decide (Jp < 0)) || (decide (0 < (w64 ((w64 (y101.X * zBv.Y)) - (w64 (y101.Y * zBv.X))))))))]) (LE [(1, bx QQ #[iv p2.from_.X, iv p2.from_.Y, iv p2.to_.X, iv p2.to_.Y] 87), (2, bx WS #[iv y101.X, iv y101.Y] 33), (5, bx zpu #[iv zBv.X, iv zBv.Y] 33)]) _
     refine Tr.nil (Tr.zA (Tr.cond rfl H (fun H => ?_) (fun H => ?_)))
     ·refine Tr.region (Tr.mv rfl rfl (Tr.asg rfl rfl (Tr.nil (Tr.zb (Tr.zA (Tr.region (Tr.mv rfl rfl (Tr.va rfl (fun _ _ a c => zg (a.ev rfl) (a.ev rfl)) ?_))))))))
      exact Tr.asg rfl rfl (Tr.nil (Tr.zZ QI (zBa, (w64 (zBa + 1))) H (.cons rfl (.cons rfl (.cons rfl (.cons rfl (.cons rfl (.cons rfl .nil)))))) (.cons rfl (.cons rfl .nil))))
     ·refine Tr.skip (Tr.zb (Tr.zA (Tr.region (Tr.mv rfl rfl (Tr.va rfl (fun _ _ a c => zg (a.ev rfl) (a.ev rfl)) ?_)))))
      exact Tr.asg rfl rfl (Tr.nil (Tr.zZ QI (Jp, (w64 (zBa + 1))) H (.cons rfl (.cons rfl (.cons rfl (.cons rfl (.cons rfl (.cons rfl .nil)))))) (.cons rfl (.cons rfl .nil))))
 ·refine Tr.exit (Tr.zP (Tr.zP (Tr.zl (Tr.zA (Tr.sr (Tr.mv rfl rfl (Tr.asg rfl rfl (Tr.nil (Tr.zA (Tr.ret ?_))))))))))
  obtain rfl := oI H
  exact Tr.out (m := [iv Jp]) [] (zU rfl zY) (fun W hW => ⟨rfl, hW.low leB⟩)

theorem zBo {w : Bs} (p0 : zG) (p1 : zG) (r : Bool) (H : Vq p0 p1 = some r) (hE : HF w w.W E0) : Calls Tryz.prog 54 [.agg #[iv p0.X, iv p0.Y], .agg #[iv p1.X, iv p1.Y]].toArray w.W fun e W' => e = .returned (bV r) ∧ HF w W' E0 := by
 unfold Vq at H
 have leB := Bs.Le.refl w
 refine Tr.enter (n := 24) Tryz.func54 rfl rfl rfl hE ?_
 refine Tr.sr (Tr.box 1 (cs := [iv p0.X, iv p0.Y]) (wn rfl) rfl rfl rfl fun QQ => ?_)
 refine Tr.box 2 (cs := [iv p1.X, iv p1.Y]) (wn rfl) rfl rfl rfl fun WE => ?_
 refine Tr.asg rfl rfl (Tr.nil (Tr.zA (Tr.sr (Tr.va rfl (fun _ _ a c => zB VP (a.ev rfl)) ?_))))
 refine Tr.va rfl (fun _ _ a c => zC QA (a.ev rfl) (rdb c (vs := [iv p0.X, iv p0.Y]) (k := 1) rfl 1) rfl) ?_
 refine Tr.va rfl (fun _ _ a c => zB VP (a.ev rfl)) ?_
 refine Tr.va rfl (fun _ _ a c => zC QA (a.ev rfl) (rdb c (vs := [iv p1.X, iv p1.Y]) (k := 2) rfl 1) rfl) ?_
 refine Tr.va rfl (fun _ _ a c => zh (a.ev rfl) (a.ev rfl)) ?_
 refine Tr.mv rfl rfl (Tr.zBy 13 [(23, bV ((decide (p0.Y < p1.Y)) || ((p0.Y == p1.Y) && (decide (p0.X < p1.X)))))] [(1, bx QQ #[iv p0.X, iv p0.Y] 33), (2, bx WE #[iv p1.X, iv p1.Y] 33)] ?_ ?_)
 ·cases zQz : (decide (p0.Y < p1.Y))
  ·refine Tr.val (wg rfl rfl rfl) rfl (fun _ _ a c => zB VP (a.ev rfl)) ?_
   refine Tr.val (wg rfl rfl rfl) rfl (fun _ _ a c => zC QA (a.ev rfl) (rdb c (vs := [iv p0.X, iv p0.Y]) (k := 1) rfl 1) rfl) ?_
   refine Tr.val (wg rfl rfl rfl) rfl (fun _ _ a c => zB VP (a.ev rfl)) ?_
   refine Tr.val (wg rfl rfl rfl) rfl (fun _ _ a c => zC QA (a.ev rfl) (rdb c (vs := [iv p1.X, iv p1.Y]) (k := 2) rfl 1) rfl) ?_
   refine Tr.val (wg rfl rfl rfl) rfl (fun _ _ a c => Vv (a.ev rfl) (a.ev rfl)) ?_
   refine Tr.val (wg rfl rfl rfl) rfl (fun _ _ a c => run_move (a.ev rfl)) ?_
   refine Tr.zBy 6 [(10, bV false), (22, bV ((p0.Y == p1.Y) && (decide (p0.X < p1.X))))] [(1, bx QQ #[iv p0.X, iv p0.Y] 33), (2, bx WE #[iv p1.X, iv p1.Y] 33)] ?_ ?_
   ·cases zQz : (p0.Y == p1.Y)
    ·refine Tr.pass rfl rfl rfl rfl rfl (by decide) ?_
     refine Tr.pass rfl rfl rfl rfl rfl (by decide) ?_
     refine Tr.pass rfl rfl rfl rfl rfl (by decide) ?_
     refine Tr.pass rfl rfl rfl rfl rfl (by decide) ?_
     refine Tr.pass rfl rfl rfl rfl rfl (by decide) ?_
     refine Tr.val (wg rfl rfl rfl) rfl (fun _ _ a c => zy (a.ev rfl) (a.ev rfl)) ?_
     exact Tr.nil (Tr.VW (.cons rfl (.cons rfl .nil)) (.cons rfl (.cons rfl .nil)))
    ·refine Tr.val (wg rfl rfl rfl) rfl (fun _ _ a c => zB Wo (a.ev rfl)) ?_
     refine Tr.val (wg rfl rfl rfl) rfl (fun _ _ a c => zC QA (a.ev rfl) (rdb c (vs := [iv p0.X, iv p0.Y]) (k := 1) rfl 0) rfl) ?_
     refine Tr.val (wg rfl rfl rfl) rfl (fun _ _ a c => zB Wo (a.ev rfl)) ?_
     refine Tr.val (wg rfl rfl rfl) rfl (fun _ _ a c => zC QA (a.ev rfl) (rdb c (vs := [iv p1.X, iv p1.Y]) (k := 2) rfl 0) rfl) ?_
     refine Tr.val (wg rfl rfl rfl) rfl (fun _ _ a c => zh (a.ev rfl) (a.ev rfl)) ?_
     refine Tr.val (wg rfl rfl rfl) rfl (fun _ _ a c => zx (a.ev rfl) (a.ev rfl)) ?_
     exact Tr.nil (Tr.VW (.cons rfl (.cons rfl .nil)) (.cons rfl (.cons rfl .nil)))
   ·show Tr _ _ (LF [(10, bV false), (22, bV ((p0.Y == p1.Y) && (decide (p0.X < p1.X))))]) (LE [(1, bx QQ #[iv p0.X, iv p0.Y] 33), (2, bx WE #[iv p1.X, iv p1.Y] 33)]) _
    refine Tr.va rfl (fun _ _ a c => zy (a.ev rfl) (a.ev rfl)) ?_
    exact Tr.nil (Tr.VW (.cons rfl .nil) (.cons rfl (.cons rfl .nil)))
  ·refine Tr.pass rfl rfl rfl rfl rfl (by decide) ?_
   refine Tr.pass rfl rfl rfl rfl rfl (by decide) ?_
   refine Tr.pass rfl rfl rfl rfl rfl (by decide) ?_
   refine Tr.pass rfl rfl rfl rfl rfl (by decide) ?_
   refine Tr.pass rfl rfl rfl rfl rfl (by decide) ?_
   refine Tr.pass rfl rfl rfl rfl rfl (by decide) ?_
   refine Tr.KJ rfl rfl rfl rfl (by decide) ?_
   refine Tr.KJ rfl rfl rfl rfl (by decide) ?_
   refine Tr.KJ rfl rfl rfl rfl (by decide) ?_
   refine Tr.KJ rfl rfl rfl rfl (by decide) ?_
   refine Tr.KJ rfl rfl rfl rfl (by decide) ?_
   refine Tr.pass rfl rfl rfl rfl rfl (by decide) ?_
   refine Tr.va rfl (fun _ _ a c => zx (a.ev rfl) (a.ev rfl)) ?_
   exact Tr.nil (Tr.VW (.cons rfl .nil) (.cons rfl (.cons rfl .nil)))
 ·show Tr _ _ (LF [(23, bV ((decide (p0.Y < p1.Y)) || ((p0.Y == p1.Y) && (decide (p0.X < p1.X)))))]) (LE [(1, bx QQ #[iv p0.X, iv p0.Y] 33), (2, bx WE #[iv p1.X, iv p1.Y] 33)]) _
  refine Tr.asg rfl rfl (Tr.nil (Tr.zA (Tr.ret ?_)))
  obtain rfl := oI H
  exact Tr.out (m := [bV ((decide (p0.Y < p1.Y)) || ((p0.Y == p1.Y) && (decide (p0.X < p1.X))))]) [] (zU rfl zY) (fun W hW => ⟨rfl, hW.low leB⟩)

theorem zFk (N : Nat) {w : Bs} (p0 : (List zM)) (zF : Option Addr) (zH : Nat) (zK : Sl w.R w.W za zF zH p0) (r : (List zG)) (H : Vj N p0 = some r) (hE : HF w w.W (LEn [emp])) : Calls Tryz.prog 53 [sL zF p0 zH].toArray w.W fun e W' => ∃ u : (Option Addr × Nat), e = .returned (sL u.1 r u.2) ∧ (SlF u.1 r.length u.2) ∧ HF w W' (LEn [ow u.1 u.2 33 zz r]) := by
 unfold Vj at H
 have leB := Bs.Le.refl w
 refine Tr.enter (n := 68) Tryz.func53 rfl rfl rfl hE ?_
 refine Tr.sr (Tr.asg rfl rfl (Tr.Qb 1 33 zz ?_))
 show Tr _ _ (uf _ 2 (sL none (([] : List zG)) 0)) _ _
 refine Tr.nil (Tr.zA (Tr.sr (Tr.asg rfl rfl (Tr.Qb 2 33 zz ?_))))
 show Tr _ _ (uf _ 3 (sL none (([] : List zG)) 0)) _ _
 refine Tr.nil (Tr.zA (Tr.seq (Tr.sr (Tr.asg rfl rfl (Tr.nil (Tr.zA (Tr.block (Tr.loop (σ := (List zG) × Int × (Option Addr) × Nat) (fun m w s => JK N p0 m s.1 s.2.1 = some r ∧ SlF s.2.2.1 s.1.length s.2.2.2) (fun s => [(0, sL zF p0 zH), (3, sL s.2.2.1 s.1 s.2.2.2), (4, iv s.2.1)]) (fun s => [(2, ow s.2.2.1 s.2.2.2 33 zz s.1)]) N (([] : List zG), 0, none, 0) ⟨H, Jm⟩ (.cons rfl (.cons rfl (.cons rfl .nil))) (.cons rfl .nil) (fun _ _ h => KG (h.1)) ?_))))))))
 intro w QI mL1 s hs
 obtain ⟨zEl, zDW, zMK, zME⟩ := s
 obtain ⟨H, zOl⟩ := hs
 replace H : JK N p0 (mL1 + 1) zEl zDW = some r := H
 replace zK := zK.leR QI
 replace leB := leB.trans QI
 replace zOl : SlF zMK zEl.length zME := zOl
 rw [JK.eq_2] at H
 show Tr _ _ (LF [(0, sL zF p0 zH), (3, sL zMK zEl zME), (4, iv zDW)]) (LE [(2, ow zMK zME 33 zz zEl)]) _
 refine Tr.seq (Tr.sr (Tr.mv rfl rfl (Tr.mv rfl rfl (Tr.va rfl (fun _ _ a c => zf zH4 (a.ev rfl)) ?_))))
 refine Tr.va rfl (fun _ _ a c => zh (a.ev rfl) (a.ev rfl)) ?_
 refine Tr.nil (Tr.zA (Tr.cond rfl H (fun H => ?_) (fun H => ?_)))
 ·refine Tr.skip (Tr.zA (Tr.seq (Tr.block (Tr.sr (Tr.mv rfl rfl (Tr.mv rfl rfl (Tr.mv rfl rfl (Tr.va rfl (fun _ _ a c => zf zH4 (a.ev rfl)) ?_))))))))
  refine Tr.va rfl (fun _ _ a c => zg (a.ev rfl) (a.ev rfl)) ?_
  refine Tr.va rfl (fun _ _ a c => Jn (a.ev rfl) (a.ev rfl)) ?_
  refine Tr.mv rfl rfl (Tr.va rfl (fun _ _ a c => zf zH4 (a.ev rfl)) ?_)
  obtain ⟨q126, zoe, H⟩ := bnd H
  refine Tr.va rfl (fun _ _ a c => zLI (a.ev rfl) (a.ev rfl) zoe) ?_
  obtain ⟨Vk, zTk, H⟩ := bnd H
  obtain ⟨zOV, zOU, zOT⟩ := zO zTk
  refine Tr.va rfl (fun _ _ a c => zD zO5 (a.ev rfl) zK.form (a.ev rfl) zOV zOU) ?_
  refine Tr.va rfl (fun _ _ a c => ze (cs := [iv Vk.from_.X, iv Vk.from_.Y, iv Vk.to_.X, iv Vk.to_.Y]) zPH zGX (a.ev rfl) (zQ.take (rdF Va zK zOT c) 4) rfl) ?_
  refine Tr.alloc 7 (wn rfl) rfl zlG fun zDo => ?_
  refine Tr.store 7 (cs := [iv Vk.from_.X, iv Vk.from_.Y, iv Vk.to_.X, iv Vk.to_.Y]) [iv Vk.from_.X, iv Vk.from_.Y, iv Vk.to_.X, iv Vk.to_.Y] (wn rfl) rfl rfl rfl rfl zGX rfl rfl rfl ?_
  refine Tr.nil (Tr.zA (Tr.seq (Tr.draw (by kernel_rfl) (by kernel_rfl) ?_)))
  refine Tq.va rfl (fun _ _ a c => ze (cs := [iv Vk.from_.X, iv Vk.from_.Y, iv Vk.to_.X, iv Vk.to_.Y]) zPH zGX (a.ev rfl) (zQ.take (rdb c (vs := [iv Vk.from_.X, iv Vk.from_.Y, iv Vk.to_.X, iv Vk.to_.Y]) (k := 7) rfl 0) 4) rfl) ?_
  obtain ⟨zJY, zaQ, H⟩ := bnd H
  refine Tq.KV (r := (.agg #[iv zJY.X, iv zJY.Y])) (wn rfl) rfl Tryz.call85 (zI rfl zX) (fun W hW => zAq Vk zJY zaQ (HF.start _)) ?_
  refine Tq.mv rfl rfl (Tq.mv rfl rfl ?_)
  obtain ⟨zU8, zoX, H⟩ := bnd H
  obtain ⟨zkF, zkE, zkD⟩ := zO zoX
  refine Tq.va rfl (fun _ _ a c => zD zO5 (a.ev rfl) zK.form (a.ev rfl) zkF zkE) ?_
  refine Tq.va rfl (fun _ _ a c => ze (cs := [iv zU8.from_.X, iv zU8.from_.Y, iv zU8.to_.X, iv zU8.to_.Y]) zPH zGX (a.ev rfl) (zQ.take (rdF Va zK zkD c) 4) rfl) ?_
  obtain ⟨zDO, zTe, H⟩ := bnd H
  refine Tq.KV (r := (.agg #[iv zDO.X, iv zDO.Y])) (wn rfl) rfl Tryz.call85 (zI rfl zX) (fun W hW => zAq zU8 zDO zTe (HF.start _)) ?_
  refine Tq.va rfl (fun _ _ a c => zHA zJY zDO (a.ev rfl) (a.ev rfl)) ?_
  refine Tq.nil (Tr.zA (Tr.cond rfl H (fun H => ?_) (fun H => ?_)))
  ·refine Tr.region (Tr.mv rfl rfl (Tr.mv rfl rfl (Tr.mv rfl rfl ?_)))
   obtain ⟨zEx, zTi, H⟩ := bnd H
   obtain ⟨zOP, zOO, zON⟩ := zO zTi
   refine Tr.va rfl (fun _ _ a c => zD zO5 (a.ev rfl) zK.form (a.ev rfl) zOP zOO) ?_
   refine Tr.va rfl (fun _ _ a c => zB zMo (a.ev rfl)) ?_
   refine Tr.va rfl (fun _ _ a c => ze (cs := [iv zEx.from_.X, iv zEx.from_.Y]) WP KI (a.ev rfl) (zQ.take (zQ.drop (rdF Va zK zON c) 0) 2) rfl) ?_
   refine Tr.buildSlice 8 (e := 33) (vs := [(0, .agg #[iv zEx.from_.X, iv zEx.from_.Y])]) (cs := [iv zEx.from_.X, iv zEx.from_.Y]) (wn rfl) rfl (zi rfl Qh) (by kernel_rfl) fun zWP => ?_
   obtain ⟨zfr, zpE, H⟩ := bnd H
   refine Tr.append 2 (t := zz) (l := zEl) (l2 := [zEx.from_]) (wn rfl) rfl rfl rfl rfl (fun W hW => ⟨[[iv zEx.from_.X, iv zEx.from_.Y]], (.cons ⟨(), trivial, rfl⟩ .nil), rdb hW (vs := [iv zEx.from_.X, iv zEx.from_.Y]) (k := 8) rfl 0⟩) zBI KI zPv (by decide) zRL rfl zpE fun zqD zpn hAl134 => ?_
   refine Tr.asg rfl rfl (Tr.nil (Tr.zb (Tr.zA (Tr.region (Tr.mv rfl rfl (Tr.va rfl (fun _ _ a c => zg (a.ev rfl) (a.ev rfl)) ?_))))))
   exact Tr.asg rfl rfl (Tr.nil (Tr.zZ QI (zfr, (w64 (zDW + 1)), zqD, zpn) ⟨H, hAl134⟩ (.cons rfl (.cons rfl (.cons rfl .nil))) (.cons rfl .nil)))
  ·refine Tr.skip (Tr.zb (Tr.zA (Tr.region (Tr.mv rfl rfl (Tr.va rfl (fun _ _ a c => zg (a.ev rfl) (a.ev rfl)) ?_)))))
   exact Tr.asg rfl rfl (Tr.nil (Tr.zZ QI (zEl, (w64 (zDW + 1)), zMK, zME) ⟨H, zOl⟩ (.cons rfl (.cons rfl (.cons rfl .nil))) (.cons rfl .nil)))
 ·refine Tr.exit (Tr.zP (Tr.zP (Tr.zl (Tr.zA (Tr.sr (Tr.asg rfl rfl (Tr.nil (Tr.zA (Tr.seq (Tr.sr (Tr.asg rfl rfl (Tr.nil (Tr.zA (Tr.block ?_))))))))))))))
  refine Tr.loop (σ := Int × Int) (fun m w s => Qv zEl m s.1 s.2 = some r) (fun s => [(3, sL zMK zEl zME), (6, iv s.1), (7, iv s.2)]) (fun s => [(2, ow zMK zME 33 zz zEl)]) N (0, 0) H (.cons rfl (.cons rfl (.cons rfl .nil))) (.cons rfl .nil) (fun _ _ h => KG (h)) ?_
  intro w zCs mL2 s hs
  obtain ⟨x152, x153⟩ := s
  have H := hs
  replace H : Qv zEl (mL2 + 1) x152 x153 = some r := H
  replace leB := leB.trans zCs
  rw [Qv.eq_2] at H
  show Tr _ _ (LF [(3, sL zMK zEl zME), (6, iv x152), (7, iv x153)]) (LE [(2, ow zMK zME 33 zz zEl)]) _
  refine Tr.seq (Tr.sr (Tr.mv rfl rfl (Tr.mv rfl rfl (Tr.va rfl (fun _ _ a c => zf zBI (a.ev rfl)) ?_))))
  refine Tr.va rfl (fun _ _ a c => zh (a.ev rfl) (a.ev rfl)) ?_
  refine Tr.nil (Tr.zA (Tr.cond rfl H (fun H => ?_) (fun H => ?_)))
  ·refine Tr.skip (Tr.zA (Tr.seq (Tr.block (Tr.seq (Tr.draw (by kernel_rfl) (by kernel_rfl) ?_)))))
   refine Tq.mv rfl rfl (Tq.mv rfl rfl ?_)
   obtain ⟨zZT, zoQ, H⟩ := bnd H
   obtain ⟨zjn, zjm, zjl⟩ := zO zoQ
   refine Tq.va rfl (fun _ _ a c => zD zAh (a.ev rfl) zOl (a.ev rfl) zjn zjm) ?_
   refine Tq.va rfl (fun _ _ a c => ze (cs := [iv zZT.X, iv zZT.Y]) WP KI (a.ev rfl) (zQ.take (rdo Jb (k := 2) c rfl zjl) 2) rfl) ?_
   refine Tq.mv rfl rfl (Tq.mv rfl rfl ?_)
   obtain ⟨zJ6, zaa, H⟩ := bnd H
   obtain ⟨zVe, zVd, zVc⟩ := zO zaa
   refine Tq.va rfl (fun _ _ a c => zD zAh (a.ev rfl) zOl (a.ev rfl) zVe zVd) ?_
   refine Tq.va rfl (fun _ _ a c => ze (cs := [iv zJ6.X, iv zJ6.Y]) WP KI (a.ev rfl) (zQ.take (rdo Jb (k := 2) c rfl zVc) 2) rfl) ?_
   obtain ⟨zcH, zmq, H⟩ := bnd H
   refine Tq.KV (r := (bV zcH)) (wn rfl) rfl Tryz.call54 (zI rfl (zI rfl zX)) (fun W hW => zBo zZT zJ6 zcH zmq (HF.start _)) ?_
   refine Tq.nil (Tr.zA (Tr.cond rfl H (fun H => ?_) (fun H => ?_)))
   ·refine Tr.region (Tr.mv rfl rfl (Tr.asg rfl rfl (Tr.nil (Tr.zb (Tr.zA (Tr.region (Tr.mv rfl rfl (Tr.va rfl (fun _ _ a c => zg (a.ev rfl) (a.ev rfl)) ?_))))))))
    exact Tr.asg rfl rfl (Tr.nil (Tr.zZ zCs (x153, (w64 (x153 + 1))) H (.cons rfl (.cons rfl (.cons rfl .nil))) (.cons rfl .nil)))
   ·refine Tr.skip (Tr.zb (Tr.zA (Tr.region (Tr.mv rfl rfl (Tr.va rfl (fun _ _ a c => zg (a.ev rfl) (a.ev rfl)) ?_)))))
    exact Tr.asg rfl rfl (Tr.nil (Tr.zZ zCs (x152, (w64 (x153 + 1))) H (.cons rfl (.cons rfl (.cons rfl .nil))) (.cons rfl .nil)))
  ·refine Tr.exit (Tr.zP (Tr.zP (Tr.zl (Tr.zA (Tr.sr (Tr.asg rfl rfl (Tr.Qb 9 33 zz ?_)))))))
   show Tr _ _ (uf _ 8 (sL none (([] : List zG)) 0)) _ _
   refine Tr.nil (Tr.zA (Tr.sr (Tr.mv rfl rfl (Tr.mv rfl rfl (Tr.mv rfl rfl ?_)))))
   obtain ⟨zaC, zee, H⟩ := bnd H
   refine Tr.va rfl (fun _ _ a c => zDa zAh (a.ev rfl) zOl (a.ev rfl) zee) ?_
   obtain ⟨zA7, zGi, H⟩ := bnd H
   refine Tr.zDp 9 (t := zz) (l := ([] : List zG)) (l2 := zaC) (wn rfl) rfl rfl rfl rfl (apT zDB (fun W hW => (Sl.cut (hW.slB (k := 2) rfl) zee))) zBI KI zPv (by decide) zRL rfl zGi fun zGI zGB hAl158 => ?_
   refine Tr.asg rfl rfl (Tr.nil (Tr.zA (Tr.sr (Tr.mv rfl rfl (Tr.mv rfl rfl (Tr.mv rfl rfl ?_))))))
   obtain ⟨zSA, zTv, H⟩ := bnd H
   refine Tr.va rfl (fun _ _ a c => zG9 zAh (a.ev rfl) zOl (a.ev rfl) zTv) ?_
   obtain ⟨zR9, zay, H⟩ := bnd H
   refine Tr.zDp 9 (t := zz) (l := zA7) (l2 := zSA) (wn rfl) rfl rfl rfl rfl (apT zDB (fun W hW => (Sl.pre (hW.slB (k := 2) rfl) zTv))) zBI KI zPv (by decide) zRL rfl zay fun zUq zUM hAl160 => ?_
   refine Tr.asg rfl rfl (Tr.nil (Tr.zA (Tr.ret ?_)))
   obtain rfl := oI H
   exact Tr.out (m := [sL zUq zR9 zUM]) [] (zU rfl zY) (fun W hW => ⟨(zUq, zUM), rfl, hAl160, HF.zEF leB (hW.pick (ks := [9]) (by decide) (zn rfl zw)) ⟨Ww _ _ _ _ zDB, trivial⟩⟩)

theorem zEd (N : Nat) {w : Bs} (p0 : (List zJ)) (zF : Option Addr) (zH : Nat) (zK : Sl w.R w.W zL zF zH p0) (r : (List (List zG))) (H : Vr N p0 = some r) (hE : HF w w.W (LEn [emp])) : Calls Tryz.prog 16 [sL zF p0 zH].toArray w.W fun e W' => ∃ (w' : Bs) (u : (Option Addr × Nat)), w.Le w' ∧ e = .returned (sL u.1 r u.2) ∧ (SlF u.1 r.length u.2) ∧ HF w' W' (LEn [ow u.1 u.2 30 zS r]) := by
 unfold Vr at H
 have leB := Bs.Le.refl w
 refine Tr.enter (n := 109) Tryz.func16 rfl rfl rfl hE ?_
 refine Tr.sr (Tr.asg rfl rfl (Tr.Qb 1 30 zS ?_))
 show Tr _ _ (uf _ 2 (sL none (([] : List (List zG))) 0)) _ _
 refine Tr.nil (Tr.zA (Tr.sr (Tr.mv rfl rfl ?_)))
 obtain ⟨zN, zAQ, H⟩ := bnd H
 refine Tr.zAi [2] [emp] (U := (Option Addr × Nat)) (fun u => (sL u.1 zN u.2)) (fun u => SlF u.1 zN.length u.2) (fun u => [ow u.1 u.2 87 za zN]) rfl (zn rfl zw) (fun _ => rfl) (wn rfl) rfl Tryz.call51 (zI rfl zX) (fun W hW hp hE => zGS N p0 zF zH (zK.ext (hW.zCA hp)) zN zAQ hE) ?_
 intro u hu
 obtain ⟨zR, zT⟩ := u
 have gy100_0 := hu
 have QZ : SlF zR zN.length zT := gy100_0 --@phi
 show Tr _ _ (uf _ 13 (sL zR zN zT)) (up _ 2 (ow zR zT 87 za zN)) _
 refine Tr.asg rfl rfl (Tr.nil (Tr.zA (Tr.sr (Tr.mv rfl rfl (Tr.va rfl (fun _ _ a c => zf zH4 (a.ev rfl)) ?_)))))
 obtain ⟨zMW, za3, H⟩ := bnd H
 refine Tr.makeSlice 3 VQ false (wn rfl) rfl rfl rfl zZX zYY rfl zey zkx rfl ⟨(), fun _ _ => zRi _ _ _ _, rfl⟩ za3 fun zGQ zkd => ?_
 refine Tr.asg rfl rfl (Tr.nil (Tr.zA (Tr.sr (Tr.asg rfl rfl (Tr.Qb 4 30 zS ?_)))))
 show Tr _ _ (uf _ 5 (sL none (([] : List (List zG))) 0)) _ _
 refine Tr.nil (Tr.zA (Tr.seq (Tr.sr (Tr.asg rfl rfl (Tr.nil (Tr.zA (Tr.block (Tr.ren 4 22 rfl rfl rfl ?_))))))))
 refine Tr.loop (σ := (List Bool) × (List (List zG)) × Int × (Option Addr) × Nat × (Option Addr) × Nat) (fun m w s => zt N zN m s.1 s.2.1 s.2.2.1 = some r ∧ SlF s.2.2.2.1 s.1.length s.2.2.2.2.1 ∧ SlF s.2.2.2.2.2.1 s.2.1.length s.2.2.2.2.2.2) (fun s => [(3, sL zR zN zT), (4, sL s.2.2.2.1 s.1 s.2.2.2.2.1), (5, sL s.2.2.2.2.2.1 s.2.1 s.2.2.2.2.2.2), (6, iv s.2.2.1)]) (fun s => [(2, ow zR zT 87 za zN), (3, ow s.2.2.2.1 s.2.2.2.2.1 4 VQ s.1), (22, ow s.2.2.2.2.2.1 s.2.2.2.2.2.2 30 zS s.2.1)]) N (zMW, ([] : List (List zG)), 0, (some ⟨zGQ, 0, none⟩), zMW.length, none, 0) ⟨H, zkd, Jm⟩ (.cons rfl (.cons rfl (.cons rfl (.cons rfl .nil)))) (.cons rfl (.cons rfl (.cons rfl .nil))) (fun _ _ h => KG (h.1)) ?_
 intro w zC8 mL5 s hs
 obtain ⟨zPk, zBs, zDU, zUo, zUK, zDy, zDk⟩ := s
 obtain ⟨H, zTq, zL4⟩ := hs
 replace H : zt N zN (mL5 + 1) zPk zBs zDU = some r := H
 replace leB := leB.trans zC8
 replace zTq : SlF zUo zPk.length zUK := zTq
 replace zL4 : SlF zDy zBs.length zDk := zL4
 rw [zt.eq_2] at H
 show Tr _ _ (LF [(3, sL zR zN zT), (4, sL zUo zPk zUK), (5, sL zDy zBs zDk), (6, iv zDU)]) (LE [(2, ow zR zT 87 za zN), (3, ow zUo zUK 4 VQ zPk), (22, ow zDy zDk 30 zS zBs)]) _
 refine Tr.seq (Tr.sr (Tr.mv rfl rfl (Tr.mv rfl rfl (Tr.va rfl (fun _ _ a c => zf zH4 (a.ev rfl)) ?_))))
 refine Tr.va rfl (fun _ _ a c => zh (a.ev rfl) (a.ev rfl)) ?_
 refine Tr.nil (Tr.zA (Tr.cond rfl H (fun H => ?_) (fun H => ?_)))
 ·refine Tr.skip (Tr.zA (Tr.seq (Tr.block (Tr.seq (Tr.sr (Tr.mv rfl rfl (Tr.mv rfl rfl ?_)))))))
  obtain ⟨zlN, znX, H⟩ := bnd H
  obtain ⟨zg3, zg2, zg1⟩ := zO znX
  refine Tr.va rfl (fun _ _ a c => zD zKc (a.ev rfl) zTq (a.ev rfl) zg3 zg2) ?_
  refine Tr.va rfl (fun _ _ a c => zC zY8 (a.ev rfl) (rdo zI1 (k := 3) c rfl zg1) rfl) ?_
  refine Tr.nil (Tr.zA (Tr.cond rfl H (fun H => ?_) (fun H => ?_)))
  ·refine Tr.exit (Tr.zP (Tr.zl (Tr.zA (Tr.region (Tr.mv rfl rfl (Tr.va rfl (fun _ _ a c => zg (a.ev rfl) (a.ev rfl)) ?_))))))
   exact Tr.asg rfl rfl (Tr.nil (Tr.zZ zC8 (zPk, zBs, (w64 (zDU + 1)), zUo, zUK, zDy, zDk) ⟨H, zTq, zL4⟩ (.cons rfl (.cons rfl (.cons rfl (.cons rfl .nil)))) (.cons rfl (.cons rfl (.cons rfl .nil)))))
  ·refine Tr.skip (Tr.zA (Tr.sr (Tr.asg rfl rfl (Tr.Qb 23 87 za ?_))))
   show Tr _ _ (uf _ 7 (sL none (([] : List zM)) 0)) _ _
   refine Tr.nil (Tr.zA (Tr.seq (Tr.sr (Tr.mv rfl rfl (Tr.asg rfl rfl (Tr.nil (Tr.zA (Tr.block (Tr.loop (σ := (List Bool) × (List zM) × Int × (Option Addr) × Nat × (Option Addr) × Nat) (fun m w s => JI N zN zBs zDU (zt N zN mL5) m s.1 s.2.1 s.2.2.1 = some r ∧ SlF s.2.2.2.1 s.1.length s.2.2.2.2.1 ∧ SlF s.2.2.2.2.2.1 s.2.1.length s.2.2.2.2.2.2) (fun s => [(3, sL zR zN zT), (4, sL s.2.2.2.1 s.1 s.2.2.2.2.1), (5, sL zDy zBs zDk), (6, iv zDU), (7, sL s.2.2.2.2.2.1 s.2.1 s.2.2.2.2.2.2), (8, iv s.2.2.1)]) (fun s => [(2, ow zR zT 87 za zN), (3, ow s.2.2.2.1 s.2.2.2.2.1 4 VQ s.1), (22, ow zDy zDk 30 zS zBs), (23, ow s.2.2.2.2.2.1 s.2.2.2.2.2.2 87 za s.2.1)]) N (zPk, ([] : List zM), zDU, zUo, zUK, none, 0) ⟨H, zTq, Jm⟩ (.cons rfl (.cons rfl (.cons rfl (.cons rfl (.cons rfl (.cons rfl .nil)))))) (.cons rfl (.cons rfl (.cons rfl (.cons rfl .nil)))) (fun _ _ h => KG (h.1)) ?_)))))))))
   intro w zJD mL6 s hs
   obtain ⟨zFo, zPj, zLE, zEf, zEa, zUn, zUJ⟩ := s
   obtain ⟨H, zTp, zrd⟩ := hs
   replace H : JI N zN zBs zDU (zt N zN mL5) (mL6 + 1) zFo zPj zLE = some r := H
   replace zC8 := zC8.trans zJD
   replace zTp : SlF zEf zFo.length zEa := zTp
   rw [JI.eq_2] at H
   show Tr _ _ (LF [(3, sL zR zN zT), (4, sL zEf zFo zEa), (5, sL zDy zBs zDk), (6, iv zDU), (7, sL zUn zPj zUJ), (8, iv zLE)]) (LE [(2, ow zR zT 87 za zN), (3, ow zEf zEa 4 VQ zFo), (22, ow zDy zDk 30 zS zBs), (23, ow zUn zUJ 87 za zPj)]) _
   refine Tr.seq (Tr.sr (Tr.mv rfl rfl (Tr.va rfl (fun _ _ a c => zEz (a.ev rfl) (a.ev rfl)) ?_)))
   refine Tr.nil (Tr.zA (Tr.cond rfl H (fun H => ?_) (fun H => ?_)))
   ·refine Tr.skip (Tr.zA (Tr.seq (Tr.block (Tr.sr (Tr.mv rfl rfl (Tr.mv rfl rfl ?_))))))
    obtain ⟨zqf, znW, H⟩ := bnd H
    obtain ⟨zg0, zgz, zgy⟩ := zO znW
    refine Tr.va rfl (fun _ _ a c => zD zKc (a.ev rfl) zTp (a.ev rfl) zg0 zgz) ?_
    obtain ⟨zR4, zeX, H⟩ := bnd H
    have zV3 := zFS zeX
    refine Tr.zFz 3 (t := VQ) (l := zFo) (i := zLE) (fo := 0) (cs := [bV true]) true (wn rfl) rfl rfl rfl rfl rfl zgy zYY rfl (fun u _ => ⟨u, trivial, rfl⟩) rfl zeX ?_
    have zkY : SlF zEf zR4.length zEa := by rw [zV3]; exact zTp
    refine Tr.sel (lf := [(3, sL zR zN zT), (4, sL zEf zR4 zEa), (5, sL zDy zBs zDk), (6, iv zDU), (7, sL zUn zPj zUJ), (8, iv zLE), (28, iv zLE), (29, bV (decide (0 ≤ zLE))), (37, sL zEf zR4 zEa), (38, iv zLE)]) (le := [(2, ow zR zT 87 za zN), (3, ow zEf zEa 4 VQ zR4), (22, ow zDy zDk 30 zS zBs), (23, ow zUn zUJ 87 za zPj)]) (.cons rfl (.cons (zAg rfl (by unfold sL; rw [zV3])) (.cons rfl (.cons rfl (.cons rfl (.cons rfl (.cons rfl (.cons rfl (.cons (zAg rfl (by unfold sL; rw [zV3])) (.cons rfl .nil)))))))))) (.cons rfl (.cons rfl (.cons rfl (.cons rfl .nil)))) ?_
    refine Tr.nil (Tr.zA (Tr.region (Tr.mv rfl rfl (Tr.mv rfl rfl (Tr.mv rfl rfl ?_)))))
    obtain ⟨zFJ, znV, H⟩ := bnd H
    obtain ⟨zgx, zgw, zgv⟩ := zO znV
    refine Tr.va rfl (fun _ _ a c => zD zO5 (a.ev rfl) QZ (a.ev rfl) zgx zgw) ?_
    refine Tr.va rfl (fun _ _ a c => ze (cs := [iv zFJ.from_.X, iv zFJ.from_.Y, iv zFJ.to_.X, iv zFJ.to_.Y]) zPH zGX (a.ev rfl) (zQ.take (rdo Va (k := 2) c rfl zgv) 4) rfl) ?_
    refine Tr.buildSlice 26 (e := 87) (vs := [(0, .agg #[iv zFJ.from_.X, iv zFJ.from_.Y, iv zFJ.to_.X, iv zFJ.to_.Y])]) (cs := [iv zFJ.from_.X, iv zFJ.from_.Y, iv zFJ.to_.X, iv zFJ.to_.Y]) (wn rfl) rfl (zi rfl Qh) (by kernel_rfl) fun zr0 => ?_
    obtain ⟨zfZ, zor, H⟩ := bnd H
    refine Tr.append 23 (t := za) (l := zPj) (l2 := [zFJ]) (wn rfl) rfl rfl rfl rfl (fun W hW => ⟨[[iv zFJ.from_.X, iv zFJ.from_.Y, iv zFJ.to_.X, iv zFJ.to_.Y]], (.cons ⟨(), trivial, rfl⟩ .nil), rdb hW (vs := [iv zFJ.from_.X, iv zFJ.from_.Y, iv zFJ.to_.X, iv zFJ.to_.Y]) (k := 26) rfl 0⟩) zH4 zGX zSr (by decide) zUV rfl zor fun zpz zpZ hAl685 => ?_
    refine Tr.asg rfl rfl (Tr.nil (Tr.zb (Tr.zA (Tr.region (Tr.mv rfl rfl (Tr.mv rfl rfl (Tr.mv rfl rfl (Tr.mv rfl rfl ?_))))))))
    obtain ⟨zU4, znU, H⟩ := bnd H
    obtain ⟨zgu, zgt, zgs⟩ := zO znU
    refine Tr.va rfl (fun _ _ a c => zD zO5 (a.ev rfl) QZ (a.ev rfl) zgu zgt) ?_
    refine Tr.va rfl (fun _ _ a c => ze (cs := [iv zU4.from_.X, iv zU4.from_.Y, iv zU4.to_.X, iv zU4.to_.Y]) zPH zGX (a.ev rfl) (zQ.take (rdo Va (k := 2) c rfl zgs) 4) rfl) ?_
    obtain ⟨zZG, zmQ, H⟩ := bnd H
    refine Tr.KV (r := (iv zZG)) (wn rfl) rfl Tryz.call52 (zI rfl (zI rfl (zI rfl zX))) (fun W hW => zG1 N zN zR zT (hW.zCo (k := 2) rfl) zR4 zEf zEa (hW.zCo (k := 3) rfl) zU4 zZG zmQ (HF.start _)) ?_
    exact Tr.asg rfl rfl (Tr.nil (Tr.zZ zJD (zR4, zfZ, zZG, zEf, zEa, zpz, zpZ) ⟨H, zkY, hAl685⟩ (.cons rfl (.cons rfl (.cons rfl (.cons rfl (.cons rfl (.cons rfl .nil)))))) (.cons rfl (.cons rfl (.cons rfl (.cons rfl .nil))))))
   ·refine Tr.exit (Tr.zP (Tr.zP (Tr.zl (Tr.zA (Tr.sr (Tr.mv rfl rfl ?_))))))
    obtain ⟨zC2, zmP, H⟩ := bnd H
    refine Tr.zAi [27] [emp] (U := (Option Addr × Nat)) (fun u => (sL u.1 zC2 u.2)) (fun u => SlF u.1 zC2.length u.2) (fun u => [ow u.1 u.2 33 zz zC2]) rfl (zn rfl zw) (fun _ => rfl) (wn rfl) rfl Tryz.call53 (zI rfl zX) (fun W hW hp hE => zFk N zPj zUn zUJ (hW.slS (k := 23) rfl hp rfl) zC2 zmP hE) ?_
    intro u hu
    obtain ⟨zB5, zB0⟩ := u
    have gy688_0 := hu
    have zOm : SlF zB5 zC2.length zB0 := gy688_0 --@phi
    show Tr _ _ (uf _ 48 (sL zB5 zC2 zB0)) (up _ 27 (ow zB5 zB0 33 zz zC2)) _
    refine Tr.asg rfl rfl (Tr.nil (Tr.zA (Tr.sr (Tr.mv rfl rfl (Tr.va rfl (fun _ _ a c => zf zDX (a.ev rfl)) ?_)))))
    refine Tr.asg rfl rfl (Tr.nil (Tr.zA (Tr.seq (Tr.block (Tr.loop (σ := Int) (fun m w s => Qu zBs zDU (zt N zN mL5) zFo zC2 m s = some r) (fun s => [(3, sL zR zN zT), (4, sL zEf zFo zEa), (5, sL zDy zBs zDk), (6, iv zDU), (9, sL zB5 zC2 zB0), (10, iv s)]) (fun s => [(2, ow zR zT 87 za zN), (3, ow zEf zEa 4 VQ zFo), (22, ow zDy zDk 30 zS zBs), (27, ow zB5 zB0 33 zz zC2)]) N (zBs.length : Int) H (.cons rfl (.cons rfl (.cons rfl (.cons rfl (.cons rfl (.cons rfl .nil)))))) (.cons rfl (.cons rfl (.cons rfl (.cons rfl .nil)))) (fun _ _ h => KG (h)) ?_)))))
    intro w zHt mL7 zJa hs
    have H := hs
    replace H : Qu zBs zDU (zt N zN mL5) zFo zC2 (mL7 + 1) zJa = some r := H
    replace zC8 := zC8.trans zHt
    rw [Qu.eq_2] at H
    show Tr _ _ (LF [(3, sL zR zN zT), (4, sL zEf zFo zEa), (5, sL zDy zBs zDk), (6, iv zDU), (9, sL zB5 zC2 zB0), (10, iv zJa)]) (LE [(2, ow zR zT 87 za zN), (3, ow zEf zEa 4 VQ zFo), (22, ow zDy zDk 30 zS zBs), (27, ow zB5 zB0 33 zz zC2)]) _
    refine Tr.seq (Tr.seq (Tr.draw (by kernel_rfl) (by kernel_rfl) ?_))
    refine Tq.mv rfl rfl (Tq.va rfl (fun _ _ a c => Wx (a.ev rfl) (a.ev rfl)) ?_)
    refine Tq.mv rfl rfl ?_
    obtain ⟨zkh, zQe, H⟩ := bnd H
    refine Tq.mid 38 [(3, sL zR zN zT), (4, sL zEf zFo zEa), (5, sL zDy zBs zDk), (6, iv zDU), (9, sL zB5 zC2 zB0), (10, iv zJa), (91, bV zkh)] ?_ ?_
    ·cases zeh : (decide (0 < zJa))
     ·rw [zeh] at zQe
      rw [if_neg (by decide)] at zQe
      have H := zQe
      obtain rfl := oI H
      refine Tq.pass rfl rfl rfl rfl rfl (by decide) ?_
      refine Tq.pass rfl rfl rfl rfl rfl (by decide) ?_
      refine Tq.pass rfl rfl rfl rfl rfl (by decide) ?_
      refine Tq.pass rfl rfl rfl rfl rfl (by decide) ?_
      refine Tq.pass rfl rfl rfl rfl rfl (by decide) ?_
      refine Tq.pass rfl rfl rfl rfl rfl (by decide) ?_
      refine Tq.pass rfl rfl rfl rfl rfl (by decide) ?_
      refine Tq.pass rfl rfl rfl rfl rfl (by decide) ?_
      refine Tq.pass rfl rfl rfl rfl rfl (by decide) ?_
      refine Tq.pass rfl rfl rfl rfl rfl (by decide) ?_
      refine Tq.pass rfl rfl rfl rfl rfl (by decide) ?_
      refine Tq.pass rfl rfl rfl rfl rfl (by decide) ?_
      refine Tq.KJ rfl rfl rfl rfl (by decide) ?_
      refine Tq.KJ rfl rfl rfl rfl (by decide) ?_
      refine Tq.KJ rfl rfl rfl rfl (by decide) ?_
      refine Tq.KJ rfl rfl rfl rfl (by decide) ?_
      refine Tq.KJ rfl rfl rfl rfl (by decide) ?_
      refine Tq.KJ rfl rfl rfl rfl (by decide) ?_
      refine Tq.KJ rfl rfl rfl rfl (by decide) ?_
      refine Tq.KJ rfl rfl rfl rfl (by decide) ?_
      refine Tq.KJ rfl rfl rfl rfl (by decide) ?_
      refine Tq.KJ rfl rfl rfl rfl (by decide) ?_
      refine Tq.KJ rfl rfl rfl rfl (by decide) ?_
      refine Tq.KJ rfl rfl rfl rfl (by decide) ?_
      refine Tq.KJ rfl rfl rfl rfl (by decide) ?_
      refine Tq.KJ rfl rfl rfl rfl (by decide) ?_
      refine Tq.KJ rfl rfl rfl rfl (by decide) ?_
      refine Tq.KJ rfl rfl rfl rfl (by decide) ?_
      refine Tq.KJ rfl rfl rfl rfl (by decide) ?_
      refine Tq.KJ rfl rfl rfl rfl (by decide) ?_
      refine Tq.KJ rfl rfl rfl rfl (by decide) ?_
      refine Tq.KJ rfl rfl rfl rfl (by decide) ?_
      refine Tq.KJ rfl rfl rfl rfl (by decide) ?_
      refine Tq.KJ rfl rfl rfl rfl (by decide) ?_
      refine Tq.KJ rfl rfl rfl rfl (by decide) ?_
      refine Tq.KJ rfl rfl rfl rfl (by decide) ?_
      refine Tq.pass rfl rfl rfl rfl rfl (by decide) ?_
      refine Tq.va rfl (fun _ _ a c => zy (a.ev rfl) (a.ev rfl)) ?_
      exact Tq.fin (.cons rfl (.cons rfl (.cons rfl (.cons rfl (.cons rfl (.cons rfl (.cons rfl .nil)))))))
     ·rw [zeh] at zQe
      rw [if_pos rfl] at zQe
      have H := zQe
      refine Tq.val (wg rfl rfl rfl) rfl (fun _ _ a c => run_move (a.ev rfl)) ?_
      obtain ⟨zZM, znT, H⟩ := bnd H
      obtain ⟨zgr, zgq, zgp⟩ := zO znT
      refine Tq.val (wg rfl rfl rfl) rfl (fun _ _ a c => zD zAh (a.ev rfl) zOm (a.ev rfl) zgr zgq) ?_
      refine Tq.val (wg rfl rfl rfl) rfl (fun _ _ a c => ze (cs := [iv zZM.X, iv zZM.Y]) WP KI (a.ev rfl) (zQ.take (rdo Jb (k := 27) c rfl zgp) 2) rfl) ?_
      refine Tq.val (wg rfl rfl rfl) rfl (fun _ _ a c => run_move (a.ev rfl)) ?_
      refine Tq.val (wg rfl rfl rfl) rfl (fun _ _ a c => run_move (a.ev rfl)) ?_
      refine Tq.val (wg rfl rfl rfl) rfl (fun _ _ a c => Jn (a.ev rfl) (a.ev rfl)) ?_
      obtain ⟨zU3, znS, H⟩ := bnd H
      obtain ⟨zgo, zgn, zgm⟩ := zO znS
      refine Tq.val (wg rfl rfl rfl) rfl (fun _ _ a c => zD zCl (a.ev rfl) zL4 (a.ev rfl) zgo zgn) ?_
      refine Tq.zRf (U := (zS).Ad) (fun u => (zS).ok w.O w.W u zU3) (fun u => (sL u.1 zU3 u.2)) (wg rfl rfl rfl) rfl (ldN (κ := 22) (t := zS) (V := fun u => (sL u.1 zU3 u.2)) rfl zgm (fun _ _ u a hc => zC zDJ (a.ev rfl) hc rfl)) ?_
      intro zqp zc4
      obtain ⟨zX7, zXk⟩ := zqp
      have zIq := zc4
      replace zIq : Sl w.O w.W zz zX7 zXk zU3 := zIq
      show Tq _ _ _ _ (uf _ 61 (sL zX7 zU3 zXk)) _ _ _
      obtain ⟨zZL, znR, H⟩ := bnd H
      obtain ⟨zgl, zgk, zgj⟩ := zO znR
      refine Tq.val (wg rfl rfl rfl) rfl (fun _ _ a c => zD zAh (a.ev rfl) zIq.form (a.ev rfl) zgl zgk) ?_
      refine Tq.val (wg rfl rfl rfl) rfl (fun _ _ a c => ze (cs := [iv zZL.X, iv zZL.Y]) WP KI (a.ev rfl) (zQ.take (rdF Jb (zIq.rl) zgj c) 2) rfl) ?_
      obtain ⟨zZF, zmO, H⟩ := bnd H
      refine Tq.KV (r := (bV zZF)) (wg rfl rfl rfl) rfl Tryz.call54 (zI rfl (zI rfl zX)) (fun W hW => zBo zZM zZL zZF zmO (HF.start _)) ?_
      refine Tq.val (wg rfl rfl rfl) rfl (fun _ _ a c => run_move (a.ev rfl)) ?_
      obtain ⟨zkg, zQd, H⟩ := bnd H
      refine Tq.mid 25 [(3, sL zR zN zT), (4, sL zEf zFo zEa), (5, sL zDy zBs zDk), (6, iv zDU), (9, sL zB5 zC2 zB0), (10, iv zJa), (53, bV true), (90, bV zkg)] ?_ ?_
      ·cases zT0 : zZF
       ·rw [zT0] at zQd
        rw [if_neg (by decide)] at zQd
        have H := zQd
        refine Tq.val (wg rfl rfl rfl) rfl (fun _ _ a c => run_move (a.ev rfl)) ?_
        obtain ⟨zYP, znQ, H⟩ := bnd H
        obtain ⟨zgi, zgh, zgg⟩ := zO znQ
        refine Tq.val (wg rfl rfl rfl) rfl (fun _ _ a c => zD zAh (a.ev rfl) zOm (a.ev rfl) zgi zgh) ?_
        refine Tq.val (wg rfl rfl rfl) rfl (fun _ _ a c => ze (cs := [iv zYP.X, iv zYP.Y]) WP KI (a.ev rfl) (zQ.take (rdo Jb (k := 27) c rfl zgg) 2) rfl) ?_
        refine Tq.val (wg rfl rfl rfl) rfl (fun _ _ a c => run_move (a.ev rfl)) ?_
        refine Tq.val (wg rfl rfl rfl) rfl (fun _ _ a c => run_move (a.ev rfl)) ?_
        refine Tq.val (wg rfl rfl rfl) rfl (fun _ _ a c => Jn (a.ev rfl) (a.ev rfl)) ?_
        obtain ⟨zU2, znP, H⟩ := bnd H
        obtain ⟨zgf, zge, zgd⟩ := zO znP
        refine Tq.val (wg rfl rfl rfl) rfl (fun _ _ a c => zD zCl (a.ev rfl) zL4 (a.ev rfl) zgf zge) ?_
        refine Tq.zRf (U := (zS).Ad) (fun u => (zS).ok w.O w.W u zU2) (fun u => (sL u.1 zU2 u.2)) (wg rfl rfl rfl) rfl (ldN (κ := 22) (t := zS) (V := fun u => (sL u.1 zU2 u.2)) rfl zgd (fun _ _ u a hc => zC zDJ (a.ev rfl) hc rfl)) ?_
        intro zqo zc3
        obtain ⟨zX6, zXj⟩ := zqo
        have zIp := zc3
        replace zIp : Sl w.O w.W zz zX6 zXj zU2 := zIp
        show Tq _ _ _ _ (uf _ 73 (sL zX6 zU2 zXj)) _ _ _
        obtain ⟨zYO, znO, H⟩ := bnd H
        obtain ⟨zgc, zgb, zga⟩ := zO znO
        refine Tq.val (wg rfl rfl rfl) rfl (fun _ _ a c => zD zAh (a.ev rfl) zIp.form (a.ev rfl) zgc zgb) ?_
        refine Tq.val (wg rfl rfl rfl) rfl (fun _ _ a c => ze (cs := [iv zYO.X, iv zYO.Y]) WP KI (a.ev rfl) (zQ.take (rdF Jb (zIp.rl) zga c) 2) rfl) ?_
        refine Tq.val (wg rfl rfl rfl) rfl (fun _ _ a c => zHB zYP zYO (a.ev rfl) (a.ev rfl)) ?_
        refine Tq.val (wg rfl rfl rfl) rfl (fun _ _ a c => run_move (a.ev rfl)) ?_
        obtain ⟨zkf, zQc, H⟩ := bnd H
        refine Tq.mid 12 [(3, sL zR zN zT), (4, sL zEf zFo zEa), (5, sL zDy zBs zDk), (6, iv zDU), (9, sL zB5 zC2 zB0), (10, iv zJa), (53, bV true), (65, bV false), (89, bV zkf)] ?_ ?_
        ·cases zT0 : (Vo zYP zYO)
         ·rw [zT0] at zQc
          rw [if_neg (by decide)] at zQc
          have H := zQc
          obtain rfl := oI H
          refine Tq.pass rfl rfl rfl rfl rfl (by decide) ?_
          refine Tq.pass rfl rfl rfl rfl rfl (by decide) ?_
          refine Tq.pass rfl rfl rfl rfl rfl (by decide) ?_
          refine Tq.pass rfl rfl rfl rfl rfl (by decide) ?_
          refine Tq.pass rfl rfl rfl rfl rfl (by decide) ?_
          refine Tq.pass rfl rfl rfl rfl rfl (by decide) ?_
          refine Tq.pass rfl rfl rfl rfl rfl (by decide) ?_
          refine Tq.pass rfl rfl rfl rfl rfl (by decide) ?_
          refine Tq.pass rfl rfl rfl rfl rfl (by decide) ?_
          refine Tq.pass rfl rfl rfl rfl rfl (by decide) ?_
          refine Tq.pass rfl rfl rfl rfl rfl (by decide) ?_
          refine Tq.val (wg rfl rfl rfl) rfl (fun _ _ a c => zy (a.ev rfl) (a.ev rfl)) ?_
          exact Tq.fin (.cons rfl (.cons rfl (.cons rfl (.cons rfl (.cons rfl (.cons rfl (.cons rfl (.cons rfl (.cons rfl .nil)))))))))
         ·rw [zT0] at zQc
          rw [if_pos rfl] at zQc
          have H := zQc
          refine Tq.val (wg rfl rfl rfl) rfl (fun _ _ a c => run_move (a.ev rfl)) ?_
          refine Tq.val (wg rfl rfl rfl) rfl (fun _ _ a c => run_move (a.ev rfl)) ?_
          refine Tq.val (wg rfl rfl rfl) rfl (fun _ _ a c => Jn (a.ev rfl) (a.ev rfl)) ?_
          obtain ⟨zU1, znN, H⟩ := bnd H
          obtain ⟨zgZ, zgY, zgX⟩ := zO znN
          refine Tq.val (wg rfl rfl rfl) rfl (fun _ _ a c => zD zCl (a.ev rfl) zL4 (a.ev rfl) zgZ zgY) ?_
          refine Tq.zRf (U := (zS).Ad) (fun u => (zS).ok w.O w.W u zU1) (fun u => (sL u.1 zU1 u.2)) (wg rfl rfl rfl) rfl (ldN (κ := 22) (t := zS) (V := fun u => (sL u.1 zU1 u.2)) rfl zgX (fun _ _ u a hc => zC zDJ (a.ev rfl) hc rfl)) ?_
          intro zqn zc2
          obtain ⟨zX5, zXi⟩ := zqn
          have zIo := zc2
          replace zIo : Sl w.O w.W zz zX5 zXi zU1 := zIo
          show Tq _ _ _ _ (uf _ 82 (sL zX5 zU1 zXi)) _ _ _
          obtain ⟨zZK, znM, H⟩ := bnd H
          obtain ⟨zgW, zgV, zgU⟩ := zO znM
          refine Tq.val (wg rfl rfl rfl) rfl (fun _ _ a c => zD zAh (a.ev rfl) zIo.form (a.ev rfl) zgW zgV) ?_
          refine Tq.val (wg rfl rfl rfl) rfl (fun _ _ a c => ze (cs := [iv zZK.X, iv zZK.Y]) WP KI (a.ev rfl) (zQ.take (rdF Jb (zIo.rl) zgU c) 2) rfl) ?_
          refine Tq.val (wg rfl rfl rfl) rfl (fun _ _ a c => run_move (a.ev rfl)) ?_
          obtain ⟨zZJ, znL, H⟩ := bnd H
          obtain ⟨zgT, zgS, zgR⟩ := zO znL
          refine Tq.val (wg rfl rfl rfl) rfl (fun _ _ a c => zD zAh (a.ev rfl) zOm (a.ev rfl) zgT zgS) ?_
          refine Tq.val (wg rfl rfl rfl) rfl (fun _ _ a c => ze (cs := [iv zZJ.X, iv zZJ.Y]) WP KI (a.ev rfl) (zQ.take (rdo Jb (k := 27) c rfl zgR) 2) rfl) ?_
          obtain ⟨zcC, zmN, H⟩ := bnd H
          refine Tq.KV (r := (bV zcC)) (wg rfl rfl rfl) rfl Tryz.call54 (zI rfl (zI rfl zX)) (fun W hW => zBo zZK zZJ zcC zmN (HF.start _)) ?_
          refine Tq.val (wg rfl rfl rfl) rfl (fun _ _ a c => zx (a.ev rfl) (a.ev rfl)) ?_
          obtain rfl := oI H
          exact Tq.fin (.cons rfl (.cons rfl (.cons rfl (.cons rfl (.cons rfl (.cons rfl (.cons rfl (.cons rfl (.cons rfl .nil)))))))))
        ·refine Tq.val (wg rfl rfl rfl) rfl (fun _ _ a c => zy (a.ev rfl) (a.ev rfl)) ?_
         obtain rfl := oI H
         exact Tq.fin (.cons rfl (.cons rfl (.cons rfl (.cons rfl (.cons rfl (.cons rfl (.cons rfl (.cons rfl .nil))))))))
       ·rw [zT0] at zQd
        rw [if_pos rfl] at zQd
        have H := zQd
        obtain rfl := oI H
        refine Tq.pass rfl rfl rfl rfl rfl (by decide) ?_
        refine Tq.pass rfl rfl rfl rfl rfl (by decide) ?_
        refine Tq.pass rfl rfl rfl rfl rfl (by decide) ?_
        refine Tq.pass rfl rfl rfl rfl rfl (by decide) ?_
        refine Tq.pass rfl rfl rfl rfl rfl (by decide) ?_
        refine Tq.pass rfl rfl rfl rfl rfl (by decide) ?_
        refine Tq.pass rfl rfl rfl rfl rfl (by decide) ?_
        refine Tq.pass rfl rfl rfl rfl rfl (by decide) ?_
        refine Tq.pass rfl rfl rfl rfl rfl (by decide) ?_
        refine Tq.pass rfl rfl rfl rfl rfl (by decide) ?_
        refine Tq.pass rfl rfl rfl rfl rfl (by decide) ?_
        refine Tq.pass rfl rfl rfl rfl rfl (by decide) ?_
        refine Tq.KJ rfl rfl rfl rfl (by decide) ?_
        refine Tq.KJ rfl rfl rfl rfl (by decide) ?_
        refine Tq.KJ rfl rfl rfl rfl (by decide) ?_
        refine Tq.KJ rfl rfl rfl rfl (by decide) ?_
        refine Tq.KJ rfl rfl rfl rfl (by decide) ?_
        refine Tq.KJ rfl rfl rfl rfl (by decide) ?_
        refine Tq.KJ rfl rfl rfl rfl (by decide) ?_
        refine Tq.KJ rfl rfl rfl rfl (by decide) ?_
        refine Tq.KJ rfl rfl rfl rfl (by decide) ?_
        refine Tq.KJ rfl rfl rfl rfl (by decide) ?_
        refine Tq.KJ rfl rfl rfl rfl (by decide) ?_
        refine Tq.pass rfl rfl rfl rfl rfl (by decide) ?_
        refine Tq.val (wg rfl rfl rfl) rfl (fun _ _ a c => zx (a.ev rfl) (a.ev rfl)) ?_
        exact Tq.fin (.cons rfl (.cons rfl (.cons rfl (.cons rfl (.cons rfl (.cons rfl (.cons rfl (.cons rfl .nil))))))))
      ·refine Tq.va rfl (fun _ _ a c => zx (a.ev rfl) (a.ev rfl)) ?_
       obtain rfl := oI H
       exact Tq.fin (.cons rfl (.cons rfl (.cons rfl (.cons rfl (.cons rfl (.cons rfl (.cons rfl .nil)))))))
    ·refine Tq.nil (Tr.zA (Tr.cond rfl H (fun H => ?_) (fun H => ?_)))
     ·refine Tr.skip (Tr.zA (Tr.block (Tr.region (Tr.mv rfl rfl (Tr.va rfl (fun _ _ a c => Jn (a.ev rfl) (a.ev rfl)) ?_)))))
      exact Tr.asg rfl rfl (Tr.nil (Tr.zb (Tr.zZ zHt (w64 (zJa - 1)) H (.cons rfl (.cons rfl (.cons rfl (.cons rfl (.cons rfl (.cons rfl .nil)))))) (.cons rfl (.cons rfl (.cons rfl (.cons rfl .nil)))))))
     ·refine Tr.exit (Tr.zP (Tr.zP (Tr.zl (Tr.zA (Tr.sr (Tr.asg rfl rfl (Tr.Qb 28 30 zS ?_)))))))
      show Tr _ _ (uf _ 11 (sL none (([] : List (List zG))) 0)) _ _
      refine Tr.nil (Tr.zA (Tr.sr (Tr.mv rfl rfl (Tr.mv rfl rfl (Tr.mv rfl rfl ?_)))))
      obtain ⟨zZ3, zeW, H⟩ := bnd H
      refine Tr.va rfl (fun _ _ a c => zG9 zCl (a.ev rfl) zL4 (a.ev rfl) zeW) ?_
      refine Tr.freeze 22 rfl fun w zlz zTd => ?_
      replace zC8 := zC8.trans zlz
      obtain ⟨zZ2, zoq, H⟩ := bnd H
      refine Tr.zDp 28 (t := zS) (l := ([] : List (List zG))) (l2 := zZ3) (wn rfl) rfl rfl rfl rfl (apO (Sl.pre zTd zeW)) zDX zWe zWY (by decide) zX1 rfl zoq fun zrq zrh hAl916 => ?_
      refine Tr.asg rfl rfl (Tr.nil (Tr.zA (Tr.sr (Tr.mv rfl rfl (Tr.mv rfl rfl (Tr.freeze 27 rfl fun w zeI zmC => ?_))))))
      replace zTd := zTd.le zeI
      replace zC8 := zC8.trans zeI
      refine Tr.buildSlice 29 (e := 30) (vs := [(0, sL zB5 zC2 zB0)]) (cs := [sL zB5 zC2 zB0]) (wn rfl) rfl (zi rfl Qh) (by kernel_rfl) fun zrz => ?_
      obtain ⟨zZ1, zop, H⟩ := bnd H
      refine Tr.append 28 (t := zS) (l := zZ2) (l2 := [zC2]) (wn rfl) rfl rfl rfl rfl (fun W hW => ⟨[[sL zB5 zC2 zB0]], (.cons ⟨(zB5, zB0), zmC, rfl⟩ .nil), rdb hW (vs := [sL zB5 zC2 zB0]) (k := 29) rfl 0⟩) zDX zWe zWY (by decide) zX1 rfl zop fun zrp zrg hAl920 => ?_
      refine Tr.asg rfl rfl (Tr.nil (Tr.zA (Tr.region (Tr.mv rfl rfl (Tr.mv rfl rfl (Tr.mv rfl rfl ?_))))))
      obtain ⟨zZ0, zeV, H⟩ := bnd H
      refine Tr.va rfl (fun _ _ a c => zDa zCl (a.ev rfl) zTd.form (a.ev rfl) zeV) ?_
      obtain ⟨zZz, zoo, H⟩ := bnd H
      refine Tr.zDp 28 (t := zS) (l := zZ1) (l2 := zZ0) (wn rfl) rfl rfl rfl rfl (apO (Sl.cut zTd zeV)) zDX zWe zWY (by decide) zX1 rfl zoo fun zpy zpY hAl922 => ?_
      refine Tr.asg rfl rfl (Tr.nil (Tr.zb (Tr.zA (Tr.region (Tr.mv rfl rfl (Tr.va rfl (fun _ _ a c => zg (a.ev rfl) (a.ev rfl)) ?_))))))
      refine Tr.asg rfl rfl (Tr.nil (Tr.ren 28 22 rfl rfl rfl ?_))
      exact Tr.zZ zC8 (zFo, zZz, (w64 (zDU + 1)), zEf, zEa, zpy, zpY) ⟨H, zTp, hAl922⟩ (.cons rfl (.cons rfl (.cons rfl (.cons rfl .nil)))) (.cons rfl (.cons rfl (.cons rfl .nil)))
 ·refine Tr.exit (Tr.zP (Tr.zP (Tr.zl (Tr.zA (Tr.sr (Tr.mv rfl rfl (Tr.asg rfl rfl (Tr.nil (Tr.zA (Tr.ret ?_))))))))))
  obtain rfl := oI H
  exact Tr.out (m := [sL zDy zBs zDk]) [] (zU rfl zY) (fun W hW => ⟨w, (zDy, zDk), leB, rfl, zL4, hW.pick (ks := [22]) (by decide) (zn rfl zw)⟩)

theorem zE9 (N : Nat) {w : Bs} (p0 : (List zJ)) (zF : Option Addr) (zH : Nat) (zK : Sl w.R w.W zL zF zH p0) (r : ((List (List zG)) × Int)) (H : WM N p0 = some r) (hE : HF w w.W (LEn [emp])) : Calls Tryz.prog 5 [sL zF p0 zH].toArray w.W fun e W' => ∃ (w' : Bs) (u : (Option Addr × Nat)), w.Le w' ∧ e = .returned (.tuple #[sL u.1 r.1 u.2, iv r.2]) ∧ (SlF u.1 r.1.length u.2) ∧ HF w' W' (LEn [ow u.1 u.2 30 zS r.1]) := by
 unfold WM at H
 have leB := Bs.Le.refl w
 refine Tr.enter (n := 31) Tryz.func5 rfl rfl rfl hE ?_
 refine Tr.sr (Tr.asg rfl rfl (Tr.Qb 1 30 zS ?_))
 show Tr _ _ (uf _ 2 (sL none (([] : List (List zG))) 0)) _ _
 refine Tr.asg rfl rfl (Tr.nil (Tr.zA (Tr.seq (Tr.sr (Tr.mv rfl rfl ?_)))))
 obtain ⟨zN, zAQ, H⟩ := bnd H
 refine Tr.KV (r := (iv zN)) (wn rfl) rfl Tryz.call15 (zI rfl zX) (fun W hW => zEL N p0 zF zH (zK.ext hW.Ky) zN zAQ (HF.start _)) ?_
 refine Tr.asg rfl rfl (Tr.nil (Tr.zA (Tr.sr (Tr.mv rfl rfl (Tr.va rfl (fun _ _ a c => zCi (a.ev rfl) (a.ev rfl)) ?_)))))
 refine Tr.nil (Tr.zA (Tr.cond rfl H (fun H => ?_) (fun H => ?_)))
 ·refine Tr.sr (Tr.mv rfl rfl (Tr.asg rfl rfl (Tr.Qb 2 30 zS ?_)))
  show Tr _ _ (uf _ 2 (sL none (([] : List (List zG))) 0)) _ _
  refine Tr.asg rfl rfl (Tr.nil (Tr.zA (Tr.ret (Tr.zq ?_))))
  obtain rfl := oI H
  exact Tr.out (m := [sL none (([] : List (List zG))) 0, iv zN]) [] (zU rfl (zU rfl zY)) (fun W hW => ⟨w, (none, 0), leB, rfl, Jm, hW.pick (ks := [2]) (by decide) (zn rfl zw)⟩)
 ·refine Tr.skip (Tr.zA (Tr.sr (Tr.mv rfl rfl ?_)))
  obtain ⟨y101, hy101, H⟩ := bnd H
  refine Tr.zCe [3] [emp] (U := (Option Addr × Nat)) (fun u => (sL u.1 y101 u.2)) (fun O W u => SlF u.1 y101.length u.2) (fun u => [ow u.1 u.2 30 zS y101]) rfl (zn rfl zw) (fun _ => rfl) (wn rfl) rfl Tryz.call16 (zI rfl zX) (fun W hW hp hE => zEd N p0 zF zH (zK.ext (hW.zCA hp)) y101 hy101 hE) ?_
  intro w u zZy hu
  obtain ⟨zAa, zAV⟩ := u
  have gy101_0 := hu
  replace leB := leB.trans zZy
  have zIL : SlF zAa y101.length zAV := gy101_0 --@phi
  show Tr _ _ (uf _ 14 (sL zAa y101 zAV)) (up _ 3 (ow zAa zAV 30 zS y101)) _
  refine Tr.asg rfl rfl (Tr.nil (Tr.zA (Tr.sr (Tr.asg rfl rfl (Tr.nil (Tr.zA (Tr.seq (Tr.sr (Tr.asg rfl rfl (Tr.nil (Tr.zA ?_)))))))))))
  refine Tr.block (Tr.loop (σ := Int × Int) (fun m w s => JW y101 m s.1 s.2 = some r) (fun s => [(5, sL zAa y101 zAV), (6, iv s.1), (7, iv s.2)]) (fun s => [(3, ow zAa zAV 30 zS y101)]) N (0, 0) H (.cons rfl (.cons rfl (.cons rfl .nil))) (.cons rfl .nil) (fun _ _ h => KG (h)) ?_)
  intro w QI mL1 s hs
  obtain ⟨x113, x114⟩ := s
  have H := hs
  replace H : JW y101 (mL1 + 1) x113 x114 = some r := H
  replace leB := leB.trans QI
  rw [JW.eq_2] at H
  show Tr _ _ (LF [(5, sL zAa y101 zAV), (6, iv x113), (7, iv x114)]) (LE [(3, ow zAa zAV 30 zS y101)]) _
  refine Tr.seq (Tr.sr (Tr.mv rfl rfl (Tr.mv rfl rfl (Tr.va rfl (fun _ _ a c => zf zDX (a.ev rfl)) ?_))))
  refine Tr.va rfl (fun _ _ a c => zh (a.ev rfl) (a.ev rfl)) ?_
  refine Tr.nil (Tr.zA (Tr.cond rfl H (fun H => ?_) (fun H => ?_)))
  ·refine Tr.skip (Tr.zA (Tr.seq (Tr.block (Tr.region (Tr.mv rfl rfl (Tr.mv rfl rfl (Tr.mv rfl rfl ?_)))))))
   obtain ⟨x115, hx115, H⟩ := bnd H
   obtain ⟨zOb, zOa, zOZ⟩ := zO hx115
   refine Tr.va rfl (fun _ _ a c => zD zCl (a.ev rfl) zIL (a.ev rfl) zOb zOa) ?_
   refine Tr.zRf (U := (zS).Ad) (fun u => (zS).ok w.O w.W u x115) (fun u => (sL u.1 x115 u.2)) (wn rfl) rfl (ldN (κ := 3) (t := zS) (V := fun u => (sL u.1 x115 u.2)) rfl zOZ (fun _ _ u a hc => zC zDJ (a.ev rfl) hc rfl)) ?_
   intro zfA zSC
   obtain ⟨zSq, zSY⟩ := zfA
   have zYt := zSC
   show Tr _ _ (uf _ 25 (sL zSq x115 zSY)) _ _
   refine Tr.va rfl (fun _ _ a c => zf zBI (a.ev rfl)) ?_
   refine Tr.va rfl (fun _ _ a c => zg (a.ev rfl) (a.ev rfl)) ?_
   refine Tr.asg rfl rfl (Tr.nil (Tr.zb (Tr.zA (Tr.region (Tr.mv rfl rfl (Tr.va rfl (fun _ _ a c => zg (a.ev rfl) (a.ev rfl)) ?_))))))
   exact Tr.asg rfl rfl (Tr.nil (Tr.zZ QI ((w64 (x113 + (x115.length : Int))), (w64 (x114 + 1))) H (.cons rfl (.cons rfl (.cons rfl .nil))) (.cons rfl .nil)))
  ·refine Tr.exit (Tr.zP (Tr.zP (Tr.zl (Tr.zA (Tr.seq (Tr.sr (Tr.mv rfl rfl (Tr.va rfl (fun _ _ a c => Wx (a.ev rfl) (a.ev rfl)) ?_))))))))
   refine Tr.nil (Tr.zA (Tr.cond rfl H (fun H => ?_) (fun H => ?_)))
   ·refine Tr.sr (Tr.asg rfl rfl (Tr.Qb 4 30 zS ?_))
    show Tr _ _ (uf _ 2 (sL none (([] : List (List zG))) 0)) _ _
    refine Tr.asg rfl rfl (Tr.nil (Tr.zA (Tr.ret (Tr.zq ?_))))
    obtain rfl := oI H
    exact Tr.out (m := [sL none (([] : List (List zG))) 0, iv 2]) [] (zU rfl (zU rfl zY)) (fun W hW => ⟨w, (none, 0), leB, rfl, Jm, hW.pick (ks := [4]) (by decide) (zn rfl zw)⟩)
   ·refine Tr.skip (Tr.zA (Tr.sr (Tr.mv rfl rfl (Tr.asg rfl rfl (Tr.asg rfl rfl (Tr.nil (Tr.zA (Tr.ret ?_))))))))
    obtain rfl := oI H
    exact Tr.out (m := [sL zAa y101 zAV, iv 0]) [] (zU rfl (zU rfl zY)) (fun W hW => ⟨w, (zAa, zAV), leB, rfl, zIL, hW.pick (ks := [3]) (by decide) (zn rfl zw)⟩)

theorem zE6 {w : Bs} (p0 : (List zG)) (zF : Option Addr) (zH : Nat) (zK : Sl w.R w.W zz zF zH p0) (p1 : zG → Option Bool) (fid1 : Nat) (cap1 : List Value) (hg1 : ∀ args W, (callFunc fid1 args).run Tryz.prog W = .ok (.enter fid1 args) W) (hf1 : ∀ (w' : Bs), w.Ext w' → ∀ (z0 : zG), ∀ y, p1 z0 = some y → Calls Tryz.prog fid1 (([.agg #[iv z0.X, iv z0.Y]] : List Value) ++ cap1).toArray w'.W fun e W'' => e = .returned (bV y) ∧ HF w' W'' E0) (r : Int) (H : zAM p0 p1 = some r) (hE : HF w w.W E0) : Calls Tryz.prog 55 [sL zF p0 zH, .func (.func fid1) #[] cap1.toArray].toArray w.W fun e W' => e = .returned (iv r) ∧ HF w W' E0 := by
 unfold zAM at H
 have leB := Bs.Le.refl w
 refine Tr.enter (n := 19) Tryz.func55 rfl rfl rfl hE ?_
 refine Tr.sr (Tr.asg rfl rfl (Tr.nil (Tr.zA (Tr.seq (Tr.sr (Tr.mv rfl rfl (Tr.va rfl (fun _ _ a c => zf zBI (a.ev rfl)) ?_)))))))
 refine Tr.mv rfl rfl (Tr.nil (Tr.zA (Tr.block (Tr.loop (σ := (List zG) × Nat) (fun m w s => m = s.1.length + 1 ∧ s.1 = List.drop s.2 p0 ∧ s.2 ≤ p0.length ∧ JU p1 s.1 s.2 = some r) (fun s => [(0, sL zF p0 zH), (1, .func (.func fid1) #[] cap1.toArray), (7, iv (p0.length : Int)), (8, iv (s.2 : Int))]) (fun s => []) (p0.length + 1) (p0, 0) ⟨rfl, rfl, Nat.zero_le _, H⟩ (.cons rfl (.cons rfl (.cons rfl (.cons rfl .nil)))) .nil (fun _ _ h => absurd h.1 (by simp)) ?_))))
 intro w QI m s hs
 obtain ⟨zV, iL1⟩ := s
 obtain ⟨Vn, QK, hiL1, H⟩ := hs
 replace QK : zV = List.drop iL1 p0 := QK
 replace H : JU p1 zV iL1 = some r := H
 replace Vn : m + 1 = zV.length + 1 := Vn
 replace zK := zK.leR QI
 replace hf1 := fun w' he => hf1 w' (QI.ext.trans he)
 replace leB := leB.trans QI
 obtain rfl : m = zV.length := by omega
 clear Vn
 show Tr _ _ (LF [(0, sL zF p0 zH), (1, .func (.func fid1) #[] cap1.toArray), (7, iv (p0.length : Int)), (8, iv (iL1 : Int))]) (LE []) _
 cases zV with
 | nil =>
  rw [JU.eq_1] at H
  refine Tr.sr (Tr.va rfl (fun _ _ a c => zh (a.ev rfl) (a.ev rfl)) ?_)
  refine Tr.nil (Tr.zA (Tr.seq (Tr.zBN rfl (KF QK) ?_)))
  refine Tr.exit (Tr.zP (Tr.zP (Tr.zl (Tr.zA (Tr.sr (Tr.asg rfl rfl (Tr.nil (Tr.zA (Tr.ret ?_)))))))))
  obtain rfl := oI H
  exact Tr.out (m := [iv (-1)]) [] (zU rfl zY) (fun W hW => ⟨rfl, hW.low leB⟩)
 | cons xL1 zV =>
  rw [JU.eq_2] at H
  refine Tr.sr (Tr.va rfl (fun _ _ a c => zh (a.ev rfl) (a.ev rfl)) ?_)
  refine Tr.nil (Tr.zA (Tr.seq (Tr.zBM rfl (VD QK) ?_)))
  refine Tr.skip (Tr.zA (Tr.seq (Tr.block (Tr.sr (Tr.mv rfl rfl (Tr.asg rfl rfl (Tr.nil (Tr.zA (Tr.sr (Tr.mv rfl rfl ?_))))))))))
  refine Tr.mv rfl rfl (Tr.mv rfl rfl (Tr.va rfl (fun _ _ a c => zD zAh (a.ev rfl) zK.form (a.ev rfl) (Int.natCast_nonneg _) (QF QK)) ?_))
  refine Tr.va rfl (fun _ _ a c => ze (cs := [iv xL1.X, iv xL1.Y]) WP KI (a.ev rfl) (zQ.take (rdF Jb zK (Kv QK) c) 2) rfl) ?_
  obtain ⟨Wv, zKT, H⟩ := bnd H
  refine Tr.zHj (r := (bV Wv)) (wn rfl) rfl rfl hg1 (zI rfl zX) (fun W hW => hf1 hW.all hW.Ky xL1 _ zKT) ?_
  refine Tr.nil (Tr.zA (Tr.cond rfl H (fun H => ?_) (fun H => ?_)))
  ·refine Tr.sr (Tr.mv rfl rfl (Tr.asg rfl rfl (Tr.nil (Tr.zA (Tr.ret (Tr.QY (Tr.zq (Tr.zq (Tr.QY (Tr.zq ?_))))))))))
   obtain rfl := oI H
   exact Tr.out (m := [iv (iL1 : Int)]) [] (zU rfl zY) (fun W hW => ⟨rfl, hW.low leB⟩)
  ·refine Tr.skip (Tr.zb (Tr.zA (Tr.region (Tr.va rfl (fun _ _ a c => zg (a.ev rfl) (a.ev rfl)) ?_))))
   exact Tr.mv rfl rfl (Tr.nil (Tr.zZ QI (zV, (iL1 + 1)) ⟨rfl, Jh QK, QF QK, H⟩ (.cons rfl (.cons rfl (.cons rfl (.cons (congrArg (fun z => some (Value.int .i64 z)) (Jg QK zK.form)) .nil)))) .nil))

theorem zEK {w : Bs} (p0 : (List zG)) (zF : Option Addr) (zH : Nat) (zK : Sl w.R w.W zz zF zH p0) (p1 : zG → Option Bool) (fid1 : Nat) (cap1 : List Value) (hg1 : ∀ args W, (callFunc fid1 args).run Tryz.prog W = .ok (.enter fid1 args) W) (hf1 : ∀ (w' : Bs), w.Ext w' → ∀ (z0 : zG), ∀ y, p1 z0 = some y → Calls Tryz.prog fid1 (([.agg #[iv z0.X, iv z0.Y]] : List Value) ++ cap1).toArray w'.W fun e W'' => e = .returned (bV y) ∧ HF w' W'' E0) (r : Bool) (H : Kt p0 p1 = some r) (hE : HF w w.W E0) : Calls Tryz.prog 17 [sL zF p0 zH, .func (.func fid1) #[] cap1.toArray].toArray w.W fun e W' => e = .returned (bV r) ∧ HF w W' E0 := by
 unfold Kt at H
 have leB := Bs.Le.refl w
 refine Tr.enter (n := 9) Tryz.func17 rfl rfl rfl hE ?_
 refine Tr.sr (Tr.asg rfl rfl (Tr.nil (Tr.zA (Tr.sr (Tr.mv rfl rfl (Tr.mv rfl rfl ?_))))))
 obtain ⟨zN, zAQ, H⟩ := bnd H
 refine Tr.KV (r := (iv zN)) (wn rfl) rfl Tryz.call55 (zI rfl (zI rfl zX)) (fun W hW => zE6 p0 zF zH (zK.ext hW.Ky) p1 fid1 cap1 hg1 (fun w' he => hf1 w' (hW.Ky.trans he)) zN zAQ (HF.start _)) ?_
 refine Tr.va rfl (fun _ _ a c => zEz (a.ev rfl) (a.ev rfl)) ?_
 refine Tr.asg rfl rfl (Tr.nil (Tr.zA (Tr.ret ?_)))
 obtain rfl := oI H
 exact Tr.out (m := [bV (decide (0 ≤ zN))]) [] (zU rfl zY) (fun W hW => ⟨rfl, hW.low leB⟩)

theorem zJ3 {w : Bs} (p0 : zG) (r : Bool) (H : zCH p0 = some r) (hE : HF w w.W E0) : Calls Tryz.prog 19 [.agg #[iv p0.X, iv p0.Y]].toArray w.W fun e W' => e = .returned (bV r) ∧ HF w W' E0 := by
 unfold zCH at H
 have leB := Bs.Le.refl w
 refine Tr.enter (n := 11) Tryz.func19 rfl rfl rfl hE ?_
 refine Tr.sr (Tr.box 1 (cs := [iv p0.X, iv p0.Y]) (wn rfl) rfl rfl rfl fun QQ => ?_)
 refine Tr.asg rfl rfl (Tr.nil (Tr.zA (Tr.sr (Tr.va rfl (fun _ _ a c => zB Wo (a.ev rfl)) ?_))))
 refine Tr.va rfl (fun _ _ a c => zC QA (a.ev rfl) (rdb c (vs := [iv p0.X, iv p0.Y]) (k := 1) rfl 0) rfl) ?_
 obtain ⟨y101, hy101, H⟩ := bnd H
 refine Tr.KV (r := (bV y101)) (wn rfl) rfl Tryz.call56 (zI rfl zX) (fun W hW => zBH p0.X y101 hy101 (HF.start _)) ?_
 refine Tr.mv rfl rfl ?_
 obtain ⟨zIM, zDH, H⟩ := bnd H
 refine Tr.zBy 4 [(10, bV zIM)] [(1, bx QQ #[iv p0.X, iv p0.Y] 33)] ?_ ?_
 ·cases zHf : y101
  ·rw [zHf] at zDH
   rw [if_neg (by decide)] at zDH
   have H := zDH
   obtain rfl := oI H
   refine Tr.pass rfl rfl rfl rfl rfl (by decide) ?_
   refine Tr.pass rfl rfl rfl rfl rfl (by decide) ?_
   refine Tr.pass rfl rfl rfl rfl rfl (by decide) ?_
   refine Tr.va rfl (fun _ _ a c => zy (a.ev rfl) (a.ev rfl)) ?_
   exact Tr.nil (Tr.VW (.cons rfl .nil) (.cons rfl .nil))
  ·rw [zHf] at zDH
   rw [if_pos rfl] at zDH
   have H := zDH
   refine Tr.val (wg rfl rfl rfl) rfl (fun _ _ a c => zB VP (a.ev rfl)) ?_
   refine Tr.val (wg rfl rfl rfl) rfl (fun _ _ a c => zC QA (a.ev rfl) (rdb c (vs := [iv p0.X, iv p0.Y]) (k := 1) rfl 1) rfl) ?_
   obtain ⟨y104, hy104, H⟩ := bnd H
   refine Tr.KV (r := (bV y104)) (wg rfl rfl rfl) rfl Tryz.call56 (zI rfl zX) (fun W hW => zBH p0.Y y104 hy104 (HF.start _)) ?_
   refine Tr.va rfl (fun _ _ a c => zx (a.ev rfl) (a.ev rfl)) ?_
   obtain rfl := oI H
   exact Tr.nil (Tr.VW (.cons rfl .nil) (.cons rfl .nil))
 ·show Tr _ _ (LF [(10, bV zIM)]) (LE [(1, bx QQ #[iv p0.X, iv p0.Y] 33)]) _
  refine Tr.asg rfl rfl (Tr.nil (Tr.zA (Tr.ret ?_)))
  obtain rfl := oI H
  exact Tr.out (m := [bV zIM]) [] (zU rfl zY) (fun W hW => ⟨rfl, hW.low leB⟩)

theorem zJI {w : Bs} (p0 : zG) (r : Bool) (H : WA p0 = some r) (hE : HF w w.W E0) : Calls Tryz.prog 18 [.agg #[iv p0.X, iv p0.Y]].toArray w.W fun e W' => e = .returned (bV r) ∧ HF w W' E0 := by
 unfold WA at H
 have leB := Bs.Le.refl w
 refine Tr.enter (n := 6) Tryz.func18 rfl rfl rfl hE ?_
 refine Tr.sr (Tr.box 1 (cs := [iv p0.X, iv p0.Y]) (wn rfl) rfl rfl rfl fun QQ => ?_)
 refine Tr.asg rfl rfl (Tr.nil (Tr.zA (Tr.sr (Tr.va rfl (fun _ _ a c => ze (cs := [iv p0.X, iv p0.Y]) WP KI (a.ev rfl) (zQ.take (rdb c (vs := [iv p0.X, iv p0.Y]) (k := 1) rfl 0) 2) rfl) ?_))))
 obtain ⟨y101, hy101, H⟩ := bnd H
 refine Tr.KV (r := (bV y101)) (wn rfl) rfl Tryz.call19 (zI rfl zX) (fun W hW => zJ3 p0 y101 hy101 (HF.start _)) ?_
 refine Tr.va rfl (fun _ _ a c => Wm (a.ev rfl)) ?_
 refine Tr.asg rfl rfl (Tr.nil (Tr.zA (Tr.ret ?_)))
 obtain rfl := oI H
 exact Tr.out (m := [bV (!y101)]) [] (zU rfl zY) (fun W hW => ⟨rfl, hW.low leB⟩)

theorem zLt {w : Bs} (p0 : (List zG)) (zF : Option Addr) (zH : Nat) (zK : Sl w.R w.W zz zF zH p0) (r : Bool) (H : zCx p0 = some r) (hE : HF w w.W E0) : Calls Tryz.prog 20 [sL zF p0 zH].toArray w.W fun e W' => e = .returned (bV r) ∧ HF w W' E0 := by
 unfold zCx at H
 have leB := Bs.Le.refl w
 refine Tr.enter (n := 36) Tryz.func20 rfl rfl rfl hE ?_
 refine Tr.sr (Tr.asg rfl rfl (Tr.nil (Tr.zA (Tr.seq (Tr.sr (Tr.mv rfl rfl (Tr.va rfl (fun _ _ a c => zf zBI (a.ev rfl)) ?_)))))))
 refine Tr.va rfl (fun _ _ a c => zh (a.ev rfl) (a.ev rfl)) ?_
 refine Tr.nil (Tr.zA (Tr.cond rfl H (fun H => ?_) (fun H => ?_)))
 ·refine Tr.sr (Tr.asg rfl rfl (Tr.nil (Tr.zA (Tr.ret (Tr.zq ?_)))))
  obtain rfl := oI H
  exact Tr.out (m := [bV false]) [] (zU rfl zY) (fun W hW => ⟨rfl, hW.low leB⟩)
 ·refine Tr.skip (Tr.zA (Tr.seq (Tr.sr (Tr.mv rfl rfl (Tr.va rfl (fun _ _ a c => zf zBI (a.ev rfl)) ?_)))))
  refine Tr.mv rfl rfl (Tr.nil (Tr.zA (Tr.block (Tr.loop (σ := (List zG) × Nat) (fun m w s => m = s.1.length + 1 ∧ s.1 = List.drop s.2 p0 ∧ s.2 ≤ p0.length ∧ WZ p0 s.1 s.2 = some r) (fun s => [(0, sL zF p0 zH), (9, sL zF p0 zH), (10, iv (p0.length : Int)), (11, iv (s.2 : Int))]) (fun s => []) (p0.length + 1) (p0, 0) ⟨rfl, rfl, Nat.zero_le _, H⟩ (.cons rfl (.cons rfl (.cons rfl (.cons rfl .nil)))) .nil (fun _ _ h => absurd h.1 (by simp)) ?_))))
  intro w QI m s hs
  obtain ⟨zV, iL1⟩ := s
  obtain ⟨Vn, QK, hiL1, H⟩ := hs
  replace QK : zV = List.drop iL1 p0 := QK
  replace H : WZ p0 zV iL1 = some r := H
  replace Vn : m + 1 = zV.length + 1 := Vn
  replace zK := zK.leR QI
  replace leB := leB.trans QI
  obtain rfl : m = zV.length := by omega
  clear Vn
  show Tr _ _ (LF [(0, sL zF p0 zH), (9, sL zF p0 zH), (10, iv (p0.length : Int)), (11, iv (iL1 : Int))]) (LE []) _
  cases zV with
  | nil =>
   rw [WZ.eq_1] at H
   refine Tr.sr (Tr.va rfl (fun _ _ a c => zh (a.ev rfl) (a.ev rfl)) ?_)
   refine Tr.nil (Tr.zA (Tr.seq (Tr.zBN rfl (KF QK) ?_)))
   refine Tr.exit (Tr.zP (Tr.zP (Tr.zl (Tr.zA (Tr.sr (Tr.asg rfl rfl (Tr.nil (Tr.zA (Tr.ret ?_)))))))))
   obtain rfl := oI H
   exact Tr.out (m := [bV true]) [] (zU rfl zY) (fun W hW => ⟨rfl, hW.low leB⟩)
  | cons xL1 zV =>
   rw [WZ.eq_2] at H
   refine Tr.sr (Tr.va rfl (fun _ _ a c => zh (a.ev rfl) (a.ev rfl)) ?_)
   refine Tr.nil (Tr.zA (Tr.seq (Tr.zBM rfl (VD QK) ?_)))
   refine Tr.skip (Tr.zA (Tr.seq (Tr.block (Tr.sr (Tr.mv rfl rfl (Tr.va rfl (fun _ _ a c => zD zAh (a.ev rfl) zK.form (a.ev rfl) (Int.natCast_nonneg _) (QF QK)) ?_))))))
   refine Tr.va rfl (fun _ _ a c => ze (cs := [iv xL1.X, iv xL1.Y]) WP KI (a.ev rfl) (zQ.take (rdF Jb zK (Kv QK) c) 2) rfl) ?_
   refine Tr.alloc 3 (wn rfl) rfl zDS fun zsV => ?_
   refine Tr.asg rfl rfl (Tr.store 3 (cs := [iv xL1.X, iv xL1.Y]) [iv xL1.X, iv xL1.Y] (wn rfl) rfl rfl rfl rfl KI rfl rfl rfl ?_)
   refine Tr.nil (Tr.zA (Tr.sr (Tr.mv rfl rfl (Tr.mv rfl rfl (Tr.va rfl (fun _ _ a c => zg (a.ev rfl) (a.ev rfl)) ?_)))))
   refine Tr.mv rfl rfl (Tr.va rfl (fun _ _ a c => zf zBI (a.ev rfl)) ?_)
   obtain ⟨q107, zof, H⟩ := bnd H
   refine Tr.va rfl (fun _ _ a c => zLI (a.ev rfl) (a.ev rfl) zof) ?_
   obtain ⟨Vt, zIJ, H⟩ := bnd H
   obtain ⟨zFZ, zFY, zFX⟩ := zO zIJ
   refine Tr.va rfl (fun _ _ a c => zD zAh (a.ev rfl) zK.form (a.ev rfl) zFZ zFY) ?_
   refine Tr.va rfl (fun _ _ a c => ze (cs := [iv Vt.X, iv Vt.Y]) WP KI (a.ev rfl) (zQ.take (rdF Jb zK zFX c) 2) rfl) ?_
   refine Tr.alloc 4 (wn rfl) rfl zDS fun zsU => ?_
   refine Tr.store 4 (cs := [iv Vt.X, iv Vt.Y]) [iv Vt.X, iv Vt.Y] (wn rfl) rfl rfl rfl rfl KI rfl rfl rfl ?_
   refine Tr.nil (Tr.zA (Tr.sr (Tr.va rfl (fun _ _ a c => zB Wo (a.ev rfl)) ?_)))
   refine Tr.va rfl (fun _ _ a c => zC QA (a.ev rfl) (rdb c (vs := [iv xL1.X, iv xL1.Y]) (k := 3) rfl 0) rfl) ?_
   refine Tr.va rfl (fun _ _ a c => zB Wo (a.ev rfl)) ?_
   refine Tr.va rfl (fun _ _ a c => zC QA (a.ev rfl) (rdb c (vs := [iv Vt.X, iv Vt.Y]) (k := 4) rfl 0) rfl) ?_
   refine Tr.va rfl (fun _ _ a c => Vv (a.ev rfl) (a.ev rfl)) ?_
   refine Tr.va rfl (fun _ _ a c => zB VP (a.ev rfl)) ?_
   refine Tr.va rfl (fun _ _ a c => zC QA (a.ev rfl) (rdb c (vs := [iv xL1.X, iv xL1.Y]) (k := 3) rfl 1) rfl) ?_
   refine Tr.va rfl (fun _ _ a c => zB VP (a.ev rfl)) ?_
   refine Tr.va rfl (fun _ _ a c => zC QA (a.ev rfl) (rdb c (vs := [iv Vt.X, iv Vt.Y]) (k := 4) rfl 1) rfl) ?_
   refine Tr.va rfl (fun _ _ a c => Vv (a.ev rfl) (a.ev rfl)) ?_
   refine Tr.va rfl (fun _ _ a c => zTC ze9 (a.ev rfl) (a.ev rfl)) ?_
   refine Tr.nil (Tr.zA (Tr.cond rfl H (fun H => ?_) (fun H => ?_)))
   ·refine Tr.sr (Tr.asg rfl rfl (Tr.nil (Tr.zA (Tr.ret (Tr.QY (Tr.zq (Tr.zq (Tr.QY (Tr.zq ?_)))))))))
    obtain rfl := oI H
    exact Tr.out (m := [bV false]) [] (zU rfl zY) (fun W hW => ⟨rfl, hW.low leB⟩)
   ·refine Tr.skip (Tr.zb (Tr.zA (Tr.region (Tr.va rfl (fun _ _ a c => zg (a.ev rfl) (a.ev rfl)) ?_))))
    exact Tr.mv rfl rfl (Tr.nil (Tr.zZ QI (zV, (iL1 + 1)) ⟨rfl, Jh QK, QF QK, H⟩ (.cons rfl (.cons rfl (.cons rfl (.cons (congrArg (fun z => some (Value.int .i64 z)) (Jg QK zK.form)) .nil)))) .nil))

theorem zJJ {w : Bs} (p0 : zJ) (p1 : zJ) (r : Int) (H : zAx p0 p1 = some r) (hE : HF w w.W E0) : Calls Tryz.prog 57 [.agg #[iv p0.X0, iv p0.Y0, iv p0.X1, iv p0.Y1], .agg #[iv p1.X0, iv p1.Y0, iv p1.X1, iv p1.Y1]].toArray w.W fun e W' => e = .returned (iv r) ∧ HF w W' E0 := by
 unfold zAx at H
 have leB := Bs.Le.refl w
 refine Tr.enter (n := 10) Tryz.func57 rfl rfl rfl hE ?_
 refine Tr.sr (Tr.box 1 (cs := [iv p0.X0, iv p0.Y0, iv p0.X1, iv p0.Y1]) (wn rfl) rfl rfl rfl fun QQ => ?_)
 refine Tr.box 2 (cs := [iv p1.X0, iv p1.Y0, iv p1.X1, iv p1.Y1]) (wn rfl) rfl rfl rfl fun WE => ?_
 refine Tr.asg rfl rfl (Tr.nil (Tr.zA (Tr.sr (Tr.va rfl (fun _ _ a c => zB zAo (a.ev rfl)) ?_))))
 refine Tr.va rfl (fun _ _ a c => zC QA (a.ev rfl) (rdb c (vs := [iv p0.X0, iv p0.Y0, iv p0.X1, iv p0.Y1]) (k := 1) rfl 0) rfl) ?_
 refine Tr.va rfl (fun _ _ a c => zB zAo (a.ev rfl)) ?_
 refine Tr.va rfl (fun _ _ a c => zC QA (a.ev rfl) (rdb c (vs := [iv p1.X0, iv p1.Y0, iv p1.X1, iv p1.Y1]) (k := 2) rfl 0) rfl) ?_
 refine Tr.va rfl (fun _ _ a c => Jn (a.ev rfl) (a.ev rfl)) ?_
 refine Tr.asg rfl rfl (Tr.nil (Tr.zA (Tr.ret ?_)))
 obtain rfl := oI H
 exact Tr.out (m := [iv (w64 (p0.X0 - p1.X0))]) [] (zU rfl zY) (fun W hW => ⟨rfl, hW.low leB⟩)

theorem zKy (N : Nat) {w : Bs} (p0 : (List (List zG))) (zF : Option Addr) (zH : Nat) (zK : Sl w.R w.W zS zF zH p0) (r : (List JD)) (H : zA6 N p0 = some r) (hE : HF w w.W (LEn [emp])) : Calls Tryz.prog 21 [sL zF p0 zH].toArray w.W fun e W' => ∃ (w' : Bs) (u : (Option Addr × Nat)), w.Le w' ∧ e = .returned (sL u.1 r u.2) ∧ (SlF u.1 r.length u.2) ∧ HF w' W' (LEn [ow u.1 u.2 67 Qi r]) := by
 unfold zA6 at H
 have leB := Bs.Le.refl w
 refine Tr.enter (n := 138) Tryz.func21 rfl rfl rfl hE ?_
 refine Tr.sr (Tr.asg rfl rfl (Tr.Qb 1 67 Qi ?_))
 show Tr _ _ (uf _ 2 (sL none (([] : List JD)) 0)) _ _
 refine Tr.nil (Tr.zA (Tr.sr (Tr.asg rfl rfl (Tr.Qb 2 3 zW ?_))))
 show Tr _ _ (uf _ 3 (sL none (([] : List Int)) 0)) _ _
 refine Tr.nil (Tr.zA (Tr.sr (Tr.asg rfl rfl (Tr.Qb 3 36 zL ?_))))
 show Tr _ _ (uf _ 4 (sL none (([] : List zJ)) 0)) _ _
 refine Tr.nil (Tr.zA (Tr.seq (Tr.sr (Tr.mv rfl rfl (Tr.va rfl (fun _ _ a c => zf zDX (a.ev rfl)) ?_)))))
 refine Tr.mv rfl rfl (Tr.nil (Tr.zA (Tr.block (Tr.loop (σ := (List (List zG)) × Nat × (List Int) × (List zJ) × (Option Addr) × Nat × (Option Addr) × Nat) (fun m w s => m = s.1.length + 1 ∧ s.1 = List.drop s.2.1 p0 ∧ s.2.1 ≤ p0.length ∧ JV N s.1 s.2.1 s.2.2.1 s.2.2.2.1 = some r ∧ SlF s.2.2.2.2.1 s.2.2.1.length s.2.2.2.2.2.1 ∧ SlF s.2.2.2.2.2.2.1 s.2.2.2.1.length s.2.2.2.2.2.2.2) (fun s => [(3, sL s.2.2.2.2.1 s.2.2.1 s.2.2.2.2.2.1), (4, sL s.2.2.2.2.2.2.1 s.2.2.2.1 s.2.2.2.2.2.2.2), (16, sL zF p0 zH), (17, iv (p0.length : Int)), (18, iv (s.2.1 : Int))]) (fun s => [(2, ow s.2.2.2.2.1 s.2.2.2.2.2.1 3 zW s.2.2.1), (3, ow s.2.2.2.2.2.2.1 s.2.2.2.2.2.2.2 36 zL s.2.2.2.1)]) (p0.length + 1) (p0, 0, ([] : List Int), ([] : List zJ), none, 0, none, 0) ⟨rfl, rfl, Nat.zero_le _, H, Jm, Jm⟩ (.cons rfl (.cons rfl (.cons rfl (.cons rfl (.cons rfl .nil))))) (.cons rfl (.cons rfl .nil)) (fun _ _ h => absurd h.1 (by simp)) ?_))))
 intro w zDc m s hs
 obtain ⟨zA0, iL3, zLY, zJo, zGH, zGA, zBX, zBT⟩ := s
 obtain ⟨zV7, zHJ, hiL3, H, zXN, zXM⟩ := hs
 replace zHJ : zA0 = List.drop iL3 p0 := zHJ
 replace H : JV N zA0 iL3 zLY zJo = some r := H
 replace zV7 : m + 1 = zA0.length + 1 := zV7
 replace zK := zK.leR zDc
 replace leB := leB.trans zDc
 replace zXN : SlF zGH zLY.length zGA := zXN
 replace zXM : SlF zBX zJo.length zBT := zXM
 obtain rfl : m = zA0.length := by omega
 clear zV7
 show Tr _ _ (LF [(3, sL zGH zLY zGA), (4, sL zBX zJo zBT), (16, sL zF p0 zH), (17, iv (p0.length : Int)), (18, iv (iL3 : Int))]) (LE [(2, ow zGH zGA 3 zW zLY), (3, ow zBX zBT 36 zL zJo)]) _
 cases zA0 with
 | nil =>
  rw [JV.eq_1] at H
  refine Tr.sr (Tr.va rfl (fun _ _ a c => zh (a.ev rfl) (a.ev rfl)) ?_)
  refine Tr.nil (Tr.zA (Tr.seq (Tr.zBN rfl (KF zHJ) ?_)))
  refine Tr.exit (Tr.zP (Tr.zP (Tr.zl (Tr.zA (Tr.sr (Tr.mv rfl rfl ?_))))))
  obtain ⟨zLB, zmp, H⟩ := bnd H
  refine Tr.zAi [2] [ow zGH zGA 3 zW zLY] (U := Unit) (fun u => (.tuple #[])) (fun u => zLB.length = zLY.length) (fun u => [ow zGH zGA 3 zW zLB]) rfl (zn rfl zw) (fun _ => rfl) (wn rfl) rfl Tryz.call32 (zI rfl zX) (fun W hW hp hE => zEb zLY zGH zGA zLB zmp hE) ?_
  intro u hu
  have gky189_0 := hu
  have zLl : zLB.length = zLY.length := gky189_0 --@phi
  have zlB : SlF zGH zLB.length zGA := by rw [zLl]; exact zXN
  show Tr _ _ (uf _ 66 (.tuple #[])) (up _ 2 (ow zGH zGA 3 zW zLB)) _
  refine Tr.sel (lf := [(3, sL zGH zLB zGA), (4, sL zBX zJo zBT), (16, sL zF p0 zH), (17, iv (p0.length : Int)), (18, iv (iL3 : Int)), (19, bV (decide ((iL3 : Int) < (p0.length : Int)))), (65, sL zGH zLB zGA), (66, (.tuple #[]))]) (le := [(2, ow zGH zGA 3 zW zLB), (3, ow zBX zBT 36 zL zJo)]) (.cons (zAg rfl (by unfold sL; rw [zLl])) (.cons rfl (.cons rfl (.cons rfl (.cons rfl (.cons rfl (.cons (zAg rfl (by unfold sL; rw [zLl])) (.cons rfl .nil)))))))) (.cons rfl (.cons rfl .nil)) ?_
  refine Tr.nil (Tr.zA (Tr.sr (Tr.mv rfl rfl ?_)))
  obtain ⟨zBq, zmo, H⟩ := bnd H
  refine Tr.zAi [2] [ow zGH zGA 3 zW zLB] (U := (Option Addr × Nat)) (fun u => (sL u.1 zBq u.2)) (fun u => SlF u.1 zBq.length u.2) (fun u => [ow u.1 u.2 3 zW zBq]) rfl (zn rfl zw) (fun _ => rfl) (wn rfl) rfl Tryz.call33 (zI rfl zX) (fun W hW hp hE => zDK zLB zGH zGA zBq zmo hE) ?_
  intro u hu
  obtain ⟨zBg, zBf⟩ := u
  have gy191_0 := hu
  have zKV : SlF zBg zBq.length zBf := gy191_0 --@phi
  show Tr _ _ (uf _ 68 (sL zBg zBq zBf)) (up _ 2 (ow zBg zBf 3 zW zBq)) _
  refine Tr.asg rfl rfl (Tr.nil (Tr.zA (Tr.sr (Tr.mv rfl rfl ?_))))
  obtain ⟨zBh, zmn, H⟩ := bnd H
  refine Tr.zAi [3] [ow zBX zBT 36 zL zJo] (U := Unit) (fun u => (.tuple #[])) (fun u => zBh.length = zJo.length) (fun u => [ow zBX zBT 36 zL zBh]) rfl (zn rfl zw) (fun _ => rfl) (wn rfl) rfl Tryz.call30 (zI rfl (zI rfl zX)) (fun W hW hp hE => zA4 zJo zBX zBT (fun z0 z1 => zAx z0 z1) 57 [] Tryz.call57 (fun w' he z0 z1 y hy => zJJ z0 z1 y hy (HF.start _)) zBh zmn hE) ?_
  intro u hu
  have gky193_0 := hu
  have zLk : zBh.length = zJo.length := gky193_0 --@phi
  have zIy : SlF zBX zBh.length zBT := by rw [zLk]; exact zXM
  show Tr _ _ (uf _ 70 (.tuple #[])) (up _ 3 (ow zBX zBT 36 zL zBh)) _
  refine Tr.sel (lf := [(3, sL zBg zBq zBf), (4, sL zBX zBh zBT), (16, sL zF p0 zH), (17, iv (p0.length : Int)), (18, iv (iL3 : Int)), (19, bV (decide ((iL3 : Int) < (p0.length : Int)))), (66, (.tuple #[])), (68, sL zBg zBq zBf), (69, sL zBX zBh zBT), (70, (.tuple #[]))]) (le := [(2, ow zBg zBf 3 zW zBq), (3, ow zBX zBT 36 zL zBh)]) (.cons rfl (.cons (zAg rfl (by unfold sL; rw [zLk])) (.cons rfl (.cons rfl (.cons rfl (.cons rfl (.cons rfl (.cons rfl (.cons (zAg rfl (by unfold sL; rw [zLk])) (.cons rfl .nil)))))))))) (.cons rfl (.cons rfl .nil)) ?_
  refine Tr.nil (Tr.zA (Tr.sr (Tr.asg rfl rfl (Tr.Qb 28 67 Qi ?_))))
  show Tr _ _ (uf _ 10 (sL none (([] : List JD)) 0)) _ _
  refine Tr.nil (Tr.zA (Tr.seq (Tr.sr (Tr.asg rfl rfl (Tr.nil (Tr.zA (Tr.block (Tr.loop (σ := (List JD) × Int × (Option Addr) × Nat) (fun m w s => Kj zBq zBh m s.1 s.2.1 = some r ∧ SlF s.2.2.1 s.1.length s.2.2.2) (fun s => [(3, sL zBg zBq zBf), (4, sL zBX zBh zBT), (10, sL s.2.2.1 s.1 s.2.2.2), (11, iv s.2.1)]) (fun s => [(2, ow zBg zBf 3 zW zBq), (3, ow zBX zBT 36 zL zBh), (28, ow s.2.2.1 s.2.2.2 67 Qi s.1)]) N (([] : List JD), 0, none, 0) ⟨H, Jm⟩ (.cons rfl (.cons rfl (.cons rfl (.cons rfl .nil)))) (.cons rfl (.cons rfl (.cons rfl .nil))) (fun _ _ h => KG (h.1)) ?_))))))))
  intro w zJD mL6 s hs
  obtain ⟨zFW, zGK, zG2, zGr⟩ := s
  obtain ⟨H, zau⟩ := hs
  replace H : Kj zBq zBh (mL6 + 1) zFW zGK = some r := H
  replace leB := leB.trans zJD
  replace zau : SlF zG2 zFW.length zGr := zau
  rw [Kj.eq_2] at H
  show Tr _ _ (LF [(3, sL zBg zBq zBf), (4, sL zBX zBh zBT), (10, sL zG2 zFW zGr), (11, iv zGK)]) (LE [(2, ow zBg zBf 3 zW zBq), (3, ow zBX zBT 36 zL zBh), (28, ow zG2 zGr 67 Qi zFW)]) _
  refine Tr.seq (Tr.sr (Tr.mv rfl rfl (Tr.va rfl (fun _ _ a c => zg (a.ev rfl) (a.ev rfl)) ?_)))
  refine Tr.mv rfl rfl (Tr.va rfl (fun _ _ a c => zf Vu (a.ev rfl)) ?_)
  refine Tr.va rfl (fun _ _ a c => zh (a.ev rfl) (a.ev rfl)) ?_
  refine Tr.nil (Tr.zA (Tr.cond rfl H (fun H => ?_) (fun H => ?_)))
  ·refine Tr.skip (Tr.zA (Tr.seq (Tr.block (Tr.sr (Tr.asg rfl rfl (Tr.Qb 43 3 zW ?_))))))
   show Tr _ _ (uf _ 12 (sL none (([] : List Int)) 0)) _ _
   refine Tr.nil (Tr.zA (Tr.seq (Tr.sr (Tr.mv rfl rfl (Tr.va rfl (fun _ _ a c => zf zA9 (a.ev rfl)) ?_)))))
   refine Tr.mv rfl rfl (Tr.nil (Tr.zA (Tr.block (Tr.loop (σ := (List zJ) × Nat × (List Int) × (Option Addr) × Nat) (fun m w s => m = s.1.length + 1 ∧ s.1 = List.drop s.2.1 zBh ∧ s.2.1 ≤ zBh.length ∧ Ki zBq zFW zGK (Kj zBq zBh mL6) s.1 s.2.1 s.2.2.1 = some r ∧ SlF s.2.2.2.1 s.2.2.1.length s.2.2.2.2) (fun s => [(3, sL zBg zBq zBf), (4, sL zBX zBh zBT), (10, sL zG2 zFW zGr), (11, iv zGK), (12, sL s.2.2.2.1 s.2.2.1 s.2.2.2.2), (78, sL zBX zBh zBT), (79, iv (zBh.length : Int)), (80, iv (s.2.1 : Int))]) (fun s => [(2, ow zBg zBf 3 zW zBq), (3, ow zBX zBT 36 zL zBh), (28, ow zG2 zGr 67 Qi zFW), (43, ow s.2.2.2.1 s.2.2.2.2 3 zW s.2.2.1)]) (zBh.length + 1) (zBh, 0, ([] : List Int), none, 0) ⟨rfl, rfl, Nat.zero_le _, H, Jm⟩ (.cons rfl (.cons rfl (.cons rfl (.cons rfl (.cons rfl (.cons rfl (.cons rfl (.cons rfl .nil)))))))) (.cons rfl (.cons rfl (.cons rfl (.cons rfl .nil)))) (fun _ _ h => absurd h.1 (by simp)) ?_))))
   intro w zHt m s hs
   obtain ⟨zEC, iL7, zFV, zJW, zJS⟩ := s
   obtain ⟨zkV, zJu, hiL7, H, zQU⟩ := hs
   replace zJu : zEC = List.drop iL7 zBh := zJu
   replace H : Ki zBq zFW zGK (Kj zBq zBh mL6) zEC iL7 zFV = some r := H
   replace zkV : m + 1 = zEC.length + 1 := zkV
   replace zJD := zJD.trans zHt
   replace zQU : SlF zJW zFV.length zJS := zQU
   obtain rfl : m = zEC.length := by omega
   clear zkV
   show Tr _ _ (LF [(3, sL zBg zBq zBf), (4, sL zBX zBh zBT), (10, sL zG2 zFW zGr), (11, iv zGK), (12, sL zJW zFV zJS), (78, sL zBX zBh zBT), (79, iv (zBh.length : Int)), (80, iv (iL7 : Int))]) (LE [(2, ow zBg zBf 3 zW zBq), (3, ow zBX zBT 36 zL zBh), (28, ow zG2 zGr 67 Qi zFW), (43, ow zJW zJS 3 zW zFV)]) _
   cases zEC with
   | nil =>
    rw [Ki.eq_1] at H
    refine Tr.sr (Tr.va rfl (fun _ _ a c => zh (a.ev rfl) (a.ev rfl)) ?_)
    refine Tr.nil (Tr.zA (Tr.seq (Tr.zBN rfl (KF zJu) ?_)))
    refine Tr.exit (Tr.zP (Tr.zP (Tr.zl (Tr.zA (Tr.zCB 12 (by kernel_rfl) (by kernel_rfl) ?_)))))
    refine Tq.mv rfl rfl (Tq.mv rfl rfl (Tq.mv rfl rfl ?_))
    obtain ⟨zZO, znp, H⟩ := bnd H
    obtain ⟨zhv, zhu, zht⟩ := zO znp
    refine Tq.va rfl (fun _ _ a c => zD Kb (a.ev rfl) zKV (a.ev rfl) zhv zhu) ?_
    refine Tq.va rfl (fun _ _ a c => zC QA (a.ev rfl) (rdo Jd (k := 2) c rfl zht) rfl) ?_
    refine Tq.mv rfl rfl (Tq.mv rfl rfl (Tq.va rfl (fun _ _ a c => zg (a.ev rfl) (a.ev rfl)) ?_))
    obtain ⟨zZN, zno, H⟩ := bnd H
    obtain ⟨zhs, zhr, zhq⟩ := zO zno
    refine Tq.va rfl (fun _ _ a c => zD Kb (a.ev rfl) zKV (a.ev rfl) zhs zhr) ?_
    refine Tq.va rfl (fun _ _ a c => zC QA (a.ev rfl) (rdo Jd (k := 2) c rfl zhq) rfl) ?_
    refine Tq.mv rfl rfl (Tq.build (vs := [(0, iv zZO), (1, iv zZN), (2, sL zJW zFV zJS)]) (cs := [iv zZO, iv zZN, sL zJW zFV zJS]) (wn rfl) rfl (zi rfl (zi rfl (zi rfl Qh))) (by kernel_rfl) ?_)
    refine Tq.nil (Tr.freeze 43 rfl fun w zl0 zaL => ?_)
    replace zJD := zJD.trans zl0
    obtain ⟨zPS, zmZ, H⟩ := bnd H
    refine Tr.zCe [28] [ow zG2 zGr 67 Qi zFW] (U := (Option Addr × Nat)) (fun u => (sL u.1 zPS u.2)) (fun O W u => SlF u.1 zPS.length u.2) (fun u => [ow u.1 u.2 67 Qi zPS]) rfl (zn rfl zw) (fun _ => rfl) (wn rfl) rfl Tryz.call36 (zI rfl (zI rfl zX)) (fun W hW hp hE => zEc zFW zG2 zGr (JD.mk zZO zZN zFV) zJW zJS (zaL.zMY (hW.zCA hp)) zPS zmZ hE) ?_
    intro w u zeK hu
    obtain ⟨zNI, zMq⟩ := u
    have gy334_0 := hu
    replace zaL := zaL.le zeK
    replace zJD := zJD.trans zeK
    have za6 : SlF zNI zPS.length zMq := gy334_0 --@phi
    show Tr _ _ (uf _ 136 (sL zNI zPS zMq)) (up _ 28 (ow zNI zMq 67 Qi zPS)) _
    refine Tr.asg rfl rfl (Tr.nil (Tr.zb (Tr.zA (Tr.region (Tr.mv rfl rfl (Tr.va rfl (fun _ _ a c => zg (a.ev rfl) (a.ev rfl)) ?_))))))
    exact Tr.asg rfl rfl (Tr.nil (Tr.zZ zJD (zPS, (w64 (zGK + 1)), zNI, zMq) ⟨H, za6⟩ (.cons rfl (.cons rfl (.cons rfl (.cons rfl .nil)))) (.cons rfl (.cons rfl (.cons rfl .nil)))))
   | cons xL7 zEC =>
    rw [Ki.eq_2] at H
    refine Tr.sr (Tr.va rfl (fun _ _ a c => zh (a.ev rfl) (a.ev rfl)) ?_)
    refine Tr.nil (Tr.zA (Tr.seq (Tr.zBM rfl (VD zJu) ?_)))
    refine Tr.skip (Tr.zA (Tr.seq (Tr.block (Tr.sr (Tr.va rfl (fun _ _ a c => zD zA3 (a.ev rfl) zIy (a.ev rfl) (Int.natCast_nonneg _) (QF zJu)) ?_)))))
    refine Tr.va rfl (fun _ _ a c => ze (cs := [iv xL7.X0, iv xL7.Y0, iv xL7.X1, iv xL7.Y1]) zCw zAK (a.ev rfl) (zQ.take (rdo KL (k := 3) c rfl (Kv zJu)) 4) rfl) ?_
    refine Tr.alloc 48 (wn rfl) rfl zHY fun zpt => ?_
    refine Tr.store 48 (cs := [iv xL7.X0, iv xL7.Y0, iv xL7.X1, iv xL7.Y1]) [iv xL7.X0, iv xL7.Y0, iv xL7.X1, iv xL7.Y1] (wn rfl) rfl rfl rfl rfl zAK rfl rfl rfl ?_
    refine Tr.nil (Tr.zA (Tr.seq (Tr.seq (Tr.draw (by kernel_rfl) (by kernel_rfl) ?_))))
    refine Tq.va rfl (fun _ _ a c => zB zAL (a.ev rfl)) ?_
    refine Tq.va rfl (fun _ _ a c => zC QA (a.ev rfl) (rdb c (vs := [iv xL7.X0, iv xL7.Y0, iv xL7.X1, iv xL7.Y1]) (k := 48) rfl 1) rfl) ?_
    refine Tq.mv rfl rfl (Tq.mv rfl rfl ?_)
    obtain ⟨ze0, znn, H⟩ := bnd H
    obtain ⟨zhp, zho, zhn⟩ := zO znn
    refine Tq.va rfl (fun _ _ a c => zD Kb (a.ev rfl) zKV (a.ev rfl) zhp zho) ?_
    refine Tq.va rfl (fun _ _ a c => zC QA (a.ev rfl) (rdo Jd (k := 2) c rfl zhn) rfl) ?_
    refine Tq.va rfl (fun _ _ a c => Wx (a.ev rfl) (a.ev rfl)) ?_
    refine Tq.mv rfl rfl ?_
    obtain ⟨zkk, zQh, H⟩ := bnd H
    refine Tq.mid 8 [(3, sL zBg zBq zBf), (4, sL zBX zBh zBT), (10, sL zG2 zFW zGr), (11, iv zGK), (12, sL zJW zFV zJS), (14, pV zpt), (78, sL zBX zBh zBT), (79, iv (zBh.length : Int)), (80, iv (iL7 : Int)), (99, bV zkk)] ?_ ?_
    ·cases zT1 : (decide (ze0 < xL7.Y0))
     ·rw [zT1] at zQh
      rw [if_neg (by decide)] at zQh
      have H := zQh
      refine Tq.val (wg rfl rfl rfl) rfl (fun _ _ a c => zB zDg (a.ev rfl)) ?_
      refine Tq.val (wg rfl rfl rfl) rfl (fun _ _ a c => zC QA (a.ev rfl) (rdb c (vs := [iv xL7.X0, iv xL7.Y0, iv xL7.X1, iv xL7.Y1]) (k := 48) rfl 3) rfl) ?_
      refine Tq.val (wg rfl rfl rfl) rfl (fun _ _ a c => run_move (a.ev rfl)) ?_
      refine Tq.val (wg rfl rfl rfl) rfl (fun _ _ a c => run_move (a.ev rfl)) ?_
      obtain ⟨zlR, znm, H⟩ := bnd H
      obtain ⟨zhm, zhl, zhk⟩ := zO znm
      refine Tq.val (wg rfl rfl rfl) rfl (fun _ _ a c => zD Kb (a.ev rfl) zKV (a.ev rfl) zhm zhl) ?_
      refine Tq.val (wg rfl rfl rfl) rfl (fun _ _ a c => zC QA (a.ev rfl) (rdo Jd (k := 2) c rfl zhk) rfl) ?_
      refine Tq.val (wg rfl rfl rfl) rfl (fun _ _ a c => zBJ (a.ev rfl) (a.ev rfl)) ?_
      refine Tq.va rfl (fun _ _ a c => zy (a.ev rfl) (a.ev rfl)) ?_
      obtain rfl := oI H
      exact Tq.fin (.cons rfl (.cons rfl (.cons rfl (.cons rfl (.cons rfl (.cons rfl (.cons rfl (.cons rfl (.cons rfl (.cons rfl .nil))))))))))
     ·rw [zT1] at zQh
      rw [if_pos rfl] at zQh
      have H := zQh
      obtain rfl := oI H
      refine Tq.pass rfl rfl rfl rfl rfl (by decide) ?_
      refine Tq.pass rfl rfl rfl rfl rfl (by decide) ?_
      refine Tq.pass rfl rfl rfl rfl rfl (by decide) ?_
      refine Tq.pass rfl rfl rfl rfl rfl (by decide) ?_
      refine Tq.pass rfl rfl rfl rfl rfl (by decide) ?_
      refine Tq.pass rfl rfl rfl rfl rfl (by decide) ?_
      refine Tq.pass rfl rfl rfl rfl rfl (by decide) ?_
      refine Tq.va rfl (fun _ _ a c => zx (a.ev rfl) (a.ev rfl)) ?_
      exact Tq.fin (.cons rfl (.cons rfl (.cons rfl (.cons rfl (.cons rfl (.cons rfl (.cons rfl (.cons rfl (.cons rfl (.cons rfl .nil))))))))))
    ·refine Tq.nil (Tr.zA (Tr.cond rfl H (fun H => ?_) (fun H => ?_)))
     ·refine Tr.exit (Tr.zP (Tr.zl (Tr.zA (Tr.region (Tr.va rfl (fun _ _ a c => zg (a.ev rfl) (a.ev rfl)) ?_)))))
      exact Tr.mv rfl rfl (Tr.nil (Tr.zZ zHt (zEC, (iL7 + 1), zFV, zJW, zJS) ⟨rfl, Jh zJu, QF zJu, H, zQU⟩ (.cons rfl (.cons rfl (.cons rfl (.cons rfl (.cons rfl (.cons rfl (.cons rfl (.cons (congrArg (fun z => some (Value.int .i64 z)) (Jg zJu zIy)) .nil)))))))) (.cons rfl (.cons rfl (.cons rfl (.cons rfl .nil))))))
     ·refine Tr.skip (Tr.zA (Tr.sr (Tr.mv rfl rfl (Tr.va rfl (fun _ _ a c => zf Vu (a.ev rfl)) ?_))))
      refine Tr.asg rfl rfl (Tr.nil (Tr.zA (Tr.seq (Tr.draw (by kernel_rfl) (by kernel_rfl) ?_))))
      refine Tq.mv rfl rfl (Tq.va rfl (fun _ _ a c => Wx (a.ev rfl) (a.ev rfl)) ?_)
      refine Tq.mv rfl rfl ?_
      obtain ⟨zkj, zQg, H⟩ := bnd H
      refine Tq.mid 9 [(3, sL zBg zBq zBf), (4, sL zBX zBh zBT), (10, sL zG2 zFW zGr), (11, iv zGK), (12, sL zJW zFV zJS), (14, pV zpt), (15, iv (zFV.length : Int)), (78, sL zBX zBh zBT), (79, iv (zBh.length : Int)), (80, iv (iL7 : Int)), (113, bV zkj)] ?_ ?_
      ·cases zT1 : (decide (0 < (zFV.length : Int)))
       ·rw [zT1] at zQg
        rw [if_neg (by decide)] at zQg
        have H := zQg
        obtain rfl := oI H
        refine Tq.pass rfl rfl rfl rfl rfl (by decide) ?_
        refine Tq.pass rfl rfl rfl rfl rfl (by decide) ?_
        refine Tq.pass rfl rfl rfl rfl rfl (by decide) ?_
        refine Tq.pass rfl rfl rfl rfl rfl (by decide) ?_
        refine Tq.pass rfl rfl rfl rfl rfl (by decide) ?_
        refine Tq.pass rfl rfl rfl rfl rfl (by decide) ?_
        refine Tq.pass rfl rfl rfl rfl rfl (by decide) ?_
        refine Tq.pass rfl rfl rfl rfl rfl (by decide) ?_
        refine Tq.va rfl (fun _ _ a c => zy (a.ev rfl) (a.ev rfl)) ?_
        exact Tq.fin (.cons rfl (.cons rfl (.cons rfl (.cons rfl (.cons rfl (.cons rfl (.cons rfl (.cons rfl (.cons rfl (.cons rfl (.cons rfl .nil)))))))))))
       ·rw [zT1] at zQg
        rw [if_pos rfl] at zQg
        have H := zQg
        refine Tq.val (wg rfl rfl rfl) rfl (fun _ _ a c => run_move (a.ev rfl)) ?_
        refine Tq.val (wg rfl rfl rfl) rfl (fun _ _ a c => run_move (a.ev rfl)) ?_
        refine Tq.val (wg rfl rfl rfl) rfl (fun _ _ a c => Jn (a.ev rfl) (a.ev rfl)) ?_
        obtain ⟨zlQ, znl, H⟩ := bnd H
        obtain ⟨zhj, zhi, zhh⟩ := zO znl
        refine Tq.val (wg rfl rfl rfl) rfl (fun _ _ a c => zD Kb (a.ev rfl) zQU (a.ev rfl) zhj zhi) ?_
        refine Tq.val (wg rfl rfl rfl) rfl (fun _ _ a c => zC QA (a.ev rfl) (rdo Jd (k := 43) c rfl zhh) rfl) ?_
        refine Tq.val (wg rfl rfl rfl) rfl (fun _ _ a c => zB zAo (a.ev rfl)) ?_
        refine Tq.val (wg rfl rfl rfl) rfl (fun _ _ a c => zC QA (a.ev rfl) (rdb c (vs := [iv xL7.X0, iv xL7.Y0, iv xL7.X1, iv xL7.Y1]) (k := 48) rfl 0) rfl) ?_
        refine Tq.val (wg rfl rfl rfl) rfl (fun _ _ a c => Vv (a.ev rfl) (a.ev rfl)) ?_
        refine Tq.va rfl (fun _ _ a c => zx (a.ev rfl) (a.ev rfl)) ?_
        obtain rfl := oI H
        exact Tq.fin (.cons rfl (.cons rfl (.cons rfl (.cons rfl (.cons rfl (.cons rfl (.cons rfl (.cons rfl (.cons rfl (.cons rfl (.cons rfl .nil)))))))))))
      ·refine Tq.nil (Tr.zA (Tr.cond rfl H (fun H => ?_) (fun H => ?_)))
       ·refine Tr.region (Tr.mv rfl rfl (Tr.mv rfl rfl (Tr.va rfl (fun _ _ a c => Jn (a.ev rfl) (a.ev rfl)) ?_)))
        obtain ⟨zfj, zat, H⟩ := bnd H
        refine Tr.va rfl (fun _ _ a c => zG9 Kb (a.ev rfl) zQU (a.ev rfl) zat) ?_
        refine Tr.asg rfl rfl (Tr.nil (Tr.zb (Tr.zA (Tr.region (Tr.va rfl (fun _ _ a c => zg (a.ev rfl) (a.ev rfl)) ?_)))))
        refine Tr.mv rfl rfl (Tr.nil (Tr.zWj 43 zat rfl ?_))
        exact Tr.zZ zHt (zEC, (iL7 + 1), zfj, zJW, zJS) ⟨rfl, Jh zJu, QF zJu, H, (zN4 zQU zat)⟩ (.cons rfl (.cons rfl (.cons rfl (.cons rfl (.cons rfl (.cons rfl (.cons rfl (.cons (congrArg (fun z => some (Value.int .i64 z)) (Jg zJu zIy)) .nil)))))))) (.cons rfl (.cons rfl (.cons rfl (.cons rfl .nil))))
       ·refine Tr.region (Tr.mv rfl rfl (Tr.va rfl (fun _ _ a c => zB zAo (a.ev rfl)) ?_))
        refine Tr.va rfl (fun _ _ a c => zC QA (a.ev rfl) (rdb c (vs := [iv xL7.X0, iv xL7.Y0, iv xL7.X1, iv xL7.Y1]) (k := 48) rfl 0) rfl) ?_
        refine Tr.buildSlice 49 (e := 3) (vs := [(0, iv xL7.X0)]) (cs := [iv xL7.X0]) (wn rfl) rfl (zi rfl Qh) (by kernel_rfl) fun zsD => ?_
        obtain ⟨zfi, zo2, H⟩ := bnd H
        refine Tr.append 43 (t := zW) (l := zFV) (l2 := [xL7.X0]) (wn rfl) rfl rfl rfl rfl (fun W hW => ⟨[[iv xL7.X0]], (.cons ⟨(), trivial, rfl⟩ .nil), rdb hW (vs := [iv xL7.X0]) (k := 49) rfl 0⟩) Vu zGN zK9 (by decide) zLq rfl zo2 fun zp6 zpg hAl346 => ?_
        refine Tr.asg rfl rfl (Tr.nil (Tr.zb (Tr.zA (Tr.region (Tr.va rfl (fun _ _ a c => zg (a.ev rfl) (a.ev rfl)) ?_)))))
        exact Tr.mv rfl rfl (Tr.nil (Tr.zZ zHt (zEC, (iL7 + 1), zfi, zp6, zpg) ⟨rfl, Jh zJu, QF zJu, H, hAl346⟩ (.cons rfl (.cons rfl (.cons rfl (.cons rfl (.cons rfl (.cons rfl (.cons rfl (.cons (congrArg (fun z => some (Value.int .i64 z)) (Jg zJu zIy)) .nil)))))))) (.cons rfl (.cons rfl (.cons rfl (.cons rfl .nil))))))
  ·refine Tr.exit (Tr.zP (Tr.zP (Tr.zl (Tr.zA (Tr.sr (Tr.mv rfl rfl (Tr.asg rfl rfl (Tr.nil (Tr.zA (Tr.ret ?_))))))))))
   obtain rfl := oI H
   exact Tr.out (m := [sL zG2 zFW zGr]) [] (zU rfl zY) (fun W hW => ⟨w, (zG2, zGr), leB, rfl, zau, hW.pick (ks := [28]) (by decide) (zn rfl zw)⟩)
 | cons xL3 zA0 =>
  rw [JV.eq_2] at H
  refine Tr.sr (Tr.va rfl (fun _ _ a c => zh (a.ev rfl) (a.ev rfl)) ?_)
  refine Tr.nil (Tr.zA (Tr.seq (Tr.zBM rfl (VD zHJ) ?_)))
  refine Tr.skip (Tr.zA (Tr.seq (Tr.block (Tr.sr ?_))))
  obtain ⟨zqr, hRu347, zc6, hcu347⟩ := (zK).el (Kv zHJ)
  obtain ⟨zK6, zKl⟩ := zqr
  have zCK := zc6
  replace zCK : Sl w.R w.W zz zK6 zKl xL3 := zCK
  refine Tr.va rfl (fun _ _ a c => zD zCl (a.ev rfl) zK.form (a.ev rfl) (Int.natCast_nonneg _) (QF zHJ)) ?_
  refine Tr.va rfl (fun _ _ a c => zC zDJ (a.ev rfl) (rdR hRu347 hcu347 c) rfl) ?_
  refine Tr.asg rfl rfl (Tr.nil (Tr.zA (Tr.sr (Tr.mv rfl rfl (Tr.va rfl (fun _ _ a c => zf zBI (a.ev rfl)) ?_)))))
  refine Tr.mv rfl rfl (Tr.nil (Tr.zA (Tr.block (Tr.loop (σ := (List zG) × Nat × (List Int) × (List zJ) × (Option Addr) × Nat × (Option Addr) × Nat) (fun m w s => m = s.1.length + 1 ∧ s.1 = List.drop s.2.1 xL3 ∧ s.2.1 ≤ xL3.length ∧ Kh (JV N zA0 (iL3 + 1)) xL3 s.1 s.2.1 s.2.2.1 s.2.2.2.1 = some r ∧ SlF s.2.2.2.2.1 s.2.2.1.length s.2.2.2.2.2.1 ∧ SlF s.2.2.2.2.2.2.1 s.2.2.2.1.length s.2.2.2.2.2.2.2) (fun s => [(3, sL s.2.2.2.2.1 s.2.2.1 s.2.2.2.2.2.1), (4, sL s.2.2.2.2.2.2.1 s.2.2.2.1 s.2.2.2.2.2.2.2), (6, sL zK6 xL3 zKl), (16, sL zF p0 zH), (17, iv (p0.length : Int)), (18, iv (iL3 : Int)), (22, sL zK6 xL3 zKl), (23, iv (xL3.length : Int)), (24, iv (s.2.1 : Int))]) (fun s => [(2, ow s.2.2.2.2.1 s.2.2.2.2.2.1 3 zW s.2.2.1), (3, ow s.2.2.2.2.2.2.1 s.2.2.2.2.2.2.2 36 zL s.2.2.2.1)]) (xL3.length + 1) (xL3, 0, zLY, zJo, zGH, zGA, zBX, zBT) ⟨rfl, rfl, Nat.zero_le _, H, zXN, zXM⟩ (.cons rfl (.cons rfl (.cons rfl (.cons rfl (.cons rfl (.cons rfl (.cons rfl (.cons rfl (.cons rfl .nil))))))))) (.cons rfl (.cons rfl .nil)) (fun _ _ h => absurd h.1 (by simp)) ?_))))
  intro w zKO m s hs
  obtain ⟨zAF, iL8, zPl, zMV, zYE, zXx, zUp, zUL⟩ := s
  obtain ⟨zV6, zEJ, hiL8, H, zas, zXE⟩ := hs
  replace zEJ : zAF = List.drop iL8 xL3 := zEJ
  replace H : Kh (JV N zA0 (iL3 + 1)) xL3 zAF iL8 zPl zMV = some r := H
  replace zV6 : m + 1 = zAF.length + 1 := zV6
  replace zCK := zCK.leR zKO
  replace zK := zK.leR zKO
  replace zDc := zDc.trans zKO
  replace zas : SlF zYE zPl.length zXx := zas
  replace zXE : SlF zUp zMV.length zUL := zXE
  obtain rfl : m = zAF.length := by omega
  clear zV6
  show Tr _ _ (LF [(3, sL zYE zPl zXx), (4, sL zUp zMV zUL), (6, sL zK6 xL3 zKl), (16, sL zF p0 zH), (17, iv (p0.length : Int)), (18, iv (iL3 : Int)), (22, sL zK6 xL3 zKl), (23, iv (xL3.length : Int)), (24, iv (iL8 : Int))]) (LE [(2, ow zYE zXx 3 zW zPl), (3, ow zUp zUL 36 zL zMV)]) _
  cases zAF with
  | nil =>
   rw [Kh.eq_1] at H
   refine Tr.sr (Tr.va rfl (fun _ _ a c => zh (a.ev rfl) (a.ev rfl)) ?_)
   refine Tr.nil (Tr.zA (Tr.seq (Tr.zBN rfl (KF zEJ) ?_)))
   refine Tr.exit (Tr.zP (Tr.zP (Tr.zl (Tr.zb (Tr.zA (Tr.region (Tr.va rfl (fun _ _ a c => zg (a.ev rfl) (a.ev rfl)) ?_)))))))
   exact Tr.mv rfl rfl (Tr.nil (Tr.zZ zDc (zA0, (iL3 + 1), zPl, zMV, zYE, zXx, zUp, zUL) ⟨rfl, Jh zHJ, QF zHJ, H, zas, zXE⟩ (.cons rfl (.cons rfl (.cons rfl (.cons rfl (.cons (congrArg (fun z => some (Value.int .i64 z)) (Jg zHJ zK.form)) .nil))))) (.cons rfl (.cons rfl .nil))))
  | cons xL8 zAF =>
   rw [Kh.eq_2] at H
   refine Tr.sr (Tr.va rfl (fun _ _ a c => zh (a.ev rfl) (a.ev rfl)) ?_)
   refine Tr.nil (Tr.zA (Tr.seq (Tr.zBM rfl (VD zEJ) ?_)))
   refine Tr.skip (Tr.zA (Tr.seq (Tr.block (Tr.sr (Tr.mv rfl rfl (Tr.va rfl (fun _ _ a c => zD zAh (a.ev rfl) zCK.form (a.ev rfl) (Int.natCast_nonneg _) (QF zEJ)) ?_))))))
   refine Tr.va rfl (fun _ _ a c => ze (cs := [iv xL8.X, iv xL8.Y]) WP KI (a.ev rfl) (zQ.take (rdF Jb zCK (Kv zEJ) c) 2) rfl) ?_
   refine Tr.alloc 58 (wn rfl) rfl zDS fun zsC => ?_
   refine Tr.asg rfl rfl (Tr.store 58 (cs := [iv xL8.X, iv xL8.Y]) [iv xL8.X, iv xL8.Y] (wn rfl) rfl rfl rfl rfl KI rfl rfl rfl ?_)
   refine Tr.nil (Tr.zA (Tr.sr (Tr.mv rfl rfl (Tr.mv rfl rfl (Tr.va rfl (fun _ _ a c => zg (a.ev rfl) (a.ev rfl)) ?_)))))
   refine Tr.mv rfl rfl (Tr.va rfl (fun _ _ a c => zf zBI (a.ev rfl)) ?_)
   obtain ⟨q378, zob, H⟩ := bnd H
   refine Tr.va rfl (fun _ _ a c => zLI (a.ev rfl) (a.ev rfl) zob) ?_
   obtain ⟨zDP, znk, H⟩ := bnd H
   obtain ⟨zhg, zhf, zhe⟩ := zO znk
   refine Tr.va rfl (fun _ _ a c => zD zAh (a.ev rfl) zCK.form (a.ev rfl) zhg zhf) ?_
   refine Tr.va rfl (fun _ _ a c => ze (cs := [iv zDP.X, iv zDP.Y]) WP KI (a.ev rfl) (zQ.take (rdF Jb zCK zhe c) 2) rfl) ?_
   refine Tr.alloc 59 (wn rfl) rfl zDS fun zsB => ?_
   refine Tr.store 59 (cs := [iv zDP.X, iv zDP.Y]) [iv zDP.X, iv zDP.Y] (wn rfl) rfl rfl rfl rfl KI rfl rfl rfl ?_
   refine Tr.nil (Tr.zA (Tr.sr (Tr.mv rfl rfl (Tr.va rfl (fun _ _ a c => zB VP (a.ev rfl)) ?_))))
   refine Tr.va rfl (fun _ _ a c => zC QA (a.ev rfl) (rdb c (vs := [iv xL8.X, iv xL8.Y]) (k := 58) rfl 1) rfl) ?_
   refine Tr.buildSlice 60 (e := 3) (vs := [(0, iv xL8.Y)]) (cs := [iv xL8.Y]) (wn rfl) rfl (zi rfl Qh) (by kernel_rfl) fun zsA => ?_
   obtain ⟨zZ4, zo1, H⟩ := bnd H
   refine Tr.append 2 (t := zW) (l := zPl) (l2 := [xL8.Y]) (wn rfl) rfl rfl rfl rfl (fun W hW => ⟨[[iv xL8.Y]], (.cons ⟨(), trivial, rfl⟩ .nil), rdb hW (vs := [iv xL8.Y]) (k := 60) rfl 0⟩) Vu zGN zK9 (by decide) zLq rfl zo1 fun zex zet hAl382 => ?_
   refine Tr.asg rfl rfl (Tr.nil (Tr.zA (Tr.sr (Tr.va rfl (fun _ _ a c => zB Wo (a.ev rfl)) ?_))))
   refine Tr.va rfl (fun _ _ a c => zC QA (a.ev rfl) (rdb c (vs := [iv xL8.X, iv xL8.Y]) (k := 58) rfl 0) rfl) ?_
   refine Tr.va rfl (fun _ _ a c => zB Wo (a.ev rfl)) ?_
   refine Tr.va rfl (fun _ _ a c => zC QA (a.ev rfl) (rdb c (vs := [iv zDP.X, iv zDP.Y]) (k := 59) rfl 0) rfl) ?_
   refine Tr.va rfl (fun _ _ a c => Vv (a.ev rfl) (a.ev rfl)) ?_
   refine Tr.nil (Tr.zA (Tr.cond rfl H (fun H => ?_) (fun H => ?_)))
   ·refine Tr.region (Tr.mv rfl rfl (Tr.va rfl (fun _ _ a c => zB Wo (a.ev rfl)) ?_))
    refine Tr.va rfl (fun _ _ a c => zC QA (a.ev rfl) (rdb c (vs := [iv xL8.X, iv xL8.Y]) (k := 58) rfl 0) rfl) ?_
    refine Tr.va rfl (fun _ _ a c => zB VP (a.ev rfl)) ?_
    refine Tr.va rfl (fun _ _ a c => zC QA (a.ev rfl) (rdb c (vs := [iv xL8.X, iv xL8.Y]) (k := 58) rfl 1) rfl) ?_
    refine Tr.va rfl (fun _ _ a c => zB VP (a.ev rfl)) ?_
    refine Tr.va rfl (fun _ _ a c => zC QA (a.ev rfl) (rdb c (vs := [iv zDP.X, iv zDP.Y]) (k := 59) rfl 1) rfl) ?_
    refine Tr.va rfl (fun _ _ a c => zMg (a.ev rfl) (a.ev rfl) _) ?_
    refine Tr.va rfl (fun _ _ a c => zB VP (a.ev rfl)) ?_
    refine Tr.va rfl (fun _ _ a c => zC QA (a.ev rfl) (rdb c (vs := [iv xL8.X, iv xL8.Y]) (k := 58) rfl 1) rfl) ?_
    refine Tr.va rfl (fun _ _ a c => zB VP (a.ev rfl)) ?_
    refine Tr.va rfl (fun _ _ a c => zC QA (a.ev rfl) (rdb c (vs := [iv zDP.X, iv zDP.Y]) (k := 59) rfl 1) rfl) ?_
    refine Tr.va rfl (fun _ _ a c => zKA (a.ev rfl) (a.ev rfl) _) ?_
    refine Tr.build (vs := [(0, iv xL8.X), (1, iv (min xL8.Y zDP.Y)), (3, iv (max xL8.Y zDP.Y))]) (cs := [iv xL8.X, iv (min xL8.Y zDP.Y), iv 0, iv (max xL8.Y zDP.Y)]) (wn rfl) rfl (zi rfl (zi rfl (zi rfl Qh))) (by kernel_rfl) ?_
    refine Tr.buildSlice 61 (e := 36) (vs := [(0, .agg #[iv xL8.X, iv (min xL8.Y zDP.Y), iv 0, iv (max xL8.Y zDP.Y)])]) (cs := [iv xL8.X, iv (min xL8.Y zDP.Y), iv 0, iv (max xL8.Y zDP.Y)]) (wn rfl) rfl (zi rfl Qh) (by kernel_rfl) fun zr9 => ?_
    obtain ⟨zfh, zo0, H⟩ := bnd H
    refine Tr.append 3 (t := zL) (l := zMV) (l2 := [(zJ.mk xL8.X (min xL8.Y zDP.Y) 0 (max xL8.Y zDP.Y))]) (wn rfl) rfl rfl rfl rfl (fun W hW => ⟨[[iv xL8.X, iv (min xL8.Y zDP.Y), iv 0, iv (max xL8.Y zDP.Y)]], (.cons ⟨(), trivial, rfl⟩ .nil), rdb hW (vs := [iv xL8.X, iv (min xL8.Y zDP.Y), iv 0, iv (max xL8.Y zDP.Y)]) (k := 61) rfl 0⟩) zA9 zAK zSs (by decide) zUW rfl zo0 fun zp5 zpf hAl384 => ?_
    refine Tr.asg rfl rfl (Tr.nil (Tr.zb (Tr.zA (Tr.region (Tr.va rfl (fun _ _ a c => zg (a.ev rfl) (a.ev rfl)) ?_)))))
    exact Tr.mv rfl rfl (Tr.nil (Tr.zZ zKO (zAF, (iL8 + 1), zZ4, zfh, zex, zet, zp5, zpf) ⟨rfl, Jh zEJ, QF zEJ, H, hAl382, hAl384⟩ (.cons rfl (.cons rfl (.cons rfl (.cons rfl (.cons rfl (.cons rfl (.cons rfl (.cons rfl (.cons (congrArg (fun z => some (Value.int .i64 z)) (Jg zEJ zCK.form)) .nil))))))))) (.cons rfl (.cons rfl .nil))))
   ·refine Tr.skip (Tr.zb (Tr.zA (Tr.region (Tr.va rfl (fun _ _ a c => zg (a.ev rfl) (a.ev rfl)) ?_))))
    exact Tr.mv rfl rfl (Tr.nil (Tr.zZ zKO (zAF, (iL8 + 1), zZ4, zMV, zex, zet, zUp, zUL) ⟨rfl, Jh zEJ, QF zEJ, H, hAl382, zXE⟩ (.cons rfl (.cons rfl (.cons rfl (.cons rfl (.cons rfl (.cons rfl (.cons rfl (.cons rfl (.cons (congrArg (fun z => some (Value.int .i64 z)) (Jg zEJ zCK.form)) .nil))))))))) (.cons rfl (.cons rfl .nil))))

end Go.Proofs.YtacapjleiadkkaaGreat
