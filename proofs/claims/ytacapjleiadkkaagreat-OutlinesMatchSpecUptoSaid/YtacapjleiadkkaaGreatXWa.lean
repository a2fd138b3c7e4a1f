/- The walks: each function computes its plain function. -/
import Derived.Test.YtacapjleiadkkaaGreatXF
namespace Go.Proofs.YtacapjleiadkkaaGreat
open Go.RowKit
set_option maxRecDepth 100000
set_option maxHeartbeats 1000000
theorem zKv {w : Bs} (p0 : Int) (p1 : Int) (p2 : Int) (r : Bool) (H : zDt p0 p1 p2 = some r) (hE : HF w w.W E0) : Calls Tryz.prog 86 [iv p0, iv p1, iv p2].toArray w.W fun e W' => e = .returned (bV r) ∧ HF w W' E0 := by
 unfold zDt at H
 have leB := Bs.Le.refl w
 refine Tr.enter (n := 15) Tryz.func86 rfl rfl rfl hE ?_
 refine Tr.sr (Tr.asg rfl rfl (Tr.nil (Tr.zA (Tr.sr (Tr.mv rfl rfl (Tr.mv rfl rfl (Tr.va rfl (fun _ _ a c => zEz (a.ev rfl) (a.ev rfl)) ?_)))))))
 refine Tr.mv rfl rfl (Tr.zBy 4 [(14, bV ((decide (p1 ≤ p0)) && (decide (p0 ≤ p2))))] [] ?_ ?_)
 ·cases zkX : (decide (p1 ≤ p0))
  ·refine Tr.pass rfl rfl rfl rfl rfl (by decide) ?_
   refine Tr.pass rfl rfl rfl rfl rfl (by decide) ?_
   refine Tr.pass rfl rfl rfl rfl rfl (by decide) ?_
   refine Tr.va rfl (fun _ _ a c => zy (a.ev rfl) (a.ev rfl)) ?_
   exact Tr.nil (Tr.VW (.cons rfl .nil) .nil)
  ·refine Tr.val (wg rfl rfl rfl) rfl (fun _ _ a c => run_move (a.ev rfl)) ?_
   refine Tr.val (wg rfl rfl rfl) rfl (fun _ _ a c => run_move (a.ev rfl)) ?_
   refine Tr.val (wg rfl rfl rfl) rfl (fun _ _ a c => zBJ (a.ev rfl) (a.ev rfl)) ?_
   refine Tr.va rfl (fun _ _ a c => zx (a.ev rfl) (a.ev rfl)) ?_
   exact Tr.nil (Tr.VW (.cons rfl .nil) .nil)
 ·show Tr _ _ (LF [(14, bV ((decide (p1 ≤ p0)) && (decide (p0 ≤ p2))))]) (LE []) _
  refine Tr.asg rfl rfl (Tr.nil (Tr.zA (Tr.ret ?_)))
  obtain rfl := oI H
  exact Tr.out (m := [bV ((decide (p1 ≤ p0)) && (decide (p0 ≤ p2)))]) [] (zU rfl zY) (fun W hW => ⟨rfl, hW.low leB⟩)

theorem zBH {w : Bs} (p0 : Int) (r : Bool) (H : zAN p0 = some r) (hE : HF w w.W E0) : Calls Tryz.prog 56 [iv p0].toArray w.W fun e W' => e = .returned (bV r) ∧ HF w W' E0 := by
 unfold zAN at H
 have leB := Bs.Le.refl w
 refine Tr.enter (n := 5) Tryz.func56 rfl rfl rfl hE ?_
 refine Tr.sr (Tr.asg rfl rfl (Tr.nil (Tr.zA (Tr.sr (Tr.mv rfl rfl ?_)))))
 obtain ⟨zN, zAQ, H⟩ := bnd H
 refine Tr.KV (r := (bV zN)) (wn rfl) rfl Tryz.call86 (zI rfl (zI rfl (zI rfl zX))) (fun W hW => zKv p0 (-1000000) 1000000 zN zAQ (HF.start _)) ?_
 refine Tr.asg rfl rfl (Tr.nil (Tr.zA (Tr.ret ?_)))
 obtain rfl := oI H
 exact Tr.out (m := [bV zN]) [] (zU rfl zY) (fun W hW => ⟨rfl, hW.low leB⟩)

theorem zKw {w : Bs} (p0 : zJ) (r : Bool) (H : zCf p0 = some r) (hE : HF w w.W E0) : Calls Tryz.prog 65 [.agg #[iv p0.X0, iv p0.Y0, iv p0.X1, iv p0.Y1]].toArray w.W fun e W' => e = .returned (bV r) ∧ HF w W' E0 := by
 unfold zCf at H
 have leB := Bs.Le.refl w
 refine Tr.enter (n := 21) Tryz.func65 rfl rfl rfl hE ?_
 refine Tr.sr (Tr.box 1 (cs := [iv p0.X0, iv p0.Y0, iv p0.X1, iv p0.Y1]) (wn rfl) rfl rfl rfl fun QQ => ?_)
 refine Tr.asg rfl rfl (Tr.nil (Tr.zA (Tr.sr (Tr.va rfl (fun _ _ a c => zB zAo (a.ev rfl)) ?_))))
 refine Tr.va rfl (fun _ _ a c => zC QA (a.ev rfl) (rdb c (vs := [iv p0.X0, iv p0.Y0, iv p0.X1, iv p0.Y1]) (k := 1) rfl 0) rfl) ?_
 obtain ⟨y101, hy101, H⟩ := bnd H
 refine Tr.KV (r := (bV y101)) (wn rfl) rfl Tryz.call56 (zI rfl zX) (fun W hW => zBH p0.X0 y101 hy101 (HF.start _)) ?_
 refine Tr.mv rfl rfl ?_
 obtain ⟨zIM, zDH, H⟩ := bnd H
 refine Tr.zBy 4 [(1, pV QQ), (10, bV zIM)] [(1, bx QQ #[iv p0.X0, iv p0.Y0, iv p0.X1, iv p0.Y1] 36)] ?_ ?_
 ·cases zFb : y101
  ·rw [zFb] at zDH
   rw [if_neg (by decide)] at zDH
   have H := zDH
   obtain rfl := oI H
   refine Tr.pass rfl rfl rfl rfl rfl (by decide) ?_
   refine Tr.pass rfl rfl rfl rfl rfl (by decide) ?_
   refine Tr.pass rfl rfl rfl rfl rfl (by decide) ?_
   refine Tr.va rfl (fun _ _ a c => zy (a.ev rfl) (a.ev rfl)) ?_
   exact Tr.nil (Tr.VW (.cons rfl (.cons rfl .nil)) (.cons rfl .nil))
  ·rw [zFb] at zDH
   rw [if_pos rfl] at zDH
   have H := zDH
   refine Tr.val (wg rfl rfl rfl) rfl (fun _ _ a c => zB zAL (a.ev rfl)) ?_
   refine Tr.val (wg rfl rfl rfl) rfl (fun _ _ a c => zC QA (a.ev rfl) (rdb c (vs := [iv p0.X0, iv p0.Y0, iv p0.X1, iv p0.Y1]) (k := 1) rfl 1) rfl) ?_
   obtain ⟨y104, hy104, H⟩ := bnd H
   refine Tr.KV (r := (bV y104)) (wg rfl rfl rfl) rfl Tryz.call56 (zI rfl zX) (fun W hW => zBH p0.Y0 y104 hy104 (HF.start _)) ?_
   refine Tr.va rfl (fun _ _ a c => zx (a.ev rfl) (a.ev rfl)) ?_
   obtain rfl := oI H
   exact Tr.nil (Tr.VW (.cons rfl (.cons rfl .nil)) (.cons rfl .nil))
 ·show Tr _ _ (LF [(1, pV QQ), (10, bV zIM)]) (LE [(1, bx QQ #[iv p0.X0, iv p0.Y0, iv p0.X1, iv p0.Y1] 36)]) _
  refine Tr.mv rfl rfl ?_
  obtain ⟨zbY, zQy, H⟩ := bnd H
  refine Tr.zBy 4 [(1, pV QQ), (15, bV zbY)] [(1, bx QQ #[iv p0.X0, iv p0.Y0, iv p0.X1, iv p0.Y1] 36)] ?_ ?_
  ·cases zFb : zIM
   ·rw [zFb] at zQy
    rw [if_neg (by decide)] at zQy
    have H := zQy
    obtain rfl := oI H
    refine Tr.pass rfl rfl rfl rfl rfl (by decide) ?_
    refine Tr.pass rfl rfl rfl rfl rfl (by decide) ?_
    refine Tr.pass rfl rfl rfl rfl rfl (by decide) ?_
    refine Tr.va rfl (fun _ _ a c => zy (a.ev rfl) (a.ev rfl)) ?_
    exact Tr.nil (Tr.VW (.cons rfl (.cons rfl .nil)) (.cons rfl .nil))
   ·rw [zFb] at zQy
    rw [if_pos rfl] at zQy
    have H := zQy
    refine Tr.val (wg rfl rfl rfl) rfl (fun _ _ a c => zB zE2 (a.ev rfl)) ?_
    refine Tr.val (wg rfl rfl rfl) rfl (fun _ _ a c => zC QA (a.ev rfl) (rdb c (vs := [iv p0.X0, iv p0.Y0, iv p0.X1, iv p0.Y1]) (k := 1) rfl 2) rfl) ?_
    obtain ⟨zLD, zaW, H⟩ := bnd H
    refine Tr.KV (r := (bV zLD)) (wg rfl rfl rfl) rfl Tryz.call56 (zI rfl zX) (fun W hW => zBH p0.X1 zLD zaW (HF.start _)) ?_
    refine Tr.va rfl (fun _ _ a c => zx (a.ev rfl) (a.ev rfl)) ?_
    obtain rfl := oI H
    exact Tr.nil (Tr.VW (.cons rfl (.cons rfl .nil)) (.cons rfl .nil))
  ·show Tr _ _ (LF [(1, pV QQ), (15, bV zbY)]) (LE [(1, bx QQ #[iv p0.X0, iv p0.Y0, iv p0.X1, iv p0.Y1] 36)]) _
   refine Tr.mv rfl rfl ?_
   obtain ⟨zbX, zQx, H⟩ := bnd H
   refine Tr.zBy 4 [(20, bV zbX)] [(1, bx QQ #[iv p0.X0, iv p0.Y0, iv p0.X1, iv p0.Y1] 36)] ?_ ?_
   ·cases zFb : zbY
    ·rw [zFb] at zQx
     rw [if_neg (by decide)] at zQx
     have H := zQx
     obtain rfl := oI H
     refine Tr.pass rfl rfl rfl rfl rfl (by decide) ?_
     refine Tr.pass rfl rfl rfl rfl rfl (by decide) ?_
     refine Tr.pass rfl rfl rfl rfl rfl (by decide) ?_
     refine Tr.va rfl (fun _ _ a c => zy (a.ev rfl) (a.ev rfl)) ?_
     exact Tr.nil (Tr.VW (.cons rfl .nil) (.cons rfl .nil))
    ·rw [zFb] at zQx
     rw [if_pos rfl] at zQx
     have H := zQx
     refine Tr.val (wg rfl rfl rfl) rfl (fun _ _ a c => zB zDg (a.ev rfl)) ?_
     refine Tr.val (wg rfl rfl rfl) rfl (fun _ _ a c => zC QA (a.ev rfl) (rdb c (vs := [iv p0.X0, iv p0.Y0, iv p0.X1, iv p0.Y1]) (k := 1) rfl 3) rfl) ?_
     obtain ⟨zI8, zTh, H⟩ := bnd H
     refine Tr.KV (r := (bV zI8)) (wg rfl rfl rfl) rfl Tryz.call56 (zI rfl zX) (fun W hW => zBH p0.Y1 zI8 zTh (HF.start _)) ?_
     refine Tr.va rfl (fun _ _ a c => zx (a.ev rfl) (a.ev rfl)) ?_
     obtain rfl := oI H
     exact Tr.nil (Tr.VW (.cons rfl .nil) (.cons rfl .nil))
   ·show Tr _ _ (LF [(20, bV zbX)]) (LE [(1, bx QQ #[iv p0.X0, iv p0.Y0, iv p0.X1, iv p0.Y1] 36)]) _
    refine Tr.asg rfl rfl (Tr.nil (Tr.zA (Tr.ret ?_)))
    obtain rfl := oI H
    exact Tr.out (m := [bV zbX]) [] (zU rfl zY) (fun W hW => ⟨rfl, hW.low leB⟩)

theorem zHx {w : Bs} (p0 : (List zJ)) (zF : Option Addr) (zH : Nat) (zK : Sl w.R w.W zL zF zH p0) (r : Int) (H : zAJ p0 = some r) (hE : HF w w.W E0) : Calls Tryz.prog 27 [sL zF p0 zH].toArray w.W fun e W' => e = .returned (iv r) ∧ HF w W' E0 := by
 unfold zAJ at H
 have leB := Bs.Le.refl w
 refine Tr.enter (n := 30) Tryz.func27 rfl rfl rfl hE ?_
 refine Tr.sr (Tr.asg rfl rfl (Tr.nil (Tr.zA (Tr.seq (Tr.sr (Tr.mv rfl rfl (Tr.va rfl (fun _ _ a c => zf zA9 (a.ev rfl)) ?_)))))))
 refine Tr.va rfl (fun _ _ a c => Wx (a.ev rfl) (a.ev rfl)) ?_
 refine Tr.nil (Tr.zA (Tr.cond rfl H (fun H => ?_) (fun H => ?_)))
 ·refine Tr.sr (Tr.asg rfl rfl (Tr.nil (Tr.zA (Tr.ret (Tr.zq ?_)))))
  obtain rfl := oI H
  exact Tr.out (m := [iv 2]) [] (zU rfl zY) (fun W hW => ⟨rfl, hW.low leB⟩)
 ·refine Tr.skip (Tr.zA (Tr.seq (Tr.sr (Tr.mv rfl rfl (Tr.va rfl (fun _ _ a c => zf zA9 (a.ev rfl)) ?_)))))
  refine Tr.mv rfl rfl (Tr.nil (Tr.zA (Tr.block (Tr.loop (σ := (List zJ) × Nat) (fun m w s => m = s.1.length + 1 ∧ s.1 = List.drop s.2 p0 ∧ s.2 ≤ p0.length ∧ KO s.1 s.2 = some r) (fun s => [(8, sL zF p0 zH), (9, iv (p0.length : Int)), (10, iv (s.2 : Int))]) (fun s => []) (p0.length + 1) (p0, 0) ⟨rfl, rfl, Nat.zero_le _, H⟩ (.cons rfl (.cons rfl (.cons rfl .nil))) .nil (fun _ _ h => absurd h.1 (by simp)) ?_))))
  intro w QI m s hs
  obtain ⟨zV, iL1⟩ := s
  obtain ⟨Vn, QK, hiL1, H⟩ := hs
  replace QK : zV = List.drop iL1 p0 := QK
  replace H : KO zV iL1 = some r := H
  replace Vn : m + 1 = zV.length + 1 := Vn
  replace zK := zK.leR QI
  replace leB := leB.trans QI
  obtain rfl : m = zV.length := by omega
  clear Vn
  show Tr _ _ (LF [(8, sL zF p0 zH), (9, iv (p0.length : Int)), (10, iv (iL1 : Int))]) (LE []) _
  cases zV with
  | nil =>
   rw [KO.eq_1] at H
   refine Tr.sr (Tr.va rfl (fun _ _ a c => zh (a.ev rfl) (a.ev rfl)) ?_)
   refine Tr.nil (Tr.zA (Tr.seq (Tr.zBN rfl (KF QK) ?_)))
   refine Tr.exit (Tr.zP (Tr.zP (Tr.zl (Tr.zA (Tr.sr (Tr.asg rfl rfl (Tr.nil (Tr.zA (Tr.ret ?_)))))))))
   obtain rfl := oI H
   exact Tr.out (m := [iv 0]) [] (zU rfl zY) (fun W hW => ⟨rfl, hW.low leB⟩)
  | cons xL1 zV =>
   rw [KO.eq_2] at H
   refine Tr.sr (Tr.va rfl (fun _ _ a c => zh (a.ev rfl) (a.ev rfl)) ?_)
   refine Tr.nil (Tr.zA (Tr.seq (Tr.zBM rfl (VD QK) ?_)))
   refine Tr.skip (Tr.zA (Tr.seq (Tr.block (Tr.sr (Tr.va rfl (fun _ _ a c => zD zA3 (a.ev rfl) zK.form (a.ev rfl) (Int.natCast_nonneg _) (QF QK)) ?_)))))
   refine Tr.va rfl (fun _ _ a c => ze (cs := [iv xL1.X0, iv xL1.Y0, iv xL1.X1, iv xL1.Y1]) zCw zAK (a.ev rfl) (zQ.take (rdF KL zK (Kv QK) c) 4) rfl) ?_
   refine Tr.alloc 2 (wn rfl) rfl zHY fun WR => ?_
   refine Tr.store 2 (cs := [iv xL1.X0, iv xL1.Y0, iv xL1.X1, iv xL1.Y1]) [iv xL1.X0, iv xL1.Y0, iv xL1.X1, iv xL1.Y1] (wn rfl) rfl rfl rfl rfl zAK rfl rfl rfl ?_
   refine Tr.nil (Tr.zA (Tr.seq (Tr.sr (Tr.va rfl (fun _ _ a c => ze (cs := [iv xL1.X0, iv xL1.Y0, iv xL1.X1, iv xL1.Y1]) zCw zAK (a.ev rfl) (zQ.take (rdb c (vs := [iv xL1.X0, iv xL1.Y0, iv xL1.X1, iv xL1.Y1]) (k := 2) rfl 0) 4) rfl) ?_))))
   obtain ⟨zcN, znA, H⟩ := bnd H
   refine Tr.KV (r := (bV zcN)) (wn rfl) rfl Tryz.call65 (zI rfl zX) (fun W hW => zKw xL1 zcN znA (HF.start _)) ?_
   refine Tr.va rfl (fun _ _ a c => Wm (a.ev rfl)) ?_
   refine Tr.nil (Tr.zA (Tr.cond rfl H (fun H => ?_) (fun H => ?_)))
   ·refine Tr.sr (Tr.asg rfl rfl (Tr.nil (Tr.zA (Tr.ret (Tr.zq (Tr.QY (Tr.zq (Tr.zq (Tr.QY (Tr.zq ?_))))))))))
    obtain rfl := oI H
    exact Tr.out (m := [iv 1]) [] (zU rfl zY) (fun W hW => ⟨rfl, hW.low leB⟩)
   ·refine Tr.skip (Tr.zA (Tr.sr (Tr.va rfl (fun _ _ a c => zB zE2 (a.ev rfl)) ?_)))
    refine Tr.va rfl (fun _ _ a c => zC QA (a.ev rfl) (rdb c (vs := [iv xL1.X0, iv xL1.Y0, iv xL1.X1, iv xL1.Y1]) (k := 2) rfl 2) rfl) ?_
    refine Tr.va rfl (fun _ _ a c => zB zAo (a.ev rfl)) ?_
    refine Tr.va rfl (fun _ _ a c => zC QA (a.ev rfl) (rdb c (vs := [iv xL1.X0, iv xL1.Y0, iv xL1.X1, iv xL1.Y1]) (k := 2) rfl 0) rfl) ?_
    refine Tr.va rfl (fun _ _ a c => zBJ (a.ev rfl) (a.ev rfl)) ?_
    refine Tr.mv rfl rfl (Tr.zBy 6 [(8, sL zF p0 zH), (9, iv (p0.length : Int)), (10, iv (iL1 : Int)), (28, bV ((decide (xL1.X1 ≤ xL1.X0)) || (decide (xL1.Y1 ≤ xL1.Y0))))] [(2, bx WR #[iv xL1.X0, iv xL1.Y0, iv xL1.X1, iv xL1.Y1] 36)] ?_ ?_)
    ·cases zOq : (decide (xL1.X1 ≤ xL1.X0))
     ·refine Tr.val (wg rfl rfl rfl) rfl (fun _ _ a c => zB zDg (a.ev rfl)) ?_
      refine Tr.val (wg rfl rfl rfl) rfl (fun _ _ a c => zC QA (a.ev rfl) (rdb c (vs := [iv xL1.X0, iv xL1.Y0, iv xL1.X1, iv xL1.Y1]) (k := 2) rfl 3) rfl) ?_
      refine Tr.val (wg rfl rfl rfl) rfl (fun _ _ a c => zB zAL (a.ev rfl)) ?_
      refine Tr.val (wg rfl rfl rfl) rfl (fun _ _ a c => zC QA (a.ev rfl) (rdb c (vs := [iv xL1.X0, iv xL1.Y0, iv xL1.X1, iv xL1.Y1]) (k := 2) rfl 1) rfl) ?_
      refine Tr.val (wg rfl rfl rfl) rfl (fun _ _ a c => zBJ (a.ev rfl) (a.ev rfl)) ?_
      refine Tr.va rfl (fun _ _ a c => zy (a.ev rfl) (a.ev rfl)) ?_
      exact Tr.nil (Tr.VW (.cons rfl (.cons rfl (.cons rfl (.cons rfl .nil)))) (.cons rfl .nil))
     ·refine Tr.pass rfl rfl rfl rfl rfl (by decide) ?_
      refine Tr.pass rfl rfl rfl rfl rfl (by decide) ?_
      refine Tr.pass rfl rfl rfl rfl rfl (by decide) ?_
      refine Tr.pass rfl rfl rfl rfl rfl (by decide) ?_
      refine Tr.pass rfl rfl rfl rfl rfl (by decide) ?_
      refine Tr.va rfl (fun _ _ a c => zx (a.ev rfl) (a.ev rfl)) ?_
      exact Tr.nil (Tr.VW (.cons rfl (.cons rfl (.cons rfl (.cons rfl .nil)))) (.cons rfl .nil))
    ·show Tr _ _ (LF [(8, sL zF p0 zH), (9, iv (p0.length : Int)), (10, iv (iL1 : Int)), (28, bV ((decide (xL1.X1 ≤ xL1.X0)) || (decide (xL1.Y1 ≤ xL1.Y0))))]) (LE [(2, bx WR #[iv xL1.X0, iv xL1.Y0, iv xL1.X1, iv xL1.Y1] 36)]) _
     refine Tr.nil (Tr.zA (Tr.cond rfl H (fun H => ?_) (fun H => ?_)))
     ·refine Tr.sr (Tr.asg rfl rfl (Tr.nil (Tr.zA (Tr.ret (Tr.QY (Tr.zq (Tr.zq (Tr.QY (Tr.zq ?_)))))))))
      obtain rfl := oI H
      exact Tr.out (m := [iv 13]) [] (zU rfl zY) (fun W hW => ⟨rfl, hW.low leB⟩)
     ·refine Tr.skip (Tr.zb (Tr.zA (Tr.region (Tr.va rfl (fun _ _ a c => zg (a.ev rfl) (a.ev rfl)) ?_))))
      exact Tr.mv rfl rfl (Tr.nil (Tr.zZ QI (zV, (iL1 + 1)) ⟨rfl, Jh QK, QF QK, H⟩ (.cons rfl (.cons rfl (.cons (congrArg (fun z => some (Value.int .i64 z)) (Jg QK zK.form)) .nil))) .nil))

theorem zHS {w : Bs} (p0 : (List zJ)) (zF : Option Addr) (zH : Nat) (zK : Sl w.R w.W zL zF zH p0) (r : (List zJ)) (H : zAj p0 = some r) (hE : HF w w.W (LEn [emp])) : Calls Tryz.prog 29 [sL zF p0 zH].toArray w.W fun e W' => ∃ u : (Option Addr × Nat), e = .returned (sL u.1 r u.2) ∧ (SlF u.1 r.length u.2) ∧ HF w W' (LEn [ow u.1 u.2 36 zL r]) := by
 unfold zAj at H
 have leB := Bs.Le.refl w
 refine Tr.enter (n := 8) Tryz.func29 rfl rfl rfl hE ?_
 refine Tr.sr (Tr.asg rfl rfl (Tr.Qb 1 36 zL ?_))
 show Tr _ _ (uf _ 2 (sL none (([] : List zJ)) 0)) _ _
 refine Tr.nil (Tr.zA (Tr.seq (Tr.sr (Tr.mv rfl rfl (Tr.va rfl (fun _ _ a c => zVG zA9 (a.ev rfl) (a.ev rfl)) ?_)))))
 refine Tr.nil (Tr.zA ?_)
 cases zF with
 | none =>
  have hl0 := zZa zK.form
  replace H : (some ([] : List zJ)) = some r := by simpa [apd, hl0] using H
  refine Tr.zBM rfl rfl ?_
  refine Tr.sr (Tr.asg rfl rfl (Tr.Qb 2 36 zL ?_))
  show Tr _ _ (uf _ 2 (sL none (([] : List zJ)) 0)) _ _
  refine Tr.nil (Tr.zA (Tr.ret (Tr.zq ?_)))
  obtain rfl := oI H
  exact Tr.out (m := [sL none (([] : List zJ)) 0]) [] (zU rfl zY) (fun W hW => ⟨(none, 0), rfl, Jm, HF.zEF leB (hW.pick (ks := [2]) (by decide) (zn rfl zw)) ⟨Ww _ _ _ _ WW, trivial⟩⟩)
 | some a102 =>
  refine Tr.zBN rfl rfl ?_
  refine Tr.skip (Tr.zA (Tr.sr (Tr.buildSlice 3 (e := 36) (vs := []) (cs := []) (wn rfl) rfl Qh (by kernel_rfl) fun QQ => ?_)))
  refine Tr.mv rfl rfl (Tr.own 3 zL ([] : List zJ) (css := []) rfl .nil rfl (by decide) (zR2 rfl) ?_)
  obtain ⟨zFp, zTx, H⟩ := bnd H
  refine Tr.zDp 3 (t := zL) (l := ([] : List zJ)) (l2 := p0) (wn rfl) rfl rfl rfl rfl (apT WW (fun W hW => (Sl.inB zK hW))) zA9 zAK zSs (by decide) zUW rfl zTx fun zJX zJT hAl101 => ?_
  refine Tr.asg rfl rfl (Tr.nil (Tr.zA (Tr.ret ?_)))
  obtain rfl := oI H
  exact Tr.out (m := [sL zJX zFp zJT]) [] (zU rfl zY) (fun W hW => ⟨(zJX, zJT), rfl, hAl101, HF.zEF leB (hW.pick (ks := [3]) (by decide) (zn rfl zw)) ⟨Ww _ _ _ _ WW, trivial⟩⟩)

theorem zA4 {w : Bs} (p0 : List zJ) (zF : Option Addr) (zH : Nat) (p1 : zJ → zJ → Option Int) (fid1 : Nat) (cap1 : List Value) (hg1 : ∀ args W, (callFunc fid1 args).run Tryz.prog W = .ok (.enter fid1 args) W) (hf1 : ∀ (w' : Bs), w.Ext w' → ∀ (z0 : zJ) (z1 : zJ), ∀ y, p1 z0 z1 = some y → Calls Tryz.prog fid1 (([.agg #[iv z0.X0, iv z0.Y0, iv z0.X1, iv z0.Y1], .agg #[iv z1.X0, iv z1.Y0, iv z1.X1, iv z1.Y1]] : List Value) ++ cap1).toArray w'.W fun e W'' => e = .returned (iv y) ∧ HF w' W'' E0) (r : List zJ) (H : zJi p0 p1 = some r) (hE : HF w w.W (LEn [ow zF zH 36 zL p0])) : Calls Tryz.prog 30 [sL zF p0 zH, .func (.func fid1) #[] cap1.toArray].toArray w.W fun e W' => ∃ u : Unit, e = .returned (.tuple #[]) ∧ (r.length = p0.length) ∧ HF w W' (LEn [ow zF zH 36 zL r]) :=
 zPe (ρ := Tryz.zP4) Tryz.zlm (fun _ => zIi zCw) (fun _ => run_sizeOf zAK) KL WW () hg1 hf1 H hE

theorem zJ2 {w : Bs} (p0 : zJ) (p1 : zJ) (r : Int) (H : zAf p0 p1 = some r) (hE : HF w w.W E0) : Calls Tryz.prog 31 [.agg #[iv p0.X0, iv p0.Y0, iv p0.X1, iv p0.Y1], .agg #[iv p1.X0, iv p1.Y0, iv p1.X1, iv p1.Y1]].toArray w.W fun e W' => e = .returned (iv r) ∧ HF w W' E0 := by
 unfold zAf at H
 have leB := Bs.Le.refl w
 refine Tr.enter (n := 10) Tryz.func31 rfl rfl rfl hE ?_
 refine Tr.sr (Tr.box 1 (cs := [iv p0.X0, iv p0.Y0, iv p0.X1, iv p0.Y1]) (wn rfl) rfl rfl rfl fun QQ => ?_)
 refine Tr.box 2 (cs := [iv p1.X0, iv p1.Y0, iv p1.X1, iv p1.Y1]) (wn rfl) rfl rfl rfl fun WE => ?_
 refine Tr.asg rfl rfl (Tr.nil (Tr.zA (Tr.sr (Tr.va rfl (fun _ _ a c => zB zAL (a.ev rfl)) ?_))))
 refine Tr.va rfl (fun _ _ a c => zC QA (a.ev rfl) (rdb c (vs := [iv p0.X0, iv p0.Y0, iv p0.X1, iv p0.Y1]) (k := 1) rfl 1) rfl) ?_
 refine Tr.va rfl (fun _ _ a c => zB zAL (a.ev rfl)) ?_
 refine Tr.va rfl (fun _ _ a c => zC QA (a.ev rfl) (rdb c (vs := [iv p1.X0, iv p1.Y0, iv p1.X1, iv p1.Y1]) (k := 2) rfl 1) rfl) ?_
 refine Tr.va rfl (fun _ _ a c => Jn (a.ev rfl) (a.ev rfl)) ?_
 refine Tr.asg rfl rfl (Tr.nil (Tr.zA (Tr.ret ?_)))
 obtain rfl := oI H
 exact Tr.out (m := [iv (w64 (p0.Y0 - p1.Y0))]) [] (zU rfl zY) (fun W hW => ⟨rfl, hW.low leB⟩)

theorem zEb {w : Bs} (p0 : List Int) (zF : Option Addr) (zH : Nat) (r : List Int) (H : zPd p0 = some r) (hE : HF w w.W (LEn [ow zF zH 3 zW p0])) : Calls Tryz.prog 32 [sL zF p0 zH].toArray w.W fun e W' => ∃ u : Unit, e = .returned (.tuple #[]) ∧ (r.length = p0.length) ∧ HF w W' (LEn [ow zF zH 3 zW r]) :=
 zVC (ρ := Tryz.zNo) Tryz.zfI rfl Jd zH6 () H hE

theorem zDK {w : Bs} (p0 : List Int) (zF : Option Addr) (zH : Nat) (r : List Int) (H : cpI p0 = some r) (hE : HF w w.W (LEn [ow zF zH 3 zW p0])) : Calls Tryz.prog 33 [sL zF p0 zH].toArray w.W fun e W' => ∃ u : (Option Addr × Nat), e = .returned (sL u.1 r u.2) ∧ (SlF u.1 r.length u.2) ∧ HF w W' (LEn [ow u.1 u.2 3 zW r]) :=
 zPp (ρ := Tryz.zO7) Tryz.zkv rfl Jd zH6 () H hE

theorem zJ1 {w : Bs} (p0 : zJ) (q0 : (List Int)) (Aq0_0 : Option Addr) (cq0_0 : Nat) (zeT : Sl w.R w.W zW Aq0_0 cq0_0 q0) (bq0 : Nat) (hb0 : w.R bq0) (hc0 : zQ w.W bq0 0 [sL Aq0_0 q0 cq0_0]) (q1 : Int) (bq1 : Nat) (hb1 : w.R bq1) (hc1 : zQ w.W bq1 0 [iv q1]) (r : Bool) (H : zAe p0 q0 q1 = some r) (hE : HF w w.W E0) : Calls Tryz.prog 35 [.agg #[iv p0.X0, iv p0.Y0, iv p0.X1, iv p0.Y1], pV bq0, pV bq1].toArray w.W fun e W' => e = .returned (bV r) ∧ HF w W' E0 := by
 unfold zAe at H
 have leB := Bs.Le.refl w
 refine Tr.enter (n := 12) Tryz.func35 rfl rfl rfl hE ?_
 refine Tr.sr (Tr.box 1 (cs := [iv p0.X0, iv p0.Y0, iv p0.X1, iv p0.Y1]) (wn rfl) rfl rfl rfl fun QQ => ?_)
 refine Tr.asg rfl rfl (Tr.nil (Tr.zA (Tr.seq (Tr.draw (by kernel_rfl) (by kernel_rfl) ?_))))
 refine Tq.va rfl (fun _ _ a c => zB zDg (a.ev rfl)) ?_
 refine Tq.va rfl (fun _ _ a c => zC QA (a.ev rfl) (rdb c (vs := [iv p0.X0, iv p0.Y0, iv p0.X1, iv p0.Y1]) (k := 1) rfl 3) rfl) ?_
 refine Tq.va rfl (fun _ _ a c => zC zAA (a.ev rfl) (rdR hb0 hc0 c) rfl) ?_
 refine Tq.va rfl (fun _ _ a c => zC QA (a.ev rfl) (rdR hb1 hc1 c) rfl) ?_
 obtain ⟨x101, hx101, H⟩ := bnd H
 obtain ⟨zkU, zkT, zkS⟩ := zO hx101
 refine Tq.va rfl (fun _ _ a c => zD Kb (a.ev rfl) zeT.form (a.ev rfl) zkU zkT) ?_
 refine Tq.va rfl (fun _ _ a c => zC QA (a.ev rfl) (rdF Jd zeT zkS c) rfl) ?_
 refine Tq.va rfl (fun _ _ a c => zBJ (a.ev rfl) (a.ev rfl)) ?_
 refine Tq.asg rfl rfl (Tq.nil (Tr.zA (Tr.ret ?_)))
 obtain rfl := oI H
 exact Tr.out (m := [bV (decide (p0.Y1 ≤ x101))]) [] (zU rfl zY) (fun W hW => ⟨rfl, hW.low leB⟩)

theorem zFg {w : Bs} (p0 : (List zJ)) (zF : Option Addr) (zH : Nat) (zK : Sl w.R w.W zL zF zH p0) (p1 : zJ → Option Bool) (fid1 : Nat) (cap1 : List Value) (hg1 : ∀ args W, (callFunc fid1 args).run Tryz.prog W = .ok (.enter fid1 args) W) (hf1 : ∀ (w' : Bs), w.Ext w' → ∀ (z0 : zJ), ∀ y, p1 z0 = some y → Calls Tryz.prog fid1 (([.agg #[iv z0.X0, iv z0.Y0, iv z0.X1, iv z0.Y1]] : List Value) ++ cap1).toArray w'.W fun e W'' => e = .returned (bV y) ∧ HF w' W'' E0) (r : Int) (H : zAW p0 p1 = some r) (hE : HF w w.W E0) : Calls Tryz.prog 69 [sL zF p0 zH, .func (.func fid1) #[] cap1.toArray].toArray w.W fun e W' => e = .returned (iv r) ∧ HF w W' E0 := by
 unfold zAW at H
 have leB := Bs.Le.refl w
 refine Tr.enter (n := 19) Tryz.func69 rfl rfl rfl hE ?_
 refine Tr.sr (Tr.asg rfl rfl (Tr.nil (Tr.zA (Tr.seq (Tr.sr (Tr.mv rfl rfl (Tr.va rfl (fun _ _ a c => zf zA9 (a.ev rfl)) ?_)))))))
 refine Tr.mv rfl rfl (Tr.nil (Tr.zA (Tr.block (Tr.loop (σ := (List zJ) × Nat) (fun m w s => m = s.1.length + 1 ∧ s.1 = List.drop s.2 p0 ∧ s.2 ≤ p0.length ∧ Ji p1 s.1 s.2 = some r) (fun s => [(0, sL zF p0 zH), (1, .func (.func fid1) #[] cap1.toArray), (7, iv (p0.length : Int)), (8, iv (s.2 : Int))]) (fun s => []) (p0.length + 1) (p0, 0) ⟨rfl, rfl, Nat.zero_le _, H⟩ (.cons rfl (.cons rfl (.cons rfl (.cons rfl .nil)))) .nil (fun _ _ h => absurd h.1 (by simp)) ?_))))
 intro w QI m s hs
 obtain ⟨zV, iL1⟩ := s
 obtain ⟨Vn, QK, hiL1, H⟩ := hs
 replace QK : zV = List.drop iL1 p0 := QK
 replace H : Ji p1 zV iL1 = some r := H
 replace Vn : m + 1 = zV.length + 1 := Vn
 replace zK := zK.leR QI
 replace hf1 := fun w' he => hf1 w' (QI.ext.trans he)
 replace leB := leB.trans QI
 obtain rfl : m = zV.length := by omega
 clear Vn
 show Tr _ _ (LF [(0, sL zF p0 zH), (1, .func (.func fid1) #[] cap1.toArray), (7, iv (p0.length : Int)), (8, iv (iL1 : Int))]) (LE []) _
 cases zV with
 | nil =>
  rw [Ji.eq_1] at H
  refine Tr.sr (Tr.va rfl (fun _ _ a c => zh (a.ev rfl) (a.ev rfl)) ?_)
  refine Tr.nil (Tr.zA (Tr.seq (Tr.zBN rfl (KF QK) ?_)))
  refine Tr.exit (Tr.zP (Tr.zP (Tr.zl (Tr.zA (Tr.sr (Tr.asg rfl rfl (Tr.nil (Tr.zA (Tr.ret ?_)))))))))
  obtain rfl := oI H
  exact Tr.out (m := [iv (-1)]) [] (zU rfl zY) (fun W hW => ⟨rfl, hW.low leB⟩)
 | cons xL1 zV =>
  rw [Ji.eq_2] at H
  refine Tr.sr (Tr.va rfl (fun _ _ a c => zh (a.ev rfl) (a.ev rfl)) ?_)
  refine Tr.nil (Tr.zA (Tr.seq (Tr.zBM rfl (VD QK) ?_)))
  refine Tr.skip (Tr.zA (Tr.seq (Tr.block (Tr.sr (Tr.mv rfl rfl (Tr.asg rfl rfl (Tr.nil (Tr.zA (Tr.sr (Tr.mv rfl rfl ?_))))))))))
  refine Tr.mv rfl rfl (Tr.mv rfl rfl (Tr.va rfl (fun _ _ a c => zD zA3 (a.ev rfl) zK.form (a.ev rfl) (Int.natCast_nonneg _) (QF QK)) ?_))
  refine Tr.va rfl (fun _ _ a c => ze (cs := [iv xL1.X0, iv xL1.Y0, iv xL1.X1, iv xL1.Y1]) zCw zAK (a.ev rfl) (zQ.take (rdF KL zK (Kv QK) c) 4) rfl) ?_
  obtain ⟨Wv, zKT, H⟩ := bnd H
  refine Tr.zHj (r := (bV Wv)) (wn rfl) rfl rfl hg1 (zI rfl zX) (fun W hW => hf1 hW.all hW.Ky xL1 _ zKT) ?_
  refine Tr.nil (Tr.zA (Tr.cond rfl H (fun H => ?_) (fun H => ?_)))
  ·refine Tr.sr (Tr.mv rfl rfl (Tr.asg rfl rfl (Tr.nil (Tr.zA (Tr.ret (Tr.QY (Tr.zq (Tr.zq (Tr.QY (Tr.zq ?_))))))))))
   obtain rfl := oI H
   exact Tr.out (m := [iv (iL1 : Int)]) [] (zU rfl zY) (fun W hW => ⟨rfl, hW.low leB⟩)
  ·refine Tr.skip (Tr.zb (Tr.zA (Tr.region (Tr.va rfl (fun _ _ a c => zg (a.ev rfl) (a.ev rfl)) ?_))))
   exact Tr.mv rfl rfl (Tr.nil (Tr.zZ QI (zV, (iL1 + 1)) ⟨rfl, Jh QK, QF QK, H⟩ (.cons rfl (.cons rfl (.cons rfl (.cons (congrArg (fun z => some (Value.int .i64 z)) (Jg QK zK.form)) .nil)))) .nil))

theorem zE7 (N : Nat) {w : Bs} (p0 : (List zJ)) (zF : Option Addr) (zH : Nat) (p1 : zJ → Option Bool) (fid1 : Nat) (cap1 : List Value) (hg1 : ∀ args W, (callFunc fid1 args).run Tryz.prog W = .ok (.enter fid1 args) W) (hf1 : ∀ (w' : Bs), w.Ext w' → ∀ (z0 : zJ), ∀ y, p1 z0 = some y → Calls Tryz.prog fid1 (([.agg #[iv z0.X0, iv z0.Y0, iv z0.X1, iv z0.Y1]] : List Value) ++ cap1).toArray w'.W fun e W'' => e = .returned (bV y) ∧ HF w' W'' E0) (r : (List zJ)) (H : VY N p0 p1 = some r) (hE : HF w w.W (LEn [ow zF zH 36 zL p0])) : Calls Tryz.prog 34 [sL zF p0 zH, .func (.func fid1) #[] cap1.toArray].toArray w.W fun e W' => ∃ u : (Option Addr × Nat), e = .returned (sL u.1 r u.2) ∧ (SlF u.1 r.length u.2) ∧ HF w W' (LEn [ow u.1 u.2 36 zL r]) := by
 unfold VY at H
 have zBd := (hE.sl (k := 0) rfl).form
 have leB := Bs.Le.refl w
 refine Tr.enter (n := 42) Tryz.func34 rfl rfl rfl hE ?_
 refine Tr.sr (Tr.asg rfl rfl (Tr.Qb 1 36 zL ?_))
 show Tr _ _ (uf _ 4 (sL none (([] : List zJ)) 0)) _ _
 refine Tr.nil (Tr.zA (Tr.sr (Tr.mv rfl rfl (Tr.mv rfl rfl ?_))))
 obtain ⟨zN, zAQ, H⟩ := bnd H
 refine Tr.KV (r := (iv zN)) (wn rfl) rfl Tryz.call69 (zI rfl (zI rfl zX)) (fun W hW => zFg p0 zF zH (hW.zCo (k := 0) rfl) p1 fid1 cap1 hg1 (fun w' he => hf1 w' (hW.Ky.trans he)) zN zAQ (HF.start _)) ?_
 refine Tr.asg rfl rfl (Tr.nil (Tr.zA (Tr.seq (Tr.sr (Tr.mv rfl rfl (Tr.va rfl (fun _ _ a c => Vv (a.ev rfl) (a.ev rfl)) ?_))))))
 refine Tr.nil (Tr.zA (Tr.cond rfl H (fun H => ?_) (fun H => ?_)))
 ·refine Tr.sr (Tr.mv rfl rfl (Tr.asg rfl rfl (Tr.nil (Tr.zA (Tr.ret (Tr.zq ?_))))))
  obtain rfl := oI H
  exact Tr.out (m := [sL zF p0 zH]) [] (zU rfl zY) (fun W hW => ⟨(zF, zH), rfl, zBd, HF.zEF leB (hW.pick (ks := [0]) (by decide) (zn rfl zw)) ⟨Ww _ _ _ _ WW, trivial⟩⟩)
 ·refine Tr.skip (Tr.zA (Tr.seq (Tr.sr (Tr.mv rfl rfl (Tr.va rfl (fun _ _ a c => zg (a.ev rfl) (a.ev rfl)) ?_)))))
  refine Tr.asg rfl rfl (Tr.nil (Tr.zA (Tr.block (Tr.loop (σ := (List zJ) × Int × Int) (fun m w s => JC p1 m s.1 s.2.1 s.2.2 = some r ∧ s.1.length = p0.length) (fun s => [(0, sL zF s.1 zH), (1, .func (.func fid1) #[] cap1.toArray), (5, iv s.2.1), (6, iv s.2.2)]) (fun s => [(0, ow zF zH 36 zL s.1)]) N (p0, zN, (w64 (zN + 1))) ⟨H, rfl⟩ (.cons rfl (.cons rfl (.cons rfl (.cons rfl .nil)))) (.cons rfl .nil) (fun _ _ h => KG (h.1)) ?_))))
  intro w QI mL1 s hs
  obtain ⟨zEU, zFN, zJB⟩ := s
  obtain ⟨H, zQX⟩ := hs
  replace H : JC p1 (mL1 + 1) zEU zFN zJB = some r := H
  replace hf1 := fun w' he => hf1 w' (QI.ext.trans he)
  replace leB := leB.trans QI
  replace zQX : zEU.length = p0.length := zQX
  have zOr : SlF zF zEU.length zH := (by rw [zQX]; exact zBd)
  rw [JC.eq_2] at H
  show Tr _ _ (LF [(0, sL zF zEU zH), (1, .func (.func fid1) #[] cap1.toArray), (5, iv zFN), (6, iv zJB)]) (LE [(0, ow zF zH 36 zL zEU)]) _
  refine Tr.seq (Tr.sr (Tr.mv rfl rfl (Tr.mv rfl rfl (Tr.va rfl (fun _ _ a c => zf zA9 (a.ev rfl)) ?_))))
  refine Tr.va rfl (fun _ _ a c => zh (a.ev rfl) (a.ev rfl)) ?_
  refine Tr.nil (Tr.zA (Tr.cond rfl H (fun H => ?_) (fun H => ?_)))
  ·refine Tr.skip (Tr.zA (Tr.seq (Tr.block (Tr.sr (Tr.mv rfl rfl (Tr.mv rfl rfl ?_))))))
   obtain ⟨Jp, zaf, H⟩ := bnd H
   obtain ⟨hx1230, hx1231, hx1232⟩ := zO zaf
   refine Tr.va rfl (fun _ _ a c => zD zA3 (a.ev rfl) zOr (a.ev rfl) hx1230 hx1231) ?_
   refine Tr.va rfl (fun _ _ a c => ze (cs := [iv Jp.X0, iv Jp.Y0, iv Jp.X1, iv Jp.Y1]) zCw zAK (a.ev rfl) (zQ.take (rdo KL (k := 0) c rfl hx1232) 4) rfl) ?_
   refine Tr.alloc 4 (wn rfl) rfl zHY fun zdr => ?_
   refine Tr.store 4 (cs := [iv Jp.X0, iv Jp.Y0, iv Jp.X1, iv Jp.Y1]) [iv Jp.X0, iv Jp.Y0, iv Jp.X1, iv Jp.Y1] (wn rfl) rfl rfl rfl rfl zAK rfl rfl rfl ?_
   refine Tr.nil (Tr.zA (Tr.sr (Tr.mv rfl rfl (Tr.va rfl (fun _ _ a c => ze (cs := [iv Jp.X0, iv Jp.Y0, iv Jp.X1, iv Jp.Y1]) zCw zAK (a.ev rfl) (zQ.take (rdb c (vs := [iv Jp.X0, iv Jp.Y0, iv Jp.X1, iv Jp.Y1]) (k := 4) rfl 0) 4) rfl) ?_))))
   obtain ⟨zHo, zaR, H⟩ := bnd H
   refine Tr.zHj (r := (bV zHo)) (wn rfl) rfl rfl hg1 (zI rfl zX) (fun W hW => hf1 hW.all hW.Ky Jp _ zaR) ?_
   refine Tr.va rfl (fun _ _ a c => Wm (a.ev rfl)) ?_
   refine Tr.nil (Tr.zA (Tr.cond rfl H (fun H => ?_) (fun H => ?_)))
   ·refine Tr.sr (Tr.mv rfl rfl (Tr.mv rfl rfl (Tr.va rfl (fun _ _ a c => ze (cs := [iv Jp.X0, iv Jp.Y0, iv Jp.X1, iv Jp.Y1]) zCw zAK (a.ev rfl) (zQ.take (rdb c (vs := [iv Jp.X0, iv Jp.Y0, iv Jp.X1, iv Jp.Y1]) (k := 4) rfl 0) 4) rfl) ?_)))
    obtain ⟨zYT, zad, H⟩ := bnd H
    obtain ⟨zVq, zVp, zVo⟩ := zO zad
    refine Tr.va rfl (fun _ _ a c => zD zA3 (a.ev rfl) zOr (a.ev rfl) zVq zVp) ?_
    obtain ⟨zLa, zXP, H⟩ := bnd H
    have zLh := zFS zXP
    refine Tr.zFz 0 (t := zL) (l := zEU) (i := zFN) (fo := 0) (cs := [iv Jp.X0, iv Jp.Y0, iv Jp.X1, iv Jp.Y1]) Jp (wn rfl) rfl rfl rfl rfl rfl zVo zAK rfl (fun u _ => ⟨u, trivial, rfl⟩) rfl zXP ?_
    have zrN : SlF zF zLa.length zH := by rw [zLh]; exact zOr
    have hsl127 := zLh.trans zQX
    refine Tr.sel (lf := [(0, sL zF zLa zH), (1, .func (.func fid1) #[] cap1.toArray), (5, iv zFN), (6, iv zJB), (7, pV zdr), (16, iv zJB), (17, sL zF zLa zH), (18, iv (zEU.length : Int)), (19, bV (decide (zJB < (zEU.length : Int)))), (22, sL zF zLa zH), (23, iv zJB), (25, .agg #[iv Jp.X0, iv Jp.Y0, iv Jp.X1, iv Jp.Y1]), (26, .func (.func fid1) #[] cap1.toArray), (27, .agg #[iv Jp.X0, iv Jp.Y0, iv Jp.X1, iv Jp.Y1]), (28, bV zHo), (29, bV (!zHo)), (30, sL zF zLa zH), (31, iv zFN), (32, .agg #[iv Jp.X0, iv Jp.Y0, iv Jp.X1, iv Jp.Y1])]) (le := [(0, ow zF zH 36 zL zLa), (4, bx zdr #[iv Jp.X0, iv Jp.Y0, iv Jp.X1, iv Jp.Y1] 36)]) (.cons (zAg rfl (by unfold sL; rw [zLh])) (.cons rfl (.cons rfl (.cons rfl (.cons rfl (.cons rfl (.cons (zAg rfl (by unfold sL; rw [zLh])) (.cons rfl (.cons rfl (.cons (zAg rfl (by unfold sL; rw [zLh])) (.cons rfl (.cons rfl (.cons rfl (.cons rfl (.cons rfl (.cons rfl (.cons (zAg rfl (by unfold sL; rw [zLh])) (.cons rfl (.cons rfl .nil))))))))))))))))))) (.cons rfl (.cons rfl .nil)) ?_
    refine Tr.nil (Tr.zA (Tr.region (Tr.mv rfl rfl (Tr.va rfl (fun _ _ a c => zg (a.ev rfl) (a.ev rfl)) ?_))))
    refine Tr.asg rfl rfl (Tr.nil (Tr.zb (Tr.zA (Tr.region (Tr.mv rfl rfl (Tr.va rfl (fun _ _ a c => zg (a.ev rfl) (a.ev rfl)) ?_))))))
    exact Tr.asg rfl rfl (Tr.nil (Tr.zZ QI (zLa, (w64 (zFN + 1)), (w64 (zJB + 1))) ⟨H, hsl127⟩ (.cons rfl (.cons rfl (.cons rfl (.cons rfl .nil)))) (.cons rfl .nil)))
   ·refine Tr.skip (Tr.zb (Tr.zA (Tr.region (Tr.mv rfl rfl (Tr.va rfl (fun _ _ a c => zg (a.ev rfl) (a.ev rfl)) ?_)))))
    exact Tr.asg rfl rfl (Tr.nil (Tr.zZ QI (zEU, zFN, (w64 (zJB + 1))) ⟨H, zQX⟩ (.cons rfl (.cons rfl (.cons rfl (.cons rfl .nil)))) (.cons rfl .nil)))
  ·refine Tr.exit (Tr.zP (Tr.zP (Tr.zl (Tr.zA (Tr.sr (Tr.mv rfl rfl (Tr.mv rfl rfl ?_)))))))
   obtain ⟨zA8, zHe, H⟩ := bnd H
   refine Tr.va rfl (fun _ _ a c => zDa zA3 (a.ev rfl) zOr (a.ev rfl) zHe) ?_
   have hnhcl128 := zdl (zJ.mk 0 0 0 0) zHe
   refine Tr.zbs 0 (lo := zFN) (t := zL) (l := zEU) (zJ.mk 0 0 0 0) (wn rfl) rfl zHe rfl zA9 zHY ⟨(), WW _ _ _ _, KL _ _⟩ rfl rfl ?_
   have zT4 : SlF zF ((clr zEU zFN zA8.length (zJ.mk 0 0 0 0))).length zH := by rw [hnhcl128]; exact zOr
   have hshcl128 := hnhcl128.trans zQX
   refine Tr.sel (lf := [(0, sL zF ((clr zEU zFN zA8.length (zJ.mk 0 0 0 0))) zH), (1, .func (.func fid1) #[] cap1.toArray), (5, iv zFN), (6, iv zJB), (16, iv zJB), (17, sL zF ((clr zEU zFN zA8.length (zJ.mk 0 0 0 0))) zH), (18, iv (zEU.length : Int)), (19, bV (decide (zJB < (zEU.length : Int)))), (36, sL zF ((clr zEU zFN zA8.length (zJ.mk 0 0 0 0))) zH), (37, iv zFN)]) (le := [(0, ow zF zH 36 zL (clr zEU zFN zA8.length (zJ.mk 0 0 0 0)))]) (.cons (zAg rfl (by unfold sL; rw [hnhcl128])) (.cons rfl (.cons rfl (.cons rfl (.cons rfl (.cons (zAg rfl (by unfold sL; rw [hnhcl128])) (.cons rfl (.cons rfl (.cons (zAg rfl (by unfold sL; rw [hnhcl128])) (.cons rfl .nil)))))))))) (.cons rfl .nil) ?_
   refine Tr.nil (Tr.zA (Tr.sr (Tr.mv rfl rfl (Tr.mv rfl rfl ?_))))
   obtain ⟨zfs, zaz, H⟩ := bnd H
   refine Tr.va rfl (fun _ _ a c => zG9 zA3 (a.ev rfl) zT4 (a.ev rfl) zaz) ?_
   refine Tr.asg rfl rfl (Tr.nil (Tr.zA (Tr.ret ?_)))
   obtain rfl := oI H
   refine Tr.zWj 0 zaz rfl ?_
   exact Tr.out (m := [sL zF zfs zH]) [] (zU rfl zY) (fun W hW => ⟨(zF, zH), rfl, (zN4 zT4 zaz), HF.zEF leB (hW.pick (ks := [0]) (by decide) (zn rfl zw)) ⟨Ww _ _ _ _ WW, trivial⟩⟩)

theorem zHT {w : Bs} (p0 : zJ) (p1 : zJ) (r : Int) (H : WG p0 p1 = some r) (hE : HF w w.W E0) : Calls Tryz.prog 71 [.agg #[iv p0.X0, iv p0.Y0, iv p0.X1, iv p0.Y1], .agg #[iv p1.X0, iv p1.Y0, iv p1.X1, iv p1.Y1]].toArray w.W fun e W' => e = .returned (iv r) ∧ HF w W' E0 := by
 unfold WG at H
 have leB := Bs.Le.refl w
 refine Tr.enter (n := 10) Tryz.func71 rfl rfl rfl hE ?_
 refine Tr.sr (Tr.box 1 (cs := [iv p0.X0, iv p0.Y0, iv p0.X1, iv p0.Y1]) (wn rfl) rfl rfl rfl fun QQ => ?_)
 refine Tr.box 2 (cs := [iv p1.X0, iv p1.Y0, iv p1.X1, iv p1.Y1]) (wn rfl) rfl rfl rfl fun WE => ?_
 refine Tr.asg rfl rfl (Tr.nil (Tr.zA (Tr.sr (Tr.va rfl (fun _ _ a c => zB zAo (a.ev rfl)) ?_))))
 refine Tr.va rfl (fun _ _ a c => zC QA (a.ev rfl) (rdb c (vs := [iv p0.X0, iv p0.Y0, iv p0.X1, iv p0.Y1]) (k := 1) rfl 0) rfl) ?_
 refine Tr.va rfl (fun _ _ a c => zB zAo (a.ev rfl)) ?_
 refine Tr.va rfl (fun _ _ a c => zC QA (a.ev rfl) (rdb c (vs := [iv p1.X0, iv p1.Y0, iv p1.X1, iv p1.Y1]) (k := 2) rfl 0) rfl) ?_
 refine Tr.va rfl (fun _ _ a c => Jn (a.ev rfl) (a.ev rfl)) ?_
 refine Tr.asg rfl rfl (Tr.nil (Tr.zA (Tr.ret ?_)))
 obtain rfl := oI H
 exact Tr.out (m := [iv (w64 (p0.X0 - p1.X0))]) [] (zU rfl zY) (fun W hW => ⟨rfl, hW.low leB⟩)

theorem zIY {w : Bs} (p0 : (List zJ)) (zF : Option Addr) (zH : Nat) (r : ((List Int) × (List zJ))) (H : WI p0 = some r) (hE : HF w w.W (LEn [ow zF zH 36 zL p0, emp])) : Calls Tryz.prog 37 [sL zF p0 zH].toArray w.W fun e W' => ∃ u : (Option Addr × Nat), e = .returned (sL u.1 r.1 u.2) ∧ (SlF u.1 r.1.length u.2 ∧ r.2.length = p0.length) ∧ HF w W' (LEn [ow zF zH 36 zL r.2, ow u.1 u.2 3 zW r.1]) := by
 unfold WI at H
 have zBd := (hE.sl (k := 0) rfl).form
 have leB := Bs.Le.refl w
 refine Tr.enter (n := 48) Tryz.func37 rfl rfl rfl hE ?_
 refine Tr.sr (Tr.asg rfl rfl (Tr.Qb 1 3 zW ?_))
 show Tr _ _ (uf _ 2 (sL none (([] : List Int)) 0)) _ _
 refine Tr.nil (Tr.zA (Tr.sr (Tr.mv rfl rfl ?_)))
 obtain ⟨zN, zAQ, H⟩ := bnd H
 refine Tr.zAi [0] [ow zF zH 36 zL p0] (U := Unit) (fun u => (.tuple #[])) (fun u => zN.length = p0.length) (fun u => [ow zF zH 36 zL zN]) rfl (zn rfl zw) (fun _ => rfl) (wn rfl) rfl Tryz.call30 (zI rfl (zI rfl zX)) (fun W hW hp hE => zA4 p0 zF zH (fun z0 z1 => WG z0 z1) 71 [] Tryz.call71 (fun w' he z0 z1 y hy => zHT z0 z1 y hy (HF.start _)) zN zAQ hE) ?_
 intro u hu
 have gky100_0 := hu
 have zIx : zN.length = p0.length := gky100_0 --@phi
 have zLn : SlF zF zN.length zH := by rw [zIx]; exact zBd
 have hsky100_0 := zIx.trans rfl
 show Tr _ _ (uf _ 8 (.tuple #[])) (up _ 0 (ow zF zH 36 zL zN)) _
 refine Tr.sel (lf := [(0, sL zF zN zH), (2, sL none (([] : List Int)) 0), (7, sL zF zN zH), (8, (.tuple #[]))]) (le := [(0, ow zF zH 36 zL zN), (1, ow none 0 3 zW ([] : List Int))]) (.cons (zAg rfl (by unfold sL; rw [zIx])) (.cons rfl (.cons (zAg rfl (by unfold sL; rw [zIx])) (.cons rfl .nil)))) (.cons rfl (.cons rfl .nil)) ?_
 refine Tr.nil (Tr.zA (Tr.sr (Tr.asg rfl rfl (Tr.Qb 2 3 zW ?_))))
 show Tr _ _ (uf _ 3 (sL none (([] : List Int)) 0)) _ _
 refine Tr.nil (Tr.zA (Tr.seq (Tr.sr (Tr.mv rfl rfl (Tr.va rfl (fun _ _ a c => zf zA9 (a.ev rfl)) ?_)))))
 refine Tr.mv rfl rfl (Tr.nil (Tr.zA (Tr.block (Tr.loop (σ := (List zJ) × Nat × (List Int) × (Option Addr) × Nat) (fun m w s => m = s.1.length + 1 ∧ s.1 = List.drop s.2.1 zN ∧ s.2.1 ≤ zN.length ∧ KD zN s.1 s.2.1 s.2.2.1 = some r ∧ SlF s.2.2.2.1 s.2.2.1.length s.2.2.2.2) (fun s => [(3, sL s.2.2.2.1 s.2.2.1 s.2.2.2.2), (9, sL zF zN zH), (10, iv (zN.length : Int)), (11, iv (s.2.1 : Int))]) (fun s => [(0, ow zF zH 36 zL zN), (2, ow s.2.2.2.1 s.2.2.2.2 3 zW s.2.2.1)]) (zN.length + 1) (zN, 0, ([] : List Int), none, 0) ⟨rfl, rfl, Nat.zero_le _, H, Jm⟩ (.cons rfl (.cons rfl (.cons rfl (.cons rfl .nil)))) (.cons rfl (.cons rfl .nil)) (fun _ _ h => absurd h.1 (by simp)) ?_))))
 intro w QI m s hs
 obtain ⟨zV, iL1, zA8, zD0, zDl⟩ := s
 obtain ⟨Vn, QK, hiL1, H, zHe⟩ := hs
 replace QK : zV = List.drop iL1 zN := QK
 replace H : KD zN zV iL1 zA8 = some r := H
 replace Vn : m + 1 = zV.length + 1 := Vn
 replace leB := leB.trans QI
 replace zHe : SlF zD0 zA8.length zDl := zHe
 obtain rfl : m = zV.length := by omega
 clear Vn
 show Tr _ _ (LF [(3, sL zD0 zA8 zDl), (9, sL zF zN zH), (10, iv (zN.length : Int)), (11, iv (iL1 : Int))]) (LE [(0, ow zF zH 36 zL zN), (2, ow zD0 zDl 3 zW zA8)]) _
 cases zV with
 | nil =>
  rw [KD.eq_1] at H
  refine Tr.sr (Tr.va rfl (fun _ _ a c => zh (a.ev rfl) (a.ev rfl)) ?_)
  refine Tr.nil (Tr.zA (Tr.seq (Tr.zBN rfl (KF QK) ?_)))
  refine Tr.exit (Tr.zP (Tr.zP (Tr.zl (Tr.zA (Tr.sr (Tr.mv rfl rfl (Tr.asg rfl rfl (Tr.nil (Tr.zA (Tr.ret ?_))))))))))
  obtain rfl := oI H
  exact Tr.out (m := [sL zD0 zA8 zDl]) [] (zU rfl zY) (fun W hW => ⟨(zD0, zDl), rfl, ⟨zHe, hsky100_0⟩, HF.zEF leB (hW.pick (ks := [0, 2]) (by decide) (zn rfl (zn rfl zw))) ⟨Ww _ _ _ _ WW, Ww _ _ _ _ zH6, trivial⟩⟩)
 | cons xL1 zV =>
  rw [KD.eq_2] at H
  refine Tr.sr (Tr.va rfl (fun _ _ a c => zh (a.ev rfl) (a.ev rfl)) ?_)
  refine Tr.nil (Tr.zA (Tr.seq (Tr.zBM rfl (VD QK) ?_)))
  refine Tr.skip (Tr.zA (Tr.seq (Tr.block (Tr.sr (Tr.va rfl (fun _ _ a c => zD zA3 (a.ev rfl) zLn (a.ev rfl) (Int.natCast_nonneg _) (QF QK)) ?_)))))
  refine Tr.va rfl (fun _ _ a c => ze (cs := [iv xL1.X0, iv xL1.Y0, iv xL1.X1, iv xL1.Y1]) zCw zAK (a.ev rfl) (zQ.take (rdo KL (k := 0) c rfl (Kv QK)) 4) rfl) ?_
  refine Tr.alloc 7 (wn rfl) rfl zHY fun zBc => ?_
  refine Tr.store 7 (cs := [iv xL1.X0, iv xL1.Y0, iv xL1.X1, iv xL1.Y1]) [iv xL1.X0, iv xL1.Y0, iv xL1.X1, iv xL1.Y1] (wn rfl) rfl rfl rfl rfl zAK rfl rfl rfl ?_
  refine Tr.nil (Tr.zA (Tr.sr (Tr.mv rfl rfl (Tr.va rfl (fun _ _ a c => zf Vu (a.ev rfl)) ?_))))
  refine Tr.va rfl (fun _ _ a c => Jn (a.ev rfl) (a.ev rfl)) ?_
  refine Tr.asg rfl rfl (Tr.nil (Tr.zA (Tr.seq (Tr.draw (by kernel_rfl) (by kernel_rfl) ?_))))
  refine Tq.mv rfl rfl (Tq.va rfl (fun _ _ a c => zEz (a.ev rfl) (a.ev rfl)) ?_)
  refine Tq.mv rfl rfl ?_
  obtain ⟨zdX, zGl, H⟩ := bnd H
  refine Tq.mid 8 [(3, sL zD0 zA8 zDl), (5, pV zBc), (6, iv (w64 ((zA8.length : Int) - 1))), (9, sL zF zN zH), (10, iv (zN.length : Int)), (11, iv (iL1 : Int)), (28, bV zdX)] ?_ ?_
  ·cases zep : (decide (0 ≤ (w64 ((zA8.length : Int) - 1))))
   ·rw [zep] at zGl
    rw [if_neg (by decide)] at zGl
    have H := zGl
    obtain rfl := oI H
    refine Tq.pass rfl rfl rfl rfl rfl (by decide) ?_
    refine Tq.pass rfl rfl rfl rfl rfl (by decide) ?_
    refine Tq.pass rfl rfl rfl rfl rfl (by decide) ?_
    refine Tq.pass rfl rfl rfl rfl rfl (by decide) ?_
    refine Tq.pass rfl rfl rfl rfl rfl (by decide) ?_
    refine Tq.pass rfl rfl rfl rfl rfl (by decide) ?_
    refine Tq.pass rfl rfl rfl rfl rfl (by decide) ?_
    refine Tq.va rfl (fun _ _ a c => zy (a.ev rfl) (a.ev rfl)) ?_
    exact Tq.fin (.cons rfl (.cons rfl (.cons rfl (.cons rfl (.cons rfl (.cons rfl (.cons rfl .nil)))))))
   ·rw [zep] at zGl
    rw [if_pos rfl] at zGl
    have H := zGl
    refine Tq.val (wg rfl rfl rfl) rfl (fun _ _ a c => zB zAo (a.ev rfl)) ?_
    refine Tq.val (wg rfl rfl rfl) rfl (fun _ _ a c => zC QA (a.ev rfl) (rdb c (vs := [iv xL1.X0, iv xL1.Y0, iv xL1.X1, iv xL1.Y1]) (k := 7) rfl 0) rfl) ?_
    refine Tq.val (wg rfl rfl rfl) rfl (fun _ _ a c => run_move (a.ev rfl)) ?_
    refine Tq.val (wg rfl rfl rfl) rfl (fun _ _ a c => run_move (a.ev rfl)) ?_
    obtain ⟨zEx, zTi, H⟩ := bnd H
    obtain ⟨zOP, zOO, zON⟩ := zO zTi
    refine Tq.val (wg rfl rfl rfl) rfl (fun _ _ a c => zD Kb (a.ev rfl) zHe (a.ev rfl) zOP zOO) ?_
    refine Tq.val (wg rfl rfl rfl) rfl (fun _ _ a c => zC QA (a.ev rfl) (rdo Jd (k := 2) c rfl zON) rfl) ?_
    refine Tq.val (wg rfl rfl rfl) rfl (fun _ _ a c => zBJ (a.ev rfl) (a.ev rfl)) ?_
    refine Tq.va rfl (fun _ _ a c => zx (a.ev rfl) (a.ev rfl)) ?_
    obtain rfl := oI H
    exact Tq.fin (.cons rfl (.cons rfl (.cons rfl (.cons rfl (.cons rfl (.cons rfl (.cons rfl .nil)))))))
  ·refine Tq.nil (Tr.zA (Tr.cond rfl H (fun H => ?_) (fun H => ?_)))
   ·refine Tr.zCB 9 (by kernel_rfl) (by kernel_rfl) ?_
    refine Tq.mv rfl rfl (Tq.mv rfl rfl (Tq.mv rfl rfl (Tq.mv rfl rfl ?_)))
    obtain ⟨zNb, zab, H⟩ := bnd H
    obtain ⟨zVk, zVj, zVi⟩ := zO zab
    refine Tq.va rfl (fun _ _ a c => zD Kb (a.ev rfl) zHe (a.ev rfl) zVk zVj) ?_
    refine Tq.va rfl (fun _ _ a c => zC QA (a.ev rfl) (rdo Jd (k := 2) c rfl zVi) rfl) ?_
    refine Tq.va rfl (fun _ _ a c => zB zE2 (a.ev rfl)) ?_
    refine Tq.va rfl (fun _ _ a c => zC QA (a.ev rfl) (rdb c (vs := [iv xL1.X0, iv xL1.Y0, iv xL1.X1, iv xL1.Y1]) (k := 7) rfl 2) rfl) ?_
    refine Tq.va rfl (fun _ _ a c => zKA (a.ev rfl) (a.ev rfl) _) ?_
    refine Tq.nil ?_
    obtain ⟨zqi, zoW, H⟩ := bnd H
    obtain ⟨zkC, zkB, zkA⟩ := zO zoW
    refine Tr.va rfl (fun _ _ a c => zD Kb (a.ev rfl) zHe (a.ev rfl) zkC zkB) ?_
    obtain ⟨zTZ, zef, H⟩ := bnd H
    have zSG := zFS zef
    refine Tr.zFz 2 (t := zW) (l := zA8) (i := (w64 ((zA8.length : Int) - 1))) (fo := 0) (cs := [iv (max zNb xL1.X1)]) (max zNb xL1.X1) (wn rfl) rfl rfl rfl rfl rfl zkA zGN rfl (fun u _ => ⟨u, trivial, rfl⟩) rfl zef ?_
    have zkb : SlF zD0 zTZ.length zDl := by rw [zSG]; exact zHe
    refine Tr.sel (lf := [(3, sL zD0 zTZ zDl), (5, pV zBc), (6, iv (w64 ((zA8.length : Int) - 1))), (9, sL zF zN zH), (10, iv (zN.length : Int)), (11, iv (iL1 : Int)), (28, bV zdX), (29, sL zD0 zTZ zDl), (30, iv (w64 ((zA8.length : Int) - 1))), (31, sL zD0 zTZ zDl), (32, iv (w64 ((zA8.length : Int) - 1))), (34, iv zNb), (35, .pointer (some ⟨zBc, 2, none⟩)), (36, iv xL1.X1), (37, iv (max zNb xL1.X1))]) (le := [(0, ow zF zH 36 zL zN), (2, ow zD0 zDl 3 zW zTZ), (7, bx zBc #[iv xL1.X0, iv xL1.Y0, iv xL1.X1, iv xL1.Y1] 36)]) (.cons (zAg rfl (by unfold sL; rw [zSG])) (.cons rfl (.cons rfl (.cons rfl (.cons rfl (.cons rfl (.cons rfl (.cons (zAg rfl (by unfold sL; rw [zSG])) (.cons rfl (.cons (zAg rfl (by unfold sL; rw [zSG])) (.cons rfl (.cons rfl (.cons rfl (.cons rfl (.cons rfl .nil))))))))))))))) (.cons rfl (.cons rfl (.cons rfl .nil))) ?_
    refine Tr.nil (Tr.zb (Tr.zA (Tr.region (Tr.va rfl (fun _ _ a c => zg (a.ev rfl) (a.ev rfl)) ?_))))
    exact Tr.mv rfl rfl (Tr.nil (Tr.zZ QI (zV, (iL1 + 1), zTZ, zD0, zDl) ⟨rfl, Jh QK, QF QK, H, zkb⟩ (.cons rfl (.cons rfl (.cons rfl (.cons (congrArg (fun z => some (Value.int .i64 z)) (Jg QK zLn)) .nil)))) (.cons rfl (.cons rfl .nil))))
   ·refine Tr.region (Tr.mv rfl rfl (Tr.va rfl (fun _ _ a c => zB zAo (a.ev rfl)) ?_))
    refine Tr.va rfl (fun _ _ a c => zC QA (a.ev rfl) (rdb c (vs := [iv xL1.X0, iv xL1.Y0, iv xL1.X1, iv xL1.Y1]) (k := 7) rfl 0) rfl) ?_
    refine Tr.va rfl (fun _ _ a c => zB zE2 (a.ev rfl)) ?_
    refine Tr.va rfl (fun _ _ a c => zC QA (a.ev rfl) (rdb c (vs := [iv xL1.X0, iv xL1.Y0, iv xL1.X1, iv xL1.Y1]) (k := 7) rfl 2) rfl) ?_
    refine Tr.buildSlice 8 (e := 3) (vs := [(0, iv xL1.X0), (1, iv xL1.X1)]) (cs := [iv xL1.X0, iv xL1.X1]) (wn rfl) rfl (zi rfl (zi rfl Qh)) (by kernel_rfl) fun zsO => ?_
    obtain ⟨zfq, zpD, H⟩ := bnd H
    refine Tr.append 2 (t := zW) (l := zA8) (l2 := [xL1.X0, xL1.X1]) (wn rfl) rfl rfl rfl rfl (fun W hW => ⟨[[iv xL1.X0], [iv xL1.X1]], (.cons ⟨(), trivial, rfl⟩ (.cons ⟨(), trivial, rfl⟩ .nil)), rdb hW (vs := [iv xL1.X0, iv xL1.X1]) (k := 8) rfl 0⟩) Vu zGN zK9 (by decide) zLq rfl zpD fun zqC zpm hAl137 => ?_
    refine Tr.asg rfl rfl (Tr.nil (Tr.zb (Tr.zA (Tr.region (Tr.va rfl (fun _ _ a c => zg (a.ev rfl) (a.ev rfl)) ?_)))))
    exact Tr.mv rfl rfl (Tr.nil (Tr.zZ QI (zV, (iL1 + 1), zfq, zqC, zpm) ⟨rfl, Jh QK, QF QK, H, hAl137⟩ (.cons rfl (.cons rfl (.cons rfl (.cons (congrArg (fun z => some (Value.int .i64 z)) (Jg QK zLn)) .nil)))) (.cons rfl (.cons rfl .nil))))

theorem zHv {w : Bs} (p0 : (List Int)) (zF : Option Addr) (zH : Nat) (zK : Sl w.R w.W zW zF zH p0) (p1 : (List Int)) (Ql : Option Addr) (Qk : Nat) (KU : Sl w.R w.W zW Ql Qk p1) (r : Bool) (H : zA5 p0 p1 = some r) (hE : HF w w.W E0) : Calls Tryz.prog 70 [sL zF p0 zH, sL Ql p1 Qk].toArray w.W fun e W' => e = .returned (bV r) ∧ HF w W' E0 := by
 unfold zA5 at H
 have leB := Bs.Le.refl w
 refine Tr.enter (n := 26) Tryz.func70 rfl rfl rfl hE ?_
 refine Tr.sr (Tr.asg rfl rfl (Tr.nil (Tr.zA (Tr.seq (Tr.sr (Tr.mv rfl rfl (Tr.va rfl (fun _ _ a c => zf Vu (a.ev rfl)) ?_)))))))
 refine Tr.mv rfl rfl (Tr.va rfl (fun _ _ a c => zf Vu (a.ev rfl)) ?_)
 refine Tr.va rfl (fun _ _ a c => zCi (a.ev rfl) (a.ev rfl)) ?_
 refine Tr.nil (Tr.zA (Tr.cond rfl H (fun H => ?_) (fun H => ?_)))
 ·refine Tr.sr (Tr.asg rfl rfl (Tr.nil (Tr.zA (Tr.ret (Tr.zq ?_)))))
  obtain rfl := oI H
  exact Tr.out (m := [bV false]) [] (zU rfl zY) (fun W hW => ⟨rfl, hW.low leB⟩)
 ·refine Tr.skip (Tr.zA (Tr.seq (Tr.sr (Tr.mv rfl rfl (Tr.va rfl (fun _ _ a c => zf Vu (a.ev rfl)) ?_)))))
  refine Tr.mv rfl rfl (Tr.nil (Tr.zA (Tr.block (Tr.loop (σ := (List Int) × Nat) (fun m w s => m = s.1.length + 1 ∧ s.1 = List.drop s.2 p0 ∧ s.2 ≤ p0.length ∧ KM p1 s.1 s.2 = some r) (fun s => [(0, sL zF p0 zH), (1, sL Ql p1 Qk), (12, iv (p0.length : Int)), (13, iv (s.2 : Int))]) (fun s => []) (p0.length + 1) (p0, 0) ⟨rfl, rfl, Nat.zero_le _, H⟩ (.cons rfl (.cons rfl (.cons rfl (.cons rfl .nil)))) .nil (fun _ _ h => absurd h.1 (by simp)) ?_))))
  intro w QI m s hs
  obtain ⟨zV, iL1⟩ := s
  obtain ⟨Vn, QK, hiL1, H⟩ := hs
  replace QK : zV = List.drop iL1 p0 := QK
  replace H : KM p1 zV iL1 = some r := H
  replace Vn : m + 1 = zV.length + 1 := Vn
  replace zK := zK.leR QI
  replace KU := KU.leR QI
  replace leB := leB.trans QI
  obtain rfl : m = zV.length := by omega
  clear Vn
  show Tr _ _ (LF [(0, sL zF p0 zH), (1, sL Ql p1 Qk), (12, iv (p0.length : Int)), (13, iv (iL1 : Int))]) (LE []) _
  cases zV with
  | nil =>
   rw [KM.eq_1] at H
   refine Tr.sr (Tr.va rfl (fun _ _ a c => zh (a.ev rfl) (a.ev rfl)) ?_)
   refine Tr.nil (Tr.zA (Tr.seq (Tr.zBN rfl (KF QK) ?_)))
   refine Tr.exit (Tr.zP (Tr.zP (Tr.zl (Tr.zA (Tr.sr (Tr.asg rfl rfl (Tr.nil (Tr.zA (Tr.ret ?_)))))))))
   obtain rfl := oI H
   exact Tr.out (m := [bV true]) [] (zU rfl zY) (fun W hW => ⟨rfl, hW.low leB⟩)
  | cons xL1 zV =>
   rw [KM.eq_2] at H
   refine Tr.sr (Tr.va rfl (fun _ _ a c => zh (a.ev rfl) (a.ev rfl)) ?_)
   refine Tr.nil (Tr.zA (Tr.seq (Tr.zBM rfl (VD QK) ?_)))
   refine Tr.skip (Tr.zA (Tr.seq (Tr.block (Tr.sr (Tr.mv rfl rfl (Tr.asg rfl rfl (Tr.nil (Tr.zA (Tr.seq (Tr.draw (by kernel_rfl) (by kernel_rfl) ?_))))))))))
   refine Tq.mv rfl rfl (Tq.mv rfl rfl (Tq.va rfl (fun _ _ a c => zD Kb (a.ev rfl) zK.form (a.ev rfl) (Int.natCast_nonneg _) (QF QK)) ?_))
   refine Tq.va rfl (fun _ _ a c => zC QA (a.ev rfl) (rdF Jd zK (Kv QK) c) rfl) ?_
   refine Tq.mv rfl rfl (Tq.mv rfl rfl ?_)
   obtain ⟨x103, zKU, H⟩ := bnd H
   obtain ⟨zHH, zHG, zHF⟩ := zO zKU
   refine Tq.va rfl (fun _ _ a c => zD Kb (a.ev rfl) KU.form (a.ev rfl) zHH zHG) ?_
   refine Tq.va rfl (fun _ _ a c => zC QA (a.ev rfl) (rdF Jd KU zHF c) rfl) ?_
   refine Tq.va rfl (fun _ _ a c => zCi (a.ev rfl) (a.ev rfl)) ?_
   refine Tq.nil (Tr.zA (Tr.cond rfl H (fun H => ?_) (fun H => ?_)))
   ·refine Tr.sr (Tr.asg rfl rfl (Tr.nil (Tr.zA (Tr.ret (Tr.QY (Tr.zq (Tr.zq (Tr.QY (Tr.zq ?_)))))))))
    obtain rfl := oI H
    exact Tr.out (m := [bV false]) [] (zU rfl zY) (fun W hW => ⟨rfl, hW.low leB⟩)
   ·refine Tr.skip (Tr.zb (Tr.zA (Tr.region (Tr.va rfl (fun _ _ a c => zg (a.ev rfl) (a.ev rfl)) ?_))))
    exact Tr.mv rfl rfl (Tr.nil (Tr.zZ QI (zV, (iL1 + 1)) ⟨rfl, Jh QK, QF QK, H⟩ (.cons rfl (.cons rfl (.cons rfl (.cons (congrArg (fun z => some (Value.int .i64 z)) (Jg QK zK.form)) .nil)))) .nil))

theorem zEc {w : Bs} (p0 : (List JD)) (zF : Option Addr) (zH : Nat) (p1 : JD) (Ql : Option Addr) (Qk : Nat) (KU : Sl w.O w.W zW Ql Qk p1.Xs) (r : (List JD)) (H : VG p0 p1 = some r) (hE : HF w w.W (LEn [ow zF zH 67 Qi p0])) : Calls Tryz.prog 36 [sL zF p0 zH, .agg #[iv p1.Y0, iv p1.Y1, sL Ql p1.Xs Qk]].toArray w.W fun e W' => ∃ (w' : Bs) (u : (Option Addr × Nat)), w.Le w' ∧ e = .returned (sL u.1 r u.2) ∧ (SlF u.1 r.length u.2) ∧ HF w' W' (LEn [ow u.1 u.2 67 Qi r]) := by
 unfold VG at H
 have zBd := (hE.sl (k := 0) rfl).form
 have leB := Bs.Le.refl w
 refine Tr.enter (n := 54) Tryz.func36 rfl rfl rfl hE ?_
 refine Tr.sr (Tr.box 1 (cs := [iv p1.Y0, iv p1.Y1, sL Ql p1.Xs Qk]) (wn rfl) rfl rfl rfl fun QQ => ?_)
 refine Tr.asg rfl rfl (Tr.Qb 2 67 Qi ?_)
 show Tr _ _ (uf _ 4 (sL none (([] : List JD)) 0)) _ _
 refine Tr.nil (Tr.zA (Tr.seq (Tr.sr (Tr.va rfl (fun _ _ a c => zB zBe (a.ev rfl)) ?_))))
 refine Tr.va rfl (fun _ _ a c => zC zAA (a.ev rfl) (rdb c (vs := [iv p1.Y0, iv p1.Y1, sL Ql p1.Xs Qk]) (k := 1) rfl 2) rfl) ?_
 refine Tr.va rfl (fun _ _ a c => zf Vu (a.ev rfl)) ?_
 refine Tr.va rfl (fun _ _ a c => Vv (a.ev rfl) (a.ev rfl)) ?_
 refine Tr.mv rfl rfl (Tr.zBy 6 [(0, sL zF p0 zH), (3, pV QQ), (16, bV (((p1.Xs.length : Int) == 0) || (decide (p1.Y1 ≤ p1.Y0))))] [(0, ow zF zH 67 Qi p0), (1, bx QQ #[iv p1.Y0, iv p1.Y1, sL Ql p1.Xs Qk] 67), (2, ow none 0 67 Qi ([] : List JD))] ?_ ?_)
 ·cases zBk : ((p1.Xs.length : Int) == 0)
  ·refine Tr.val (wg rfl rfl rfl) rfl (fun _ _ a c => zB zEN (a.ev rfl)) ?_
   refine Tr.val (wg rfl rfl rfl) rfl (fun _ _ a c => zC QA (a.ev rfl) (rdb c (vs := [iv p1.Y0, iv p1.Y1, sL Ql p1.Xs Qk]) (k := 1) rfl 1) rfl) ?_
   refine Tr.val (wg rfl rfl rfl) rfl (fun _ _ a c => zB zE1 (a.ev rfl)) ?_
   refine Tr.val (wg rfl rfl rfl) rfl (fun _ _ a c => zC QA (a.ev rfl) (rdb c (vs := [iv p1.Y0, iv p1.Y1, sL Ql p1.Xs Qk]) (k := 1) rfl 0) rfl) ?_
   refine Tr.val (wg rfl rfl rfl) rfl (fun _ _ a c => zBJ (a.ev rfl) (a.ev rfl)) ?_
   refine Tr.va rfl (fun _ _ a c => zy (a.ev rfl) (a.ev rfl)) ?_
   exact Tr.nil (Tr.VW (.cons rfl (.cons rfl (.cons rfl .nil))) (.cons rfl (.cons rfl (.cons rfl .nil))))
  ·refine Tr.pass rfl rfl rfl rfl rfl (by decide) ?_
   refine Tr.pass rfl rfl rfl rfl rfl (by decide) ?_
   refine Tr.pass rfl rfl rfl rfl rfl (by decide) ?_
   refine Tr.pass rfl rfl rfl rfl rfl (by decide) ?_
   refine Tr.pass rfl rfl rfl rfl rfl (by decide) ?_
   refine Tr.va rfl (fun _ _ a c => zx (a.ev rfl) (a.ev rfl)) ?_
   exact Tr.nil (Tr.VW (.cons rfl (.cons rfl (.cons rfl .nil))) (.cons rfl (.cons rfl (.cons rfl .nil))))
 ·show Tr _ _ (LF [(0, sL zF p0 zH), (3, pV QQ), (16, bV (((p1.Xs.length : Int) == 0) || (decide (p1.Y1 ≤ p1.Y0))))]) (LE [(0, ow zF zH 67 Qi p0), (1, bx QQ #[iv p1.Y0, iv p1.Y1, sL Ql p1.Xs Qk] 67), (2, ow none 0 67 Qi ([] : List JD))]) _
  refine Tr.nil (Tr.zA (Tr.cond rfl H (fun H => ?_) (fun H => ?_)))
  ·refine Tr.sr (Tr.mv rfl rfl (Tr.asg rfl rfl (Tr.nil (Tr.zA (Tr.ret (Tr.zq ?_))))))
   obtain rfl := oI H
   exact Tr.out (m := [sL zF p0 zH]) [] (zU rfl zY) (fun W hW => ⟨w, (zF, zH), leB, rfl, zBd, hW.pick (ks := [0]) (by decide) (zn rfl zw)⟩)
  ·refine Tr.skip (Tr.zA (Tr.seq (Tr.sr (Tr.mv rfl rfl (Tr.va rfl (fun _ _ a c => zf zPx (a.ev rfl)) ?_)))))
   refine Tr.va rfl (fun _ _ a c => Jn (a.ev rfl) (a.ev rfl)) ?_
   refine Tr.asg rfl rfl (Tr.nil (Tr.zA (Tr.seq (Tr.draw (by kernel_rfl) (by kernel_rfl) ?_))))
   refine Tq.mv rfl rfl (Tq.va rfl (fun _ _ a c => zEz (a.ev rfl) (a.ev rfl)) ?_)
   refine Tq.mv rfl rfl ?_
   obtain ⟨zSN, zGn, H⟩ := bnd H
   refine Tq.mid 9 [(0, sL zF p0 zH), (3, pV QQ), (5, iv (w64 ((p0.length : Int) - 1))), (32, bV zSN)] ?_ ?_
   ·cases zBk : (decide (0 ≤ (w64 ((p0.length : Int) - 1))))
    ·rw [zBk] at zGn
     rw [if_neg (by decide)] at zGn
     have H := zGn
     obtain rfl := oI H
     refine Tq.pass rfl rfl rfl rfl rfl (by decide) ?_
     refine Tq.pass rfl rfl rfl rfl rfl (by decide) ?_
     refine Tq.pass rfl rfl rfl rfl rfl (by decide) ?_
     refine Tq.pass rfl rfl rfl rfl rfl (by decide) ?_
     refine Tq.pass rfl rfl rfl rfl rfl (by decide) ?_
     refine Tq.pass rfl rfl rfl rfl rfl (by decide) ?_
     refine Tq.pass rfl rfl rfl rfl rfl (by decide) ?_
     refine Tq.pass rfl rfl rfl rfl rfl (by decide) ?_
     refine Tq.va rfl (fun _ _ a c => zy (a.ev rfl) (a.ev rfl)) ?_
     exact Tq.fin (.cons rfl (.cons rfl (.cons rfl (.cons rfl .nil))))
    ·rw [zBk] at zGn
     rw [if_pos rfl] at zGn
     have H := zGn
     refine Tq.val (wg rfl rfl rfl) rfl (fun _ _ a c => run_move (a.ev rfl)) ?_
     refine Tq.val (wg rfl rfl rfl) rfl (fun _ _ a c => run_move (a.ev rfl)) ?_
     obtain ⟨x103, zKU, H⟩ := bnd H
     obtain ⟨zHH, zHG, zHF⟩ := zO zKU
     refine Tq.val (wg rfl rfl rfl) rfl (fun _ _ a c => zD zKd (a.ev rfl) zBd (a.ev rfl) zHH zHG) ?_
     refine Tq.val (wg rfl rfl rfl) rfl (fun _ _ a c => zB zEN (a.ev rfl)) ?_
     refine Tq.val (wg rfl rfl rfl) rfl (fun _ _ a c => (HF.atN (k := 0) c rfl zHF).elim fun u hu => zC QA (a.ev rfl) (hu.2.drop 1) rfl) ?_
     refine Tq.val (wg rfl rfl rfl) rfl (fun _ _ a c => zB zE1 (a.ev rfl)) ?_
     refine Tq.val (wg rfl rfl rfl) rfl (fun _ _ a c => zC QA (a.ev rfl) (rdb c (vs := [iv p1.Y0, iv p1.Y1, sL Ql p1.Xs Qk]) (k := 1) rfl 0) rfl) ?_
     refine Tq.val (wg rfl rfl rfl) rfl (fun _ _ a c => Vv (a.ev rfl) (a.ev rfl)) ?_
     refine Tq.va rfl (fun _ _ a c => zx (a.ev rfl) (a.ev rfl)) ?_
     obtain rfl := oI H
     exact Tq.fin (.cons rfl (.cons rfl (.cons rfl (.cons rfl .nil))))
   ·refine Tq.mv rfl rfl ?_
    obtain ⟨zSM, zCk, H⟩ := bnd H
    refine Tq.mid 9 [(0, sL zF p0 zH), (3, pV QQ), (5, iv (w64 ((p0.length : Int) - 1))), (42, bV zSM)] ?_ ?_
    ·cases zBk : zSN
     ·rw [zBk] at zCk
      rw [if_neg (by decide)] at zCk
      have H := zCk
      obtain rfl := oI H
      refine Tq.pass rfl rfl rfl rfl rfl (by decide) ?_
      refine Tq.pass rfl rfl rfl rfl rfl (by decide) ?_
      refine Tq.pass rfl rfl rfl rfl rfl (by decide) ?_
      refine Tq.pass rfl rfl rfl rfl rfl (by decide) ?_
      refine Tq.pass rfl rfl rfl rfl rfl (by decide) ?_
      refine Tq.pass rfl rfl rfl rfl rfl (by decide) ?_
      refine Tq.pass rfl rfl rfl rfl rfl (by decide) ?_
      refine Tq.pass rfl rfl rfl rfl rfl (by decide) ?_
      refine Tq.va rfl (fun _ _ a c => zy (a.ev rfl) (a.ev rfl)) ?_
      exact Tq.fin (.cons rfl (.cons rfl (.cons rfl (.cons rfl .nil))))
     ·rw [zBk] at zCk
      rw [if_pos rfl] at zCk
      have H := zCk
      refine Tq.val (wg rfl rfl rfl) rfl (fun _ _ a c => run_move (a.ev rfl)) ?_
      refine Tq.val (wg rfl rfl rfl) rfl (fun _ _ a c => run_move (a.ev rfl)) ?_
      obtain ⟨Vt, zIJ, H⟩ := bnd H
      obtain ⟨zFZ, zFY, zFX⟩ := zO zIJ
      refine Tq.val (wg rfl rfl rfl) rfl (fun _ _ a c => zD zKd (a.ev rfl) zBd (a.ev rfl) zFZ zFY) ?_
      refine Tq.val (wg rfl rfl rfl) rfl (fun _ _ a c => zB zBe (a.ev rfl)) ?_
      refine Tq.zRf (U := (Qi).Ad) (fun u => (Qi).ok w.O w.W u Vt) (fun u => (sL u.1 Vt.Xs u.2)) (wg rfl rfl rfl) rfl (ldN (κ := 0) (t := Qi) (V := fun u => (sL u.1 Vt.Xs u.2)) rfl zFX (fun _ _ u a hc => zC zAA (a.ev rfl) (hc.drop 2) rfl)) ?_
      intro zfC zSE
      obtain ⟨zHX, zHR⟩ := zfC
      have zEI := zSE
      replace zEI : Sl w.O w.W zW zHX zHR Vt.Xs := zEI
      show Tq _ _ _ _ (uf _ 38 (sL zHX Vt.Xs zHR)) _ _ _
      refine Tq.val (wg rfl rfl rfl) rfl (fun _ _ a c => zB zBe (a.ev rfl)) ?_
      refine Tq.val (wg rfl rfl rfl) rfl (fun _ _ a c => zC zAA (a.ev rfl) (rdb c (vs := [iv p1.Y0, iv p1.Y1, sL Ql p1.Xs Qk]) (k := 1) rfl 2) rfl) ?_
      obtain ⟨zI8, zTh, H⟩ := bnd H
      refine Tq.KV (r := (bV zI8)) (wg rfl rfl rfl) rfl Tryz.call70 (zI rfl (zI rfl zX)) (fun W hW => zHv Vt.Xs zHX zHR (zEI.rl.ext hW.Ky) p1.Xs Ql Qk (KU.rl.ext hW.Ky) zI8 zTh (HF.start _)) ?_
      refine Tq.va rfl (fun _ _ a c => zx (a.ev rfl) (a.ev rfl)) ?_
      obtain rfl := oI H
      exact Tq.fin (.cons rfl (.cons rfl (.cons rfl (.cons rfl .nil))))
    ·refine Tq.nil (Tr.zA (Tr.cond rfl H (fun H => ?_) (fun H => ?_)))
     ·refine Tr.sr (Tr.mv rfl rfl (Tr.mv rfl rfl (Tr.va rfl (fun _ _ a c => zB zEN (a.ev rfl)) ?_)))
      refine Tr.va rfl (fun _ _ a c => zC QA (a.ev rfl) (rdb c (vs := [iv p1.Y0, iv p1.Y1, sL Ql p1.Xs Qk]) (k := 1) rfl 1) rfl) ?_
      obtain ⟨zB7, zTo, H⟩ := bnd H
      obtain ⟨zOh, zOg, zOf⟩ := zO zTo
      refine Tr.va rfl (fun _ _ a c => zD zKd (a.ev rfl) zBd (a.ev rfl) zOh zOg) ?_
      refine Tr.va rfl (fun _ _ a c => zB zEN (a.ev rfl)) ?_
      obtain ⟨zJp, zTw, H⟩ := bnd H
      have zHI := zFS zTw
      refine Tr.zFz 0 (t := Qi) (l := p0) (i := (w64 ((p0.length : Int) - 1))) (fo := 1) (cs := [iv p1.Y1]) (JD.mk zB7.Y0 p1.Y1 zB7.Xs) (wn rfl) rfl rfl rfl rfl rfl zOf zGN rfl (fun u hu => ⟨u, hu, rfl⟩) rfl zTw ?_
      have zV8 : SlF zF zJp.length zH := by rw [zHI]; exact zBd
      have hsl112 := zHI.trans rfl
      refine Tr.sel (lf := [(0, sL zF zJp zH), (3, pV QQ), (5, iv (w64 ((p0.length : Int) - 1))), (42, bV zSM), (43, sL zF zJp zH), (44, iv (w64 ((p0.length : Int) - 1))), (45, .pointer (some ⟨QQ, 1, none⟩)), (46, iv p1.Y1)]) (le := [(0, ow zF zH 67 Qi zJp), (1, bx QQ #[iv p1.Y0, iv p1.Y1, sL Ql p1.Xs Qk] 67), (2, ow none 0 67 Qi ([] : List JD))]) (.cons (zAg rfl (by unfold sL; rw [zHI])) (.cons rfl (.cons rfl (.cons rfl (.cons (zAg rfl (by unfold sL; rw [zHI])) (.cons rfl (.cons rfl (.cons rfl .nil)))))))) (.cons rfl (.cons rfl (.cons rfl .nil))) ?_
      refine Tr.nil (Tr.zA (Tr.sr (Tr.mv rfl rfl (Tr.asg rfl rfl (Tr.nil (Tr.zA (Tr.ret (Tr.zq ?_))))))))
      obtain rfl := oI H
      exact Tr.out (m := [sL zF zJp zH]) [] (zU rfl zY) (fun W hW => ⟨w, (zF, zH), leB, rfl, zV8, hW.pick (ks := [0]) (by decide) (zn rfl zw)⟩)
     ·refine Tr.skip (Tr.zA (Tr.sr (Tr.mv rfl rfl (Tr.va rfl (fun _ _ a c => ze (cs := [iv p1.Y0, iv p1.Y1, sL Ql p1.Xs Qk]) zX2 zLw (a.ev rfl) (zQ.take (rdb c (vs := [iv p1.Y0, iv p1.Y1, sL Ql p1.Xs Qk]) (k := 1) rfl 0) 3) rfl) ?_))))
      refine Tr.buildSlice 3 (e := 67) (vs := [(0, .agg #[iv p1.Y0, iv p1.Y1, sL Ql p1.Xs Qk])]) (cs := [iv p1.Y0, iv p1.Y1, sL Ql p1.Xs Qk]) (wn rfl) rfl (zi rfl Qh) (by kernel_rfl) fun zrS => ?_
      obtain ⟨zLb, zQZ, H⟩ := bnd H
      refine Tr.append 0 (t := Qi) (l := p0) (l2 := [p1]) (wn rfl) rfl rfl rfl rfl (fun W hW => ⟨[[iv p1.Y0, iv p1.Y1, sL Ql p1.Xs Qk]], (.cons ⟨(Ql, Qk), KU, rfl⟩ .nil), rdb hW (vs := [iv p1.Y0, iv p1.Y1, sL Ql p1.Xs Qk]) (k := 3) rfl 0⟩) zPx zLw zlF (by decide) zps rfl zQZ fun zUs zUO hAl114 => ?_
      refine Tr.asg rfl rfl (Tr.nil (Tr.zA (Tr.ret ?_)))
      obtain rfl := oI H
      exact Tr.out (m := [sL zUs zLb zUO]) [] (zU rfl zY) (fun W hW => ⟨w, (zUs, zUO), leB, rfl, hAl114, hW.pick (ks := [0]) (by decide) (zn rfl zw)⟩)

theorem zG0 (N : Nat) {w : Bs} (p0 : (List zJ)) (zF : Option Addr) (zH : Nat) (zK : Sl w.R w.W zL zF zH p0) (r : (List JD)) (H : Wj N p0 = some r) (hE : HF w w.W (LEn [emp])) : Calls Tryz.prog 13 [sL zF p0 zH].toArray w.W fun e W' => ∃ (w' : Bs) (u : (Option Addr × Nat)), w.Le w' ∧ e = .returned (sL u.1 r u.2) ∧ (SlF u.1 r.length u.2) ∧ HF w' W' (LEn [ow u.1 u.2 67 Qi r]) := by
 unfold Wj at H
 have leB := Bs.Le.refl w
 refine Tr.enter (n := 83) Tryz.func13 rfl rfl rfl hE ?_
 refine Tr.sr (Tr.asg rfl rfl (Tr.Qb 1 67 Qi ?_))
 show Tr _ _ (uf _ 2 (sL none (([] : List JD)) 0)) _ _
 refine Tr.nil (Tr.zA (Tr.sr (Tr.mv rfl rfl ?_)))
 obtain ⟨zN, zAQ, H⟩ := bnd H
 refine Tr.zAi [2] [emp] (U := (Option Addr × Nat)) (fun u => (sL u.1 zN u.2)) (fun u => SlF u.1 zN.length u.2) (fun u => [ow u.1 u.2 36 zL zN]) rfl (zn rfl zw) (fun _ => rfl) (wn rfl) rfl Tryz.call29 (zI rfl zX) (fun W hW hp hE => zHS p0 zF zH (zK.ext (hW.zCA hp)) zN zAQ hE) ?_
 intro u hu
 obtain ⟨zR, zT⟩ := u
 have gy100_0 := hu
 have QZ : SlF zR zN.length zT := gy100_0 --@phi
 show Tr _ _ (uf _ 11 (sL zR zN zT)) (up _ 2 (ow zR zT 36 zL zN)) _
 refine Tr.asg rfl rfl (Tr.nil (Tr.zA (Tr.sr (Tr.mv rfl rfl ?_))))
 obtain ⟨y102, hy102, H⟩ := bnd H
 refine Tr.zAi [2] [ow zR zT 36 zL zN] (U := Unit) (fun u => (.tuple #[])) (fun u => y102.length = zN.length) (fun u => [ow zR zT 36 zL y102]) rfl (zn rfl zw) (fun _ => rfl) (wn rfl) rfl Tryz.call30 (zI rfl (zI rfl zX)) (fun W hW hp hE => zA4 zN zR zT (fun z0 z1 => zAf z0 z1) 31 [] Tryz.call31 (fun w' he z0 z1 y hy => zJ2 z0 z1 y hy (HF.start _)) y102 hy102 hE) ?_
 intro u hu
 have gky102_0 := hu
 have zIw : y102.length = zN.length := gky102_0 --@phi
 have zIz : SlF zR y102.length zT := by rw [zIw]; exact QZ
 show Tr _ _ (uf _ 13 (.tuple #[])) (up _ 2 (ow zR zT 36 zL y102)) _
 refine Tr.sel (lf := [(0, sL zR y102 zT), (2, sL none (([] : List JD)) 0), (10, sL zF p0 zH), (11, sL zR y102 zT), (12, sL zR y102 zT), (13, (.tuple #[]))]) (le := [(1, ow none 0 67 Qi ([] : List JD)), (2, ow zR zT 36 zL y102)]) (.cons (zAg rfl (by unfold sL; rw [zIw])) (.cons rfl (.cons rfl (.cons (zAg rfl (by unfold sL; rw [zIw])) (.cons (zAg rfl (by unfold sL; rw [zIw])) (.cons rfl .nil)))))) (.cons rfl (.cons rfl .nil)) ?_
 refine Tr.nil (Tr.zA (Tr.sr (Tr.alloc 3 (wn rfl) rfl zlL fun WR => ?_)))
 refine Tr.nil (Tr.zA (Tr.seq (Tr.sr (Tr.mv rfl rfl (Tr.va rfl (fun _ _ a c => zf zA9 (a.ev rfl)) ?_)))))
 refine Tr.mv rfl rfl (Tr.nil (Tr.zA (Tr.block (Tr.Qb 12 3 zW ?_))))
 refine Tr.loop (σ := (List zJ) × Nat × (List Int) × (Option Addr) × Nat) (fun m w s => m = s.1.length + 1 ∧ s.1 = List.drop s.2.1 y102 ∧ s.2.1 ≤ y102.length ∧ VE N y102 s.1 s.2.1 s.2.2.1 = some r ∧ SlF s.2.2.2.1 s.2.2.1.length s.2.2.2.2) (fun s => [(0, sL zR y102 zT), (3, pV WR), (14, sL zR y102 zT), (15, iv (y102.length : Int)), (16, iv (s.2.1 : Int))]) (fun s => [(2, ow zR zT 36 zL y102), (3, bx WR #[sL s.2.2.2.1 s.2.2.1 s.2.2.2.2] 59), (12, ow s.2.2.2.1 s.2.2.2.2 3 zW s.2.2.1)]) (y102.length + 1) (y102, 0, ([] : List Int), none, 0) ⟨rfl, rfl, Nat.zero_le _, H, Jm⟩ (.cons rfl (.cons rfl (.cons rfl (.cons rfl (.cons rfl .nil))))) (.cons rfl (.cons rfl (.cons rfl .nil))) (fun _ _ h => absurd h.1 (by simp)) ?_
 intro w QI m s hs
 obtain ⟨zV, iL1, zBj, zBY, zBU⟩ := s
 obtain ⟨Vn, QK, hiL1, H, zQY⟩ := hs
 replace QK : zV = List.drop iL1 y102 := QK
 replace H : VE N y102 zV iL1 zBj = some r := H
 replace Vn : m + 1 = zV.length + 1 := Vn
 replace leB := leB.trans QI
 replace zQY : SlF zBY zBj.length zBU := zQY
 obtain rfl : m = zV.length := by omega
 clear Vn
 show Tr _ _ (LF [(0, sL zR y102 zT), (3, pV WR), (14, sL zR y102 zT), (15, iv (y102.length : Int)), (16, iv (iL1 : Int))]) (LE [(2, ow zR zT 36 zL y102), (3, bx WR #[sL zBY zBj zBU] 59), (12, ow zBY zBU 3 zW zBj)]) _
 cases zV with
 | nil =>
  rw [VE.eq_1] at H
  refine Tr.sr (Tr.va rfl (fun _ _ a c => zh (a.ev rfl) (a.ev rfl)) ?_)
  refine Tr.nil (Tr.zA (Tr.seq (Tr.zBN rfl (KF QK) ?_)))
  refine Tr.exit (Tr.zP (Tr.zP (Tr.zl (Tr.zA (Tr.sr (Tr.va rfl (fun _ _ a c => zC zAA (a.ev rfl) (rdb c (vs := [sL zBY zBj zBU]) (k := 3) rfl 0) rfl) ?_))))))
  obtain ⟨zEg, zaS, H⟩ := bnd H
  refine Tr.zAi [12] [ow zBY zBU 3 zW zBj] (U := Unit) (fun u => (.tuple #[])) (fun u => zEg.length = zBj.length) (fun u => [ow zBY zBU 3 zW zEg]) rfl (zn rfl zw) (fun _ => rfl) (wn rfl) rfl Tryz.call32 (zI rfl zX) (fun W hW hp hE => zEb zBj zBY zBU zEg zaS hE) ?_
  intro u hu
  have gky120_0 := hu
  have zLm : zEg.length = zBj.length := gky120_0 --@phi
  have zlC : SlF zBY zEg.length zBU := by rw [zLm]; exact zQY
  show Tr _ _ (uf _ 29 (.tuple #[])) (up _ 12 (ow zBY zBU 3 zW zEg)) _
  refine Tr.sel (lf := [(0, sL zR y102 zT), (3, pV WR), (14, sL zR y102 zT), (15, iv (y102.length : Int)), (16, iv (iL1 : Int)), (17, bV (decide ((iL1 : Int) < (y102.length : Int)))), (28, sL zBY zEg zBU), (29, (.tuple #[]))]) (le := [(2, ow zR zT 36 zL y102), (3, bx WR #[sL zBY zEg zBU] 59), (12, ow zBY zBU 3 zW zEg)]) (.cons rfl (.cons rfl (.cons rfl (.cons rfl (.cons rfl (.cons rfl (.cons (zAg rfl (by unfold sL; rw [zLm])) (.cons rfl .nil)))))))) (.cons rfl (.cons (ebx rfl (by unfold sL; rw [zLm])) (.cons rfl .nil))) ?_
  refine Tr.nil (Tr.zA (Tr.sr (Tr.va rfl (fun _ _ a c => zC zAA (a.ev rfl) (rdb c (vs := [sL zBY zEg zBU]) (k := 3) rfl 0) rfl) ?_)))
  obtain ⟨VM, zTg, H⟩ := bnd H
  refine Tr.zAi [12] [ow zBY zBU 3 zW zEg] (U := (Option Addr × Nat)) (fun u => (sL u.1 VM u.2)) (fun u => SlF u.1 VM.length u.2) (fun u => [ow u.1 u.2 3 zW VM]) rfl (zn rfl zw) (fun _ => rfl) (wn rfl) rfl Tryz.call33 (zI rfl zX) (fun W hW hp hE => zDK zEg zBY zBU VM zTg hE) ?_
  intro u hu
  obtain ⟨Jy, KX⟩ := u
  have gy122_0 := hu
  have zGk : SlF Jy VM.length KX := gy122_0 --@phi
  show Tr _ _ (uf _ 31 (sL Jy VM KX)) (up _ 12 (ow Jy KX 3 zW VM)) _
  refine Tr.store 3 (cs := [sL Jy VM KX]) [sL Jy VM KX] (wn rfl) rfl rfl rfl rfl zWd rfl rfl rfl ?_
  refine Tr.nil (Tr.zA (Tr.sr (Tr.asg rfl rfl (Tr.Qb 13 67 Qi ?_))))
  show Tr _ _ (uf _ 6 (sL none (([] : List JD)) 0)) _ _
  refine Tr.nil (Tr.zA (Tr.sr (Tr.asg rfl rfl (Tr.Qb 14 36 zL ?_))))
  show Tr _ _ (uf _ 7 (sL none (([] : List zJ)) 0)) _ _
  refine Tr.nil (Tr.zA (Tr.sr (Tr.asg rfl rfl (Tr.nil (Tr.zA (Tr.seq (Tr.sr (Tr.alloc 15 (wn rfl) rfl zlM fun zdr => ?_))))))))
  refine Tr.store 15 (cs := [iv 0]) [iv 0] (wn rfl) rfl rfl rfl rfl zGN rfl rfl rfl ?_
  refine Tr.nil (Tr.zA (Tr.block (Tr.ren 15 29 rfl rfl rfl ?_)))
  refine Tr.loop (σ := Int × (List JD) × (List zJ) × Int × Nat × (Option Addr) × Nat × (Option Addr) × Nat) (fun m w s => Qo N y102 VM m s.1 s.2.1 s.2.2.1 s.2.2.2.1 = some r ∧ SlF s.2.2.2.2.2.1 s.2.1.length s.2.2.2.2.2.2.1 ∧ SlF s.2.2.2.2.2.2.2.1 s.2.2.1.length s.2.2.2.2.2.2.2.2) (fun s => [(0, sL zR y102 zT), (3, pV WR), (6, sL s.2.2.2.2.2.1 s.2.1 s.2.2.2.2.2.2.1), (7, sL s.2.2.2.2.2.2.2.1 s.2.2.1 s.2.2.2.2.2.2.2.2), (8, iv s.2.2.2.1), (9, .pointer (some ⟨s.2.2.2.2.1, 0, none⟩))]) (fun s => [(2, ow zR zT 36 zL y102), (3, bx WR #[sL Jy VM KX] 59), (12, ow Jy KX 3 zW VM), (13, ow s.2.2.2.2.2.1 s.2.2.2.2.2.2.1 67 Qi s.2.1), (14, ow s.2.2.2.2.2.2.2.1 s.2.2.2.2.2.2.2.2 36 zL s.2.2.1), (29, bx s.2.2.2.2.1 #[iv s.1] 3)]) N (0, ([] : List JD), ([] : List zJ), 0, zdr, none, 0, none, 0) ⟨H, Jm, Jm⟩ (.cons rfl (.cons rfl (.cons rfl (.cons rfl (.cons rfl (.cons rfl .nil)))))) (.cons rfl (.cons rfl (.cons rfl (.cons rfl (.cons rfl (.cons rfl .nil)))))) (fun _ _ h => KG (h.1)) ?_
  intro w zCM mL4 s hs
  obtain ⟨zBw, Wy, zAw, zZQ, bv227, zBW, zBO, zCy, zCm⟩ := s
  obtain ⟨H, zEV, zEu⟩ := hs
  replace H : Qo N y102 VM (mL4 + 1) zBw Wy zAw zZQ = some r := H
  replace leB := leB.trans zCM
  replace zEV : SlF zBW Wy.length zBO := zEV
  rw [Qo.eq_2] at H
  show Tr _ _ (LF [(0, sL zR y102 zT), (3, pV WR), (6, sL zBW Wy zBO), (7, sL zCy zAw zCm), (8, iv zZQ), (9, pV bv227)]) (LE [(2, ow zR zT 36 zL y102), (3, bx WR #[sL Jy VM KX] 59), (12, ow Jy KX 3 zW VM), (13, ow zBW zBO 67 Qi Wy), (14, ow zCy zCm 36 zL zAw), (29, bx bv227 #[iv zBw] 3)]) _
  refine Tr.seq (Tr.sr (Tr.va rfl (fun _ _ a c => zC QA (a.ev rfl) (rdb c (vs := [iv zBw]) (k := 29) rfl 0) rfl) ?_))
  refine Tr.va rfl (fun _ _ a c => zg (a.ev rfl) (a.ev rfl)) ?_
  refine Tr.va rfl (fun _ _ a c => zC zAA (a.ev rfl) (rdb c (vs := [sL Jy VM KX]) (k := 3) rfl 0) rfl) ?_
  refine Tr.va rfl (fun _ _ a c => zf Vu (a.ev rfl)) ?_
  refine Tr.va rfl (fun _ _ a c => zh (a.ev rfl) (a.ev rfl)) ?_
  refine Tr.nil (Tr.zA (Tr.cond rfl H (fun H => ?_) (fun H => ?_)))
  ·refine Tr.skip (Tr.zA (Tr.seq (Tr.block (Tr.sr (Tr.mv rfl rfl (Tr.zIC (vs := [pV WR, pV bv227]) (wn rfl) rfl (zI rfl (zI rfl zX)) ?_))))))
   obtain ⟨zPX, zmj, H⟩ := bnd H
   refine Tr.zAi [14] [ow zCy zCm 36 zL zAw] (U := (Option Addr × Nat)) (fun u => (sL u.1 zPX u.2)) (fun u => SlF u.1 zPX.length u.2) (fun u => [ow u.1 u.2 36 zL zPX]) rfl (zn rfl zw) (fun _ => rfl) (wn rfl) rfl Tryz.call34 (zI rfl (zI rfl zX)) (fun W hW hp hE => zE7 N zAw zCy zCm (fun z0 => zAe z0 VM zBw) 35 [pV WR, pV bv227] Tryz.call35 (fun w' he z0 y hy => zJ1 z0 VM Jy KX ((hW.slS (k := 12) rfl hp rfl).ext he) WR (he.r _ (hW.zWL (k := 3) rfl hp rfl)) (he.cells (hW.zWL (k := 3) rfl hp rfl) (hW.zb1 (k := 3) rfl)) zBw bv227 (he.r _ (hW.zWL (k := 29) rfl hp rfl)) (he.cells (hW.zWL (k := 29) rfl hp rfl) (hW.zb1 (k := 29) rfl)) y hy (HF.start _)) zPX zmj hE) ?_
   intro u hu
   obtain ⟨zNO, zMw⟩ := u
   have gy233_0 := hu
   have zbC : SlF zNO zPX.length zMw := gy233_0 --@phi
   show Tr _ _ (uf _ 41 (sL zNO zPX zMw)) (up _ 14 (ow zNO zMw 36 zL zPX)) _
   refine Tr.asg rfl rfl (Tr.nil (Tr.zA (Tr.seq (Tr.block (Tr.loop (σ := (List zJ) × Int × (Option Addr) × Nat) (fun m w s => Kc y102 VM zBw Wy (Qo N y102 VM mL4) m s.1 s.2.1 = some r ∧ SlF s.2.2.1 s.1.length s.2.2.2) (fun s => [(0, sL zR y102 zT), (3, pV WR), (6, sL zBW Wy zBO), (7, sL s.2.2.1 s.1 s.2.2.2), (8, iv s.2.1), (9, pV bv227)]) (fun s => [(2, ow zR zT 36 zL y102), (3, bx WR #[sL Jy VM KX] 59), (12, ow Jy KX 3 zW VM), (13, ow zBW zBO 67 Qi Wy), (14, ow s.2.2.1 s.2.2.2 36 zL s.1), (29, bx bv227 #[iv zBw] 3)]) N (zPX, zZQ, zNO, zMw) ⟨H, zbC⟩ (.cons rfl (.cons rfl (.cons rfl (.cons rfl (.cons rfl (.cons rfl .nil)))))) (.cons rfl (.cons rfl (.cons rfl (.cons rfl (.cons rfl (.cons rfl .nil)))))) (fun _ _ h => KG (h.1)) ?_)))))
   intro w zC8 mL5 s hs
   obtain ⟨zEj, zLF, zCh, zCc⟩ := s
   obtain ⟨H, zTu⟩ := hs
   replace H : Kc y102 VM zBw Wy (Qo N y102 VM mL4) (mL5 + 1) zEj zLF = some r := H
   replace zCM := zCM.trans zC8
   replace zTu : SlF zCh zEj.length zCc := zTu
   rw [Kc.eq_2] at H
   show Tr _ _ (LF [(0, sL zR y102 zT), (3, pV WR), (6, sL zBW Wy zBO), (7, sL zCh zEj zCc), (8, iv zLF), (9, pV bv227)]) (LE [(2, ow zR zT 36 zL y102), (3, bx WR #[sL Jy VM KX] 59), (12, ow Jy KX 3 zW VM), (13, ow zBW zBO 67 Qi Wy), (14, ow zCh zCc 36 zL zEj), (29, bx bv227 #[iv zBw] 3)]) _
   refine Tr.seq (Tr.seq (Tr.draw (by kernel_rfl) (by kernel_rfl) ?_))
   refine Tq.mv rfl rfl (Tq.mv rfl rfl (Tq.va rfl (fun _ _ a c => zf zA9 (a.ev rfl)) ?_))
   refine Tq.va rfl (fun _ _ a c => zh (a.ev rfl) (a.ev rfl)) ?_
   refine Tq.mv rfl rfl ?_
   obtain ⟨zYy, zQn, H⟩ := bnd H
   refine Tq.mid 11 [(0, sL zR y102 zT), (3, pV WR), (6, sL zBW Wy zBO), (7, sL zCh zEj zCc), (8, iv zLF), (9, pV bv227), (57, bV zYy)] ?_ ?_
   ·cases zKW : (decide (zLF < (y102.length : Int)))
    ·rw [zKW] at zQn
     rw [if_neg (by decide)] at zQn
     have H := zQn
     obtain rfl := oI H
     refine Tq.pass rfl rfl rfl rfl rfl (by decide) ?_
     refine Tq.pass rfl rfl rfl rfl rfl (by decide) ?_
     refine Tq.pass rfl rfl rfl rfl rfl (by decide) ?_
     refine Tq.pass rfl rfl rfl rfl rfl (by decide) ?_
     refine Tq.pass rfl rfl rfl rfl rfl (by decide) ?_
     refine Tq.pass rfl rfl rfl rfl rfl (by decide) ?_
     refine Tq.pass rfl rfl rfl rfl rfl (by decide) ?_
     refine Tq.pass rfl rfl rfl rfl rfl (by decide) ?_
     refine Tq.pass rfl rfl rfl rfl rfl (by decide) ?_
     refine Tq.pass rfl rfl rfl rfl rfl (by decide) ?_
     refine Tq.va rfl (fun _ _ a c => zy (a.ev rfl) (a.ev rfl)) ?_
     exact Tq.fin (.cons rfl (.cons rfl (.cons rfl (.cons rfl (.cons rfl (.cons rfl (.cons rfl .nil)))))))
    ·rw [zKW] at zQn
     rw [if_pos rfl] at zQn
     have H := zQn
     refine Tq.val (wg rfl rfl rfl) rfl (fun _ _ a c => run_move (a.ev rfl)) ?_
     refine Tq.val (wg rfl rfl rfl) rfl (fun _ _ a c => run_move (a.ev rfl)) ?_
     obtain ⟨zlY, zn3, H⟩ := bnd H
     obtain ⟨zib, zia, ziZ⟩ := zO zn3
     refine Tq.val (wg rfl rfl rfl) rfl (fun _ _ a c => zD zA3 (a.ev rfl) zIz (a.ev rfl) zib zia) ?_
     refine Tq.val (wg rfl rfl rfl) rfl (fun _ _ a c => zB zAL (a.ev rfl)) ?_
     refine Tq.val (wg rfl rfl rfl) rfl (fun _ _ a c => zC QA (a.ev rfl) (zQ.drop (rdo KL (k := 2) c rfl ziZ) 1) rfl) ?_
     refine Tq.val (wg rfl rfl rfl) rfl (fun _ _ a c => zC zAA (a.ev rfl) (rdb c (vs := [sL Jy VM KX]) (k := 3) rfl 0) rfl) ?_
     refine Tq.val (wg rfl rfl rfl) rfl (fun _ _ a c => zC QA (a.ev rfl) (rdb c (vs := [iv zBw]) (k := 29) rfl 0) rfl) ?_
     obtain ⟨zlX, zn2, H⟩ := bnd H
     obtain ⟨ziY, ziX, ziW⟩ := zO zn2
     refine Tq.val (wg rfl rfl rfl) rfl (fun _ _ a c => zD Kb (a.ev rfl) zGk (a.ev rfl) ziY ziX) ?_
     refine Tq.val (wg rfl rfl rfl) rfl (fun _ _ a c => zC QA (a.ev rfl) (rdo Jd (k := 12) c rfl ziW) rfl) ?_
     refine Tq.val (wg rfl rfl rfl) rfl (fun _ _ a c => zBJ (a.ev rfl) (a.ev rfl)) ?_
     refine Tq.va rfl (fun _ _ a c => zx (a.ev rfl) (a.ev rfl)) ?_
     obtain rfl := oI H
     exact Tq.fin (.cons rfl (.cons rfl (.cons rfl (.cons rfl (.cons rfl (.cons rfl (.cons rfl .nil)))))))
   ·refine Tq.nil (Tr.zA (Tr.cond rfl H (fun H => ?_) (fun H => ?_)))
    ·refine Tr.skip (Tr.zA (Tr.block (Tr.region (Tr.mv rfl rfl (Tr.mv rfl rfl (Tr.mv rfl rfl ?_))))))
     obtain ⟨zFL, zn1, H⟩ := bnd H
     obtain ⟨ziV, ziU, ziT⟩ := zO zn1
     refine Tr.va rfl (fun _ _ a c => zD zA3 (a.ev rfl) zIz (a.ev rfl) ziV ziU) ?_
     refine Tr.va rfl (fun _ _ a c => ze (cs := [iv zFL.X0, iv zFL.Y0, iv zFL.X1, iv zFL.Y1]) zCw zAK (a.ev rfl) (zQ.take (rdo KL (k := 2) c rfl ziT) 4) rfl) ?_
     refine Tr.buildSlice 32 (e := 36) (vs := [(0, .agg #[iv zFL.X0, iv zFL.Y0, iv zFL.X1, iv zFL.Y1])]) (cs := [iv zFL.X0, iv zFL.Y0, iv zFL.X1, iv zFL.Y1]) (wn rfl) rfl (zi rfl Qh) (by kernel_rfl) fun zsH => ?_
     obtain ⟨zfn, zo5, H⟩ := bnd H
     refine Tr.append 14 (t := zL) (l := zEj) (l2 := [zFL]) (wn rfl) rfl rfl rfl rfl (fun W hW => ⟨[[iv zFL.X0, iv zFL.Y0, iv zFL.X1, iv zFL.Y1]], (.cons ⟨(), trivial, rfl⟩ .nil), rdb hW (vs := [iv zFL.X0, iv zFL.Y0, iv zFL.X1, iv zFL.Y1]) (k := 32) rfl 0⟩) zA9 zAK zSs (by decide) zUW rfl zo5 fun zp8 zpi hAl266 => ?_
     refine Tr.mv rfl rfl (Tr.va rfl (fun _ _ a c => zg (a.ev rfl) (a.ev rfl)) ?_)
     exact Tr.asg rfl rfl (Tr.asg rfl rfl (Tr.nil (Tr.zb (Tr.zZ zC8 (zfn, (w64 (zLF + 1)), zp8, zpi) ⟨H, hAl266⟩ (.cons rfl (.cons rfl (.cons rfl (.cons rfl (.cons rfl (.cons rfl .nil)))))) (.cons rfl (.cons rfl (.cons rfl (.cons rfl (.cons rfl (.cons rfl .nil))))))))))
    ·refine Tr.exit (Tr.zP (Tr.zP (Tr.zl (Tr.zA (Tr.zJQ 13 [(11, (ow zCh zCc 36 zL zEj).S)] [] (by kernel_rfl) (by kernel_rfl) fun zP0 zoh zqJ => ?_)))))
     refine Dr.Wh 0 (by kernel_rfl) rfl (wn rfl) rfl (by kernel_rfl) (fun _ _ a => run_move (a.ev rfl)) rfl ?_
     refine Dr.zED 1 [(68, sL Jy VM KX)] [11] false (by kernel_rfl) rfl rfl (by kernel_rfl) (fun W W' c hsW hk => HF.zHc (le := [(3, bx WR #[sL Jy VM KX] 59)]) (ks := [(14, (ow zCh zCc 36 zL zEj).S)]) (s0 := zP0) false c hk (fun h => absurd h (by decide)) (.cons rfl .nil) (fun b hb => hb.elim (fun ⟨p, hp, hf, hb⟩ => by simp only [List.mem_cons, List.not_mem_nil, or_false] at hp; rcases hp with rfl; exact .inl ⟨_, List.mem_cons_self, hb⟩) (fun hb => absurd hb.1 (by decide))) (List.forall_mem_cons.2 ⟨fun b hb => hb, (fun _ h => nomatch h)⟩) rfl) ?_ rfl rfl ?_
     ·refine Tq.va rfl (fun _ _ a c => zC zAA (a.ev rfl) (rdb c (vs := [sL Jy VM KX]) (k := 3) rfl 0) rfl) ?_
      exact Tq.fin (.cons rfl .nil)
     refine Dr.zED 2 [(69, iv zBw)] [11] false (by kernel_rfl) rfl rfl (by kernel_rfl) (fun W W' c hsW hk => HF.zHc (le := [(29, bx bv227 #[iv zBw] 3)]) (ks := [(14, (ow zCh zCc 36 zL zEj).S)]) (s0 := zP0) false c hk (fun h => absurd h (by decide)) (.cons rfl .nil) (fun b hb => hb.elim (fun ⟨p, hp, hf, hb⟩ => by simp only [List.mem_cons, List.not_mem_nil, or_false] at hp; rcases hp with rfl; exact .inl ⟨_, List.mem_cons_self, hb⟩) (fun hb => absurd hb.1 (by decide))) (List.forall_mem_cons.2 ⟨fun b hb => hb, (fun _ h => nomatch h)⟩) rfl) ?_ rfl rfl ?_
     ·refine Tq.va rfl (fun _ _ a c => zC QA (a.ev rfl) (rdb c (vs := [iv zBw]) (k := 29) rfl 0) rfl) ?_
      exact Tq.fin (.cons rfl .nil)
     obtain ⟨zG4, zn0, H⟩ := bnd H
     obtain ⟨ziS, ziR, ziQ⟩ := zO zn0
     refine Dr.Wh 3 (by kernel_rfl) rfl (wn rfl) rfl (by kernel_rfl) (fun _ _ a => zD Kb (a.ev rfl) zGk (a.ev rfl) ziS ziR) rfl ?_
     refine Dr.zED 4 [(71, iv zG4)] [11] false (by kernel_rfl) rfl rfl (by kernel_rfl) (fun W W' c hsW hk => HF.zHc (le := [(12, ow Jy KX 3 zW VM)]) (ks := [(14, (ow zCh zCc 36 zL zEj).S)]) (s0 := zP0) false c hk (fun h => absurd h (by decide)) (.cons rfl .nil) (fun b hb => hb.elim (fun ⟨p, hp, hf, hb⟩ => by simp only [List.mem_cons, List.not_mem_nil, or_false] at hp; rcases hp with rfl; exact .inl ⟨_, List.mem_cons_self, hb⟩) (fun hb => absurd hb.1 (by decide))) (List.forall_mem_cons.2 ⟨fun b hb => hb, (fun _ h => nomatch h)⟩) rfl) ?_ rfl rfl ?_
     ·refine Tq.va rfl (fun _ _ a c => zC QA (a.ev rfl) (rdo Jd (k := 12) c rfl ziQ) rfl) ?_
      exact Tq.fin (.cons rfl .nil)
     refine Dr.zED 5 [(72, sL Jy VM KX)] [11] false (by kernel_rfl) rfl rfl (by kernel_rfl) (fun W W' c hsW hk => HF.zHc (le := [(3, bx WR #[sL Jy VM KX] 59)]) (ks := [(14, (ow zCh zCc 36 zL zEj).S)]) (s0 := zP0) false c hk (fun h => absurd h (by decide)) (.cons rfl .nil) (fun b hb => hb.elim (fun ⟨p, hp, hf, hb⟩ => by simp only [List.mem_cons, List.not_mem_nil, or_false] at hp; rcases hp with rfl; exact .inl ⟨_, List.mem_cons_self, hb⟩) (fun hb => absurd hb.1 (by decide))) (List.forall_mem_cons.2 ⟨fun b hb => hb, (fun _ h => nomatch h)⟩) rfl) ?_ rfl rfl ?_
     ·refine Tq.va rfl (fun _ _ a c => zC zAA (a.ev rfl) (rdb c (vs := [sL Jy VM KX]) (k := 3) rfl 0) rfl) ?_
      exact Tq.fin (.cons rfl .nil)
     refine Dr.zED 6 [(73, iv zBw)] [11] false (by kernel_rfl) rfl rfl (by kernel_rfl) (fun W W' c hsW hk => HF.zHc (le := [(29, bx bv227 #[iv zBw] 3)]) (ks := [(14, (ow zCh zCc 36 zL zEj).S)]) (s0 := zP0) false c hk (fun h => absurd h (by decide)) (.cons rfl .nil) (fun b hb => hb.elim (fun ⟨p, hp, hf, hb⟩ => by simp only [List.mem_cons, List.not_mem_nil, or_false] at hp; rcases hp with rfl; exact .inl ⟨_, List.mem_cons_self, hb⟩) (fun hb => absurd hb.1 (by decide))) (List.forall_mem_cons.2 ⟨fun b hb => hb, (fun _ h => nomatch h)⟩) rfl) ?_ rfl rfl ?_
     ·refine Tq.va rfl (fun _ _ a c => zC QA (a.ev rfl) (rdb c (vs := [iv zBw]) (k := 29) rfl 0) rfl) ?_
      exact Tq.fin (.cons rfl .nil)
     refine Dr.Wh 7 (by kernel_rfl) rfl (wn rfl) rfl (by kernel_rfl) (fun _ _ a => zg (a.ev rfl) (a.ev rfl)) rfl ?_
     obtain ⟨zMQ, zaZ, H⟩ := bnd H
     obtain ⟨zVb, zVa, zVZ⟩ := zO zaZ
     refine Dr.Wh 8 (by kernel_rfl) rfl (wn rfl) rfl (by kernel_rfl) (fun _ _ a => zD Kb (a.ev rfl) zGk (a.ev rfl) zVb zVa) rfl ?_
     refine Dr.zED 9 [(76, iv zMQ)] [11] false (by kernel_rfl) rfl rfl (by kernel_rfl) (fun W W' c hsW hk => HF.zHc (le := [(12, ow Jy KX 3 zW VM)]) (ks := [(14, (ow zCh zCc 36 zL zEj).S)]) (s0 := zP0) false c hk (fun h => absurd h (by decide)) (.cons rfl .nil) (fun b hb => hb.elim (fun ⟨p, hp, hf, hb⟩ => by simp only [List.mem_cons, List.not_mem_nil, or_false] at hp; rcases hp with rfl; exact .inl ⟨_, List.mem_cons_self, hb⟩) (fun hb => absurd hb.1 (by decide))) (List.forall_mem_cons.2 ⟨fun b hb => hb, (fun _ h => nomatch h)⟩) rfl) ?_ rfl rfl ?_
     ·refine Tq.va rfl (fun _ _ a c => zC QA (a.ev rfl) (rdo Jd (k := 12) c rfl zVZ) rfl) ?_
      exact Tq.fin (.cons rfl .nil)
     refine Dr.quiet 10 [(77, sL zCh zEj zCc)] (by kernel_rfl) rfl rfl (by kernel_rfl) ?_ rfl rfl ?_
     ·exact Tq.mv rfl rfl (Tq.fin (.cons rfl .nil))
     obtain ⟨zD1, zmg, H⟩ := bnd H
     refine Dr.one 11 (by kernel_rfl) ?_
     refine St.zAi 11 [14, 33] [ow zCh zCc 36 zL zEj, emp] (U := (Option Addr × Nat)) (fun u => (sL u.1 zD1.1 u.2)) (fun u => SlF u.1 zD1.1.length u.2 ∧ zD1.2.length = zEj.length) (fun u => [ow zCh zCc 36 zL zD1.2, ow u.1 u.2 3 zW zD1.1]) rfl (zn rfl (zn rfl zw)) (fun _ => rfl) (fun b ⟨e, he, hS⟩ => by simp only [List.mem_cons, List.not_mem_nil, or_false] at he; rcases he with rfl | rfl; exact .inl ⟨_, List.mem_cons_self, rfl, hS⟩; exact hS.elim) rfl (wn rfl) rfl Tryz.call37 (zI rfl zX) (fun W hW hp hE => zIY zEj zCh zCc zD1 zmg hE) ?_
     intro u hu zrH
     obtain ⟨zFC, zE5⟩ := u
     obtain ⟨gy270_0, gky270_0⟩ := hu
     have zpK : SlF zFC zD1.1.length zE5 := gy270_0
     have zLj : zD1.2.length = zEj.length := gky270_0
     have zYw : SlF zCh zD1.2.length zCc := by rw [zLj]; exact zTu
     show Dr _ _ _ _ _ _ _ _ _ (uf _ 78 (sL zFC zD1.1 zE5)) (up (up _ 33 (ow zFC zE5 3 zW zD1.1)) 14 (ow zCh zCc 36 zL zD1.2))
     refine Dr.use (lf := [(0, sL zR y102 zT), (3, pV WR), (6, sL zBW Wy zBO), (7, sL zCh zD1.2 zCc), (8, iv zLF), (9, pV bv227), (57, bV zYy), (67, sL zBW Wy zBO), (68, sL Jy VM KX), (69, iv zBw), (70, .pointer (some ⟨adB Jy, adO Jy + (zBw).toNat * 1, none⟩)), (71, iv zG4), (72, sL Jy VM KX), (73, iv zBw), (74, iv (w64 (zBw + 1))), (75, .pointer (some ⟨adB Jy, adO Jy + ((w64 (zBw + 1))).toNat * 1, none⟩)), (76, iv zMQ), (77, sL zCh zD1.2 zCc), (78, sL zFC zD1.1 zE5)]) (le := [(2, ow zR zT 36 zL y102), (3, bx WR #[sL Jy VM KX] 59), (12, ow Jy KX 3 zW VM), (13, ow zBW zBO 67 Qi Wy), (14, ow zCh zCc 36 zL zD1.2), (29, bx bv227 #[iv zBw] 3), (33, ow zFC zE5 3 zW zD1.1)]) ?_ rfl (.cons rfl (.cons rfl (.cons rfl (.cons (zAg rfl (by unfold sL; rw [zLj])) (.cons rfl (.cons rfl (.cons rfl (.cons rfl (.cons rfl (.cons rfl (.cons rfl (.cons rfl (.cons rfl (.cons rfl (.cons rfl (.cons rfl (.cons rfl (.cons (zAg rfl (by unfold sL; rw [zLj])) (.cons rfl .nil))))))))))))))))))) (.cons rfl (.cons rfl (.cons rfl (.cons rfl (.cons rfl (.cons rfl (.cons rfl .nil)))))))
     refine Dr.quiet 12 [(79, .agg #[iv zG4, iv zMQ, sL zFC zD1.1 zE5])] (by kernel_rfl) rfl rfl (by kernel_rfl) ?_ rfl rfl ?_
     ·refine Tq.build (vs := [(0, iv zG4), (1, iv zMQ), (2, sL zFC zD1.1 zE5)]) (cs := [iv zG4, iv zMQ, sL zFC zD1.1 zE5]) (wn rfl) rfl (zi rfl (zi rfl (zi rfl Qh))) (by kernel_rfl) ?_
      exact Tq.fin (.cons rfl .nil)
     refine Dr.tail (by kernel_rfl) ?_
     refine Tr.freeze 33 rfl fun w zl1 zaM => ?_
     replace zCM := zCM.trans zl1
     obtain ⟨zMM, zme, H⟩ := bnd H
     refine Tr.zCe [13] [ow zBW zBO 67 Qi Wy] (U := (Option Addr × Nat)) (fun u => (sL u.1 zMM u.2)) (fun O W u => SlF u.1 zMM.length u.2) (fun u => [ow u.1 u.2 67 Qi zMM]) rfl (zn rfl zw) (fun _ => rfl) (wn rfl) rfl Tryz.call36 (zI rfl (zI rfl zX)) (fun W hW hp hE => zEc Wy zBW zBO (JD.mk zG4 zMQ zD1.1) zFC zE5 (zaM.zMY (hW.zCA hp)) zMM zme hE) ?_
     intro w u zeL hu
     obtain ⟨zNN, zMv⟩ := u
     have gy274_0 := hu
     replace zaM := zaM.le zeL
     replace zCM := zCM.trans zeL
     have zbB : SlF zNN zMM.length zMv := gy274_0 --@phi
     show Tr _ _ (uf _ 80 (sL zNN zMM zMv)) (up _ 13 (ow zNN zMv 67 Qi zMM)) _
     refine Tr.asg rfl rfl (Tr.nil (Tr.zb (Tr.zA (Tr.seq (Tr.sr (Tr.va rfl (fun _ _ a c => zC QA (a.ev rfl) (rdb c (vs := [iv zBw]) (k := 29) rfl 0) rfl) ?_))))))
     refine Tr.nil (Tr.zA (Tr.region (Tr.alloc 34 (wn rfl) rfl zlM fun zrP => ?_)))
     refine Tr.store 34 (cs := [iv zBw]) [iv zBw] (wn rfl) rfl rfl rfl rfl zGN rfl rfl rfl ?_
     refine Tr.nil (Tr.zA (Tr.region (Tr.va rfl (fun _ _ a c => zC QA (a.ev rfl) (rdb c (vs := [iv zBw]) (k := 34) rfl 0) rfl) ?_)))
     refine Tr.va rfl (fun _ _ a c => zg (a.ev rfl) (a.ev rfl)) ?_
     refine Tr.store 34 (cs := [iv (w64 (zBw + 1))]) [iv (w64 (zBw + 1))] (wn rfl) rfl rfl rfl rfl zGN rfl rfl rfl ?_
     refine Tr.nil (Tr.zXg 29 ?_)
     refine Tr.ren 34 29 rfl rfl rfl ?_
     exact Tr.zZ zCM ((w64 (zBw + 1)), zMM, zD1.2, zLF, zrP, zNN, zMv, zCh, zCc) ⟨H, zbB, zYw⟩ (.cons rfl (.cons rfl (.cons rfl (.cons rfl (.cons rfl (.cons rfl .nil)))))) (.cons rfl (.cons rfl (.cons rfl (.cons rfl (.cons rfl (.cons rfl .nil))))))
  ·refine Tr.exit (Tr.zP (Tr.zP (Tr.zl (Tr.zA (Tr.sr (Tr.mv rfl rfl (Tr.asg rfl rfl (Tr.nil (Tr.zA (Tr.ret ?_))))))))))
   obtain rfl := oI H
   exact Tr.out (m := [sL zBW Wy zBO]) [] (zU rfl zY) (fun W hW => ⟨w, (zBW, zBO), leB, rfl, zEV, hW.pick (ks := [13]) (by decide) (zn rfl zw)⟩)
 | cons xL1 zV =>
  rw [VE.eq_2] at H
  refine Tr.sr (Tr.va rfl (fun _ _ a c => zh (a.ev rfl) (a.ev rfl)) ?_)
  refine Tr.nil (Tr.zA (Tr.seq (Tr.zBM rfl (VD QK) ?_)))
  refine Tr.skip (Tr.zA (Tr.seq (Tr.block (Tr.sr (Tr.va rfl (fun _ _ a c => zD zA3 (a.ev rfl) zIz (a.ev rfl) (Int.natCast_nonneg _) (QF QK)) ?_)))))
  refine Tr.va rfl (fun _ _ a c => ze (cs := [iv xL1.X0, iv xL1.Y0, iv xL1.X1, iv xL1.Y1]) zCw zAK (a.ev rfl) (zQ.take (rdo KL (k := 2) c rfl (Kv QK)) 4) rfl) ?_
  refine Tr.alloc 35 (wn rfl) rfl zHY fun zsF => ?_
  refine Tr.store 35 (cs := [iv xL1.X0, iv xL1.Y0, iv xL1.X1, iv xL1.Y1]) [iv xL1.X0, iv xL1.Y0, iv xL1.X1, iv xL1.Y1] (wn rfl) rfl rfl rfl rfl zAK rfl rfl rfl ?_
  refine Tr.nil (Tr.zA (Tr.region (Tr.va rfl (fun _ _ a c => zC zAA (a.ev rfl) (rdb c (vs := [sL zBY zBj zBU]) (k := 3) rfl 0) rfl) ?_)))
  refine Tr.va rfl (fun _ _ a c => zB zAL (a.ev rfl)) ?_
  refine Tr.va rfl (fun _ _ a c => zC QA (a.ev rfl) (rdb c (vs := [iv xL1.X0, iv xL1.Y0, iv xL1.X1, iv xL1.Y1]) (k := 35) rfl 1) rfl) ?_
  refine Tr.va rfl (fun _ _ a c => zB zDg (a.ev rfl)) ?_
  refine Tr.va rfl (fun _ _ a c => zC QA (a.ev rfl) (rdb c (vs := [iv xL1.X0, iv xL1.Y0, iv xL1.X1, iv xL1.Y1]) (k := 35) rfl 3) rfl) ?_
  refine Tr.buildSlice 36 (e := 3) (vs := [(0, iv xL1.Y0), (1, iv xL1.Y1)]) (cs := [iv xL1.Y0, iv xL1.Y1]) (wn rfl) rfl (zi rfl (zi rfl Qh)) (by kernel_rfl) fun zsE => ?_
  obtain ⟨zZ5, zo3, H⟩ := bnd H
  refine Tr.append 12 (t := zW) (l := zBj) (l2 := [xL1.Y0, xL1.Y1]) (wn rfl) rfl rfl rfl rfl (fun W hW => ⟨[[iv xL1.Y0], [iv xL1.Y1]], (.cons ⟨(), trivial, rfl⟩ (.cons ⟨(), trivial, rfl⟩ .nil)), rdb hW (vs := [iv xL1.Y0, iv xL1.Y1]) (k := 36) rfl 0⟩) Vu zGN zK9 (by decide) zLq rfl zo3 fun zcA zbv hAl279 => ?_
  refine Tr.store 3 (cs := [sL zcA zZ5 zbv]) [sL zcA zZ5 zbv] (wn rfl) rfl rfl rfl rfl zWd rfl rfl rfl ?_
  refine Tr.nil (Tr.zb (Tr.zA (Tr.region (Tr.va rfl (fun _ _ a c => zg (a.ev rfl) (a.ev rfl)) ?_))))
  exact Tr.mv rfl rfl (Tr.nil (Tr.zZ QI (zV, (iL1 + 1), zZ5, zcA, zbv) ⟨rfl, Jh QK, QF QK, H, hAl279⟩ (.cons rfl (.cons rfl (.cons rfl (.cons rfl (.cons (congrArg (fun z => some (Value.int .i64 z)) (Jg QK zIz)) .nil))))) (.cons rfl (.cons rfl (.cons rfl .nil)))))

theorem zD8 (N : Nat) {w : Bs} (p0 : (List JD)) (zF : Option Addr) (zH : Nat) (zK : Sl w.R w.W Qi zF zH p0) (r : (List zJ)) (H : zAI N p0 = some r) (hE : HF w w.W (LEn [emp])) : Calls Tryz.prog 28 [sL zF p0 zH].toArray w.W fun e W' => ∃ u : (Option Addr × Nat), e = .returned (sL u.1 r u.2) ∧ (SlF u.1 r.length u.2) ∧ HF w W' (LEn [ow u.1 u.2 36 zL r]) := by
 unfold zAI at H
 have leB := Bs.Le.refl w
 refine Tr.enter (n := 41) Tryz.func28 rfl rfl rfl hE ?_
 refine Tr.sr (Tr.asg rfl rfl (Tr.Qb 1 36 zL ?_))
 show Tr _ _ (uf _ 2 (sL none (([] : List zJ)) 0)) _ _
 refine Tr.nil (Tr.zA (Tr.sr (Tr.asg rfl rfl (Tr.Qb 2 36 zL ?_))))
 show Tr _ _ (uf _ 3 (sL none (([] : List zJ)) 0)) _ _
 refine Tr.nil (Tr.zA (Tr.seq (Tr.sr (Tr.mv rfl rfl (Tr.va rfl (fun _ _ a c => zf zPx (a.ev rfl)) ?_)))))
 refine Tr.mv rfl rfl (Tr.nil (Tr.zA (Tr.block (Tr.loop (σ := (List JD) × Nat × (List zJ) × (Option Addr) × Nat) (fun m w s => m = s.1.length + 1 ∧ s.1 = List.drop s.2.1 p0 ∧ s.2.1 ≤ p0.length ∧ JF N s.1 s.2.1 s.2.2.1 = some r ∧ SlF s.2.2.2.1 s.2.2.1.length s.2.2.2.2) (fun s => [(3, sL s.2.2.2.1 s.2.2.1 s.2.2.2.2), (7, sL zF p0 zH), (8, iv (p0.length : Int)), (9, iv (s.2.1 : Int))]) (fun s => [(2, ow s.2.2.2.1 s.2.2.2.2 36 zL s.2.2.1)]) (p0.length + 1) (p0, 0, ([] : List zJ), none, 0) ⟨rfl, rfl, Nat.zero_le _, H, Jm⟩ (.cons rfl (.cons rfl (.cons rfl (.cons rfl .nil)))) (.cons rfl .nil) (fun _ _ h => absurd h.1 (by simp)) ?_))))
 intro w zDc m s hs
 obtain ⟨zA0, iL3, zPm, zRY, zRG⟩ := s
 obtain ⟨zV7, zHJ, hiL3, H, zXO⟩ := hs
 replace zHJ : zA0 = List.drop iL3 p0 := zHJ
 replace H : JF N zA0 iL3 zPm = some r := H
 replace zV7 : m + 1 = zA0.length + 1 := zV7
 replace zK := zK.leR zDc
 replace leB := leB.trans zDc
 replace zXO : SlF zRY zPm.length zRG := zXO
 obtain rfl : m = zA0.length := by omega
 clear zV7
 show Tr _ _ (LF [(3, sL zRY zPm zRG), (7, sL zF p0 zH), (8, iv (p0.length : Int)), (9, iv (iL3 : Int))]) (LE [(2, ow zRY zRG 36 zL zPm)]) _
 cases zA0 with
 | nil =>
  rw [JF.eq_1] at H
  refine Tr.sr (Tr.va rfl (fun _ _ a c => zh (a.ev rfl) (a.ev rfl)) ?_)
  refine Tr.nil (Tr.zA (Tr.seq (Tr.zBN rfl (KF zHJ) ?_)))
  refine Tr.exit (Tr.zP (Tr.zP (Tr.zl (Tr.zA (Tr.sr (Tr.mv rfl rfl (Tr.asg rfl rfl (Tr.nil (Tr.zA (Tr.ret ?_))))))))))
  obtain rfl := oI H
  exact Tr.out (m := [sL zRY zPm zRG]) [] (zU rfl zY) (fun W hW => ⟨(zRY, zRG), rfl, zXO, HF.zEF leB (hW.pick (ks := [2]) (by decide) (zn rfl zw)) ⟨Ww _ _ _ _ WW, trivial⟩⟩)
 | cons xL3 zA0 =>
  rw [JF.eq_2] at H
  refine Tr.sr (Tr.va rfl (fun _ _ a c => zh (a.ev rfl) (a.ev rfl)) ?_)
  refine Tr.nil (Tr.zA (Tr.seq (Tr.zBM rfl (VD zHJ) ?_)))
  refine Tr.skip (Tr.zA (Tr.seq (Tr.block (Tr.sr ?_))))
  obtain ⟨zq3, hRu153, zdI, hcu153⟩ := (zK).el (Kv zHJ)
  obtain ⟨zAt, zB1⟩ := zq3
  have zDF := zdI
  replace zDF : Sl w.R w.W zW zAt zB1 xL3.Xs := zDF
  refine Tr.va rfl (fun _ _ a c => zD zKd (a.ev rfl) zK.form (a.ev rfl) (Int.natCast_nonneg _) (QF zHJ)) ?_
  refine Tr.va rfl (fun _ _ a c => ze (cs := [iv xL3.Y0, iv xL3.Y1, sL zAt xL3.Xs zB1]) zX2 zLw (a.ev rfl) (zQ.take (rdR hRu153 hcu153 c) 3) rfl) ?_
  refine Tr.alloc 11 (wn rfl) rfl zZE fun zMZ => ?_
  refine Tr.store 11 (cs := [iv xL3.Y0, iv xL3.Y1, sL zAt xL3.Xs zB1]) [iv xL3.Y0, iv xL3.Y1, sL zAt xL3.Xs zB1] (wn rfl) rfl rfl rfl rfl zLw rfl rfl rfl ?_
  refine Tr.nil (Tr.zA (Tr.sr (Tr.asg rfl rfl (Tr.nil (Tr.zA (Tr.block (Tr.loop (σ := (List zJ) × Int × (Option Addr) × Nat) (fun m w s => KN (JF N zA0 (iL3 + 1)) xL3 m s.1 s.2.1 = some r ∧ SlF s.2.2.1 s.1.length s.2.2.2) (fun s => [(3, sL s.2.2.1 s.1 s.2.2.2), (5, pV zMZ), (6, iv s.2.1), (7, sL zF p0 zH), (8, iv (p0.length : Int)), (9, iv (iL3 : Int))]) (fun s => [(2, ow s.2.2.1 s.2.2.2 36 zL s.1), (11, bx zMZ #[iv xL3.Y0, iv xL3.Y1, sL zAt xL3.Xs zB1] 67)]) N (zPm, 0, zRY, zRG) ⟨H, zXO⟩ (.cons rfl (.cons rfl (.cons rfl (.cons rfl (.cons rfl (.cons rfl .nil)))))) (.cons rfl (.cons rfl .nil)) (fun _ _ h => KG (h.1)) ?_)))))))
  intro w zCM mL4 s hs
  obtain ⟨zLZ, zH0, zMJ, zMD⟩ := s
  obtain ⟨H, zax⟩ := hs
  replace H : KN (JF N zA0 (iL3 + 1)) xL3 (mL4 + 1) zLZ zH0 = some r := H
  replace zDF := zDF.leR zCM
  replace zK := zK.leR zCM
  replace zDc := zDc.trans zCM
  replace zax : SlF zMJ zLZ.length zMD := zax
  rw [KN.eq_2] at H
  show Tr _ _ (LF [(3, sL zMJ zLZ zMD), (5, pV zMZ), (6, iv zH0), (7, sL zF p0 zH), (8, iv (p0.length : Int)), (9, iv (iL3 : Int))]) (LE [(2, ow zMJ zMD 36 zL zLZ), (11, bx zMZ #[iv xL3.Y0, iv xL3.Y1, sL zAt xL3.Xs zB1] 67)]) _
  refine Tr.seq (Tr.sr (Tr.mv rfl rfl (Tr.va rfl (fun _ _ a c => zB zBe (a.ev rfl)) ?_)))
  refine Tr.va rfl (fun _ _ a c => zC zAA (a.ev rfl) (rdb c (vs := [iv xL3.Y0, iv xL3.Y1, sL zAt xL3.Xs zB1]) (k := 11) rfl 2) rfl) ?_
  refine Tr.va rfl (fun _ _ a c => zf Vu (a.ev rfl)) ?_
  refine Tr.va rfl (fun _ _ a c => zh (a.ev rfl) (a.ev rfl)) ?_
  refine Tr.nil (Tr.zA (Tr.cond rfl H (fun H => ?_) (fun H => ?_)))
  ·refine Tr.skip (Tr.zA (Tr.seq (Tr.block ?_)))
   obtain ⟨zJA, zoO, H⟩ := bnd H
   obtain ⟨zjh, zjg, zjf⟩ := zO zoO
   obtain ⟨zD3, zoN, H⟩ := bnd H
   obtain ⟨zje, zjd, zjc⟩ := zO zoN
   refine Tr.zes 18 [(17, .makeFunc (.func 0) #[] #[.tmp 36])] [(17, ⟨37, 14, .func (.func 0) #[] #[.agg #[iv zJA, iv xL3.Y0, iv zD3, iv xL3.Y1]], fun b => .slice (some ⟨b, 0, none⟩) 1 1, fun b => bx b #[iv zJA, iv xL3.Y0, iv zD3, iv xL3.Y1] 36⟩)] [(3, sL zMJ zLZ zMD), (5, pV zMZ), (6, iv zH0), (7, sL zF p0 zH), (8, iv (p0.length : Int)), (9, iv (iL3 : Int)), (13, iv zH0), (14, .pointer (some ⟨zMZ, 2, none⟩)), (15, sL zAt xL3.Xs zB1), (16, iv (xL3.Xs.length : Int)), (17, bV (decide (zH0 < (xL3.Xs.length : Int)))), (20, sL zMJ zLZ zMD), (21, .pointer (some ⟨zMZ, 2, none⟩)), (22, sL zAt xL3.Xs zB1), (23, iv zH0), (24, .pointer (some ⟨adB zAt, adO zAt + (zH0).toNat * 1, none⟩)), (25, iv zJA), (26, pV zMZ), (27, iv xL3.Y0), (28, .pointer (some ⟨zMZ, 2, none⟩)), (29, sL zAt xL3.Xs zB1), (30, iv zH0), (31, iv (w64 (zH0 + 1))), (32, .pointer (some ⟨adB zAt, adO zAt + ((w64 (zH0 + 1))).toNat * 1, none⟩)), (33, iv zD3), (34, .pointer (some ⟨zMZ, 1, none⟩)), (35, iv xL3.Y1), (36, .agg #[iv zJA, iv xL3.Y0, iv zD3, iv xL3.Y1]), (37, .func (.func 0) #[] #[.agg #[iv zJA, iv xL3.Y0, iv zD3, iv xL3.Y1]])] (by kernel_rfl) (by kernel_rfl) (by kernel_rfl) (by kernel_rfl) (by kernel_rfl) (by kernel_rfl) (by kernel_rfl) (zFH (zbb (vs := [(0, .agg #[iv zJA, iv xL3.Y0, iv zD3, iv xL3.Y1])]) rfl rfl rfl (by kernel_rfl)) zGq) (zFH rfl zGq) (zFH rfl zGq) ?_ ?_
   ·refine Tq.mv rfl rfl (Tq.va rfl (fun _ _ a c => zB zBe (a.ev rfl)) ?_)
    refine Tq.va rfl (fun _ _ a c => zC zAA (a.ev rfl) (rdb c (vs := [iv xL3.Y0, iv xL3.Y1, sL zAt xL3.Xs zB1]) (k := 11) rfl 2) rfl) ?_
    refine Tq.mv rfl rfl (Tq.va rfl (fun _ _ a c => zD Kb (a.ev rfl) zDF.form (a.ev rfl) zjh zjg) ?_)
    refine Tq.va rfl (fun _ _ a c => zC QA (a.ev rfl) (rdF Jd zDF zjf c) rfl) ?_
    refine Tq.va rfl (fun _ _ a c => zB zE1 (a.ev rfl)) ?_
    refine Tq.va rfl (fun _ _ a c => zC QA (a.ev rfl) (rdb c (vs := [iv xL3.Y0, iv xL3.Y1, sL zAt xL3.Xs zB1]) (k := 11) rfl 0) rfl) ?_
    refine Tq.va rfl (fun _ _ a c => zB zBe (a.ev rfl)) ?_
    refine Tq.va rfl (fun _ _ a c => zC zAA (a.ev rfl) (rdb c (vs := [iv xL3.Y0, iv xL3.Y1, sL zAt xL3.Xs zB1]) (k := 11) rfl 2) rfl) ?_
    refine Tq.mv rfl rfl (Tq.va rfl (fun _ _ a c => zg (a.ev rfl) (a.ev rfl)) ?_)
    refine Tq.va rfl (fun _ _ a c => zD Kb (a.ev rfl) zDF.form (a.ev rfl) zje zjd) ?_
    refine Tq.va rfl (fun _ _ a c => zC QA (a.ev rfl) (rdF Jd zDF zjc c) rfl) ?_
    refine Tq.va rfl (fun _ _ a c => zB zEN (a.ev rfl)) ?_
    refine Tq.va rfl (fun _ _ a c => zC QA (a.ev rfl) (rdb c (vs := [iv xL3.Y0, iv xL3.Y1, sL zAt xL3.Xs zB1]) (k := 11) rfl 1) rfl) ?_
    refine Tq.build (vs := [(0, iv zJA), (1, iv xL3.Y0), (2, iv zD3), (3, iv xL3.Y1)]) (cs := [iv zJA, iv xL3.Y0, iv zD3, iv xL3.Y1]) (wn rfl) rfl (zi rfl (zi rfl (zi rfl (zi rfl Qh)))) (by kernel_rfl) ?_
    refine Tq.zIC (vs := [.agg #[iv zJA, iv xL3.Y0, iv zD3, iv xL3.Y1]]) (wn rfl) rfl (zI rfl zX) ?_
    exact Tq.fin (.cons rfl (.cons rfl (.cons rfl (.cons rfl (.cons rfl (.cons rfl (.cons rfl (.cons rfl (.cons rfl (.cons rfl (.cons rfl (.cons rfl (.cons rfl (.cons rfl (.cons rfl (.cons rfl (.cons rfl (.cons rfl (.cons rfl (.cons rfl (.cons rfl (.cons rfl (.cons rfl (.cons rfl (.cons rfl (.cons rfl (.cons rfl (.cons rfl (.cons rfl .nil)))))))))))))))))))))))))))))
   ·intro bs171
    refine Tr.sel (lf := [(5, pV zMZ), (6, iv zH0), (7, sL zF p0 zH), (8, iv (p0.length : Int)), (9, iv (iL3 : Int)), (20, sL zMJ zLZ zMD), (37, .slice (some ⟨(bs171 17), 0, none⟩) 1 1)]) (le := [(2, ow zMJ zMD 36 zL zLZ), (11, bx zMZ #[iv xL3.Y0, iv xL3.Y1, sL zAt xL3.Xs zB1] 67), (14, bx (bs171 17) #[iv zJA, iv xL3.Y0, iv zD3, iv xL3.Y1] 36)]) (.cons rfl (.cons rfl (.cons rfl (.cons rfl (.cons rfl (.cons rfl (.cons rfl .nil))))))) (.cons rfl (.cons rfl (.cons rfl .nil))) ?_
    obtain ⟨zfo, zpB, H⟩ := bnd H
    refine Tr.append 2 (t := zL) (l := zLZ) (l2 := [(zJ.mk zJA xL3.Y0 zD3 xL3.Y1)]) (wn rfl) rfl rfl rfl rfl (fun W hW => ⟨[[iv zJA, iv xL3.Y0, iv zD3, iv xL3.Y1]], (.cons ⟨(), trivial, rfl⟩ .nil), rdb hW (vs := [iv zJA, iv xL3.Y0, iv zD3, iv xL3.Y1]) (k := 14) rfl 0⟩) zA9 zAK zSs (by decide) zUW rfl zpB fun zqA zpk hAl174 => ?_
    refine Tr.asg rfl rfl (Tr.nil (Tr.zb (Tr.zA (Tr.region (Tr.mv rfl rfl (Tr.va rfl (fun _ _ a c => zg (a.ev rfl) (a.ev rfl)) ?_))))))
    exact Tr.asg rfl rfl (Tr.nil (Tr.zZ zCM (zfo, (w64 (zH0 + 2)), zqA, zpk) ⟨H, hAl174⟩ (.cons rfl (.cons rfl (.cons rfl (.cons rfl (.cons rfl (.cons rfl .nil)))))) (.cons rfl (.cons rfl .nil))))
  ·refine Tr.exit (Tr.zP (Tr.zP (Tr.zl (Tr.zb (Tr.zA (Tr.region (Tr.va rfl (fun _ _ a c => zg (a.ev rfl) (a.ev rfl)) ?_)))))))
   exact Tr.mv rfl rfl (Tr.nil (Tr.zZ zDc (zA0, (iL3 + 1), zLZ, zMJ, zMD) ⟨rfl, Jh zHJ, QF zHJ, H, zax⟩ (.cons rfl (.cons rfl (.cons rfl (.cons (congrArg (fun z => some (Value.int .i64 z)) (Jg zHJ zK.form)) .nil)))) (.cons rfl .nil)))

theorem zDs {w : Bs} (p0 : (List zJ)) (zF : Option Addr) (zH : Nat) (zK : Sl w.R w.W zL zF zH p0) (p1 : (List zJ)) (Ql : Option Addr) (Qk : Nat) (KU : Sl w.R w.W zL Ql Qk p1) (r : Bool) (H : WF p0 p1 = some r) (hE : HF w w.W E0) : Calls Tryz.prog 10 [sL zF p0 zH, sL Ql p1 Qk].toArray w.W fun e W' => e = .returned (bV r) ∧ HF w W' E0 := by
 unfold WF at H
 have leB := Bs.Le.refl w
 refine Tr.enter (n := 26) Tryz.func10 rfl rfl rfl hE ?_
 refine Tr.sr (Tr.asg rfl rfl (Tr.nil (Tr.zA (Tr.seq (Tr.sr (Tr.mv rfl rfl (Tr.va rfl (fun _ _ a c => zf zA9 (a.ev rfl)) ?_)))))))
 refine Tr.mv rfl rfl (Tr.va rfl (fun _ _ a c => zf zA9 (a.ev rfl)) ?_)
 refine Tr.va rfl (fun _ _ a c => zCi (a.ev rfl) (a.ev rfl)) ?_
 refine Tr.nil (Tr.zA (Tr.cond rfl H (fun H => ?_) (fun H => ?_)))
 ·refine Tr.sr (Tr.asg rfl rfl (Tr.nil (Tr.zA (Tr.ret (Tr.zq ?_)))))
  obtain rfl := oI H
  exact Tr.out (m := [bV false]) [] (zU rfl zY) (fun W hW => ⟨rfl, hW.low leB⟩)
 ·refine Tr.skip (Tr.zA (Tr.seq (Tr.sr (Tr.mv rfl rfl (Tr.va rfl (fun _ _ a c => zf zA9 (a.ev rfl)) ?_)))))
  refine Tr.mv rfl rfl (Tr.nil (Tr.zA (Tr.block (Tr.loop (σ := (List zJ) × Nat) (fun m w s => m = s.1.length + 1 ∧ s.1 = List.drop s.2 p0 ∧ s.2 ≤ p0.length ∧ Jz p1 s.1 s.2 = some r) (fun s => [(0, sL zF p0 zH), (1, sL Ql p1 Qk), (12, iv (p0.length : Int)), (13, iv (s.2 : Int))]) (fun s => []) (p0.length + 1) (p0, 0) ⟨rfl, rfl, Nat.zero_le _, H⟩ (.cons rfl (.cons rfl (.cons rfl (.cons rfl .nil)))) .nil (fun _ _ h => absurd h.1 (by simp)) ?_))))
  intro w QI m s hs
  obtain ⟨zV, iL1⟩ := s
  obtain ⟨Vn, QK, hiL1, H⟩ := hs
  replace QK : zV = List.drop iL1 p0 := QK
  replace H : Jz p1 zV iL1 = some r := H
  replace Vn : m + 1 = zV.length + 1 := Vn
  replace zK := zK.leR QI
  replace KU := KU.leR QI
  replace leB := leB.trans QI
  obtain rfl : m = zV.length := by omega
  clear Vn
  show Tr _ _ (LF [(0, sL zF p0 zH), (1, sL Ql p1 Qk), (12, iv (p0.length : Int)), (13, iv (iL1 : Int))]) (LE []) _
  cases zV with
  | nil =>
   rw [Jz.eq_1] at H
   refine Tr.sr (Tr.va rfl (fun _ _ a c => zh (a.ev rfl) (a.ev rfl)) ?_)
   refine Tr.nil (Tr.zA (Tr.seq (Tr.zBN rfl (KF QK) ?_)))
   refine Tr.exit (Tr.zP (Tr.zP (Tr.zl (Tr.zA (Tr.sr (Tr.asg rfl rfl (Tr.nil (Tr.zA (Tr.ret ?_)))))))))
   obtain rfl := oI H
   exact Tr.out (m := [bV true]) [] (zU rfl zY) (fun W hW => ⟨rfl, hW.low leB⟩)
  | cons xL1 zV =>
   rw [Jz.eq_2] at H
   refine Tr.sr (Tr.va rfl (fun _ _ a c => zh (a.ev rfl) (a.ev rfl)) ?_)
   refine Tr.nil (Tr.zA (Tr.seq (Tr.zBM rfl (VD QK) ?_)))
   refine Tr.skip (Tr.zA (Tr.seq (Tr.block (Tr.sr (Tr.mv rfl rfl (Tr.asg rfl rfl (Tr.nil (Tr.zA (Tr.seq (Tr.draw (by kernel_rfl) (by kernel_rfl) ?_))))))))))
   refine Tq.mv rfl rfl (Tq.mv rfl rfl (Tq.va rfl (fun _ _ a c => zD zA3 (a.ev rfl) zK.form (a.ev rfl) (Int.natCast_nonneg _) (QF QK)) ?_))
   refine Tq.va rfl (fun _ _ a c => ze (cs := [iv xL1.X0, iv xL1.Y0, iv xL1.X1, iv xL1.Y1]) zCw zAK (a.ev rfl) (zQ.take (rdF KL zK (Kv QK) c) 4) rfl) ?_
   refine Tq.mv rfl rfl (Tq.mv rfl rfl ?_)
   obtain ⟨x103, zKU, H⟩ := bnd H
   obtain ⟨zHH, zHG, zHF⟩ := zO zKU
   refine Tq.va rfl (fun _ _ a c => zD zA3 (a.ev rfl) KU.form (a.ev rfl) zHH zHG) ?_
   refine Tq.va rfl (fun _ _ a c => ze (cs := [iv x103.X0, iv x103.Y0, iv x103.X1, iv x103.Y1]) zCw zAK (a.ev rfl) (zQ.take (rdF KL KU zHF c) 4) rfl) ?_
   refine Tq.va rfl (fun _ _ a c => zNw xL1 x103 (a.ev rfl) (a.ev rfl)) ?_
   refine Tq.nil (Tr.zA (Tr.cond rfl H (fun H => ?_) (fun H => ?_)))
   ·refine Tr.sr (Tr.asg rfl rfl (Tr.nil (Tr.zA (Tr.ret (Tr.QY (Tr.zq (Tr.zq (Tr.QY (Tr.zq ?_)))))))))
    obtain rfl := oI H
    exact Tr.out (m := [bV false]) [] (zU rfl zY) (fun W hW => ⟨rfl, hW.low leB⟩)
   ·refine Tr.skip (Tr.zb (Tr.zA (Tr.region (Tr.va rfl (fun _ _ a c => zg (a.ev rfl) (a.ev rfl)) ?_))))
    exact Tr.mv rfl rfl (Tr.nil (Tr.zZ QI (zV, (iL1 + 1)) ⟨rfl, Jh QK, QF QK, H⟩ (.cons rfl (.cons rfl (.cons rfl (.cons (congrArg (fun z => some (Value.int .i64 z)) (Jg QK zK.form)) .nil)))) .nil))

theorem zDu (N : Nat) {w : Bs} (p0 : (List zJ)) (zF : Option Addr) (zH : Nat) (zK : Sl w.R w.W zL zF zH p0) (r : Int) (H : WH N p0 = some r) (hE : HF w w.W E0) : Calls Tryz.prog 12 [sL zF p0 zH].toArray w.W fun e W' => e = .returned (iv r) ∧ HF w W' E0 := by
 unfold WH at H
 have leB := Bs.Le.refl w
 refine Tr.enter (n := 52) Tryz.func12 rfl rfl rfl hE ?_
 refine Tr.sr (Tr.asg rfl rfl (Tr.nil (Tr.zA (Tr.seq (Tr.sr (Tr.mv rfl rfl ?_))))))
 obtain ⟨zN, zAQ, H⟩ := bnd H
 refine Tr.KV (r := (iv zN)) (wn rfl) rfl Tryz.call27 (zI rfl zX) (fun W hW => zHx p0 zF zH (zK.ext hW.Ky) zN zAQ (HF.start _)) ?_
 refine Tr.asg rfl rfl (Tr.nil (Tr.zA (Tr.sr (Tr.mv rfl rfl (Tr.va rfl (fun _ _ a c => zCi (a.ev rfl) (a.ev rfl)) ?_)))))
 refine Tr.nil (Tr.zA (Tr.cond rfl H (fun H => ?_) (fun H => ?_)))
 ·refine Tr.sr (Tr.mv rfl rfl (Tr.asg rfl rfl (Tr.nil (Tr.zA (Tr.ret (Tr.zq ?_))))))
  obtain rfl := oI H
  exact Tr.out (m := [iv zN]) [] (zU rfl zY) (fun W hW => ⟨rfl, hW.low leB⟩)
 ·refine Tr.skip (Tr.zA (Tr.seq (Tr.sr (Tr.asg rfl rfl (Tr.nil (Tr.zA (Tr.block (Tr.loop (σ := Int) (fun m w s => Qp N p0 m s = some r) (fun s => [(0, sL zF p0 zH), (4, iv s)]) (fun s => []) N 1 H (.cons rfl (.cons rfl .nil)) .nil (fun _ _ h => KG (h)) ?_))))))))
  intro w QI mL1 zCL hs
  have H := hs
  replace H : Qp N p0 (mL1 + 1) zCL = some r := H
  replace zK := zK.leR QI
  replace leB := leB.trans QI
  rw [Qp.eq_2] at H
  show Tr _ _ (LF [(0, sL zF p0 zH), (4, iv zCL)]) (LE []) _
  refine Tr.seq (Tr.sr (Tr.mv rfl rfl (Tr.mv rfl rfl (Tr.va rfl (fun _ _ a c => zf zA9 (a.ev rfl)) ?_))))
  refine Tr.va rfl (fun _ _ a c => zh (a.ev rfl) (a.ev rfl)) ?_
  refine Tr.nil (Tr.zA (Tr.cond rfl H (fun H => ?_) (fun H => ?_)))
  ·refine Tr.skip (Tr.zA (Tr.seq (Tr.block (Tr.seq (Tr.zJQ 12 [] [11] (by kernel_rfl) (by kernel_rfl) fun zWg zam zqQ => ?_)))))
   refine Dr.quiet 0 [(18, sL zF p0 zH)] (by kernel_rfl) rfl rfl (by kernel_rfl) ?_ rfl rfl ?_
   ·exact Tq.mv rfl rfl (Tq.fin (.cons rfl .nil))
   refine Dr.quiet 1 [(19, iv zCL)] (by kernel_rfl) rfl rfl (by kernel_rfl) ?_ rfl rfl ?_
   ·exact Tq.mv rfl rfl (Tq.fin (.cons rfl .nil))
   refine Dr.quiet 2 [(20, iv (w64 (zCL - 1)))] (by kernel_rfl) rfl rfl (by kernel_rfl) ?_ rfl rfl ?_
   ·refine Tq.va rfl (fun _ _ a c => Jn (a.ev rfl) (a.ev rfl)) ?_
    exact Tq.fin (.cons rfl .nil)
   obtain ⟨VO, zTn, H⟩ := bnd H
   obtain ⟨zOY, zOX, hx1182⟩ := zO zTn
   refine Dr.quiet 3 [(21, .pointer (some ⟨adB zF, adO zF + ((w64 (zCL - 1))).toNat * 4, none⟩))] (by kernel_rfl) rfl rfl (by kernel_rfl) ?_ rfl rfl ?_
   ·refine Tq.va rfl (fun _ _ a c => zD zA3 (a.ev rfl) zK.form (a.ev rfl) zOY zOX) ?_
    exact Tq.fin (.cons rfl .nil)
   refine Dr.quiet 4 [(22, .agg #[iv VO.X0, iv VO.Y0, iv VO.X1, iv VO.Y1])] (by kernel_rfl) rfl rfl (by kernel_rfl) ?_ rfl rfl ?_
   ·refine Tq.va rfl (fun _ _ a c => ze (cs := [iv VO.X0, iv VO.Y0, iv VO.X1, iv VO.Y1]) zCw zAK (a.ev rfl) (zQ.take (rdF KL zK hx1182 c) 4) rfl) ?_
    exact Tq.fin (.cons rfl .nil)
   refine Dr.Wh 5 (by kernel_rfl) rfl (wn rfl) rfl (by kernel_rfl) (fun _ _ a => run_move (a.ev rfl)) rfl ?_
   refine Dr.Wh 6 (by kernel_rfl) rfl (wn rfl) rfl (by kernel_rfl) (fun _ _ a => run_move (a.ev rfl)) rfl ?_
   obtain ⟨VN, zTm, H⟩ := bnd H
   obtain ⟨hx1190, hx1191, hx1192⟩ := zO zTm
   refine Dr.Wh 7 (by kernel_rfl) rfl (wn rfl) rfl (by kernel_rfl) (fun _ _ a => zD zA3 (a.ev rfl) zK.form (a.ev rfl) hx1190 hx1191) rfl ?_
   refine Dr.zED 8 [(26, .agg #[iv VN.X0, iv VN.Y0, iv VN.X1, iv VN.Y1])] [] true (by kernel_rfl) rfl rfl (by kernel_rfl) (fun W W' c hsW hk => HF.zHc (le := []) (ks := []) (s0 := zWg) true c hk (fun _ => zam) .nil (fun b hb => hb.elim (fun ⟨_, hp, _⟩ => nomatch hp) (fun hb => .inr ⟨rfl, hb.2, (fun _ h => nomatch h)⟩)) (fun _ h => nomatch h) rfl) ?_ rfl rfl ?_
   ·refine Tq.va rfl (fun _ _ a c => ze (cs := [iv VN.X0, iv VN.Y0, iv VN.X1, iv VN.Y1]) zCw zAK (a.ev rfl) (zQ.take (rdF KL zK hx1192 c) 4) rfl) ?_
    exact Tq.fin (.cons rfl .nil)
   refine Dr.cut (U := Nat × Nat) [9, 10] 1 (fun u => zWg ≤ u.1 ∧ zWg ≤ u.2) (fun u => [(0, sL zF p0 zH), (4, iv zCL), (5, .pointer (some ⟨u.1, 0, none⟩)), (6, .pointer (some ⟨u.2, 0, none⟩)), (12, iv zCL), (13, sL zF p0 zH), (14, iv (p0.length : Int)), (15, bV (decide (zCL < (p0.length : Int)))), (18, sL zF p0 zH), (19, iv zCL), (20, iv (w64 (zCL - 1))), (21, .pointer (some ⟨adB zF, adO zF + ((w64 (zCL - 1))).toNat * 4, none⟩)), (22, .agg #[iv VO.X0, iv VO.Y0, iv VO.X1, iv VO.Y1]), (23, sL zF p0 zH), (24, iv zCL), (25, .pointer (some ⟨adB zF, adO zF + (zCL).toNat * 4, none⟩)), (26, .agg #[iv VN.X0, iv VN.Y0, iv VN.X1, iv VN.Y1])]) (fun u => [(5, bx u.1 #[iv 0, iv 0, iv 0, iv 0] 36), (6, bx u.2 #[iv 0, iv 0, iv 0, iv 0] 36)]) ?_ ?_
   ·intro hC
    refine Dr.pair 9 10 (by kernel_rfl) ?_ ?_
    ·refine St.alloc 9 5 rfl (wn rfl) rfl zHY fun zPF zOu => ?_
     refine Dr.one 10 (by kernel_rfl) ?_
     refine St.alloc 10 6 rfl (wn rfl) rfl zHY fun zPr zXT => ?_
     exact (hC ⟨zPF, zPr⟩ ⟨zOu, zXT⟩).use (by kernel_rfl) (.cons rfl (.cons rfl (.cons rfl (.cons rfl (.cons rfl (.cons rfl (.cons rfl (.cons rfl (.cons rfl (.cons rfl (.cons rfl (.cons rfl (.cons rfl (.cons rfl (.cons rfl (.cons rfl (.cons rfl .nil))))))))))))))))) (.cons rfl (.cons rfl .nil))
    ·refine St.alloc 10 6 rfl (wn rfl) rfl zHY fun zPr zXT => ?_
     refine Dr.one 9 (by kernel_rfl) ?_
     refine St.alloc 9 5 rfl (wn rfl) rfl zHY fun zPF zOu => ?_
     exact (hC ⟨zPF, zPr⟩ ⟨zOu, zXT⟩).use (by kernel_rfl) (.cons rfl (.cons rfl (.cons rfl (.cons rfl (.cons rfl (.cons rfl (.cons rfl (.cons rfl (.cons rfl (.cons rfl (.cons rfl (.cons rfl (.cons rfl (.cons rfl (.cons rfl (.cons rfl (.cons rfl .nil))))))))))))))))) (.cons rfl (.cons rfl .nil))
   intro u hu
   obtain ⟨zPF, zPr⟩ := u
   obtain ⟨zOu, zXT⟩ := hu
   replace zOu : zWg ≤ zPF := zOu
   show Dr _ _ _ _ _ _ _ _ _ (LF [(0, sL zF p0 zH), (4, iv zCL), (5, pV zPF), (6, pV zPr), (12, iv zCL), (13, sL zF p0 zH), (14, iv (p0.length : Int)), (15, bV (decide (zCL < (p0.length : Int)))), (18, sL zF p0 zH), (19, iv zCL), (20, iv (w64 (zCL - 1))), (21, .pointer (some ⟨adB zF, adO zF + ((w64 (zCL - 1))).toNat * 4, none⟩)), (22, .agg #[iv VO.X0, iv VO.Y0, iv VO.X1, iv VO.Y1]), (23, sL zF p0 zH), (24, iv zCL), (25, .pointer (some ⟨adB zF, adO zF + (zCL).toNat * 4, none⟩)), (26, .agg #[iv VN.X0, iv VN.Y0, iv VN.X1, iv VN.Y1])]) (LE [(5, bx zPF #[iv 0, iv 0, iv 0, iv 0] 36), (6, bx zPr #[iv 0, iv 0, iv 0, iv 0] 36)])
   refine Dr.one 11 (by kernel_rfl) ?_
   refine St.store 11 5 (cs := [iv VO.X0, iv VO.Y0, iv VO.X1, iv VO.Y1]) [iv VO.X0, iv VO.Y0, iv VO.X1, iv VO.Y1] rfl (wn rfl) (.inr ⟨by simp, zOu⟩) rfl rfl rfl rfl zAK rfl rfl rfl ?_
   refine Dr.tail (by kernel_rfl) ?_
   refine Tr.store 6 (cs := [iv VN.X0, iv VN.Y0, iv VN.X1, iv VN.Y1]) [iv VN.X0, iv VN.Y0, iv VN.X1, iv VN.Y1] (wn rfl) rfl rfl rfl rfl zAK rfl rfl rfl ?_
   refine Tr.nil (Tr.zA (Tr.sr (Tr.va rfl (fun _ _ a c => zB zAL (a.ev rfl)) ?_)))
   refine Tr.va rfl (fun _ _ a c => zC QA (a.ev rfl) (rdb c (vs := [iv VN.X0, iv VN.Y0, iv VN.X1, iv VN.Y1]) (k := 6) rfl 1) rfl) ?_
   refine Tr.va rfl (fun _ _ a c => zB zAL (a.ev rfl)) ?_
   refine Tr.va rfl (fun _ _ a c => zC QA (a.ev rfl) (rdb c (vs := [iv VO.X0, iv VO.Y0, iv VO.X1, iv VO.Y1]) (k := 5) rfl 1) rfl) ?_
   refine Tr.va rfl (fun _ _ a c => zh (a.ev rfl) (a.ev rfl)) ?_
   refine Tr.mv rfl rfl (Tr.zBy 13 [(0, sL zF p0 zH), (4, iv zCL), (45, bV ((decide (VN.Y0 < VO.Y0)) || ((VN.Y0 == VO.Y0) && (decide (VN.X0 ≤ VO.X0)))))] [(5, bx zPF #[iv VO.X0, iv VO.Y0, iv VO.X1, iv VO.Y1] 36), (6, bx zPr #[iv VN.X0, iv VN.Y0, iv VN.X1, iv VN.Y1] 36)] ?_ ?_)
   ·cases zXQ : (decide (VN.Y0 < VO.Y0))
    ·refine Tr.val (wg rfl rfl rfl) rfl (fun _ _ a c => zB zAL (a.ev rfl)) ?_
     refine Tr.val (wg rfl rfl rfl) rfl (fun _ _ a c => zC QA (a.ev rfl) (rdb c (vs := [iv VN.X0, iv VN.Y0, iv VN.X1, iv VN.Y1]) (k := 6) rfl 1) rfl) ?_
     refine Tr.val (wg rfl rfl rfl) rfl (fun _ _ a c => zB zAL (a.ev rfl)) ?_
     refine Tr.val (wg rfl rfl rfl) rfl (fun _ _ a c => zC QA (a.ev rfl) (rdb c (vs := [iv VO.X0, iv VO.Y0, iv VO.X1, iv VO.Y1]) (k := 5) rfl 1) rfl) ?_
     refine Tr.val (wg rfl rfl rfl) rfl (fun _ _ a c => Vv (a.ev rfl) (a.ev rfl)) ?_
     refine Tr.val (wg rfl rfl rfl) rfl (fun _ _ a c => run_move (a.ev rfl)) ?_
     refine Tr.zBy 6 [(0, sL zF p0 zH), (4, iv zCL), (32, bV false), (44, bV ((VN.Y0 == VO.Y0) && (decide (VN.X0 ≤ VO.X0))))] [(5, bx zPF #[iv VO.X0, iv VO.Y0, iv VO.X1, iv VO.Y1] 36), (6, bx zPr #[iv VN.X0, iv VN.Y0, iv VN.X1, iv VN.Y1] 36)] ?_ ?_
     ·cases zXQ : (VN.Y0 == VO.Y0)
      ·refine Tr.pass rfl rfl rfl rfl rfl (by decide) ?_
       refine Tr.pass rfl rfl rfl rfl rfl (by decide) ?_
       refine Tr.pass rfl rfl rfl rfl rfl (by decide) ?_
       refine Tr.pass rfl rfl rfl rfl rfl (by decide) ?_
       refine Tr.pass rfl rfl rfl rfl rfl (by decide) ?_
       refine Tr.val (wg rfl rfl rfl) rfl (fun _ _ a c => zy (a.ev rfl) (a.ev rfl)) ?_
       exact Tr.nil (Tr.VW (.cons rfl (.cons rfl (.cons rfl (.cons rfl .nil)))) (.cons rfl (.cons rfl .nil)))
      ·refine Tr.val (wg rfl rfl rfl) rfl (fun _ _ a c => zB zAo (a.ev rfl)) ?_
       refine Tr.val (wg rfl rfl rfl) rfl (fun _ _ a c => zC QA (a.ev rfl) (rdb c (vs := [iv VN.X0, iv VN.Y0, iv VN.X1, iv VN.Y1]) (k := 6) rfl 0) rfl) ?_
       refine Tr.val (wg rfl rfl rfl) rfl (fun _ _ a c => zB zAo (a.ev rfl)) ?_
       refine Tr.val (wg rfl rfl rfl) rfl (fun _ _ a c => zC QA (a.ev rfl) (rdb c (vs := [iv VO.X0, iv VO.Y0, iv VO.X1, iv VO.Y1]) (k := 5) rfl 0) rfl) ?_
       refine Tr.val (wg rfl rfl rfl) rfl (fun _ _ a c => zBJ (a.ev rfl) (a.ev rfl)) ?_
       refine Tr.val (wg rfl rfl rfl) rfl (fun _ _ a c => zx (a.ev rfl) (a.ev rfl)) ?_
       exact Tr.nil (Tr.VW (.cons rfl (.cons rfl (.cons rfl (.cons rfl .nil)))) (.cons rfl (.cons rfl .nil)))
     ·show Tr _ _ (LF [(0, sL zF p0 zH), (4, iv zCL), (32, bV false), (44, bV ((VN.Y0 == VO.Y0) && (decide (VN.X0 ≤ VO.X0))))]) (LE [(5, bx zPF #[iv VO.X0, iv VO.Y0, iv VO.X1, iv VO.Y1] 36), (6, bx zPr #[iv VN.X0, iv VN.Y0, iv VN.X1, iv VN.Y1] 36)]) _
      refine Tr.va rfl (fun _ _ a c => zy (a.ev rfl) (a.ev rfl)) ?_
      exact Tr.nil (Tr.VW (.cons rfl (.cons rfl (.cons rfl .nil))) (.cons rfl (.cons rfl .nil)))
    ·refine Tr.pass rfl rfl rfl rfl rfl (by decide) ?_
     refine Tr.pass rfl rfl rfl rfl rfl (by decide) ?_
     refine Tr.pass rfl rfl rfl rfl rfl (by decide) ?_
     refine Tr.pass rfl rfl rfl rfl rfl (by decide) ?_
     refine Tr.pass rfl rfl rfl rfl rfl (by decide) ?_
     refine Tr.pass rfl rfl rfl rfl rfl (by decide) ?_
     refine Tr.KJ rfl rfl rfl rfl (by decide) ?_
     refine Tr.KJ rfl rfl rfl rfl (by decide) ?_
     refine Tr.KJ rfl rfl rfl rfl (by decide) ?_
     refine Tr.KJ rfl rfl rfl rfl (by decide) ?_
     refine Tr.KJ rfl rfl rfl rfl (by decide) ?_
     refine Tr.pass rfl rfl rfl rfl rfl (by decide) ?_
     refine Tr.va rfl (fun _ _ a c => zx (a.ev rfl) (a.ev rfl)) ?_
     exact Tr.nil (Tr.VW (.cons rfl (.cons rfl (.cons rfl .nil))) (.cons rfl (.cons rfl .nil)))
   ·show Tr _ _ (LF [(0, sL zF p0 zH), (4, iv zCL), (45, bV ((decide (VN.Y0 < VO.Y0)) || ((VN.Y0 == VO.Y0) && (decide (VN.X0 ≤ VO.X0)))))]) (LE [(5, bx zPF #[iv VO.X0, iv VO.Y0, iv VO.X1, iv VO.Y1] 36), (6, bx zPr #[iv VN.X0, iv VN.Y0, iv VN.X1, iv VN.Y1] 36)]) _
    refine Tr.nil (Tr.zA (Tr.cond rfl H (fun H => ?_) (fun H => ?_)))
    ·refine Tr.sr (Tr.asg rfl rfl (Tr.nil (Tr.zA (Tr.ret (Tr.QY (Tr.zq (Tr.zq (Tr.QY (Tr.zq ?_)))))))))
     obtain rfl := oI H
     exact Tr.out (m := [iv 8]) [] (zU rfl zY) (fun W hW => ⟨rfl, hW.low leB⟩)
    ·refine Tr.skip (Tr.zb (Tr.zA (Tr.region (Tr.mv rfl rfl (Tr.va rfl (fun _ _ a c => zg (a.ev rfl) (a.ev rfl)) ?_)))))
     exact Tr.asg rfl rfl (Tr.nil (Tr.zZ QI (w64 (zCL + 1)) H (.cons rfl (.cons rfl .nil)) .nil))
  ·refine Tr.exit (Tr.zP (Tr.zP (Tr.zl (Tr.zA (Tr.seq (Tr.sr (Tr.mv rfl rfl ?_)))))))
   obtain ⟨zMP, zm5, H⟩ := bnd H
   refine Tr.zCe [7] [emp] (U := (Option Addr × Nat)) (fun u => (sL u.1 zMP u.2)) (fun O W u => SlF u.1 zMP.length u.2) (fun u => [ow u.1 u.2 67 Qi zMP]) rfl (zn rfl zw) (fun _ => rfl) (wn rfl) rfl Tryz.call13 (zI rfl zX) (fun W hW hp hE => zG0 N p0 zF zH (zK.ext (hW.zCA hp)) zMP zm5 hE) ?_
   intro w u zeQ hu
   obtain ⟨zNV, zM3⟩ := u
   have gy123_0 := hu
   replace zK := zK.leR zeQ
   replace leB := leB.trans zeQ
   have zpO : SlF zNV zMP.length zM3 := gy123_0 --@phi
   show Tr _ _ (uf _ 47 (sL zNV zMP zM3)) (up _ 7 (ow zNV zM3 67 Qi zMP)) _
   obtain ⟨zHo, zaR, H⟩ := bnd H
   refine Tr.zAi [8] [emp] (U := (Option Addr × Nat)) (fun u => (sL u.1 zHo u.2)) (fun u => SlF u.1 zHo.length u.2) (fun u => [ow u.1 u.2 36 zL zHo]) rfl (zn rfl zw) (fun _ => rfl) (wn rfl) rfl Tryz.call28 (zI rfl zX) (fun W hW hp hE => zD8 N zMP zNV zM3 (hW.slS (k := 7) rfl hp rfl) zHo zaR hE) ?_
   intro u hu
   obtain ⟨zNU, zM2⟩ := u
   have gy125_0 := hu
   have zpN : SlF zNU zHo.length zM2 := gy125_0 --@phi
   show Tr _ _ (uf _ 48 (sL zNU zHo zM2)) (up _ 8 (ow zNU zM2 36 zL zHo)) _
   refine Tr.mv rfl rfl ?_
   obtain ⟨zYK, zm3, H⟩ := bnd H
   refine Tr.KV (r := (bV zYK)) (wn rfl) rfl Tryz.call10 (zI rfl (zI rfl zX)) (fun W hW => zDs zHo zNU zM2 (hW.zCo (k := 8) rfl) p0 zF zH (zK.ext hW.Ky) zYK zm3 (HF.start _)) ?_
   refine Tr.va rfl (fun _ _ a c => Wm (a.ev rfl)) ?_
   refine Tr.nil (Tr.zA (Tr.cond rfl H (fun H => ?_) (fun H => ?_)))
   ·refine Tr.sr (Tr.asg rfl rfl (Tr.nil (Tr.zA (Tr.ret (Tr.zq ?_)))))
    obtain rfl := oI H
    exact Tr.out (m := [iv 3]) [] (zU rfl zY) (fun W hW => ⟨rfl, hW.low leB⟩)
   ·refine Tr.skip (Tr.zA (Tr.sr (Tr.asg rfl rfl (Tr.nil (Tr.zA (Tr.ret ?_))))))
    obtain rfl := oI H
    exact Tr.out (m := [iv 0]) [] (zU rfl zY) (fun W hW => ⟨rfl, hW.low leB⟩)

theorem zAX {w : Bs} (p0 : Int) (p1 : Int) (p2 : Int) (p3 : Int) (q0 : (List Qw)) (Aq0_0 : Option Addr) (cq0_0 : Nat) (bq0 : Nat) (r : (List Qw)) (H : VI p0 p1 p2 p3 q0 = some r) (hE : HF w w.W (LEn [bx bq0 #[sL Aq0_0 q0 cq0_0] 68, ow Aq0_0 cq0_0 72 QJ q0])) : Calls Tryz.prog 72 [iv p0, iv p1, iv p2, iv p3, pV bq0].toArray w.W fun e W' => ∃ u : (Option Addr × Nat), e = .returned (.tuple #[]) ∧ (SlF u.1 r.length u.2) ∧ HF w W' (LEn [bx bq0 #[sL u.1 r u.2] 68, ow u.1 u.2 72 QJ r]) := by
 unfold VI at H
 have zqG := (hE.sl (k := 1) rfl).form
 have leB := Bs.Le.refl w
 refine Tr.enter (n := 19) Tryz.func72 rfl rfl rfl hE ?_
 refine Tr.region (Tr.va rfl (fun _ _ a c => zC zHk (a.ev rfl) (rdb c (vs := [sL Aq0_0 q0 cq0_0]) (k := 0) rfl 0) rfl) ?_)
 refine Tr.mv rfl rfl (Tr.mv rfl rfl (Tr.build (vs := [(0, iv p0), (1, iv p1)]) (cs := [iv p0, iv p1]) (wn rfl) rfl (zi rfl (zi rfl Qh)) (by kernel_rfl) ?_))
 refine Tr.mv rfl rfl (Tr.mv rfl rfl (Tr.build (vs := [(0, iv p2), (1, iv p3)]) (cs := [iv p2, iv p3]) (wn rfl) rfl (zi rfl (zi rfl Qh)) (by kernel_rfl) ?_))
 refine Tr.build (vs := [(0, .agg #[iv p0, iv p1]), (1, .agg #[iv p2, iv p3])]) (cs := [iv p0, iv p1, iv p2, iv p3]) (wn rfl) rfl (zi rfl (zi rfl Qh)) (by kernel_rfl) ?_
 refine Tr.buildSlice 2 (e := 72) (vs := [(0, .agg #[iv p0, iv p1, iv p2, iv p3])]) (cs := [iv p0, iv p1, iv p2, iv p3]) (wn rfl) rfl (zi rfl Qh) (by kernel_rfl) fun QQ => ?_
 obtain ⟨zFp, zTx, H⟩ := bnd H
 refine Tr.append 1 (t := QJ) (l := q0) (l2 := [(Qw.mk (zG.mk p0 p1) (zG.mk p2 p3))]) (wn rfl) rfl rfl rfl rfl (fun W hW => ⟨[[iv p0, iv p1, iv p2, iv p3]], (.cons ⟨(), trivial, rfl⟩ .nil), rdb hW (vs := [iv p0, iv p1, iv p2, iv p3]) (k := 2) rfl 0⟩) zLu zER zd1 (by decide) zeu rfl zTx fun zJX zJT hAl101 => ?_
 refine Tr.store 0 (cs := [sL zJX zFp zJT]) [sL zJX zFp zJT] (wn rfl) rfl rfl rfl rfl zeC rfl rfl rfl ?_
 refine Tr.nil (Tr.zZl ?_)
 obtain rfl := oI H
 exact Tr.out (m := []) [] zY (fun W hW => ⟨(zJX, zJT), rfl, hAl101, HF.zEF leB (hW.pick (ks := [0, 1]) (by decide) (zn rfl (zn rfl zw))) ⟨zb0 _ _ _, Ww _ _ _ _ zNh, trivial⟩⟩)

theorem zHl (N : Nat) {w : Bs} (p0 : (List Int)) (zF : Option Addr) (zH : Nat) (zK : Sl w.R w.W zW zF zH p0) (p1 : (List Int)) (Ql : Option Addr) (Qk : Nat) (KU : Sl w.R w.W zW Ql Qk p1) (p2 : Bool → Bool → Option Bool) (fid2 : Nat) (cap2 : List Value) (hg2 : ∀ args W, (callFunc fid2 args).run Tryz.prog W = .ok (.enter fid2 args) W) (hf2 : ∀ (w' : Bs), w.Ext w' → ∀ (z0 : Bool) (z1 : Bool), ∀ y, p2 z0 z1 = some y → Calls Tryz.prog fid2 (([bV z0, bV z1] : List Value) ++ cap2).toArray w'.W fun e W'' => e = .returned (bV y) ∧ HF w' W'' E0) (r : (List Int)) (H : zAp N p0 p1 p2 = some r) (hE : HF w w.W (LEn [emp])) : Calls Tryz.prog 74 [sL zF p0 zH, sL Ql p1 Qk, .func (.func fid2) #[] cap2.toArray].toArray w.W fun e W' => ∃ u : (Option Addr × Nat), e = .returned (sL u.1 r u.2) ∧ (SlF u.1 r.length u.2) ∧ HF w W' (LEn [ow u.1 u.2 3 zW r]) := by
 unfold zAp at H
 have leB := Bs.Le.refl w
 refine Tr.enter (n := 85) Tryz.func74 rfl rfl rfl hE ?_
 refine Tr.sr (Tr.asg rfl rfl (Tr.Qb 1 3 zW ?_))
 show Tr _ _ (uf _ 6 (sL none (([] : List Int)) 0)) _ _
 refine Tr.nil (Tr.zA (Tr.sr (Tr.asg rfl rfl (Tr.Qb 2 3 zW ?_))))
 show Tr _ _ (uf _ 7 (sL none (([] : List Int)) 0)) _ _
 refine Tr.nil (Tr.zA (Tr.sr (Tr.asg rfl rfl (Tr.asg rfl rfl (Tr.asg rfl rfl (Tr.nil (Tr.zA (Tr.seq (Tr.block (Tr.loop (σ := (List Int) × (List Int) × (List Int) × Bool × Bool × Bool × (Option Addr) × Nat × (Option Addr) × Nat × (Option Addr) × Nat) (fun m w s => Qx p2 m s.1 s.2.1 s.2.2.1 s.2.2.2.1 s.2.2.2.2.1 s.2.2.2.2.2.1 = some r ∧ Sl w.R w.W zW s.2.2.2.2.2.2.1 s.2.2.2.2.2.2.2.1 s.1 ∧ Sl w.R w.W zW s.2.2.2.2.2.2.2.2.1 s.2.2.2.2.2.2.2.2.2.1 s.2.1 ∧ SlF s.2.2.2.2.2.2.2.2.2.2.1 s.2.2.1.length s.2.2.2.2.2.2.2.2.2.2.2) (fun s => [(0, sL s.2.2.2.2.2.2.1 s.1 s.2.2.2.2.2.2.2.1), (1, sL s.2.2.2.2.2.2.2.2.1 s.2.1 s.2.2.2.2.2.2.2.2.2.1), (2, .func (.func fid2) #[] cap2.toArray), (7, sL s.2.2.2.2.2.2.2.2.2.2.1 s.2.2.1 s.2.2.2.2.2.2.2.2.2.2.2), (8, bV s.2.2.2.1), (9, bV s.2.2.2.2.1), (10, bV s.2.2.2.2.2.1)]) (fun s => [(2, ow s.2.2.2.2.2.2.2.2.2.2.1 s.2.2.2.2.2.2.2.2.2.2.2 3 zW s.2.2.1)]) N (p0, p1, ([] : List Int), false, false, false, zF, zH, Ql, Qk, none, 0) ⟨H, zK, KU, Jm⟩ (.cons rfl (.cons rfl (.cons rfl (.cons rfl (.cons rfl (.cons rfl (.cons rfl .nil))))))) (.cons rfl .nil) (fun _ _ h => KG (h.1)) ?_))))))))))
 intro w zHt mL7 s hs
 obtain ⟨Wy, zAw, zAU, zGV, zDV, zCU, zBW, zBO, zCy, zCm, zAv, zAu⟩ := s
 obtain ⟨H, zEV, zEu, zXI⟩ := hs
 replace H : Qx p2 (mL7 + 1) Wy zAw zAU zGV zDV zCU = some r := H
 replace hf2 := fun w' he => hf2 w' (zHt.ext.trans he)
 replace leB := leB.trans zHt
 replace zEV : Sl w.R w.W zW zBW zBO Wy := zEV
 replace zEu : Sl w.R w.W zW zCy zCm zAw := zEu
 replace zXI : SlF zAv zAU.length zAu := zXI
 rw [Qx.eq_2] at H
 show Tr _ _ (LF [(0, sL zBW Wy zBO), (1, sL zCy zAw zCm), (2, .func (.func fid2) #[] cap2.toArray), (7, sL zAv zAU zAu), (8, bV zGV), (9, bV zDV), (10, bV zCU)]) (LE [(2, ow zAv zAu 3 zW zAU)]) _
 refine Tr.seq (Tr.sr (Tr.mv rfl rfl (Tr.va rfl (fun _ _ a c => zf Vu (a.ev rfl)) ?_)))
 refine Tr.va rfl (fun _ _ a c => Wx (a.ev rfl) (a.ev rfl)) ?_
 refine Tr.mv rfl rfl (Tr.zBy 4 [(0, sL zBW Wy zBO), (1, sL zCy zAw zCm), (2, .func (.func fid2) #[] cap2.toArray), (7, sL zAv zAU zAu), (8, bV zGV), (9, bV zDV), (10, bV zCU), (20, bV ((decide (0 < (Wy.length : Int))) || (decide (0 < (zAw.length : Int)))))] [(2, ow zAv zAu 3 zW zAU)] ?_ ?_)
 ·cases zbR : (decide (0 < (Wy.length : Int)))
  ·refine Tr.val (wg rfl rfl rfl) rfl (fun _ _ a c => run_move (a.ev rfl)) ?_
   refine Tr.val (wg rfl rfl rfl) rfl (fun _ _ a c => zf Vu (a.ev rfl)) ?_
   refine Tr.val (wg rfl rfl rfl) rfl (fun _ _ a c => Wx (a.ev rfl) (a.ev rfl)) ?_
   refine Tr.va rfl (fun _ _ a c => zy (a.ev rfl) (a.ev rfl)) ?_
   exact Tr.nil (Tr.VW (.cons rfl (.cons rfl (.cons rfl (.cons rfl (.cons rfl (.cons rfl (.cons rfl (.cons rfl .nil)))))))) (.cons rfl .nil))
  ·refine Tr.pass rfl rfl rfl rfl rfl (by decide) ?_
   refine Tr.pass rfl rfl rfl rfl rfl (by decide) ?_
   refine Tr.pass rfl rfl rfl rfl rfl (by decide) ?_
   refine Tr.va rfl (fun _ _ a c => zx (a.ev rfl) (a.ev rfl)) ?_
   exact Tr.nil (Tr.VW (.cons rfl (.cons rfl (.cons rfl (.cons rfl (.cons rfl (.cons rfl (.cons rfl (.cons rfl .nil)))))))) (.cons rfl .nil))
 ·show Tr _ _ (LF [(0, sL zBW Wy zBO), (1, sL zCy zAw zCm), (2, .func (.func fid2) #[] cap2.toArray), (7, sL zAv zAU zAu), (8, bV zGV), (9, bV zDV), (10, bV zCU), (20, bV ((decide (0 < (Wy.length : Int))) || (decide (0 < (zAw.length : Int)))))]) (LE [(2, ow zAv zAu 3 zW zAU)]) _
  refine Tr.nil (Tr.zA (Tr.cond rfl H (fun H => ?_) (fun H => ?_)))
  ·refine Tr.skip (Tr.zA (Tr.block (Tr.sr (Tr.asg rfl rfl (Tr.nil (Tr.zA ?_))))))
   have leJ250 := Bs.Le.refl w
   refine Tr.zSV (σ := Int) (fun w s => Vy p2 Wy zAw zAU zGV zDV zCU (Qx p2 mL7) s = some r) (fun s => [(0, sL zBW Wy zBO), (1, sL zCy zAw zCm), (2, .func (.func fid2) #[] cap2.toArray), (7, sL zAv zAU zAu), (8, bV zGV), (9, bV zDV), (10, bV zCU), (11, iv s)]) (fun s => [(2, ow zAv zAu 3 zW zAU)]) ?_ ?_
   ·refine Tr.seq (Tr.draw (by kernel_rfl) (by kernel_rfl) ?_)
    refine Tq.mv rfl rfl (Tq.va rfl (fun _ _ a c => zf Vu (a.ev rfl)) ?_)
    refine Tq.va rfl (fun _ _ a c => Vv (a.ev rfl) (a.ev rfl)) ?_
    refine Tq.mv rfl rfl ?_
    obtain ⟨zko, zQl, H⟩ := bnd H
    refine Tq.mid 13 [(0, sL zBW Wy zBO), (1, sL zCy zAw zCm), (2, .func (.func fid2) #[] cap2.toArray), (7, sL zAv zAU zAu), (8, bV zGV), (9, bV zDV), (10, bV zCU), (37, bV zko)] ?_ ?_
    ·cases zbR : ((zAw.length : Int) == 0)
     ·rw [zbR] at zQl
      rw [if_neg (by decide)] at zQl
      have H := zQl
      refine Tq.val (wg rfl rfl rfl) rfl (fun _ _ a c => run_move (a.ev rfl)) ?_
      refine Tq.val (wg rfl rfl rfl) rfl (fun _ _ a c => zf Vu (a.ev rfl)) ?_
      refine Tq.val (wg rfl rfl rfl) rfl (fun _ _ a c => Wx (a.ev rfl) (a.ev rfl)) ?_
      refine Tq.val (wg rfl rfl rfl) rfl (fun _ _ a c => run_move (a.ev rfl)) ?_
      obtain ⟨zkn, zQk, H⟩ := bnd H
      refine Tq.mid 8 [(0, sL zBW Wy zBO), (1, sL zCy zAw zCm), (2, .func (.func fid2) #[] cap2.toArray), (7, sL zAv zAU zAu), (8, bV zGV), (9, bV zDV), (10, bV zCU), (24, bV false), (36, bV zkn)] ?_ ?_
      ·cases zel : (decide (0 < (Wy.length : Int)))
       ·rw [zel] at zQk
        rw [if_neg (by decide)] at zQk
        have H := zQk
        obtain rfl := oI H
        refine Tq.pass rfl rfl rfl rfl rfl (by decide) ?_
        refine Tq.pass rfl rfl rfl rfl rfl (by decide) ?_
        refine Tq.pass rfl rfl rfl rfl rfl (by decide) ?_
        refine Tq.pass rfl rfl rfl rfl rfl (by decide) ?_
        refine Tq.pass rfl rfl rfl rfl rfl (by decide) ?_
        refine Tq.pass rfl rfl rfl rfl rfl (by decide) ?_
        refine Tq.pass rfl rfl rfl rfl rfl (by decide) ?_
        refine Tq.val (wg rfl rfl rfl) rfl (fun _ _ a c => zy (a.ev rfl) (a.ev rfl)) ?_
        exact Tq.fin (.cons rfl (.cons rfl (.cons rfl (.cons rfl (.cons rfl (.cons rfl (.cons rfl (.cons rfl (.cons rfl .nil)))))))))
       ·rw [zel] at zQk
        rw [if_pos rfl] at zQk
        have H := zQk
        refine Tq.val (wg rfl rfl rfl) rfl (fun _ _ a c => run_move (a.ev rfl)) ?_
        obtain ⟨zlV, znw, H⟩ := bnd H
        obtain ⟨ziG, ziF, ziE⟩ := zO znw
        refine Tq.val (wg rfl rfl rfl) rfl (fun _ _ a c => zD Kb (a.ev rfl) zEV.form (a.ev rfl) ziG ziF) ?_
        refine Tq.val (wg rfl rfl rfl) rfl (fun _ _ a c => zC QA (a.ev rfl) (rdF Jd zEV ziE c) rfl) ?_
        refine Tq.val (wg rfl rfl rfl) rfl (fun _ _ a c => run_move (a.ev rfl)) ?_
        obtain ⟨zlU, znv, H⟩ := bnd H
        obtain ⟨ziD, ziC, ziB⟩ := zO znv
        refine Tq.val (wg rfl rfl rfl) rfl (fun _ _ a c => zD Kb (a.ev rfl) zEu.form (a.ev rfl) ziD ziC) ?_
        refine Tq.val (wg rfl rfl rfl) rfl (fun _ _ a c => zC QA (a.ev rfl) (rdF Jd zEu ziB c) rfl) ?_
        refine Tq.val (wg rfl rfl rfl) rfl (fun _ _ a c => zBJ (a.ev rfl) (a.ev rfl)) ?_
        refine Tq.val (wg rfl rfl rfl) rfl (fun _ _ a c => zx (a.ev rfl) (a.ev rfl)) ?_
        obtain rfl := oI H
        exact Tq.fin (.cons rfl (.cons rfl (.cons rfl (.cons rfl (.cons rfl (.cons rfl (.cons rfl (.cons rfl (.cons rfl .nil)))))))))
      ·refine Tq.va rfl (fun _ _ a c => zy (a.ev rfl) (a.ev rfl)) ?_
       obtain rfl := oI H
       exact Tq.fin (.cons rfl (.cons rfl (.cons rfl (.cons rfl (.cons rfl (.cons rfl (.cons rfl (.cons rfl .nil))))))))
     ·rw [zbR] at zQl
      rw [if_pos rfl] at zQl
      have H := zQl
      obtain rfl := oI H
      refine Tq.pass rfl rfl rfl rfl rfl (by decide) ?_
      refine Tq.pass rfl rfl rfl rfl rfl (by decide) ?_
      refine Tq.pass rfl rfl rfl rfl rfl (by decide) ?_
      refine Tq.pass rfl rfl rfl rfl rfl (by decide) ?_
      refine Tq.KJ rfl rfl rfl rfl (by decide) ?_
      refine Tq.KJ rfl rfl rfl rfl (by decide) ?_
      refine Tq.KJ rfl rfl rfl rfl (by decide) ?_
      refine Tq.KJ rfl rfl rfl rfl (by decide) ?_
      refine Tq.KJ rfl rfl rfl rfl (by decide) ?_
      refine Tq.KJ rfl rfl rfl rfl (by decide) ?_
      refine Tq.KJ rfl rfl rfl rfl (by decide) ?_
      refine Tq.pass rfl rfl rfl rfl rfl (by decide) ?_
      refine Tq.va rfl (fun _ _ a c => zx (a.ev rfl) (a.ev rfl)) ?_
      exact Tq.fin (.cons rfl (.cons rfl (.cons rfl (.cons rfl (.cons rfl (.cons rfl (.cons rfl (.cons rfl .nil))))))))
    ·refine Tq.nil (Tr.zA (Tr.cond rfl H (fun H => ?_) (fun H => ?_)))
     ·refine Tr.region (Tr.mv rfl rfl ?_)
      obtain ⟨ze2, znu, H⟩ := bnd H
      obtain ⟨ziA, zh9, zh8⟩ := zO znu
      refine Tr.va rfl (fun _ _ a c => zD Kb (a.ev rfl) zEV.form (a.ev rfl) ziA zh9) ?_
      refine Tr.va rfl (fun _ _ a c => zC QA (a.ev rfl) (rdF Jd zEV zh8 c) rfl) ?_
      exact Tr.asg rfl rfl (Tr.nil (Tr.zZ leJ250 ze2 H (.cons rfl (.cons rfl (.cons rfl (.cons rfl (.cons rfl (.cons rfl (.cons rfl (.cons rfl .nil)))))))) (.cons rfl .nil)))
     ·refine Tr.region (Tr.mv rfl rfl ?_)
      obtain ⟨ze1, znt, H⟩ := bnd H
      obtain ⟨zh7, zh6, zh5⟩ := zO znt
      refine Tr.va rfl (fun _ _ a c => zD Kb (a.ev rfl) zEu.form (a.ev rfl) zh7 zh6) ?_
      refine Tr.va rfl (fun _ _ a c => zC QA (a.ev rfl) (rdF Jd zEu zh5 c) rfl) ?_
      exact Tr.asg rfl rfl (Tr.nil (Tr.zZ leJ250 ze1 H (.cons rfl (.cons rfl (.cons rfl (.cons rfl (.cons rfl (.cons rfl (.cons rfl (.cons rfl .nil)))))))) (.cons rfl .nil)))
   ·intro w zBA hlJ251 hs
    have H := hs
    replace H : Vy p2 Wy zAw zAU zGV zDV zCU (Qx p2 mL7) zBA = some r := H
    replace zEV := zEV.leR hlJ251
    replace zEu := zEu.leR hlJ251
    replace hf2 := fun w' he => hf2 w' (hlJ251.ext.trans he)
    replace zHt := zHt.trans hlJ251
    unfold Vy at H
    show Tr _ _ (LF [(0, sL zBW Wy zBO), (1, sL zCy zAw zCm), (2, .func (.func fid2) #[] cap2.toArray), (7, sL zAv zAU zAu), (8, bV zGV), (9, bV zDV), (10, bV zCU), (11, iv zBA)]) (LE [(2, ow zAv zAu 3 zW zAU)]) _
    have leJ258 := Bs.Le.refl w
    refine Tr.zSV (σ := (List Int) × Bool × (Option Addr) × Nat) (fun w s => WO p2 zAw zAU zDV zCU (Qx p2 mL7) zBA s.1 s.2.1 = some r ∧ Sl w.R w.W zW s.2.2.1 s.2.2.2 s.1) (fun s => [(0, sL s.2.2.1 s.1 s.2.2.2), (1, sL zCy zAw zCm), (2, .func (.func fid2) #[] cap2.toArray), (7, sL zAv zAU zAu), (8, bV s.2.1), (9, bV zDV), (10, bV zCU), (11, iv zBA)]) (fun s => [(2, ow zAv zAu 3 zW zAU)]) ?_ ?_
    ·refine Tr.sr (Tr.mv rfl rfl (Tr.va rfl (fun _ _ a c => zf Vu (a.ev rfl)) ?_))
     refine Tr.va rfl (fun _ _ a c => Wx (a.ev rfl) (a.ev rfl)) ?_
     refine Tr.mv rfl rfl ?_
     obtain ⟨zdU, zKW, H⟩ := bnd H
     refine Tr.zBy 6 [(0, sL zBW Wy zBO), (1, sL zCy zAw zCm), (2, .func (.func fid2) #[] cap2.toArray), (7, sL zAv zAU zAu), (8, bV zGV), (9, bV zDV), (10, bV zCU), (11, iv zBA), (53, bV zdU)] [(2, ow zAv zAu 3 zW zAU)] ?_ ?_
     ·cases zem : (decide (0 < (Wy.length : Int)))
      ·rw [zem] at zKW
       rw [if_neg (by decide)] at zKW
       have H := zKW
       obtain rfl := oI H
       refine Tr.pass rfl rfl rfl rfl rfl (by decide) ?_
       refine Tr.pass rfl rfl rfl rfl rfl (by decide) ?_
       refine Tr.pass rfl rfl rfl rfl rfl (by decide) ?_
       refine Tr.pass rfl rfl rfl rfl rfl (by decide) ?_
       refine Tr.pass rfl rfl rfl rfl rfl (by decide) ?_
       refine Tr.va rfl (fun _ _ a c => zy (a.ev rfl) (a.ev rfl)) ?_
       exact Tr.nil (Tr.VW (.cons rfl (.cons rfl (.cons rfl (.cons rfl (.cons rfl (.cons rfl (.cons rfl (.cons rfl (.cons rfl .nil))))))))) (.cons rfl .nil))
      ·rw [zem] at zKW
       rw [if_pos rfl] at zKW
       have H := zKW
       refine Tr.val (wg rfl rfl rfl) rfl (fun _ _ a c => run_move (a.ev rfl)) ?_
       obtain ⟨zlW, znx, H⟩ := bnd H
       obtain ⟨ziJ, ziI, ziH⟩ := zO znx
       refine Tr.val (wg rfl rfl rfl) rfl (fun _ _ a c => zD Kb (a.ev rfl) zEV.form (a.ev rfl) ziJ ziI) ?_
       refine Tr.val (wg rfl rfl rfl) rfl (fun _ _ a c => zC QA (a.ev rfl) (rdF Jd zEV ziH c) rfl) ?_
       refine Tr.val (wg rfl rfl rfl) rfl (fun _ _ a c => run_move (a.ev rfl)) ?_
       refine Tr.val (wg rfl rfl rfl) rfl (fun _ _ a c => Vv (a.ev rfl) (a.ev rfl)) ?_
       refine Tr.va rfl (fun _ _ a c => zx (a.ev rfl) (a.ev rfl)) ?_
       obtain rfl := oI H
       exact Tr.nil (Tr.VW (.cons rfl (.cons rfl (.cons rfl (.cons rfl (.cons rfl (.cons rfl (.cons rfl (.cons rfl (.cons rfl .nil))))))))) (.cons rfl .nil))
     ·show Tr _ _ (LF [(0, sL zBW Wy zBO), (1, sL zCy zAw zCm), (2, .func (.func fid2) #[] cap2.toArray), (7, sL zAv zAU zAu), (8, bV zGV), (9, bV zDV), (10, bV zCU), (11, iv zBA), (53, bV zdU)]) (LE [(2, ow zAv zAu 3 zW zAU)]) _
      refine Tr.nil (Tr.zA (Tr.cond rfl H (fun H => ?_) (fun H => ?_)))
      ·refine Tr.region (Tr.mv rfl rfl ?_)
       obtain ⟨zfk, zeZ, H⟩ := bnd H
       refine Tr.va rfl (fun _ _ a c => zDa Kb (a.ev rfl) zEV.form (a.ev rfl) zeZ) ?_
       refine Tr.mv rfl rfl (Tr.va rfl (fun _ _ a c => Wm (a.ev rfl)) ?_)
       exact Tr.asg rfl rfl (Tr.asg rfl rfl (Tr.nil (Tr.zZ leJ258 (zfk, (!zGV), (zGP zBW (1 : Int).toNat 1 zBO), (zBO - (1 : Int).toNat)) ⟨H, (Sl.cut zEV zeZ)⟩ (.cons rfl (.cons rfl (.cons rfl (.cons rfl (.cons rfl (.cons rfl (.cons rfl (.cons rfl .nil)))))))) (.cons rfl .nil))))
      ·exact Tr.skip (Tr.zZ leJ258 (Wy, zGV, zBW, zBO) ⟨H, zEV⟩ (.cons rfl (.cons rfl (.cons rfl (.cons rfl (.cons rfl (.cons rfl (.cons rfl (.cons rfl .nil)))))))) (.cons rfl .nil))
    ·intro w s hlJ259 hs
     obtain ⟨zIG, zHp, zMI, zMC⟩ := s
     obtain ⟨H, zQV⟩ := hs
     replace H : WO p2 zAw zAU zDV zCU (Qx p2 mL7) zBA zIG zHp = some r := H
     replace zEu := zEu.leR hlJ259
     replace hf2 := fun w' he => hf2 w' (hlJ259.ext.trans he)
     replace zHt := zHt.trans hlJ259
     replace zQV : Sl w.R w.W zW zMI zMC zIG := zQV
     unfold WO at H
     show Tr _ _ (LF [(0, sL zMI zIG zMC), (1, sL zCy zAw zCm), (2, .func (.func fid2) #[] cap2.toArray), (7, sL zAv zAU zAu), (8, bV zHp), (9, bV zDV), (10, bV zCU), (11, iv zBA)]) (LE [(2, ow zAv zAu 3 zW zAU)]) _
     have leJ266 := Bs.Le.refl w
     refine Tr.zSV (σ := (List Int) × Bool × (Option Addr) × Nat) (fun w s => zAd p2 zAU zCU (Qx p2 mL7) zBA zIG zHp s.1 s.2.1 = some r ∧ Sl w.R w.W zW s.2.2.1 s.2.2.2 s.1) (fun s => [(0, sL zMI zIG zMC), (1, sL s.2.2.1 s.1 s.2.2.2), (2, .func (.func fid2) #[] cap2.toArray), (7, sL zAv zAU zAu), (8, bV zHp), (9, bV s.2.1), (10, bV zCU), (11, iv zBA)]) (fun s => [(2, ow zAv zAu 3 zW zAU)]) ?_ ?_
     ·refine Tr.sr (Tr.mv rfl rfl (Tr.va rfl (fun _ _ a c => zf Vu (a.ev rfl)) ?_))
      refine Tr.va rfl (fun _ _ a c => Wx (a.ev rfl) (a.ev rfl)) ?_
      refine Tr.mv rfl rfl ?_
      obtain ⟨zdV, zQm, H⟩ := bnd H
      refine Tr.zBy 6 [(0, sL zMI zIG zMC), (1, sL zCy zAw zCm), (2, .func (.func fid2) #[] cap2.toArray), (7, sL zAv zAU zAu), (8, bV zHp), (9, bV zDV), (10, bV zCU), (11, iv zBA), (67, bV zdV)] [(2, ow zAv zAu 3 zW zAU)] ?_ ?_
      ·cases zen : (decide (0 < (zAw.length : Int)))
       ·rw [zen] at zQm
        rw [if_neg (by decide)] at zQm
        have H := zQm
        obtain rfl := oI H
        refine Tr.pass rfl rfl rfl rfl rfl (by decide) ?_
        refine Tr.pass rfl rfl rfl rfl rfl (by decide) ?_
        refine Tr.pass rfl rfl rfl rfl rfl (by decide) ?_
        refine Tr.pass rfl rfl rfl rfl rfl (by decide) ?_
        refine Tr.pass rfl rfl rfl rfl rfl (by decide) ?_
        refine Tr.va rfl (fun _ _ a c => zy (a.ev rfl) (a.ev rfl)) ?_
        exact Tr.nil (Tr.VW (.cons rfl (.cons rfl (.cons rfl (.cons rfl (.cons rfl (.cons rfl (.cons rfl (.cons rfl (.cons rfl .nil))))))))) (.cons rfl .nil))
       ·rw [zen] at zQm
        rw [if_pos rfl] at zQm
        have H := zQm
        refine Tr.val (wg rfl rfl rfl) rfl (fun _ _ a c => run_move (a.ev rfl)) ?_
        obtain ⟨zYR, zaY, H⟩ := bnd H
        obtain ⟨zVY, zVX, zVW⟩ := zO zaY
        refine Tr.val (wg rfl rfl rfl) rfl (fun _ _ a c => zD Kb (a.ev rfl) zEu.form (a.ev rfl) zVY zVX) ?_
        refine Tr.val (wg rfl rfl rfl) rfl (fun _ _ a c => zC QA (a.ev rfl) (rdF Jd zEu zVW c) rfl) ?_
        refine Tr.val (wg rfl rfl rfl) rfl (fun _ _ a c => run_move (a.ev rfl)) ?_
        refine Tr.val (wg rfl rfl rfl) rfl (fun _ _ a c => Vv (a.ev rfl) (a.ev rfl)) ?_
        refine Tr.va rfl (fun _ _ a c => zx (a.ev rfl) (a.ev rfl)) ?_
        obtain rfl := oI H
        exact Tr.nil (Tr.VW (.cons rfl (.cons rfl (.cons rfl (.cons rfl (.cons rfl (.cons rfl (.cons rfl (.cons rfl (.cons rfl .nil))))))))) (.cons rfl .nil))
      ·show Tr _ _ (LF [(0, sL zMI zIG zMC), (1, sL zCy zAw zCm), (2, .func (.func fid2) #[] cap2.toArray), (7, sL zAv zAU zAu), (8, bV zHp), (9, bV zDV), (10, bV zCU), (11, iv zBA), (67, bV zdV)]) (LE [(2, ow zAv zAu 3 zW zAU)]) _
       refine Tr.nil (Tr.zA (Tr.cond rfl H (fun H => ?_) (fun H => ?_)))
       ·refine Tr.region (Tr.mv rfl rfl ?_)
        obtain ⟨zfl, zea, H⟩ := bnd H
        refine Tr.va rfl (fun _ _ a c => zDa Kb (a.ev rfl) zEu.form (a.ev rfl) zea) ?_
        refine Tr.mv rfl rfl (Tr.va rfl (fun _ _ a c => Wm (a.ev rfl)) ?_)
        exact Tr.asg rfl rfl (Tr.asg rfl rfl (Tr.nil (Tr.zZ leJ266 (zfl, (!zDV), (zGP zCy (1 : Int).toNat 1 zCm), (zCm - (1 : Int).toNat)) ⟨H, (Sl.cut zEu zea)⟩ (.cons rfl (.cons rfl (.cons rfl (.cons rfl (.cons rfl (.cons rfl (.cons rfl (.cons rfl .nil)))))))) (.cons rfl .nil))))
       ·exact Tr.skip (Tr.zZ leJ266 (zAw, zDV, zCy, zCm) ⟨H, zEu⟩ (.cons rfl (.cons rfl (.cons rfl (.cons rfl (.cons rfl (.cons rfl (.cons rfl (.cons rfl .nil)))))))) (.cons rfl .nil))
     ·intro w s hlJ267 hs
      obtain ⟨zTX, zRb, zYF, zXy⟩ := s
      obtain ⟨H, zXG⟩ := hs
      replace H : zAd p2 zAU zCU (Qx p2 mL7) zBA zIG zHp zTX zRb = some r := H
      replace zQV := zQV.leR hlJ267
      replace hf2 := fun w' he => hf2 w' (hlJ267.ext.trans he)
      replace zHt := zHt.trans hlJ267
      replace zXG : Sl w.R w.W zW zYF zXy zTX := zXG
      unfold zAd at H
      show Tr _ _ (LF [(0, sL zMI zIG zMC), (1, sL zYF zTX zXy), (2, .func (.func fid2) #[] cap2.toArray), (7, sL zAv zAU zAu), (8, bV zHp), (9, bV zRb), (10, bV zCU), (11, iv zBA)]) (LE [(2, ow zAv zAu 3 zW zAU)]) _
      refine Tr.sr (Tr.mv rfl rfl (Tr.mv rfl rfl (Tr.mv rfl rfl ?_)))
      obtain ⟨zZI, zmh, H⟩ := bnd H
      refine Tr.zHj (r := (bV zZI)) (wn rfl) rfl rfl hg2 (zI rfl (zI rfl zX)) (fun W hW => hf2 hW.all hW.Ky zHp zRb _ zmh) ?_
      refine Tr.asg rfl rfl (Tr.nil (Tr.zA (Tr.sr (Tr.mv rfl rfl (Tr.mv rfl rfl (Tr.va rfl (fun _ _ a c => zZf ze9 (a.ev rfl) (a.ev rfl)) ?_))))))
      refine Tr.nil (Tr.zA (Tr.cond rfl H (fun H => ?_) (fun H => ?_)))
      ·refine Tr.region (Tr.mv rfl rfl (Tr.mv rfl rfl (Tr.buildSlice 5 (e := 3) (vs := [(0, iv zBA)]) (cs := [iv zBA]) (wn rfl) rfl (zi rfl Qh) (by kernel_rfl) fun zsG => ?_)))
       obtain ⟨zfm, zo4, H⟩ := bnd H
       refine Tr.append 2 (t := zW) (l := zAU) (l2 := [zBA]) (wn rfl) rfl rfl rfl rfl (fun W hW => ⟨[[iv zBA]], (.cons ⟨(), trivial, rfl⟩ .nil), rdb hW (vs := [iv zBA]) (k := 5) rfl 0⟩) Vu zGN zK9 (by decide) zLq rfl zo4 fun zp7 zph hAl270 => ?_
       exact Tr.mv rfl rfl (Tr.asg rfl rfl (Tr.asg rfl rfl (Tr.nil (Tr.zb (Tr.zZ zHt (zIG, zTX, zfm, zHp, zRb, zZI, zMI, zMC, zYF, zXy, zp7, zph) ⟨H, zQV, zXG, hAl270⟩ (.cons rfl (.cons rfl (.cons rfl (.cons rfl (.cons rfl (.cons rfl (.cons rfl .nil))))))) (.cons rfl .nil))))))
      ·exact Tr.skip (Tr.zb (Tr.zZ zHt (zIG, zTX, zAU, zHp, zRb, zCU, zMI, zMC, zYF, zXy, zAv, zAu) ⟨H, zQV, zXG, zXI⟩ (.cons rfl (.cons rfl (.cons rfl (.cons rfl (.cons rfl (.cons rfl (.cons rfl .nil))))))) (.cons rfl .nil)))
  ·refine Tr.exit (Tr.zP (Tr.zP (Tr.zl (Tr.zA (Tr.sr (Tr.mv rfl rfl (Tr.asg rfl rfl (Tr.nil (Tr.zA (Tr.ret ?_))))))))))
   obtain rfl := oI H
   exact Tr.out (m := [sL zAv zAU zAu]) [] (zU rfl zY) (fun W hW => ⟨(zAv, zAu), rfl, zXI, HF.zEF leB (hW.pick (ks := [2]) (by decide) (zn rfl zw)) ⟨Ww _ _ _ _ zH6, trivial⟩⟩)

theorem zFr {w : Bs} (p0 : Bool) (p1 : Bool) (r : Bool) (H : VS p0 p1 = some r) (hE : HF w w.W E0) : Calls Tryz.prog 75 [bV p0, bV p1].toArray w.W fun e W' => e = .returned (bV r) ∧ HF w W' E0 := by
 unfold VS at H
 have leB := Bs.Le.refl w
 refine Tr.enter (n := 10) Tryz.func75 rfl rfl rfl hE ?_
 refine Tr.sr (Tr.asg rfl rfl (Tr.nil (Tr.zA (Tr.sr (Tr.mv rfl rfl (Tr.mv rfl rfl (Tr.zBy 3 [(9, bV (p0 && (!p1)))] [] ?_ ?_)))))))
 ·cases zkX : p0
  ·refine Tr.pass rfl rfl rfl rfl rfl (by decide) ?_
   refine Tr.pass rfl rfl rfl rfl rfl (by decide) ?_
   refine Tr.va rfl (fun _ _ a c => zy (a.ev rfl) (a.ev rfl)) ?_
   exact Tr.nil (Tr.VW (.cons rfl .nil) .nil)
  ·refine Tr.val (wg rfl rfl rfl) rfl (fun _ _ a c => run_move (a.ev rfl)) ?_
   refine Tr.val (wg rfl rfl rfl) rfl (fun _ _ a c => Wm (a.ev rfl)) ?_
   refine Tr.va rfl (fun _ _ a c => zx (a.ev rfl) (a.ev rfl)) ?_
   exact Tr.nil (Tr.VW (.cons rfl .nil) .nil)
 ·show Tr _ _ (LF [(9, bV (p0 && (!p1)))]) (LE []) _
  refine Tr.asg rfl rfl (Tr.nil (Tr.zA (Tr.ret ?_)))
  obtain rfl := oI H
  exact Tr.out (m := [bV (p0 && (!p1))]) [] (zU rfl zY) (fun W hW => ⟨rfl, hW.low leB⟩)

theorem zFq {w : Bs} (p0 : Bool) (p1 : Bool) (r : Bool) (H : VR p0 p1 = some r) (hE : HF w w.W E0) : Calls Tryz.prog 76 [bV p0, bV p1].toArray w.W fun e W' => e = .returned (bV r) ∧ HF w W' E0 := by
 unfold VR at H
 have leB := Bs.Le.refl w
 refine Tr.enter (n := 10) Tryz.func76 rfl rfl rfl hE ?_
 refine Tr.sr (Tr.asg rfl rfl (Tr.nil (Tr.zA (Tr.sr (Tr.mv rfl rfl (Tr.mv rfl rfl (Tr.zBy 3 [(9, bV (p1 && (!p0)))] [] ?_ ?_)))))))
 ·cases zkX : p1
  ·refine Tr.pass rfl rfl rfl rfl rfl (by decide) ?_
   refine Tr.pass rfl rfl rfl rfl rfl (by decide) ?_
   refine Tr.va rfl (fun _ _ a c => zy (a.ev rfl) (a.ev rfl)) ?_
   exact Tr.nil (Tr.VW (.cons rfl .nil) .nil)
  ·refine Tr.val (wg rfl rfl rfl) rfl (fun _ _ a c => run_move (a.ev rfl)) ?_
   refine Tr.val (wg rfl rfl rfl) rfl (fun _ _ a c => Wm (a.ev rfl)) ?_
   refine Tr.va rfl (fun _ _ a c => zx (a.ev rfl) (a.ev rfl)) ?_
   exact Tr.nil (Tr.VW (.cons rfl .nil) .nil)
 ·show Tr _ _ (LF [(9, bV (p1 && (!p0)))]) (LE []) _
  refine Tr.asg rfl rfl (Tr.nil (Tr.zA (Tr.ret ?_)))
  obtain rfl := oI H
  exact Tr.out (m := [bV (p1 && (!p0))]) [] (zU rfl zY) (fun W hW => ⟨rfl, hW.low leB⟩)

theorem Ws (N : Nat) {w : Bs} (p0 : Int) (p1 : (List Int)) (Ql : Option Addr) (Qk : Nat) (KU : Sl w.R w.W zW Ql Qk p1) (p2 : (List Int)) (zRS : Option Addr) (zQ9 : Nat) (zXB : Sl w.R w.W zW zRS zQ9 p2) (bq0 : Nat) (q1 : (List Qw)) (Aq1_0 : Option Addr) (cq1_0 : Nat) (bq1 : Nat) (hb0 : w.R bq0) (hc0 : zQ w.W bq0 0 [.func (.func 72) #[] #[pV bq1]]) (r : (List Qw)) (H : JH N p0 p1 p2 q1 = some r) (hE : HF w w.W (LEn [bx bq1 #[sL Aq1_0 q1 cq1_0] 68, ow Aq1_0 cq1_0 72 QJ q1])) : Calls Tryz.prog 73 [iv p0, sL Ql p1 Qk, sL zRS p2 zQ9, pV bq0].toArray w.W fun e W' => ∃ u : (Option Addr × Nat), e = .returned (.tuple #[]) ∧ (SlF u.1 r.length u.2) ∧ HF w W' (LEn [bx bq1 #[sL u.1 r u.2] 68, ow u.1 u.2 72 QJ r]) := by
 unfold JH at H
 have zdP := (hE.sl (k := 1) rfl).form
 have leB := Bs.Le.refl w
 refine Tr.enter (n := 54) Tryz.func73 rfl rfl rfl hE ?_
 refine Tr.sr (Tr.mv rfl rfl (Tr.mv rfl rfl ?_))
 obtain ⟨zN, zAQ, H⟩ := bnd H
 refine Tr.zAi [2] [emp] (U := (Option Addr × Nat)) (fun u => (sL u.1 zN u.2)) (fun u => SlF u.1 zN.length u.2) (fun u => [ow u.1 u.2 3 zW zN]) rfl (zn rfl zw) (fun _ => rfl) (wn rfl) rfl Tryz.call74 (zI rfl (zI rfl (zI rfl zX))) (fun W hW hp hE => zHl N p1 Ql Qk (KU.ext (hW.zCA hp)) p2 zRS zQ9 (zXB.ext (hW.zCA hp)) (fun z0 z1 => VS z0 z1) 75 [] Tryz.call75 (fun w' he z0 z1 y hy => zFr z0 z1 y hy (HF.start _)) zN zAQ hE) ?_
 intro u hu
 obtain ⟨zR, zT⟩ := u
 have gy100_0 := hu
 have QZ : SlF zR zN.length zT := gy100_0 --@phi
 show Tr _ _ (uf _ 12 (sL zR zN zT)) (up _ 2 (ow zR zT 3 zW zN)) _
 refine Tr.asg rfl rfl (Tr.nil (Tr.zA (Tr.seq (Tr.sr (Tr.asg rfl rfl (Tr.nil (Tr.zA (Tr.block (Tr.loop (σ := (List Qw) × Int × (Option Addr) × Nat) (fun m w s => Qt N p0 p1 p2 zN m s.1 s.2.1 = some r ∧ SlF s.2.2.1 s.1.length s.2.2.2) (fun s => [(0, iv p0), (1, sL Ql p1 Qk), (2, sL zRS p2 zQ9), (3, pV bq0), (7, sL zR zN zT), (8, iv s.2.1)]) (fun s => [(0, bx bq1 #[sL s.2.2.1 s.1 s.2.2.2] 68), (1, ow s.2.2.1 s.2.2.2 72 QJ s.1), (2, ow zR zT 3 zW zN)]) N (q1, 0, Aq1_0, cq1_0) ⟨H, zdP⟩ (.cons rfl (.cons rfl (.cons rfl (.cons rfl (.cons rfl (.cons rfl .nil)))))) (.cons rfl (.cons rfl (.cons rfl .nil))) (fun _ _ h => KG (h.1)) ?_)))))))))
 intro w QI mL1 s hs
 obtain ⟨zOH, zSy, zPP, zPB⟩ := s
 obtain ⟨H, za2⟩ := hs
 replace H : Qt N p0 p1 p2 zN (mL1 + 1) zOH zSy = some r := H
 replace KU := KU.leR QI
 replace zXB := zXB.leR QI
 replace hc0 := QI.ext.cells hb0 hc0
 replace hb0 := QI.r _ hb0
 replace leB := leB.trans QI
 replace za2 : SlF zPP zOH.length zPB := za2
 rw [Qt.eq_2] at H
 show Tr _ _ (LF [(0, iv p0), (1, sL Ql p1 Qk), (2, sL zRS p2 zQ9), (3, pV bq0), (7, sL zR zN zT), (8, iv zSy)]) (LE [(0, bx bq1 #[sL zPP zOH zPB] 68), (1, ow zPP zPB 72 QJ zOH), (2, ow zR zT 3 zW zN)]) _
 refine Tr.seq (Tr.sr (Tr.mv rfl rfl (Tr.mv rfl rfl (Tr.va rfl (fun _ _ a c => zf Vu (a.ev rfl)) ?_))))
 refine Tr.va rfl (fun _ _ a c => zh (a.ev rfl) (a.ev rfl)) ?_
 refine Tr.nil (Tr.zA (Tr.cond rfl H (fun H => ?_) (fun H => ?_)))
 ·refine Tr.skip (Tr.zA (Tr.seq (Tr.block (Tr.zCB 12 (by kernel_rfl) (by kernel_rfl) ?_))))
  refine Tq.va rfl (fun _ _ a c => zC zSe (a.ev rfl) (rdR hb0 hc0 c) rfl) ?_
  refine Tq.mv rfl rfl (Tq.mv rfl rfl (Tq.va rfl (fun _ _ a c => zg (a.ev rfl) (a.ev rfl)) ?_))
  obtain ⟨VO, zTn, H⟩ := bnd H
  obtain ⟨zOY, zOX, hx1182⟩ := zO zTn
  refine Tq.va rfl (fun _ _ a c => zD Kb (a.ev rfl) QZ (a.ev rfl) zOY zOX) ?_
  refine Tq.va rfl (fun _ _ a c => zC QA (a.ev rfl) (rdo Jd (k := 2) c rfl hx1182) rfl) ?_
  refine Tq.mv rfl rfl (Tq.mv rfl rfl (Tq.mv rfl rfl ?_))
  obtain ⟨VN, zTm, H⟩ := bnd H
  obtain ⟨hx1190, hx1191, hx1192⟩ := zO zTm
  refine Tq.va rfl (fun _ _ a c => zD Kb (a.ev rfl) QZ (a.ev rfl) hx1190 hx1191) ?_
  refine Tq.va rfl (fun _ _ a c => zC QA (a.ev rfl) (rdo Jd (k := 2) c rfl hx1192) rfl) ?_
  refine Tq.mv rfl rfl (Tq.nil ?_)
  obtain ⟨zEg, zaS, H⟩ := bnd H
  refine Tr.zJw [0, 1] [bx bq1 #[sL zPP zOH zPB] 68, ow zPP zPB 72 QJ zOH] (U := (Option Addr × Nat)) (fun u => (.tuple #[])) (fun u => SlF u.1 zEg.length u.2) (fun u => [bx bq1 #[sL u.1 zEg u.2] 68, ow u.1 u.2 72 QJ zEg]) rfl (zn rfl (zn rfl zw)) (fun _ => rfl) (wn rfl) rfl rfl Tryz.call72 (zI rfl (zI rfl (zI rfl (zI rfl zX)))) (fun W hW hp hE => zAX VO p0 VN p0 zOH zPP zPB bq1 zEg zaS hE) ?_
  intro u hu
  obtain ⟨zNW, zM4⟩ := u
  have gy120_0 := hu
  have zbM : SlF zNW zEg.length zM4 := gy120_0 --@phi
  show Tr _ _ (uf _ 31 (.tuple #[])) (up (up _ 1 (ow zNW zM4 72 QJ zEg)) 0 (bx bq1 #[sL zNW zEg zM4] 68)) _
  refine Tr.nil (Tr.zb (Tr.zA (Tr.region (Tr.mv rfl rfl (Tr.va rfl (fun _ _ a c => zg (a.ev rfl) (a.ev rfl)) ?_)))))
  exact Tr.asg rfl rfl (Tr.nil (Tr.zZ QI (zEg, (w64 (zSy + 2)), zNW, zM4) ⟨H, zbM⟩ (.cons rfl (.cons rfl (.cons rfl (.cons rfl (.cons rfl (.cons rfl .nil)))))) (.cons rfl (.cons rfl (.cons rfl .nil)))))
 ·refine Tr.exit (Tr.zP (Tr.zP (Tr.zl (Tr.zA (Tr.sr (Tr.mv rfl rfl (Tr.mv rfl rfl ?_)))))))
  obtain ⟨VM, zTg, H⟩ := bnd H
  refine Tr.zAi [3] [emp] (U := (Option Addr × Nat)) (fun u => (sL u.1 VM u.2)) (fun u => SlF u.1 VM.length u.2) (fun u => [ow u.1 u.2 3 zW VM]) rfl (zn rfl zw) (fun _ => rfl) (wn rfl) rfl Tryz.call74 (zI rfl (zI rfl (zI rfl zX))) (fun W hW hp hE => zHl N p1 Ql Qk (KU.ext (hW.zCA hp)) p2 zRS zQ9 (zXB.ext (hW.zCA hp)) (fun z0 z1 => VR z0 z1) 76 [] Tryz.call76 (fun w' he z0 z1 y hy => zFq z0 z1 y hy (HF.start _)) VM zTg hE) ?_
  intro u hu
  obtain ⟨Jy, KX⟩ := u
  have gy122_0 := hu
  have zGk : SlF Jy VM.length KX := gy122_0 --@phi
  show Tr _ _ (uf _ 34 (sL Jy VM KX)) (up _ 3 (ow Jy KX 3 zW VM)) _
  refine Tr.asg rfl rfl (Tr.nil (Tr.zA (Tr.sr (Tr.asg rfl rfl (Tr.nil (Tr.zA (Tr.block (Tr.loop (σ := (List Qw) × Int × (Option Addr) × Nat) (fun m w s => Qc p0 VM m s.1 s.2.1 = some r ∧ SlF s.2.2.1 s.1.length s.2.2.2) (fun s => [(0, iv p0), (3, pV bq0), (7, sL Jy VM KX), (9, iv s.2.1)]) (fun s => [(0, bx bq1 #[sL s.2.2.1 s.1 s.2.2.2] 68), (1, ow s.2.2.1 s.2.2.2 72 QJ s.1), (3, ow Jy KX 3 zW VM)]) N (zOH, 0, zPP, zPB) ⟨H, za2⟩ (.cons rfl (.cons rfl (.cons rfl (.cons rfl .nil)))) (.cons rfl (.cons rfl (.cons rfl .nil))) (fun _ _ h => KG (h.1)) ?_))))))))
  intro w zCs mL2 s hs
  obtain ⟨zGd, zSx, zPO, zPA⟩ := s
  obtain ⟨H, zQW⟩ := hs
  replace H : Qc p0 VM (mL2 + 1) zGd zSx = some r := H
  replace hc0 := zCs.ext.cells hb0 hc0
  replace hb0 := zCs.r _ hb0
  replace leB := leB.trans zCs
  replace zQW : SlF zPO zGd.length zPA := zQW
  rw [Qc.eq_2] at H
  show Tr _ _ (LF [(0, iv p0), (3, pV bq0), (7, sL Jy VM KX), (9, iv zSx)]) (LE [(0, bx bq1 #[sL zPO zGd zPA] 68), (1, ow zPO zPA 72 QJ zGd), (3, ow Jy KX 3 zW VM)]) _
  refine Tr.seq (Tr.sr (Tr.mv rfl rfl (Tr.mv rfl rfl (Tr.va rfl (fun _ _ a c => zf Vu (a.ev rfl)) ?_))))
  refine Tr.va rfl (fun _ _ a c => zh (a.ev rfl) (a.ev rfl)) ?_
  refine Tr.nil (Tr.zA (Tr.cond rfl H (fun H => ?_) (fun H => ?_)))
  ·refine Tr.skip (Tr.zA (Tr.seq (Tr.block (Tr.zCB 12 (by kernel_rfl) (by kernel_rfl) ?_))))
   refine Tq.va rfl (fun _ _ a c => zC zSe (a.ev rfl) (rdR hb0 hc0 c) rfl) ?_
   refine Tq.mv rfl rfl (Tq.mv rfl rfl ?_)
   obtain ⟨ze8, zoV, H⟩ := bnd H
   obtain ⟨zj9, zj8, zj7⟩ := zO zoV
   refine Tq.va rfl (fun _ _ a c => zD Kb (a.ev rfl) zGk (a.ev rfl) zj9 zj8) ?_
   refine Tq.va rfl (fun _ _ a c => zC QA (a.ev rfl) (rdo Jd (k := 3) c rfl zj7) rfl) ?_
   refine Tq.mv rfl rfl (Tq.mv rfl rfl (Tq.mv rfl rfl (Tq.va rfl (fun _ _ a c => zg (a.ev rfl) (a.ev rfl)) ?_)))
   obtain ⟨zEP, zoU, H⟩ := bnd H
   obtain ⟨zj6, zj5, zj4⟩ := zO zoU
   refine Tq.va rfl (fun _ _ a c => zD Kb (a.ev rfl) zGk (a.ev rfl) zj6 zj5) ?_
   refine Tq.va rfl (fun _ _ a c => zC QA (a.ev rfl) (rdo Jd (k := 3) c rfl zj4) rfl) ?_
   refine Tq.mv rfl rfl (Tq.nil ?_)
   obtain ⟨zPa, zmv, H⟩ := bnd H
   refine Tr.zJw [0, 1] [bx bq1 #[sL zPO zGd zPA] 68, ow zPO zPA 72 QJ zGd] (U := (Option Addr × Nat)) (fun u => (.tuple #[])) (fun u => SlF u.1 zPa.length u.2) (fun u => [bx bq1 #[sL u.1 zPa u.2] 68, ow u.1 u.2 72 QJ zPa]) rfl (zn rfl (zn rfl zw)) (fun _ => rfl) (wn rfl) rfl rfl Tryz.call72 (zI rfl (zI rfl (zI rfl (zI rfl zX)))) (fun W hW hp hE => zAX ze8 p0 zEP p0 zGd zPO zPA bq1 zPa zmv hE) ?_
   intro u hu
   obtain ⟨zNQ, zMy⟩ := u
   have gy142_0 := hu
   have zbH : SlF zNQ zPa.length zMy := gy142_0 --@phi
   show Tr _ _ (uf _ 53 (.tuple #[])) (up (up _ 1 (ow zNQ zMy 72 QJ zPa)) 0 (bx bq1 #[sL zNQ zPa zMy] 68)) _
   refine Tr.nil (Tr.zb (Tr.zA (Tr.region (Tr.mv rfl rfl (Tr.va rfl (fun _ _ a c => zg (a.ev rfl) (a.ev rfl)) ?_)))))
   exact Tr.asg rfl rfl (Tr.nil (Tr.zZ zCs (zPa, (w64 (zSx + 2)), zNQ, zMy) ⟨H, zbH⟩ (.cons rfl (.cons rfl (.cons rfl (.cons rfl .nil)))) (.cons rfl (.cons rfl (.cons rfl .nil)))))
  ·refine Tr.exit (Tr.zP (Tr.zP (Tr.zl (Tr.zZl ?_))))
   obtain rfl := oI H
   exact Tr.out (m := []) [] zY (fun W hW => ⟨(zPO, zPA), rfl, zQW, HF.zEF leB (hW.pick (ks := [0, 1]) (by decide) (zn rfl (zn rfl zw))) ⟨zb0 _ _ _, Ww _ _ _ _ zNh, trivial⟩⟩)

theorem zHw (N : Nat) {w : Bs} (p0 : (List JD)) (zF : Option Addr) (zH : Nat) (zK : Sl w.R w.W Qi zF zH p0) (r : (List Qw)) (H : zB3 N p0 = some r) (hE : HF w w.W (LEn [emp])) : Calls Tryz.prog 38 [sL zF p0 zH].toArray w.W fun e W' => ∃ u : (Option Addr × Nat), e = .returned (sL u.1 r u.2) ∧ (SlF u.1 r.length u.2) ∧ HF w W' (LEn [ow u.1 u.2 72 QJ r]) := by
 unfold zB3 at H
 have leB := Bs.Le.refl w
 refine Tr.enter (n := 114) Tryz.func38 rfl rfl rfl hE ?_
 refine Tr.sr (Tr.asg rfl rfl (Tr.Qb 1 72 QJ ?_))
 show Tr _ _ (uf _ 2 (sL none (([] : List Qw)) 0)) _ _
 refine Tr.nil (Tr.zA (Tr.sr (Tr.alloc 2 (wn rfl) rfl zd3 fun QQ => ?_)))
 refine Tr.nil (Tr.zA (Tr.sr (Tr.zIC (vs := [pV QQ]) (wn rfl) rfl (zI rfl zX) ?_)))
 refine Tr.alloc 3 (wn rfl) rfl zez fun WE => ?_
 refine Tr.store 3 (cs := [.func (.func 72) #[] #[pV QQ]]) [.func (.func 72) #[] #[pV QQ]] (wn rfl) rfl rfl rfl rfl zfG rfl rfl rfl ?_
 refine Tr.nil (Tr.zA (Tr.sr (Tr.zIC (vs := [pV WE]) (wn rfl) rfl (zI rfl zX) ?_)))
 refine Tr.asg rfl rfl (Tr.nil (Tr.zA (Tr.seq (Tr.sr (Tr.mv rfl rfl (Tr.va rfl (fun _ _ a c => zf zPx (a.ev rfl)) ?_))))))
 refine Tr.mv rfl rfl (Tr.nil (Tr.zA (Tr.block (Tr.Qb 14 72 QJ ?_))))
 refine Tr.loop (σ := (List JD) × Nat × (List Qw) × (Option Addr) × Nat) (fun m w s => m = s.1.length + 1 ∧ s.1 = List.drop s.2.1 p0 ∧ s.2.1 ≤ p0.length ∧ QR N p0 s.1 s.2.1 s.2.2.1 = some r ∧ SlF s.2.2.2.1 s.2.2.1.length s.2.2.2.2) (fun s => [(0, sL zF p0 zH), (3, pV QQ), (4, pV WE), (5, .func (.func 73) #[] #[pV WE]), (11, sL zF p0 zH), (12, iv (p0.length : Int)), (13, iv (s.2.1 : Int))]) (fun s => [(2, bx QQ #[sL s.2.2.2.1 s.2.2.1 s.2.2.2.2] 68), (3, bx WE #[.func (.func 72) #[] #[pV QQ]] 107), (14, ow s.2.2.2.1 s.2.2.2.2 72 QJ s.2.2.1)]) (p0.length + 1) (p0, 0, ([] : List Qw), none, 0) ⟨rfl, rfl, Nat.zero_le _, H, Jm⟩ (.cons rfl (.cons rfl (.cons rfl (.cons rfl (.cons rfl (.cons rfl (.cons rfl .nil))))))) (.cons rfl (.cons rfl (.cons rfl .nil))) (fun _ _ h => absurd h.1 (by simp)) ?_
 intro w zC8 m s hs
 obtain ⟨zDb, iL5, zEk, zEw, zEv⟩ := s
 obtain ⟨zkW, zMX, hiL5, H, zL5⟩ := hs
 replace zMX : zDb = List.drop iL5 p0 := zMX
 replace H : QR N p0 zDb iL5 zEk = some r := H
 replace zkW : m + 1 = zDb.length + 1 := zkW
 replace zK := zK.leR zC8
 replace leB := leB.trans zC8
 replace zL5 : SlF zEw zEk.length zEv := zL5
 obtain rfl : m = zDb.length := by omega
 clear zkW
 show Tr _ _ (LF [(0, sL zF p0 zH), (3, pV QQ), (4, pV WE), (5, .func (.func 73) #[] #[pV WE]), (11, sL zF p0 zH), (12, iv (p0.length : Int)), (13, iv (iL5 : Int))]) (LE [(2, bx QQ #[sL zEw zEk zEv] 68), (3, bx WE #[.func (.func 72) #[] #[pV QQ]] 107), (14, ow zEw zEv 72 QJ zEk)]) _
 cases zDb with
 | nil =>
  rw [QR.eq_1] at H
  refine Tr.sr (Tr.va rfl (fun _ _ a c => zh (a.ev rfl) (a.ev rfl)) ?_)
  refine Tr.nil (Tr.zA (Tr.seq (Tr.zBN rfl (KF zMX) ?_)))
  refine Tr.exit (Tr.zP (Tr.zP (Tr.zl (Tr.zA (Tr.sr (Tr.va rfl (fun _ _ a c => zC zHk (a.ev rfl) (rdb c (vs := [sL zEw zEk zEv]) (k := 2) rfl 0) rfl) ?_))))))
  refine Tr.asg rfl rfl (Tr.nil (Tr.zA (Tr.ret ?_)))
  obtain rfl := oI H
  exact Tr.out (m := [sL zEw zEk zEv]) [] (zU rfl zY) (fun W hW => ⟨(zEw, zEv), rfl, zL5, HF.zEF leB (hW.pick (ks := [14]) (by decide) (zn rfl zw)) ⟨Ww _ _ _ _ zNh, trivial⟩⟩)
 | cons xL5 zDb =>
  rw [QR.eq_2] at H
  refine Tr.sr (Tr.va rfl (fun _ _ a c => zh (a.ev rfl) (a.ev rfl)) ?_)
  refine Tr.nil (Tr.zA (Tr.seq (Tr.zBM rfl (VD zMX) ?_)))
  refine Tr.skip (Tr.zA (Tr.seq (Tr.block (Tr.sr (Tr.mv rfl rfl ?_)))))
  obtain ⟨zq0, hRu243, zdF, hcu243⟩ := (zK).el (Kv zMX)
  obtain ⟨Vm, Vl⟩ := zq0
  have WX := zdF
  replace WX : Sl w.R w.W zW Vm Vl xL5.Xs := WX
  refine Tr.va rfl (fun _ _ a c => zD zKd (a.ev rfl) zK.form (a.ev rfl) (Int.natCast_nonneg _) (QF zMX)) ?_
  refine Tr.va rfl (fun _ _ a c => ze (cs := [iv xL5.Y0, iv xL5.Y1, sL Vm xL5.Xs Vl]) zX2 zLw (a.ev rfl) (zQ.take (rdR hRu243 hcu243 c) 3) rfl) ?_
  refine Tr.alloc 15 (wn rfl) rfl zZE fun zPq => ?_
  refine Tr.asg rfl rfl (Tr.store 15 (cs := [iv xL5.Y0, iv xL5.Y1, sL Vm xL5.Xs Vl]) [iv xL5.Y0, iv xL5.Y1, sL Vm xL5.Xs Vl] (wn rfl) rfl rfl rfl rfl zLw rfl rfl rfl ?_)
  refine Tr.nil (Tr.zA (Tr.seq (Tr.sr (Tr.asg rfl rfl (Tr.nil (Tr.zA (Tr.block (Tr.loop (σ := (List Qw) × Int × (Option Addr) × Nat) (fun m w s => JR N p0 (QR N p0 zDb (iL5 + 1)) xL5 iL5 m s.1 s.2.1 = some r ∧ SlF s.2.2.1 s.1.length s.2.2.2) (fun s => [(0, sL zF p0 zH), (3, pV QQ), (4, pV WE), (5, .func (.func 73) #[] #[pV WE]), (6, iv (iL5 : Int)), (7, pV zPq), (8, iv s.2.1), (11, sL zF p0 zH), (12, iv (p0.length : Int)), (13, iv (iL5 : Int))]) (fun s => [(2, bx QQ #[sL s.2.2.1 s.1 s.2.2.2] 68), (3, bx WE #[.func (.func 72) #[] #[pV QQ]] 107), (14, ow s.2.2.1 s.2.2.2 72 QJ s.1), (15, bx zPq #[iv xL5.Y0, iv xL5.Y1, sL Vm xL5.Xs Vl] 67)]) N (zEk, 0, zEw, zEv) ⟨H, zL5⟩ (.cons rfl (.cons rfl (.cons rfl (.cons rfl (.cons rfl (.cons rfl (.cons rfl (.cons rfl (.cons rfl (.cons rfl .nil)))))))))) (.cons rfl (.cons rfl (.cons rfl (.cons rfl .nil)))) (fun _ _ h => KG (h.1)) ?_))))))))
  intro w zJD mL6 s hs
  obtain ⟨zJE, zG4, zIc, zIU⟩ := s
  obtain ⟨H, zrf⟩ := hs
  replace H : JR N p0 (QR N p0 zDb (iL5 + 1)) xL5 iL5 (mL6 + 1) zJE zG4 = some r := H
  replace zK := zK.leR zJD
  replace WX := WX.leR zJD
  replace zC8 := zC8.trans zJD
  rw [JR.eq_2] at H
  show Tr _ _ (LF [(0, sL zF p0 zH), (3, pV QQ), (4, pV WE), (5, .func (.func 73) #[] #[pV WE]), (6, iv (iL5 : Int)), (7, pV zPq), (8, iv zG4), (11, sL zF p0 zH), (12, iv (p0.length : Int)), (13, iv (iL5 : Int))]) (LE [(2, bx QQ #[sL zIc zJE zIU] 68), (3, bx WE #[.func (.func 72) #[] #[pV QQ]] 107), (14, ow zIc zIU 72 QJ zJE), (15, bx zPq #[iv xL5.Y0, iv xL5.Y1, sL Vm xL5.Xs Vl] 67)]) _
  refine Tr.seq (Tr.sr (Tr.mv rfl rfl (Tr.va rfl (fun _ _ a c => zB zBe (a.ev rfl)) ?_)))
  refine Tr.va rfl (fun _ _ a c => zC zAA (a.ev rfl) (rdb c (vs := [iv xL5.Y0, iv xL5.Y1, sL Vm xL5.Xs Vl]) (k := 15) rfl 2) rfl) ?_
  refine Tr.va rfl (fun _ _ a c => zf Vu (a.ev rfl)) ?_
  refine Tr.va rfl (fun _ _ a c => zh (a.ev rfl) (a.ev rfl)) ?_
  refine Tr.nil (Tr.zA (Tr.cond rfl H (fun H => ?_) (fun H => ?_)))
  ·refine Tr.skip (Tr.zA (Tr.seq (Tr.block (Tr.seq (Tr.zCB 15 (by kernel_rfl) (by kernel_rfl) ?_)))))
   refine Tq.va rfl (fun _ _ a c => zC zSe (a.ev rfl) (rdb c (vs := [.func (.func 72) #[] #[pV QQ]]) (k := 3) rfl 0) rfl) ?_
   refine Tq.va rfl (fun _ _ a c => zB zBe (a.ev rfl)) ?_
   refine Tq.va rfl (fun _ _ a c => zC zAA (a.ev rfl) (rdb c (vs := [iv xL5.Y0, iv xL5.Y1, sL Vm xL5.Xs Vl]) (k := 15) rfl 2) rfl) ?_
   refine Tq.mv rfl rfl ?_
   obtain ⟨zMQ, zaZ, H⟩ := bnd H
   obtain ⟨zVb, zVa, zVZ⟩ := zO zaZ
   refine Tq.va rfl (fun _ _ a c => zD Kb (a.ev rfl) WX.form (a.ev rfl) zVb zVa) ?_
   refine Tq.va rfl (fun _ _ a c => zC QA (a.ev rfl) (rdF Jd WX zVZ c) rfl) ?_
   refine Tq.va rfl (fun _ _ a c => zB zEN (a.ev rfl)) ?_
   refine Tq.va rfl (fun _ _ a c => zC QA (a.ev rfl) (rdb c (vs := [iv xL5.Y0, iv xL5.Y1, sL Vm xL5.Xs Vl]) (k := 15) rfl 1) rfl) ?_
   refine Tq.va rfl (fun _ _ a c => zB zBe (a.ev rfl)) ?_
   refine Tq.va rfl (fun _ _ a c => zC zAA (a.ev rfl) (rdb c (vs := [iv xL5.Y0, iv xL5.Y1, sL Vm xL5.Xs Vl]) (k := 15) rfl 2) rfl) ?_
   refine Tq.mv rfl rfl ?_
   obtain ⟨ze4, znz, H⟩ := bnd H
   obtain ⟨ziP, ziO, ziN⟩ := zO znz
   refine Tq.va rfl (fun _ _ a c => zD Kb (a.ev rfl) WX.form (a.ev rfl) ziP ziO) ?_
   refine Tq.va rfl (fun _ _ a c => zC QA (a.ev rfl) (rdF Jd WX ziN c) rfl) ?_
   refine Tq.va rfl (fun _ _ a c => zB zE1 (a.ev rfl)) ?_
   refine Tq.va rfl (fun _ _ a c => zC QA (a.ev rfl) (rdb c (vs := [iv xL5.Y0, iv xL5.Y1, sL Vm xL5.Xs Vl]) (k := 15) rfl 0) rfl) ?_
   refine Tq.nil ?_
   obtain ⟨zMN, zmf, H⟩ := bnd H
   refine Tr.zJw [2, 14] [bx QQ #[sL zIc zJE zIU] 68, ow zIc zIU 72 QJ zJE] (U := (Option Addr × Nat)) (fun u => (.tuple #[])) (fun u => SlF u.1 zMN.length u.2) (fun u => [bx QQ #[sL u.1 zMN u.2] 68, ow u.1 u.2 72 QJ zMN]) rfl (zn rfl (zn rfl zw)) (fun _ => rfl) (wn rfl) rfl rfl Tryz.call72 (zI rfl (zI rfl (zI rfl (zI rfl zX)))) (fun W hW hp hE => zAX zMQ xL5.Y1 ze4 xL5.Y0 zJE zIc zIU QQ zMN zmf hE) ?_
   intro u hu
   obtain ⟨zI5, zI2⟩ := u
   have gy271_0 := hu
   have zpJ : SlF zI5 zMN.length zI2 := gy271_0 --@phi
   show Tr _ _ (uf _ 40 (.tuple #[])) (up (up _ 14 (ow zI5 zI2 72 QJ zMN)) 2 (bx QQ #[sL zI5 zMN zI2] 68)) _
   refine Tr.nil (Tr.zA (Tr.zCB 17 (by kernel_rfl) (by kernel_rfl) ?_))
   refine Tq.va rfl (fun _ _ a c => zC zSe (a.ev rfl) (rdb c (vs := [.func (.func 72) #[] #[pV QQ]]) (k := 3) rfl 0) rfl) ?_
   refine Tq.va rfl (fun _ _ a c => zB zBe (a.ev rfl)) ?_
   refine Tq.va rfl (fun _ _ a c => zC zAA (a.ev rfl) (rdb c (vs := [iv xL5.Y0, iv xL5.Y1, sL Vm xL5.Xs Vl]) (k := 15) rfl 2) rfl) ?_
   refine Tq.mv rfl rfl (Tq.va rfl (fun _ _ a c => zg (a.ev rfl) (a.ev rfl)) ?_)
   obtain ⟨zYR, zaY, H⟩ := bnd H
   obtain ⟨zVY, zVX, zVW⟩ := zO zaY
   refine Tq.va rfl (fun _ _ a c => zD Kb (a.ev rfl) WX.form (a.ev rfl) zVY zVX) ?_
   refine Tq.va rfl (fun _ _ a c => zC QA (a.ev rfl) (rdF Jd WX zVW c) rfl) ?_
   refine Tq.va rfl (fun _ _ a c => zB zE1 (a.ev rfl)) ?_
   refine Tq.va rfl (fun _ _ a c => zC QA (a.ev rfl) (rdb c (vs := [iv xL5.Y0, iv xL5.Y1, sL Vm xL5.Xs Vl]) (k := 15) rfl 0) rfl) ?_
   refine Tq.va rfl (fun _ _ a c => zB zBe (a.ev rfl)) ?_
   refine Tq.va rfl (fun _ _ a c => zC zAA (a.ev rfl) (rdb c (vs := [iv xL5.Y0, iv xL5.Y1, sL Vm xL5.Xs Vl]) (k := 15) rfl 2) rfl) ?_
   refine Tq.mv rfl rfl (Tq.va rfl (fun _ _ a c => zg (a.ev rfl) (a.ev rfl)) ?_)
   obtain ⟨ze3, zny, H⟩ := bnd H
   obtain ⟨ziM, ziL, ziK⟩ := zO zny
   refine Tq.va rfl (fun _ _ a c => zD Kb (a.ev rfl) WX.form (a.ev rfl) ziM ziL) ?_
   refine Tq.va rfl (fun _ _ a c => zC QA (a.ev rfl) (rdF Jd WX ziK c) rfl) ?_
   refine Tq.va rfl (fun _ _ a c => zB zEN (a.ev rfl)) ?_
   refine Tq.va rfl (fun _ _ a c => zC QA (a.ev rfl) (rdb c (vs := [iv xL5.Y0, iv xL5.Y1, sL Vm xL5.Xs Vl]) (k := 15) rfl 1) rfl) ?_
   refine Tq.nil ?_
   obtain ⟨zPW, zmd, H⟩ := bnd H
   refine Tr.zJw [2, 14] [bx QQ #[sL zI5 zMN zI2] 68, ow zI5 zI2 72 QJ zMN] (U := (Option Addr × Nat)) (fun u => (.tuple #[])) (fun u => SlF u.1 zPW.length u.2) (fun u => [bx QQ #[sL u.1 zPW u.2] 68, ow u.1 u.2 72 QJ zPW]) rfl (zn rfl (zn rfl zw)) (fun _ => rfl) (wn rfl) rfl rfl Tryz.call72 (zI rfl (zI rfl (zI rfl (zI rfl zX)))) (fun W hW hp hE => zAX zYR xL5.Y0 ze3 xL5.Y1 zMN zI5 zI2 QQ zPW zmd hE) ?_
   intro u hu
   obtain ⟨zNM, zMu⟩ := u
   have gy275_0 := hu
   have zbA : SlF zNM zPW.length zMu := gy275_0 --@phi
   show Tr _ _ (uf _ 58 (.tuple #[])) (up (up _ 14 (ow zNM zMu 72 QJ zPW)) 2 (bx QQ #[sL zNM zPW zMu] 68)) _
   refine Tr.nil (Tr.zb (Tr.zA (Tr.region (Tr.mv rfl rfl (Tr.va rfl (fun _ _ a c => zg (a.ev rfl) (a.ev rfl)) ?_)))))
   exact Tr.asg rfl rfl (Tr.nil (Tr.zZ zJD (zPW, (w64 (zG4 + 2)), zNM, zMu) ⟨H, zbA⟩ (.cons rfl (.cons rfl (.cons rfl (.cons rfl (.cons rfl (.cons rfl (.cons rfl (.cons rfl (.cons rfl (.cons rfl .nil)))))))))) (.cons rfl (.cons rfl (.cons rfl (.cons rfl .nil))))))
  ·refine Tr.exit (Tr.zP (Tr.zP (Tr.zl (Tr.zA ?_))))
   have leJ289 := Bs.Le.refl w
   refine Tr.zSV (σ := (List Qw) × (Option Addr) × Nat) (fun w s => Vb N p0 (QR N p0 zDb (iL5 + 1)) xL5 iL5 s.1 = some r ∧ SlF s.2.1 s.1.length s.2.2) (fun s => [(0, sL zF p0 zH), (3, pV QQ), (4, pV WE), (5, .func (.func 73) #[] #[pV WE]), (6, iv (iL5 : Int)), (7, pV zPq), (11, sL zF p0 zH), (12, iv (p0.length : Int)), (13, iv (iL5 : Int))]) (fun s => [(2, bx QQ #[sL s.2.1 s.1 s.2.2] 68), (3, bx WE #[.func (.func 72) #[] #[pV QQ]] 107), (14, ow s.2.1 s.2.2 72 QJ s.1), (15, bx zPq #[iv xL5.Y0, iv xL5.Y1, sL Vm xL5.Xs Vl] 67)]) ?_ ?_
   ·refine Tr.seq (Tr.draw (by kernel_rfl) (by kernel_rfl) ?_)
    refine Tq.mv rfl rfl (Tq.va rfl (fun _ _ a c => Vv (a.ev rfl) (a.ev rfl)) ?_)
    refine Tq.mv rfl rfl ?_
    obtain ⟨zkl, zQi, H⟩ := bnd H
    refine Tq.mid 10 [(0, sL zF p0 zH), (3, pV QQ), (4, pV WE), (5, .func (.func 73) #[] #[pV WE]), (6, iv (iL5 : Int)), (7, pV zPq), (11, sL zF p0 zH), (12, iv (p0.length : Int)), (13, iv (iL5 : Int)), (71, bV zkl)] ?_ ?_
    ·cases zej : ((iL5 : Int) == 0)
     ·rw [zej] at zQi
      rw [if_neg (by decide)] at zQi
      have H := zQi
      refine Tq.val (wg rfl rfl rfl) rfl (fun _ _ a c => run_move (a.ev rfl)) ?_
      refine Tq.val (wg rfl rfl rfl) rfl (fun _ _ a c => run_move (a.ev rfl)) ?_
      refine Tq.val (wg rfl rfl rfl) rfl (fun _ _ a c => Jn (a.ev rfl) (a.ev rfl)) ?_
      obtain ⟨zlS, znr, H⟩ := bnd H
      obtain ⟨zh1, zh0, zhz⟩ := zO znr
      obtain ⟨zqt, hRu302, zc8, hcu302⟩ := (zK).el zhz
      obtain ⟨zqY, zqR⟩ := zqt
      have zk3 := zc8
      refine Tq.val (wg rfl rfl rfl) rfl (fun _ _ a c => zD zKd (a.ev rfl) zK.form (a.ev rfl) zh1 zh0) ?_
      refine Tq.val (wg rfl rfl rfl) rfl (fun _ _ a c => zB zEN (a.ev rfl)) ?_
      refine Tq.val (wg rfl rfl rfl) rfl (fun _ _ a c => zC QA (a.ev rfl) (zQ.drop (rdR hRu302 hcu302 c) 1) rfl) ?_
      refine Tq.val (wg rfl rfl rfl) rfl (fun _ _ a c => zB zE1 (a.ev rfl)) ?_
      refine Tq.val (wg rfl rfl rfl) rfl (fun _ _ a c => zC QA (a.ev rfl) (rdb c (vs := [iv xL5.Y0, iv xL5.Y1, sL Vm xL5.Xs Vl]) (k := 15) rfl 0) rfl) ?_
      refine Tq.val (wg rfl rfl rfl) rfl (fun _ _ a c => zh (a.ev rfl) (a.ev rfl)) ?_
      refine Tq.va rfl (fun _ _ a c => zy (a.ev rfl) (a.ev rfl)) ?_
      obtain rfl := oI H
      exact Tq.fin (.cons rfl (.cons rfl (.cons rfl (.cons rfl (.cons rfl (.cons rfl (.cons rfl (.cons rfl (.cons rfl (.cons rfl .nil))))))))))
     ·rw [zej] at zQi
      rw [if_pos rfl] at zQi
      have H := zQi
      obtain rfl := oI H
      refine Tq.pass rfl rfl rfl rfl rfl (by decide) ?_
      refine Tq.pass rfl rfl rfl rfl rfl (by decide) ?_
      refine Tq.pass rfl rfl rfl rfl rfl (by decide) ?_
      refine Tq.pass rfl rfl rfl rfl rfl (by decide) ?_
      refine Tq.pass rfl rfl rfl rfl rfl (by decide) ?_
      refine Tq.pass rfl rfl rfl rfl rfl (by decide) ?_
      refine Tq.pass rfl rfl rfl rfl rfl (by decide) ?_
      refine Tq.pass rfl rfl rfl rfl rfl (by decide) ?_
      refine Tq.pass rfl rfl rfl rfl rfl (by decide) ?_
      refine Tq.va rfl (fun _ _ a c => zx (a.ev rfl) (a.ev rfl)) ?_
      exact Tq.fin (.cons rfl (.cons rfl (.cons rfl (.cons rfl (.cons rfl (.cons rfl (.cons rfl (.cons rfl (.cons rfl (.cons rfl .nil))))))))))
    ·refine Tq.nil (Tr.zA (Tr.cond rfl H (fun H => ?_) (fun H => ?_)))
     ·refine Tr.region (Tr.mv rfl rfl (Tr.va rfl (fun _ _ a c => zB zE1 (a.ev rfl)) ?_))
      refine Tr.va rfl (fun _ _ a c => zC QA (a.ev rfl) (rdb c (vs := [iv xL5.Y0, iv xL5.Y1, sL Vm xL5.Xs Vl]) (k := 15) rfl 0) rfl) ?_
      refine Tr.va rfl (fun _ _ a c => zB zBe (a.ev rfl)) ?_
      refine Tr.va rfl (fun _ _ a c => zC zAA (a.ev rfl) (rdb c (vs := [iv xL5.Y0, iv xL5.Y1, sL Vm xL5.Xs Vl]) (k := 15) rfl 2) rfl) ?_
      obtain ⟨zPU, zmb, H⟩ := bnd H
      refine Tr.zJw [2, 14] [bx QQ #[sL zIc zJE zIU] 68, ow zIc zIU 72 QJ zJE] (U := (Option Addr × Nat)) (fun u => (.tuple #[])) (fun u => SlF u.1 zPU.length u.2) (fun u => [bx QQ #[sL u.1 zPU u.2] 68, ow u.1 u.2 72 QJ zPU]) rfl (zn rfl (zn rfl zw)) (fun _ => rfl) (wn rfl) rfl rfl Tryz.call73 (zI rfl (zI rfl (zI rfl zX))) (fun W hW hp hE => Ws N xL5.Y0 [] none 0 (Sl.nil _ _ _) xL5.Xs Vm Vl (WX.ext (hW.zCA hp)) WE zJE zIc zIU QQ (hW.zWL (k := 3) rfl hp rfl) (hW.zb1 (k := 3) rfl) zPU zmb hE) ?_
      intro u hu
      obtain ⟨zNK, zMs⟩ := u
      have gy303_0 := hu
      have za8 : SlF zNK zPU.length zMs := gy303_0 --@phi
      show Tr _ _ (uf _ 77 (.tuple #[])) (up (up _ 14 (ow zNK zMs 72 QJ zPU)) 2 (bx QQ #[sL zNK zPU zMs] 68)) _
      exact Tr.nil (Tr.zZ leJ289 (zPU, zNK, zMs) ⟨H, za8⟩ (.cons rfl (.cons rfl (.cons rfl (.cons rfl (.cons rfl (.cons rfl (.cons rfl (.cons rfl (.cons rfl .nil))))))))) (.cons rfl (.cons rfl (.cons rfl (.cons rfl .nil)))))
     ·refine Tr.zCB 11 (by kernel_rfl) (by kernel_rfl) ?_
      refine Tq.mv rfl rfl (Tq.va rfl (fun _ _ a c => zB zE1 (a.ev rfl)) ?_)
      refine Tq.va rfl (fun _ _ a c => zC QA (a.ev rfl) (rdb c (vs := [iv xL5.Y0, iv xL5.Y1, sL Vm xL5.Xs Vl]) (k := 15) rfl 0) rfl) ?_
      refine Tq.mv rfl rfl (Tq.mv rfl rfl (Tq.va rfl (fun _ _ a c => Jn (a.ev rfl) (a.ev rfl)) ?_))
      obtain ⟨zcQ, znq, H⟩ := bnd H
      obtain ⟨zhy, zhx, zhw⟩ := zO znq
      obtain ⟨zqs, hRu306, zc7, hcu306⟩ := (zK).el zhw
      obtain ⟨zX9, zXm⟩ := zqs
      have zLd := zc7
      replace zLd : Sl w.R w.W zW zX9 zXm zcQ.Xs := zLd
      refine Tq.va rfl (fun _ _ a c => zD zKd (a.ev rfl) zK.form (a.ev rfl) zhy zhx) ?_
      refine Tq.va rfl (fun _ _ a c => zB zBe (a.ev rfl)) ?_
      refine Tq.va rfl (fun _ _ a c => zC zAA (a.ev rfl) (zQ.drop (rdR hRu306 hcu306 c) 2) rfl) ?_
      refine Tq.va rfl (fun _ _ a c => zB zBe (a.ev rfl)) ?_
      refine Tq.va rfl (fun _ _ a c => zC zAA (a.ev rfl) (rdb c (vs := [iv xL5.Y0, iv xL5.Y1, sL Vm xL5.Xs Vl]) (k := 15) rfl 2) rfl) ?_
      refine Tq.nil ?_
      obtain ⟨zPT, zma, H⟩ := bnd H
      refine Tr.zJw [2, 14] [bx QQ #[sL zIc zJE zIU] 68, ow zIc zIU 72 QJ zJE] (U := (Option Addr × Nat)) (fun u => (.tuple #[])) (fun u => SlF u.1 zPT.length u.2) (fun u => [bx QQ #[sL u.1 zPT u.2] 68, ow u.1 u.2 72 QJ zPT]) rfl (zn rfl (zn rfl zw)) (fun _ => rfl) (wn rfl) rfl rfl Tryz.call73 (zI rfl (zI rfl (zI rfl zX))) (fun W hW hp hE => Ws N xL5.Y0 zcQ.Xs zX9 zXm (zLd.ext (hW.zCA hp)) xL5.Xs Vm Vl (WX.ext (hW.zCA hp)) WE zJE zIc zIU QQ (hW.zWL (k := 3) rfl hp rfl) (hW.zb1 (k := 3) rfl) zPT zma hE) ?_
      intro u hu
      obtain ⟨zNJ, zMr⟩ := u
      have gy307_0 := hu
      have za7 : SlF zNJ zPT.length zMr := gy307_0 --@phi
      show Tr _ _ (uf _ 89 (.tuple #[])) (up (up _ 14 (ow zNJ zMr 72 QJ zPT)) 2 (bx QQ #[sL zNJ zPT zMr] 68)) _
      exact Tr.nil (Tr.zZ leJ289 (zPT, zNJ, zMr) ⟨H, za7⟩ (.cons rfl (.cons rfl (.cons rfl (.cons rfl (.cons rfl (.cons rfl (.cons rfl (.cons rfl (.cons rfl .nil))))))))) (.cons rfl (.cons rfl (.cons rfl (.cons rfl .nil)))))
   ·intro w s hlJ290 hs
    obtain ⟨zOF, zPM, zO8⟩ := s
    obtain ⟨H, zav⟩ := hs
    replace H : Vb N p0 (QR N p0 zDb (iL5 + 1)) xL5 iL5 zOF = some r := H
    replace zK := zK.leR hlJ290
    replace WX := WX.leR hlJ290
    replace zC8 := zC8.trans hlJ290
    replace zav : SlF zPM zOF.length zO8 := zav
    unfold Vb at H
    show Tr _ _ (LF [(0, sL zF p0 zH), (3, pV QQ), (4, pV WE), (5, .func (.func 73) #[] #[pV WE]), (6, iv (iL5 : Int)), (7, pV zPq), (11, sL zF p0 zH), (12, iv (p0.length : Int)), (13, iv (iL5 : Int))]) (LE [(2, bx QQ #[sL zPM zOF zO8] 68), (3, bx WE #[.func (.func 72) #[] #[pV QQ]] 107), (14, ow zPM zO8 72 QJ zOF), (15, bx zPq #[iv xL5.Y0, iv xL5.Y1, sL Vm xL5.Xs Vl] 67)]) _
    refine Tr.seq (Tr.draw (by kernel_rfl) (by kernel_rfl) ?_)
    refine Tq.mv rfl rfl (Tq.va rfl (fun _ _ a c => zg (a.ev rfl) (a.ev rfl)) ?_)
    refine Tq.mv rfl rfl (Tq.va rfl (fun _ _ a c => zf zPx (a.ev rfl)) ?_)
    refine Tq.va rfl (fun _ _ a c => Vv (a.ev rfl) (a.ev rfl)) ?_
    refine Tq.mv rfl rfl ?_
    obtain ⟨zkm, zQj, H⟩ := bnd H
    refine Tq.mid 10 [(0, sL zF p0 zH), (3, pV QQ), (4, pV WE), (5, .func (.func 73) #[] #[pV WE]), (7, pV zPq), (11, sL zF p0 zH), (12, iv (p0.length : Int)), (13, iv (iL5 : Int)), (105, bV zkm)] ?_ ?_
    ·cases zek : ((w64 ((iL5 : Int) + 1)) == (p0.length : Int))
     ·rw [zek] at zQj
      rw [if_neg (by decide)] at zQj
      have H := zQj
      refine Tq.val (wg rfl rfl rfl) rfl (fun _ _ a c => run_move (a.ev rfl)) ?_
      refine Tq.val (wg rfl rfl rfl) rfl (fun _ _ a c => run_move (a.ev rfl)) ?_
      refine Tq.val (wg rfl rfl rfl) rfl (fun _ _ a c => zg (a.ev rfl) (a.ev rfl)) ?_
      obtain ⟨zlT, zns, H⟩ := bnd H
      obtain ⟨zh4, zh3, zh2⟩ := zO zns
      obtain ⟨zqu, hRu295, zc9, hcu295⟩ := (zK).el zh2
      obtain ⟨zqZ, zqS⟩ := zqu
      have zk4 := zc9
      refine Tq.val (wg rfl rfl rfl) rfl (fun _ _ a c => zD zKd (a.ev rfl) zK.form (a.ev rfl) zh4 zh3) ?_
      refine Tq.val (wg rfl rfl rfl) rfl (fun _ _ a c => zB zE1 (a.ev rfl)) ?_
      refine Tq.val (wg rfl rfl rfl) rfl (fun _ _ a c => zC QA (a.ev rfl) (zQ.drop (rdR hRu295 hcu295 c) 0) rfl) ?_
      refine Tq.val (wg rfl rfl rfl) rfl (fun _ _ a c => zB zEN (a.ev rfl)) ?_
      refine Tq.val (wg rfl rfl rfl) rfl (fun _ _ a c => zC QA (a.ev rfl) (rdb c (vs := [iv xL5.Y0, iv xL5.Y1, sL Vm xL5.Xs Vl]) (k := 15) rfl 1) rfl) ?_
      refine Tq.val (wg rfl rfl rfl) rfl (fun _ _ a c => Wx (a.ev rfl) (a.ev rfl)) ?_
      refine Tq.va rfl (fun _ _ a c => zy (a.ev rfl) (a.ev rfl)) ?_
      obtain rfl := oI H
      exact Tq.fin (.cons rfl (.cons rfl (.cons rfl (.cons rfl (.cons rfl (.cons rfl (.cons rfl (.cons rfl (.cons rfl .nil)))))))))
     ·rw [zek] at zQj
      rw [if_pos rfl] at zQj
      have H := zQj
      obtain rfl := oI H
      refine Tq.pass rfl rfl rfl rfl rfl (by decide) ?_
      refine Tq.pass rfl rfl rfl rfl rfl (by decide) ?_
      refine Tq.pass rfl rfl rfl rfl rfl (by decide) ?_
      refine Tq.pass rfl rfl rfl rfl rfl (by decide) ?_
      refine Tq.pass rfl rfl rfl rfl rfl (by decide) ?_
      refine Tq.pass rfl rfl rfl rfl rfl (by decide) ?_
      refine Tq.pass rfl rfl rfl rfl rfl (by decide) ?_
      refine Tq.pass rfl rfl rfl rfl rfl (by decide) ?_
      refine Tq.pass rfl rfl rfl rfl rfl (by decide) ?_
      refine Tq.va rfl (fun _ _ a c => zx (a.ev rfl) (a.ev rfl)) ?_
      exact Tq.fin (.cons rfl (.cons rfl (.cons rfl (.cons rfl (.cons rfl (.cons rfl (.cons rfl (.cons rfl (.cons rfl .nil)))))))))
    ·refine Tq.nil (Tr.zA (Tr.cond rfl H (fun H => ?_) (fun H => ?_)))
     ·refine Tr.region (Tr.mv rfl rfl (Tr.va rfl (fun _ _ a c => zB zEN (a.ev rfl)) ?_))
      refine Tr.va rfl (fun _ _ a c => zC QA (a.ev rfl) (rdb c (vs := [iv xL5.Y0, iv xL5.Y1, sL Vm xL5.Xs Vl]) (k := 15) rfl 1) rfl) ?_
      refine Tr.va rfl (fun _ _ a c => zB zBe (a.ev rfl)) ?_
      refine Tr.va rfl (fun _ _ a c => zC zAA (a.ev rfl) (rdb c (vs := [iv xL5.Y0, iv xL5.Y1, sL Vm xL5.Xs Vl]) (k := 15) rfl 2) rfl) ?_
      obtain ⟨zPV, zmc, H⟩ := bnd H
      refine Tr.zJw [2, 14] [bx QQ #[sL zPM zOF zO8] 68, ow zPM zO8 72 QJ zOF] (U := (Option Addr × Nat)) (fun u => (.tuple #[])) (fun u => SlF u.1 zPV.length u.2) (fun u => [bx QQ #[sL u.1 zPV u.2] 68, ow u.1 u.2 72 QJ zPV]) rfl (zn rfl (zn rfl zw)) (fun _ => rfl) (wn rfl) rfl rfl Tryz.call73 (zI rfl (zI rfl (zI rfl zX))) (fun W hW hp hE => Ws N xL5.Y1 xL5.Xs Vm Vl (WX.ext (hW.zCA hp)) [] none 0 (Sl.nil _ _ _) WE zOF zPM zO8 QQ (hW.zWL (k := 3) rfl hp rfl) (hW.zb1 (k := 3) rfl) zPV zmc hE) ?_
      intro u hu
      obtain ⟨zNL, zMt⟩ := u
      have gy296_0 := hu
      have za9 : SlF zNL zPV.length zMt := gy296_0 --@phi
      show Tr _ _ (uf _ 111 (.tuple #[])) (up (up _ 14 (ow zNL zMt 72 QJ zPV)) 2 (bx QQ #[sL zNL zPV zMt] 68)) _
      refine Tr.nil (Tr.zb (Tr.zA (Tr.region (Tr.va rfl (fun _ _ a c => zg (a.ev rfl) (a.ev rfl)) ?_))))
      exact Tr.mv rfl rfl (Tr.nil (Tr.zZ zC8 (zDb, (iL5 + 1), zPV, zNL, zMt) ⟨rfl, Jh zMX, QF zMX, H, za9⟩ (.cons rfl (.cons rfl (.cons rfl (.cons rfl (.cons rfl (.cons rfl (.cons (congrArg (fun z => some (Value.int .i64 z)) (Jg zMX zK.form)) .nil))))))) (.cons rfl (.cons rfl (.cons rfl .nil)))))
     ·refine Tr.skip (Tr.zb (Tr.zA (Tr.region (Tr.va rfl (fun _ _ a c => zg (a.ev rfl) (a.ev rfl)) ?_))))
      exact Tr.mv rfl rfl (Tr.nil (Tr.zZ zC8 (zDb, (iL5 + 1), zOF, zPM, zO8) ⟨rfl, Jh zMX, QF zMX, H, zav⟩ (.cons rfl (.cons rfl (.cons rfl (.cons rfl (.cons rfl (.cons rfl (.cons (congrArg (fun z => some (Value.int .i64 z)) (Jg zMX zK.form)) .nil))))))) (.cons rfl (.cons rfl (.cons rfl .nil)))))

theorem zCF {w : Bs} (p0 : Int) (r : Int) (H : WC p0 = some r) (hE : HF w w.W E0) : Calls Tryz.prog 77 [iv p0].toArray w.W fun e W' => e = .returned (iv r) ∧ HF w W' E0 := by
 unfold WC at H
 have leB := Bs.Le.refl w
 refine Tr.enter (n := 6) Tryz.func77 rfl rfl rfl hE ?_
 refine Tr.sr (Tr.asg rfl rfl (Tr.nil (Tr.zA (Tr.sr (Tr.mv rfl rfl (Tr.va rfl (fun _ _ a c => zKA (a.ev rfl) (a.ev rfl) _) ?_))))))
 refine Tr.va rfl (fun _ _ a c => zMg (a.ev rfl) (a.ev rfl) _) ?_
 refine Tr.asg rfl rfl (Tr.nil (Tr.zA (Tr.ret ?_)))
 obtain rfl := oI H
 exact Tr.out (m := [iv (min 1 (max (-1) p0))]) [] (zU rfl zY) (fun W hW => ⟨rfl, hW.low leB⟩)

end Go.Proofs.YtacapjleiadkkaaGreat
