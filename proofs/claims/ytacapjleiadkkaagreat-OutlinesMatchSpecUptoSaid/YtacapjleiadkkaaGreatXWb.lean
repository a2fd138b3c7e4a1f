/- The walks: each function computes its plain function. -/
import Derived.Test.YtacapjleiadkkaaGreatXWa
namespace Go.Proofs.YtacapjleiadkkaaGreat
open Go.RowKit
set_option maxRecDepth 100000
set_option maxHeartbeats 1000000
theorem Wq {w : Bs} (p0 : Qw) (r : zG) (H : JP p0 = some r) (hE : HF w w.W E0) : Calls Tryz.prog 40 [.agg #[iv p0.from_.X, iv p0.from_.Y, iv p0.to_.X, iv p0.to_.Y]].toArray w.W fun e W' => e = .returned (.agg #[iv r.X, iv r.Y]) ∧ HF w W' E0 := by
 unfold JP at H
 have leB := Bs.Le.refl w
 refine Tr.enter (n := 23) Tryz.func40 rfl rfl rfl hE ?_
 refine Tr.sr (Tr.box 1 (cs := [iv p0.from_.X, iv p0.from_.Y, iv p0.to_.X, iv p0.to_.Y]) (wn rfl) rfl rfl rfl fun QQ => ?_)
 refine Tr.alloc 2 (wn rfl) rfl zDS fun WE => ?_
 refine Tr.nil (Tr.zA (Tr.sr (Tr.asg rfl rfl (Tr.nil (Tr.zA (Tr.seq (Tr.zCB 17 (by kernel_rfl) (by kernel_rfl) ?_)))))))
 refine Tq.mv rfl rfl (Tq.va rfl (fun _ _ a c => zB zKZ (a.ev rfl)) ?_)
 refine Tq.va rfl (fun _ _ a c => zB Wo (a.ev rfl)) ?_
 refine Tq.va rfl (fun _ _ a c => zC QA (a.ev rfl) (rdb c (vs := [iv p0.from_.X, iv p0.from_.Y, iv p0.to_.X, iv p0.to_.Y]) (k := 1) rfl 2) rfl) ?_
 refine Tq.va rfl (fun _ _ a c => zB zKa (a.ev rfl)) ?_
 refine Tq.va rfl (fun _ _ a c => zB Wo (a.ev rfl)) ?_
 refine Tq.va rfl (fun _ _ a c => zC QA (a.ev rfl) (rdb c (vs := [iv p0.from_.X, iv p0.from_.Y, iv p0.to_.X, iv p0.to_.Y]) (k := 1) rfl 0) rfl) ?_
 refine Tq.va rfl (fun _ _ a c => Jn (a.ev rfl) (a.ev rfl)) ?_
 obtain ⟨y102, hy102, H⟩ := bnd H
 refine Tq.zHj (r := (iv y102)) (wn rfl) rfl rfl Tryz.call77 (zI rfl zX) (fun W hW => zCF (w64 (p0.to_.X - p0.from_.X)) y102 hy102 (HF.start _)) ?_
 refine Tq.mv rfl rfl (Tq.va rfl (fun _ _ a c => zB zKZ (a.ev rfl)) ?_)
 refine Tq.va rfl (fun _ _ a c => zB VP (a.ev rfl)) ?_
 refine Tq.va rfl (fun _ _ a c => zC QA (a.ev rfl) (rdb c (vs := [iv p0.from_.X, iv p0.from_.Y, iv p0.to_.X, iv p0.to_.Y]) (k := 1) rfl 3) rfl) ?_
 refine Tq.va rfl (fun _ _ a c => zB zKa (a.ev rfl)) ?_
 refine Tq.va rfl (fun _ _ a c => zB VP (a.ev rfl)) ?_
 refine Tq.va rfl (fun _ _ a c => zC QA (a.ev rfl) (rdb c (vs := [iv p0.from_.X, iv p0.from_.Y, iv p0.to_.X, iv p0.to_.Y]) (k := 1) rfl 1) rfl) ?_
 refine Tq.va rfl (fun _ _ a c => Jn (a.ev rfl) (a.ev rfl)) ?_
 refine Tq.nil ?_
 obtain ⟨Wv, zKT, H⟩ := bnd H
 refine Tr.zHj (r := (iv Wv)) (wn rfl) rfl rfl Tryz.call77 (zI rfl zX) (fun W hW => zCF (w64 (p0.to_.Y - p0.from_.Y)) Wv zKT (HF.start _)) ?_
 refine Tr.build (vs := [(0, iv y102), (1, iv Wv)]) (cs := [iv y102, iv Wv]) (wn rfl) rfl (zi rfl (zi rfl Qh)) (by kernel_rfl) ?_
 refine Tr.store 2 (cs := [iv y102, iv Wv]) [iv y102, iv Wv] (wn rfl) rfl rfl rfl rfl KI rfl rfl rfl ?_
 refine Tr.nil (Tr.zA (Tr.ret ?_))
 obtain rfl := oI H
 exact Tr.out (m := [.agg #[iv y102, iv Wv]]) [2] (zKD rfl rfl WP KI zY) (fun W hW => ⟨rfl, hW.low leB⟩)

theorem zFt {w : Bs} (p0 : Qw) (r : zG) (H : Vz p0 = some r) (hE : HF w w.W E0) : Calls Tryz.prog 39 [.agg #[iv p0.from_.X, iv p0.from_.Y, iv p0.to_.X, iv p0.to_.Y]].toArray w.W fun e W' => e = .returned (.agg #[iv r.X, iv r.Y]) ∧ HF w W' E0 := by
 unfold Vz at H
 have leB := Bs.Le.refl w
 refine Tr.enter (n := 12) Tryz.func39 rfl rfl rfl hE ?_
 refine Tr.sr (Tr.box 1 (cs := [iv p0.from_.X, iv p0.from_.Y, iv p0.to_.X, iv p0.to_.Y]) (wn rfl) rfl rfl rfl fun QQ => ?_)
 refine Tr.alloc 2 (wn rfl) rfl zDS fun WE => ?_
 refine Tr.nil (Tr.zA (Tr.sr (Tr.va rfl (fun _ _ a c => ze (cs := [iv p0.from_.X, iv p0.from_.Y, iv p0.to_.X, iv p0.to_.Y]) zGv zER (a.ev rfl) (zQ.take (rdb c (vs := [iv p0.from_.X, iv p0.from_.Y, iv p0.to_.X, iv p0.to_.Y]) (k := 1) rfl 0) 4) rfl) ?_)))
 obtain ⟨y102, hy102, H⟩ := bnd H
 refine Tr.KV (r := (.agg #[iv y102.X, iv y102.Y])) (wn rfl) rfl Tryz.call40 (zI rfl zX) (fun W hW => Wq p0 y102 hy102 (HF.start _)) ?_
 refine Tr.alloc 3 (wn rfl) rfl zDS fun zGQ => ?_
 refine Tr.store 3 (cs := [iv y102.X, iv y102.Y]) [iv y102.X, iv y102.Y] (wn rfl) rfl rfl rfl rfl KI rfl rfl rfl ?_
 refine Tr.nil (Tr.zA (Tr.sr (Tr.va rfl (fun _ _ a c => zB VP (a.ev rfl)) ?_)))
 refine Tr.va rfl (fun _ _ a c => zC QA (a.ev rfl) (rdb c (vs := [iv y102.X, iv y102.Y]) (k := 3) rfl 1) rfl) ?_
 refine Tr.va rfl (fun _ _ a c => zch (a.ev rfl)) ?_
 refine Tr.va rfl (fun _ _ a c => zB Wo (a.ev rfl)) ?_
 refine Tr.va rfl (fun _ _ a c => zC QA (a.ev rfl) (rdb c (vs := [iv y102.X, iv y102.Y]) (k := 3) rfl 0) rfl) ?_
 refine Tr.build (vs := [(0, iv (w64 (0 - y102.Y))), (1, iv y102.X)]) (cs := [iv (w64 (0 - y102.Y)), iv y102.X]) (wn rfl) rfl (zi rfl (zi rfl Qh)) (by kernel_rfl) ?_
 refine Tr.store 2 (cs := [iv (w64 (0 - y102.Y)), iv y102.X]) [iv (w64 (0 - y102.Y)), iv y102.X] (wn rfl) rfl rfl rfl rfl KI rfl rfl rfl ?_
 refine Tr.nil (Tr.zA (Tr.ret ?_))
 obtain rfl := oI H
 exact Tr.out (m := [.agg #[iv (w64 (0 - y102.Y)), iv y102.X]]) [2] (zKD rfl rfl WP KI zY) (fun W hW => ⟨rfl, hW.low leB⟩)

theorem zEp {w : Bs} (p0 : zG) (p1 : zG) (r : Bool) (H : zB2 p0 p1 = some r) (hE : HF w w.W E0) : Calls Tryz.prog 46 [.agg #[iv p0.X, iv p0.Y], .agg #[iv p1.X, iv p1.Y]].toArray w.W fun e W' => e = .returned (bV r) ∧ HF w W' E0 := by
 unfold zB2 at H
 have leB := Bs.Le.refl w
 refine Tr.enter (n := 24) Tryz.func46 rfl rfl rfl hE ?_
 refine Tr.sr (Tr.box 1 (cs := [iv p0.X, iv p0.Y]) (wn rfl) rfl rfl rfl fun QQ => ?_)
 refine Tr.box 2 (cs := [iv p1.X, iv p1.Y]) (wn rfl) rfl rfl rfl fun WE => ?_
 refine Tr.asg rfl rfl (Tr.nil (Tr.zA (Tr.sr (Tr.va rfl (fun _ _ a c => zB VP (a.ev rfl)) ?_))))
 refine Tr.va rfl (fun _ _ a c => zC QA (a.ev rfl) (rdb c (vs := [iv p0.X, iv p0.Y]) (k := 1) rfl 1) rfl) ?_
 refine Tr.va rfl (fun _ _ a c => zB VP (a.ev rfl)) ?_
 refine Tr.va rfl (fun _ _ a c => zC QA (a.ev rfl) (rdb c (vs := [iv p1.X, iv p1.Y]) (k := 2) rfl 1) rfl) ?_
 refine Tr.va rfl (fun _ _ a c => zh (a.ev rfl) (a.ev rfl)) ?_
 refine Tr.mv rfl rfl (Tr.zBy 13 [(23, bV ((decide (p0.Y < p1.Y)) || ((p0.Y == p1.Y) && (decide (p0.X < p1.X)))))] [(1, bx QQ #[iv p0.X, iv p0.Y] 33), (2, bx WE #[iv p1.X, iv p1.Y] 33)] ?_ ?_)
 ·cases zQz : (decide (p0.Y < p1.Y))
  ·refine Tr.val (wg rfl rfl rfl) rfl (fun _ _ a c => zB VP (a.ev rfl)) ?_
   refine Tr.val (wg rfl rfl rfl) rfl (fun _ _ a c => zC QA (a.ev rfl) (rdb c (vs := [iv p0.X, iv p0.Y]) (k := 1) rfl 1) rfl) ?_
   refine Tr.val (wg rfl rfl rfl) rfl (fun _ _ a c => zB VP (a.ev rfl)) ?_
   refine Tr.val (wg rfl rfl rfl) rfl (fun _ _ a c => zC QA (a.ev rfl) (rdb c (vs := [iv p1.X, iv p1.Y]) (k := 2) rfl 1) rfl) ?_
   refine Tr.val (wg rfl rfl rfl) rfl (fun _ _ a c => Vv (a.ev rfl) (a.ev rfl)) ?_
   refine Tr.val (wg rfl rfl rfl) rfl (fun _ _ a c => run_move (a.ev rfl)) ?_
   refine Tr.zBy 6 [(10, bV false), (22, bV ((p0.Y == p1.Y) && (decide (p0.X < p1.X))))] [(1, bx QQ #[iv p0.X, iv p0.Y] 33), (2, bx WE #[iv p1.X, iv p1.Y] 33)] ?_ ?_
   ·cases zQz : (p0.Y == p1.Y)
    ·refine Tr.pass rfl rfl rfl rfl rfl (by decide) ?_
     refine Tr.pass rfl rfl rfl rfl rfl (by decide) ?_
     refine Tr.pass rfl rfl rfl rfl rfl (by decide) ?_
     refine Tr.pass rfl rfl rfl rfl rfl (by decide) ?_
     refine Tr.pass rfl rfl rfl rfl rfl (by decide) ?_
     refine Tr.val (wg rfl rfl rfl) rfl (fun _ _ a c => zy (a.ev rfl) (a.ev rfl)) ?_
     exact Tr.nil (Tr.VW (.cons rfl (.cons rfl .nil)) (.cons rfl (.cons rfl .nil)))
    ·refine Tr.val (wg rfl rfl rfl) rfl (fun _ _ a c => zB Wo (a.ev rfl)) ?_
     refine Tr.val (wg rfl rfl rfl) rfl (fun _ _ a c => zC QA (a.ev rfl) (rdb c (vs := [iv p0.X, iv p0.Y]) (k := 1) rfl 0) rfl) ?_
     refine Tr.val (wg rfl rfl rfl) rfl (fun _ _ a c => zB Wo (a.ev rfl)) ?_
     refine Tr.val (wg rfl rfl rfl) rfl (fun _ _ a c => zC QA (a.ev rfl) (rdb c (vs := [iv p1.X, iv p1.Y]) (k := 2) rfl 0) rfl) ?_
     refine Tr.val (wg rfl rfl rfl) rfl (fun _ _ a c => zh (a.ev rfl) (a.ev rfl)) ?_
     refine Tr.val (wg rfl rfl rfl) rfl (fun _ _ a c => zx (a.ev rfl) (a.ev rfl)) ?_
     exact Tr.nil (Tr.VW (.cons rfl (.cons rfl .nil)) (.cons rfl (.cons rfl .nil)))
   ·show Tr _ _ (LF [(10, bV false), (22, bV ((p0.Y == p1.Y) && (decide (p0.X < p1.X))))]) (LE [(1, bx QQ #[iv p0.X, iv p0.Y] 33), (2, bx WE #[iv p1.X, iv p1.Y] 33)]) _
    refine Tr.va rfl (fun _ _ a c => zy (a.ev rfl) (a.ev rfl)) ?_
    exact Tr.nil (Tr.VW (.cons rfl .nil) (.cons rfl (.cons rfl .nil)))
  ·refine Tr.pass rfl rfl rfl rfl rfl (by decide) ?_
   refine Tr.pass rfl rfl rfl rfl rfl (by decide) ?_
   refine Tr.pass rfl rfl rfl rfl rfl (by decide) ?_
   refine Tr.pass rfl rfl rfl rfl rfl (by decide) ?_
   refine Tr.pass rfl rfl rfl rfl rfl (by decide) ?_
   refine Tr.pass rfl rfl rfl rfl rfl (by decide) ?_
   refine Tr.KJ rfl rfl rfl rfl (by decide) ?_
   refine Tr.KJ rfl rfl rfl rfl (by decide) ?_
   refine Tr.KJ rfl rfl rfl rfl (by decide) ?_
   refine Tr.KJ rfl rfl rfl rfl (by decide) ?_
   refine Tr.KJ rfl rfl rfl rfl (by decide) ?_
   refine Tr.pass rfl rfl rfl rfl rfl (by decide) ?_
   refine Tr.va rfl (fun _ _ a c => zx (a.ev rfl) (a.ev rfl)) ?_
   exact Tr.nil (Tr.VW (.cons rfl .nil) (.cons rfl (.cons rfl .nil)))
 ·show Tr _ _ (LF [(23, bV ((decide (p0.Y < p1.Y)) || ((p0.Y == p1.Y) && (decide (p0.X < p1.X)))))]) (LE [(1, bx QQ #[iv p0.X, iv p0.Y] 33), (2, bx WE #[iv p1.X, iv p1.Y] 33)]) _
  refine Tr.asg rfl rfl (Tr.nil (Tr.zA (Tr.ret ?_)))
  obtain rfl := oI H
  exact Tr.out (m := [bV ((decide (p0.Y < p1.Y)) || ((p0.Y == p1.Y) && (decide (p0.X < p1.X))))]) [] (zU rfl zY) (fun W hW => ⟨rfl, hW.low leB⟩)

theorem zGx {w : Bs} (p1 : Int) (r : (List zG)) (H : grN p1 = some r) (hE : HF w w.W (LEn [emp])) : Calls Tryz.prog 108 [.slice none 0 0, iv p1].toArray w.W fun e W' => ∃ u : (Option Addr × Nat), e = .returned (sL u.1 r u.2) ∧ (SlF u.1 r.length u.2) ∧ HF w W' (LEn [ow u.1 u.2 33 zz r]) :=
 zWB (ρ := Tryz.zL6) Tryz.zdR rfl KI zPv (by decide) zRL rfl H hE

theorem zGR {w : Bs} (p0 : (List (List zG))) (zF : Option Addr) (zH : Nat) (zK : Sl w.R w.W zS zF zH p0) (r : (List zG)) (H : WK p0 = some r) (hE : HF w w.W (LEn [emp])) : Calls Tryz.prog 78 [sL zF p0 zH].toArray w.W fun e W' => ∃ u : (Option Addr × Nat), e = .returned (sL u.1 r u.2) ∧ (SlF u.1 r.length u.2) ∧ HF w W' (LEn [ow u.1 u.2 33 zz r]) := by
 unfold WK at H
 have leB := Bs.Le.refl w
 refine Tr.enter (n := 36) Tryz.func78 rfl rfl rfl hE ?_
 refine Tr.sr (Tr.asg rfl rfl (Tr.Qb 1 33 zz ?_))
 show Tr _ _ (uf _ 2 (sL none (([] : List zG)) 0)) _ _
 refine Tr.nil (Tr.zA (Tr.sr (Tr.asg rfl rfl (Tr.nil (Tr.zA (Tr.seq (Tr.sr (Tr.mv rfl rfl (Tr.va rfl (fun _ _ a c => zf zDX (a.ev rfl)) ?_)))))))))
 refine Tr.mv rfl rfl (Tr.nil (Tr.zA (Tr.block (Tr.loop (σ := (List (List zG)) × Nat × Int) (fun m w s => m = s.1.length + 1 ∧ s.1 = List.drop s.2.1 p0 ∧ s.2.1 ≤ p0.length ∧ Jf p0 s.1 s.2.1 s.2.2 = some r) (fun s => [(0, sL zF p0 zH), (3, iv s.2.2), (9, sL zF p0 zH), (10, iv (p0.length : Int)), (11, iv (s.2.1 : Int))]) (fun s => []) (p0.length + 1) (p0, 0, 0) ⟨rfl, rfl, Nat.zero_le _, H⟩ (.cons rfl (.cons rfl (.cons rfl (.cons rfl (.cons rfl .nil))))) .nil (fun _ _ h => absurd h.1 (by simp)) ?_))))
 intro w QI m s hs
 obtain ⟨zV, iL1, zAm⟩ := s
 obtain ⟨Vn, QK, hiL1, H⟩ := hs
 replace QK : zV = List.drop iL1 p0 := QK
 replace H : Jf p0 zV iL1 zAm = some r := H
 replace Vn : m + 1 = zV.length + 1 := Vn
 replace zK := zK.leR QI
 replace leB := leB.trans QI
 obtain rfl : m = zV.length := by omega
 clear Vn
 show Tr _ _ (LF [(0, sL zF p0 zH), (3, iv zAm), (9, sL zF p0 zH), (10, iv (p0.length : Int)), (11, iv (iL1 : Int))]) (LE []) _
 cases zV with
 | nil =>
  rw [Jf.eq_1] at H
  refine Tr.sr (Tr.va rfl (fun _ _ a c => zh (a.ev rfl) (a.ev rfl)) ?_)
  refine Tr.nil (Tr.zA (Tr.seq (Tr.zBN rfl (KF QK) ?_)))
  refine Tr.exit (Tr.zP (Tr.zP (Tr.zl (Tr.zA (Tr.sr (Tr.mv rfl rfl ?_))))))
  obtain ⟨zJZ, zaU, H⟩ := bnd H
  refine Tr.zAi [2] [emp] (U := (Option Addr × Nat)) (fun u => (sL u.1 zJZ u.2)) (fun u => SlF u.1 zJZ.length u.2) (fun u => [ow u.1 u.2 33 zz zJZ]) rfl (zn rfl zw) (fun _ => rfl) (wn rfl) rfl Tryz.call108 (zI rfl (zI rfl zX)) (fun W hW hp hE => zGx zAm zJZ zaU hE) ?_
  intro u hu
  obtain ⟨zNZ, zM7⟩ := u
  have gy111_0 := hu
  have zbO : SlF zNZ zJZ.length zM7 := gy111_0 --@phi
  show Tr _ _ (uf _ 24 (sL zNZ zJZ zM7)) (up _ 2 (ow zNZ zM7 33 zz zJZ)) _
  refine Tr.asg rfl rfl (Tr.nil (Tr.zA (Tr.seq (Tr.sr (Tr.mv rfl rfl (Tr.va rfl (fun _ _ a c => zf zDX (a.ev rfl)) ?_))))))
  refine Tr.mv rfl rfl (Tr.nil (Tr.zA (Tr.block (Tr.loop (σ := (List (List zG)) × Nat × (List zG) × (Option Addr) × Nat) (fun m w s => m = s.1.length + 1 ∧ s.1 = List.drop s.2.1 p0 ∧ s.2.1 ≤ p0.length ∧ Je s.1 s.2.1 s.2.2.1 = some r ∧ SlF s.2.2.2.1 s.2.2.1.length s.2.2.2.2) (fun s => [(6, sL s.2.2.2.1 s.2.2.1 s.2.2.2.2), (25, sL zF p0 zH), (26, iv (p0.length : Int)), (27, iv (s.2.1 : Int))]) (fun s => [(2, ow s.2.2.2.1 s.2.2.2.2 33 zz s.2.2.1)]) (p0.length + 1) (p0, 0, zJZ, zNZ, zM7) ⟨rfl, rfl, Nat.zero_le _, H, zbO⟩ (.cons rfl (.cons rfl (.cons rfl (.cons rfl .nil)))) (.cons rfl .nil) (fun _ _ h => absurd h.1 (by simp)) ?_))))
  intro w zCs m s hs
  obtain ⟨WQ, iL2, zPn, zUr, zUN⟩ := s
  obtain ⟨zOi, zCt, hiL2, H, za1⟩ := hs
  replace zCt : WQ = List.drop iL2 p0 := zCt
  replace H : Je WQ iL2 zPn = some r := H
  replace zOi : m + 1 = WQ.length + 1 := zOi
  replace zK := zK.leR zCs
  replace leB := leB.trans zCs
  replace za1 : SlF zUr zPn.length zUN := za1
  obtain rfl : m = WQ.length := by omega
  clear zOi
  show Tr _ _ (LF [(6, sL zUr zPn zUN), (25, sL zF p0 zH), (26, iv (p0.length : Int)), (27, iv (iL2 : Int))]) (LE [(2, ow zUr zUN 33 zz zPn)]) _
  cases WQ with
  | nil =>
   rw [Je.eq_1] at H
   refine Tr.sr (Tr.va rfl (fun _ _ a c => zh (a.ev rfl) (a.ev rfl)) ?_)
   refine Tr.nil (Tr.zA (Tr.seq (Tr.zBN rfl (KF zCt) ?_)))
   refine Tr.exit (Tr.zP (Tr.zP (Tr.zl (Tr.zA (Tr.sr (Tr.mv rfl rfl (Tr.asg rfl rfl (Tr.nil (Tr.zA (Tr.ret ?_))))))))))
   obtain rfl := oI H
   exact Tr.out (m := [sL zUr zPn zUN]) [] (zU rfl zY) (fun W hW => ⟨(zUr, zUN), rfl, za1, HF.zEF leB (hW.pick (ks := [2]) (by decide) (zn rfl zw)) ⟨Ww _ _ _ _ zDB, trivial⟩⟩)
  | cons xL2 WQ =>
   rw [Je.eq_2] at H
   refine Tr.sr (Tr.va rfl (fun _ _ a c => zh (a.ev rfl) (a.ev rfl)) ?_)
   refine Tr.nil (Tr.zA (Tr.seq (Tr.zBM rfl (VD zCt) ?_)))
   refine Tr.skip (Tr.zA (Tr.seq (Tr.block (Tr.sr ?_))))
   obtain ⟨zq5, hRu126, zdL, hcu126⟩ := (zK).el (Kv zCt)
   obtain ⟨zd0, zdi⟩ := zq5
   have zLf := zdL
   replace zLf : Sl w.R w.W zz zd0 zdi xL2 := zLf
   refine Tr.va rfl (fun _ _ a c => zD zCl (a.ev rfl) zK.form (a.ev rfl) (Int.natCast_nonneg _) (QF zCt)) ?_
   refine Tr.va rfl (fun _ _ a c => zC zDJ (a.ev rfl) (rdR hRu126 hcu126 c) rfl) ?_
   refine Tr.asg rfl rfl (Tr.nil (Tr.zA (Tr.region (Tr.mv rfl rfl (Tr.mv rfl rfl ?_)))))
   obtain ⟨zLa, zXP, H⟩ := bnd H
   refine Tr.zDp 2 (t := zz) (l := zPn) (l2 := xL2) (wn rfl) rfl rfl rfl rfl (apT zDB (fun W hW => (Sl.inB zLf hW))) zBI KI zPv (by decide) zRL rfl zXP fun zqE zpo hAl127 => ?_
   refine Tr.asg rfl rfl (Tr.nil (Tr.zb (Tr.zA (Tr.region (Tr.va rfl (fun _ _ a c => zg (a.ev rfl) (a.ev rfl)) ?_)))))
   exact Tr.mv rfl rfl (Tr.nil (Tr.zZ zCs (WQ, (iL2 + 1), zLa, zqE, zpo) ⟨rfl, Jh zCt, QF zCt, H, hAl127⟩ (.cons rfl (.cons rfl (.cons rfl (.cons (congrArg (fun z => some (Value.int .i64 z)) (Jg zCt zK.form)) .nil)))) (.cons rfl .nil)))
 | cons xL1 zV =>
  rw [Jf.eq_2] at H
  refine Tr.sr (Tr.va rfl (fun _ _ a c => zh (a.ev rfl) (a.ev rfl)) ?_)
  refine Tr.nil (Tr.zA (Tr.seq (Tr.zBM rfl (VD QK) ?_)))
  refine Tr.skip (Tr.zA (Tr.seq (Tr.block (Tr.sr ?_))))
  obtain ⟨zq4, hRu128, zdJ, hcu128⟩ := (zK).el (Kv QK)
  obtain ⟨zqd, zqW⟩ := zq4
  have zk9 := zdJ
  refine Tr.va rfl (fun _ _ a c => zD zCl (a.ev rfl) zK.form (a.ev rfl) (Int.natCast_nonneg _) (QF QK)) ?_
  refine Tr.va rfl (fun _ _ a c => zC zDJ (a.ev rfl) (rdR hRu128 hcu128 c) rfl) ?_
  refine Tr.asg rfl rfl (Tr.nil (Tr.zA (Tr.sr (Tr.mv rfl rfl (Tr.mv rfl rfl (Tr.va rfl (fun _ _ a c => zf zBI (a.ev rfl)) ?_))))))
  refine Tr.va rfl (fun _ _ a c => zg (a.ev rfl) (a.ev rfl)) ?_
  refine Tr.asg rfl rfl (Tr.nil (Tr.zA (Tr.sr (Tr.mv rfl rfl (Tr.va rfl (fun _ _ a c => zh (a.ev rfl) (a.ev rfl)) ?_)))))
  refine Tr.nil (Tr.zA (Tr.cond rfl H (fun H => ?_) (fun H => ?_)))
  ·cases H
  ·refine Tr.skip (Tr.zb (Tr.zA (Tr.region (Tr.va rfl (fun _ _ a c => zg (a.ev rfl) (a.ev rfl)) ?_))))
   exact Tr.mv rfl rfl (Tr.nil (Tr.zZ QI (zV, (iL1 + 1), (w64 (zAm + (xL1.length : Int)))) ⟨rfl, Jh QK, QF QK, H⟩ (.cons rfl (.cons rfl (.cons rfl (.cons rfl (.cons (congrArg (fun z => some (Value.int .i64 z)) (Jg QK zK.form)) .nil))))) .nil))

theorem zJ0 {w : Bs} (p0 : (List Qw)) (zF : Option Addr) (zH : Nat) (zK : Sl w.R w.W QJ zF zH p0) (r : (List zG)) (H : zCG p0 = some r) (hE : HF w w.W (LEn [emp])) : Calls Tryz.prog 43 [sL zF p0 zH].toArray w.W fun e W' => ∃ u : (Option Addr × Nat), e = .returned (sL u.1 r u.2) ∧ (SlF u.1 r.length u.2) ∧ HF w W' (LEn [ow u.1 u.2 33 zz r]) := by
 unfold zCG at H
 have leB := Bs.Le.refl w
 refine Tr.enter (n := 60) Tryz.func43 rfl rfl rfl hE ?_
 refine Tr.sr (Tr.asg rfl rfl (Tr.Qb 1 33 zz ?_))
 show Tr _ _ (uf _ 2 (sL none (([] : List zG)) 0)) _ _
 refine Tr.nil (Tr.zA (Tr.sr (Tr.asg rfl rfl (Tr.Qb 2 33 zz ?_))))
 show Tr _ _ (uf _ 3 (sL none (([] : List zG)) 0)) _ _
 refine Tr.nil (Tr.zA (Tr.seq (Tr.sr (Tr.mv rfl rfl (Tr.va rfl (fun _ _ a c => zf zLu (a.ev rfl)) ?_)))))
 refine Tr.mv rfl rfl (Tr.nil (Tr.zA (Tr.block (Tr.loop (σ := (List Qw) × Nat × (List zG) × (Option Addr) × Nat) (fun m w s => m = s.1.length + 1 ∧ s.1 = List.drop s.2.1 p0 ∧ s.2.1 ≤ p0.length ∧ Jq p0 s.1 s.2.1 s.2.2.1 = some r ∧ SlF s.2.2.2.1 s.2.2.1.length s.2.2.2.2) (fun s => [(0, sL zF p0 zH), (3, sL s.2.2.2.1 s.2.2.1 s.2.2.2.2), (9, sL zF p0 zH), (10, iv (p0.length : Int)), (11, iv (s.2.1 : Int))]) (fun s => [(2, ow s.2.2.2.1 s.2.2.2.2 33 zz s.2.2.1)]) (p0.length + 1) (p0, 0, ([] : List zG), none, 0) ⟨rfl, rfl, Nat.zero_le _, H, Jm⟩ (.cons rfl (.cons rfl (.cons rfl (.cons rfl (.cons rfl .nil))))) (.cons rfl .nil) (fun _ _ h => absurd h.1 (by simp)) ?_))))
 intro w QI m s hs
 obtain ⟨zV, iL1, Wi, zAD, WY⟩ := s
 obtain ⟨Vn, QK, hiL1, H, zDf⟩ := hs
 replace QK : zV = List.drop iL1 p0 := QK
 replace H : Jq p0 zV iL1 Wi = some r := H
 replace Vn : m + 1 = zV.length + 1 := Vn
 replace zK := zK.leR QI
 replace leB := leB.trans QI
 replace zDf : SlF zAD Wi.length WY := zDf
 obtain rfl : m = zV.length := by omega
 clear Vn
 show Tr _ _ (LF [(0, sL zF p0 zH), (3, sL zAD Wi WY), (9, sL zF p0 zH), (10, iv (p0.length : Int)), (11, iv (iL1 : Int))]) (LE [(2, ow zAD WY 33 zz Wi)]) _
 cases zV with
 | nil =>
  rw [Jq.eq_1] at H
  refine Tr.sr (Tr.va rfl (fun _ _ a c => zh (a.ev rfl) (a.ev rfl)) ?_)
  refine Tr.nil (Tr.zA (Tr.seq (Tr.zBN rfl (KF QK) ?_)))
  refine Tr.exit (Tr.zP (Tr.zP (Tr.zl (Tr.zA (Tr.sr (Tr.asg rfl rfl (Tr.nil (Tr.zA (Tr.seq (Tr.sr (Tr.mv rfl rfl (Tr.va rfl (fun _ _ a c => zf zBI (a.ev rfl)) ?_))))))))))))
  refine Tr.mv rfl rfl (Tr.nil (Tr.zA (Tr.block (Tr.loop (σ := (List zG) × Nat × Int) (fun m w s => m = s.1.length + 1 ∧ s.1 = List.drop s.2.1 Wi ∧ s.2.1 ≤ Wi.length ∧ Jc Wi s.1 s.2.1 s.2.2 = some r) (fun s => [(3, sL zAD Wi WY), (6, iv s.2.2), (37, sL zAD Wi WY), (38, iv (Wi.length : Int)), (39, iv (s.2.1 : Int))]) (fun s => [(2, ow zAD WY 33 zz Wi)]) (Wi.length + 1) (Wi, 0, 0) ⟨rfl, rfl, Nat.zero_le _, H⟩ (.cons rfl (.cons rfl (.cons rfl (.cons rfl (.cons rfl .nil))))) (.cons rfl .nil) (fun _ _ h => absurd h.1 (by simp)) ?_))))
  intro w zCs m s hs
  obtain ⟨WQ, iL2, zH1⟩ := s
  obtain ⟨zOi, zCt, hiL2, H⟩ := hs
  replace zCt : WQ = List.drop iL2 Wi := zCt
  replace H : Jc Wi WQ iL2 zH1 = some r := H
  replace zOi : m + 1 = WQ.length + 1 := zOi
  replace leB := leB.trans zCs
  obtain rfl : m = WQ.length := by omega
  clear zOi
  show Tr _ _ (LF [(3, sL zAD Wi WY), (6, iv zH1), (37, sL zAD Wi WY), (38, iv (Wi.length : Int)), (39, iv (iL2 : Int))]) (LE [(2, ow zAD WY 33 zz Wi)]) _
  cases WQ with
  | nil =>
   rw [Jc.eq_1] at H
   refine Tr.sr (Tr.va rfl (fun _ _ a c => zh (a.ev rfl) (a.ev rfl)) ?_)
   refine Tr.nil (Tr.zA (Tr.seq (Tr.zBN rfl (KF zCt) ?_)))
   refine Tr.exit (Tr.zP (Tr.zP (Tr.zl (Tr.zA (Tr.seq (Tr.zCB 6 (by kernel_rfl) (by kernel_rfl) ?_))))))
   refine Tq.mv rfl rfl (Tq.mv rfl rfl ?_)
   obtain ⟨zGd, zQW, H⟩ := bnd H
   refine Tq.va rfl (fun _ _ a c => zDa zAh (a.ev rfl) zDf (a.ev rfl) zQW) ?_
   refine Tq.mv rfl rfl (Tq.mv rfl rfl ?_)
   obtain ⟨zAH, zGj, H⟩ := bnd H
   refine Tq.va rfl (fun _ _ a c => zG9 zAh (a.ev rfl) zDf (a.ev rfl) zGj) ?_
   refine Tq.nil (Tr.freeze 2 rfl fun w zl3 zeS => ?_)
   replace leB := leB.trans zl3
   refine Tr.buildSlice 9 (e := 30) (vs := [(0, sL (zGP zAD zH1.toNat 2 WY) zGd (WY - zH1.toNat)), (1, sL zAD zAH WY)]) (cs := [sL (zGP zAD zH1.toNat 2 WY) zGd (WY - zH1.toNat), sL zAD zAH WY]) (wn rfl) rfl (zi rfl (zi rfl Qh)) (by kernel_rfl) fun zrR => ?_
   refine Tr.own 9 zS [zGd, zAH] (css := [[sL (zGP zAD zH1.toNat 2 WY) zGd (WY - zH1.toNat)], [sL zAD zAH WY]]) rfl (.cons ⟨((zGP zAD zH1.toNat 2 WY), (WY - zH1.toNat)), (Sl.cut zeS zQW), rfl⟩ (.cons ⟨(zAD, WY), (Sl.pre zeS zGj), rfl⟩ .nil)) rfl (by decide) (zR2 rfl) ?_
   obtain ⟨zMO, zmu, H⟩ := bnd H
   refine Tr.zAi [10] [emp] (U := (Option Addr × Nat)) (fun u => (sL u.1 zMO u.2)) (fun u => SlF u.1 zMO.length u.2) (fun u => [ow u.1 u.2 33 zz zMO]) rfl (zn rfl zw) (fun _ => rfl) (wn rfl) rfl Tryz.call78 (zI rfl zX) (fun W hW hp hE => zGR [zGd, zAH] (some ⟨zrR, 0, none⟩) 2 (hW.slS (k := 9) rfl hp rfl) zMO zmu hE) ?_
   intro u hu
   obtain ⟨zK2, zKg⟩ := u
   have gy143_0 := hu
   have zbG : SlF zK2 zMO.length zKg := gy143_0 --@phi
   show Tr _ _ (uf _ 59 (sL zK2 zMO zKg)) (up _ 10 (ow zK2 zKg 33 zz zMO)) _
   refine Tr.asg rfl rfl (Tr.nil (Tr.zA (Tr.ret ?_)))
   obtain rfl := oI H
   exact Tr.out (m := [sL zK2 zMO zKg]) [] (zU rfl zY) (fun W hW => ⟨(zK2, zKg), rfl, zbG, HF.zEF leB (hW.pick (ks := [10]) (by decide) (zn rfl zw)) ⟨Ww _ _ _ _ zDB, trivial⟩⟩)
  | cons xL2 WQ =>
   rw [Jc.eq_2] at H
   refine Tr.sr (Tr.va rfl (fun _ _ a c => zh (a.ev rfl) (a.ev rfl)) ?_)
   refine Tr.nil (Tr.zA (Tr.seq (Tr.zBM rfl (VD zCt) ?_)))
   refine Tr.skip (Tr.zA (Tr.seq (Tr.block (Tr.sr (Tr.mv rfl rfl (Tr.va rfl (fun _ _ a c => zD zAh (a.ev rfl) zDf (a.ev rfl) (Int.natCast_nonneg _) (QF zCt)) ?_))))))
   refine Tr.va rfl (fun _ _ a c => ze (cs := [iv xL2.X, iv xL2.Y]) WP KI (a.ev rfl) (zQ.take (rdo Jb (k := 2) c rfl (Kv zCt)) 2) rfl) ?_
   refine Tr.alloc 11 (wn rfl) rfl zDS fun zsN => ?_
   refine Tr.asg rfl rfl (Tr.store 11 (cs := [iv xL2.X, iv xL2.Y]) [iv xL2.X, iv xL2.Y] (wn rfl) rfl rfl rfl rfl KI rfl rfl rfl ?_)
   refine Tr.nil (Tr.zA (Tr.seq (Tr.draw (by kernel_rfl) (by kernel_rfl) ?_)))
   refine Tq.va rfl (fun _ _ a c => ze (cs := [iv xL2.X, iv xL2.Y]) WP KI (a.ev rfl) (zQ.take (rdb c (vs := [iv xL2.X, iv xL2.Y]) (k := 11) rfl 0) 2) rfl) ?_
   refine Tq.mv rfl rfl (Tq.mv rfl rfl ?_)
   obtain ⟨zZU, zoR, H⟩ := bnd H
   obtain ⟨zjx, zjw, zjv⟩ := zO zoR
   refine Tq.va rfl (fun _ _ a c => zD zAh (a.ev rfl) zDf (a.ev rfl) zjx zjw) ?_
   refine Tq.va rfl (fun _ _ a c => ze (cs := [iv zZU.X, iv zZU.Y]) WP KI (a.ev rfl) (zQ.take (rdo Jb (k := 2) c rfl zjv) 2) rfl) ?_
   obtain ⟨zHz, zaP, H⟩ := bnd H
   refine Tq.KV (r := (bV zHz)) (wn rfl) rfl Tryz.call46 (zI rfl (zI rfl zX)) (fun W hW => zEp xL2 zZU zHz zaP (HF.start _)) ?_
   refine Tq.nil (Tr.zA (Tr.cond rfl H (fun H => ?_) (fun H => ?_)))
   ·refine Tr.region (Tr.mv rfl rfl (Tr.asg rfl rfl (Tr.nil (Tr.zb (Tr.zA (Tr.region (Tr.va rfl (fun _ _ a c => zg (a.ev rfl) (a.ev rfl)) ?_)))))))
    exact Tr.mv rfl rfl (Tr.nil (Tr.zZ zCs (WQ, (iL2 + 1), (iL2 : Int)) ⟨rfl, Jh zCt, QF zCt, H⟩ (.cons rfl (.cons rfl (.cons rfl (.cons rfl (.cons (congrArg (fun z => some (Value.int .i64 z)) (Jg zCt zDf)) .nil))))) (.cons rfl .nil)))
   ·refine Tr.skip (Tr.zb (Tr.zA (Tr.region (Tr.va rfl (fun _ _ a c => zg (a.ev rfl) (a.ev rfl)) ?_))))
    exact Tr.mv rfl rfl (Tr.nil (Tr.zZ zCs (WQ, (iL2 + 1), zH1) ⟨rfl, Jh zCt, QF zCt, H⟩ (.cons rfl (.cons rfl (.cons rfl (.cons rfl (.cons (congrArg (fun z => some (Value.int .i64 z)) (Jg zCt zDf)) .nil))))) (.cons rfl .nil)))
 | cons xL1 zV =>
  rw [Jq.eq_2] at H
  refine Tr.sr (Tr.va rfl (fun _ _ a c => zh (a.ev rfl) (a.ev rfl)) ?_)
  refine Tr.nil (Tr.zA (Tr.seq (Tr.zBM rfl (VD QK) ?_)))
  refine Tr.skip (Tr.zA (Tr.seq (Tr.block (Tr.sr (Tr.mv rfl rfl (Tr.va rfl (fun _ _ a c => zD zJP (a.ev rfl) zK.form (a.ev rfl) (Int.natCast_nonneg _) (QF QK)) ?_))))))
  refine Tr.va rfl (fun _ _ a c => ze (cs := [iv xL1.from_.X, iv xL1.from_.Y, iv xL1.to_.X, iv xL1.to_.Y]) zGv zER (a.ev rfl) (zQ.take (rdF zCu zK (Kv QK) c) 4) rfl) ?_
  refine Tr.alloc 12 (wn rfl) rfl zd2 fun zsM => ?_
  refine Tr.asg rfl rfl (Tr.store 12 (cs := [iv xL1.from_.X, iv xL1.from_.Y, iv xL1.to_.X, iv xL1.to_.Y]) [iv xL1.from_.X, iv xL1.from_.Y, iv xL1.to_.X, iv xL1.to_.Y] (wn rfl) rfl rfl rfl rfl zER rfl rfl rfl ?_)
  refine Tr.nil (Tr.zA (Tr.seq (Tr.draw (by kernel_rfl) (by kernel_rfl) ?_)))
  refine Tq.va rfl (fun _ _ a c => ze (cs := [iv xL1.from_.X, iv xL1.from_.Y, iv xL1.to_.X, iv xL1.to_.Y]) zGv zER (a.ev rfl) (zQ.take (rdb c (vs := [iv xL1.from_.X, iv xL1.from_.Y, iv xL1.to_.X, iv xL1.to_.Y]) (k := 12) rfl 0) 4) rfl) ?_
  obtain ⟨zYI, zms, H⟩ := bnd H
  refine Tq.KV (r := (.agg #[iv zYI.X, iv zYI.Y])) (wn rfl) rfl Tryz.call40 (zI rfl zX) (fun W hW => Wq xL1 zYI zms (HF.start _)) ?_
  refine Tq.mv rfl rfl (Tq.mv rfl rfl (Tq.mv rfl rfl (Tq.va rfl (fun _ _ a c => zf zLu (a.ev rfl)) ?_)))
  refine Tq.va rfl (fun _ _ a c => zg (a.ev rfl) (a.ev rfl)) ?_
  refine Tq.va rfl (fun _ _ a c => Jn (a.ev rfl) (a.ev rfl)) ?_
  refine Tq.mv rfl rfl (Tq.va rfl (fun _ _ a c => zf zLu (a.ev rfl)) ?_)
  obtain ⟨q150, zoc, H⟩ := bnd H
  refine Tq.va rfl (fun _ _ a c => zLI (a.ev rfl) (a.ev rfl) zoc) ?_
  obtain ⟨x151, hx151, H⟩ := bnd H
  obtain ⟨zVh, zVg, zVf⟩ := zO hx151
  refine Tq.va rfl (fun _ _ a c => zD zJP (a.ev rfl) zK.form (a.ev rfl) zVh zVg) ?_
  refine Tq.va rfl (fun _ _ a c => ze (cs := [iv x151.from_.X, iv x151.from_.Y, iv x151.to_.X, iv x151.to_.Y]) zGv zER (a.ev rfl) (zQ.take (rdF zCu zK zVf c) 4) rfl) ?_
  obtain ⟨y152, hy152, H⟩ := bnd H
  refine Tq.KV (r := (.agg #[iv y152.X, iv y152.Y])) (wn rfl) rfl Tryz.call40 (zI rfl zX) (fun W hW => Wq x151 y152 hy152 (HF.start _)) ?_
  refine Tq.va rfl (fun _ _ a c => zHA zYI y152 (a.ev rfl) (a.ev rfl)) ?_
  refine Tq.nil (Tr.zA (Tr.cond rfl H (fun H => ?_) (fun H => ?_)))
  ·refine Tr.region (Tr.mv rfl rfl (Tr.va rfl (fun _ _ a c => zB zKa (a.ev rfl)) ?_))
   refine Tr.va rfl (fun _ _ a c => ze (cs := [iv xL1.from_.X, iv xL1.from_.Y]) WP KI (a.ev rfl) (zQ.take (rdb c (vs := [iv xL1.from_.X, iv xL1.from_.Y, iv xL1.to_.X, iv xL1.to_.Y]) (k := 12) rfl 0) 2) rfl) ?_
   refine Tr.buildSlice 13 (e := 33) (vs := [(0, .agg #[iv xL1.from_.X, iv xL1.from_.Y])]) (cs := [iv xL1.from_.X, iv xL1.from_.Y]) (wn rfl) rfl (zi rfl Qh) (by kernel_rfl) fun zsL => ?_
   obtain ⟨zfp, zpC, H⟩ := bnd H
   refine Tr.append 2 (t := zz) (l := Wi) (l2 := [xL1.from_]) (wn rfl) rfl rfl rfl rfl (fun W hW => ⟨[[iv xL1.from_.X, iv xL1.from_.Y]], (.cons ⟨(), trivial, rfl⟩ .nil), rdb hW (vs := [iv xL1.from_.X, iv xL1.from_.Y]) (k := 13) rfl 0⟩) zBI KI zPv (by decide) zRL rfl zpC fun zqB zpl hAl154 => ?_
   refine Tr.asg rfl rfl (Tr.nil (Tr.zb (Tr.zA (Tr.region (Tr.va rfl (fun _ _ a c => zg (a.ev rfl) (a.ev rfl)) ?_)))))
   exact Tr.mv rfl rfl (Tr.nil (Tr.zZ QI (zV, (iL1 + 1), zfp, zqB, zpl) ⟨rfl, Jh QK, QF QK, H, hAl154⟩ (.cons rfl (.cons rfl (.cons rfl (.cons rfl (.cons (congrArg (fun z => some (Value.int .i64 z)) (Jg QK zK.form)) .nil))))) (.cons rfl .nil)))
  ·refine Tr.skip (Tr.zb (Tr.zA (Tr.region (Tr.va rfl (fun _ _ a c => zg (a.ev rfl) (a.ev rfl)) ?_))))
   exact Tr.mv rfl rfl (Tr.nil (Tr.zZ QI (zV, (iL1 + 1), Wi, zAD, WY) ⟨rfl, Jh QK, QF QK, H, zDf⟩ (.cons rfl (.cons rfl (.cons rfl (.cons rfl (.cons (congrArg (fun z => some (Value.int .i64 z)) (Jg QK zK.form)) .nil))))) (.cons rfl .nil)))

theorem zEo {w : Bs} (p0 : List (List zG)) (zF : Option Addr) (zH : Nat) (p1 : (List zG) → (List zG) → Option Int) (fid1 : Nat) (cap1 : List Value) (hg1 : ∀ args W, (callFunc fid1 args).run Tryz.prog W = .ok (.enter fid1 args) W) (hf1 : ∀ (w' : Bs), w.Ext w' → ∀ (z0 : (List zG)) (A0 : Option Addr) (c0 : Nat), Sl w'.R w'.W zz A0 c0 z0 → ∀ (z1 : (List zG)) (A1 : Option Addr) (c1 : Nat), Sl w'.R w'.W zz A1 c1 z1 → ∀ y, p1 z0 z1 = some y → Calls Tryz.prog fid1 (([sL A0 z0 c0, sL A1 z1 c1] : List Value) ++ cap1).toArray w'.W fun e W'' => e = .returned (iv y) ∧ HF w' W'' E0) (r : List (List zG)) (H : zNl p0 p1 = some r) (hE : HF w w.W (LEn [ow zF zH 30 zS p0])) : Calls Tryz.prog 44 [sL zF p0 zH, .func (.func fid1) #[] cap1.toArray].toArray w.W fun e W' => ∃ u : Unit, e = .returned (.tuple #[]) ∧ (r.length = p0.length) ∧ HF w W' (LEn [ow zF zH 30 zS r]) :=
 zNn (ρ := Tryz.zP3) Tryz.zll rfl (fun _ _ u x h => ⟨(u, x), rfl, rfl, h⟩) (fun _ _ p h => ⟨p.1, h, rfl⟩) hg1 hf1 H hE

theorem zFs {w : Bs} (p0 : (List zG)) (zF : Option Addr) (zH : Nat) (zK : Sl w.R w.W zz zF zH p0) (p1 : (List zG)) (Ql : Option Addr) (Qk : Nat) (KU : Sl w.R w.W zz Ql Qk p1) (r : Int) (H : Qd p0 p1 = some r) (hE : HF w w.W E0) : Calls Tryz.prog 45 [sL zF p0 zH, sL Ql p1 Qk].toArray w.W fun e W' => e = .returned (iv r) ∧ HF w W' E0 := by
 unfold Qd at H
 have leB := Bs.Le.refl w
 refine Tr.enter (n := 29) Tryz.func45 rfl rfl rfl hE ?_
 refine Tr.sr (Tr.asg rfl rfl (Tr.nil (Tr.zA (Tr.seq (Tr.block ?_)))))
 have leJ113 := Bs.Le.refl w
 refine Tr.zSV (σ := Bool) (fun w s => Jr s = some r) (fun s => [(5, bV s)]) (fun s => []) ?_ ?_
 ·refine Tr.seq (Tr.draw (by kernel_rfl) (by kernel_rfl) ?_)
  refine Tq.mv rfl rfl ?_
  obtain ⟨x115, hx115, H⟩ := bnd H
  obtain ⟨zOb, zOa, zOZ⟩ := zO hx115
  refine Tq.va rfl (fun _ _ a c => zD zAh (a.ev rfl) zK.form (a.ev rfl) zOb zOa) ?_
  refine Tq.va rfl (fun _ _ a c => ze (cs := [iv x115.X, iv x115.Y]) WP KI (a.ev rfl) (zQ.take (rdF Jb zK zOZ c) 2) rfl) ?_
  refine Tq.mv rfl rfl ?_
  obtain ⟨zCL, zoY, H⟩ := bnd H
  obtain ⟨zkI, zkH, zkG⟩ := zO zoY
  refine Tq.va rfl (fun _ _ a c => zD zAh (a.ev rfl) KU.form (a.ev rfl) zkI zkH) ?_
  refine Tq.va rfl (fun _ _ a c => ze (cs := [iv zCL.X, iv zCL.Y]) WP KI (a.ev rfl) (zQ.take (rdF Jb KU zkG c) 2) rfl) ?_
  obtain ⟨zYL, zm8, H⟩ := bnd H
  refine Tq.KV (r := (bV zYL)) (wn rfl) rfl Tryz.call46 (zI rfl (zI rfl zX)) (fun W hW => zEp x115 zCL zYL zm8 (HF.start _)) ?_
  refine Tq.asg rfl rfl (Tq.nil (Tr.zA (Tr.cond rfl H (fun H => ?_) (fun H => ?_))))
  ·exact Tr.skip (Tr.zZ leJ113 zYL H (.cons rfl .nil) .nil)
  ·refine Tr.draw (by kernel_rfl) (by kernel_rfl) ?_
   refine Tq.mv rfl rfl ?_
   obtain ⟨VO, zTn, H⟩ := bnd H
   obtain ⟨zOY, zOX, hx1182⟩ := zO zTn
   refine Tq.va rfl (fun _ _ a c => zD zAh (a.ev rfl) zK.form (a.ev rfl) zOY zOX) ?_
   refine Tq.va rfl (fun _ _ a c => ze (cs := [iv VO.X, iv VO.Y]) WP KI (a.ev rfl) (zQ.take (rdF Jb zK hx1182 c) 2) rfl) ?_
   refine Tq.mv rfl rfl ?_
   obtain ⟨VN, zTm, H⟩ := bnd H
   obtain ⟨hx1190, hx1191, hx1192⟩ := zO zTm
   refine Tq.va rfl (fun _ _ a c => zD zAh (a.ev rfl) KU.form (a.ev rfl) hx1190 hx1191) ?_
   refine Tq.va rfl (fun _ _ a c => ze (cs := [iv VN.X, iv VN.Y]) WP KI (a.ev rfl) (zQ.take (rdF Jb KU hx1192 c) 2) rfl) ?_
   refine Tq.va rfl (fun _ _ a c => zHB VO VN (a.ev rfl) (a.ev rfl)) ?_
   refine Tq.mv rfl rfl ?_
   obtain ⟨zdZ, zQu, H⟩ := bnd H
   refine Tq.mid 8 [(28, bV zdZ)] ?_ ?_
   ·cases zKY : (Vo VO VN)
    ·rw [zKY] at zQu
     rw [if_neg (by decide)] at zQu
     have H := zQu
     obtain rfl := oI H
     refine Tq.pass rfl rfl rfl rfl rfl (by decide) ?_
     refine Tq.pass rfl rfl rfl rfl rfl (by decide) ?_
     refine Tq.pass rfl rfl rfl rfl rfl (by decide) ?_
     refine Tq.pass rfl rfl rfl rfl rfl (by decide) ?_
     refine Tq.pass rfl rfl rfl rfl rfl (by decide) ?_
     refine Tq.pass rfl rfl rfl rfl rfl (by decide) ?_
     refine Tq.pass rfl rfl rfl rfl rfl (by decide) ?_
     refine Tq.va rfl (fun _ _ a c => zy (a.ev rfl) (a.ev rfl)) ?_
     exact Tq.fin (.cons rfl .nil)
    ·rw [zKY] at zQu
     rw [if_pos rfl] at zQu
     have H := zQu
     refine Tq.val (wg rfl rfl rfl) rfl (fun _ _ a c => run_move (a.ev rfl)) ?_
     obtain ⟨zBa, zTl, H⟩ := bnd H
     obtain ⟨hx1240, hx1241, zOW⟩ := zO zTl
     refine Tq.val (wg rfl rfl rfl) rfl (fun _ _ a c => zD zAh (a.ev rfl) KU.form (a.ev rfl) hx1240 hx1241) ?_
     refine Tq.val (wg rfl rfl rfl) rfl (fun _ _ a c => ze (cs := [iv zBa.X, iv zBa.Y]) WP KI (a.ev rfl) (zQ.take (rdF Jb KU zOW c) 2) rfl) ?_
     refine Tq.val (wg rfl rfl rfl) rfl (fun _ _ a c => run_move (a.ev rfl)) ?_
     obtain ⟨zDW, zae, H⟩ := bnd H
     obtain ⟨zVt, zVs, zVr⟩ := zO zae
     refine Tq.val (wg rfl rfl rfl) rfl (fun _ _ a c => zD zAh (a.ev rfl) zK.form (a.ev rfl) zVt zVs) ?_
     refine Tq.val (wg rfl rfl rfl) rfl (fun _ _ a c => ze (cs := [iv zDW.X, iv zDW.Y]) WP KI (a.ev rfl) (zQ.take (rdF Jb zK zVr c) 2) rfl) ?_
     obtain ⟨zcL, zm4, H⟩ := bnd H
     refine Tq.KV (r := (bV zcL)) (wg rfl rfl rfl) rfl Tryz.call46 (zI rfl (zI rfl zX)) (fun W hW => zEp zBa zDW zcL zm4 (HF.start _)) ?_
     refine Tq.va rfl (fun _ _ a c => zx (a.ev rfl) (a.ev rfl)) ?_
     obtain rfl := oI H
     exact Tq.fin (.cons rfl .nil)
   ·exact Tq.asg rfl rfl (Tq.nil (Tr.zZ leJ113 zdZ H (.cons rfl .nil) .nil))
 ·intro w x112 hlJ114 hs
  have H := hs
  replace H : Jr x112 = some r := H
  replace leB := leB.trans hlJ114
  unfold Jr at H
  show Tr _ _ (LF [(5, bV x112)]) (LE []) _
  refine Tr.cond rfl H (fun H => ?_) (fun H => ?_)
  ·refine Tr.sr (Tr.asg rfl rfl (Tr.nil (Tr.zA (Tr.ret (Tr.QY (Tr.zq ?_))))))
   obtain rfl := oI H
   exact Tr.out (m := [iv (-1)]) [] (zU rfl zY) (fun W hW => ⟨rfl, hW.low leB⟩)
  ·refine Tr.skip (Tr.zb (Tr.zA (Tr.sr (Tr.asg rfl rfl (Tr.nil (Tr.zA (Tr.ret ?_)))))))
   obtain rfl := oI H
   exact Tr.out (m := [iv 1]) [] (zU rfl zY) (fun W hW => ⟨rfl, hW.low leB⟩)

theorem zAk {w : Bs} (p0 : Qw) (p1 : Qw) (q0 : (List ((Int × Int) × List Int))) (bmq0 : Nat) (hmq0 : MRo w.R w.W zPo okP bmq0 zW q0) (bq0 : Nat) (hb0 : w.R bq0) (hc0 : zQ w.W bq0 0 [(.map (some bmq0))]) (bq1 : Nat) (hb1 : w.R bq1) (hc1 : zQ w.W bq1 0 [.func (.func 39) #[] #[]]) (r : Bool) (H : JE p0 p1 q0 = some r) (hE : HF w w.W E0) : Calls Tryz.prog 41 [.agg #[iv p0.from_.X, iv p0.from_.Y, iv p0.to_.X, iv p0.to_.Y], .agg #[iv p1.from_.X, iv p1.from_.Y, iv p1.to_.X, iv p1.to_.Y], pV bq0, pV bq1].toArray w.W fun e W' => e = .returned (bV r) ∧ HF w W' E0 := by
 unfold JE at H
 have leB := Bs.Le.refl w
 refine Tr.enter (n := 21) Tryz.func41 rfl rfl rfl hE ?_
 refine Tr.sr (Tr.box 1 (cs := [iv p0.from_.X, iv p0.from_.Y, iv p0.to_.X, iv p0.to_.Y]) (wn rfl) rfl rfl rfl fun QQ => ?_)
 refine Tr.box 2 (cs := [iv p1.from_.X, iv p1.from_.Y, iv p1.to_.X, iv p1.to_.Y]) (wn rfl) rfl rfl rfl fun WE => ?_
 refine Tr.asg rfl rfl (Tr.nil (Tr.zA (Tr.seq (Tr.draw (by kernel_rfl) (by kernel_rfl) ?_))))
 refine Tq.va rfl (fun _ _ a c => zC zb2 (a.ev rfl) (rdR hb0 hc0 c) rfl) ?_
 refine Tq.va rfl (fun _ _ a c => zB zKZ (a.ev rfl)) ?_
 refine Tq.va rfl (fun _ _ a c => ze (cs := [iv p0.to_.X, iv p0.to_.Y]) WP KI (a.ev rfl) (zQ.take (rdb c (vs := [iv p0.from_.X, iv p0.from_.Y, iv p0.to_.X, iv p0.to_.Y]) (k := 1) rfl 2) 2) rfl) ?_
 obtain ⟨zMW, za3, H⟩ := bnd H
 obtain ⟨zrx, zro, hsl102, hkl102⟩ := hmq0.look za3
 refine Tq.va rfl (fun _ _ a c => hkl102 c zZY zaG zZD (a.ev rfl) (a.ev rfl)) ?_
 refine Tq.va rfl (fun _ _ a c => zf Vu (a.ev rfl)) ?_
 refine Tq.va rfl (fun _ _ a c => Vv (a.ev rfl) (a.ev rfl)) ?_
 refine Tq.mv rfl rfl ?_
 obtain ⟨zY0, zOq, H⟩ := bnd H
 refine Tq.mid 7 [(20, bV zY0)] ?_ ?_
 ·cases zCk : ((zMW.length : Int) == 1)
  ·rw [zCk] at zOq
   rw [if_neg (by decide)] at zOq
   have H := zOq
   refine Tq.val (wg rfl rfl rfl) rfl (fun _ _ a c => ze (cs := [iv p1.from_.X, iv p1.from_.Y, iv p1.to_.X, iv p1.to_.Y]) zGv zER (a.ev rfl) (zQ.take (rdb c (vs := [iv p1.from_.X, iv p1.from_.Y, iv p1.to_.X, iv p1.to_.Y]) (k := 2) rfl 0) 4) rfl) ?_
   obtain ⟨zDT, zaX, H⟩ := bnd H
   refine Tq.KV (r := (.agg #[iv zDT.X, iv zDT.Y])) (wg rfl rfl rfl) rfl Tryz.call40 (zI rfl zX) (fun W hW => Wq p1 zDT zaX (HF.start _)) ?_
   refine Tq.val (wg rfl rfl rfl) rfl (fun _ _ a c => zC zpw (a.ev rfl) (rdR hb1 hc1 c) rfl) ?_
   refine Tq.val (wg rfl rfl rfl) rfl (fun _ _ a c => ze (cs := [iv p0.from_.X, iv p0.from_.Y, iv p0.to_.X, iv p0.to_.Y]) zGv zER (a.ev rfl) (zQ.take (rdb c (vs := [iv p0.from_.X, iv p0.from_.Y, iv p0.to_.X, iv p0.to_.Y]) (k := 1) rfl 0) 4) rfl) ?_
   obtain ⟨zLD, zaW, H⟩ := bnd H
   refine Tq.zHj (r := (.agg #[iv zLD.X, iv zLD.Y])) (wg rfl rfl rfl) rfl rfl Tryz.call39 (zI rfl zX) (fun W hW => zFt p0 zLD zaW (HF.start _)) ?_
   refine Tq.val (wg rfl rfl rfl) rfl (fun _ _ a c => zHB zDT zLD (a.ev rfl) (a.ev rfl)) ?_
   refine Tq.va rfl (fun _ _ a c => zy (a.ev rfl) (a.ev rfl)) ?_
   obtain rfl := oI H
   exact Tq.fin (.cons rfl .nil)
  ·rw [zCk] at zOq
   rw [if_pos rfl] at zOq
   have H := zOq
   obtain rfl := oI H
   refine Tq.pass rfl rfl rfl rfl rfl (by decide) ?_
   refine Tq.pass rfl rfl rfl rfl rfl (by decide) ?_
   refine Tq.pass rfl rfl rfl rfl rfl (by decide) ?_
   refine Tq.pass rfl rfl rfl rfl rfl (by decide) ?_
   refine Tq.pass rfl rfl rfl rfl rfl (by decide) ?_
   refine Tq.pass rfl rfl rfl rfl rfl (by decide) ?_
   refine Tq.va rfl (fun _ _ a c => zx (a.ev rfl) (a.ev rfl)) ?_
   exact Tq.fin (.cons rfl .nil)
 ·refine Tq.asg rfl rfl (Tq.nil (Tr.zA (Tr.ret ?_)))
  obtain rfl := oI H
  exact Tr.out (m := [bV zY0]) [] (zU rfl zY) (fun W hW => ⟨rfl, hW.low leB⟩)

theorem zBP {w : Bs} (p0 : Qw) (q0 : (List ((Int × Int) × List Int))) (bmq0 : Nat) (hmq0 : MRo w.R w.W zPo okP bmq0 zW q0) (bq0 : Nat) (hb0 : w.R bq0) (hc0 : zQ w.W bq0 0 [(.map (some bmq0))]) (q1 : (List Bool)) (Aq1_0 : Option Addr) (cq1_0 : Nat) (zXA : Sl w.R w.W VQ Aq1_0 cq1_0 q1) (bq1 : Nat) (hb1 : w.R bq1) (hc1 : zQ w.W bq1 0 [sL Aq1_0 q1 cq1_0]) (bq2 : Nat) (q3 : (List Qw)) (Aq3_0 : Option Addr) (cq3_0 : Nat) (zW9 : Sl w.R w.W QJ Aq3_0 cq3_0 q3) (bq3 : Nat) (hb3 : w.R bq3) (hc3 : zQ w.W bq3 0 [sL Aq3_0 q3 cq3_0]) (q4 : (List ((Int × Int) × List Int))) (bmq4 : Nat) (hmq4 : MRo w.R w.W zPo okP bmq4 zW q4) (bq4 : Nat) (hb4 : w.R bq4) (hc4 : zQ w.W bq4 0 [(.map (some bmq4))]) (bq5 : Nat) (hb2 : w.R bq2) (hc2 : zQ w.W bq2 0 [.func (.func 41) #[] #[pV bq4, pV bq5]]) (hb5 : w.R bq5) (hc5 : zQ w.W bq5 0 [.func (.func 39) #[] #[]]) (r : Int) (H : JA p0 q0 q1 q3 q4 = some r) (hE : HF w w.W E0) : Calls Tryz.prog 42 [.agg #[iv p0.from_.X, iv p0.from_.Y, iv p0.to_.X, iv p0.to_.Y], pV bq0, pV bq1, pV bq2, pV bq3].toArray w.W fun e W' => e = .returned (iv r) ∧ HF w W' E0 := by
 unfold JA at H
 have leB := Bs.Le.refl w
 refine Tr.enter (n := 34) Tryz.func42 rfl rfl rfl hE ?_
 refine Tr.sr (Tr.box 1 (cs := [iv p0.from_.X, iv p0.from_.Y, iv p0.to_.X, iv p0.to_.Y]) (wn rfl) rfl rfl rfl fun QQ => ?_)
 refine Tr.asg rfl rfl (Tr.nil (Tr.zA (Tr.seq (Tr.sr (Tr.va rfl (fun _ _ a c => zC zb2 (a.ev rfl) (rdR hb0 hc0 c) rfl) ?_)))))
 refine Tr.va rfl (fun _ _ a c => zB zKZ (a.ev rfl)) ?_
 refine Tr.va rfl (fun _ _ a c => ze (cs := [iv p0.to_.X, iv p0.to_.Y]) WP KI (a.ev rfl) (zQ.take (rdb c (vs := [iv p0.from_.X, iv p0.from_.Y, iv p0.to_.X, iv p0.to_.Y]) (k := 1) rfl 2) 2) rfl) ?_
 obtain ⟨zFp, zTx, H⟩ := bnd H
 obtain ⟨zJX, zJT, hsl101, hkl101⟩ := hmq0.look zTx
 refine Tr.va rfl (fun _ _ a c => hkl101 c zZY zaG zZD (a.ev rfl) (a.ev rfl)) ?_
 refine Tr.va rfl (fun _ _ a c => zf Vu (a.ev rfl)) ?_
 refine Tr.mv rfl rfl (Tr.nil (Tr.zA (Tr.block (Tr.loop (σ := (List Int) × Nat) (fun m w s => m = s.1.length + 1 ∧ s.1 = List.drop s.2 zFp ∧ s.2 ≤ zFp.length ∧ QG p0 q1 q3 q4 s.1 s.2 = some r) (fun s => [(2, pV bq1), (3, pV bq2), (4, pV bq3), (5, pV QQ), (12, sL zJX zFp zJT), (13, iv (zFp.length : Int)), (14, iv (s.2 : Int))]) (fun s => [(1, bx QQ #[iv p0.from_.X, iv p0.from_.Y, iv p0.to_.X, iv p0.to_.Y] 72)]) (zFp.length + 1) (zFp, 0) ⟨rfl, rfl, Nat.zero_le _, H⟩ (.cons rfl (.cons rfl (.cons rfl (.cons rfl (.cons rfl (.cons rfl (.cons rfl .nil))))))) (.cons rfl .nil) (fun _ _ h => absurd h.1 (by simp)) ?_))))
 intro w QI m s hs
 obtain ⟨zV, iL1⟩ := s
 obtain ⟨Vn, QK, hiL1, H⟩ := hs
 replace QK : zV = List.drop iL1 zFp := QK
 replace H : QG p0 q1 q3 q4 zV iL1 = some r := H
 replace Vn : m + 1 = zV.length + 1 := Vn
 replace hc1 := QI.ext.cells hb1 hc1
 replace hb1 := QI.r _ hb1
 replace zXA := zXA.leR QI
 replace hc2 := QI.ext.cells hb2 hc2
 replace hb2 := QI.r _ hb2
 replace hc4 := QI.ext.cells hb4 hc4
 replace hb4 := QI.r _ hb4
 replace hmq4 := hmq4.leR QI
 replace hc5 := QI.ext.cells hb5 hc5
 replace hb5 := QI.r _ hb5
 replace hc3 := QI.ext.cells hb3 hc3
 replace hb3 := QI.r _ hb3
 replace zW9 := zW9.leR QI
 replace hsl101 := hsl101.leR QI
 replace leB := leB.trans QI
 obtain rfl : m = zV.length := by omega
 clear Vn
 show Tr _ _ (LF [(2, pV bq1), (3, pV bq2), (4, pV bq3), (5, pV QQ), (12, sL zJX zFp zJT), (13, iv (zFp.length : Int)), (14, iv (iL1 : Int))]) (LE [(1, bx QQ #[iv p0.from_.X, iv p0.from_.Y, iv p0.to_.X, iv p0.to_.Y] 72)]) _
 cases zV with
 | nil =>
  rw [QG.eq_1] at H
  refine Tr.sr (Tr.va rfl (fun _ _ a c => zh (a.ev rfl) (a.ev rfl)) ?_)
  refine Tr.nil (Tr.zA (Tr.seq (Tr.zBN rfl (KF QK) ?_)))
  refine Tr.exit (Tr.zP (Tr.zP (Tr.zl (Tr.zA (Tr.sr (Tr.asg rfl rfl (Tr.nil (Tr.zA (Tr.ret ?_)))))))))
  obtain rfl := oI H
  exact Tr.out (m := [iv (-1)]) [] (zU rfl zY) (fun W hW => ⟨rfl, hW.low leB⟩)
 | cons xL1 zV =>
  rw [QG.eq_2] at H
  refine Tr.sr (Tr.va rfl (fun _ _ a c => zh (a.ev rfl) (a.ev rfl)) ?_)
  refine Tr.nil (Tr.zA (Tr.seq (Tr.zBM rfl (VD QK) ?_)))
  refine Tr.skip (Tr.zA (Tr.seq (Tr.block (Tr.sr (Tr.va rfl (fun _ _ a c => zD Kb (a.ev rfl) hsl101.form (a.ev rfl) (Int.natCast_nonneg _) (QF QK)) ?_)))))
  refine Tr.va rfl (fun _ _ a c => zC QA (a.ev rfl) (rdF Jd hsl101 (Kv QK) c) rfl) ?_
  refine Tr.asg rfl rfl (Tr.nil (Tr.zA (Tr.seq (Tr.draw (by kernel_rfl) (by kernel_rfl) ?_))))
  refine Tq.va rfl (fun _ _ a c => zC zUc (a.ev rfl) (rdR hb1 hc1 c) rfl) ?_
  refine Tq.mv rfl rfl ?_
  obtain ⟨zAm, zah, H⟩ := bnd H
  obtain ⟨zVw, zVv, zVu⟩ := zO zah
  refine Tq.va rfl (fun _ _ a c => zD zKc (a.ev rfl) zXA.form (a.ev rfl) zVw zVv) ?_
  refine Tq.va rfl (fun _ _ a c => zC zY8 (a.ev rfl) (rdF zI1 zXA zVu c) rfl) ?_
  refine Tq.va rfl (fun _ _ a c => Wm (a.ev rfl)) ?_
  refine Tq.mv rfl rfl ?_
  obtain ⟨zSL, zGm, H⟩ := bnd H
  refine Tq.mid 8 [(2, pV bq1), (3, pV bq2), (4, pV bq3), (5, pV QQ), (8, iv xL1), (12, sL zJX zFp zJT), (13, iv (zFp.length : Int)), (14, iv (iL1 : Int)), (31, bV zSL)] ?_ ?_
  ·cases zT3 : (!zAm)
   ·rw [zT3] at zGm
    rw [if_neg (by decide)] at zGm
    have H := zGm
    obtain rfl := oI H
    refine Tq.pass rfl rfl rfl rfl rfl (by decide) ?_
    refine Tq.pass rfl rfl rfl rfl rfl (by decide) ?_
    refine Tq.pass rfl rfl rfl rfl rfl (by decide) ?_
    refine Tq.pass rfl rfl rfl rfl rfl (by decide) ?_
    refine Tq.pass rfl rfl rfl rfl rfl (by decide) ?_
    refine Tq.pass rfl rfl rfl rfl rfl (by decide) ?_
    refine Tq.pass rfl rfl rfl rfl rfl (by decide) ?_
    refine Tq.va rfl (fun _ _ a c => zy (a.ev rfl) (a.ev rfl)) ?_
    exact Tq.fin (.cons rfl (.cons rfl (.cons rfl (.cons rfl (.cons rfl (.cons rfl (.cons rfl (.cons rfl (.cons rfl .nil)))))))))
   ·rw [zT3] at zGm
    rw [if_pos rfl] at zGm
    have H := zGm
    refine Tq.val (wg rfl rfl rfl) rfl (fun _ _ a c => zC zew (a.ev rfl) (rdR hb2 hc2 c) rfl) ?_
    refine Tq.val (wg rfl rfl rfl) rfl (fun _ _ a c => ze (cs := [iv p0.from_.X, iv p0.from_.Y, iv p0.to_.X, iv p0.to_.Y]) zGv zER (a.ev rfl) (zQ.take (rdb c (vs := [iv p0.from_.X, iv p0.from_.Y, iv p0.to_.X, iv p0.to_.Y]) (k := 1) rfl 0) 4) rfl) ?_
    refine Tq.val (wg rfl rfl rfl) rfl (fun _ _ a c => zC zHk (a.ev rfl) (rdR hb3 hc3 c) rfl) ?_
    refine Tq.val (wg rfl rfl rfl) rfl (fun _ _ a c => run_move (a.ev rfl)) ?_
    obtain ⟨x114, hx114, H⟩ := bnd H
    obtain ⟨zkL, zkK, zkJ⟩ := zO hx114
    refine Tq.val (wg rfl rfl rfl) rfl (fun _ _ a c => zD zJP (a.ev rfl) zW9.form (a.ev rfl) zkL zkK) ?_
    refine Tq.val (wg rfl rfl rfl) rfl (fun _ _ a c => ze (cs := [iv x114.from_.X, iv x114.from_.Y, iv x114.to_.X, iv x114.to_.Y]) zGv zER (a.ev rfl) (zQ.take (rdF zCu zW9 zkJ c) 4) rfl) ?_
    obtain ⟨y115, hy115, H⟩ := bnd H
    refine Tq.zHj (r := (bV y115)) (wg rfl rfl rfl) rfl rfl Tryz.call41 (zI rfl (zI rfl zX)) (fun W hW => zAk p0 x114 q4 bmq4 (hmq4.ext hW.Ky) bq4 (hW.Ky.r _ hb4) (hW.Ky.cells hb4 hc4) bq5 (hW.Ky.r _ hb5) (hW.Ky.cells hb5 hc5) y115 hy115 (HF.start _)) ?_
    refine Tq.va rfl (fun _ _ a c => zx (a.ev rfl) (a.ev rfl)) ?_
    obtain rfl := oI H
    exact Tq.fin (.cons rfl (.cons rfl (.cons rfl (.cons rfl (.cons rfl (.cons rfl (.cons rfl (.cons rfl (.cons rfl .nil)))))))))
  ·refine Tq.nil (Tr.zA (Tr.cond rfl H (fun H => ?_) (fun H => ?_)))
   ·refine Tr.sr (Tr.mv rfl rfl (Tr.asg rfl rfl (Tr.nil (Tr.zA (Tr.ret (Tr.QY (Tr.zq (Tr.zq (Tr.QY (Tr.zq ?_))))))))))
    obtain rfl := oI H
    exact Tr.out (m := [iv xL1]) [] (zU rfl zY) (fun W hW => ⟨rfl, hW.low leB⟩)
   ·refine Tr.skip (Tr.zb (Tr.zA (Tr.region (Tr.va rfl (fun _ _ a c => zg (a.ev rfl) (a.ev rfl)) ?_))))
    exact Tr.mv rfl rfl (Tr.nil (Tr.zZ QI (zV, (iL1 + 1)) ⟨rfl, Jh QK, QF QK, H⟩ (.cons rfl (.cons rfl (.cons rfl (.cons rfl (.cons rfl (.cons rfl (.cons (congrArg (fun z => some (Value.int .i64 z)) (Jg QK hsl101.form)) .nil))))))) (.cons rfl .nil)))

theorem zGz (N : Nat) {w : Bs} (p0 : (List JD)) (zF : Option Addr) (zH : Nat) (zK : Sl w.R w.W Qi zF zH p0) (r : (List (List zG))) (H : zAT N p0 = some r) (hE : HF w w.W (LEn [emp])) : Calls Tryz.prog 14 [sL zF p0 zH].toArray w.W fun e W' => ∃ (w' : Bs) (u : (Option Addr × Nat)), w.Le w' ∧ e = .returned (sL u.1 r u.2) ∧ (SlF u.1 r.length u.2) ∧ HF w' W' (LEn [ow u.1 u.2 30 zS r]) := by
 unfold zAT at H
 have leB := Bs.Le.refl w
 refine Tr.enter (n := 100) Tryz.func14 rfl rfl rfl hE ?_
 refine Tr.sr (Tr.asg rfl rfl (Tr.Qb 1 30 zS ?_))
 show Tr _ _ (uf _ 2 (sL none (([] : List (List zG))) 0)) _ _
 refine Tr.nil (Tr.zA (Tr.sr (Tr.mv rfl rfl ?_)))
 obtain ⟨zN, zAQ, H⟩ := bnd H
 refine Tr.zAi [2] [emp] (U := (Option Addr × Nat)) (fun u => (sL u.1 zN u.2)) (fun u => SlF u.1 zN.length u.2) (fun u => [ow u.1 u.2 72 QJ zN]) rfl (zn rfl zw) (fun _ => rfl) (wn rfl) rfl Tryz.call38 (zI rfl zX) (fun W hW hp hE => zHw N p0 zF zH (zK.ext (hW.zCA hp)) zN zAQ hE) ?_
 intro u hu
 obtain ⟨zR, zT⟩ := u
 have gy100_0 := hu
 have QZ : SlF zR zN.length zT := gy100_0 --@phi
 show Tr _ _ (uf _ 16 (sL zR zN zT)) (up _ 2 (ow zR zT 72 QJ zN)) _
 refine Tr.alloc 3 (wn rfl) rfl zd3 fun WS => ?_
 refine Tr.store 3 (cs := [sL zR zN zT]) [sL zR zN zT] (wn rfl) rfl rfl rfl rfl zeC rfl rfl rfl ?_
 refine Tr.nil (Tr.zA (Tr.sr (Tr.zZo zPo okP 4 3 zW (wn rfl) rfl fun zGQ => ?_)))
 refine Tr.alloc 5 (wn rfl) rfl zlK fun WR => ?_
 refine Tr.store 5 (cs := [(.map (some zGQ))]) [(.map (some zGQ))] (wn rfl) rfl rfl rfl rfl zli rfl rfl rfl ?_
 refine Tr.nil (Tr.zA (Tr.seq (Tr.sr (Tr.va rfl (fun _ _ a c => zC zHk (a.ev rfl) (rdb c (vs := [sL zR zN zT]) (k := 3) rfl 0) rfl) ?_))))
 refine Tr.va rfl (fun _ _ a c => zf zLu (a.ev rfl)) ?_
 refine Tr.mv rfl rfl (Tr.nil (Tr.zA (Tr.block (Tr.loop (σ := (List Qw) × Nat × (List ((Int × Int) × List Int)) × (List (KE (Int × Int) Int))) (fun m w s => m = s.1.length + 1 ∧ s.1 = List.drop s.2.1 zN ∧ s.2.1 ≤ zN.length ∧ Qs N zN s.1 s.2.1 s.2.2.1 = some r ∧ MQ s.2.2.2 s.2.2.1) (fun s => [(3, pV WS), (4, pV WR), (18, sL zR zN zT), (19, iv (zN.length : Int)), (20, iv (s.2.1 : Int))]) (fun s => [(2, ow zR zT 72 QJ zN), (3, bx WS #[sL zR zN zT] 68), (4, mq zPo okP zGQ 3 zW s.2.2.2), (5, bx WR #[(.map (some zGQ))] 70)]) (zN.length + 1) (zN, 0, ([] : List ((Int × Int) × List Int)), ([] : List (KE (Int × Int) Int))) ⟨rfl, rfl, Nat.zero_le _, H, MQ.nil⟩ (.cons rfl (.cons rfl (.cons rfl (.cons rfl (.cons rfl .nil))))) (.cons rfl (.cons rfl (.cons rfl (.cons rfl .nil)))) (fun _ _ h => absurd h.1 (by simp)) ?_))))
 intro w QI m s hs
 obtain ⟨zV, iL1, m123, msm123⟩ := s
 obtain ⟨Vn, QK, hiL1, H, hm123⟩ := hs
 replace QK : zV = List.drop iL1 zN := QK
 replace H : Qs N zN zV iL1 m123 = some r := H
 replace Vn : m + 1 = zV.length + 1 := Vn
 replace leB := leB.trans QI
 replace hm123 : MQ msm123 m123 := hm123
 obtain rfl : m = zV.length := by omega
 clear Vn
 show Tr _ _ (LF [(3, pV WS), (4, pV WR), (18, sL zR zN zT), (19, iv (zN.length : Int)), (20, iv (iL1 : Int))]) (LE [(2, ow zR zT 72 QJ zN), (3, bx WS #[sL zR zN zT] 68), (4, mq zPo okP zGQ 3 zW msm123), (5, bx WR #[(.map (some zGQ))] 70)]) _
 cases zV with
 | nil =>
  rw [Qs.eq_1] at H
  refine Tr.sr (Tr.va rfl (fun _ _ a c => zh (a.ev rfl) (a.ev rfl)) ?_)
  refine Tr.nil (Tr.zA (Tr.seq (Tr.zBN rfl (KF QK) ?_)))
  refine Tr.exit (Tr.zP (Tr.zP (Tr.zl (Tr.zA (Tr.seq (Tr.zYo 4 rfl hm123 fun w zW6 zGh => ?_))))))
  replace leB := leB.trans zW6
  refine Tr.region (Tr.va rfl (fun _ _ a c => zC zHk (a.ev rfl) (rdb c (vs := [sL zR zN zT]) (k := 3) rfl 0) rfl) ?_)
  refine Tr.va rfl (fun _ _ a c => zf zLu (a.ev rfl)) ?_
  obtain ⟨zKR, za0, H⟩ := bnd H
  refine Tr.makeSlice 12 VQ false (wn rfl) rfl rfl rfl zZX zYY rfl zey zkx rfl ⟨(), fun _ _ => zRi _ _ _ _, rfl⟩ za0 fun zky zkc => ?_
  refine Tr.alloc 13 (wn rfl) rfl zlJ fun zDo => ?_
  refine Tr.store 13 (cs := [sL (some ⟨zky, 0, none⟩) zKR zKR.length]) [sL (some ⟨zky, 0, none⟩) zKR zKR.length] (wn rfl) rfl rfl rfl rfl zeB rfl rfl rfl ?_
  refine Tr.nil (Tr.zA (Tr.sr (Tr.alloc 14 (wn rfl) rfl zlI fun zBc => ?_)))
  refine Tr.store 14 (cs := [.func (.func 39) #[] #[]]) [.func (.func 39) #[] #[]] (wn rfl) rfl rfl rfl rfl zlh rfl rfl rfl ?_
  refine Tr.nil (Tr.zA (Tr.sr (Tr.zIC (vs := [pV WR, pV zBc]) (wn rfl) rfl (zI rfl (zI rfl zX)) ?_)))
  refine Tr.alloc 15 (wn rfl) rfl zlH fun zD4 => ?_
  refine Tr.store 15 (cs := [.func (.func 41) #[] #[pV WR, pV zBc]]) [.func (.func 41) #[] #[pV WR, pV zBc]] (wn rfl) rfl rfl rfl rfl zlg rfl rfl rfl ?_
  refine Tr.nil (Tr.zA (Tr.sr (Tr.zIC (vs := [pV WR, pV zDo, pV zD4, pV WS]) (wn rfl) rfl (zI rfl (zI rfl (zI rfl (zI rfl zX)))) ?_)))
  refine Tr.asg rfl rfl (Tr.nil (Tr.zA (Tr.sr (Tr.asg rfl rfl (Tr.Qb 16 30 zS ?_)))))
  show Tr _ _ (uf _ 11 (sL none (([] : List (List zG))) 0)) _ _
  refine Tr.nil (Tr.zA (Tr.seq (Tr.sr (Tr.va rfl (fun _ _ a c => zC zHk (a.ev rfl) (rdb c (vs := [sL zR zN zT]) (k := 3) rfl 0) rfl) ?_))))
  refine Tr.va rfl (fun _ _ a c => zf zLu (a.ev rfl)) ?_
  refine Tr.mv rfl rfl (Tr.nil (Tr.zA (Tr.block (Tr.loop (σ := (List Qw) × Nat × (List Bool) × (List (List zG)) × (Option Addr) × Nat × (Option Addr) × Nat) (fun m w s => m = s.1.length + 1 ∧ s.1 = List.drop s.2.1 zN ∧ s.2.1 ≤ zN.length ∧ QH N zN m123 s.1 s.2.1 s.2.2.1 s.2.2.2.1 = some r ∧ SlF s.2.2.2.2.1 s.2.2.1.length s.2.2.2.2.2.1 ∧ SlF s.2.2.2.2.2.2.1 s.2.2.2.1.length s.2.2.2.2.2.2.2) (fun s => [(3, pV WS), (7, pV zDo), (9, pV zD4), (10, .func (.func 42) #[] #[pV WR, pV zDo, pV zD4, pV WS]), (11, sL s.2.2.2.2.2.2.1 s.2.2.2.1 s.2.2.2.2.2.2.2), (41, iv (zN.length : Int)), (42, iv (s.2.1 : Int))]) (fun s => [(2, ow zR zT 72 QJ zN), (3, bx WS #[sL zR zN zT] 68), (5, bx WR #[(.map (some zGQ))] 70), (12, ow s.2.2.2.2.1 s.2.2.2.2.2.1 4 VQ s.2.2.1), (13, bx zDo #[sL s.2.2.2.2.1 s.2.2.1 s.2.2.2.2.2.1] 73), (14, bx zBc #[.func (.func 39) #[] #[]] 75), (15, bx zD4 #[.func (.func 41) #[] #[pV WR, pV zBc]] 76), (16, ow s.2.2.2.2.2.2.1 s.2.2.2.2.2.2.2 30 zS s.2.2.2.1)]) (zN.length + 1) (zN, 0, zKR, ([] : List (List zG)), (some ⟨zky, 0, none⟩), zKR.length, none, 0) ⟨rfl, rfl, Nat.zero_le _, H, zkc, Jm⟩ (.cons rfl (.cons rfl (.cons rfl (.cons rfl (.cons rfl (.cons rfl (.cons rfl .nil))))))) (.cons rfl (.cons rfl (.cons rfl (.cons rfl (.cons rfl (.cons rfl (.cons rfl (.cons rfl .nil)))))))) (fun _ _ h => absurd h.1 (by simp)) ?_))))
  intro w zKO m s hs
  obtain ⟨zAF, iL8, zKP, zCT, zMH, zMB, zCI, zCC⟩ := s
  obtain ⟨zV6, zEJ, hiL8, H, zTt, zXD⟩ := hs
  replace zEJ : zAF = List.drop iL8 zN := zEJ
  replace H : QH N zN m123 zAF iL8 zKP zCT = some r := H
  replace zV6 : m + 1 = zAF.length + 1 := zV6
  replace zGh := zGh.leR zKO
  replace leB := leB.trans zKO
  replace zTt : SlF zMH zKP.length zMB := zTt
  replace zXD : SlF zCI zCT.length zCC := zXD
  obtain rfl : m = zAF.length := by omega
  clear zV6
  show Tr _ _ (LF [(3, pV WS), (7, pV zDo), (9, pV zD4), (10, .func (.func 42) #[] #[pV WR, pV zDo, pV zD4, pV WS]), (11, sL zCI zCT zCC), (41, iv (zN.length : Int)), (42, iv (iL8 : Int))]) (LE [(2, ow zR zT 72 QJ zN), (3, bx WS #[sL zR zN zT] 68), (5, bx WR #[(.map (some zGQ))] 70), (12, ow zMH zMB 4 VQ zKP), (13, bx zDo #[sL zMH zKP zMB] 73), (14, bx zBc #[.func (.func 39) #[] #[]] 75), (15, bx zD4 #[.func (.func 41) #[] #[pV WR, pV zBc]] 76), (16, ow zCI zCC 30 zS zCT)]) _
  cases zAF with
  | nil =>
   rw [QH.eq_1] at H
   refine Tr.sr (Tr.va rfl (fun _ _ a c => zh (a.ev rfl) (a.ev rfl)) ?_)
   refine Tr.nil (Tr.zA (Tr.seq (Tr.zBN rfl (KF zEJ) ?_)))
   refine Tr.exit (Tr.zP (Tr.zP (Tr.zl (Tr.zA (Tr.sr (Tr.mv rfl rfl ?_))))))
   obtain ⟨zML, zmY, H⟩ := bnd H
   refine Tr.zAi [16] [ow zCI zCC 30 zS zCT] (U := Unit) (fun u => (.tuple #[])) (fun u => zML.length = zCT.length) (fun u => [ow zCI zCC 30 zS zML]) rfl (zn rfl zw) (fun _ => rfl) (wn rfl) rfl Tryz.call44 (zI rfl (zI rfl zX)) (fun W hW hp hE => zEo zCT zCI zCC (fun z0 z1 => Qd z0 z1) 45 [] Tryz.call45 (fun w' he z0 A0 c0 h0 z1 A1 c1 a y hy => zFs z0 A0 c0 h0 z1 A1 c1 a y hy (HF.start _)) zML zmY hE) ?_
   intro u hu
   have gky404_0 := hu
   have zLi : zML.length = zCT.length := gky404_0 --@phi
   have zYv : SlF zCI zML.length zCC := by rw [zLi]; exact zXD
   show Tr _ _ (uf _ 98 (.tuple #[])) (up _ 16 (ow zCI zCC 30 zS zML)) _
   refine Tr.sel (lf := [(3, pV WS), (7, pV zDo), (9, pV zD4), (10, .func (.func 42) #[] #[pV WR, pV zDo, pV zD4, pV WS]), (11, sL zCI zML zCC), (41, iv (zN.length : Int)), (42, iv (iL8 : Int)), (43, bV (decide ((iL8 : Int) < (zN.length : Int)))), (97, sL zCI zML zCC), (98, (.tuple #[]))]) (le := [(2, ow zR zT 72 QJ zN), (3, bx WS #[sL zR zN zT] 68), (5, bx WR #[(.map (some zGQ))] 70), (12, ow zMH zMB 4 VQ zKP), (13, bx zDo #[sL zMH zKP zMB] 73), (14, bx zBc #[.func (.func 39) #[] #[]] 75), (15, bx zD4 #[.func (.func 41) #[] #[pV WR, pV zBc]] 76), (16, ow zCI zCC 30 zS zML)]) (.cons rfl (.cons rfl (.cons rfl (.cons rfl (.cons (zAg rfl (by unfold sL; rw [zLi])) (.cons rfl (.cons rfl (.cons rfl (.cons (zAg rfl (by unfold sL; rw [zLi])) (.cons rfl .nil)))))))))) (.cons rfl (.cons rfl (.cons rfl (.cons rfl (.cons rfl (.cons rfl (.cons rfl (.cons rfl .nil)))))))) ?_
   refine Tr.nil (Tr.zA (Tr.sr (Tr.mv rfl rfl (Tr.asg rfl rfl (Tr.nil (Tr.zA (Tr.ret ?_)))))))
   obtain rfl := oI H
   exact Tr.out (m := [sL zCI zML zCC]) [] (zU rfl zY) (fun W hW => ⟨w, (zCI, zCC), leB, rfl, zYv, hW.pick (ks := [16]) (by decide) (zn rfl zw)⟩)
  | cons xL8 zAF =>
   rw [QH.eq_2] at H
   refine Tr.sr (Tr.va rfl (fun _ _ a c => zh (a.ev rfl) (a.ev rfl)) ?_)
   refine Tr.nil (Tr.zA (Tr.seq (Tr.zBM rfl (VD zEJ) ?_)))
   refine Tr.skip (Tr.zA (Tr.seq (Tr.block (Tr.sr (Tr.mv rfl rfl (Tr.asg rfl rfl (Tr.nil (Tr.zA (Tr.seq (Tr.sr ?_))))))))))
   refine Tr.va rfl (fun _ _ a c => zC zUc (a.ev rfl) (rdb c (vs := [sL zMH zKP zMB]) (k := 13) rfl 0) rfl) ?_
   refine Tr.mv rfl rfl ?_
   obtain ⟨zlP, znj, H⟩ := bnd H
   obtain ⟨zhd, zhc, zhb⟩ := zO znj
   refine Tr.va rfl (fun _ _ a c => zD zKc (a.ev rfl) zTt (a.ev rfl) zhd zhc) ?_
   refine Tr.va rfl (fun _ _ a c => zC zY8 (a.ev rfl) (rdo zI1 (k := 12) c rfl zhb) rfl) ?_
   refine Tr.nil (Tr.zA (Tr.cond rfl H (fun H => ?_) (fun H => ?_)))
   ·refine Tr.exit (Tr.zP (Tr.zl (Tr.zA (Tr.region (Tr.va rfl (fun _ _ a c => zg (a.ev rfl) (a.ev rfl)) ?_)))))
    exact Tr.mv rfl rfl (Tr.nil (Tr.zZ zKO (zAF, (iL8 + 1), zKP, zCT, zMH, zMB, zCI, zCC) ⟨rfl, Jh zEJ, QF zEJ, H, zTt, zXD⟩ (.cons rfl (.cons rfl (.cons rfl (.cons rfl (.cons rfl (.cons rfl (.cons (congrArg (fun z => some (Value.int .i64 z)) (Jg zEJ QZ)) .nil))))))) (.cons rfl (.cons rfl (.cons rfl (.cons rfl (.cons rfl (.cons rfl (.cons rfl (.cons rfl .nil))))))))))
   ·refine Tr.skip (Tr.zA (Tr.sr (Tr.asg rfl rfl (Tr.Qb 35 72 QJ ?_))))
    show Tr _ _ (uf _ 13 (sL none (([] : List Qw)) 0)) _ _
    refine Tr.nil (Tr.zA ?_)
    have leJ455 := Bs.Le.refl w
    refine Tr.zSV (σ := (List Bool) × (List Qw) × (Option Addr) × Nat × (Option Addr) × Nat) (fun w s => Kn zCT (QH N zN m123 zAF (iL8 + 1)) s.1 s.2.1 = some r ∧ SlF s.2.2.1 s.1.length s.2.2.2.1 ∧ SlF s.2.2.2.2.1 s.2.1.length s.2.2.2.2.2) (fun s => [(3, pV WS), (7, pV zDo), (9, pV zD4), (10, .func (.func 42) #[] #[pV WR, pV zDo, pV zD4, pV WS]), (11, sL zCI zCT zCC), (13, sL s.2.2.2.2.1 s.2.1 s.2.2.2.2.2), (41, iv (zN.length : Int)), (42, iv (iL8 : Int))]) (fun s => [(2, ow zR zT 72 QJ zN), (3, bx WS #[sL zR zN zT] 68), (5, bx WR #[(.map (some zGQ))] 70), (12, ow s.2.2.1 s.2.2.2.1 4 VQ s.1), (13, bx zDo #[sL s.2.2.1 s.1 s.2.2.2.1] 73), (14, bx zBc #[.func (.func 39) #[] #[]] 75), (15, bx zD4 #[.func (.func 41) #[] #[pV WR, pV zBc]] 76), (16, ow zCI zCC 30 zS zCT), (35, ow s.2.2.2.2.1 s.2.2.2.2.2 72 QJ s.2.1)]) ?_ ?_
    ·refine Tr.sr (Tr.mv rfl rfl (Tr.asg rfl rfl (Tr.nil (Tr.zA (Tr.block (Tr.loop (σ := (List Bool) × (List Qw) × Int × (Option Addr) × Nat × (Option Addr) × Nat) (fun m w s => Km zN m123 zCT (QH N zN m123 zAF (iL8 + 1)) xL8 m s.1 s.2.1 s.2.2.1 = some r ∧ SlF s.2.2.2.1 s.1.length s.2.2.2.2.1 ∧ SlF s.2.2.2.2.2.1 s.2.1.length s.2.2.2.2.2.2) (fun s => [(3, pV WS), (7, pV zDo), (9, pV zD4), (10, .func (.func 42) #[] #[pV WR, pV zDo, pV zD4, pV WS]), (11, sL zCI zCT zCC), (12, iv (iL8 : Int)), (13, sL s.2.2.2.2.2.1 s.2.1 s.2.2.2.2.2.2), (14, iv s.2.2.1), (41, iv (zN.length : Int)), (42, iv (iL8 : Int))]) (fun s => [(2, ow zR zT 72 QJ zN), (3, bx WS #[sL zR zN zT] 68), (5, bx WR #[(.map (some zGQ))] 70), (12, ow s.2.2.2.1 s.2.2.2.2.1 4 VQ s.1), (13, bx zDo #[sL s.2.2.2.1 s.1 s.2.2.2.2.1] 73), (14, bx zBc #[.func (.func 39) #[] #[]] 75), (15, bx zD4 #[.func (.func 41) #[] #[pV WR, pV zBc]] 76), (16, ow zCI zCC 30 zS zCT), (35, ow s.2.2.2.2.2.1 s.2.2.2.2.2.2 72 QJ s.2.1)]) N (zKP, ([] : List Qw), (iL8 : Int), zMH, zMB, none, 0) ⟨H, zTt, Jm⟩ (.cons rfl (.cons rfl (.cons rfl (.cons rfl (.cons rfl (.cons rfl (.cons rfl (.cons rfl (.cons rfl (.cons rfl .nil)))))))))) (.cons rfl (.cons rfl (.cons rfl (.cons rfl (.cons rfl (.cons rfl (.cons rfl (.cons rfl (.cons rfl .nil))))))))) (fun _ _ h => KG (h.1)) ?_))))))
     intro w zZt zfV s hs
     obtain ⟨zOE, zOD, zI9, zHm, zHi, zRU, zRC⟩ := s
     obtain ⟨H, zTr, zao⟩ := hs
     replace H : Km zN m123 zCT (QH N zN m123 zAF (iL8 + 1)) xL8 (zfV + 1) zOE zOD zI9 = some r := H
     replace zGh := zGh.leR zZt
     replace leJ455 := leJ455.trans zZt
     replace zTr : SlF zHm zOE.length zHi := zTr
     replace zao : SlF zRU zOD.length zRC := zao
     rw [Km.eq_2] at H
     show Tr _ _ (LF [(3, pV WS), (7, pV zDo), (9, pV zD4), (10, .func (.func 42) #[] #[pV WR, pV zDo, pV zD4, pV WS]), (11, sL zCI zCT zCC), (12, iv (iL8 : Int)), (13, sL zRU zOD zRC), (14, iv zI9), (41, iv (zN.length : Int)), (42, iv (iL8 : Int))]) (LE [(2, ow zR zT 72 QJ zN), (3, bx WS #[sL zR zN zT] 68), (5, bx WR #[(.map (some zGQ))] 70), (12, ow zHm zHi 4 VQ zOE), (13, bx zDo #[sL zHm zOE zHi] 73), (14, bx zBc #[.func (.func 39) #[] #[]] 75), (15, bx zD4 #[.func (.func 41) #[] #[pV WR, pV zBc]] 76), (16, ow zCI zCC 30 zS zCT), (35, ow zRU zRC 72 QJ zOD)]) _
     refine Tr.seq (Tr.sr (Tr.mv rfl rfl (Tr.va rfl (fun _ _ a c => zEz (a.ev rfl) (a.ev rfl)) ?_)))
     refine Tr.nil (Tr.zA (Tr.cond rfl H (fun H => ?_) (fun H => ?_)))
     ·refine Tr.skip (Tr.zA (Tr.seq (Tr.block (Tr.sr (Tr.va rfl (fun _ _ a c => zC zUc (a.ev rfl) (rdb c (vs := [sL zHm zOE zHi]) (k := 13) rfl 0) rfl) ?_)))))
      refine Tr.mv rfl rfl ?_
      obtain ⟨zqg, znc, H⟩ := bnd H
      obtain ⟨zhI, zhH, zhG⟩ := zO znc
      refine Tr.va rfl (fun _ _ a c => zD zKc (a.ev rfl) zTr (a.ev rfl) zhI zhH) ?_
      obtain ⟨zOC, zeY, H⟩ := bnd H
      have zV4 := zFS zeY
      refine Tr.zFz 12 (t := VQ) (l := zOE) (i := zI9) (fo := 0) (cs := [bV true]) true (wn rfl) rfl rfl rfl rfl rfl zhG zYY rfl (fun u _ => ⟨u, trivial, rfl⟩) rfl zeY ?_
      have zbS : SlF zHm zOC.length zHi := by rw [zV4]; exact zTr
      refine Tr.sel (lf := [(3, pV WS), (7, pV zDo), (9, pV zD4), (10, .func (.func 42) #[] #[pV WR, pV zDo, pV zD4, pV WS]), (11, sL zCI zCT zCC), (12, iv (iL8 : Int)), (13, sL zRU zOD zRC), (14, iv zI9), (41, iv (zN.length : Int)), (42, iv (iL8 : Int)), (50, iv zI9), (51, bV (decide (0 ≤ zI9))), (58, sL zHm zOC zHi), (59, iv zI9)]) (le := [(2, ow zR zT 72 QJ zN), (3, bx WS #[sL zR zN zT] 68), (5, bx WR #[(.map (some zGQ))] 70), (12, ow zHm zHi 4 VQ zOC), (13, bx zDo #[sL zHm zOC zHi] 73), (14, bx zBc #[.func (.func 39) #[] #[]] 75), (15, bx zD4 #[.func (.func 41) #[] #[pV WR, pV zBc]] 76), (16, ow zCI zCC 30 zS zCT), (35, ow zRU zRC 72 QJ zOD)]) (.cons rfl (.cons rfl (.cons rfl (.cons rfl (.cons rfl (.cons rfl (.cons rfl (.cons rfl (.cons rfl (.cons rfl (.cons rfl (.cons rfl (.cons (zAg rfl (by unfold sL; rw [zV4])) (.cons rfl .nil)))))))))))))) (.cons rfl (.cons rfl (.cons rfl (.cons rfl (.cons (ebx rfl (by unfold sL; rw [zV4])) (.cons rfl (.cons rfl (.cons rfl (.cons rfl .nil))))))))) ?_
      refine Tr.nil (Tr.zA (Tr.sr (Tr.mv rfl rfl (Tr.va rfl (fun _ _ a c => zC zHk (a.ev rfl) (rdb c (vs := [sL zR zN zT]) (k := 3) rfl 0) rfl) ?_))))
      refine Tr.mv rfl rfl ?_
      obtain ⟨zFK, znb, H⟩ := bnd H
      obtain ⟨zhF, zhE, zhD⟩ := zO znb
      refine Tr.va rfl (fun _ _ a c => zD zJP (a.ev rfl) QZ (a.ev rfl) zhF zhE) ?_
      refine Tr.va rfl (fun _ _ a c => ze (cs := [iv zFK.from_.X, iv zFK.from_.Y, iv zFK.to_.X, iv zFK.to_.Y]) zGv zER (a.ev rfl) (zQ.take (rdo zCu (k := 2) c rfl zhD) 4) rfl) ?_
      refine Tr.buildSlice 43 (e := 72) (vs := [(0, .agg #[iv zFK.from_.X, iv zFK.from_.Y, iv zFK.to_.X, iv zFK.to_.Y])]) (cs := [iv zFK.from_.X, iv zFK.from_.Y, iv zFK.to_.X, iv zFK.to_.Y]) (wn rfl) rfl (zi rfl Qh) (by kernel_rfl) fun zr3 => ?_
      obtain ⟨zYp, zou, H⟩ := bnd H
      refine Tr.append 35 (t := QJ) (l := zOD) (l2 := [zFK]) (wn rfl) rfl rfl rfl rfl (fun W hW => ⟨[[iv zFK.from_.X, iv zFK.from_.Y, iv zFK.to_.X, iv zFK.to_.Y]], (.cons ⟨(), trivial, rfl⟩ .nil), rdb hW (vs := [iv zFK.from_.X, iv zFK.from_.Y, iv zFK.to_.X, iv zFK.to_.Y]) (k := 43) rfl 0⟩) zLu zER zd1 (by decide) zeu rfl zou fun zb8 zbt hAl500 => ?_
      refine Tr.asg rfl rfl (Tr.nil (Tr.zA (Tr.seq (Tr.draw (by kernel_rfl) (by kernel_rfl) ?_))))
      refine Tq.va rfl (fun _ _ a c => zC zHk (a.ev rfl) (rdb c (vs := [sL zR zN zT]) (k := 3) rfl 0) rfl) ?_
      refine Tq.mv rfl rfl ?_
      obtain ⟨zYQ, zna, H⟩ := bnd H
      obtain ⟨zhC, zhB, zhA⟩ := zO zna
      refine Tq.va rfl (fun _ _ a c => zD zJP (a.ev rfl) QZ (a.ev rfl) zhC zhB) ?_
      refine Tq.va rfl (fun _ _ a c => zB zKZ (a.ev rfl)) ?_
      refine Tq.va rfl (fun _ _ a c => ze (cs := [iv zYQ.to_.X, iv zYQ.to_.Y]) WP KI (a.ev rfl) (zQ.take (zQ.drop (rdo zCu (k := 2) c rfl zhA) 2) 2) rfl) ?_
      refine Tq.va rfl (fun _ _ a c => zC zHk (a.ev rfl) (rdb c (vs := [sL zR zN zT]) (k := 3) rfl 0) rfl) ?_
      refine Tq.mv rfl rfl (Tq.va rfl (fun _ _ a c => zD zJP (a.ev rfl) QZ (a.ev rfl) (Int.natCast_nonneg _) (QF zEJ)) ?_)
      refine Tq.va rfl (fun _ _ a c => zB zKa (a.ev rfl)) ?_
      refine Tq.va rfl (fun _ _ a c => ze (cs := [iv xL8.from_.X, iv xL8.from_.Y]) WP KI (a.ev rfl) (zQ.take (zQ.drop (rdo zCu (k := 2) c rfl (Kv zEJ)) 0) 2) rfl) ?_
      refine Tq.va rfl (fun _ _ a c => zHB zYQ.to_ xL8.from_ (a.ev rfl) (a.ev rfl)) ?_
      refine Tq.mv rfl rfl ?_
      obtain ⟨zki, zQf, H⟩ := bnd H
      refine Tq.mid 11 [(3, pV WS), (7, pV zDo), (9, pV zD4), (10, .func (.func 42) #[] #[pV WR, pV zDo, pV zD4, pV WS]), (11, sL zCI zCT zCC), (12, iv (iL8 : Int)), (13, sL zb8 zYp zbt), (14, iv zI9), (41, iv (zN.length : Int)), (42, iv (iL8 : Int)), (90, bV zki)] ?_ ?_
      ·cases zei : (Vo zYQ.to_ xL8.from_)
       ·rw [zei] at zQf
        rw [if_neg (by decide)] at zQf
        have H := zQf
        obtain rfl := oI H
        refine Tq.pass rfl rfl rfl rfl rfl (by decide) ?_
        refine Tq.pass rfl rfl rfl rfl rfl (by decide) ?_
        refine Tq.pass rfl rfl rfl rfl rfl (by decide) ?_
        refine Tq.pass rfl rfl rfl rfl rfl (by decide) ?_
        refine Tq.pass rfl rfl rfl rfl rfl (by decide) ?_
        refine Tq.pass rfl rfl rfl rfl rfl (by decide) ?_
        refine Tq.pass rfl rfl rfl rfl rfl (by decide) ?_
        refine Tq.pass rfl rfl rfl rfl rfl (by decide) ?_
        refine Tq.pass rfl rfl rfl rfl rfl (by decide) ?_
        refine Tq.pass rfl rfl rfl rfl rfl (by decide) ?_
        refine Tq.va rfl (fun _ _ a c => zy (a.ev rfl) (a.ev rfl)) ?_
        exact Tq.fin (.cons rfl (.cons rfl (.cons rfl (.cons rfl (.cons rfl (.cons rfl (.cons rfl (.cons rfl (.cons rfl (.cons rfl (.cons rfl .nil)))))))))))
       ·rw [zei] at zQf
        rw [if_pos rfl] at zQf
        have H := zQf
        refine Tq.val (wg rfl rfl rfl) rfl (fun _ _ a c => zC zew (a.ev rfl) (rdb c (vs := [.func (.func 41) #[] #[pV WR, pV zBc]]) (k := 15) rfl 0) rfl) ?_
        refine Tq.val (wg rfl rfl rfl) rfl (fun _ _ a c => zC zHk (a.ev rfl) (rdb c (vs := [sL zR zN zT]) (k := 3) rfl 0) rfl) ?_
        refine Tq.val (wg rfl rfl rfl) rfl (fun _ _ a c => run_move (a.ev rfl)) ?_
        obtain ⟨zRa, znZ, H⟩ := bnd H
        obtain ⟨zg9, zg8, zg7⟩ := zO znZ
        refine Tq.val (wg rfl rfl rfl) rfl (fun _ _ a c => zD zJP (a.ev rfl) QZ (a.ev rfl) zg9 zg8) ?_
        refine Tq.val (wg rfl rfl rfl) rfl (fun _ _ a c => ze (cs := [iv zRa.from_.X, iv zRa.from_.Y, iv zRa.to_.X, iv zRa.to_.Y]) zGv zER (a.ev rfl) (zQ.take (rdo zCu (k := 2) c rfl zg7) 4) rfl) ?_
        refine Tq.val (wg rfl rfl rfl) rfl (fun _ _ a c => zC zHk (a.ev rfl) (rdb c (vs := [sL zR zN zT]) (k := 3) rfl 0) rfl) ?_
        refine Tq.val (wg rfl rfl rfl) rfl (fun _ _ a c => run_move (a.ev rfl)) ?_
        refine Tq.val (wg rfl rfl rfl) rfl (fun _ _ a c => zD zJP (a.ev rfl) QZ (a.ev rfl) (Int.natCast_nonneg _) (QF zEJ)) ?_
        refine Tq.val (wg rfl rfl rfl) rfl (fun _ _ a c => ze (cs := [iv xL8.from_.X, iv xL8.from_.Y, iv xL8.to_.X, iv xL8.to_.Y]) zGv zER (a.ev rfl) (zQ.take (rdo zCu (k := 2) c rfl (Kv zEJ)) 4) rfl) ?_
        obtain ⟨zYH, zmS, H⟩ := bnd H
        refine Tq.zHj (r := (bV zYH)) (wg rfl rfl rfl) rfl rfl Tryz.call41 (zI rfl (zI rfl zX)) (fun W hW => zAk zRa xL8 m123 zGQ (zGh.ext hW.Ky) WR (hW.zUS (k := 5) rfl) (hW.zUT (k := 5) rfl) zBc (hW.zUS (k := 14) rfl) (hW.zUT (k := 14) rfl) zYH zmS (HF.start _)) ?_
        refine Tq.va rfl (fun _ _ a c => zx (a.ev rfl) (a.ev rfl)) ?_
        obtain rfl := oI H
        exact Tq.fin (.cons rfl (.cons rfl (.cons rfl (.cons rfl (.cons rfl (.cons rfl (.cons rfl (.cons rfl (.cons rfl (.cons rfl (.cons rfl .nil)))))))))))
      ·refine Tq.nil (Tr.zA (Tr.cond rfl H (fun H => ?_) (fun H => ?_)))
       ·refine Tr.exit (Tr.zbg rfl (Tr.zP (Tr.zP (Tr.zl ?_))))
        exact Tr.zZ leJ455 (zOC, zYp, zHm, zHi, zb8, zbt) ⟨H, zbS, hAl500⟩ (.cons rfl (.cons rfl (.cons rfl (.cons rfl (.cons rfl (.cons rfl (.cons rfl (.cons rfl .nil)))))))) (.cons rfl (.cons rfl (.cons rfl (.cons rfl (.cons rfl (.cons rfl (.cons rfl (.cons rfl (.cons rfl .nil)))))))))
       ·refine Tr.skip (Tr.zb (Tr.zA (Tr.region (Tr.mv rfl rfl (Tr.va rfl (fun _ _ a c => zC zHk (a.ev rfl) (rdb c (vs := [sL zR zN zT]) (k := 3) rfl 0) rfl) ?_)))))
        refine Tr.mv rfl rfl ?_
        obtain ⟨zU5, znY, H⟩ := bnd H
        obtain ⟨zg6, zg5, zg4⟩ := zO znY
        refine Tr.va rfl (fun _ _ a c => zD zJP (a.ev rfl) QZ (a.ev rfl) zg6 zg5) ?_
        refine Tr.va rfl (fun _ _ a c => ze (cs := [iv zU5.from_.X, iv zU5.from_.Y, iv zU5.to_.X, iv zU5.to_.Y]) zGv zER (a.ev rfl) (zQ.take (rdo zCu (k := 2) c rfl zg4) 4) rfl) ?_
        obtain ⟨zZH, zmR, H⟩ := bnd H
        refine Tr.zHj (r := (iv zZH)) (wn rfl) rfl rfl Tryz.call42 (zI rfl zX) (fun W hW => zBP zU5 m123 zGQ (zGh.ext hW.Ky) WR (hW.zUS (k := 5) rfl) (hW.zUT (k := 5) rfl) zOC zHm zHi (hW.zCo (k := 12) rfl) zDo (hW.zUS (k := 13) rfl) (hW.zUT (k := 13) rfl) zD4 zN zR zT (hW.zCo (k := 2) rfl) WS (hW.zUS (k := 3) rfl) (hW.zUT (k := 3) rfl) m123 zGQ (zGh.ext hW.Ky) WR (hW.zUS (k := 5) rfl) (hW.zUT (k := 5) rfl) zBc (hW.zUS (k := 15) rfl) (hW.zUT (k := 15) rfl) (hW.zUS (k := 14) rfl) (hW.zUT (k := 14) rfl) zZH zmR (HF.start _)) ?_
        exact Tr.asg rfl rfl (Tr.nil (Tr.zZ zZt (zOC, zYp, zZH, zHm, zHi, zb8, zbt) ⟨H, zbS, hAl500⟩ (.cons rfl (.cons rfl (.cons rfl (.cons rfl (.cons rfl (.cons rfl (.cons rfl (.cons rfl (.cons rfl (.cons rfl .nil)))))))))) (.cons rfl (.cons rfl (.cons rfl (.cons rfl (.cons rfl (.cons rfl (.cons rfl (.cons rfl (.cons rfl .nil)))))))))))
     ·exact Tr.exit (Tr.zP (Tr.zP (Tr.zl (Tr.zZ leJ455 (zOE, zOD, zHm, zHi, zRU, zRC) ⟨H, zTr, zao⟩ (.cons rfl (.cons rfl (.cons rfl (.cons rfl (.cons rfl (.cons rfl (.cons rfl (.cons rfl .nil)))))))) (.cons rfl (.cons rfl (.cons rfl (.cons rfl (.cons rfl (.cons rfl (.cons rfl (.cons rfl (.cons rfl .nil)))))))))))))
    ·intro w s hlJ456 hs
     obtain ⟨zIF, zYq, zK8, zKq, zb9, zbu⟩ := s
     obtain ⟨H, zOk, zre⟩ := hs
     replace H : Kn zCT (QH N zN m123 zAF (iL8 + 1)) zIF zYq = some r := H
     replace zGh := zGh.leR hlJ456
     replace zKO := zKO.trans hlJ456
     replace zOk : SlF zK8 zIF.length zKq := zOk
     unfold Kn at H
     show Tr _ _ (LF [(3, pV WS), (7, pV zDo), (9, pV zD4), (10, .func (.func 42) #[] #[pV WR, pV zDo, pV zD4, pV WS]), (11, sL zCI zCT zCC), (13, sL zb9 zYq zbu), (41, iv (zN.length : Int)), (42, iv (iL8 : Int))]) (LE [(2, ow zR zT 72 QJ zN), (3, bx WS #[sL zR zN zT] 68), (5, bx WR #[(.map (some zGQ))] 70), (12, ow zK8 zKq 4 VQ zIF), (13, bx zDo #[sL zK8 zIF zKq] 73), (14, bx zBc #[.func (.func 39) #[] #[]] 75), (15, bx zD4 #[.func (.func 41) #[] #[pV WR, pV zBc]] 76), (16, ow zCI zCC 30 zS zCT), (35, ow zb9 zbu 72 QJ zYq)]) _
     refine Tr.region (Tr.mv rfl rfl (Tr.mv rfl rfl ?_))
     obtain ⟨zJ5, zmW, H⟩ := bnd H
     refine Tr.zAi [39] [emp] (U := (Option Addr × Nat)) (fun u => (sL u.1 zJ5 u.2)) (fun u => SlF u.1 zJ5.length u.2) (fun u => [ow u.1 u.2 33 zz zJ5]) rfl (zn rfl zw) (fun _ => rfl) (wn rfl) rfl Tryz.call43 (zI rfl zX) (fun W hW hp hE => zJ0 zYq zb9 zbu (hW.slS (k := 35) rfl hp rfl) zJ5 zmW hE) ?_
     intro u hu
     obtain ⟨zGC, zF6⟩ := u
     have gy457_0 := hu
     have zpI : SlF zGC zJ5.length zF6 := gy457_0 --@phi
     show Tr _ _ (uf _ 93 (sL zGC zJ5 zF6)) (up _ 39 (ow zGC zF6 33 zz zJ5)) _
     refine Tr.freeze 39 rfl fun w zeJ zmD => ?_
     replace zGh := zGh.leR zeJ
     replace zKO := zKO.trans zeJ
     refine Tr.buildSlice 40 (e := 30) (vs := [(0, sL zGC zJ5 zF6)]) (cs := [sL zGC zJ5 zF6]) (wn rfl) rfl (zi rfl Qh) (by kernel_rfl) fun zr6 => ?_
     obtain ⟨zfe, zox, H⟩ := bnd H
     refine Tr.append 16 (t := zS) (l := zCT) (l2 := [zJ5]) (wn rfl) rfl rfl rfl rfl (fun W hW => ⟨[[sL zGC zJ5 zF6]], (.cons ⟨(zGC, zF6), zmD, rfl⟩ .nil), rdb hW (vs := [sL zGC zJ5 zF6]) (k := 40) rfl 0⟩) zDX zWe zWY (by decide) zX1 rfl zox fun zp2 zpc hAl462 => ?_
     refine Tr.asg rfl rfl (Tr.nil (Tr.zb (Tr.zA (Tr.region (Tr.va rfl (fun _ _ a c => zg (a.ev rfl) (a.ev rfl)) ?_)))))
     exact Tr.mv rfl rfl (Tr.nil (Tr.zZ zKO (zAF, (iL8 + 1), zIF, zfe, zK8, zKq, zp2, zpc) ⟨rfl, Jh zEJ, QF zEJ, H, zOk, hAl462⟩ (.cons rfl (.cons rfl (.cons rfl (.cons rfl (.cons rfl (.cons rfl (.cons (congrArg (fun z => some (Value.int .i64 z)) (Jg zEJ QZ)) .nil))))))) (.cons rfl (.cons rfl (.cons rfl (.cons rfl (.cons rfl (.cons rfl (.cons rfl (.cons rfl .nil))))))))))
 | cons xL1 zV =>
  rw [Qs.eq_2] at H
  refine Tr.sr (Tr.va rfl (fun _ _ a c => zh (a.ev rfl) (a.ev rfl)) ?_)
  refine Tr.nil (Tr.zA (Tr.seq (Tr.zBM rfl (VD QK) ?_)))
  refine Tr.skip (Tr.zA (Tr.seq (Tr.block (Tr.sr (Tr.mv rfl rfl (Tr.va rfl (fun _ _ a c => zD zJP (a.ev rfl) QZ (a.ev rfl) (Int.natCast_nonneg _) (QF QK)) ?_))))))
  refine Tr.va rfl (fun _ _ a c => ze (cs := [iv xL1.from_.X, iv xL1.from_.Y, iv xL1.to_.X, iv xL1.to_.Y]) zGv zER (a.ev rfl) (zQ.take (rdo zCu (k := 2) c rfl (Kv QK)) 4) rfl) ?_
  refine Tr.alloc 44 (wn rfl) rfl zd2 fun zr2 => ?_
  refine Tr.asg rfl rfl (Tr.store 44 (cs := [iv xL1.from_.X, iv xL1.from_.Y, iv xL1.to_.X, iv xL1.to_.Y]) [iv xL1.from_.X, iv xL1.from_.Y, iv xL1.to_.X, iv xL1.to_.Y] (wn rfl) rfl rfl rfl rfl zER rfl rfl rfl ?_)
  refine Tr.nil (Tr.zA (Tr.region (Tr.va rfl (fun _ _ a c => zC zb2 (a.ev rfl) (rdb c (vs := [(.map (some zGQ))]) (k := 5) rfl 0) rfl) ?_)))
  refine Tr.va rfl (fun _ _ a c => zB zKa (a.ev rfl)) ?_
  refine Tr.va rfl (fun _ _ a c => ze (cs := [iv xL1.from_.X, iv xL1.from_.Y]) WP KI (a.ev rfl) (zQ.take (rdb c (vs := [iv xL1.from_.X, iv xL1.from_.Y, iv xL1.to_.X, iv xL1.to_.Y]) (k := 44) rfl 0) 2) rfl) ?_
  refine Tr.mv rfl rfl (Tr.buildSlice 45 (e := 3) (vs := [(0, iv (iL1 : Int))]) (cs := [iv (iL1 : Int)]) (wn rfl) rfl (zi rfl Qh) (by kernel_rfl) fun zr1 => ?_)
  obtain ⟨zfb, zot, H⟩ := bnd H
  refine Tr.zY2 4 46 zaG (wn rfl) rfl zZY zZD rfl rfl rfl rfl hm123 zot fun prl511 pol511 zrs zrj hQl511 zrM => ?_
  refine Tr.va rfl (fun _ _ a c => VZ (a.ev rfl) rfl) ?_
  obtain ⟨zfa, zos, H⟩ := bnd H
  refine Tr.append 46 (t := zW) (l := zfb) (l2 := [(iL1 : Int)]) (wn rfl) rfl rfl rfl rfl (fun W hW => ⟨[[iv (iL1 : Int)]], (.cons ⟨(), trivial, rfl⟩ .nil), rdb hW (vs := [iv (iL1 : Int)]) (k := 45) rfl 0⟩) Vu zGN zK9 (by decide) zLq rfl zos fun zrr zri hAl512 => ?_
  refine Tr.va rfl (fun _ _ a c => VZ (a.ev rfl) rfl) ?_
  refine Tr.zbk 4 46 (wn rfl) rfl rfl rfl rfl rfl rfl hQl511 hAl512 fun ms513 hmms513 => ?_
  refine Tr.nil (Tr.zb (Tr.zA (Tr.region (Tr.va rfl (fun _ _ a c => zg (a.ev rfl) (a.ev rfl)) ?_))))
  exact Tr.mv rfl rfl (Tr.nil (Tr.zZ QI (zV, (iL1 + 1), (zF3 m123 (xL1.from_.X, xL1.from_.Y) zfa), ms513) ⟨rfl, Jh QK, QF QK, H, hmms513⟩ (.cons rfl (.cons rfl (.cons rfl (.cons rfl (.cons (congrArg (fun z => some (Value.int .i64 z)) (Jg QK QZ)) .nil))))) (.cons rfl (.cons rfl (.cons rfl (.cons rfl .nil))))))

theorem zJH (N : Nat) {w : Bs} (p0 : (List zJ)) (zF : Option Addr) (zH : Nat) (zK : Sl w.R w.W zL zF zH p0) (r : ((List (List zG)) × Int)) (H : zBm N p0 = some r) (hE : HF w w.W (LEn [emp])) : Calls Tryz.prog 4 [sL zF p0 zH].toArray w.W fun e W' => ∃ (w' : Bs) (u : (Option Addr × Nat)), w.Le w' ∧ e = .returned (.tuple #[sL u.1 r.1 u.2, iv r.2]) ∧ (SlF u.1 r.1.length u.2) ∧ HF w' W' (LEn [ow u.1 u.2 30 zS r.1]) := by
 unfold zBm at H
 have leB := Bs.Le.refl w
 refine Tr.enter (n := 31) Tryz.func4 rfl rfl rfl hE ?_
 refine Tr.sr (Tr.asg rfl rfl (Tr.Qb 1 30 zS ?_))
 show Tr _ _ (uf _ 2 (sL none (([] : List (List zG))) 0)) _ _
 refine Tr.asg rfl rfl (Tr.nil (Tr.zA (Tr.seq (Tr.sr (Tr.mv rfl rfl ?_)))))
 obtain ⟨zN, zAQ, H⟩ := bnd H
 refine Tr.KV (r := (iv zN)) (wn rfl) rfl Tryz.call12 (zI rfl zX) (fun W hW => zDu N p0 zF zH (zK.ext hW.Ky) zN zAQ (HF.start _)) ?_
 refine Tr.asg rfl rfl (Tr.nil (Tr.zA (Tr.sr (Tr.mv rfl rfl (Tr.va rfl (fun _ _ a c => zCi (a.ev rfl) (a.ev rfl)) ?_)))))
 refine Tr.nil (Tr.zA (Tr.cond rfl H (fun H => ?_) (fun H => ?_)))
 ·refine Tr.sr (Tr.mv rfl rfl (Tr.asg rfl rfl (Tr.Qb 2 30 zS ?_)))
  show Tr _ _ (uf _ 2 (sL none (([] : List (List zG))) 0)) _ _
  refine Tr.asg rfl rfl (Tr.nil (Tr.zA (Tr.ret (Tr.zq ?_))))
  obtain rfl := oI H
  exact Tr.out (m := [sL none (([] : List (List zG))) 0, iv zN]) [] (zU rfl (zU rfl zY)) (fun W hW => ⟨w, (none, 0), leB, rfl, Jm, hW.pick (ks := [2]) (by decide) (zn rfl zw)⟩)
 ·refine Tr.skip (Tr.zA (Tr.sr (Tr.mv rfl rfl ?_)))
  obtain ⟨y101, hy101, H⟩ := bnd H
  refine Tr.zCe [3] [emp] (U := (Option Addr × Nat)) (fun u => (sL u.1 y101 u.2)) (fun O W u => SlF u.1 y101.length u.2) (fun u => [ow u.1 u.2 67 Qi y101]) rfl (zn rfl zw) (fun _ => rfl) (wn rfl) rfl Tryz.call13 (zI rfl zX) (fun W hW hp hE => zG0 N p0 zF zH (zK.ext (hW.zCA hp)) y101 hy101 hE) ?_
  intro w u zZy hu
  obtain ⟨zAa, zAV⟩ := u
  have gy101_0 := hu
  replace leB := leB.trans zZy
  have zIL : SlF zAa y101.length zAV := gy101_0 --@phi
  show Tr _ _ (uf _ 15 (sL zAa y101 zAV)) (up _ 3 (ow zAa zAV 67 Qi y101)) _
  obtain ⟨Wv, zKT, H⟩ := bnd H
  refine Tr.zCe [4] [emp] (U := (Option Addr × Nat)) (fun u => (sL u.1 Wv u.2)) (fun O W u => SlF u.1 Wv.length u.2) (fun u => [ow u.1 u.2 30 zS Wv]) rfl (zn rfl zw) (fun _ => rfl) (wn rfl) rfl Tryz.call14 (zI rfl zX) (fun W hW hp hE => zGz N y101 zAa zAV (hW.slS (k := 3) rfl hp rfl) Wv zKT hE) ?_
  intro w u zl9 hu
  obtain ⟨zDx, zDj⟩ := u
  have gy103_0 := hu
  replace leB := leB.trans zl9
  have zOp : SlF zDx Wv.length zDj := gy103_0 --@phi
  show Tr _ _ (uf _ 16 (sL zDx Wv zDj)) (up _ 4 (ow zDx zDj 30 zS Wv)) _
  refine Tr.asg rfl rfl (Tr.nil (Tr.zA (Tr.sr (Tr.asg rfl rfl (Tr.nil (Tr.zA (Tr.seq (Tr.sr (Tr.mv rfl rfl (Tr.va rfl (fun _ _ a c => zf zDX (a.ev rfl)) ?_))))))))))
  refine Tr.mv rfl rfl (Tr.nil (Tr.zA (Tr.block (Tr.loop (σ := (List (List zG)) × Nat × Int) (fun m w s => m = s.1.length + 1 ∧ s.1 = List.drop s.2.1 Wv ∧ s.2.1 ≤ Wv.length ∧ VA Wv s.1 s.2.1 s.2.2 = some r) (fun s => [(5, sL zDx Wv zDj), (6, iv s.2.2), (17, sL zDx Wv zDj), (18, iv (Wv.length : Int)), (19, iv (s.2.1 : Int))]) (fun s => [(4, ow zDx zDj 30 zS Wv)]) (Wv.length + 1) (Wv, 0, 0) ⟨rfl, rfl, Nat.zero_le _, H⟩ (.cons rfl (.cons rfl (.cons rfl (.cons rfl (.cons rfl .nil))))) (.cons rfl .nil) (fun _ _ h => absurd h.1 (by simp)) ?_))))
  intro w QI m s hs
  obtain ⟨zV, iL1, x115⟩ := s
  obtain ⟨Vn, QK, hiL1, H⟩ := hs
  replace QK : zV = List.drop iL1 Wv := QK
  replace H : VA Wv zV iL1 x115 = some r := H
  replace Vn : m + 1 = zV.length + 1 := Vn
  replace leB := leB.trans QI
  obtain rfl : m = zV.length := by omega
  clear Vn
  show Tr _ _ (LF [(5, sL zDx Wv zDj), (6, iv x115), (17, sL zDx Wv zDj), (18, iv (Wv.length : Int)), (19, iv (iL1 : Int))]) (LE [(4, ow zDx zDj 30 zS Wv)]) _
  cases zV with
  | nil =>
   rw [VA.eq_1] at H
   refine Tr.sr (Tr.va rfl (fun _ _ a c => zh (a.ev rfl) (a.ev rfl)) ?_)
   refine Tr.nil (Tr.zA (Tr.seq (Tr.zBN rfl (KF QK) ?_)))
   refine Tr.exit (Tr.zP (Tr.zP (Tr.zl (Tr.zA (Tr.seq (Tr.sr (Tr.mv rfl rfl (Tr.va rfl (fun _ _ a c => Wx (a.ev rfl) (a.ev rfl)) ?_))))))))
   refine Tr.nil (Tr.zA (Tr.cond rfl H (fun H => ?_) (fun H => ?_)))
   ·refine Tr.sr (Tr.asg rfl rfl (Tr.Qb 5 30 zS ?_))
    show Tr _ _ (uf _ 2 (sL none (([] : List (List zG))) 0)) _ _
    refine Tr.asg rfl rfl (Tr.nil (Tr.zA (Tr.ret (Tr.zq ?_))))
    obtain rfl := oI H
    exact Tr.out (m := [sL none (([] : List (List zG))) 0, iv 2]) [] (zU rfl (zU rfl zY)) (fun W hW => ⟨w, (none, 0), leB, rfl, Jm, hW.pick (ks := [5]) (by decide) (zn rfl zw)⟩)
   ·refine Tr.skip (Tr.zA (Tr.sr (Tr.mv rfl rfl (Tr.asg rfl rfl (Tr.asg rfl rfl (Tr.nil (Tr.zA (Tr.ret ?_))))))))
    obtain rfl := oI H
    exact Tr.out (m := [sL zDx Wv zDj, iv 0]) [] (zU rfl (zU rfl zY)) (fun W hW => ⟨w, (zDx, zDj), leB, rfl, zOp, hW.pick (ks := [4]) (by decide) (zn rfl zw)⟩)
  | cons xL1 zV =>
   rw [VA.eq_2] at H
   refine Tr.sr (Tr.va rfl (fun _ _ a c => zh (a.ev rfl) (a.ev rfl)) ?_)
   refine Tr.nil (Tr.zA (Tr.seq (Tr.zBM rfl (VD QK) ?_)))
   refine Tr.skip (Tr.zA (Tr.seq (Tr.block (Tr.sr (Tr.va rfl (fun _ _ a c => zD zCl (a.ev rfl) zOp (a.ev rfl) (Int.natCast_nonneg _) (QF QK)) ?_)))))
   refine Tr.zRf (U := (zS).Ad) (fun u => (zS).ok w.O w.W u xL1) (fun u => (sL u.1 xL1 u.2)) (wn rfl) rfl (ldN (κ := 4) (t := zS) (V := fun u => (sL u.1 xL1 u.2)) rfl (Kv QK) (fun _ _ u a hc => zC zDJ (a.ev rfl) hc rfl)) ?_
   intro zfA zSC
   obtain ⟨zSq, zSY⟩ := zfA
   have zYt := zSC
   show Tr _ _ (uf _ 22 (sL zSq xL1 zSY)) _ _
   refine Tr.asg rfl rfl (Tr.nil (Tr.zA (Tr.region (Tr.mv rfl rfl (Tr.mv rfl rfl (Tr.va rfl (fun _ _ a c => zf zBI (a.ev rfl)) ?_))))))
   refine Tr.va rfl (fun _ _ a c => zg (a.ev rfl) (a.ev rfl)) ?_
   refine Tr.asg rfl rfl (Tr.nil (Tr.zb (Tr.zA (Tr.region (Tr.va rfl (fun _ _ a c => zg (a.ev rfl) (a.ev rfl)) ?_)))))
   exact Tr.mv rfl rfl (Tr.nil (Tr.zZ QI (zV, (iL1 + 1), (w64 (x115 + (xL1.length : Int)))) ⟨rfl, Jh QK, QF QK, H⟩ (.cons rfl (.cons rfl (.cons rfl (.cons rfl (.cons (congrArg (fun z => some (Value.int .i64 z)) (Jg QK zOp)) .nil))))) (.cons rfl .nil)))

theorem zFu {w : Bs} (p0 : Int) (p1 : Int) (p2 : Int) (r : Bool) (H : zB4 p0 p1 p2 = some r) (hE : HF w w.W E0) : Calls Tryz.prog 117 [iv p0, iv p1, iv p2].toArray w.W fun e W' => e = .returned (bV r) ∧ HF w W' E0 := by
 unfold zB4 at H
 have leB := Bs.Le.refl w
 refine Tr.enter (n := 15) Tryz.func117 rfl rfl rfl hE ?_
 refine Tr.sr (Tr.asg rfl rfl (Tr.nil (Tr.zA (Tr.sr (Tr.mv rfl rfl (Tr.mv rfl rfl (Tr.va rfl (fun _ _ a c => zEz (a.ev rfl) (a.ev rfl)) ?_)))))))
 refine Tr.mv rfl rfl (Tr.zBy 4 [(14, bV ((decide (p1 ≤ p0)) && (decide (p0 ≤ p2))))] [] ?_ ?_)
 ·cases zkX : (decide (p1 ≤ p0))
  ·refine Tr.pass rfl rfl rfl rfl rfl (by decide) ?_
   refine Tr.pass rfl rfl rfl rfl rfl (by decide) ?_
   refine Tr.pass rfl rfl rfl rfl rfl (by decide) ?_
   refine Tr.va rfl (fun _ _ a c => zy (a.ev rfl) (a.ev rfl)) ?_
   exact Tr.nil (Tr.VW (.cons rfl .nil) .nil)
  ·refine Tr.val (wg rfl rfl rfl) rfl (fun _ _ a c => run_move (a.ev rfl)) ?_
   refine Tr.val (wg rfl rfl rfl) rfl (fun _ _ a c => run_move (a.ev rfl)) ?_
   refine Tr.val (wg rfl rfl rfl) rfl (fun _ _ a c => zBJ (a.ev rfl) (a.ev rfl)) ?_
   refine Tr.va rfl (fun _ _ a c => zx (a.ev rfl) (a.ev rfl)) ?_
   exact Tr.nil (Tr.VW (.cons rfl .nil) .nil)
 ·show Tr _ _ (LF [(14, bV ((decide (p1 ≤ p0)) && (decide (p0 ≤ p2))))]) (LE []) _
  refine Tr.asg rfl rfl (Tr.nil (Tr.zA (Tr.ret ?_)))
  obtain rfl := oI H
  exact Tr.out (m := [bV ((decide (p1 ≤ p0)) && (decide (p0 ≤ p2)))]) [] (zU rfl zY) (fun W hW => ⟨rfl, hW.low leB⟩)

theorem WL {w : Bs} (p0 : Int) (r : Bool) (H : Kq p0 = some r) (hE : HF w w.W E0) : Calls Tryz.prog 80 [iv p0].toArray w.W fun e W' => e = .returned (bV r) ∧ HF w W' E0 := by
 unfold Kq at H
 have leB := Bs.Le.refl w
 refine Tr.enter (n := 5) Tryz.func80 rfl rfl rfl hE ?_
 refine Tr.sr (Tr.asg rfl rfl (Tr.nil (Tr.zA (Tr.sr (Tr.mv rfl rfl ?_)))))
 obtain ⟨zN, zAQ, H⟩ := bnd H
 refine Tr.KV (r := (bV zN)) (wn rfl) rfl Tryz.call117 (zI rfl (zI rfl (zI rfl zX))) (fun W hW => zFu p0 (-1000000) 1000000 zN zAQ (HF.start _)) ?_
 refine Tr.asg rfl rfl (Tr.nil (Tr.zA (Tr.ret ?_)))
 obtain rfl := oI H
 exact Tr.out (m := [bV zN]) [] (zU rfl zY) (fun W hW => ⟨rfl, hW.low leB⟩)

theorem zEe (N : Nat) {w : Bs} (p0 : (List zJ)) (zF : Option Addr) (zH : Nat) (zK : Sl w.R w.W zL zF zH p0) (r : Int) (H : Vs N p0 = some r) (hE : HF w w.W E0) : Calls Tryz.prog 47 [sL zF p0 zH].toArray w.W fun e W' => e = .returned (iv r) ∧ HF w W' E0 := by
 unfold Vs at H
 have leB := Bs.Le.refl w
 refine Tr.enter (n := 52) Tryz.func47 rfl rfl rfl hE ?_
 refine Tr.sr (Tr.asg rfl rfl (Tr.nil (Tr.zA (Tr.seq (Tr.sr (Tr.mv rfl rfl (Tr.va rfl (fun _ _ a c => zf zA9 (a.ev rfl)) ?_)))))))
 refine Tr.va rfl (fun _ _ a c => Wx (a.ev rfl) (a.ev rfl)) ?_
 refine Tr.nil (Tr.zA (Tr.cond rfl H (fun H => ?_) (fun H => ?_)))
 ·refine Tr.sr (Tr.asg rfl rfl (Tr.nil (Tr.zA (Tr.ret (Tr.zq ?_)))))
  obtain rfl := oI H
  exact Tr.out (m := [iv 2]) [] (zU rfl zY) (fun W hW => ⟨rfl, hW.low leB⟩)
 ·refine Tr.skip (Tr.zA (Tr.seq (Tr.sr (Tr.asg rfl rfl (Tr.nil (Tr.zA (Tr.block (Tr.loop (σ := Int) (fun m w s => JJ p0 m s = some r) (fun s => [(0, sL zF p0 zH), (3, iv s)]) (fun s => []) N 0 H (.cons rfl (.cons rfl .nil)) .nil (fun _ _ h => KG (h)) ?_))))))))
  intro w QI mL1 Vk hs
  have H := hs
  replace H : JJ p0 (mL1 + 1) Vk = some r := H
  replace zK := zK.leR QI
  replace leB := leB.trans QI
  rw [JJ.eq_2] at H
  show Tr _ _ (LF [(0, sL zF p0 zH), (3, iv Vk)]) (LE []) _
  refine Tr.seq (Tr.sr (Tr.mv rfl rfl (Tr.mv rfl rfl (Tr.va rfl (fun _ _ a c => zf zA9 (a.ev rfl)) ?_))))
  refine Tr.va rfl (fun _ _ a c => zh (a.ev rfl) (a.ev rfl)) ?_
  refine Tr.nil (Tr.zA (Tr.cond rfl H (fun H => ?_) (fun H => ?_)))
  ·refine Tr.skip (Tr.zA (Tr.seq (Tr.block (Tr.sr (Tr.mv rfl rfl (Tr.mv rfl rfl ?_))))))
   obtain ⟨JM, hx128, H⟩ := bnd H
   obtain ⟨zJt, zJs, zJr⟩ := zO hx128
   refine Tr.va rfl (fun _ _ a c => zD zA3 (a.ev rfl) zK.form (a.ev rfl) zJt zJs) ?_
   refine Tr.va rfl (fun _ _ a c => ze (cs := [iv JM.X0, iv JM.Y0, iv JM.X1, iv JM.Y1]) zCw zAK (a.ev rfl) (zQ.take (rdF KL zK zJr c) 4) rfl) ?_
   refine Tr.alloc 3 (wn rfl) rfl zHY fun zBc => ?_
   refine Tr.store 3 (cs := [iv JM.X0, iv JM.Y0, iv JM.X1, iv JM.Y1]) [iv JM.X0, iv JM.Y0, iv JM.X1, iv JM.Y1] (wn rfl) rfl rfl rfl rfl zAK rfl rfl rfl ?_
   refine Tr.nil (Tr.zA (Tr.seq (Tr.sr (Tr.va rfl (fun _ _ a c => zB zAo (a.ev rfl)) ?_))))
   refine Tr.va rfl (fun _ _ a c => zC QA (a.ev rfl) (rdb c (vs := [iv JM.X0, iv JM.Y0, iv JM.X1, iv JM.Y1]) (k := 3) rfl 0) rfl) ?_
   obtain ⟨zBv, zTf, H⟩ := bnd H
   refine Tr.KV (r := (bV zBv)) (wn rfl) rfl Tryz.call80 (zI rfl zX) (fun W hW => WL JM.X0 zBv zTf (HF.start _)) ?_
   refine Tr.va rfl (fun _ _ a c => Wm (a.ev rfl)) ?_
   refine Tr.mv rfl rfl ?_
   obtain ⟨zbW, zQs, H⟩ := bnd H
   refine Tr.zBy 5 [(0, sL zF p0 zH), (3, iv Vk), (4, pV zBc), (27, bV zbW)] [(3, bx zBc #[iv JM.X0, iv JM.Y0, iv JM.X1, iv JM.Y1] 36)] ?_ ?_
   ·cases zKX : (!zBv)
    ·rw [zKX] at zQs
     rw [if_neg (by decide)] at zQs
     have H := zQs
     refine Tr.val (wg rfl rfl rfl) rfl (fun _ _ a c => zB zAL (a.ev rfl)) ?_
     refine Tr.val (wg rfl rfl rfl) rfl (fun _ _ a c => zC QA (a.ev rfl) (rdb c (vs := [iv JM.X0, iv JM.Y0, iv JM.X1, iv JM.Y1]) (k := 3) rfl 1) rfl) ?_
     obtain ⟨zcK, zm2, H⟩ := bnd H
     refine Tr.KV (r := (bV zcK)) (wg rfl rfl rfl) rfl Tryz.call80 (zI rfl zX) (fun W hW => WL JM.Y0 zcK zm2 (HF.start _)) ?_
     refine Tr.val (wg rfl rfl rfl) rfl (fun _ _ a c => Wm (a.ev rfl)) ?_
     refine Tr.va rfl (fun _ _ a c => zy (a.ev rfl) (a.ev rfl)) ?_
     obtain rfl := oI H
     exact Tr.nil (Tr.VW (.cons rfl (.cons rfl (.cons rfl (.cons rfl .nil)))) (.cons rfl .nil))
    ·rw [zKX] at zQs
     rw [if_pos rfl] at zQs
     have H := zQs
     obtain rfl := oI H
     refine Tr.pass rfl rfl rfl rfl rfl (by decide) ?_
     refine Tr.pass rfl rfl rfl rfl rfl (by decide) ?_
     refine Tr.pass rfl rfl rfl rfl rfl (by decide) ?_
     refine Tr.pass rfl rfl rfl rfl rfl (by decide) ?_
     refine Tr.va rfl (fun _ _ a c => zx (a.ev rfl) (a.ev rfl)) ?_
     exact Tr.nil (Tr.VW (.cons rfl (.cons rfl (.cons rfl (.cons rfl .nil)))) (.cons rfl .nil))
   ·show Tr _ _ (LF [(0, sL zF p0 zH), (3, iv Vk), (4, pV zBc), (27, bV zbW)]) (LE [(3, bx zBc #[iv JM.X0, iv JM.Y0, iv JM.X1, iv JM.Y1] 36)]) _
    refine Tr.mv rfl rfl ?_
    obtain ⟨zbV, zQr, H⟩ := bnd H
    refine Tr.zBy 5 [(0, sL zF p0 zH), (3, iv Vk), (4, pV zBc), (33, bV zbV)] [(3, bx zBc #[iv JM.X0, iv JM.Y0, iv JM.X1, iv JM.Y1] 36)] ?_ ?_
    ·cases zKX : zbW
     ·rw [zKX] at zQr
      rw [if_neg (by decide)] at zQr
      have H := zQr
      refine Tr.val (wg rfl rfl rfl) rfl (fun _ _ a c => zB zE2 (a.ev rfl)) ?_
      refine Tr.val (wg rfl rfl rfl) rfl (fun _ _ a c => zC QA (a.ev rfl) (rdb c (vs := [iv JM.X0, iv JM.Y0, iv JM.X1, iv JM.Y1]) (k := 3) rfl 2) rfl) ?_
      obtain ⟨zcJ, zmz, H⟩ := bnd H
      refine Tr.KV (r := (bV zcJ)) (wg rfl rfl rfl) rfl Tryz.call80 (zI rfl zX) (fun W hW => WL JM.X1 zcJ zmz (HF.start _)) ?_
      refine Tr.val (wg rfl rfl rfl) rfl (fun _ _ a c => Wm (a.ev rfl)) ?_
      refine Tr.va rfl (fun _ _ a c => zy (a.ev rfl) (a.ev rfl)) ?_
      obtain rfl := oI H
      exact Tr.nil (Tr.VW (.cons rfl (.cons rfl (.cons rfl (.cons rfl .nil)))) (.cons rfl .nil))
     ·rw [zKX] at zQr
      rw [if_pos rfl] at zQr
      have H := zQr
      obtain rfl := oI H
      refine Tr.pass rfl rfl rfl rfl rfl (by decide) ?_
      refine Tr.pass rfl rfl rfl rfl rfl (by decide) ?_
      refine Tr.pass rfl rfl rfl rfl rfl (by decide) ?_
      refine Tr.pass rfl rfl rfl rfl rfl (by decide) ?_
      refine Tr.va rfl (fun _ _ a c => zx (a.ev rfl) (a.ev rfl)) ?_
      exact Tr.nil (Tr.VW (.cons rfl (.cons rfl (.cons rfl (.cons rfl .nil)))) (.cons rfl .nil))
    ·show Tr _ _ (LF [(0, sL zF p0 zH), (3, iv Vk), (4, pV zBc), (33, bV zbV)]) (LE [(3, bx zBc #[iv JM.X0, iv JM.Y0, iv JM.X1, iv JM.Y1] 36)]) _
     refine Tr.mv rfl rfl ?_
     obtain ⟨zdW, zQq, H⟩ := bnd H
     refine Tr.zBy 5 [(0, sL zF p0 zH), (3, iv Vk), (4, pV zBc), (39, bV zdW)] [(3, bx zBc #[iv JM.X0, iv JM.Y0, iv JM.X1, iv JM.Y1] 36)] ?_ ?_
     ·cases zKX : zbV
      ·rw [zKX] at zQq
       rw [if_neg (by decide)] at zQq
       have H := zQq
       refine Tr.val (wg rfl rfl rfl) rfl (fun _ _ a c => zB zDg (a.ev rfl)) ?_
       refine Tr.val (wg rfl rfl rfl) rfl (fun _ _ a c => zC QA (a.ev rfl) (rdb c (vs := [iv JM.X0, iv JM.Y0, iv JM.X1, iv JM.Y1]) (k := 3) rfl 3) rfl) ?_
       obtain ⟨zcI, zmx, H⟩ := bnd H
       refine Tr.KV (r := (bV zcI)) (wg rfl rfl rfl) rfl Tryz.call80 (zI rfl zX) (fun W hW => WL JM.Y1 zcI zmx (HF.start _)) ?_
       refine Tr.val (wg rfl rfl rfl) rfl (fun _ _ a c => Wm (a.ev rfl)) ?_
       refine Tr.va rfl (fun _ _ a c => zy (a.ev rfl) (a.ev rfl)) ?_
       obtain rfl := oI H
       exact Tr.nil (Tr.VW (.cons rfl (.cons rfl (.cons rfl (.cons rfl .nil)))) (.cons rfl .nil))
      ·rw [zKX] at zQq
       rw [if_pos rfl] at zQq
       have H := zQq
       obtain rfl := oI H
       refine Tr.pass rfl rfl rfl rfl rfl (by decide) ?_
       refine Tr.pass rfl rfl rfl rfl rfl (by decide) ?_
       refine Tr.pass rfl rfl rfl rfl rfl (by decide) ?_
       refine Tr.pass rfl rfl rfl rfl rfl (by decide) ?_
       refine Tr.va rfl (fun _ _ a c => zx (a.ev rfl) (a.ev rfl)) ?_
       exact Tr.nil (Tr.VW (.cons rfl (.cons rfl (.cons rfl (.cons rfl .nil)))) (.cons rfl .nil))
     ·show Tr _ _ (LF [(0, sL zF p0 zH), (3, iv Vk), (4, pV zBc), (39, bV zdW)]) (LE [(3, bx zBc #[iv JM.X0, iv JM.Y0, iv JM.X1, iv JM.Y1] 36)]) _
      refine Tr.nil (Tr.zA (Tr.cond rfl H (fun H => ?_) (fun H => ?_)))
      ·refine Tr.sr (Tr.asg rfl rfl (Tr.nil (Tr.zA (Tr.ret (Tr.zq (Tr.QY (Tr.zq (Tr.zq (Tr.QY (Tr.zq ?_))))))))))
       obtain rfl := oI H
       exact Tr.out (m := [iv 1]) [] (zU rfl zY) (fun W hW => ⟨rfl, hW.low leB⟩)
      ·refine Tr.skip (Tr.zA (Tr.sr (Tr.va rfl (fun _ _ a c => zB zE2 (a.ev rfl)) ?_)))
       refine Tr.va rfl (fun _ _ a c => zC QA (a.ev rfl) (rdb c (vs := [iv JM.X0, iv JM.Y0, iv JM.X1, iv JM.Y1]) (k := 3) rfl 2) rfl) ?_
       refine Tr.va rfl (fun _ _ a c => zB zAo (a.ev rfl)) ?_
       refine Tr.va rfl (fun _ _ a c => zC QA (a.ev rfl) (rdb c (vs := [iv JM.X0, iv JM.Y0, iv JM.X1, iv JM.Y1]) (k := 3) rfl 0) rfl) ?_
       refine Tr.va rfl (fun _ _ a c => zBJ (a.ev rfl) (a.ev rfl)) ?_
       refine Tr.mv rfl rfl (Tr.zBy 6 [(0, sL zF p0 zH), (3, iv Vk), (51, bV ((decide (JM.X1 ≤ JM.X0)) || (decide (JM.Y1 ≤ JM.Y0))))] [(3, bx zBc #[iv JM.X0, iv JM.Y0, iv JM.X1, iv JM.Y1] 36)] ?_ ?_)
       ·cases zKX : (decide (JM.X1 ≤ JM.X0))
        ·refine Tr.val (wg rfl rfl rfl) rfl (fun _ _ a c => zB zDg (a.ev rfl)) ?_
         refine Tr.val (wg rfl rfl rfl) rfl (fun _ _ a c => zC QA (a.ev rfl) (rdb c (vs := [iv JM.X0, iv JM.Y0, iv JM.X1, iv JM.Y1]) (k := 3) rfl 3) rfl) ?_
         refine Tr.val (wg rfl rfl rfl) rfl (fun _ _ a c => zB zAL (a.ev rfl)) ?_
         refine Tr.val (wg rfl rfl rfl) rfl (fun _ _ a c => zC QA (a.ev rfl) (rdb c (vs := [iv JM.X0, iv JM.Y0, iv JM.X1, iv JM.Y1]) (k := 3) rfl 1) rfl) ?_
         refine Tr.val (wg rfl rfl rfl) rfl (fun _ _ a c => zBJ (a.ev rfl) (a.ev rfl)) ?_
         refine Tr.va rfl (fun _ _ a c => zy (a.ev rfl) (a.ev rfl)) ?_
         exact Tr.nil (Tr.VW (.cons rfl (.cons rfl (.cons rfl .nil))) (.cons rfl .nil))
        ·refine Tr.pass rfl rfl rfl rfl rfl (by decide) ?_
         refine Tr.pass rfl rfl rfl rfl rfl (by decide) ?_
         refine Tr.pass rfl rfl rfl rfl rfl (by decide) ?_
         refine Tr.pass rfl rfl rfl rfl rfl (by decide) ?_
         refine Tr.pass rfl rfl rfl rfl rfl (by decide) ?_
         refine Tr.va rfl (fun _ _ a c => zx (a.ev rfl) (a.ev rfl)) ?_
         exact Tr.nil (Tr.VW (.cons rfl (.cons rfl (.cons rfl .nil))) (.cons rfl .nil))
       ·show Tr _ _ (LF [(0, sL zF p0 zH), (3, iv Vk), (51, bV ((decide (JM.X1 ≤ JM.X0)) || (decide (JM.Y1 ≤ JM.Y0))))]) (LE [(3, bx zBc #[iv JM.X0, iv JM.Y0, iv JM.X1, iv JM.Y1] 36)]) _
        refine Tr.nil (Tr.zA (Tr.cond rfl H (fun H => ?_) (fun H => ?_)))
        ·refine Tr.sr (Tr.asg rfl rfl (Tr.nil (Tr.zA (Tr.ret (Tr.QY (Tr.zq (Tr.zq (Tr.QY (Tr.zq ?_)))))))))
         obtain rfl := oI H
         exact Tr.out (m := [iv 13]) [] (zU rfl zY) (fun W hW => ⟨rfl, hW.low leB⟩)
        ·refine Tr.skip (Tr.zb (Tr.zA (Tr.region (Tr.mv rfl rfl (Tr.va rfl (fun _ _ a c => zg (a.ev rfl) (a.ev rfl)) ?_)))))
         exact Tr.asg rfl rfl (Tr.nil (Tr.zZ QI (w64 (Vk + 1)) H (.cons rfl (.cons rfl .nil)) .nil))
  ·refine Tr.exit (Tr.zP (Tr.zP (Tr.zl (Tr.zA (Tr.sr (Tr.asg rfl rfl (Tr.nil (Tr.zA (Tr.ret ?_)))))))))
   obtain rfl := oI H
   exact Tr.out (m := [iv 0]) [] (zU rfl zY) (fun W hW => ⟨rfl, hW.low leB⟩)

theorem zFx {w : Bs} (p0 : zJ) (p1 : zJ) (r : Bool) (H : Wu p0 p1 = some r) (hE : HF w w.W E0) : Calls Tryz.prog 48 [.agg #[iv p0.X0, iv p0.Y0, iv p0.X1, iv p0.Y1], .agg #[iv p1.X0, iv p1.Y0, iv p1.X1, iv p1.Y1]].toArray w.W fun e W' => e = .returned (bV r) ∧ HF w W' E0 := by
 unfold Wu at H
 have leB := Bs.Le.refl w
 refine Tr.enter (n := 24) Tryz.func48 rfl rfl rfl hE ?_
 refine Tr.sr (Tr.box 1 (cs := [iv p0.X0, iv p0.Y0, iv p0.X1, iv p0.Y1]) (wn rfl) rfl rfl rfl fun QQ => ?_)
 refine Tr.box 2 (cs := [iv p1.X0, iv p1.Y0, iv p1.X1, iv p1.Y1]) (wn rfl) rfl rfl rfl fun WE => ?_
 refine Tr.asg rfl rfl (Tr.nil (Tr.zA (Tr.sr (Tr.va rfl (fun _ _ a c => zB zAL (a.ev rfl)) ?_))))
 refine Tr.va rfl (fun _ _ a c => zC QA (a.ev rfl) (rdb c (vs := [iv p0.X0, iv p0.Y0, iv p0.X1, iv p0.Y1]) (k := 1) rfl 1) rfl) ?_
 refine Tr.va rfl (fun _ _ a c => zB zAL (a.ev rfl)) ?_
 refine Tr.va rfl (fun _ _ a c => zC QA (a.ev rfl) (rdb c (vs := [iv p1.X0, iv p1.Y0, iv p1.X1, iv p1.Y1]) (k := 2) rfl 1) rfl) ?_
 refine Tr.va rfl (fun _ _ a c => zh (a.ev rfl) (a.ev rfl)) ?_
 refine Tr.mv rfl rfl (Tr.zBy 13 [(23, bV ((decide (p0.Y0 < p1.Y0)) || ((p0.Y0 == p1.Y0) && (decide (p0.X0 < p1.X0)))))] [(1, bx QQ #[iv p0.X0, iv p0.Y0, iv p0.X1, iv p0.Y1] 36), (2, bx WE #[iv p1.X0, iv p1.Y0, iv p1.X1, iv p1.Y1] 36)] ?_ ?_)
 ·cases zQz : (decide (p0.Y0 < p1.Y0))
  ·refine Tr.val (wg rfl rfl rfl) rfl (fun _ _ a c => zB zAL (a.ev rfl)) ?_
   refine Tr.val (wg rfl rfl rfl) rfl (fun _ _ a c => zC QA (a.ev rfl) (rdb c (vs := [iv p0.X0, iv p0.Y0, iv p0.X1, iv p0.Y1]) (k := 1) rfl 1) rfl) ?_
   refine Tr.val (wg rfl rfl rfl) rfl (fun _ _ a c => zB zAL (a.ev rfl)) ?_
   refine Tr.val (wg rfl rfl rfl) rfl (fun _ _ a c => zC QA (a.ev rfl) (rdb c (vs := [iv p1.X0, iv p1.Y0, iv p1.X1, iv p1.Y1]) (k := 2) rfl 1) rfl) ?_
   refine Tr.val (wg rfl rfl rfl) rfl (fun _ _ a c => Vv (a.ev rfl) (a.ev rfl)) ?_
   refine Tr.val (wg rfl rfl rfl) rfl (fun _ _ a c => run_move (a.ev rfl)) ?_
   refine Tr.zBy 6 [(10, bV false), (22, bV ((p0.Y0 == p1.Y0) && (decide (p0.X0 < p1.X0))))] [(1, bx QQ #[iv p0.X0, iv p0.Y0, iv p0.X1, iv p0.Y1] 36), (2, bx WE #[iv p1.X0, iv p1.Y0, iv p1.X1, iv p1.Y1] 36)] ?_ ?_
   ·cases zQz : (p0.Y0 == p1.Y0)
    ·refine Tr.pass rfl rfl rfl rfl rfl (by decide) ?_
     refine Tr.pass rfl rfl rfl rfl rfl (by decide) ?_
     refine Tr.pass rfl rfl rfl rfl rfl (by decide) ?_
     refine Tr.pass rfl rfl rfl rfl rfl (by decide) ?_
     refine Tr.pass rfl rfl rfl rfl rfl (by decide) ?_
     refine Tr.val (wg rfl rfl rfl) rfl (fun _ _ a c => zy (a.ev rfl) (a.ev rfl)) ?_
     exact Tr.nil (Tr.VW (.cons rfl (.cons rfl .nil)) (.cons rfl (.cons rfl .nil)))
    ·refine Tr.val (wg rfl rfl rfl) rfl (fun _ _ a c => zB zAo (a.ev rfl)) ?_
     refine Tr.val (wg rfl rfl rfl) rfl (fun _ _ a c => zC QA (a.ev rfl) (rdb c (vs := [iv p0.X0, iv p0.Y0, iv p0.X1, iv p0.Y1]) (k := 1) rfl 0) rfl) ?_
     refine Tr.val (wg rfl rfl rfl) rfl (fun _ _ a c => zB zAo (a.ev rfl)) ?_
     refine Tr.val (wg rfl rfl rfl) rfl (fun _ _ a c => zC QA (a.ev rfl) (rdb c (vs := [iv p1.X0, iv p1.Y0, iv p1.X1, iv p1.Y1]) (k := 2) rfl 0) rfl) ?_
     refine Tr.val (wg rfl rfl rfl) rfl (fun _ _ a c => zh (a.ev rfl) (a.ev rfl)) ?_
     refine Tr.val (wg rfl rfl rfl) rfl (fun _ _ a c => zx (a.ev rfl) (a.ev rfl)) ?_
     exact Tr.nil (Tr.VW (.cons rfl (.cons rfl .nil)) (.cons rfl (.cons rfl .nil)))
   ·show Tr _ _ (LF [(10, bV false), (22, bV ((p0.Y0 == p1.Y0) && (decide (p0.X0 < p1.X0))))]) (LE [(1, bx QQ #[iv p0.X0, iv p0.Y0, iv p0.X1, iv p0.Y1] 36), (2, bx WE #[iv p1.X0, iv p1.Y0, iv p1.X1, iv p1.Y1] 36)]) _
    refine Tr.va rfl (fun _ _ a c => zy (a.ev rfl) (a.ev rfl)) ?_
    exact Tr.nil (Tr.VW (.cons rfl .nil) (.cons rfl (.cons rfl .nil)))
  ·refine Tr.pass rfl rfl rfl rfl rfl (by decide) ?_
   refine Tr.pass rfl rfl rfl rfl rfl (by decide) ?_
   refine Tr.pass rfl rfl rfl rfl rfl (by decide) ?_
   refine Tr.pass rfl rfl rfl rfl rfl (by decide) ?_
   refine Tr.pass rfl rfl rfl rfl rfl (by decide) ?_
   refine Tr.pass rfl rfl rfl rfl rfl (by decide) ?_
   refine Tr.KJ rfl rfl rfl rfl (by decide) ?_
   refine Tr.KJ rfl rfl rfl rfl (by decide) ?_
   refine Tr.KJ rfl rfl rfl rfl (by decide) ?_
   refine Tr.KJ rfl rfl rfl rfl (by decide) ?_
   refine Tr.KJ rfl rfl rfl rfl (by decide) ?_
   refine Tr.pass rfl rfl rfl rfl rfl (by decide) ?_
   refine Tr.va rfl (fun _ _ a c => zx (a.ev rfl) (a.ev rfl)) ?_
   exact Tr.nil (Tr.VW (.cons rfl .nil) (.cons rfl (.cons rfl .nil)))
 ·show Tr _ _ (LF [(23, bV ((decide (p0.Y0 < p1.Y0)) || ((p0.Y0 == p1.Y0) && (decide (p0.X0 < p1.X0)))))]) (LE [(1, bx QQ #[iv p0.X0, iv p0.Y0, iv p0.X1, iv p0.Y1] 36), (2, bx WE #[iv p1.X0, iv p1.Y0, iv p1.X1, iv p1.Y1] 36)]) _
  refine Tr.asg rfl rfl (Tr.nil (Tr.zA (Tr.ret ?_)))
  obtain rfl := oI H
  exact Tr.out (m := [bV ((decide (p0.Y0 < p1.Y0)) || ((p0.Y0 == p1.Y0) && (decide (p0.X0 < p1.X0))))]) [] (zU rfl zY) (fun W hW => ⟨rfl, hW.low leB⟩)

theorem VU (N : Nat) {w : Bs} (p0 : (List Int)) (zF : Option Addr) (zH : Nat) (zK : Sl w.O w.W zW zF zH p0) (p1 : Int) (r : (List Int)) (H : KS N p0 p1 = some r) (hE : HF w w.W (LEn [])) : Calls Tryz.prog 60 [sL zF p0 zH, iv p1].toArray w.W fun e W' => ∃ (w' : Bs) (u : (Option Addr × Nat)), w.Le w' ∧ e = .returned (sL u.1 r u.2) ∧ (Sl w'.O w'.W zW u.1 u.2 r) ∧ HF w' W' (LEn []) := by
 unfold KS at H
 have leB := Bs.Le.refl w
 refine Tr.enter (n := 54) Tryz.func60 rfl rfl rfl hE ?_
 refine Tr.sr (Tr.asg rfl rfl (Tr.Qb 1 3 zW ?_))
 show Tr _ _ (uf _ 4 (sL none (([] : List Int)) 0)) _ _
 refine Tr.nil (Tr.zA (Tr.sr (Tr.mv rfl rfl (Tr.va rfl (fun _ _ a c => zf Vu (a.ev rfl)) ?_))))
 refine Tr.asg rfl rfl (Tr.asg rfl rfl (Tr.nil (Tr.zA (Tr.seq (Tr.block (Tr.loop (σ := Int × Int) (fun m w s => KC p0 p1 m s.1 s.2 = some r) (fun s => [(0, sL zF p0 zH), (1, iv p1), (5, iv s.1), (6, iv s.2)]) (fun s => []) N (0, (p0.length : Int)) H (.cons rfl (.cons rfl (.cons rfl (.cons rfl .nil)))) .nil (fun _ _ h => KG (h)) ?_))))))
 intro w QI mL1 s hs
 obtain ⟨Vt, zEh⟩ := s
 have H := hs
 replace H : KC p0 p1 (mL1 + 1) Vt zEh = some r := H
 replace zK := zK.le QI
 replace leB := leB.trans QI
 rw [KC.eq_2] at H
 show Tr _ _ (LF [(0, sL zF p0 zH), (1, iv p1), (5, iv Vt), (6, iv zEh)]) (LE []) _
 refine Tr.seq (Tr.sr (Tr.mv rfl rfl (Tr.mv rfl rfl (Tr.va rfl (fun _ _ a c => zh (a.ev rfl) (a.ev rfl)) ?_))))
 refine Tr.nil (Tr.zA (Tr.cond rfl H (fun H => ?_) (fun H => ?_)))
 ·refine Tr.skip (Tr.zA (Tr.block (Tr.sr (Tr.mv rfl rfl (Tr.mv rfl rfl (Tr.va rfl (fun _ _ a c => zg (a.ev rfl) (a.ev rfl)) ?_))))))
  refine Tr.va rfl (fun _ _ a c => zWm (a.ev rfl) (a.ev rfl) (by decide)) ?_
  refine Tr.asg rfl rfl (Tr.nil (Tr.zA (Tr.sr (Tr.mv rfl rfl (Tr.mv rfl rfl ?_)))))
  obtain ⟨zAm, zah, H⟩ := bnd H
  obtain ⟨zVw, zVv, zVu⟩ := zO zah
  refine Tr.va rfl (fun _ _ a c => zD Kb (a.ev rfl) zK.form (a.ev rfl) zVw zVv) ?_
  refine Tr.va rfl (fun _ _ a c => zC QA (a.ev rfl) (rdF Jd (zK.rl) zVu c) rfl) ?_
  refine Tr.mv rfl rfl (Tr.va rfl (fun _ _ a c => zh (a.ev rfl) (a.ev rfl)) ?_)
  refine Tr.nil (Tr.zA (Tr.cond rfl H (fun H => ?_) (fun H => ?_)))
  ·refine Tr.region (Tr.mv rfl rfl (Tr.va rfl (fun _ _ a c => zg (a.ev rfl) (a.ev rfl)) ?_))
   exact Tr.asg rfl rfl (Tr.nil (Tr.zb (Tr.zZ QI ((w64 ((w64 (Int.tdiv (w64 (Vt + zEh)) 2)) + 1)), zEh) H (.cons rfl (.cons rfl (.cons rfl (.cons rfl .nil)))) .nil)))
  ·exact Tr.region (Tr.mv rfl rfl (Tr.asg rfl rfl (Tr.nil (Tr.zb (Tr.zZ QI (Vt, (w64 (Int.tdiv (w64 (Vt + zEh)) 2))) H (.cons rfl (.cons rfl (.cons rfl (.cons rfl .nil)))) .nil)))))
 ·refine Tr.exit (Tr.zP (Tr.zP (Tr.zl (Tr.zA (Tr.seq (Tr.sr (Tr.mv rfl rfl (Tr.mv rfl rfl (Tr.va rfl (fun _ _ a c => zf Vu (a.ev rfl)) ?_)))))))))
  refine Tr.va rfl (fun _ _ a c => zh (a.ev rfl) (a.ev rfl)) ?_
  refine Tr.mv rfl rfl ?_
  obtain ⟨zYz, zQw, H⟩ := bnd H
  refine Tr.zBy 7 [(0, sL zF p0 zH), (1, iv p1), (5, iv Vt), (38, bV zYz)] [] ?_ ?_
  ·cases zXQ : (decide (Vt < (p0.length : Int)))
   ·rw [zXQ] at zQw
    rw [if_neg (by decide)] at zQw
    have H := zQw
    obtain rfl := oI H
    refine Tr.pass rfl rfl rfl rfl rfl (by decide) ?_
    refine Tr.pass rfl rfl rfl rfl rfl (by decide) ?_
    refine Tr.pass rfl rfl rfl rfl rfl (by decide) ?_
    refine Tr.pass rfl rfl rfl rfl rfl (by decide) ?_
    refine Tr.pass rfl rfl rfl rfl rfl (by decide) ?_
    refine Tr.pass rfl rfl rfl rfl rfl (by decide) ?_
    refine Tr.va rfl (fun _ _ a c => zy (a.ev rfl) (a.ev rfl)) ?_
    exact Tr.nil (Tr.VW (.cons rfl (.cons rfl (.cons rfl (.cons rfl .nil)))) .nil)
   ·rw [zXQ] at zQw
    rw [if_pos rfl] at zQw
    have H := zQw
    refine Tr.val (wg rfl rfl rfl) rfl (fun _ _ a c => run_move (a.ev rfl)) ?_
    refine Tr.val (wg rfl rfl rfl) rfl (fun _ _ a c => run_move (a.ev rfl)) ?_
    obtain ⟨x113, hx113, H⟩ := bnd H
    obtain ⟨zkO, zkN, zkM⟩ := zO hx113
    refine Tr.val (wg rfl rfl rfl) rfl (fun _ _ a c => zD Kb (a.ev rfl) zK.form (a.ev rfl) zkO zkN) ?_
    refine Tr.val (wg rfl rfl rfl) rfl (fun _ _ a c => zC QA (a.ev rfl) (rdF Jd (zK.rl) zkM c) rfl) ?_
    refine Tr.val (wg rfl rfl rfl) rfl (fun _ _ a c => run_move (a.ev rfl)) ?_
    refine Tr.val (wg rfl rfl rfl) rfl (fun _ _ a c => Vv (a.ev rfl) (a.ev rfl)) ?_
    refine Tr.va rfl (fun _ _ a c => zx (a.ev rfl) (a.ev rfl)) ?_
    obtain rfl := oI H
    exact Tr.nil (Tr.VW (.cons rfl (.cons rfl (.cons rfl (.cons rfl .nil)))) .nil)
  ·show Tr _ _ (LF [(0, sL zF p0 zH), (1, iv p1), (5, iv Vt), (38, bV zYz)]) (LE []) _
   refine Tr.nil (Tr.zA (Tr.cond rfl H (fun H => ?_) (fun H => ?_)))
   ·refine Tr.sr (Tr.mv rfl rfl (Tr.asg rfl rfl (Tr.nil (Tr.zA (Tr.ret (Tr.zq ?_))))))
    obtain rfl := oI H
    exact Tr.out (m := [sL zF p0 zH]) [] (zU rfl zY) (fun W hW => ⟨w, (zF, zH), leB, rfl, zK, hW.pick (ks := []) (by decide) zw⟩)
   ·refine Tr.skip (Tr.zA (Tr.sr (Tr.asg rfl rfl (Tr.Qb 2 3 zW ?_))))
    show Tr _ _ (uf _ 8 (sL none (([] : List Int)) 0)) _ _
    refine Tr.nil (Tr.zA (Tr.sr (Tr.mv rfl rfl (Tr.mv rfl rfl (Tr.mv rfl rfl ?_)))))
    obtain ⟨zLb, zQZ, H⟩ := bnd H
    refine Tr.va rfl (fun _ _ a c => zG9 Kb (a.ev rfl) zK.form (a.ev rfl) zQZ) ?_
    obtain ⟨zaF, zpG, H⟩ := bnd H
    refine Tr.zDp 2 (t := zW) (l := ([] : List Int)) (l2 := zLb) (wn rfl) rfl rfl rfl rfl (apT zH6 (fun W hW => (Sl.pre (Sl.inB (zK.rl) hW) zQZ))) Vu zGN zK9 (by decide) zLq rfl zpG fun zrw zrn hAl115 => ?_
    refine Tr.asg rfl rfl (Tr.nil (Tr.zA (Tr.sr (Tr.mv rfl rfl (Tr.mv rfl rfl (Tr.buildSlice 3 (e := 3) (vs := [(0, iv p1)]) (cs := [iv p1]) (wn rfl) rfl (zi rfl Qh) (by kernel_rfl) fun zsQ => ?_))))))
    obtain ⟨zaE, zpF, H⟩ := bnd H
    refine Tr.append 2 (t := zW) (l := zaF) (l2 := [p1]) (wn rfl) rfl rfl rfl rfl (fun W hW => ⟨[[iv p1]], (.cons ⟨(), trivial, rfl⟩ .nil), rdb hW (vs := [iv p1]) (k := 3) rfl 0⟩) Vu zGN zK9 (by decide) zLq rfl zpF fun zrv zrm hAl117 => ?_
    refine Tr.asg rfl rfl (Tr.nil (Tr.zA (Tr.sr (Tr.mv rfl rfl (Tr.mv rfl rfl (Tr.mv rfl rfl ?_))))))
    obtain ⟨zaD, zeg, H⟩ := bnd H
    refine Tr.va rfl (fun _ _ a c => zDa Kb (a.ev rfl) zK.form (a.ev rfl) zeg) ?_
    obtain ⟨zBj, zQY, H⟩ := bnd H
    refine Tr.zDp 2 (t := zW) (l := zaE) (l2 := zaD) (wn rfl) rfl rfl rfl rfl (apT zH6 (fun W hW => (Sl.cut (Sl.inB (zK.rl) hW) zeg))) Vu zGN zK9 (by decide) zLq rfl zQY fun zBY zBU hAl119 => ?_
    refine Tr.asg rfl rfl (Tr.nil (Tr.zA (Tr.ret ?_)))
    obtain rfl := oI H
    refine Tr.freeze 2 rfl fun w zl5 zmH => ?_
    replace leB := leB.trans zl5
    exact Tr.out (m := [sL zBY zBj zBU]) [] (zU rfl zY) (fun W hW => ⟨w, (zBY, zBU), leB, rfl, zmH, hW.pick (ks := []) (by decide) zw⟩)

theorem zFj (N : Nat) {w : Bs} (p0 : (List zJ)) (zF : Option Addr) (zH : Nat) (zK : Sl w.R w.W zL zF zH p0) (r : (List Int)) (H : zAZ N p0 = some r) (hE : HF w w.W (LEn [])) : Calls Tryz.prog 81 [sL zF p0 zH].toArray w.W fun e W' => ∃ (w' : Bs) (u : (Option Addr × Nat)), w.Le w' ∧ e = .returned (sL u.1 r u.2) ∧ (Sl w'.O w'.W zW u.1 u.2 r) ∧ HF w' W' (LEn []) := by
 unfold zAZ at H
 have leB := Bs.Le.refl w
 refine Tr.enter (n := 25) Tryz.func81 rfl rfl rfl hE ?_
 refine Tr.sr (Tr.asg rfl rfl (Tr.Qb 1 3 zW ?_))
 show Tr _ _ (uf _ 2 (sL none (([] : List Int)) 0)) _ _
 refine Tr.nil (Tr.zA (Tr.sr (Tr.asg rfl rfl (Tr.Qb 2 3 zW ?_))))
 show Tr _ _ (uf _ 3 (sL none (([] : List Int)) 0)) _ _
 refine Tr.nil (Tr.zA (Tr.seq (Tr.sr (Tr.asg rfl rfl (Tr.nil (Tr.zA (Tr.block (Tr.freeze 2 rfl fun w zW6 zGh => ?_))))))))
 replace zK := zK.leR zW6
 replace leB := leB.trans zW6
 refine Tr.loop (σ := (List Int) × Int × (Option Addr) × Nat) (fun m w s => Jj N p0 m s.1 s.2.1 = some r ∧ Sl w.O w.W zW s.2.2.1 s.2.2.2 s.1) (fun s => [(0, sL zF p0 zH), (3, sL s.2.2.1 s.1 s.2.2.2), (4, iv s.2.1)]) (fun s => []) N (([] : List Int), 0, none, 0) ⟨H, zGh⟩ (.cons rfl (.cons rfl (.cons rfl .nil))) .nil (fun _ _ h => KG (h.1)) ?_
 intro w QI mL1 s hs
 obtain ⟨Wi, Jp, zAD, WY⟩ := s
 obtain ⟨H, zDf⟩ := hs
 replace H : Jj N p0 (mL1 + 1) Wi Jp = some r := H
 replace zK := zK.leR QI
 replace leB := leB.trans QI
 replace zDf : Sl w.O w.W zW zAD WY Wi := zDf
 rw [Jj.eq_2] at H
 show Tr _ _ (LF [(0, sL zF p0 zH), (3, sL zAD Wi WY), (4, iv Jp)]) (LE []) _
 refine Tr.seq (Tr.sr (Tr.mv rfl rfl (Tr.mv rfl rfl (Tr.va rfl (fun _ _ a c => zf zA9 (a.ev rfl)) ?_))))
 refine Tr.va rfl (fun _ _ a c => zh (a.ev rfl) (a.ev rfl)) ?_
 refine Tr.nil (Tr.zA (Tr.cond rfl H (fun H => ?_) (fun H => ?_)))
 ·refine Tr.skip (Tr.zA (Tr.seq (Tr.block (Tr.zJQ 12 [] [] (by kernel_rfl) (by kernel_rfl) fun zrY zom zqP => ?_))))
  refine Dr.quiet 0 [(11, sL zAD Wi WY)] (by kernel_rfl) rfl rfl (by kernel_rfl) ?_ rfl rfl ?_
  ·exact Tq.mv rfl rfl (Tq.fin (.cons rfl .nil))
  refine Dr.quiet 1 [(12, sL zF p0 zH)] (by kernel_rfl) rfl rfl (by kernel_rfl) ?_ rfl rfl ?_
  ·exact Tq.mv rfl rfl (Tq.fin (.cons rfl .nil))
  refine Dr.quiet 2 [(13, iv Jp)] (by kernel_rfl) rfl rfl (by kernel_rfl) ?_ rfl rfl ?_
  ·exact Tq.mv rfl rfl (Tq.fin (.cons rfl .nil))
  obtain ⟨Vk, zTk, H⟩ := bnd H
  obtain ⟨zOV, zOU, zOT⟩ := zO zTk
  refine Dr.quiet 3 [(14, .pointer (some ⟨adB zF, adO zF + (Jp).toNat * 4, none⟩))] (by kernel_rfl) rfl rfl (by kernel_rfl) ?_ rfl rfl ?_
  ·refine Tq.va rfl (fun _ _ a c => zD zA3 (a.ev rfl) zK.form (a.ev rfl) zOV zOU) ?_
   exact Tq.fin (.cons rfl .nil)
  refine Dr.quiet 4 [(15, .pointer (some ⟨adB zF, adO zF + (Jp).toNat * 4 + 1, none⟩))] (by kernel_rfl) rfl rfl (by kernel_rfl) ?_ rfl rfl ?_
  ·refine Tq.va rfl (fun _ _ a c => zB zAL (a.ev rfl)) ?_
   exact Tq.fin (.cons rfl .nil)
  refine Dr.quiet 5 [(16, iv Vk.Y0)] (by kernel_rfl) rfl rfl (by kernel_rfl) ?_ rfl rfl ?_
  ·refine Tq.va rfl (fun _ _ a c => zC QA (a.ev rfl) (zQ.drop (rdF KL zK zOT c) 1) rfl) ?_
   exact Tq.fin (.cons rfl .nil)
  refine Dr.quiet 7 [(18, sL zF p0 zH)] (by kernel_rfl) rfl rfl (by kernel_rfl) ?_ rfl rfl ?_
  ·exact Tq.mv rfl rfl (Tq.fin (.cons rfl .nil))
  refine Dr.quiet 8 [(19, iv Jp)] (by kernel_rfl) rfl rfl (by kernel_rfl) ?_ rfl rfl ?_
  ·exact Tq.mv rfl rfl (Tq.fin (.cons rfl .nil))
  obtain ⟨JM, hx128, H⟩ := bnd H
  obtain ⟨zJt, zJs, zJr⟩ := zO hx128
  refine Dr.quiet 9 [(20, .pointer (some ⟨adB zF, adO zF + (Jp).toNat * 4, none⟩))] (by kernel_rfl) rfl rfl (by kernel_rfl) ?_ rfl rfl ?_
  ·refine Tq.va rfl (fun _ _ a c => zD zA3 (a.ev rfl) zK.form (a.ev rfl) zJt zJs) ?_
   exact Tq.fin (.cons rfl .nil)
  refine Dr.quiet 10 [(21, .pointer (some ⟨adB zF, adO zF + (Jp).toNat * 4 + 3, none⟩))] (by kernel_rfl) rfl rfl (by kernel_rfl) ?_ rfl rfl ?_
  ·refine Tq.va rfl (fun _ _ a c => zB zDg (a.ev rfl)) ?_
   exact Tq.fin (.cons rfl .nil)
  refine Dr.quiet 11 [(22, iv JM.Y1)] (by kernel_rfl) rfl rfl (by kernel_rfl) ?_ rfl rfl ?_
  ·refine Tq.va rfl (fun _ _ a c => zC QA (a.ev rfl) (zQ.drop (rdF KL zK zJr c) 3) rfl) ?_
   exact Tq.fin (.cons rfl .nil)
  obtain ⟨zJY, zaQ, H⟩ := bnd H
  refine Dr.one 6 (by kernel_rfl) ?_
  refine St.zCe 6 [] [] (U := (Option Addr × Nat)) (fun u => (sL u.1 zJY u.2)) (fun O W u => Sl O W zW u.1 u.2 zJY) (fun u => []) rfl zw (fun _ => rfl) (zKS rfl) rfl (wn rfl) rfl Tryz.call60 (zI rfl (zI rfl zX)) (fun W hW hp hE => VU N Wi zAD WY (zDf.zMY (hW.zCA hp)) Vk.Y0 zJY zaQ hE) ?_
  intro w u zW5 hu zrL
  obtain ⟨zSn, zSU⟩ := u
  have gy129_0 := hu
  replace QI := QI.trans zW5
  have zOo : Sl w.O w.W zW zSn zSU zJY := gy129_0
  show Dr _ _ _ _ _ _ _ _ _ (uf _ 17 (sL zSn zJY zSU)) (_)
  refine Dr.tail (by kernel_rfl) ?_
  obtain ⟨zDO, zTe, H⟩ := bnd H
  refine Tr.zCe [] [] (U := (Option Addr × Nat)) (fun u => (sL u.1 zDO u.2)) (fun O W u => Sl O W zW u.1 u.2 zDO) (fun u => []) rfl zw (fun _ => rfl) (wn rfl) rfl Tryz.call60 (zI rfl (zI rfl zX)) (fun W hW hp hE => VU N zJY zSn zSU (zOo.zMY (hW.zCA hp)) JM.Y1 zDO zTe hE) ?_
  intro w u zeP hu
  obtain ⟨zGD, zF7⟩ := u
  have gy131_0 := hu
  replace zOo := zOo.le zeP
  replace QI := QI.trans zeP
  have zTy : Sl w.O w.W zW zGD zF7 zDO := gy131_0 --@phi
  show Tr _ _ (uf _ 23 (sL zGD zDO zF7)) (_) _
  refine Tr.asg rfl rfl (Tr.nil (Tr.zb (Tr.zA (Tr.region (Tr.mv rfl rfl (Tr.va rfl (fun _ _ a c => zg (a.ev rfl) (a.ev rfl)) ?_))))))
  exact Tr.asg rfl rfl (Tr.nil (Tr.zZ QI (zDO, (w64 (Jp + 1)), zGD, zF7) ⟨H, zTy⟩ (.cons rfl (.cons rfl (.cons rfl .nil))) .nil))
 ·refine Tr.exit (Tr.zP (Tr.zP (Tr.zl (Tr.zA (Tr.sr (Tr.mv rfl rfl (Tr.asg rfl rfl (Tr.nil (Tr.zA (Tr.ret ?_))))))))))
  obtain rfl := oI H
  exact Tr.out (m := [sL zAD Wi WY]) [] (zU rfl zY) (fun W hW => ⟨w, (zAD, WY), leB, rfl, zDf, hW.pick (ks := []) (by decide) zw⟩)

theorem zCn (N : Nat) {w : Bs} (p0 : (List KH)) (zF : Option Addr) (zH : Nat) (zK : Sl w.R w.W Qm zF zH p0) (p1 : KH) (r : (List KH)) (H : VV N p0 p1 = some r) (hE : HF w w.W (LEn [emp])) : Calls Tryz.prog 88 [sL zF p0 zH, .agg #[iv p1.from_, iv p1.to_]].toArray w.W fun e W' => ∃ u : (Option Addr × Nat), e = .returned (sL u.1 r u.2) ∧ (SlF u.1 r.length u.2) ∧ HF w W' (LEn [ow u.1 u.2 125 Qm r]) := by
 unfold VV at H
 have leB := Bs.Le.refl w
 refine Tr.enter (n := 73) Tryz.func88 rfl rfl rfl hE ?_
 refine Tr.sr (Tr.box 1 (cs := [iv p1.from_, iv p1.to_]) (wn rfl) rfl rfl rfl fun QQ => ?_)
 refine Tr.asg rfl rfl (Tr.Qb 2 125 Qm ?_)
 show Tr _ _ (uf _ 4 (sL none (([] : List KH)) 0)) _ _
 refine Tr.nil (Tr.zA (Tr.sr (Tr.asg rfl rfl (Tr.Qb 3 125 Qm ?_))))
 show Tr _ _ (uf _ 5 (sL none (([] : List KH)) 0)) _ _
 refine Tr.nil (Tr.zA (Tr.sr (Tr.asg rfl rfl (Tr.nil (Tr.zA (Tr.seq (Tr.block (Tr.loop (σ := (List KH) × Int × (Option Addr) × Nat) (fun m w s => Ju N p0 p1 m s.1 s.2.1 = some r ∧ SlF s.2.2.1 s.1.length s.2.2.2) (fun s => [(0, sL zF p0 zH), (3, pV QQ), (5, sL s.2.2.1 s.1 s.2.2.2), (6, iv s.2.1)]) (fun s => [(1, bx QQ #[iv p1.from_, iv p1.to_] 125), (3, ow s.2.2.1 s.2.2.2 125 Qm s.1)]) N (([] : List KH), 0, none, 0) ⟨H, Jm⟩ (.cons rfl (.cons rfl (.cons rfl (.cons rfl .nil)))) (.cons rfl (.cons rfl .nil)) (fun _ _ h => KG (h.1)) ?_))))))))
 intro w QI mL1 s hs
 obtain ⟨zBj, zMS, zBY, zBU⟩ := s
 obtain ⟨H, zQY⟩ := hs
 replace H : Ju N p0 p1 (mL1 + 1) zBj zMS = some r := H
 replace zK := zK.leR QI
 replace leB := leB.trans QI
 rw [Ju.eq_2] at H
 show Tr _ _ (LF [(0, sL zF p0 zH), (3, pV QQ), (5, sL zBY zBj zBU), (6, iv zMS)]) (LE [(1, bx QQ #[iv p1.from_, iv p1.to_] 125), (3, ow zBY zBU 125 Qm zBj)]) _
 refine Tr.seq (Tr.seq (Tr.draw (by kernel_rfl) (by kernel_rfl) ?_))
 refine Tq.mv rfl rfl (Tq.mv rfl rfl (Tq.va rfl (fun _ _ a c => zf zH3 (a.ev rfl)) ?_))
 refine Tq.va rfl (fun _ _ a c => zh (a.ev rfl) (a.ev rfl)) ?_
 refine Tq.mv rfl rfl ?_
 obtain ⟨zks, zQv, H⟩ := bnd H
 refine Tq.mid 9 [(0, sL zF p0 zH), (3, pV QQ), (5, sL zBY zBj zBU), (6, iv zMS), (20, bV zks)] ?_ ?_
 ·cases zT2 : (decide (zMS < (p0.length : Int)))
  ·rw [zT2] at zQv
   rw [if_neg (by decide)] at zQv
   have H := zQv
   obtain rfl := oI H
   refine Tq.pass rfl rfl rfl rfl rfl (by decide) ?_
   refine Tq.pass rfl rfl rfl rfl rfl (by decide) ?_
   refine Tq.pass rfl rfl rfl rfl rfl (by decide) ?_
   refine Tq.pass rfl rfl rfl rfl rfl (by decide) ?_
   refine Tq.pass rfl rfl rfl rfl rfl (by decide) ?_
   refine Tq.pass rfl rfl rfl rfl rfl (by decide) ?_
   refine Tq.pass rfl rfl rfl rfl rfl (by decide) ?_
   refine Tq.pass rfl rfl rfl rfl rfl (by decide) ?_
   refine Tq.va rfl (fun _ _ a c => zy (a.ev rfl) (a.ev rfl)) ?_
   exact Tq.fin (.cons rfl (.cons rfl (.cons rfl (.cons rfl (.cons rfl .nil)))))
  ·rw [zT2] at zQv
   rw [if_pos rfl] at zQv
   have H := zQv
   refine Tq.val (wg rfl rfl rfl) rfl (fun _ _ a c => run_move (a.ev rfl)) ?_
   refine Tq.val (wg rfl rfl rfl) rfl (fun _ _ a c => run_move (a.ev rfl)) ?_
   obtain ⟨Jp, zaf, H⟩ := bnd H
   obtain ⟨hx1230, hx1231, hx1232⟩ := zO zaf
   refine Tq.val (wg rfl rfl rfl) rfl (fun _ _ a c => zD zHg (a.ev rfl) zK.form (a.ev rfl) hx1230 hx1231) ?_
   refine Tq.val (wg rfl rfl rfl) rfl (fun _ _ a c => zB zFc (a.ev rfl)) ?_
   refine Tq.val (wg rfl rfl rfl) rfl (fun _ _ a c => zC QA (a.ev rfl) (zQ.drop (rdF zCa zK hx1232 c) 1) rfl) ?_
   refine Tq.val (wg rfl rfl rfl) rfl (fun _ _ a c => zB zFd (a.ev rfl)) ?_
   refine Tq.val (wg rfl rfl rfl) rfl (fun _ _ a c => zC QA (a.ev rfl) (rdb c (vs := [iv p1.from_, iv p1.to_]) (k := 1) rfl 0) rfl) ?_
   refine Tq.val (wg rfl rfl rfl) rfl (fun _ _ a c => zh (a.ev rfl) (a.ev rfl)) ?_
   refine Tq.va rfl (fun _ _ a c => zx (a.ev rfl) (a.ev rfl)) ?_
   obtain rfl := oI H
   exact Tq.fin (.cons rfl (.cons rfl (.cons rfl (.cons rfl (.cons rfl .nil)))))
 ·refine Tq.nil (Tr.zA (Tr.cond rfl H (fun H => ?_) (fun H => ?_)))
  ·refine Tr.skip (Tr.zA (Tr.block (Tr.sr (Tr.mv rfl rfl (Tr.mv rfl rfl (Tr.mv rfl rfl ?_))))))
   obtain ⟨zBa, zTl, H⟩ := bnd H
   obtain ⟨hx1240, hx1241, zOW⟩ := zO zTl
   refine Tr.va rfl (fun _ _ a c => zD zHg (a.ev rfl) zK.form (a.ev rfl) hx1240 hx1241) ?_
   refine Tr.va rfl (fun _ _ a c => ze (cs := [iv zBa.from_, iv zBa.to_]) zSd zJh (a.ev rfl) (zQ.take (rdF zCa zK zOW c) 2) rfl) ?_
   refine Tr.buildSlice 6 (e := 125) (vs := [(0, .agg #[iv zBa.from_, iv zBa.to_])]) (cs := [iv zBa.from_, iv zBa.to_]) (wn rfl) rfl (zi rfl Qh) (by kernel_rfl) fun zsP => ?_
   obtain ⟨zKR, za0, H⟩ := bnd H
   refine Tr.append 3 (t := Qm) (l := zBj) (l2 := [zBa]) (wn rfl) rfl rfl rfl rfl (fun W hW => ⟨[[iv zBa.from_, iv zBa.to_]], (.cons ⟨(), trivial, rfl⟩ .nil), rdb hW (vs := [iv zBa.from_, iv zBa.to_]) (k := 6) rfl 0⟩) zH3 zJh zUt (by decide) zWK rfl za0 fun zqF zpp hAl126 => ?_
   refine Tr.asg rfl rfl (Tr.nil (Tr.zA (Tr.region (Tr.mv rfl rfl (Tr.va rfl (fun _ _ a c => zg (a.ev rfl) (a.ev rfl)) ?_)))))
   exact Tr.asg rfl rfl (Tr.nil (Tr.zb (Tr.zZ QI (zKR, (w64 (zMS + 1)), zqF, zpp) ⟨H, hAl126⟩ (.cons rfl (.cons rfl (.cons rfl (.cons rfl .nil)))) (.cons rfl (.cons rfl .nil)))))
  ·refine Tr.exit (Tr.zP (Tr.zP (Tr.zl (Tr.zA (Tr.seq (Tr.block (Tr.loop (σ := Int × Int × Int) (fun m w s => Jt p0 zBj m s.1 s.2.1 s.2.2 = some r) (fun s => [(0, sL zF p0 zH), (3, pV QQ), (5, sL zBY zBj zBU), (6, iv s.2.2)]) (fun s => [(1, bx QQ #[iv s.1, iv s.2.1] 125), (3, ow zBY zBU 125 Qm zBj)]) N (p1.from_, p1.to_, zMS) H (.cons rfl (.cons rfl (.cons rfl (.cons rfl .nil)))) (.cons rfl (.cons rfl .nil)) (fun _ _ h => KG (h)) ?_)))))))
   intro w zCs mL2 s hs
   obtain ⟨zGM, zGL, x150⟩ := s
   have H := hs
   replace H : Jt p0 zBj (mL2 + 1) zGM zGL x150 = some r := H
   replace zK := zK.leR zCs
   replace leB := leB.trans zCs
   rw [Jt.eq_2] at H
   show Tr _ _ (LF [(0, sL zF p0 zH), (3, pV QQ), (5, sL zBY zBj zBU), (6, iv x150)]) (LE [(1, bx QQ #[iv zGM, iv zGL] 125), (3, ow zBY zBU 125 Qm zBj)]) _
   refine Tr.seq (Tr.seq (Tr.draw (by kernel_rfl) (by kernel_rfl) ?_))
   refine Tq.mv rfl rfl (Tq.mv rfl rfl (Tq.va rfl (fun _ _ a c => zf zH3 (a.ev rfl)) ?_))
   refine Tq.va rfl (fun _ _ a c => zh (a.ev rfl) (a.ev rfl)) ?_
   refine Tq.mv rfl rfl ?_
   obtain ⟨zkq, zQp, H⟩ := bnd H
   refine Tq.mid 9 [(0, sL zF p0 zH), (3, pV QQ), (5, sL zBY zBj zBU), (6, iv x150), (43, bV zkq)] ?_ ?_
   ·cases zT2 : (decide (x150 < (p0.length : Int)))
    ·rw [zT2] at zQp
     rw [if_neg (by decide)] at zQp
     have H := zQp
     obtain rfl := oI H
     refine Tq.pass rfl rfl rfl rfl rfl (by decide) ?_
     refine Tq.pass rfl rfl rfl rfl rfl (by decide) ?_
     refine Tq.pass rfl rfl rfl rfl rfl (by decide) ?_
     refine Tq.pass rfl rfl rfl rfl rfl (by decide) ?_
     refine Tq.pass rfl rfl rfl rfl rfl (by decide) ?_
     refine Tq.pass rfl rfl rfl rfl rfl (by decide) ?_
     refine Tq.pass rfl rfl rfl rfl rfl (by decide) ?_
     refine Tq.pass rfl rfl rfl rfl rfl (by decide) ?_
     refine Tq.va rfl (fun _ _ a c => zy (a.ev rfl) (a.ev rfl)) ?_
     exact Tq.fin (.cons rfl (.cons rfl (.cons rfl (.cons rfl (.cons rfl .nil)))))
    ·rw [zT2] at zQp
     rw [if_pos rfl] at zQp
     have H := zQp
     refine Tq.val (wg rfl rfl rfl) rfl (fun _ _ a c => run_move (a.ev rfl)) ?_
     refine Tq.val (wg rfl rfl rfl) rfl (fun _ _ a c => run_move (a.ev rfl)) ?_
     obtain ⟨x153, hx153, H⟩ := bnd H
     obtain ⟨zjr, zjq, zjo⟩ := zO hx153
     refine Tq.val (wg rfl rfl rfl) rfl (fun _ _ a c => zD zHg (a.ev rfl) zK.form (a.ev rfl) zjr zjq) ?_
     refine Tq.val (wg rfl rfl rfl) rfl (fun _ _ a c => zB zFd (a.ev rfl)) ?_
     refine Tq.val (wg rfl rfl rfl) rfl (fun _ _ a c => zC QA (a.ev rfl) (zQ.drop (rdF zCa zK zjo c) 0) rfl) ?_
     refine Tq.val (wg rfl rfl rfl) rfl (fun _ _ a c => zB zFc (a.ev rfl)) ?_
     refine Tq.val (wg rfl rfl rfl) rfl (fun _ _ a c => zC QA (a.ev rfl) (rdb c (vs := [iv zGM, iv zGL]) (k := 1) rfl 1) rfl) ?_
     refine Tq.val (wg rfl rfl rfl) rfl (fun _ _ a c => zBJ (a.ev rfl) (a.ev rfl)) ?_
     refine Tq.va rfl (fun _ _ a c => zx (a.ev rfl) (a.ev rfl)) ?_
     obtain rfl := oI H
     exact Tq.fin (.cons rfl (.cons rfl (.cons rfl (.cons rfl (.cons rfl .nil)))))
   ·refine Tq.nil (Tr.zA (Tr.cond rfl H (fun H => ?_) (fun H => ?_)))
    ·refine Tr.skip (Tr.zA (Tr.block (Tr.seq (Tr.zJQ 18 [(17, fun x => x = QQ)] [] (by kernel_rfl) (by kernel_rfl) fun zlj zoi zqK => ?_))))
     refine Dr.quiet 0 [(44, pV QQ)] (by kernel_rfl) rfl rfl (by kernel_rfl) ?_ rfl rfl ?_
     ·refine Tq.va rfl (fun _ _ a c => zB zFd (a.ev rfl)) ?_
      exact Tq.fin (.cons rfl .nil)
     refine Dr.quiet 1 [(45, iv zGM)] (by kernel_rfl) rfl rfl (by kernel_rfl) ?_ rfl rfl ?_
     ·refine Tq.va rfl (fun _ _ a c => zC QA (a.ev rfl) (rdb c (vs := [iv zGM, iv zGL]) (k := 1) rfl 0) rfl) ?_
      exact Tq.fin (.cons rfl .nil)
     refine Dr.quiet 2 [(46, sL zF p0 zH)] (by kernel_rfl) rfl rfl (by kernel_rfl) ?_ rfl rfl ?_
     ·exact Tq.mv rfl rfl (Tq.fin (.cons rfl .nil))
     refine Dr.quiet 3 [(47, iv x150)] (by kernel_rfl) rfl rfl (by kernel_rfl) ?_ rfl rfl ?_
     ·exact Tq.mv rfl rfl (Tq.fin (.cons rfl .nil))
     obtain ⟨zJ6, zaa, H⟩ := bnd H
     obtain ⟨zVe, zVd, zVc⟩ := zO zaa
     refine Dr.quiet 4 [(48, .pointer (some ⟨adB zF, adO zF + (x150).toNat * 2, none⟩))] (by kernel_rfl) rfl rfl (by kernel_rfl) ?_ rfl rfl ?_
     ·refine Tq.va rfl (fun _ _ a c => zD zHg (a.ev rfl) zK.form (a.ev rfl) zVe zVd) ?_
      exact Tq.fin (.cons rfl .nil)
     refine Dr.quiet 5 [(49, .pointer (some ⟨adB zF, adO zF + (x150).toNat * 2 + 0, none⟩))] (by kernel_rfl) rfl rfl (by kernel_rfl) ?_ rfl rfl ?_
     ·refine Tq.va rfl (fun _ _ a c => zB zFd (a.ev rfl)) ?_
      exact Tq.fin (.cons rfl .nil)
     refine Dr.quiet 6 [(50, iv zJ6.from_)] (by kernel_rfl) rfl rfl (by kernel_rfl) ?_ rfl rfl ?_
     ·refine Tq.va rfl (fun _ _ a c => zC QA (a.ev rfl) (zQ.drop (rdF zCa zK zVc c) 0) rfl) ?_
      exact Tq.fin (.cons rfl .nil)
     refine Dr.quiet 7 [(51, iv (min zGM zJ6.from_))] (by kernel_rfl) rfl rfl (by kernel_rfl) ?_ rfl rfl ?_
     ·refine Tq.va rfl (fun _ _ a c => zMg (a.ev rfl) (a.ev rfl) _) ?_
      exact Tq.fin (.cons rfl .nil)
     refine Dr.quiet 8 [(52, .pointer (some ⟨QQ, 1, none⟩))] (by kernel_rfl) rfl rfl (by kernel_rfl) ?_ rfl rfl ?_
     ·refine Tq.va rfl (fun _ _ a c => zB zFc (a.ev rfl)) ?_
      exact Tq.fin (.cons rfl .nil)
     refine Dr.quiet 9 [(53, iv zGL)] (by kernel_rfl) rfl rfl (by kernel_rfl) ?_ rfl rfl ?_
     ·refine Tq.va rfl (fun _ _ a c => zC QA (a.ev rfl) (rdb c (vs := [iv zGM, iv zGL]) (k := 1) rfl 1) rfl) ?_
      exact Tq.fin (.cons rfl .nil)
     refine Dr.Wh 10 (by kernel_rfl) rfl (wn rfl) rfl (by kernel_rfl) (fun _ _ a => run_move (a.ev rfl)) rfl ?_
     refine Dr.Wh 11 (by kernel_rfl) rfl (wn rfl) rfl (by kernel_rfl) (fun _ _ a => run_move (a.ev rfl)) rfl ?_
     obtain ⟨zYS, zoP, H⟩ := bnd H
     obtain ⟨zjk, zjj, zji⟩ := zO zoP
     refine Dr.Wh 12 (by kernel_rfl) rfl (wn rfl) rfl (by kernel_rfl) (fun _ _ a => zD zHg (a.ev rfl) zK.form (a.ev rfl) zjk zjj) rfl ?_
     refine Dr.Wh 13 (by kernel_rfl) rfl (wn rfl) rfl (by kernel_rfl) (fun _ _ a => zB zFc (a.ev rfl)) rfl ?_
     refine Dr.zED 14 [(58, iv zYS.to_)] [17] false (by kernel_rfl) rfl rfl (by kernel_rfl) (fun W W' c hsW hk => HF.zHc (le := []) (ks := [(1, fun x => x = QQ)]) (s0 := zlj) false c hk (fun h => absurd h (by decide)) .nil (fun b hb => hb.elim (fun ⟨p, hp, hf, hb⟩ => by simp only [List.mem_cons, List.not_mem_nil, or_false] at hp; rcases hp with rfl; exact .inl ⟨_, List.mem_cons_self, hb⟩) (fun hb => absurd hb.1 (by decide))) (List.forall_mem_cons.2 ⟨fun b hb => hb, (fun _ h => nomatch h)⟩) rfl) ?_ rfl rfl ?_
     ·refine Tq.va rfl (fun _ _ a c => zC QA (a.ev rfl) (zQ.drop (rdF zCa zK zji c) 1) rfl) ?_
      exact Tq.fin (.cons rfl .nil)
     refine Dr.Wh 15 (by kernel_rfl) rfl (wn rfl) rfl (by kernel_rfl) (fun _ _ a => zKA (a.ev rfl) (a.ev rfl) _) rfl ?_
     refine Dr.quiet 16 [(60, pV QQ)] (by kernel_rfl) rfl rfl (by kernel_rfl) ?_ rfl rfl ?_
     ·refine Tq.va rfl (fun _ _ a c => zB zFd (a.ev rfl)) ?_
      exact Tq.fin (.cons rfl .nil)
     refine Dr.one 17 (by kernel_rfl) ?_
     refine St.store 17 1 (cs := [iv (min zGM zJ6.from_)]) [iv (min zGM zJ6.from_), iv zGL] rfl (wn rfl) (.inl ⟨_, List.mem_cons_self, rfl, rfl⟩) rfl rfl rfl rfl zGN rfl rfl rfl ?_
     refine Dr.tail (by kernel_rfl) ?_
     refine Tr.va rfl (fun _ _ a c => zB zFc (a.ev rfl)) ?_
     refine Tr.store 1 (cs := [iv (max zGL zYS.to_)]) [iv (min zGM zJ6.from_), iv (max zGL zYS.to_)] (wn rfl) rfl rfl rfl rfl zGN rfl rfl rfl ?_
     refine Tr.nil (Tr.zA (Tr.region (Tr.mv rfl rfl (Tr.va rfl (fun _ _ a c => zg (a.ev rfl) (a.ev rfl)) ?_))))
     exact Tr.asg rfl rfl (Tr.nil (Tr.zb (Tr.zZ zCs ((min zGM zJ6.from_), (max zGL zYS.to_), (w64 (x150 + 1))) H (.cons rfl (.cons rfl (.cons rfl (.cons rfl .nil)))) (.cons rfl (.cons rfl .nil)))))
    ·refine Tr.exit (Tr.zP (Tr.zP (Tr.zl (Tr.zA (Tr.sr (Tr.mv rfl rfl (Tr.va rfl (fun _ _ a c => ze (cs := [iv zGM, iv zGL]) zSd zJh (a.ev rfl) (zQ.take (rdb c (vs := [iv zGM, iv zGL]) (k := 1) rfl 0) 2) rfl) ?_)))))))
     refine Tr.buildSlice 7 (e := 125) (vs := [(0, .agg #[iv zGM, iv zGL])]) (cs := [iv zGM, iv zGL]) (wn rfl) rfl (zi rfl Qh) (by kernel_rfl) fun zsK => ?_
     obtain ⟨zA7, zGi, H⟩ := bnd H
     refine Tr.append 3 (t := Qm) (l := zBj) (l2 := [(KH.mk zGM zGL)]) (wn rfl) rfl rfl rfl rfl (fun W hW => ⟨[[iv zGM, iv zGL]], (.cons ⟨(), trivial, rfl⟩ .nil), rdb hW (vs := [iv zGM, iv zGL]) (k := 7) rfl 0⟩) zH3 zJh zUt (by decide) zWK rfl zGi fun zGI zGB hAl158 => ?_
     refine Tr.asg rfl rfl (Tr.nil (Tr.zA (Tr.sr (Tr.mv rfl rfl (Tr.mv rfl rfl (Tr.mv rfl rfl ?_))))))
     obtain ⟨zSA, zTv, H⟩ := bnd H
     refine Tr.va rfl (fun _ _ a c => zDa zHg (a.ev rfl) zK.form (a.ev rfl) zTv) ?_
     obtain ⟨zR9, zay, H⟩ := bnd H
     refine Tr.zDp 3 (t := Qm) (l := zA7) (l2 := zSA) (wn rfl) rfl rfl rfl rfl (apT zJ7 (fun W hW => (Sl.cut (Sl.inB zK hW) zTv))) zH3 zJh zUt (by decide) zWK rfl zay fun zUq zUM hAl160 => ?_
     refine Tr.asg rfl rfl (Tr.nil (Tr.zA (Tr.ret ?_)))
     obtain rfl := oI H
     exact Tr.out (m := [sL zUq zR9 zUM]) [] (zU rfl zY) (fun W hW => ⟨(zUq, zUM), rfl, hAl160, HF.zEF leB (hW.pick (ks := [3]) (by decide) (zn rfl zw)) ⟨Ww _ _ _ _ zJ7, trivial⟩⟩)

theorem zDv (N : Nat) {w : Bs} (p0 : (List zJ)) (zF : Option Addr) (zH : Nat) (zK : Sl w.R w.W zL zF zH p0) (p1 : Int) (r : (List KH)) (H : zAl N p0 p1 = some r) (hE : HF w w.W (LEn [emp])) : Calls Tryz.prog 82 [sL zF p0 zH, iv p1].toArray w.W fun e W' => ∃ u : (Option Addr × Nat), e = .returned (sL u.1 r u.2) ∧ (SlF u.1 r.length u.2) ∧ HF w W' (LEn [ow u.1 u.2 125 Qm r]) := by
 unfold zAl at H
 have leB := Bs.Le.refl w
 refine Tr.enter (n := 43) Tryz.func82 rfl rfl rfl hE ?_
 refine Tr.sr (Tr.asg rfl rfl (Tr.Qb 1 125 Qm ?_))
 show Tr _ _ (uf _ 4 (sL none (([] : List KH)) 0)) _ _
 refine Tr.nil (Tr.zA (Tr.sr (Tr.asg rfl rfl (Tr.Qb 2 125 Qm ?_))))
 show Tr _ _ (uf _ 5 (sL none (([] : List KH)) 0)) _ _
 refine Tr.nil (Tr.zA (Tr.seq (Tr.sr (Tr.asg rfl rfl (Tr.nil (Tr.zA (Tr.block (Tr.ren 2 8 rfl rfl rfl ?_))))))))
 refine Tr.loop (σ := (List KH) × Int × (Option Addr) × Nat) (fun m w s => KA N p0 p1 m s.1 s.2.1 = some r ∧ SlF s.2.2.1 s.1.length s.2.2.2) (fun s => [(0, sL zF p0 zH), (1, iv p1), (5, sL s.2.2.1 s.1 s.2.2.2), (6, iv s.2.1)]) (fun s => [(8, ow s.2.2.1 s.2.2.2 125 Qm s.1)]) N (([] : List KH), 0, none, 0) ⟨H, Jm⟩ (.cons rfl (.cons rfl (.cons rfl (.cons rfl .nil)))) (.cons rfl .nil) (fun _ _ h => KG (h.1)) ?_
 intro w QI mL1 s hs
 obtain ⟨Wi, Jp, zAD, WY⟩ := s
 obtain ⟨H, zDf⟩ := hs
 replace H : KA N p0 p1 (mL1 + 1) Wi Jp = some r := H
 replace zK := zK.leR QI
 replace leB := leB.trans QI
 replace zDf : SlF zAD Wi.length WY := zDf
 rw [KA.eq_2] at H
 show Tr _ _ (LF [(0, sL zF p0 zH), (1, iv p1), (5, sL zAD Wi WY), (6, iv Jp)]) (LE [(8, ow zAD WY 125 Qm Wi)]) _
 refine Tr.seq (Tr.sr (Tr.mv rfl rfl (Tr.mv rfl rfl (Tr.va rfl (fun _ _ a c => zf zA9 (a.ev rfl)) ?_))))
 refine Tr.va rfl (fun _ _ a c => zh (a.ev rfl) (a.ev rfl)) ?_
 refine Tr.nil (Tr.zA (Tr.cond rfl H (fun H => ?_) (fun H => ?_)))
 ·refine Tr.skip (Tr.zA (Tr.seq (Tr.block (Tr.sr (Tr.mv rfl rfl (Tr.mv rfl rfl ?_))))))
  obtain ⟨zBa, zTl, H⟩ := bnd H
  obtain ⟨hx1240, hx1241, zOW⟩ := zO zTl
  refine Tr.va rfl (fun _ _ a c => zD zA3 (a.ev rfl) zK.form (a.ev rfl) hx1240 hx1241) ?_
  refine Tr.va rfl (fun _ _ a c => zB zAL (a.ev rfl)) ?_
  refine Tr.va rfl (fun _ _ a c => zC QA (a.ev rfl) (zQ.drop (rdF KL zK zOW c) 1) rfl) ?_
  refine Tr.mv rfl rfl (Tr.va rfl (fun _ _ a c => zBJ (a.ev rfl) (a.ev rfl)) ?_)
  refine Tr.mv rfl rfl ?_
  obtain ⟨zdY, zKY, H⟩ := bnd H
  refine Tr.zBy 8 [(0, sL zF p0 zH), (1, iv p1), (5, sL zAD Wi WY), (6, iv Jp), (28, bV zdY)] [(8, ow zAD WY 125 Qm Wi)] ?_ ?_
  ·cases zGl : (decide (zBa.Y0 ≤ p1))
   ·rw [zGl] at zKY
    rw [if_neg (by decide)] at zKY
    have H := zKY
    obtain rfl := oI H
    refine Tr.pass rfl rfl rfl rfl rfl (by decide) ?_
    refine Tr.pass rfl rfl rfl rfl rfl (by decide) ?_
    refine Tr.pass rfl rfl rfl rfl rfl (by decide) ?_
    refine Tr.pass rfl rfl rfl rfl rfl (by decide) ?_
    refine Tr.pass rfl rfl rfl rfl rfl (by decide) ?_
    refine Tr.pass rfl rfl rfl rfl rfl (by decide) ?_
    refine Tr.pass rfl rfl rfl rfl rfl (by decide) ?_
    refine Tr.va rfl (fun _ _ a c => zy (a.ev rfl) (a.ev rfl)) ?_
    exact Tr.nil (Tr.VW (.cons rfl (.cons rfl (.cons rfl (.cons rfl (.cons rfl .nil))))) (.cons rfl .nil))
   ·rw [zGl] at zKY
    rw [if_pos rfl] at zKY
    have H := zKY
    refine Tr.val (wg rfl rfl rfl) rfl (fun _ _ a c => run_move (a.ev rfl)) ?_
    refine Tr.val (wg rfl rfl rfl) rfl (fun _ _ a c => run_move (a.ev rfl)) ?_
    refine Tr.val (wg rfl rfl rfl) rfl (fun _ _ a c => run_move (a.ev rfl)) ?_
    obtain ⟨Vk, zTk, H⟩ := bnd H
    obtain ⟨zOV, zOU, zOT⟩ := zO zTk
    refine Tr.val (wg rfl rfl rfl) rfl (fun _ _ a c => zD zA3 (a.ev rfl) zK.form (a.ev rfl) zOV zOU) ?_
    refine Tr.val (wg rfl rfl rfl) rfl (fun _ _ a c => zB zDg (a.ev rfl)) ?_
    refine Tr.val (wg rfl rfl rfl) rfl (fun _ _ a c => zC QA (a.ev rfl) (zQ.drop (rdF KL zK zOT c) 3) rfl) ?_
    refine Tr.val (wg rfl rfl rfl) rfl (fun _ _ a c => zh (a.ev rfl) (a.ev rfl)) ?_
    refine Tr.va rfl (fun _ _ a c => zx (a.ev rfl) (a.ev rfl)) ?_
    obtain rfl := oI H
    exact Tr.nil (Tr.VW (.cons rfl (.cons rfl (.cons rfl (.cons rfl (.cons rfl .nil))))) (.cons rfl .nil))
  ·show Tr _ _ (LF [(0, sL zF p0 zH), (1, iv p1), (5, sL zAD Wi WY), (6, iv Jp), (28, bV zdY)]) (LE [(8, ow zAD WY 125 Qm Wi)]) _
   refine Tr.nil (Tr.zA (Tr.cond rfl H (fun H => ?_) (fun H => ?_)))
   ·refine Tr.zCB 12 (by kernel_rfl) (by kernel_rfl) ?_
    refine Tq.mv rfl rfl (Tq.mv rfl rfl (Tq.mv rfl rfl ?_))
    obtain ⟨JM, hx128, H⟩ := bnd H
    obtain ⟨zJt, zJs, zJr⟩ := zO hx128
    refine Tq.va rfl (fun _ _ a c => zD zA3 (a.ev rfl) zK.form (a.ev rfl) zJt zJs) ?_
    refine Tq.va rfl (fun _ _ a c => zB zAo (a.ev rfl)) ?_
    refine Tq.va rfl (fun _ _ a c => zC QA (a.ev rfl) (zQ.drop (rdF KL zK zJr c) 0) rfl) ?_
    refine Tq.mv rfl rfl (Tq.mv rfl rfl ?_)
    obtain ⟨zAb, zTj, H⟩ := bnd H
    obtain ⟨zOS, zOR, zOQ⟩ := zO zTj
    refine Tq.va rfl (fun _ _ a c => zD zA3 (a.ev rfl) zK.form (a.ev rfl) zOS zOR) ?_
    refine Tq.va rfl (fun _ _ a c => zB zE2 (a.ev rfl)) ?_
    refine Tq.va rfl (fun _ _ a c => zC QA (a.ev rfl) (zQ.drop (rdF KL zK zOQ c) 2) rfl) ?_
    refine Tq.build (vs := [(0, iv JM.X0), (1, iv zAb.X1)]) (cs := [iv JM.X0, iv zAb.X1]) (wn rfl) rfl (zi rfl (zi rfl Qh)) (by kernel_rfl) ?_
    refine Tq.nil ?_
    obtain ⟨zBv, zTf, H⟩ := bnd H
    refine Tr.zAi [9] [emp] (U := (Option Addr × Nat)) (fun u => (sL u.1 zBv u.2)) (fun u => SlF u.1 zBv.length u.2) (fun u => [ow u.1 u.2 125 Qm zBv]) rfl (zn rfl zw) (fun _ => rfl) (wn rfl) rfl Tryz.call88 (zI rfl (zI rfl zX)) (fun W hW hp hE => zCn N Wi zAD WY (hW.slS (k := 8) rfl hp rfl) (KH.mk JM.X0 zAb.X1) zBv zTf hE) ?_
    intro u hu
    obtain ⟨zNT, zM1⟩ := u
    have gy130_0 := hu
    have zbL : SlF zNT zBv.length zM1 := gy130_0 --@phi
    show Tr _ _ (uf _ 41 (sL zNT zBv zM1)) (up _ 9 (ow zNT zM1 125 Qm zBv)) _
    refine Tr.asg rfl rfl (Tr.nil (Tr.zb (Tr.zA (Tr.region (Tr.mv rfl rfl (Tr.va rfl (fun _ _ a c => zg (a.ev rfl) (a.ev rfl)) ?_))))))
    refine Tr.asg rfl rfl (Tr.nil (Tr.zXg 8 ?_))
    refine Tr.ren 9 8 rfl rfl rfl ?_
    exact Tr.zZ QI (zBv, (w64 (Jp + 1)), zNT, zM1) ⟨H, zbL⟩ (.cons rfl (.cons rfl (.cons rfl (.cons rfl .nil)))) (.cons rfl .nil)
   ·refine Tr.skip (Tr.zb (Tr.zA (Tr.region (Tr.mv rfl rfl (Tr.va rfl (fun _ _ a c => zg (a.ev rfl) (a.ev rfl)) ?_)))))
    exact Tr.asg rfl rfl (Tr.nil (Tr.zZ QI (Wi, (w64 (Jp + 1)), zAD, WY) ⟨H, zDf⟩ (.cons rfl (.cons rfl (.cons rfl (.cons rfl .nil)))) (.cons rfl .nil)))
 ·refine Tr.exit (Tr.zP (Tr.zP (Tr.zl (Tr.zA (Tr.sr (Tr.mv rfl rfl (Tr.asg rfl rfl (Tr.nil (Tr.zA (Tr.ret ?_))))))))))
  obtain rfl := oI H
  exact Tr.out (m := [sL zAD Wi WY]) [] (zU rfl zY) (fun W hW => ⟨(zAD, WY), rfl, zDf, HF.zEF leB (hW.pick (ks := [8]) (by decide) (zn rfl zw)) ⟨Ww _ _ _ _ zJ7, trivial⟩⟩)

theorem zEq (N : Nat) {w : Bs} (p0 : (List KH)) (zF : Option Addr) (zH : Nat) (zK : Sl w.R w.W Qm zF zH p0) (p1 : (List KH)) (Ql : Option Addr) (Qk : Nat) (KU : Sl w.R w.W Qm Ql Qk p1) (r : Bool) (H : VJ N p0 p1 = some r) (hE : HF w w.W E0) : Calls Tryz.prog 87 [sL zF p0 zH, sL Ql p1 Qk].toArray w.W fun e W' => e = .returned (bV r) ∧ HF w W' E0 := by
 unfold VJ at H
 have leB := Bs.Le.refl w
 refine Tr.enter (n := 26) Tryz.func87 rfl rfl rfl hE ?_
 refine Tr.sr (Tr.asg rfl rfl (Tr.nil (Tr.zA (Tr.seq (Tr.sr (Tr.mv rfl rfl (Tr.va rfl (fun _ _ a c => zf zH3 (a.ev rfl)) ?_)))))))
 refine Tr.mv rfl rfl (Tr.va rfl (fun _ _ a c => zf zH3 (a.ev rfl)) ?_)
 refine Tr.va rfl (fun _ _ a c => zCi (a.ev rfl) (a.ev rfl)) ?_
 refine Tr.nil (Tr.zA (Tr.cond rfl H (fun H => ?_) (fun H => ?_)))
 ·refine Tr.sr (Tr.asg rfl rfl (Tr.nil (Tr.zA (Tr.ret (Tr.zq ?_)))))
  obtain rfl := oI H
  exact Tr.out (m := [bV false]) [] (zU rfl zY) (fun W hW => ⟨rfl, hW.low leB⟩)
 ·refine Tr.skip (Tr.zA (Tr.seq (Tr.sr (Tr.asg rfl rfl (Tr.nil (Tr.zA (Tr.block (Tr.loop (σ := Int) (fun m w s => JN p0 p1 m s = some r) (fun s => [(0, sL zF p0 zH), (1, sL Ql p1 Qk), (5, iv s)]) (fun s => []) N 0 H (.cons rfl (.cons rfl (.cons rfl .nil))) .nil (fun _ _ h => KG (h)) ?_))))))))
  intro w QI mL1 x107 hs
  have H := hs
  replace H : JN p0 p1 (mL1 + 1) x107 = some r := H
  replace zK := zK.leR QI
  replace KU := KU.leR QI
  replace leB := leB.trans QI
  rw [JN.eq_2] at H
  show Tr _ _ (LF [(0, sL zF p0 zH), (1, sL Ql p1 Qk), (5, iv x107)]) (LE []) _
  refine Tr.seq (Tr.sr (Tr.mv rfl rfl (Tr.mv rfl rfl (Tr.va rfl (fun _ _ a c => zf zH3 (a.ev rfl)) ?_))))
  refine Tr.va rfl (fun _ _ a c => zh (a.ev rfl) (a.ev rfl)) ?_
  refine Tr.nil (Tr.zA (Tr.cond rfl H (fun H => ?_) (fun H => ?_)))
  ·refine Tr.skip (Tr.zA (Tr.seq (Tr.block (Tr.seq (Tr.draw (by kernel_rfl) (by kernel_rfl) ?_)))))
   refine Tq.mv rfl rfl (Tq.mv rfl rfl ?_)
   obtain ⟨Vt, zIJ, H⟩ := bnd H
   obtain ⟨zFZ, zFY, zFX⟩ := zO zIJ
   refine Tq.va rfl (fun _ _ a c => zD zHg (a.ev rfl) zK.form (a.ev rfl) zFZ zFY) ?_
   refine Tq.va rfl (fun _ _ a c => ze (cs := [iv Vt.from_, iv Vt.to_]) zSd zJh (a.ev rfl) (zQ.take (rdF zCa zK zFX c) 2) rfl) ?_
   refine Tq.mv rfl rfl (Tq.mv rfl rfl ?_)
   obtain ⟨zEh, zai, H⟩ := bnd H
   obtain ⟨zVz, zVy, zVx⟩ := zO zai
   refine Tq.va rfl (fun _ _ a c => zD zHg (a.ev rfl) KU.form (a.ev rfl) zVz zVy) ?_
   refine Tq.va rfl (fun _ _ a c => ze (cs := [iv zEh.from_, iv zEh.to_]) zSd zJh (a.ev rfl) (zQ.take (rdF zCa KU zVx c) 2) rfl) ?_
   refine Tq.va rfl (fun _ _ a c => zTB Vt zEh (a.ev rfl) (a.ev rfl)) ?_
   refine Tq.nil (Tr.zA (Tr.cond rfl H (fun H => ?_) (fun H => ?_)))
   ·refine Tr.sr (Tr.asg rfl rfl (Tr.nil (Tr.zA (Tr.ret (Tr.QY (Tr.zq (Tr.zq (Tr.QY (Tr.zq ?_)))))))))
    obtain rfl := oI H
    exact Tr.out (m := [bV false]) [] (zU rfl zY) (fun W hW => ⟨rfl, hW.low leB⟩)
   ·refine Tr.skip (Tr.zb (Tr.zA (Tr.region (Tr.mv rfl rfl (Tr.va rfl (fun _ _ a c => zg (a.ev rfl) (a.ev rfl)) ?_)))))
    exact Tr.asg rfl rfl (Tr.nil (Tr.zZ QI (w64 (x107 + 1)) H (.cons rfl (.cons rfl (.cons rfl .nil))) .nil))
  ·refine Tr.exit (Tr.zP (Tr.zP (Tr.zl (Tr.zA (Tr.sr (Tr.asg rfl rfl (Tr.nil (Tr.zA (Tr.ret ?_)))))))))
   obtain rfl := oI H
   exact Tr.out (m := [bV true]) [] (zU rfl zY) (fun W hW => ⟨rfl, hW.low leB⟩)

theorem zCg (N : Nat) {w : Bs} (p0 : (List zk)) (zF : Option Addr) (zH : Nat) (p1 : zk) (Ql : Option Addr) (Qk : Nat) (KU : Sl w.O w.W Qm Ql Qk p1.spans) (r : (List zk)) (H : KQ N p0 p1 = some r) (hE : HF w w.W (LEn [ow zF zH 98 zm p0])) : Calls Tryz.prog 61 [sL zF p0 zH, .agg #[iv p1.from_, iv p1.to_, sL Ql p1.spans Qk]].toArray w.W fun e W' => ∃ (w' : Bs) (u : (Option Addr × Nat)), w.Le w' ∧ e = .returned (sL u.1 r u.2) ∧ (SlF u.1 r.length u.2) ∧ HF w' W' (LEn [ow u.1 u.2 98 zm r]) := by
 unfold KQ at H
 have zBd := (hE.sl (k := 0) rfl).form
 have leB := Bs.Le.refl w
 refine Tr.enter (n := 49) Tryz.func61 rfl rfl rfl hE ?_
 refine Tr.sr (Tr.box 1 (cs := [iv p1.from_, iv p1.to_, sL Ql p1.spans Qk]) (wn rfl) rfl rfl rfl fun QQ => ?_)
 refine Tr.asg rfl rfl (Tr.Qb 2 98 zm ?_)
 show Tr _ _ (uf _ 4 (sL none (([] : List zk)) 0)) _ _
 refine Tr.nil (Tr.zA (Tr.seq (Tr.sr (Tr.va rfl (fun _ _ a c => zB zI0 (a.ev rfl)) ?_))))
 refine Tr.va rfl (fun _ _ a c => zC zRO (a.ev rfl) (rdb c (vs := [iv p1.from_, iv p1.to_, sL Ql p1.spans Qk]) (k := 1) rfl 2) rfl) ?_
 refine Tr.va rfl (fun _ _ a c => zf zH3 (a.ev rfl)) ?_
 refine Tr.va rfl (fun _ _ a c => Vv (a.ev rfl) (a.ev rfl)) ?_
 refine Tr.nil (Tr.zA (Tr.cond rfl H (fun H => ?_) (fun H => ?_)))
 ·refine Tr.sr (Tr.mv rfl rfl (Tr.asg rfl rfl (Tr.nil (Tr.zA (Tr.ret (Tr.zq ?_))))))
  obtain rfl := oI H
  exact Tr.out (m := [sL zF p0 zH]) [] (zU rfl zY) (fun W hW => ⟨w, (zF, zH), leB, rfl, zBd, hW.pick (ks := [0]) (by decide) (zn rfl zw)⟩)
 ·refine Tr.skip (Tr.zA (Tr.seq (Tr.sr (Tr.mv rfl rfl (Tr.va rfl (fun _ _ a c => zf zZW (a.ev rfl)) ?_)))))
  refine Tr.asg rfl rfl (Tr.nil (Tr.zA (Tr.seq (Tr.draw (by kernel_rfl) (by kernel_rfl) ?_))))
  refine Tq.mv rfl rfl (Tq.va rfl (fun _ _ a c => Wx (a.ev rfl) (a.ev rfl)) ?_)
  refine Tq.mv rfl rfl ?_
  obtain ⟨zSN, zGn, H⟩ := bnd H
  refine Tq.mid 10 [(0, sL zF p0 zH), (3, pV QQ), (5, iv (p0.length : Int)), (25, bV zSN)] ?_ ?_
  ·cases zBk : (decide (0 < (p0.length : Int)))
   ·rw [zBk] at zGn
    rw [if_neg (by decide)] at zGn
    have H := zGn
    obtain rfl := oI H
    refine Tq.pass rfl rfl rfl rfl rfl (by decide) ?_
    refine Tq.pass rfl rfl rfl rfl rfl (by decide) ?_
    refine Tq.pass rfl rfl rfl rfl rfl (by decide) ?_
    refine Tq.pass rfl rfl rfl rfl rfl (by decide) ?_
    refine Tq.pass rfl rfl rfl rfl rfl (by decide) ?_
    refine Tq.pass rfl rfl rfl rfl rfl (by decide) ?_
    refine Tq.pass rfl rfl rfl rfl rfl (by decide) ?_
    refine Tq.pass rfl rfl rfl rfl rfl (by decide) ?_
    refine Tq.pass rfl rfl rfl rfl rfl (by decide) ?_
    refine Tq.va rfl (fun _ _ a c => zy (a.ev rfl) (a.ev rfl)) ?_
    exact Tq.fin (.cons rfl (.cons rfl (.cons rfl (.cons rfl .nil))))
   ·rw [zBk] at zGn
    rw [if_pos rfl] at zGn
    have H := zGn
    refine Tq.val (wg rfl rfl rfl) rfl (fun _ _ a c => run_move (a.ev rfl)) ?_
    refine Tq.val (wg rfl rfl rfl) rfl (fun _ _ a c => run_move (a.ev rfl)) ?_
    refine Tq.val (wg rfl rfl rfl) rfl (fun _ _ a c => Jn (a.ev rfl) (a.ev rfl)) ?_
    obtain ⟨x103, zKU, H⟩ := bnd H
    obtain ⟨zHH, zHG, zHF⟩ := zO zKU
    refine Tq.val (wg rfl rfl rfl) rfl (fun _ _ a c => zD zMA (a.ev rfl) zBd (a.ev rfl) zHH zHG) ?_
    refine Tq.val (wg rfl rfl rfl) rfl (fun _ _ a c => zB zMn (a.ev rfl)) ?_
    refine Tq.val (wg rfl rfl rfl) rfl (fun _ _ a c => (HF.atN (k := 0) c rfl zHF).elim fun u hu => zC QA (a.ev rfl) (hu.2.drop 1) rfl) ?_
    refine Tq.val (wg rfl rfl rfl) rfl (fun _ _ a c => zB zXX (a.ev rfl)) ?_
    refine Tq.val (wg rfl rfl rfl) rfl (fun _ _ a c => zC QA (a.ev rfl) (rdb c (vs := [iv p1.from_, iv p1.to_, sL Ql p1.spans Qk]) (k := 1) rfl 0) rfl) ?_
    refine Tq.val (wg rfl rfl rfl) rfl (fun _ _ a c => Vv (a.ev rfl) (a.ev rfl)) ?_
    refine Tq.va rfl (fun _ _ a c => zx (a.ev rfl) (a.ev rfl)) ?_
    obtain rfl := oI H
    exact Tq.fin (.cons rfl (.cons rfl (.cons rfl (.cons rfl .nil))))
  ·refine Tq.mv rfl rfl ?_
   obtain ⟨zSM, zCk, H⟩ := bnd H
   refine Tq.mid 10 [(0, sL zF p0 zH), (3, pV QQ), (5, iv (p0.length : Int)), (36, bV zSM)] ?_ ?_
   ·cases zBk : zSN
    ·rw [zBk] at zCk
     rw [if_neg (by decide)] at zCk
     have H := zCk
     obtain rfl := oI H
     refine Tq.pass rfl rfl rfl rfl rfl (by decide) ?_
     refine Tq.pass rfl rfl rfl rfl rfl (by decide) ?_
     refine Tq.pass rfl rfl rfl rfl rfl (by decide) ?_
     refine Tq.pass rfl rfl rfl rfl rfl (by decide) ?_
     refine Tq.pass rfl rfl rfl rfl rfl (by decide) ?_
     refine Tq.pass rfl rfl rfl rfl rfl (by decide) ?_
     refine Tq.pass rfl rfl rfl rfl rfl (by decide) ?_
     refine Tq.pass rfl rfl rfl rfl rfl (by decide) ?_
     refine Tq.pass rfl rfl rfl rfl rfl (by decide) ?_
     refine Tq.va rfl (fun _ _ a c => zy (a.ev rfl) (a.ev rfl)) ?_
     exact Tq.fin (.cons rfl (.cons rfl (.cons rfl (.cons rfl .nil))))
    ·rw [zBk] at zCk
     rw [if_pos rfl] at zCk
     have H := zCk
     refine Tq.val (wg rfl rfl rfl) rfl (fun _ _ a c => run_move (a.ev rfl)) ?_
     refine Tq.val (wg rfl rfl rfl) rfl (fun _ _ a c => run_move (a.ev rfl)) ?_
     refine Tq.val (wg rfl rfl rfl) rfl (fun _ _ a c => Jn (a.ev rfl) (a.ev rfl)) ?_
     obtain ⟨Vt, zIJ, H⟩ := bnd H
     obtain ⟨zFZ, zFY, zFX⟩ := zO zIJ
     refine Tq.val (wg rfl rfl rfl) rfl (fun _ _ a c => zD zMA (a.ev rfl) zBd (a.ev rfl) zFZ zFY) ?_
     refine Tq.val (wg rfl rfl rfl) rfl (fun _ _ a c => zB zI0 (a.ev rfl)) ?_
     refine Tq.zRf (U := (zm).Ad) (fun u => (zm).ok w.O w.W u Vt) (fun u => (sL u.1 Vt.spans u.2)) (wg rfl rfl rfl) rfl (ldN (κ := 0) (t := zm) (V := fun u => (sL u.1 Vt.spans u.2)) rfl zFX (fun _ _ u a hc => zC zRO (a.ev rfl) (hc.drop 2) rfl)) ?_
     intro zfC zSE
     obtain ⟨zHX, zHR⟩ := zfC
     have zEI := zSE
     replace zEI : Sl w.O w.W Qm zHX zHR Vt.spans := zEI
     show Tq _ _ _ _ (uf _ 32 (sL zHX Vt.spans zHR)) _ _ _
     refine Tq.val (wg rfl rfl rfl) rfl (fun _ _ a c => zB zI0 (a.ev rfl)) ?_
     refine Tq.val (wg rfl rfl rfl) rfl (fun _ _ a c => zC zRO (a.ev rfl) (rdb c (vs := [iv p1.from_, iv p1.to_, sL Ql p1.spans Qk]) (k := 1) rfl 2) rfl) ?_
     obtain ⟨zI8, zTh, H⟩ := bnd H
     refine Tq.KV (r := (bV zI8)) (wg rfl rfl rfl) rfl Tryz.call87 (zI rfl (zI rfl zX)) (fun W hW => zEq N Vt.spans zHX zHR (zEI.rl.ext hW.Ky) p1.spans Ql Qk (KU.rl.ext hW.Ky) zI8 zTh (HF.start _)) ?_
     refine Tq.va rfl (fun _ _ a c => zx (a.ev rfl) (a.ev rfl)) ?_
     obtain rfl := oI H
     exact Tq.fin (.cons rfl (.cons rfl (.cons rfl (.cons rfl .nil))))
   ·refine Tq.nil (Tr.zA (Tr.cond rfl H (fun H => ?_) (fun H => ?_)))
    ·refine Tr.sr (Tr.mv rfl rfl (Tr.mv rfl rfl (Tr.va rfl (fun _ _ a c => Jn (a.ev rfl) (a.ev rfl)) ?_)))
     refine Tr.va rfl (fun _ _ a c => zB zMn (a.ev rfl)) ?_
     refine Tr.va rfl (fun _ _ a c => zC QA (a.ev rfl) (rdb c (vs := [iv p1.from_, iv p1.to_, sL Ql p1.spans Qk]) (k := 1) rfl 1) rfl) ?_
     obtain ⟨zB7, zTo, H⟩ := bnd H
     obtain ⟨zOh, zOg, zOf⟩ := zO zTo
     refine Tr.va rfl (fun _ _ a c => zD zMA (a.ev rfl) zBd (a.ev rfl) zOh zOg) ?_
     refine Tr.va rfl (fun _ _ a c => zB zMn (a.ev rfl)) ?_
     obtain ⟨zJp, zTw, H⟩ := bnd H
     have zHI := zFS zTw
     refine Tr.zFz 0 (t := zm) (l := p0) (i := (w64 ((p0.length : Int) - 1))) (fo := 1) (cs := [iv p1.to_]) (zk.mk zB7.from_ p1.to_ zB7.spans) (wn rfl) rfl rfl rfl rfl rfl zOf zGN rfl (fun u hu => ⟨u, hu, rfl⟩) rfl zTw ?_
     have zV8 : SlF zF zJp.length zH := by rw [zHI]; exact zBd
     have hsl112 := zHI.trans rfl
     refine Tr.sel (lf := [(0, sL zF zJp zH), (3, pV QQ), (5, iv (p0.length : Int)), (36, bV zSM), (37, sL zF zJp zH), (38, iv (p0.length : Int)), (39, iv (w64 ((p0.length : Int) - 1))), (40, .pointer (some ⟨QQ, 1, none⟩)), (41, iv p1.to_)]) (le := [(0, ow zF zH 98 zm zJp), (1, bx QQ #[iv p1.from_, iv p1.to_, sL Ql p1.spans Qk] 98), (2, ow none 0 98 zm ([] : List zk))]) (.cons (zAg rfl (by unfold sL; rw [zHI])) (.cons rfl (.cons rfl (.cons rfl (.cons (zAg rfl (by unfold sL; rw [zHI])) (.cons rfl (.cons rfl (.cons rfl (.cons rfl .nil))))))))) (.cons rfl (.cons rfl (.cons rfl .nil))) ?_
     refine Tr.nil (Tr.zA (Tr.sr (Tr.mv rfl rfl (Tr.asg rfl rfl (Tr.nil (Tr.zA (Tr.ret (Tr.zq ?_))))))))
     obtain rfl := oI H
     exact Tr.out (m := [sL zF zJp zH]) [] (zU rfl zY) (fun W hW => ⟨w, (zF, zH), leB, rfl, zV8, hW.pick (ks := [0]) (by decide) (zn rfl zw)⟩)
    ·refine Tr.skip (Tr.zA (Tr.sr (Tr.mv rfl rfl (Tr.va rfl (fun _ _ a c => ze (cs := [iv p1.from_, iv p1.to_, sL Ql p1.spans Qk]) zpv zeA (a.ev rfl) (zQ.take (rdb c (vs := [iv p1.from_, iv p1.to_, sL Ql p1.spans Qk]) (k := 1) rfl 0) 3) rfl) ?_))))
     refine Tr.buildSlice 3 (e := 98) (vs := [(0, .agg #[iv p1.from_, iv p1.to_, sL Ql p1.spans Qk])]) (cs := [iv p1.from_, iv p1.to_, sL Ql p1.spans Qk]) (wn rfl) rfl (zi rfl Qh) (by kernel_rfl) fun zrS => ?_
     obtain ⟨zLb, zQZ, H⟩ := bnd H
     refine Tr.append 0 (t := zm) (l := p0) (l2 := [p1]) (wn rfl) rfl rfl rfl rfl (fun W hW => ⟨[[iv p1.from_, iv p1.to_, sL Ql p1.spans Qk]], (.cons ⟨(Ql, Qk), KU, rfl⟩ .nil), rdb hW (vs := [iv p1.from_, iv p1.to_, sL Ql p1.spans Qk]) (k := 3) rfl 0⟩) zZW zeA zlD (by decide) zpq rfl zQZ fun zUs zUO hAl114 => ?_
     refine Tr.asg rfl rfl (Tr.nil (Tr.zA (Tr.ret ?_)))
     obtain rfl := oI H
     exact Tr.out (m := [sL zUs zLb zUO]) [] (zU rfl zY) (fun W hW => ⟨w, (zUs, zUO), leB, rfl, hAl114, hW.pick (ks := [0]) (by decide) (zn rfl zw)⟩)

theorem zDL (N : Nat) {w : Bs} (p0 : (List zk)) (zF : Option Addr) (zH : Nat) (zK : Sl w.R w.W zm zF zH p0) (r : (List zJ)) (H : Vp N p0 = some r) (hE : HF w w.W (LEn [emp])) : Calls Tryz.prog 63 [sL zF p0 zH].toArray w.W fun e W' => ∃ u : (Option Addr × Nat), e = .returned (sL u.1 r u.2) ∧ (SlF u.1 r.length u.2) ∧ HF w W' (LEn [ow u.1 u.2 36 zL r]) := by
 unfold Vp at H
 have leB := Bs.Le.refl w
 refine Tr.enter (n := 55) Tryz.func63 rfl rfl rfl hE ?_
 refine Tr.sr (Tr.asg rfl rfl (Tr.Qb 1 36 zL ?_))
 show Tr _ _ (uf _ 2 (sL none (([] : List zJ)) 0)) _ _
 refine Tr.nil (Tr.zA (Tr.sr (Tr.asg rfl rfl (Tr.Qb 2 36 zL ?_))))
 show Tr _ _ (uf _ 3 (sL none (([] : List zJ)) 0)) _ _
 refine Tr.nil (Tr.zA (Tr.seq (Tr.sr (Tr.asg rfl rfl (Tr.nil (Tr.zA (Tr.block (Tr.loop (σ := (List zJ) × Int × (Option Addr) × Nat) (fun m w s => JB N p0 m s.1 s.2.1 = some r ∧ SlF s.2.2.1 s.1.length s.2.2.2) (fun s => [(0, sL zF p0 zH), (3, sL s.2.2.1 s.1 s.2.2.2), (4, iv s.2.1)]) (fun s => [(2, ow s.2.2.1 s.2.2.2 36 zL s.1)]) N (([] : List zJ), 0, none, 0) ⟨H, Jm⟩ (.cons rfl (.cons rfl (.cons rfl .nil))) (.cons rfl .nil) (fun _ _ h => KG (h.1)) ?_))))))))
 intro w zDc mL3 s hs
 obtain ⟨zR8, zB6, zRX, zRF⟩ := s
 obtain ⟨H, zXJ⟩ := hs
 replace H : JB N p0 (mL3 + 1) zR8 zB6 = some r := H
 replace zK := zK.leR zDc
 replace leB := leB.trans zDc
 replace zXJ : SlF zRX zR8.length zRF := zXJ
 rw [JB.eq_2] at H
 show Tr _ _ (LF [(0, sL zF p0 zH), (3, sL zRX zR8 zRF), (4, iv zB6)]) (LE [(2, ow zRX zRF 36 zL zR8)]) _
 refine Tr.seq (Tr.sr (Tr.mv rfl rfl (Tr.mv rfl rfl (Tr.va rfl (fun _ _ a c => zf zZW (a.ev rfl)) ?_))))
 refine Tr.va rfl (fun _ _ a c => zh (a.ev rfl) (a.ev rfl)) ?_
 refine Tr.nil (Tr.zA (Tr.cond rfl H (fun H => ?_) (fun H => ?_)))
 ·refine Tr.skip (Tr.zA (Tr.seq (Tr.block (Tr.sr (Tr.asg rfl rfl (Tr.nil (Tr.zA (Tr.block (Tr.loop (σ := (List zJ) × Int × (Option Addr) × Nat) (fun m w s => KP p0 zB6 (JB N p0 mL3) m s.1 s.2.1 = some r ∧ SlF s.2.2.1 s.1.length s.2.2.2) (fun s => [(0, sL zF p0 zH), (3, sL s.2.2.1 s.1 s.2.2.2), (4, iv zB6), (5, iv s.2.1)]) (fun s => [(2, ow s.2.2.1 s.2.2.2 36 zL s.1)]) N (zR8, 0, zRX, zRF) ⟨H, zXJ⟩ (.cons rfl (.cons rfl (.cons rfl (.cons rfl .nil)))) (.cons rfl .nil) (fun _ _ h => KG (h.1)) ?_)))))))))
  intro w zCM mL4 s hs
  obtain ⟨zEk, zFM, zEw, zEv⟩ := s
  obtain ⟨H, zL5⟩ := hs
  replace H : KP p0 zB6 (JB N p0 mL3) (mL4 + 1) zEk zFM = some r := H
  replace zK := zK.leR zCM
  replace zDc := zDc.trans zCM
  replace zL5 : SlF zEw zEk.length zEv := zL5
  rw [KP.eq_2] at H
  show Tr _ _ (LF [(0, sL zF p0 zH), (3, sL zEw zEk zEv), (4, iv zB6), (5, iv zFM)]) (LE [(2, ow zEw zEv 36 zL zEk)]) _
  refine Tr.seq (Tr.sr (Tr.mv rfl rfl (Tr.mv rfl rfl (Tr.mv rfl rfl ?_))))
  obtain ⟨zZP, zoA, H⟩ := bnd H
  obtain ⟨zi1, zi0, ziz⟩ := zO zoA
  obtain ⟨zqz, hRu245, zdE, hcu245⟩ := (zK).el ziz
  obtain ⟨zdy, zdg⟩ := zqz
  have zk7 := zdE
  refine Tr.va rfl (fun _ _ a c => zD zMA (a.ev rfl) zK.form (a.ev rfl) zi1 zi0) ?_
  refine Tr.va rfl (fun _ _ a c => zB zI0 (a.ev rfl)) ?_
  refine Tr.va rfl (fun _ _ a c => zC zRO (a.ev rfl) (zQ.drop (rdR hRu245 hcu245 c) 2) rfl) ?_
  refine Tr.va rfl (fun _ _ a c => zf zH3 (a.ev rfl)) ?_
  refine Tr.va rfl (fun _ _ a c => zh (a.ev rfl) (a.ev rfl)) ?_
  refine Tr.nil (Tr.zA (Tr.cond rfl H (fun H => ?_) (fun H => ?_)))
  ·refine Tr.skip (Tr.zA (Tr.seq (Tr.block ?_)))
   obtain ⟨zcS, zn8, H⟩ := bnd H
   obtain ⟨ziv, ziu, zit⟩ := zO zn8
   obtain ⟨zqy, hRu248, zdD, hcu248⟩ := (zK).el zit
   obtain ⟨zI7, zXo⟩ := zqy
   obtain ⟨zBA, zn7, H⟩ := bnd H
   obtain ⟨zis, zir, ziq⟩ := zO zn7
   obtain ⟨zJd, zn6, H⟩ := bnd H
   obtain ⟨zio, zin, zim⟩ := zO zn6
   obtain ⟨zqx, hRu251, zdC, hcu251⟩ := (zK).el zim
   obtain ⟨zqb, zqU⟩ := zqx
   obtain ⟨zcR, zn5, H⟩ := bnd H
   obtain ⟨zil, zik, zij⟩ := zO zn5
   obtain ⟨zqw, hRu253, zdB, hcu253⟩ := (zK).el zij
   obtain ⟨zI6, zXn⟩ := zqw
   obtain ⟨zJc, zn4, H⟩ := bnd H
   obtain ⟨zii, zih, zif⟩ := zO zn4
   obtain ⟨zJb, hx255, H⟩ := bnd H
   obtain ⟨zie, zid, zic⟩ := zO hx255
   obtain ⟨zqv, hRu256, zdA, hcu256⟩ := (zK).el zic
   obtain ⟨zqa, zqT⟩ := zqv
   refine Tr.zes 31 [(30, .makeFunc (.func 0) #[] #[.tmp 51])] [(30, ⟨52, 11, .func (.func 0) #[] #[.agg #[iv zBA.from_, iv zJd.from_, iv zJc.to_, iv zJb.to_]], fun b => .slice (some ⟨b, 0, none⟩) 1 1, fun b => bx b #[iv zBA.from_, iv zJd.from_, iv zJc.to_, iv zJb.to_] 36⟩)] [(0, sL zF p0 zH), (3, sL zEw zEk zEv), (4, iv zB6), (5, iv zFM), (12, iv zFM), (13, sL zF p0 zH), (14, iv zB6), (15, .pointer (some ⟨adB zF, adO zF + (zB6).toNat * 3, none⟩)), (16, .pointer (some ⟨adB zF, adO zF + (zB6).toNat * 3 + 2, none⟩)), (17, sL zdy zZP.spans zdg), (18, iv (zZP.spans.length : Int)), (19, bV (decide (zFM < (zZP.spans.length : Int)))), (22, sL zEw zEk zEv), (23, sL zF p0 zH), (24, iv zB6), (25, .pointer (some ⟨adB zF, adO zF + (zB6).toNat * 3, none⟩)), (26, .pointer (some ⟨adB zF, adO zF + (zB6).toNat * 3 + 2, none⟩)), (27, sL zI7 zcS.spans zXo), (28, iv zFM), (29, .pointer (some ⟨adB zI7, adO zI7 + (zFM).toNat * 2, none⟩)), (30, .pointer (some ⟨adB zI7, adO zI7 + (zFM).toNat * 2 + 0, none⟩)), (31, iv zBA.from_), (32, sL zF p0 zH), (33, iv zB6), (34, .pointer (some ⟨adB zF, adO zF + (zB6).toNat * 3, none⟩)), (35, .pointer (some ⟨adB zF, adO zF + (zB6).toNat * 3 + 0, none⟩)), (36, iv zJd.from_), (37, sL zF p0 zH), (38, iv zB6), (39, .pointer (some ⟨adB zF, adO zF + (zB6).toNat * 3, none⟩)), (40, .pointer (some ⟨adB zF, adO zF + (zB6).toNat * 3 + 2, none⟩)), (41, sL zI6 zcR.spans zXn), (42, iv zFM), (43, .pointer (some ⟨adB zI6, adO zI6 + (zFM).toNat * 2, none⟩)), (44, .pointer (some ⟨adB zI6, adO zI6 + (zFM).toNat * 2 + 1, none⟩)), (45, iv zJc.to_), (46, sL zF p0 zH), (47, iv zB6), (48, .pointer (some ⟨adB zF, adO zF + (zB6).toNat * 3, none⟩)), (49, .pointer (some ⟨adB zF, adO zF + (zB6).toNat * 3 + 1, none⟩)), (50, iv zJb.to_), (51, .agg #[iv zBA.from_, iv zJd.from_, iv zJc.to_, iv zJb.to_]), (52, .func (.func 0) #[] #[.agg #[iv zBA.from_, iv zJd.from_, iv zJc.to_, iv zJb.to_]])] (by kernel_rfl) (by kernel_rfl) (by kernel_rfl) (by kernel_rfl) (by kernel_rfl) (by kernel_rfl) (by kernel_rfl) (zFH (zbb (vs := [(0, .agg #[iv zBA.from_, iv zJd.from_, iv zJc.to_, iv zJb.to_])]) rfl rfl rfl (by kernel_rfl)) zGq) (zFH rfl zGq) (zFH rfl zGq) ?_ ?_
   ·refine Tq.mv rfl rfl (Tq.mv rfl rfl (Tq.mv rfl rfl ?_))
    have zIt := zdD
    replace zIt : Sl w.R w.W Qm zI7 zXo zcS.spans := zIt
    refine Tq.va rfl (fun _ _ a c => zD zMA (a.ev rfl) zK.form (a.ev rfl) ziv ziu) ?_
    refine Tq.va rfl (fun _ _ a c => zB zI0 (a.ev rfl)) ?_
    refine Tq.va rfl (fun _ _ a c => zC zRO (a.ev rfl) (zQ.drop (rdR hRu248 hcu248 c) 2) rfl) ?_
    refine Tq.mv rfl rfl (Tq.va rfl (fun _ _ a c => zD zHg (a.ev rfl) zIt.form (a.ev rfl) zis zir) ?_)
    refine Tq.va rfl (fun _ _ a c => zB zFd (a.ev rfl)) ?_
    refine Tq.va rfl (fun _ _ a c => zC QA (a.ev rfl) (zQ.drop (rdF zCa zIt ziq c) 0) rfl) ?_
    refine Tq.mv rfl rfl (Tq.mv rfl rfl ?_)
    have zk6 := zdC
    refine Tq.va rfl (fun _ _ a c => zD zMA (a.ev rfl) zK.form (a.ev rfl) zio zin) ?_
    refine Tq.va rfl (fun _ _ a c => zB zXX (a.ev rfl)) ?_
    refine Tq.va rfl (fun _ _ a c => zC QA (a.ev rfl) (zQ.drop (rdR hRu251 hcu251 c) 0) rfl) ?_
    refine Tq.mv rfl rfl (Tq.mv rfl rfl ?_)
    have zIs := zdB
    replace zIs : Sl w.R w.W Qm zI6 zXn zcR.spans := zIs
    refine Tq.va rfl (fun _ _ a c => zD zMA (a.ev rfl) zK.form (a.ev rfl) zil zik) ?_
    refine Tq.va rfl (fun _ _ a c => zB zI0 (a.ev rfl)) ?_
    refine Tq.va rfl (fun _ _ a c => zC zRO (a.ev rfl) (zQ.drop (rdR hRu253 hcu253 c) 2) rfl) ?_
    refine Tq.mv rfl rfl (Tq.va rfl (fun _ _ a c => zD zHg (a.ev rfl) zIs.form (a.ev rfl) zii zih) ?_)
    refine Tq.va rfl (fun _ _ a c => zB zFc (a.ev rfl)) ?_
    refine Tq.va rfl (fun _ _ a c => zC QA (a.ev rfl) (zQ.drop (rdF zCa zIs zif c) 1) rfl) ?_
    refine Tq.mv rfl rfl (Tq.mv rfl rfl ?_)
    have zk5 := zdA
    refine Tq.va rfl (fun _ _ a c => zD zMA (a.ev rfl) zK.form (a.ev rfl) zie zid) ?_
    refine Tq.va rfl (fun _ _ a c => zB zMn (a.ev rfl)) ?_
    refine Tq.va rfl (fun _ _ a c => zC QA (a.ev rfl) (zQ.drop (rdR hRu256 hcu256 c) 1) rfl) ?_
    refine Tq.build (vs := [(0, iv zBA.from_), (1, iv zJd.from_), (2, iv zJc.to_), (3, iv zJb.to_)]) (cs := [iv zBA.from_, iv zJd.from_, iv zJc.to_, iv zJb.to_]) (wn rfl) rfl (zi rfl (zi rfl (zi rfl (zi rfl Qh)))) (by kernel_rfl) ?_
    refine Tq.zIC (vs := [.agg #[iv zBA.from_, iv zJd.from_, iv zJc.to_, iv zJb.to_]]) (wn rfl) rfl (zI rfl zX) ?_
    exact Tq.fin (.cons rfl (.cons rfl (.cons rfl (.cons rfl (.cons rfl (.cons rfl (.cons rfl (.cons rfl (.cons rfl (.cons rfl (.cons rfl (.cons rfl (.cons rfl (.cons rfl (.cons rfl (.cons rfl (.cons rfl (.cons rfl (.cons rfl (.cons rfl (.cons rfl (.cons rfl (.cons rfl (.cons rfl (.cons rfl (.cons rfl (.cons rfl (.cons rfl (.cons rfl (.cons rfl (.cons rfl (.cons rfl (.cons rfl (.cons rfl (.cons rfl (.cons rfl (.cons rfl (.cons rfl (.cons rfl (.cons rfl (.cons rfl (.cons rfl (.cons rfl .nil)))))))))))))))))))))))))))))))))))))))))))
   ·intro bs246
    refine Tr.sel (lf := [(0, sL zF p0 zH), (4, iv zB6), (5, iv zFM), (22, sL zEw zEk zEv), (52, .slice (some ⟨(bs246 30), 0, none⟩) 1 1)]) (le := [(2, ow zEw zEv 36 zL zEk), (11, bx (bs246 30) #[iv zBA.from_, iv zJd.from_, iv zJc.to_, iv zJb.to_] 36)]) (.cons rfl (.cons rfl (.cons rfl (.cons rfl (.cons rfl .nil))))) (.cons rfl (.cons rfl .nil)) ?_
    obtain ⟨zEj, zTu, H⟩ := bnd H
    refine Tr.append 2 (t := zL) (l := zEk) (l2 := [(zJ.mk zBA.from_ zJd.from_ zJc.to_ zJb.to_)]) (wn rfl) rfl rfl rfl rfl (fun W hW => ⟨[[iv zBA.from_, iv zJd.from_, iv zJc.to_, iv zJb.to_]], (.cons ⟨(), trivial, rfl⟩ .nil), rdb hW (vs := [iv zBA.from_, iv zJd.from_, iv zJc.to_, iv zJb.to_]) (k := 11) rfl 0⟩) zA9 zAK zSs (by decide) zUW rfl zTu fun zCh zCc hAl257 => ?_
    refine Tr.asg rfl rfl (Tr.nil (Tr.zb (Tr.zA (Tr.region (Tr.mv rfl rfl (Tr.va rfl (fun _ _ a c => zg (a.ev rfl) (a.ev rfl)) ?_))))))
    exact Tr.asg rfl rfl (Tr.nil (Tr.zZ zCM (zEj, (w64 (zFM + 1)), zCh, zCc) ⟨H, hAl257⟩ (.cons rfl (.cons rfl (.cons rfl (.cons rfl .nil)))) (.cons rfl .nil)))
  ·refine Tr.exit (Tr.zP (Tr.zP (Tr.zl (Tr.zb (Tr.zA (Tr.region (Tr.mv rfl rfl (Tr.va rfl (fun _ _ a c => zg (a.ev rfl) (a.ev rfl)) ?_))))))))
   exact Tr.asg rfl rfl (Tr.nil (Tr.zZ zDc (zEk, (w64 (zB6 + 1)), zEw, zEv) ⟨H, zL5⟩ (.cons rfl (.cons rfl (.cons rfl .nil))) (.cons rfl .nil)))
 ·refine Tr.exit (Tr.zP (Tr.zP (Tr.zl (Tr.zA (Tr.sr (Tr.mv rfl rfl (Tr.asg rfl rfl (Tr.nil (Tr.zA (Tr.ret ?_))))))))))
  obtain rfl := oI H
  exact Tr.out (m := [sL zRX zR8 zRF]) [] (zU rfl zY) (fun W hW => ⟨(zRX, zRF), rfl, zXJ, HF.zEF leB (hW.pick (ks := [2]) (by decide) (zn rfl zw)) ⟨Ww _ _ _ _ WW, trivial⟩⟩)

theorem zEs (N : Nat) {w : Bs} (p0 : (List zJ)) (zF : Option Addr) (zH : Nat) (zK : Sl w.R w.W zL zF zH p0) (r : (List zJ)) (H : VL N p0 = some r) (hE : HF w w.W (LEn [emp])) : Calls Tryz.prog 50 [sL zF p0 zH].toArray w.W fun e W' => ∃ u : (Option Addr × Nat), e = .returned (sL u.1 r u.2) ∧ (SlF u.1 r.length u.2) ∧ HF w W' (LEn [ow u.1 u.2 36 zL r]) := by
 unfold VL at H
 have leB := Bs.Le.refl w
 refine Tr.enter (n := 35) Tryz.func50 rfl rfl rfl hE ?_
 refine Tr.sr (Tr.asg rfl rfl (Tr.Qb 1 36 zL ?_))
 show Tr _ _ (uf _ 2 (sL none (([] : List zJ)) 0)) _ _
 refine Tr.nil (Tr.zA (Tr.sr (Tr.mv rfl rfl ?_)))
 obtain ⟨zN, zAQ, H⟩ := bnd H
 refine Tr.zCe [] [] (U := (Option Addr × Nat)) (fun u => (sL u.1 zN u.2)) (fun O W u => Sl O W zW u.1 u.2 zN) (fun u => []) rfl zw (fun _ => rfl) (wn rfl) rfl Tryz.call81 (zI rfl zX) (fun W hW hp hE => zFj N p0 zF zH (zK.ext (hW.zCA hp)) zN zAQ hE) ?_
 intro w u zJO hu
 obtain ⟨zR, zT⟩ := u
 have gy100_0 := hu
 replace zK := zK.leR zJO
 replace leB := leB.trans zJO
 have QZ : Sl w.O w.W zW zR zT zN := gy100_0 --@phi
 show Tr _ _ (uf _ 7 (sL zR zN zT)) (_) _
 refine Tr.asg rfl rfl (Tr.nil (Tr.zA (Tr.sr (Tr.asg rfl rfl (Tr.Qb 2 98 zm ?_)))))
 show Tr _ _ (uf _ 4 (sL none (([] : List zk)) 0)) _ _
 refine Tr.nil (Tr.zA (Tr.seq (Tr.sr (Tr.asg rfl rfl (Tr.nil (Tr.zA (Tr.block (Tr.loop (σ := (List zk) × Int × (Option Addr) × Nat) (fun m w s => QU N p0 zN m s.1 s.2.1 = some r ∧ SlF s.2.2.1 s.1.length s.2.2.2) (fun s => [(0, sL zF p0 zH), (3, sL zR zN zT), (4, sL s.2.2.1 s.1 s.2.2.2), (5, iv s.2.1)]) (fun s => [(2, ow s.2.2.1 s.2.2.2 98 zm s.1)]) N (([] : List zk), 1, none, 0) ⟨H, Jm⟩ (.cons rfl (.cons rfl (.cons rfl (.cons rfl .nil)))) (.cons rfl .nil) (fun _ _ h => KG (h.1)) ?_))))))))
 intro w QI mL1 s hs
 obtain ⟨zA8, zAb, zD0, zDl⟩ := s
 obtain ⟨H, zHe⟩ := hs
 replace H : QU N p0 zN (mL1 + 1) zA8 zAb = some r := H
 replace zK := zK.leR QI
 replace QZ := QZ.le QI
 replace leB := leB.trans QI
 rw [QU.eq_2] at H
 show Tr _ _ (LF [(0, sL zF p0 zH), (3, sL zR zN zT), (4, sL zD0 zA8 zDl), (5, iv zAb)]) (LE [(2, ow zD0 zDl 98 zm zA8)]) _
 refine Tr.seq (Tr.sr (Tr.mv rfl rfl (Tr.mv rfl rfl (Tr.va rfl (fun _ _ a c => zf Vu (a.ev rfl)) ?_))))
 refine Tr.va rfl (fun _ _ a c => zh (a.ev rfl) (a.ev rfl)) ?_
 refine Tr.nil (Tr.zA (Tr.cond rfl H (fun H => ?_) (fun H => ?_)))
 ·refine Tr.skip (Tr.zA (Tr.seq (Tr.block (Tr.zJQ 18 [] [] (by kernel_rfl) (by kernel_rfl) fun zrX zol zqN => ?_))))
  refine Dr.quiet 0 [(14, sL zD0 zA8 zDl)] (by kernel_rfl) rfl rfl (by kernel_rfl) ?_ rfl rfl ?_
  ·exact Tq.mv rfl rfl (Tq.fin (.cons rfl .nil))
  refine Dr.quiet 1 [(15, sL zR zN zT)] (by kernel_rfl) rfl rfl (by kernel_rfl) ?_ rfl rfl ?_
  ·exact Tq.mv rfl rfl (Tq.fin (.cons rfl .nil))
  refine Dr.quiet 2 [(16, iv zAb)] (by kernel_rfl) rfl rfl (by kernel_rfl) ?_ rfl rfl ?_
  ·exact Tq.mv rfl rfl (Tq.fin (.cons rfl .nil))
  refine Dr.quiet 3 [(17, iv (w64 (zAb - 1)))] (by kernel_rfl) rfl rfl (by kernel_rfl) ?_ rfl rfl ?_
  ·refine Tq.va rfl (fun _ _ a c => Jn (a.ev rfl) (a.ev rfl)) ?_
   exact Tq.fin (.cons rfl .nil)
  obtain ⟨zEA, zac, H⟩ := bnd H
  obtain ⟨zVn, zVm, zVl⟩ := zO zac
  refine Dr.quiet 4 [(18, .pointer (some ⟨adB zR, adO zR + ((w64 (zAb - 1))).toNat * 1, none⟩))] (by kernel_rfl) rfl rfl (by kernel_rfl) ?_ rfl rfl ?_
  ·refine Tq.va rfl (fun _ _ a c => zD Kb (a.ev rfl) QZ.form (a.ev rfl) zVn zVm) ?_
   exact Tq.fin (.cons rfl .nil)
  refine Dr.quiet 5 [(19, iv zEA)] (by kernel_rfl) rfl rfl (by kernel_rfl) ?_ rfl rfl ?_
  ·refine Tq.va rfl (fun _ _ a c => zC QA (a.ev rfl) (rdF Jd (QZ.rl) zVl c) rfl) ?_
   exact Tq.fin (.cons rfl .nil)
  refine Dr.quiet 6 [(20, sL zR zN zT)] (by kernel_rfl) rfl rfl (by kernel_rfl) ?_ rfl rfl ?_
  ·exact Tq.mv rfl rfl (Tq.fin (.cons rfl .nil))
  refine Dr.quiet 7 [(21, iv zAb)] (by kernel_rfl) rfl rfl (by kernel_rfl) ?_ rfl rfl ?_
  ·exact Tq.mv rfl rfl (Tq.fin (.cons rfl .nil))
  obtain ⟨zEx, zTi, H⟩ := bnd H
  obtain ⟨zOP, zOO, zON⟩ := zO zTi
  refine Dr.quiet 8 [(22, .pointer (some ⟨adB zR, adO zR + (zAb).toNat * 1, none⟩))] (by kernel_rfl) rfl rfl (by kernel_rfl) ?_ rfl rfl ?_
  ·refine Tq.va rfl (fun _ _ a c => zD Kb (a.ev rfl) QZ.form (a.ev rfl) zOP zOO) ?_
   exact Tq.fin (.cons rfl .nil)
  refine Dr.quiet 9 [(23, iv zEx)] (by kernel_rfl) rfl rfl (by kernel_rfl) ?_ rfl rfl ?_
  ·refine Tq.va rfl (fun _ _ a c => zC QA (a.ev rfl) (rdF Jd (QZ.rl) zON c) rfl) ?_
   exact Tq.fin (.cons rfl .nil)
  refine Dr.quiet 10 [(24, sL zF p0 zH)] (by kernel_rfl) rfl rfl (by kernel_rfl) ?_ rfl rfl ?_
  ·exact Tq.mv rfl rfl (Tq.fin (.cons rfl .nil))
  refine Dr.quiet 11 [(25, sL zR zN zT)] (by kernel_rfl) rfl rfl (by kernel_rfl) ?_ rfl rfl ?_
  ·exact Tq.mv rfl rfl (Tq.fin (.cons rfl .nil))
  refine Dr.quiet 12 [(26, iv zAb)] (by kernel_rfl) rfl rfl (by kernel_rfl) ?_ rfl rfl ?_
  ·exact Tq.mv rfl rfl (Tq.fin (.cons rfl .nil))
  refine Dr.quiet 13 [(27, iv (w64 (zAb - 1)))] (by kernel_rfl) rfl rfl (by kernel_rfl) ?_ rfl rfl ?_
  ·refine Tq.va rfl (fun _ _ a c => Jn (a.ev rfl) (a.ev rfl)) ?_
   exact Tq.fin (.cons rfl .nil)
  obtain ⟨zNb, zab, H⟩ := bnd H
  obtain ⟨zVk, zVj, zVi⟩ := zO zab
  refine Dr.quiet 14 [(28, .pointer (some ⟨adB zR, adO zR + ((w64 (zAb - 1))).toNat * 1, none⟩))] (by kernel_rfl) rfl rfl (by kernel_rfl) ?_ rfl rfl ?_
  ·refine Tq.va rfl (fun _ _ a c => zD Kb (a.ev rfl) QZ.form (a.ev rfl) zVk zVj) ?_
   exact Tq.fin (.cons rfl .nil)
  refine Dr.quiet 15 [(29, iv zNb)] (by kernel_rfl) rfl rfl (by kernel_rfl) ?_ rfl rfl ?_
  ·refine Tq.va rfl (fun _ _ a c => zC QA (a.ev rfl) (rdF Jd (QZ.rl) zVi c) rfl) ?_
   exact Tq.fin (.cons rfl .nil)
  obtain ⟨zLC, zm1, H⟩ := bnd H
  refine Dr.one 16 (by kernel_rfl) ?_
  refine St.zAi 16 [5] [emp] (U := (Option Addr × Nat)) (fun u => (sL u.1 zLC u.2)) (fun u => SlF u.1 zLC.length u.2) (fun u => [ow u.1 u.2 125 Qm zLC]) rfl (zn rfl zw) (fun _ => rfl) (zKS rfl) rfl (wn rfl) rfl Tryz.call82 (zI rfl (zI rfl zX)) (fun W hW hp hE => zDv N p0 zF zH (zK.ext (hW.zCA hp)) zNb zLC zm1 hE) ?_
  intro u hu zrK
  obtain ⟨zHW, zHQ⟩ := u
  have gy134_0 := hu
  have zpM : SlF zHW zLC.length zHQ := gy134_0
  show Dr _ _ _ _ _ _ _ _ _ (uf _ 30 (sL zHW zLC zHQ)) (up _ 5 (ow zHW zHQ 125 Qm zLC))
  refine Dr.quiet 17 [(31, .agg #[iv zEA, iv zEx, sL zHW zLC zHQ])] (by kernel_rfl) rfl rfl (by kernel_rfl) ?_ rfl rfl ?_
  ·refine Tq.build (vs := [(0, iv zEA), (1, iv zEx), (2, sL zHW zLC zHQ)]) (cs := [iv zEA, iv zEx, sL zHW zLC zHQ]) (wn rfl) rfl (zi rfl (zi rfl (zi rfl Qh))) (by kernel_rfl) ?_
   exact Tq.fin (.cons rfl .nil)
  refine Dr.tail (by kernel_rfl) ?_
  refine Tr.freeze 5 rfl fun w zeN zaN => ?_
  replace QZ := QZ.le zeN
  replace QI := QI.trans zeN
  obtain ⟨zPc, zmy, H⟩ := bnd H
  refine Tr.zCe [2] [ow zD0 zDl 98 zm zA8] (U := (Option Addr × Nat)) (fun u => (sL u.1 zPc u.2)) (fun O W u => SlF u.1 zPc.length u.2) (fun u => [ow u.1 u.2 98 zm zPc]) rfl (zn rfl zw) (fun _ => rfl) (wn rfl) rfl Tryz.call61 (zI rfl (zI rfl zX)) (fun W hW hp hE => zCg N zA8 zD0 zDl (zk.mk zEA zEx zLC) zHW zHQ (zaN.zMY (hW.zCA hp)) zPc zmy hE) ?_
  intro w u zZx hu
  obtain ⟨zNR, zMz⟩ := u
  have gy138_0 := hu
  replace QZ := QZ.le zZx
  replace zaN := zaN.le zZx
  replace QI := QI.trans zZx
  have zbJ : SlF zNR zPc.length zMz := gy138_0 --@phi
  show Tr _ _ (uf _ 32 (sL zNR zPc zMz)) (up _ 2 (ow zNR zMz 98 zm zPc)) _
  refine Tr.asg rfl rfl (Tr.nil (Tr.zb (Tr.zA (Tr.region (Tr.mv rfl rfl (Tr.va rfl (fun _ _ a c => zg (a.ev rfl) (a.ev rfl)) ?_))))))
  exact Tr.asg rfl rfl (Tr.nil (Tr.zZ QI (zPc, (w64 (zAb + 1)), zNR, zMz) ⟨H, zbJ⟩ (.cons rfl (.cons rfl (.cons rfl (.cons rfl .nil)))) (.cons rfl .nil)))
 ·refine Tr.exit (Tr.zP (Tr.zP (Tr.zl (Tr.zA (Tr.sr (Tr.mv rfl rfl ?_))))))
  obtain ⟨zPb, zmw, H⟩ := bnd H
  refine Tr.zAi [6] [emp] (U := (Option Addr × Nat)) (fun u => (sL u.1 zPb u.2)) (fun u => SlF u.1 zPb.length u.2) (fun u => [ow u.1 u.2 36 zL zPb]) rfl (zn rfl zw) (fun _ => rfl) (wn rfl) rfl Tryz.call63 (zI rfl zX) (fun W hW hp hE => zDL N zA8 zD0 zDl (hW.slS (k := 2) rfl hp rfl) zPb zmw hE) ?_
  intro u hu
  obtain ⟨zK3, zKh⟩ := u
  have gy140_0 := hu
  have zbI : SlF zK3 zPb.length zKh := gy140_0 --@phi
  show Tr _ _ (uf _ 34 (sL zK3 zPb zKh)) (up _ 6 (ow zK3 zKh 36 zL zPb)) _
  refine Tr.asg rfl rfl (Tr.nil (Tr.zA (Tr.ret ?_)))
  obtain rfl := oI H
  exact Tr.out (m := [sL zK3 zPb zKh]) [] (zU rfl zY) (fun W hW => ⟨(zK3, zKh), rfl, zbI, HF.zEF leB (hW.pick (ks := [6]) (by decide) (zn rfl zw)) ⟨Ww _ _ _ _ WW, trivial⟩⟩)

end Go.Proofs.YtacapjleiadkkaaGreat
