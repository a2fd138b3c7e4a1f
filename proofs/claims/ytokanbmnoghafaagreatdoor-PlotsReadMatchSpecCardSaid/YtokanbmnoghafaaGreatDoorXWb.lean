/- The walks: each function computes its plain function. -/
import Derived.Test.YtokanbmnoghafaaGreatDoorXWa
namespace Go.Proofs.YtokanbmnoghafaaGreatDoor
open Go.RowKit
set_option maxRecDepth 100000
set_option maxHeartbeats 1000000
theorem zGE (N : Nat) {w : Bs} (p0 : zt) (zG : Option Addr) (zH : Nat) (ze : Sl w.R w.W KW zG zH p0.Rects) (p1 : Int) (r : Int) (H : zAV N p0 p1 = some r) (hE : HF w w.W E0) : Calls Tryz.prog 26 [(.agg #[(sv p0.Name), (.slice zG p0.Rects.length zH)]), (iv p1)].toArray w.W fun e W' => e = .returned (iv r) ∧ HF w W' E0 := by
 unfold zAV at H
 have leB := Bs.Le.refl w
 refine Tr.enter (n := 65) Tryz.func26 rfl rfl rfl hE ?_
 refine Tr.sr (Tr.box 1 (cs := [(sv p0.Name), (.slice zG p0.Rects.length zH)]) (wn rfl) rfl rfl rfl fun QB => ?_)
 refine Tr.asg rfl rfl (Tr.nil (Tr.zA (Tr.seq (Tr.sr (Tr.va rfl (fun _ _ h1 h2 => zB zCA (h1.ev rfl)) ?_)))))
 refine Tr.va rfl (fun _ _ h1 h2 => zF zAR (h1.ev rfl) (rdb h2 (vs := [(sv p0.Name), (.slice zG p0.Rects.length zH)]) (k := 1) rfl 0) rfl) ?_
 obtain ⟨y101, hy101, H⟩ := bnd H
 refine Tr.Qa (r := (.bool y101)) (wn rfl) rfl Tryz.call47 (zI rfl zT) (fun W hW => zIN N p0.Name y101 hy101 (HF.start _)) ?_
 refine Tr.va rfl (fun _ _ h1 h2 => Qb (h1.ev rfl)) ?_
 refine Tr.nil (Tr.zA (Tr.cond rfl H (fun H => ?_) (fun H => ?_)))
 ·refine Tr.sr (Tr.asg rfl rfl (Tr.nil (Tr.zA (Tr.ret (Tr.zM ?_)))))
  obtain rfl := Option.some.inj H
  exact Tr.out (m := [(iv 5)]) [] (zJ rfl zR) (fun W hW => ⟨rfl, hW.low leB⟩)
 ·refine Tr.skip (Tr.zA (Tr.seq (Tr.sr (Tr.va rfl (fun _ _ h1 h2 => zB zB9 (h1.ev rfl)) ?_))))
  refine Tr.va rfl (fun _ _ h1 h2 => zF zHZ (h1.ev rfl) (rdb h2 (vs := [(sv p0.Name), (.slice zG p0.Rects.length zH)]) (k := 1) rfl 1) rfl) ?_
  refine Tr.va rfl (fun _ _ h1 h2 => QG zFI (h1.ev rfl)) ?_
  refine Tr.va rfl (fun _ _ h1 h2 => QY (h1.ev rfl) (h1.ev rfl)) ?_
  refine Tr.nil (Tr.zA (Tr.cond rfl H (fun H => ?_) (fun H => ?_)))
  ·refine Tr.sr (Tr.asg rfl rfl (Tr.nil (Tr.zA (Tr.ret (Tr.zM ?_)))))
   obtain rfl := Option.some.inj H
   exact Tr.out (m := [(iv 9)]) [] (zJ rfl zR) (fun W hW => ⟨rfl, hW.low leB⟩)
  ·refine Tr.skip (Tr.zA (Tr.seq (Tr.sr (Tr.va rfl (fun _ _ h1 h2 => zB zB9 (h1.ev rfl)) ?_))))
   refine Tr.va rfl (fun _ _ h1 h2 => zF zHZ (h1.ev rfl) (rdb h2 (vs := [(sv p0.Name), (.slice zG p0.Rects.length zH)]) (k := 1) rfl 1) rfl) ?_
   refine Tr.va rfl (fun _ _ h1 h2 => QG zFI (h1.ev rfl)) ?_
   refine Tr.va rfl (fun _ _ h1 h2 => VR (h1.ev rfl) (h1.ev rfl)) ?_
   refine Tr.nil (Tr.zA (Tr.cond rfl H (fun H => ?_) (fun H => ?_)))
   ·refine Tr.sr (Tr.asg rfl rfl (Tr.nil (Tr.zA (Tr.ret (Tr.zM ?_)))))
    obtain rfl := Option.some.inj H
    exact Tr.out (m := [(iv 2)]) [] (zJ rfl zR) (fun W hW => ⟨rfl, hW.low leB⟩)
   ·refine Tr.skip (Tr.zA (Tr.seq (Tr.sr (Tr.va rfl (fun _ _ h1 h2 => zB zB9 (h1.ev rfl)) ?_))))
    refine Tr.va rfl (fun _ _ h1 h2 => zF zHZ (h1.ev rfl) (rdb h2 (vs := [(sv p0.Name), (.slice zG p0.Rects.length zH)]) (k := 1) rfl 1) rfl) ?_
    refine Tr.va rfl (fun _ _ h1 h2 => QG zFI (h1.ev rfl)) ?_
    refine Tr.mv rfl rfl (Tr.nil (Tr.zA (Tr.block (Tr.loop (σ := (List VS) × Nat) (fun m w s => m = s.1.length + 1 ∧ s.1 = List.drop s.2 p0.Rects ∧ s.2 ≤ p0.Rects.length ∧ KS p1 s.1 s.2 = some r) (fun s => [(1, (iv p1)), (20, (.slice zG p0.Rects.length zH)), (21, (iv (p0.Rects.length : Int))), (22, (iv (s.2 : Int)))]) (fun s => []) (p0.Rects.length + 1) (p0.Rects, 0) ⟨rfl, rfl, Nat.zero_le _, H⟩ (.cons rfl (.cons rfl (.cons rfl (.cons rfl .nil)))) .nil (fun _ _ h => absurd h.1 (by simp)) ?_))))
    intro w Qs m s hs
    obtain ⟨zz, iL1⟩ := s
    obtain ⟨zAe, Qt, hiL1, H⟩ := hs
    replace Qt : zz = List.drop iL1 p0.Rects := Qt
    replace H : KS p1 zz iL1 = some r := H
    replace zAe : m + 1 = zz.length + 1 := zAe
    replace ze := ze.leR Qs
    replace leB := leB.trans Qs
    obtain rfl : m = zz.length := by omega
    clear zAe
    show Tr _ _ (LF [(1, (iv p1)), (20, (.slice zG p0.Rects.length zH)), (21, (iv (p0.Rects.length : Int))), (22, (iv (iL1 : Int)))]) (LE []) _
    cases zz with
    | nil =>
     rw [KS.eq_1] at H
     refine Tr.sr (Tr.va rfl (fun _ _ h1 h2 => QV (h1.ev rfl) (h1.ev rfl)) ?_)
     refine Tr.nil (Tr.zA (Tr.seq (Tr.zDV rfl (Wh Qt) ?_)))
     refine Tr.exit (Tr.zx (Tr.zx (Tr.Qd (Tr.zA (Tr.sr (Tr.asg rfl rfl (Tr.nil (Tr.zA (Tr.ret ?_)))))))))
     obtain rfl := Option.some.inj H
     exact Tr.out (m := [(iv 0)]) [] (zJ rfl zR) (fun W hW => ⟨rfl, hW.low leB⟩)
    | cons xL1 zz =>
     rw [KS.eq_2] at H
     refine Tr.sr (Tr.va rfl (fun _ _ h1 h2 => QV (h1.ev rfl) (h1.ev rfl)) ?_)
     refine Tr.nil (Tr.zA (Tr.seq (Tr.zC7 rfl (zAL Qt) ?_)))
     refine Tr.skip (Tr.zA (Tr.seq (Tr.block (Tr.sr (Tr.va rfl (fun _ _ h1 h2 => zN el_45 (h1.ev rfl) ze.form (h1.ev rfl) (Int.natCast_nonneg _) (Qz Qt)) ?_)))))
     refine Tr.va rfl (fun _ _ h1 h2 => zu (cs := [(iv xL1.X0), (iv xL1.Y0), (iv xL1.X1), (iv xL1.Y1)]) ag_49 zGH (h1.ev rfl) (za.take (rdF zFn ze (zAM Qt) h2) 4) rfl) ?_
     refine Tr.alloc 3 (wn rfl) rfl ze_49 fun zGi => ?_
     refine Tr.store 3 (cs := [(iv xL1.X0), (iv xL1.Y0), (iv xL1.X1), (iv xL1.Y1)]) [(iv xL1.X0), (iv xL1.Y0), (iv xL1.X1), (iv xL1.Y1)] (wn rfl) rfl rfl rfl rfl zGH rfl rfl rfl ?_
     refine Tr.nil (Tr.zA (Tr.seq (Tr.sr (Tr.va rfl (fun _ _ h1 h2 => zB zHL (h1.ev rfl)) ?_))))
     refine Tr.va rfl (fun _ _ h1 h2 => zF Qu (h1.ev rfl) (rdb h2 (vs := [(iv xL1.X0), (iv xL1.Y0), (iv xL1.X1), (iv xL1.Y1)]) (k := 3) rfl 0) rfl) ?_
     refine Tr.mv rfl rfl ?_
     obtain ⟨zIg, hy116, H⟩ := bnd H
     refine Tr.Qa (r := (.bool zIg)) (wn rfl) rfl Tryz.call48 (zI rfl (zI rfl zT)) (fun W hW => zAU xL1.X0 p1 zIg hy116 (HF.start _)) ?_
     refine Tr.va rfl (fun _ _ h1 h2 => Qb (h1.ev rfl)) ?_
     refine Tr.mv rfl rfl ?_
     obtain ⟨g118, zFO, H⟩ := bnd H
     refine Tr.Jl 6 [(1, (iv p1)), (6, (.pointer (some ⟨zGi, 0, none⟩))), (20, (.slice zG p0.Rects.length zH)), (21, (iv (p0.Rects.length : Int))), (22, (iv (iL1 : Int))), (37, (.bool g118))] [(3, bx zGi #[(iv xL1.X0), (iv xL1.Y0), (iv xL1.X1), (iv xL1.Y1)] 49)] ?_ ?_
     ·cases zHF : (!zIg)
      ·rw [zHF] at zFO
       rw [if_neg (by decide)] at zFO
       have H := zFO
       refine Tr.val (wg rfl rfl rfl) rfl (fun _ _ h1 h2 => zB zHK (h1.ev rfl)) ?_
       refine Tr.val (wg rfl rfl rfl) rfl (fun _ _ h1 h2 => zF Qu (h1.ev rfl) (rdb h2 (vs := [(iv xL1.X0), (iv xL1.Y0), (iv xL1.X1), (iv xL1.Y1)]) (k := 3) rfl 1) rfl) ?_
       refine Tr.val (wg rfl rfl rfl) rfl (fun _ _ h1 h2 => run_move (h1.ev rfl)) ?_
       obtain ⟨Ja, zJy, H⟩ := bnd H
       refine Tr.Qa (r := (.bool Ja)) (wg rfl rfl rfl) rfl Tryz.call48 (zI rfl (zI rfl zT)) (fun W hW => zAU xL1.Y0 p1 Ja zJy (HF.start _)) ?_
       refine Tr.val (wg rfl rfl rfl) rfl (fun _ _ h1 h2 => Qb (h1.ev rfl)) ?_
       refine Tr.va rfl (fun _ _ h1 h2 => zV (h1.ev rfl) (h1.ev rfl)) ?_
       obtain rfl := Option.some.inj H
       exact Tr.nil (Tr.QI (.cons rfl (.cons rfl (.cons rfl (.cons rfl (.cons rfl (.cons rfl .nil)))))) (.cons rfl .nil))
      ·rw [zHF] at zFO
       rw [if_pos rfl] at zFO
       have H := zFO
       obtain rfl := Option.some.inj H
       refine Tr.pass rfl rfl rfl rfl rfl (by decide) ?_
       refine Tr.pass rfl rfl rfl rfl rfl (by decide) ?_
       refine Tr.pass rfl rfl rfl rfl rfl (by decide) ?_
       refine Tr.pass rfl rfl rfl rfl rfl (by decide) ?_
       refine Tr.pass rfl rfl rfl rfl rfl (by decide) ?_
       refine Tr.va rfl (fun _ _ h1 h2 => zU (h1.ev rfl) (h1.ev rfl)) ?_
       exact Tr.nil (Tr.QI (.cons rfl (.cons rfl (.cons rfl (.cons rfl (.cons rfl (.cons rfl .nil)))))) (.cons rfl .nil))
     ·show Tr _ _ (LF [(1, (iv p1)), (6, (.pointer (some ⟨zGi, 0, none⟩))), (20, (.slice zG p0.Rects.length zH)), (21, (iv (p0.Rects.length : Int))), (22, (iv (iL1 : Int))), (37, (.bool g118))]) (LE [(3, bx zGi #[(iv xL1.X0), (iv xL1.Y0), (iv xL1.X1), (iv xL1.Y1)] 49)]) _
      refine Tr.mv rfl rfl ?_
      obtain ⟨g121, Wy, H⟩ := bnd H
      refine Tr.Jl 6 [(1, (iv p1)), (6, (.pointer (some ⟨zGi, 0, none⟩))), (20, (.slice zG p0.Rects.length zH)), (21, (iv (p0.Rects.length : Int))), (22, (iv (iL1 : Int))), (44, (.bool g121))] [(3, bx zGi #[(iv xL1.X0), (iv xL1.Y0), (iv xL1.X1), (iv xL1.Y1)] 49)] ?_ ?_
      ·cases zHF : g118
       ·rw [zHF] at Wy
        rw [if_neg (by decide)] at Wy
        have H := Wy
        refine Tr.val (wg rfl rfl rfl) rfl (fun _ _ h1 h2 => zB zHJ (h1.ev rfl)) ?_
        refine Tr.val (wg rfl rfl rfl) rfl (fun _ _ h1 h2 => zF Qu (h1.ev rfl) (rdb h2 (vs := [(iv xL1.X0), (iv xL1.Y0), (iv xL1.X1), (iv xL1.Y1)]) (k := 3) rfl 2) rfl) ?_
        refine Tr.val (wg rfl rfl rfl) rfl (fun _ _ h1 h2 => run_move (h1.ev rfl)) ?_
        obtain ⟨zJR, hy122, H⟩ := bnd H
        refine Tr.Qa (r := (.bool zJR)) (wg rfl rfl rfl) rfl Tryz.call48 (zI rfl (zI rfl zT)) (fun W hW => zAU xL1.X1 p1 zJR hy122 (HF.start _)) ?_
        refine Tr.val (wg rfl rfl rfl) rfl (fun _ _ h1 h2 => Qb (h1.ev rfl)) ?_
        refine Tr.va rfl (fun _ _ h1 h2 => zV (h1.ev rfl) (h1.ev rfl)) ?_
        obtain rfl := Option.some.inj H
        exact Tr.nil (Tr.QI (.cons rfl (.cons rfl (.cons rfl (.cons rfl (.cons rfl (.cons rfl .nil)))))) (.cons rfl .nil))
       ·rw [zHF] at Wy
        rw [if_pos rfl] at Wy
        have H := Wy
        obtain rfl := Option.some.inj H
        refine Tr.pass rfl rfl rfl rfl rfl (by decide) ?_
        refine Tr.pass rfl rfl rfl rfl rfl (by decide) ?_
        refine Tr.pass rfl rfl rfl rfl rfl (by decide) ?_
        refine Tr.pass rfl rfl rfl rfl rfl (by decide) ?_
        refine Tr.pass rfl rfl rfl rfl rfl (by decide) ?_
        refine Tr.va rfl (fun _ _ h1 h2 => zU (h1.ev rfl) (h1.ev rfl)) ?_
        exact Tr.nil (Tr.QI (.cons rfl (.cons rfl (.cons rfl (.cons rfl (.cons rfl (.cons rfl .nil)))))) (.cons rfl .nil))
      ·show Tr _ _ (LF [(1, (iv p1)), (6, (.pointer (some ⟨zGi, 0, none⟩))), (20, (.slice zG p0.Rects.length zH)), (21, (iv (p0.Rects.length : Int))), (22, (iv (iL1 : Int))), (44, (.bool g121))]) (LE [(3, bx zGi #[(iv xL1.X0), (iv xL1.Y0), (iv xL1.X1), (iv xL1.Y1)] 49)]) _
       refine Tr.mv rfl rfl ?_
       obtain ⟨g124, zEP, H⟩ := bnd H
       refine Tr.Jl 6 [(1, (iv p1)), (6, (.pointer (some ⟨zGi, 0, none⟩))), (20, (.slice zG p0.Rects.length zH)), (21, (iv (p0.Rects.length : Int))), (22, (iv (iL1 : Int))), (51, (.bool g124))] [(3, bx zGi #[(iv xL1.X0), (iv xL1.Y0), (iv xL1.X1), (iv xL1.Y1)] 49)] ?_ ?_
       ·cases zHF : g121
        ·rw [zHF] at zEP
         rw [if_neg (by decide)] at zEP
         have H := zEP
         refine Tr.val (wg rfl rfl rfl) rfl (fun _ _ h1 h2 => zB zHI (h1.ev rfl)) ?_
         refine Tr.val (wg rfl rfl rfl) rfl (fun _ _ h1 h2 => zF Qu (h1.ev rfl) (rdb h2 (vs := [(iv xL1.X0), (iv xL1.Y0), (iv xL1.X1), (iv xL1.Y1)]) (k := 3) rfl 3) rfl) ?_
         refine Tr.val (wg rfl rfl rfl) rfl (fun _ _ h1 h2 => run_move (h1.ev rfl)) ?_
         obtain ⟨y125, hy125, H⟩ := bnd H
         refine Tr.Qa (r := (.bool y125)) (wg rfl rfl rfl) rfl Tryz.call48 (zI rfl (zI rfl zT)) (fun W hW => zAU xL1.Y1 p1 y125 hy125 (HF.start _)) ?_
         refine Tr.val (wg rfl rfl rfl) rfl (fun _ _ h1 h2 => Qb (h1.ev rfl)) ?_
         refine Tr.va rfl (fun _ _ h1 h2 => zV (h1.ev rfl) (h1.ev rfl)) ?_
         obtain rfl := Option.some.inj H
         exact Tr.nil (Tr.QI (.cons rfl (.cons rfl (.cons rfl (.cons rfl (.cons rfl (.cons rfl .nil)))))) (.cons rfl .nil))
        ·rw [zHF] at zEP
         rw [if_pos rfl] at zEP
         have H := zEP
         obtain rfl := Option.some.inj H
         refine Tr.pass rfl rfl rfl rfl rfl (by decide) ?_
         refine Tr.pass rfl rfl rfl rfl rfl (by decide) ?_
         refine Tr.pass rfl rfl rfl rfl rfl (by decide) ?_
         refine Tr.pass rfl rfl rfl rfl rfl (by decide) ?_
         refine Tr.pass rfl rfl rfl rfl rfl (by decide) ?_
         refine Tr.va rfl (fun _ _ h1 h2 => zU (h1.ev rfl) (h1.ev rfl)) ?_
         exact Tr.nil (Tr.QI (.cons rfl (.cons rfl (.cons rfl (.cons rfl (.cons rfl (.cons rfl .nil)))))) (.cons rfl .nil))
       ·show Tr _ _ (LF [(1, (iv p1)), (6, (.pointer (some ⟨zGi, 0, none⟩))), (20, (.slice zG p0.Rects.length zH)), (21, (iv (p0.Rects.length : Int))), (22, (iv (iL1 : Int))), (51, (.bool g124))]) (LE [(3, bx zGi #[(iv xL1.X0), (iv xL1.Y0), (iv xL1.X1), (iv xL1.Y1)] 49)]) _
        refine Tr.nil (Tr.zA (Tr.cond rfl H (fun H => ?_) (fun H => ?_)))
        ·refine Tr.sr (Tr.asg rfl rfl (Tr.nil (Tr.zA (Tr.ret (Tr.zM (Tr.zW (Tr.zM (Tr.zM (Tr.zW (Tr.zM ?_))))))))))
         obtain rfl := Option.some.inj H
         exact Tr.out (m := [(iv 1)]) [] (zJ rfl zR) (fun W hW => ⟨rfl, hW.low leB⟩)
        ·refine Tr.skip (Tr.zA (Tr.sr (Tr.va rfl (fun _ _ h1 h2 => zB zHJ (h1.ev rfl)) ?_)))
         refine Tr.va rfl (fun _ _ h1 h2 => zF Qu (h1.ev rfl) (rdb h2 (vs := [(iv xL1.X0), (iv xL1.Y0), (iv xL1.X1), (iv xL1.Y1)]) (k := 3) rfl 2) rfl) ?_
         refine Tr.va rfl (fun _ _ h1 h2 => zB zHL (h1.ev rfl)) ?_
         refine Tr.va rfl (fun _ _ h1 h2 => zF Qu (h1.ev rfl) (rdb h2 (vs := [(iv xL1.X0), (iv xL1.Y0), (iv xL1.X1), (iv xL1.Y1)]) (k := 3) rfl 0) rfl) ?_
         refine Tr.va rfl (fun _ _ h1 h2 => zAy (h1.ev rfl) (h1.ev rfl)) ?_
         refine Tr.mv rfl rfl (Tr.Jl 6 [(1, (iv p1)), (20, (.slice zG p0.Rects.length zH)), (21, (iv (p0.Rects.length : Int))), (22, (iv (iL1 : Int))), (63, (.bool ((decide (xL1.X1 ≤ xL1.X0)) || (decide (xL1.Y1 ≤ xL1.Y0)))))] [(3, bx zGi #[(iv xL1.X0), (iv xL1.Y0), (iv xL1.X1), (iv xL1.Y1)] 49)] ?_ ?_)
         ·cases zHF : (decide (xL1.X1 ≤ xL1.X0))
          ·refine Tr.val (wg rfl rfl rfl) rfl (fun _ _ h1 h2 => zB zHI (h1.ev rfl)) ?_
           refine Tr.val (wg rfl rfl rfl) rfl (fun _ _ h1 h2 => zF Qu (h1.ev rfl) (rdb h2 (vs := [(iv xL1.X0), (iv xL1.Y0), (iv xL1.X1), (iv xL1.Y1)]) (k := 3) rfl 3) rfl) ?_
           refine Tr.val (wg rfl rfl rfl) rfl (fun _ _ h1 h2 => zB zHK (h1.ev rfl)) ?_
           refine Tr.val (wg rfl rfl rfl) rfl (fun _ _ h1 h2 => zF Qu (h1.ev rfl) (rdb h2 (vs := [(iv xL1.X0), (iv xL1.Y0), (iv xL1.X1), (iv xL1.Y1)]) (k := 3) rfl 1) rfl) ?_
           refine Tr.val (wg rfl rfl rfl) rfl (fun _ _ h1 h2 => zAy (h1.ev rfl) (h1.ev rfl)) ?_
           refine Tr.va rfl (fun _ _ h1 h2 => zV (h1.ev rfl) (h1.ev rfl)) ?_
           exact Tr.nil (Tr.QI (.cons rfl (.cons rfl (.cons rfl (.cons rfl (.cons rfl .nil))))) (.cons rfl .nil))
          ·refine Tr.pass rfl rfl rfl rfl rfl (by decide) ?_
           refine Tr.pass rfl rfl rfl rfl rfl (by decide) ?_
           refine Tr.pass rfl rfl rfl rfl rfl (by decide) ?_
           refine Tr.pass rfl rfl rfl rfl rfl (by decide) ?_
           refine Tr.pass rfl rfl rfl rfl rfl (by decide) ?_
           refine Tr.va rfl (fun _ _ h1 h2 => zU (h1.ev rfl) (h1.ev rfl)) ?_
           exact Tr.nil (Tr.QI (.cons rfl (.cons rfl (.cons rfl (.cons rfl (.cons rfl .nil))))) (.cons rfl .nil))
         ·show Tr _ _ (LF [(1, (iv p1)), (20, (.slice zG p0.Rects.length zH)), (21, (iv (p0.Rects.length : Int))), (22, (iv (iL1 : Int))), (63, (.bool ((decide (xL1.X1 ≤ xL1.X0)) || (decide (xL1.Y1 ≤ xL1.Y0)))))]) (LE [(3, bx zGi #[(iv xL1.X0), (iv xL1.Y0), (iv xL1.X1), (iv xL1.Y1)] 49)]) _
          refine Tr.nil (Tr.zA (Tr.cond rfl H (fun H => ?_) (fun H => ?_)))
          ·refine Tr.sr (Tr.asg rfl rfl (Tr.nil (Tr.zA (Tr.ret (Tr.zW (Tr.zM (Tr.zM (Tr.zW (Tr.zM ?_)))))))))
           obtain rfl := Option.some.inj H
           exact Tr.out (m := [(iv 13)]) [] (zJ rfl zR) (fun W hW => ⟨rfl, hW.low leB⟩)
          ·refine Tr.skip (Tr.zi (Tr.zA (Tr.region (Tr.va rfl (fun _ _ h1 h2 => QS (h1.ev rfl) (h1.ev rfl)) ?_))))
           exact Tr.mv rfl rfl (Tr.nil (Tr.zb Qs (zz, (iL1 + 1)) ⟨rfl, VN Qt, Qz Qt, H⟩ (.cons rfl (.cons rfl (.cons rfl (.cons (congrArg (fun z => some (Value.int .i64 z)) (VM Qt ze.form)) .nil)))) .nil))

theorem zD0 {w : Bs} (p0 : Int) (r : Int) (H : zAS p0 = some r) (hE : HF w w.W E0) : Calls Tryz.prog 62 [(iv p0)].toArray w.W fun e W' => e = .returned (iv r) ∧ HF w W' E0 := by
 unfold zAS at H
 have leB := Bs.Le.refl w
 refine Tr.enter (n := 6) Tryz.func62 rfl rfl rfl hE ?_
 refine Tr.sr (Tr.asg rfl rfl (Tr.nil (Tr.zA (Tr.seq (Tr.sr (Tr.mv rfl rfl ?_))))))
 obtain ⟨zl, zAO, H⟩ := bnd H
 refine Tr.Qa (r := (.bool zl)) (wn rfl) rfl Tryz.call25 (zI rfl (zI rfl (zI rfl zT))) (fun W hW => Wi p0 1 100 zl zAO (HF.start _)) ?_
 refine Tr.nil (Tr.zA (Tr.cond rfl H (fun H => ?_) (fun H => ?_)))
 ·refine Tr.sr (Tr.mv rfl rfl (Tr.asg rfl rfl (Tr.nil (Tr.zA (Tr.ret (Tr.zM ?_))))))
  obtain rfl := Option.some.inj H
  exact Tr.out (m := [(iv p0)]) [] (zJ rfl zR) (fun W hW => ⟨rfl, hW.low leB⟩)
 ·refine Tr.skip (Tr.zA (Tr.sr (Tr.asg rfl rfl (Tr.nil (Tr.zA (Tr.ret ?_))))))
  obtain rfl := Option.some.inj H
  exact Tr.out (m := [(iv 1)]) [] (zJ rfl zR) (fun W hW => ⟨rfl, hW.low leB⟩)

theorem zIn {w : Bs} (p0 : zD) (zG : Option Addr) (zH : Nat) (ze : Sl w.R w.W QM zG zH p0.Points) (zL : Option Addr) (zK : Nat) (KE : Sl w.R w.W zC zL zK p0.Steps) (r : Int) (H : zCF p0 = some r) (hE : HF w w.W E0) : Calls Tryz.prog 49 [(.agg #[(iv p0.Kind), (sv p0.Name), (iv p0.At.X), (iv p0.At.Y), (.slice zG p0.Points.length zH), (iv p0.NX), (iv p0.NY), (.slice zL p0.Steps.length zK)])].toArray w.W fun e W' => e = .returned (iv r) ∧ HF w W' E0 := by
 unfold zCF at H
 have leB := Bs.Le.refl w
 refine Tr.enter (n := 13) Tryz.func49 rfl rfl rfl hE ?_
 refine Tr.sr (Tr.box 1 (cs := [(iv p0.Kind), (sv p0.Name), (iv p0.At.X), (iv p0.At.Y), (.slice zG p0.Points.length zH), (iv p0.NX), (iv p0.NY), (.slice zL p0.Steps.length zK)]) (wn rfl) rfl rfl rfl fun QB => ?_)
 refine Tr.asg rfl rfl (Tr.nil (Tr.zA (Tr.sr (Tr.asg rfl rfl (Tr.nil (Tr.zA (Tr.seq (Tr.draw (by kernel_rfl) (by kernel_rfl) ?_))))))))
 refine Tq.mv rfl rfl (Tq.va rfl (fun _ _ h1 h2 => zB zB7 (h1.ev rfl)) ?_)
 refine Tq.va rfl (fun _ _ h1 h2 => zF Qu (h1.ev rfl) (rdb h2 (vs := [(iv p0.Kind), (sv p0.Name), (iv p0.At.X), (iv p0.At.Y), (.slice zG p0.Points.length zH), (iv p0.NX), (iv p0.NY), (.slice zL p0.Steps.length zK)]) (k := 1) rfl 5) rfl) ?_
 obtain ⟨y101, hy101, H⟩ := bnd H
 refine Tq.callF (r := (iv y101)) (wn rfl) rfl rfl Tryz.call62 (zI rfl zT) (fun W hW => zD0 p0.NX y101 hy101 (HF.start _)) ?_
 refine Tq.mv rfl rfl (Tq.va rfl (fun _ _ h1 h2 => zB zB6 (h1.ev rfl)) ?_)
 refine Tq.va rfl (fun _ _ h1 h2 => zF Qu (h1.ev rfl) (rdb h2 (vs := [(iv p0.Kind), (sv p0.Name), (iv p0.At.X), (iv p0.At.Y), (.slice zG p0.Points.length zH), (iv p0.NX), (iv p0.NY), (.slice zL p0.Steps.length zK)]) (k := 1) rfl 6) rfl) ?_
 obtain ⟨y102, hy102, H⟩ := bnd H
 refine Tq.callF (r := (iv y102)) (wn rfl) rfl rfl Tryz.call62 (zI rfl zT) (fun W hW => zD0 p0.NY y102 hy102 (HF.start _)) ?_
 refine Tq.va rfl (fun _ _ h1 h2 => zGw (h1.ev rfl) (h1.ev rfl)) ?_
 refine Tq.asg rfl rfl (Tq.nil (Tr.zA (Tr.ret ?_)))
 obtain rfl := Option.some.inj H
 exact Tr.out (m := [(iv (w64 (y101 * y102)))]) [] (zJ rfl zR) (fun W hW => ⟨rfl, hW.low leB⟩)

theorem zHf (N : Nat) (rec : (List zD) → Option Int) (hrec : ∀ {w : Bs} (p0 : (List zD)) (zG : Option Addr) (zH : Nat) (ze : Sl w.R w.W zC zG zH p0) (r : Int) (H : rec p0 = some r) (hE : HF w w.W E0), Calls Tryz.prog 27 [(.slice zG p0.length zH)].toArray w.W fun e W' => e = .returned (iv r) ∧ HF w W' E0) {w : Bs} (p0 : (List zD)) (zG : Option Addr) (zH : Nat) (ze : Sl w.R w.W zC zG zH p0) (r : Int) (H : zDb N rec p0 = some r) (hE : HF w w.W E0) : Calls Tryz.prog 27 [(.slice zG p0.length zH)].toArray w.W fun e W' => e = .returned (iv r) ∧ HF w W' E0 := by
 unfold zDb at H
 have leB := Bs.Le.refl w
 refine Tr.enter (n := 30) Tryz.func27 rfl rfl rfl hE ?_
 refine Tr.sr (Tr.asg rfl rfl (Tr.nil (Tr.zA (Tr.sr (Tr.asg rfl rfl (Tr.nil (Tr.zA (Tr.seq (Tr.sr (Tr.mv rfl rfl ?_))))))))))
 refine Tr.va rfl (fun _ _ h1 h2 => QG zBx (h1.ev rfl)) ?_
 refine Tr.mv rfl rfl (Tr.nil (Tr.zA (Tr.block (Tr.loop (σ := (List zD) × Nat × Int) (fun m w s => m = s.1.length + 1 ∧ s.1 = List.drop s.2.1 p0 ∧ s.2.1 ≤ p0.length ∧ Jt rec s.1 s.2.1 s.2.2 = some r) (fun s => [(3, (iv s.2.2)), (6, (.slice zG p0.length zH)), (7, (iv (p0.length : Int))), (8, (iv (s.2.1 : Int)))]) (fun s => []) (p0.length + 1) (p0, 0, 0) ⟨rfl, rfl, Nat.zero_le _, H⟩ (.cons rfl (.cons rfl (.cons rfl (.cons rfl .nil)))) .nil (fun _ _ h => absurd h.1 (by simp)) ?_))))
 intro w zEv m s hs
 obtain ⟨WV, iL3, zBi⟩ := s
 obtain ⟨hmL3, zE0, hiL3, H⟩ := hs
 replace zE0 : WV = List.drop iL3 p0 := zE0
 replace H : Jt rec WV iL3 zBi = some r := H
 replace hmL3 : m + 1 = WV.length + 1 := hmL3
 replace ze := ze.leR zEv
 replace leB := leB.trans zEv
 obtain rfl : m = WV.length := by omega
 clear hmL3
 show Tr _ _ (LF [(3, (iv zBi)), (6, (.slice zG p0.length zH)), (7, (iv (p0.length : Int))), (8, (iv (iL3 : Int)))]) (LE []) _
 cases WV with
 | nil =>
  rw [Jt.eq_1] at H
  refine Tr.sr (Tr.va rfl (fun _ _ h1 h2 => QV (h1.ev rfl) (h1.ev rfl)) ?_)
  refine Tr.nil (Tr.zA (Tr.seq (Tr.zDV rfl (Wh zE0) ?_)))
  refine Tr.exit (Tr.zx (Tr.zx (Tr.Qd (Tr.zA (Tr.sr (Tr.mv rfl rfl (Tr.asg rfl rfl (Tr.nil (Tr.zA (Tr.ret ?_))))))))))
  obtain rfl := Option.some.inj H
  exact Tr.out (m := [(iv zBi)]) [] (zJ rfl zR) (fun W hW => ⟨rfl, hW.low leB⟩)
 | cons xL3 WV =>
  rw [Jt.eq_2] at H
  refine Tr.sr (Tr.va rfl (fun _ _ h1 h2 => QV (h1.ev rfl) (h1.ev rfl)) ?_)
  refine Tr.nil (Tr.zA (Tr.seq (Tr.zC7 rfl (zAL zE0) ?_)))
  refine Tr.skip (Tr.zA (Tr.seq (Tr.block (Tr.sr ?_))))
  obtain ⟨u127, hRu127, hoku127, hcu127⟩ := (ze).el (zAM zE0)
  obtain ⟨⟨Wv, Wu⟩, ⟨zCj, zCh⟩⟩ := u127
  obtain ⟨zCa, zF4⟩ := Jc.1 hoku127
  replace zCa : Sl w.R w.W QM Wv Wu xL3.Points := zCa
  replace zF4 : Sl w.R w.W zC zCj zCh xL3.Steps := zF4
  refine Tr.va rfl (fun _ _ h1 h2 => zN zDt (h1.ev rfl) ze.form (h1.ev rfl) (Int.natCast_nonneg _) (Qz zE0)) ?_
  refine Tr.va rfl (fun _ _ h1 h2 => zu (cs := [(iv xL3.Kind), (sv xL3.Name), (iv xL3.At.X), (iv xL3.At.Y), (.slice Wv xL3.Points.length Wu), (iv xL3.NX), (iv xL3.NY), (.slice zCj xL3.Steps.length zCh)]) zDA Wo (h1.ev rfl) (za.take (rdR hRu127 hcu127 h2) 8) rfl) ?_
  refine Tr.alloc 3 (wn rfl) rfl zGG fun b128 => ?_
  refine Tr.store 3 (cs := [(iv xL3.Kind), (sv xL3.Name), (iv xL3.At.X), (iv xL3.At.Y), (.slice Wv xL3.Points.length Wu), (iv xL3.NX), (iv xL3.NY), (.slice zCj xL3.Steps.length zCh)]) [(iv xL3.Kind), (sv xL3.Name), (iv xL3.At.X), (iv xL3.At.Y), (.slice Wv xL3.Points.length Wu), (iv xL3.NX), (iv xL3.NY), (.slice zCj xL3.Steps.length zCh)] (wn rfl) rfl rfl rfl rfl Wo rfl rfl rfl ?_
  refine Tr.nil (Tr.zA (Tr.sr (Tr.mv rfl rfl (Tr.va rfl (fun _ _ h1 h2 => QS (h1.ev rfl) (h1.ev rfl)) ?_))))
  refine Tr.asg rfl rfl (Tr.nil (Tr.zA ?_))
  have leJ132 := Bs.Le.refl w
  refine Tr.zFq (σ := Int) (fun w s => WN (Jt rec WV (iL3 + 1)) s = some r) (fun s => [(3, (iv s)), (6, (.slice zG p0.length zH)), (7, (iv (p0.length : Int))), (8, (iv (iL3 : Int)))]) (fun s => []) ?_ ?_
  ·refine Tr.sr (Tr.va rfl (fun _ _ h1 h2 => zB zAB (h1.ev rfl)) ?_)
   refine Tr.va rfl (fun _ _ h1 h2 => zF zBR (h1.ev rfl) (rdb h2 (vs := [(iv xL3.Kind), (sv xL3.Name), (iv xL3.At.X), (iv xL3.At.Y), (.slice Wv xL3.Points.length Wu), (iv xL3.NX), (iv xL3.NY), (.slice zCj xL3.Steps.length zCh)]) (k := 3) rfl 7) rfl) ?_
   refine Tr.va rfl (fun _ _ h1 h2 => QG zBx (h1.ev rfl)) ?_
   refine Tr.va rfl (fun _ _ h1 h2 => VR (h1.ev rfl) (h1.ev rfl)) ?_
   refine Tr.nil (Tr.zA (Tr.cond rfl H (fun H => ?_) (fun H => ?_)))
   ·refine Tr.draw (by kernel_rfl) (by kernel_rfl) ?_
    refine Tq.mv rfl rfl (Tq.va rfl (fun _ _ h1 h2 => zu (cs := [(iv xL3.Kind), (sv xL3.Name), (iv xL3.At.X), (iv xL3.At.Y), (.slice Wv xL3.Points.length Wu), (iv xL3.NX), (iv xL3.NY), (.slice zCj xL3.Steps.length zCh)]) zDA Wo (h1.ev rfl) (za.take (rdb h2 (vs := [(iv xL3.Kind), (sv xL3.Name), (iv xL3.At.X), (iv xL3.At.Y), (.slice Wv xL3.Points.length Wu), (iv xL3.NX), (iv xL3.NY), (.slice zCj xL3.Steps.length zCh)]) (k := 3) rfl 0) 8) rfl) ?_)
    obtain ⟨y134, hy134, H⟩ := bnd H
    refine Tq.Qa (r := (iv y134)) (wn rfl) rfl Tryz.call49 (zI rfl zT) (fun W hW => zIn xL3 Wv Wu (zCa.ext hW.Qc) zCj zCh (zF4.ext hW.Qc) y134 hy134 (HF.start _)) ?_
    refine Tq.va rfl (fun _ _ h1 h2 => zB zAB (h1.ev rfl)) ?_
    refine Tq.va rfl (fun _ _ h1 h2 => zF zBR (h1.ev rfl) (rdb h2 (vs := [(iv xL3.Kind), (sv xL3.Name), (iv xL3.At.X), (iv xL3.At.Y), (.slice Wv xL3.Points.length Wu), (iv xL3.NX), (iv xL3.NY), (.slice zCj xL3.Steps.length zCh)]) (k := 3) rfl 7) rfl) ?_
    obtain ⟨y135, hy135, H⟩ := bnd H
    refine Tq.Qa (r := (iv y135)) (wn rfl) rfl Tryz.call27 (zI rfl zT) (fun W hW => hrec xL3.Steps zCj zCh (zF4.ext hW.Qc) y135 hy135 (HF.start _)) ?_
    refine Tq.va rfl (fun _ _ h1 h2 => zGw (h1.ev rfl) (h1.ev rfl)) ?_
    refine Tq.va rfl (fun _ _ h1 h2 => QS (h1.ev rfl) (h1.ev rfl)) ?_
    exact Tq.asg rfl rfl (Tq.nil (Tr.zb leJ132 (w64 ((w64 (zBi + 1)) + (w64 (y134 * y135)))) H (.cons rfl (.cons rfl (.cons rfl (.cons rfl .nil)))) .nil))
   ·exact Tr.skip (Tr.zb leJ132 (w64 (zBi + 1)) H (.cons rfl (.cons rfl (.cons rfl (.cons rfl .nil)))) .nil)
  ·intro w VG hlJ133 hs
   have H := hs
   replace H : WN (Jt rec WV (iL3 + 1)) VG = some r := H
   replace ze := ze.leR hlJ133
   replace leB := leB.trans hlJ133
   replace zEv := zEv.trans hlJ133
   unfold WN at H
   show Tr _ _ (LF [(3, (iv VG)), (6, (.slice zG p0.length zH)), (7, (iv (p0.length : Int))), (8, (iv (iL3 : Int)))]) (LE []) _
   refine Tr.sr (Tr.mv rfl rfl (Tr.va rfl (fun _ _ h1 h2 => VR (h1.ev rfl) (h1.ev rfl)) ?_))
   refine Tr.nil (Tr.zA (Tr.cond rfl H (fun H => ?_) (fun H => ?_)))
   ·refine Tr.sr (Tr.asg rfl rfl (Tr.nil (Tr.zA (Tr.ret (Tr.zW (Tr.zM (Tr.zM (Tr.zW (Tr.zM ?_)))))))))
    obtain rfl := Option.some.inj H
    exact Tr.out (m := [(iv 3001)]) [] (zJ rfl zR) (fun W hW => ⟨rfl, hW.low leB⟩)
   ·refine Tr.skip (Tr.zi (Tr.zA (Tr.region (Tr.va rfl (fun _ _ h1 h2 => QS (h1.ev rfl) (h1.ev rfl)) ?_))))
    exact Tr.mv rfl rfl (Tr.nil (Tr.zb zEv (WV, (iL3 + 1), VG) ⟨rfl, VN zE0, Qz zE0, H⟩ (.cons rfl (.cons rfl (.cons rfl (.cons (congrArg (fun z => some (Value.int .i64 z)) (VM zE0 ze.form)) .nil)))) .nil))
theorem zFR : ∀ (N : Nat) {w : Bs} (p0 : (List zD)) (zG : Option Addr) (zH : Nat) (ze : Sl w.R w.W zC zG zH p0) (r : Int) (H : zAi N p0 = some r) (hE : HF w w.W E0), Calls Tryz.prog 27 [(.slice zG p0.length zH)].toArray w.W fun e W' => e = .returned (iv r) ∧ HF w W' E0
 | 0 => by intros; rename_i H _; cases H
 | N + 1 => zHf N (zAi N) (zFR N)

theorem zGm {w : Bs} (p0 : Int) (r : zCi) (H : zAq p0 = some r) (hE : HF w w.W E0) : Calls Tryz.prog 63 [(iv p0)].toArray w.W fun e W' => e = .returned (.agg #[(.bool r.name), (.bool r.at_), (.bool r.points), (.bool r.repeat_)]) ∧ HF w W' E0 := by
 unfold zAq at H
 have leB := Bs.Le.refl w
 refine Tr.enter (n := 19) Tryz.func63 rfl rfl rfl hE ?_
 refine Tr.sr (Tr.alloc 1 (wn rfl) rfl ze_109 fun QB => ?_)
 refine Tr.nil (Tr.zA (Tr.seq (Tr.sr (Tr.mv rfl rfl (Tr.nil (Tr.zA (Tr.block (Tr.sr (Tr.va rfl (fun _ _ h1 h2 => QY (h1.ev rfl) (h1.ev rfl)) ?_)))))))))
 refine Tr.asg rfl rfl (Tr.nil (Tr.zA (Tr.cond rfl H (fun H => ?_) (fun H => ?_))))
 ·refine Tr.sr (Tr.build (vs := [(0, (.bool true))]) (cs := [(.bool true), (.bool false), (.bool false), (.bool false)]) (wn rfl) rfl (QE rfl Qj) (by kernel_rfl) ?_)
  refine Tr.store 1 (cs := [(.bool true), (.bool false), (.bool false), (.bool false)]) [(.bool true), (.bool false), (.bool false), (.bool false)] (wn rfl) rfl rfl rfl rfl zDR rfl rfl rfl ?_
  refine Tr.nil (Tr.zA (Tr.ret (Tr.zW (Tr.zM ?_))))
  obtain rfl := Option.some.inj H
  exact Tr.out (m := [(.agg #[(.bool true), (.bool false), (.bool false), (.bool false)])]) [1] (Vx rfl rfl ag_109 zDR zR) (fun W hW => ⟨rfl, hW.low leB⟩)
 ·have leJ102 := Bs.Le.refl w
  refine Tr.zFq (σ := Bool) (fun w s => VU p0 s = some r) (fun s => [(2, (.pointer (some ⟨QB, 0, none⟩))), (3, (iv p0)), (7, (.bool s))]) (fun s => [(1, bx QB #[(.bool false), (.bool false), (.bool false), (.bool false)] 109)]) ?_ ?_
  ·refine Tr.sr (Tr.va rfl (fun _ _ h1 h2 => QY (h1.ev rfl) (h1.ev rfl)) ?_)
   refine Tr.asg rfl rfl (Tr.nil (Tr.zA (Tr.cond rfl H (fun H => ?_) (fun H => ?_))))
   ·exact Tr.skip (Tr.zb leJ102 (p0 == 4) H (.cons rfl (.cons rfl (.cons rfl .nil))) (.cons rfl .nil))
   ·refine Tr.sr (Tr.va rfl (fun _ _ h1 h2 => QY (h1.ev rfl) (h1.ev rfl)) ?_)
    refine Tr.asg rfl rfl (Tr.nil (Tr.zA (Tr.cond rfl H (fun H => ?_) (fun H => ?_))))
    ·exact Tr.skip (Tr.zb leJ102 (p0 == 5) H (.cons rfl (.cons rfl (.cons rfl .nil))) (.cons rfl .nil))
    ·refine Tr.region (Tr.va rfl (fun _ _ h1 h2 => QY (h1.ev rfl) (h1.ev rfl)) ?_)
     exact Tr.asg rfl rfl (Tr.nil (Tr.zb leJ102 (p0 == 6) H (.cons rfl (.cons rfl (.cons rfl .nil))) (.cons rfl .nil)))
  ·intro w x101 hlJ103 hs
   have H := hs
   replace H : VU p0 x101 = some r := H
   replace leB := leB.trans hlJ103
   unfold VU at H
   show Tr _ _ (LF [(2, (.pointer (some ⟨QB, 0, none⟩))), (3, (iv p0)), (7, (.bool x101))]) (LE [(1, bx QB #[(.bool false), (.bool false), (.bool false), (.bool false)] 109)]) _
   refine Tr.cond rfl H (fun H => ?_) (fun H => ?_)
   ·refine Tr.sr (Tr.build (vs := [(1, (.bool true))]) (cs := [(.bool false), (.bool true), (.bool false), (.bool false)]) (wn rfl) rfl (QE rfl Qj) (by kernel_rfl) ?_)
    refine Tr.store 1 (cs := [(.bool false), (.bool true), (.bool false), (.bool false)]) [(.bool false), (.bool true), (.bool false), (.bool false)] (wn rfl) rfl rfl rfl rfl zDR rfl rfl rfl ?_
    refine Tr.nil (Tr.zA (Tr.ret (Tr.zW (Tr.zM ?_))))
    obtain rfl := Option.some.inj H
    exact Tr.out (m := [(.agg #[(.bool false), (.bool true), (.bool false), (.bool false)])]) [1] (Vx rfl rfl ag_109 zDR zR) (fun W hW => ⟨rfl, hW.low leB⟩)
   ·refine Tr.sr (Tr.va rfl (fun _ _ h1 h2 => QY (h1.ev rfl) (h1.ev rfl)) ?_)
    refine Tr.asg rfl rfl (Tr.nil (Tr.zA (Tr.cond rfl H (fun H => ?_) (fun H => ?_))))
    ·refine Tr.sr (Tr.build (vs := [(2, (.bool true))]) (cs := [(.bool false), (.bool false), (.bool true), (.bool false)]) (wn rfl) rfl (QE rfl Qj) (by kernel_rfl) ?_)
     refine Tr.store 1 (cs := [(.bool false), (.bool false), (.bool true), (.bool false)]) [(.bool false), (.bool false), (.bool true), (.bool false)] (wn rfl) rfl rfl rfl rfl zDR rfl rfl rfl ?_
     refine Tr.nil (Tr.zA (Tr.ret (Tr.zW (Tr.zM ?_))))
     obtain rfl := Option.some.inj H
     exact Tr.out (m := [(.agg #[(.bool false), (.bool false), (.bool true), (.bool false)])]) [1] (Vx rfl rfl ag_109 zDR zR) (fun W hW => ⟨rfl, hW.low leB⟩)
    ·refine Tr.sr (Tr.va rfl (fun _ _ h1 h2 => QY (h1.ev rfl) (h1.ev rfl)) ?_)
     refine Tr.asg rfl rfl (Tr.nil (Tr.zA (Tr.cond rfl H (fun H => ?_) (fun H => ?_))))
     ·refine Tr.sr (Tr.build (vs := [(1, (.bool true)), (3, (.bool true))]) (cs := [(.bool false), (.bool true), (.bool false), (.bool true)]) (wn rfl) rfl (QE rfl (QE rfl Qj)) (by kernel_rfl) ?_)
      refine Tr.store 1 (cs := [(.bool false), (.bool true), (.bool false), (.bool true)]) [(.bool false), (.bool true), (.bool false), (.bool true)] (wn rfl) rfl rfl rfl rfl zDR rfl rfl rfl ?_
      refine Tr.nil (Tr.zA (Tr.ret (Tr.zW (Tr.zM ?_))))
      obtain rfl := Option.some.inj H
      exact Tr.out (m := [(.agg #[(.bool false), (.bool true), (.bool false), (.bool true)])]) [1] (Vx rfl rfl ag_109 zDR zR) (fun W hW => ⟨rfl, hW.low leB⟩)
     ·refine Tr.skip (Tr.zi (Tr.zA (Tr.sr (Tr.build (vs := []) (cs := [(.bool false), (.bool false), (.bool false), (.bool false)]) (wn rfl) rfl Qj (by kernel_rfl) ?_))))
      refine Tr.store 1 (cs := [(.bool false), (.bool false), (.bool false), (.bool false)]) [(.bool false), (.bool false), (.bool false), (.bool false)] (wn rfl) rfl rfl rfl rfl zDR rfl rfl rfl ?_
      refine Tr.nil (Tr.zA (Tr.ret ?_))
      obtain rfl := Option.some.inj H
      exact Tr.out (m := [(.agg #[(.bool false), (.bool false), (.bool false), (.bool false)])]) [1] (Vx rfl rfl ag_109 zDR zR) (fun W hW => ⟨rfl, hW.low leB⟩)

theorem zGl {w : Bs} (p0 : zt) (zG : Option Addr) (zH : Nat) (ze : Sl w.R w.W KW zG zH p0.Rects) (q0 : ByteArray) (bq0 : Nat) (hb0 : w.R bq0) (hc0 : za w.W bq0 0 [(sv q0)]) (r : Bool) (H : zBg p0 q0 = some r) (hE : HF w w.W E0) : Calls Tryz.prog 91 [(.agg #[(sv p0.Name), (.slice zG p0.Rects.length zH)]), (.pointer (some ⟨bq0, 0, none⟩))].toArray w.W fun e W' => e = .returned (.bool r) ∧ HF w W' E0 := by
 unfold zBg at H
 have leB := Bs.Le.refl w
 refine Tr.enter (n := 8) Tryz.func91 rfl rfl rfl hE ?_
 refine Tr.sr (Tr.box 1 (cs := [(sv p0.Name), (.slice zG p0.Rects.length zH)]) (wn rfl) rfl rfl rfl fun QB => ?_)
 refine Tr.asg rfl rfl (Tr.nil (Tr.zA (Tr.sr (Tr.va rfl (fun _ _ h1 h2 => zB zCA (h1.ev rfl)) ?_))))
 refine Tr.va rfl (fun _ _ h1 h2 => zF zAR (h1.ev rfl) (rdb h2 (vs := [(sv p0.Name), (.slice zG p0.Rects.length zH)]) (k := 1) rfl 0) rfl) ?_
 refine Tr.va rfl (fun _ _ h1 h2 => zF zAR (h1.ev rfl) (rdR hb0 hc0 h2) rfl) ?_
 refine Tr.va rfl (fun _ _ h1 h2 => Qq (h1.ev rfl) (h1.ev rfl)) ?_
 refine Tr.asg rfl rfl (Tr.nil (Tr.zA (Tr.ret ?_)))
 obtain rfl := Option.some.inj H
 exact Tr.out (m := [(.bool (sEq p0.Name q0))]) [] (zJ rfl zR) (fun W hW => ⟨rfl, hW.low leB⟩)

theorem zAx {w : Bs} (p0 : (List zt)) (zG : Option Addr) (zH : Nat) (ze : Sl w.R w.W zQ zG zH p0) (q0 : ByteArray) (bq0 : Nat) (hb0 : w.R bq0) (hc0 : za w.W bq0 0 [(sv q0)]) (r : Int) (H : KC p0 q0 = some r) (hE : HF w w.W E0) : Calls Tryz.prog 90 [(.slice zG p0.length zH), (.func (.func 91) #[] #[(.pointer (some ⟨bq0, 0, none⟩))])].toArray w.W fun e W' => e = .returned (iv r) ∧ HF w W' E0 := by
 unfold KC at H
 have leB := Bs.Le.refl w
 refine Tr.enter (n := 19) Tryz.func90 rfl rfl rfl hE ?_
 refine Tr.sr (Tr.asg rfl rfl (Tr.nil (Tr.zA (Tr.seq (Tr.sr (Tr.mv rfl rfl (Tr.va rfl (fun _ _ h1 h2 => QG zFJ (h1.ev rfl)) ?_)))))))
 refine Tr.mv rfl rfl (Tr.nil (Tr.zA (Tr.block (Tr.loop (σ := (List zt) × Nat) (fun m w s => m = s.1.length + 1 ∧ s.1 = List.drop s.2 p0 ∧ s.2 ≤ p0.length ∧ QP q0 s.1 s.2 = some r) (fun s => [(0, (.slice zG p0.length zH)), (1, (.func (.func 91) #[] #[(.pointer (some ⟨bq0, 0, none⟩))])), (7, (iv (p0.length : Int))), (8, (iv (s.2 : Int)))]) (fun s => []) (p0.length + 1) (p0, 0) ⟨rfl, rfl, Nat.zero_le _, H⟩ (.cons rfl (.cons rfl (.cons rfl (.cons rfl .nil)))) .nil (fun _ _ h => absurd h.1 (by simp)) ?_))))
 intro w Qs m s hs
 obtain ⟨zz, iL1⟩ := s
 obtain ⟨zAe, Qt, hiL1, H⟩ := hs
 replace Qt : zz = List.drop iL1 p0 := Qt
 replace H : QP q0 zz iL1 = some r := H
 replace zAe : m + 1 = zz.length + 1 := zAe
 replace ze := ze.leR Qs
 replace hc0 := Qs.ext.cells hb0 hc0
 replace hb0 := Qs.r _ hb0
 replace leB := leB.trans Qs
 obtain rfl : m = zz.length := by omega
 clear zAe
 show Tr _ _ (LF [(0, (.slice zG p0.length zH)), (1, (.func (.func 91) #[] #[(.pointer (some ⟨bq0, 0, none⟩))])), (7, (iv (p0.length : Int))), (8, (iv (iL1 : Int)))]) (LE []) _
 cases zz with
 | nil =>
  rw [QP.eq_1] at H
  refine Tr.sr (Tr.va rfl (fun _ _ h1 h2 => QV (h1.ev rfl) (h1.ev rfl)) ?_)
  refine Tr.nil (Tr.zA (Tr.seq (Tr.zDV rfl (Wh Qt) ?_)))
  refine Tr.exit (Tr.zx (Tr.zx (Tr.Qd (Tr.zA (Tr.sr (Tr.asg rfl rfl (Tr.nil (Tr.zA (Tr.ret ?_)))))))))
  obtain rfl := Option.some.inj H
  exact Tr.out (m := [(iv (-1))]) [] (zJ rfl zR) (fun W hW => ⟨rfl, hW.low leB⟩)
 | cons xL1 zz =>
  rw [QP.eq_2] at H
  refine Tr.sr (Tr.va rfl (fun _ _ h1 h2 => QV (h1.ev rfl) (h1.ev rfl)) ?_)
  refine Tr.nil (Tr.zA (Tr.seq (Tr.zC7 rfl (zAL Qt) ?_)))
  refine Tr.skip (Tr.zA (Tr.seq (Tr.block (Tr.sr (Tr.mv rfl rfl (Tr.asg rfl rfl (Tr.nil (Tr.zA (Tr.sr (Tr.mv rfl rfl ?_))))))))))
  refine Tr.mv rfl rfl (Tr.mv rfl rfl ?_)
  obtain ⟨u104, hRu104, hoku104, hcu104⟩ := (ze).el (zAM Qt)
  obtain ⟨zBP, zBL⟩ := u104
  have zEO := hoku104
  replace zEO : Sl w.R w.W KW zBP zBL xL1.Rects := zEO
  refine Tr.va rfl (fun _ _ h1 h2 => zN zFm (h1.ev rfl) ze.form (h1.ev rfl) (Int.natCast_nonneg _) (Qz Qt)) ?_
  refine Tr.va rfl (fun _ _ h1 h2 => zu (cs := [(sv xL1.Name), (.slice zBP xL1.Rects.length zBL)]) ag_47 zDo (h1.ev rfl) (za.take (rdR hRu104 hcu104 h2) 2) rfl) ?_
  obtain ⟨y105, hy105, H⟩ := bnd H
  refine Tr.callF (r := (.bool y105)) (wn rfl) rfl rfl Tryz.call91 (zI rfl zT) (fun W hW => zGl xL1 zBP zBL (zEO.ext hW.Qc) q0 bq0 (hW.Qc.r _ hb0) (hW.Qc.cells hb0 hc0) y105 hy105 (HF.start _)) ?_
  refine Tr.nil (Tr.zA (Tr.cond rfl H (fun H => ?_) (fun H => ?_)))
  ·refine Tr.sr (Tr.mv rfl rfl (Tr.asg rfl rfl (Tr.nil (Tr.zA (Tr.ret (Tr.zW (Tr.zM (Tr.zM (Tr.zW (Tr.zM ?_))))))))))
   obtain rfl := Option.some.inj H
   exact Tr.out (m := [(iv (iL1 : Int))]) [] (zJ rfl zR) (fun W hW => ⟨rfl, hW.low leB⟩)
  ·refine Tr.skip (Tr.zi (Tr.zA (Tr.region (Tr.va rfl (fun _ _ h1 h2 => QS (h1.ev rfl) (h1.ev rfl)) ?_))))
   exact Tr.mv rfl rfl (Tr.nil (Tr.zb Qs (zz, (iL1 + 1)) ⟨rfl, VN Qt, Qz Qt, H⟩ (.cons rfl (.cons rfl (.cons rfl (.cons (congrArg (fun z => some (Value.int .i64 z)) (VM Qt ze.form)) .nil)))) .nil))

theorem zIL {w : Bs} (p0 : QN) (zG : Option Addr) (zH : Nat) (ze : Sl w.R w.W zQ zG zH p0.Tools) (zL : Option Addr) (zK : Nat) (KE : Sl w.R w.W zC zL zK p0.Steps) (p1 : ByteArray) (r : Int) (H : zBZ p0 p1 = some r) (hE : HF w w.W E0) : Calls Tryz.prog 64 [(.agg #[(iv p0.Unit), (.slice zG p0.Tools.length zH), (.slice zL p0.Steps.length zK)]), (sv p1)].toArray w.W fun e W' => e = .returned (iv r) ∧ HF w W' E0 := by
 unfold zBZ at H
 have leB := Bs.Le.refl w
 refine Tr.enter (n := 9) Tryz.func64 rfl rfl rfl hE ?_
 refine Tr.sr (Tr.box 1 (cs := [(iv p0.Unit), (.slice zG p0.Tools.length zH), (.slice zL p0.Steps.length zK)]) (wn rfl) rfl rfl rfl fun QB => ?_)
 refine Tr.box 2 (cs := [(sv p1)]) (wn rfl) rfl rfl rfl fun JS => ?_
 refine Tr.asg rfl rfl (Tr.nil (Tr.zA (Tr.sr (Tr.va rfl (fun _ _ h1 h2 => zB Vl (h1.ev rfl)) ?_))))
 refine Tr.va rfl (fun _ _ h1 h2 => zF zBp (h1.ev rfl) (rdb h2 (vs := [(iv p0.Unit), (.slice zG p0.Tools.length zH), (.slice zL p0.Steps.length zK)]) (k := 1) rfl 1) rfl) ?_
 refine Tr.zFg (vs := [(.pointer (some ⟨JS, 0, none⟩))]) (wn rfl) rfl (zI rfl zT) ?_
 obtain ⟨y102, hy102, H⟩ := bnd H
 refine Tr.Qa (r := (iv y102)) (wn rfl) rfl Tryz.call90 (zI rfl (zI rfl zT)) (fun W hW => zAx p0.Tools zG zH (ze.ext hW.Qc) p1 JS (hW.capR (k := 2) rfl) (hW.capC (k := 2) rfl) y102 hy102 (HF.start _)) ?_
 refine Tr.asg rfl rfl (Tr.nil (Tr.zA (Tr.ret ?_)))
 obtain rfl := Option.some.inj H
 exact Tr.out (m := [(iv y102)]) [] (zJ rfl zR) (fun W hW => ⟨rfl, hW.low leB⟩)

theorem zD1 {w : Bs} (p0 : zf) (p1 : Int) (r : Bool) (H : zAT p0 p1 = some r) (hE : HF w w.W E0) : Calls Tryz.prog 65 [(.agg #[(iv p0.X), (iv p0.Y)]), (iv p1)].toArray w.W fun e W' => e = .returned (.bool r) ∧ HF w W' E0 := by
 unfold zAT at H
 have leB := Bs.Le.refl w
 refine Tr.enter (n := 15) Tryz.func65 rfl rfl rfl hE ?_
 refine Tr.sr (Tr.box 1 (cs := [(iv p0.X), (iv p0.Y)]) (wn rfl) rfl rfl rfl fun QB => ?_)
 refine Tr.asg rfl rfl (Tr.nil (Tr.zA (Tr.sr (Tr.va rfl (fun _ _ h1 h2 => zB zE4 (h1.ev rfl)) ?_))))
 refine Tr.va rfl (fun _ _ h1 h2 => zF Qu (h1.ev rfl) (rdb h2 (vs := [(iv p0.X), (iv p0.Y)]) (k := 1) rfl 0) rfl) ?_
 refine Tr.mv rfl rfl ?_
 obtain ⟨y101, hy101, H⟩ := bnd H
 refine Tr.Qa (r := (.bool y101)) (wn rfl) rfl Tryz.call48 (zI rfl (zI rfl zT)) (fun W hW => zAU p0.X p1 y101 hy101 (HF.start _)) ?_
 refine Tr.mv rfl rfl ?_
 obtain ⟨zEB, Wz, H⟩ := bnd H
 refine Tr.Jl 5 [(14, (.bool zEB))] [(1, bx QB #[(iv p0.X), (iv p0.Y)] 52)] ?_ ?_
 ·cases zC6 : y101
  ·rw [zC6] at Wz
   rw [if_neg (by decide)] at Wz
   have H := Wz
   obtain rfl := Option.some.inj H
   refine Tr.pass rfl rfl rfl rfl rfl (by decide) ?_
   refine Tr.pass rfl rfl rfl rfl rfl (by decide) ?_
   refine Tr.pass rfl rfl rfl rfl rfl (by decide) ?_
   refine Tr.pass rfl rfl rfl rfl rfl (by decide) ?_
   refine Tr.va rfl (fun _ _ h1 h2 => zV (h1.ev rfl) (h1.ev rfl)) ?_
   exact Tr.nil (Tr.QI (.cons rfl .nil) (.cons rfl .nil))
  ·rw [zC6] at Wz
   rw [if_pos rfl] at Wz
   have H := Wz
   refine Tr.val (wg rfl rfl rfl) rfl (fun _ _ h1 h2 => zB zE3 (h1.ev rfl)) ?_
   refine Tr.val (wg rfl rfl rfl) rfl (fun _ _ h1 h2 => zF Qu (h1.ev rfl) (rdb h2 (vs := [(iv p0.X), (iv p0.Y)]) (k := 1) rfl 1) rfl) ?_
   refine Tr.val (wg rfl rfl rfl) rfl (fun _ _ h1 h2 => run_move (h1.ev rfl)) ?_
   obtain ⟨y104, hy104, H⟩ := bnd H
   refine Tr.Qa (r := (.bool y104)) (wg rfl rfl rfl) rfl Tryz.call48 (zI rfl (zI rfl zT)) (fun W hW => zAU p0.Y p1 y104 hy104 (HF.start _)) ?_
   refine Tr.va rfl (fun _ _ h1 h2 => zU (h1.ev rfl) (h1.ev rfl)) ?_
   obtain rfl := Option.some.inj H
   exact Tr.nil (Tr.QI (.cons rfl .nil) (.cons rfl .nil))
 ·show Tr _ _ (LF [(14, (.bool zEB))]) (LE [(1, bx QB #[(iv p0.X), (iv p0.Y)] 52)]) _
  refine Tr.asg rfl rfl (Tr.nil (Tr.zA (Tr.ret ?_)))
  obtain rfl := Option.some.inj H
  exact Tr.out (m := [(.bool zEB)]) [] (zJ rfl zR) (fun W hW => ⟨rfl, hW.low leB⟩)

theorem zFU {w : Bs} (p0 : zf) (q0 : QN) (Aq0_0 : Option Addr) (cq0_0 : Nat) (hq0_0 : Sl w.R w.W zQ Aq0_0 cq0_0 q0.Tools) (Aq0_1 : Option Addr) (cq0_1 : Nat) (hq0_1 : Sl w.R w.W zC Aq0_1 cq0_1 q0.Steps) (bq0 : Nat) (hb0 : w.R bq0) (hc0 : za w.W bq0 0 [(iv q0.Unit), (.slice Aq0_0 q0.Tools.length cq0_0), (.slice Aq0_1 q0.Steps.length cq0_1)]) (r : Bool) (H : Ki p0 q0 = some r) (hE : HF w w.W E0) : Calls Tryz.prog 67 [(.agg #[(iv p0.X), (iv p0.Y)]), (.pointer (some ⟨bq0, 0, none⟩))].toArray w.W fun e W' => e = .returned (.bool r) ∧ HF w W' E0 := by
 unfold Ki at H
 have leB := Bs.Le.refl w
 refine Tr.enter (n := 9) Tryz.func67 rfl rfl rfl hE ?_
 refine Tr.sr (Tr.box 1 (cs := [(iv p0.X), (iv p0.Y)]) (wn rfl) rfl rfl rfl fun QB => ?_)
 refine Tr.asg rfl rfl (Tr.nil (Tr.zA (Tr.sr (Tr.va rfl (fun _ _ h1 h2 => zu (cs := [(iv p0.X), (iv p0.Y)]) zBo Wx (h1.ev rfl) (za.take (rdb h2 (vs := [(iv p0.X), (iv p0.Y)]) (k := 1) rfl 0) 2) rfl) ?_))))
 refine Tr.va rfl (fun _ _ h1 h2 => zB zBe (h1.ev rfl)) ?_
 refine Tr.va rfl (fun _ _ h1 h2 => zF Qu (h1.ev rfl) (za.drop (rdR hb0 hc0 h2) 0) rfl) ?_
 obtain ⟨y101, hy101, H⟩ := bnd H
 refine Tr.Qa (r := (.bool y101)) (wn rfl) rfl Tryz.call65 (zI rfl (zI rfl zT)) (fun W hW => zD1 p0 q0.Unit y101 hy101 (HF.start _)) ?_
 refine Tr.va rfl (fun _ _ h1 h2 => Qb (h1.ev rfl)) ?_
 refine Tr.asg rfl rfl (Tr.nil (Tr.zA (Tr.ret ?_)))
 obtain rfl := Option.some.inj H
 exact Tr.out (m := [(.bool (!y101))]) [] (zJ rfl zR) (fun W hW => ⟨rfl, hW.low leB⟩)

theorem zDN {w : Bs} (p0 : (List zf)) (zG : Option Addr) (zH : Nat) (ze : Sl w.R w.W QM zG zH p0) (p1 : zf → Option Bool) (fid1 : Nat) (cap1 : List Value) (hg1 : ∀ args W, (callFunc fid1 args).run Tryz.prog W = .ok (.enter fid1 args) W) (hf1 : ∀ (w' : Bs), w.Ext w' → ∀ (z0 : zf), ∀ y, p1 z0 = some y → Calls Tryz.prog fid1 (([(.agg #[(iv z0.X), (iv z0.Y)])] : List Value) ++ cap1).toArray w'.W fun e W'' => e = .returned (.bool y) ∧ HF w' W'' E0) (r : Int) (H : Vw p0 p1 = some r) (hE : HF w w.W E0) : Calls Tryz.prog 92 [(.slice zG p0.length zH), (.func (.func fid1) #[] cap1.toArray)].toArray w.W fun e W' => e = .returned (iv r) ∧ HF w W' E0 := by
 unfold Vw at H
 have leB := Bs.Le.refl w
 refine Tr.enter (n := 19) Tryz.func92 rfl rfl rfl hE ?_
 refine Tr.sr (Tr.asg rfl rfl (Tr.nil (Tr.zA (Tr.seq (Tr.sr (Tr.mv rfl rfl (Tr.va rfl (fun _ _ h1 h2 => QG zCM (h1.ev rfl)) ?_)))))))
 refine Tr.mv rfl rfl (Tr.nil (Tr.zA (Tr.block (Tr.loop (σ := (List zf) × Nat) (fun m w s => m = s.1.length + 1 ∧ s.1 = List.drop s.2 p0 ∧ s.2 ≤ p0.length ∧ JM p1 s.1 s.2 = some r) (fun s => [(0, (.slice zG p0.length zH)), (1, (.func (.func fid1) #[] cap1.toArray)), (7, (iv (p0.length : Int))), (8, (iv (s.2 : Int)))]) (fun s => []) (p0.length + 1) (p0, 0) ⟨rfl, rfl, Nat.zero_le _, H⟩ (.cons rfl (.cons rfl (.cons rfl (.cons rfl .nil)))) .nil (fun _ _ h => absurd h.1 (by simp)) ?_))))
 intro w Qs m s hs
 obtain ⟨zz, iL1⟩ := s
 obtain ⟨zAe, Qt, hiL1, H⟩ := hs
 replace Qt : zz = List.drop iL1 p0 := Qt
 replace H : JM p1 zz iL1 = some r := H
 replace zAe : m + 1 = zz.length + 1 := zAe
 replace ze := ze.leR Qs
 replace hf1 := fun w' he => hf1 w' (Qs.ext.trans he)
 replace leB := leB.trans Qs
 obtain rfl : m = zz.length := by omega
 clear zAe
 show Tr _ _ (LF [(0, (.slice zG p0.length zH)), (1, (.func (.func fid1) #[] cap1.toArray)), (7, (iv (p0.length : Int))), (8, (iv (iL1 : Int)))]) (LE []) _
 cases zz with
 | nil =>
  rw [JM.eq_1] at H
  refine Tr.sr (Tr.va rfl (fun _ _ h1 h2 => QV (h1.ev rfl) (h1.ev rfl)) ?_)
  refine Tr.nil (Tr.zA (Tr.seq (Tr.zDV rfl (Wh Qt) ?_)))
  refine Tr.exit (Tr.zx (Tr.zx (Tr.Qd (Tr.zA (Tr.sr (Tr.asg rfl rfl (Tr.nil (Tr.zA (Tr.ret ?_)))))))))
  obtain rfl := Option.some.inj H
  exact Tr.out (m := [(iv (-1))]) [] (zJ rfl zR) (fun W hW => ⟨rfl, hW.low leB⟩)
 | cons xL1 zz =>
  rw [JM.eq_2] at H
  refine Tr.sr (Tr.va rfl (fun _ _ h1 h2 => QV (h1.ev rfl) (h1.ev rfl)) ?_)
  refine Tr.nil (Tr.zA (Tr.seq (Tr.zC7 rfl (zAL Qt) ?_)))
  refine Tr.skip (Tr.zA (Tr.seq (Tr.block (Tr.sr (Tr.mv rfl rfl (Tr.asg rfl rfl (Tr.nil (Tr.zA (Tr.sr (Tr.mv rfl rfl ?_))))))))))
  refine Tr.mv rfl rfl (Tr.mv rfl rfl (Tr.va rfl (fun _ _ h1 h2 => zN zHN (h1.ev rfl) ze.form (h1.ev rfl) (Int.natCast_nonneg _) (Qz Qt)) ?_))
  refine Tr.va rfl (fun _ _ h1 h2 => zu (cs := [(iv xL1.X), (iv xL1.Y)]) zBo Wx (h1.ev rfl) (za.take (rdF zBJ ze (zAM Qt) h2) 2) rfl) ?_
  obtain ⟨zk, zEN, H⟩ := bnd H
  refine Tr.callF (r := (.bool zk)) (wn rfl) rfl rfl hg1 (zI rfl zT) (fun W hW => hf1 hW.all hW.Qc xL1 _ zEN) ?_
  refine Tr.nil (Tr.zA (Tr.cond rfl H (fun H => ?_) (fun H => ?_)))
  ·refine Tr.sr (Tr.mv rfl rfl (Tr.asg rfl rfl (Tr.nil (Tr.zA (Tr.ret (Tr.zW (Tr.zM (Tr.zM (Tr.zW (Tr.zM ?_))))))))))
   obtain rfl := Option.some.inj H
   exact Tr.out (m := [(iv (iL1 : Int))]) [] (zJ rfl zR) (fun W hW => ⟨rfl, hW.low leB⟩)
  ·refine Tr.skip (Tr.zi (Tr.zA (Tr.region (Tr.va rfl (fun _ _ h1 h2 => QS (h1.ev rfl) (h1.ev rfl)) ?_))))
   exact Tr.mv rfl rfl (Tr.nil (Tr.zb Qs (zz, (iL1 + 1)) ⟨rfl, VN Qt, Qz Qt, H⟩ (.cons rfl (.cons rfl (.cons rfl (.cons (congrArg (fun z => some (Value.int .i64 z)) (VM Qt ze.form)) .nil)))) .nil))

theorem zCe {w : Bs} (p0 : (List zf)) (zG : Option Addr) (zH : Nat) (ze : Sl w.R w.W QM zG zH p0) (p1 : zf → Option Bool) (fid1 : Nat) (cap1 : List Value) (hg1 : ∀ args W, (callFunc fid1 args).run Tryz.prog W = .ok (.enter fid1 args) W) (hf1 : ∀ (w' : Bs), w.Ext w' → ∀ (z0 : zf), ∀ y, p1 z0 = some y → Calls Tryz.prog fid1 (([(.agg #[(iv z0.X), (iv z0.Y)])] : List Value) ++ cap1).toArray w'.W fun e W'' => e = .returned (.bool y) ∧ HF w' W'' E0) (r : Bool) (H : KX p0 p1 = some r) (hE : HF w w.W E0) : Calls Tryz.prog 66 [(.slice zG p0.length zH), (.func (.func fid1) #[] cap1.toArray)].toArray w.W fun e W' => e = .returned (.bool r) ∧ HF w W' E0 := by
 unfold KX at H
 have leB := Bs.Le.refl w
 refine Tr.enter (n := 9) Tryz.func66 rfl rfl rfl hE ?_
 refine Tr.sr (Tr.asg rfl rfl (Tr.nil (Tr.zA (Tr.sr (Tr.mv rfl rfl (Tr.mv rfl rfl ?_))))))
 obtain ⟨zl, zAO, H⟩ := bnd H
 refine Tr.Qa (r := (iv zl)) (wn rfl) rfl Tryz.call92 (zI rfl (zI rfl zT)) (fun W hW => zDN p0 zG zH (ze.ext hW.Qc) p1 fid1 cap1 hg1 (fun w' he => hf1 w' (hW.Qc.trans he)) zl zAO (HF.start _)) ?_
 refine Tr.va rfl (fun _ _ h1 h2 => zAz (h1.ev rfl) (h1.ev rfl)) ?_
 refine Tr.asg rfl rfl (Tr.nil (Tr.zA (Tr.ret ?_)))
 obtain rfl := Option.some.inj H
 exact Tr.out (m := [(.bool (decide (0 ≤ zl)))]) [] (zJ rfl zR) (fun W hW => ⟨rfl, hW.low leB⟩)

theorem zIK {w : Bs} (p0 : (List zf)) (zG : Option Addr) (zH : Nat) (ze : Sl w.R w.W QM zG zH p0) (r : Bool) (H : zBY p0 = some r) (hE : HF w w.W E0) : Calls Tryz.prog 68 [(.slice zG p0.length zH)].toArray w.W fun e W' => e = .returned (.bool r) ∧ HF w W' E0 := by
 unfold zBY at H
 have leB := Bs.Le.refl w
 refine Tr.enter (n := 36) Tryz.func68 rfl rfl rfl hE ?_
 refine Tr.sr (Tr.asg rfl rfl (Tr.nil (Tr.zA (Tr.seq (Tr.sr (Tr.mv rfl rfl (Tr.va rfl (fun _ _ h1 h2 => QG zCM (h1.ev rfl)) ?_)))))))
 refine Tr.va rfl (fun _ _ h1 h2 => QV (h1.ev rfl) (h1.ev rfl)) ?_
 refine Tr.nil (Tr.zA (Tr.cond rfl H (fun H => ?_) (fun H => ?_)))
 ·refine Tr.sr (Tr.asg rfl rfl (Tr.nil (Tr.zA (Tr.ret (Tr.zM ?_)))))
  obtain rfl := Option.some.inj H
  exact Tr.out (m := [(.bool false)]) [] (zJ rfl zR) (fun W hW => ⟨rfl, hW.low leB⟩)
 ·refine Tr.skip (Tr.zA (Tr.seq (Tr.sr (Tr.mv rfl rfl (Tr.va rfl (fun _ _ h1 h2 => QG zCM (h1.ev rfl)) ?_)))))
  refine Tr.mv rfl rfl (Tr.nil (Tr.zA (Tr.block (Tr.loop (σ := (List zf) × Nat) (fun m w s => m = s.1.length + 1 ∧ s.1 = List.drop s.2 p0 ∧ s.2 ≤ p0.length ∧ VV p0 s.1 s.2 = some r) (fun s => [(0, (.slice zG p0.length zH)), (9, (.slice zG p0.length zH)), (10, (iv (p0.length : Int))), (11, (iv (s.2 : Int)))]) (fun s => []) (p0.length + 1) (p0, 0) ⟨rfl, rfl, Nat.zero_le _, H⟩ (.cons rfl (.cons rfl (.cons rfl (.cons rfl .nil)))) .nil (fun _ _ h => absurd h.1 (by simp)) ?_))))
  intro w Qs m s hs
  obtain ⟨zz, iL1⟩ := s
  obtain ⟨zAe, Qt, hiL1, H⟩ := hs
  replace Qt : zz = List.drop iL1 p0 := Qt
  replace H : VV p0 zz iL1 = some r := H
  replace zAe : m + 1 = zz.length + 1 := zAe
  replace ze := ze.leR Qs
  replace leB := leB.trans Qs
  obtain rfl : m = zz.length := by omega
  clear zAe
  show Tr _ _ (LF [(0, (.slice zG p0.length zH)), (9, (.slice zG p0.length zH)), (10, (iv (p0.length : Int))), (11, (iv (iL1 : Int)))]) (LE []) _
  cases zz with
  | nil =>
   rw [VV.eq_1] at H
   refine Tr.sr (Tr.va rfl (fun _ _ h1 h2 => QV (h1.ev rfl) (h1.ev rfl)) ?_)
   refine Tr.nil (Tr.zA (Tr.seq (Tr.zDV rfl (Wh Qt) ?_)))
   refine Tr.exit (Tr.zx (Tr.zx (Tr.Qd (Tr.zA (Tr.sr (Tr.asg rfl rfl (Tr.nil (Tr.zA (Tr.ret ?_)))))))))
   obtain rfl := Option.some.inj H
   exact Tr.out (m := [(.bool true)]) [] (zJ rfl zR) (fun W hW => ⟨rfl, hW.low leB⟩)
  | cons xL1 zz =>
   rw [VV.eq_2] at H
   refine Tr.sr (Tr.va rfl (fun _ _ h1 h2 => QV (h1.ev rfl) (h1.ev rfl)) ?_)
   refine Tr.nil (Tr.zA (Tr.seq (Tr.zC7 rfl (zAL Qt) ?_)))
   refine Tr.skip (Tr.zA (Tr.seq (Tr.block (Tr.sr (Tr.mv rfl rfl (Tr.va rfl (fun _ _ h1 h2 => zN zHN (h1.ev rfl) ze.form (h1.ev rfl) (Int.natCast_nonneg _) (Qz Qt)) ?_))))))
   refine Tr.va rfl (fun _ _ h1 h2 => zu (cs := [(iv xL1.X), (iv xL1.Y)]) zBo Wx (h1.ev rfl) (za.take (rdF zBJ ze (zAM Qt) h2) 2) rfl) ?_
   refine Tr.alloc 3 (wn rfl) rfl zJQ fun b106 => ?_
   refine Tr.asg rfl rfl (Tr.store 3 (cs := [(iv xL1.X), (iv xL1.Y)]) [(iv xL1.X), (iv xL1.Y)] (wn rfl) rfl rfl rfl rfl Wx rfl rfl rfl ?_)
   refine Tr.nil (Tr.zA (Tr.sr (Tr.mv rfl rfl (Tr.mv rfl rfl (Tr.va rfl (fun _ _ h1 h2 => QS (h1.ev rfl) (h1.ev rfl)) ?_)))))
   refine Tr.mv rfl rfl (Tr.va rfl (fun _ _ h1 h2 => QG zCM (h1.ev rfl)) ?_)
   obtain ⟨q107, hq107, H⟩ := bnd H
   refine Tr.va rfl (fun _ _ h1 h2 => run_md (h1.ev rfl) (h1.ev rfl) hq107) ?_
   obtain ⟨Wm, zHA, H⟩ := bnd H
   obtain ⟨zEz, zEy, zEx⟩ := zw zHA
   refine Tr.va rfl (fun _ _ h1 h2 => zN zHN (h1.ev rfl) ze.form (h1.ev rfl) zEz zEy) ?_
   refine Tr.va rfl (fun _ _ h1 h2 => zu (cs := [(iv Wm.X), (iv Wm.Y)]) zBo Wx (h1.ev rfl) (za.take (rdF zBJ ze zEx h2) 2) rfl) ?_
   refine Tr.alloc 4 (wn rfl) rfl zJQ fun b109 => ?_
   refine Tr.store 4 (cs := [(iv Wm.X), (iv Wm.Y)]) [(iv Wm.X), (iv Wm.Y)] (wn rfl) rfl rfl rfl rfl Wx rfl rfl rfl ?_
   refine Tr.nil (Tr.zA (Tr.sr (Tr.va rfl (fun _ _ h1 h2 => zB zE4 (h1.ev rfl)) ?_)))
   refine Tr.va rfl (fun _ _ h1 h2 => zF Qu (h1.ev rfl) (rdb h2 (vs := [(iv xL1.X), (iv xL1.Y)]) (k := 3) rfl 0) rfl) ?_
   refine Tr.va rfl (fun _ _ h1 h2 => zB zE4 (h1.ev rfl)) ?_
   refine Tr.va rfl (fun _ _ h1 h2 => zF Qu (h1.ev rfl) (rdb h2 (vs := [(iv Wm.X), (iv Wm.Y)]) (k := 4) rfl 0) rfl) ?_
   refine Tr.va rfl (fun _ _ h1 h2 => QY (h1.ev rfl) (h1.ev rfl)) ?_
   refine Tr.va rfl (fun _ _ h1 h2 => zB zE3 (h1.ev rfl)) ?_
   refine Tr.va rfl (fun _ _ h1 h2 => zF Qu (h1.ev rfl) (rdb h2 (vs := [(iv xL1.X), (iv xL1.Y)]) (k := 3) rfl 1) rfl) ?_
   refine Tr.va rfl (fun _ _ h1 h2 => zB zE3 (h1.ev rfl)) ?_
   refine Tr.va rfl (fun _ _ h1 h2 => zF Qu (h1.ev rfl) (rdb h2 (vs := [(iv Wm.X), (iv Wm.Y)]) (k := 4) rfl 1) rfl) ?_
   refine Tr.va rfl (fun _ _ h1 h2 => QY (h1.ev rfl) (h1.ev rfl)) ?_
   refine Tr.va rfl (fun _ _ h1 h2 => run_eqlB un_4 (h1.ev rfl) (h1.ev rfl)) ?_
   refine Tr.nil (Tr.zA (Tr.cond rfl H (fun H => ?_) (fun H => ?_)))
   ·refine Tr.sr (Tr.asg rfl rfl (Tr.nil (Tr.zA (Tr.ret (Tr.zW (Tr.zM (Tr.zM (Tr.zW (Tr.zM ?_)))))))))
    obtain rfl := Option.some.inj H
    exact Tr.out (m := [(.bool false)]) [] (zJ rfl zR) (fun W hW => ⟨rfl, hW.low leB⟩)
   ·refine Tr.skip (Tr.zi (Tr.zA (Tr.region (Tr.va rfl (fun _ _ h1 h2 => QS (h1.ev rfl) (h1.ev rfl)) ?_))))
    exact Tr.mv rfl rfl (Tr.nil (Tr.zb Qs (zz, (iL1 + 1)) ⟨rfl, VN Qt, Qz Qt, H⟩ (.cons rfl (.cons rfl (.cons rfl (.cons (congrArg (fun z => some (Value.int .i64 z)) (VM Qt ze.form)) .nil)))) .nil))

theorem zGF {w : Bs} (p0 : QN) (zG : Option Addr) (zH : Nat) (ze : Sl w.R w.W zQ zG zH p0.Tools) (zL : Option Addr) (zK : Nat) (KE : Sl w.R w.W zC zL zK p0.Steps) (p1 : zD) (zX : Option Addr) (zY : Nat) (Qv : Sl w.R w.W QM zX zY p1.Points) (QL : Option Addr) (QJ : Nat) (zHB : Sl w.R w.W zC QL QJ p1.Steps) (p2 : Int) (r : Int) (H : zAW p0 p1 p2 = some r) (hE : HF w w.W E0) : Calls Tryz.prog 50 [(.agg #[(iv p0.Unit), (.slice zG p0.Tools.length zH), (.slice zL p0.Steps.length zK)]), (.agg #[(iv p1.Kind), (sv p1.Name), (iv p1.At.X), (iv p1.At.Y), (.slice zX p1.Points.length zY), (iv p1.NX), (iv p1.NY), (.slice QL p1.Steps.length QJ)]), (iv p2)].toArray w.W fun e W' => e = .returned (iv r) ∧ HF w W' E0 := by
 unfold zAW at H
 have leB := Bs.Le.refl w
 refine Tr.enter (n := 120) Tryz.func50 rfl rfl rfl hE ?_
 refine Tr.sr (Tr.box 1 (cs := [(iv p0.Unit), (.slice zG p0.Tools.length zH), (.slice zL p0.Steps.length zK)]) (wn rfl) rfl rfl rfl fun QB => ?_)
 refine Tr.box 2 (cs := [(iv p1.Kind), (sv p1.Name), (iv p1.At.X), (iv p1.At.Y), (.slice zX p1.Points.length zY), (iv p1.NX), (iv p1.NY), (.slice QL p1.Steps.length QJ)]) (wn rfl) rfl rfl rfl fun JS => ?_
 refine Tr.asg rfl rfl (Tr.nil (Tr.zA (Tr.seq (Tr.sr (Tr.va rfl (fun _ _ h1 h2 => zB zBd (h1.ev rfl)) ?_)))))
 refine Tr.va rfl (fun _ _ h1 h2 => zF Qu (h1.ev rfl) (rdb h2 (vs := [(iv p1.Kind), (sv p1.Name), (iv p1.At.X), (iv p1.At.Y), (.slice zX p1.Points.length zY), (iv p1.NX), (iv p1.NY), (.slice QL p1.Steps.length QJ)]) (k := 2) rfl 0) rfl) ?_
 obtain ⟨y102, hy102, H⟩ := bnd H
 refine Tr.Qa (r := (.bool y102)) (wn rfl) rfl Tryz.call25 (zI rfl (zI rfl (zI rfl zT))) (fun W hW => Wi p1.Kind 1 8 y102 hy102 (HF.start _)) ?_
 refine Tr.va rfl (fun _ _ h1 h2 => Qb (h1.ev rfl)) ?_
 refine Tr.nil (Tr.zA (Tr.cond rfl H (fun H => ?_) (fun H => ?_)))
 ·refine Tr.sr (Tr.asg rfl rfl (Tr.nil (Tr.zA (Tr.ret (Tr.zM ?_)))))
  obtain rfl := Option.some.inj H
  exact Tr.out (m := [(iv 4)]) [] (zJ rfl zR) (fun W hW => ⟨rfl, hW.low leB⟩)
 ·refine Tr.skip (Tr.zA (Tr.sr (Tr.va rfl (fun _ _ h1 h2 => zB zBd (h1.ev rfl)) ?_)))
  refine Tr.va rfl (fun _ _ h1 h2 => zF Qu (h1.ev rfl) (rdb h2 (vs := [(iv p1.Kind), (sv p1.Name), (iv p1.At.X), (iv p1.At.Y), (.slice zX p1.Points.length zY), (iv p1.NX), (iv p1.NY), (.slice QL p1.Steps.length QJ)]) (k := 2) rfl 0) rfl) ?_
  obtain ⟨zk, zEN, H⟩ := bnd H
  refine Tr.Qa (r := (.agg #[(.bool zk.name), (.bool zk.at_), (.bool zk.points), (.bool zk.repeat_)])) (wn rfl) rfl Tryz.call63 (zI rfl zT) (fun W hW => zGm p1.Kind zk zEN (HF.start _)) ?_
  refine Tr.alloc 3 (wn rfl) rfl ze_109 fun zAH => ?_
  refine Tr.store 3 (cs := [(.bool zk.name), (.bool zk.at_), (.bool zk.points), (.bool zk.repeat_)]) [(.bool zk.name), (.bool zk.at_), (.bool zk.points), (.bool zk.repeat_)] (wn rfl) rfl rfl rfl rfl zDR rfl rfl rfl ?_
  refine Tr.nil (Tr.zA (Tr.seq (Tr.block ?_)))
  have leJ106 := Bs.Le.refl w
  refine Tr.zFq (σ := Bool) (fun w s => Qy p0 p1 p2 zk s = some r) (fun s => [(2, (iv p2)), (3, (.pointer (some ⟨QB, 0, none⟩))), (4, (.pointer (some ⟨JS, 0, none⟩))), (7, (.pointer (some ⟨zAH, 0, none⟩))), (15, (.bool s))]) (fun s => [(1, bx QB #[(iv p0.Unit), (.slice zG p0.Tools.length zH), (.slice zL p0.Steps.length zK)] 25), (2, bx JS #[(iv p1.Kind), (sv p1.Name), (iv p1.At.X), (iv p1.At.Y), (.slice zX p1.Points.length zY), (iv p1.NX), (iv p1.NY), (.slice QL p1.Steps.length QJ)] 80), (3, bx zAH #[(.bool zk.name), (.bool zk.at_), (.bool zk.points), (.bool zk.repeat_)] 109)]) ?_ ?_
  ·refine Tr.sr (Tr.va rfl (fun _ _ h1 h2 => zB fo_109_0 (h1.ev rfl)) ?_)
   refine Tr.va rfl (fun _ _ h1 h2 => zF zFt (h1.ev rfl) (rdb h2 (vs := [(.bool zk.name), (.bool zk.at_), (.bool zk.points), (.bool zk.repeat_)]) (k := 3) rfl 0) rfl) ?_
   refine Tr.va rfl (fun _ _ h1 h2 => Qb (h1.ev rfl)) ?_
   refine Tr.mv rfl rfl (Tr.Jl 4 [(2, (iv p2)), (3, (.pointer (some ⟨QB, 0, none⟩))), (4, (.pointer (some ⟨JS, 0, none⟩))), (7, (.pointer (some ⟨zAH, 0, none⟩))), (23, (.bool ((!zk.name) && (!sEq p1.Name (⟨#[]⟩)))))] [(1, bx QB #[(iv p0.Unit), (.slice zG p0.Tools.length zH), (.slice zL p0.Steps.length zK)] 25), (2, bx JS #[(iv p1.Kind), (sv p1.Name), (iv p1.At.X), (iv p1.At.Y), (.slice zX p1.Points.length zY), (iv p1.NX), (iv p1.NY), (.slice QL p1.Steps.length QJ)] 80), (3, bx zAH #[(.bool zk.name), (.bool zk.at_), (.bool zk.points), (.bool zk.repeat_)] 109)] ?_ ?_)
   ·cases Wy : (!zk.name)
    ·refine Tr.pass rfl rfl rfl rfl rfl (by decide) ?_
     refine Tr.pass rfl rfl rfl rfl rfl (by decide) ?_
     refine Tr.pass rfl rfl rfl rfl rfl (by decide) ?_
     refine Tr.va rfl (fun _ _ h1 h2 => zV (h1.ev rfl) (h1.ev rfl)) ?_
     exact Tr.nil (Tr.QI (.cons rfl (.cons rfl (.cons rfl (.cons rfl (.cons rfl .nil))))) (.cons rfl (.cons rfl (.cons rfl .nil))))
    ·refine Tr.val (wg rfl rfl rfl) rfl (fun _ _ h1 h2 => zB zE1 (h1.ev rfl)) ?_
     refine Tr.val (wg rfl rfl rfl) rfl (fun _ _ h1 h2 => zF zAR (h1.ev rfl) (rdb h2 (vs := [(iv p1.Kind), (sv p1.Name), (iv p1.At.X), (iv p1.At.Y), (.slice zX p1.Points.length zY), (iv p1.NX), (iv p1.NY), (.slice QL p1.Steps.length QJ)]) (k := 2) rfl 1) rfl) ?_
     refine Tr.val (wg rfl rfl rfl) rfl (fun _ _ h1 h2 => zBW (h1.ev rfl) (h1.ev rfl)) ?_
     refine Tr.va rfl (fun _ _ h1 h2 => zU (h1.ev rfl) (h1.ev rfl)) ?_
     exact Tr.nil (Tr.QI (.cons rfl (.cons rfl (.cons rfl (.cons rfl (.cons rfl .nil))))) (.cons rfl (.cons rfl (.cons rfl .nil))))
   ·show Tr _ _ (LF [(2, (iv p2)), (3, (.pointer (some ⟨QB, 0, none⟩))), (4, (.pointer (some ⟨JS, 0, none⟩))), (7, (.pointer (some ⟨zAH, 0, none⟩))), (23, (.bool ((!zk.name) && (!sEq p1.Name (⟨#[]⟩)))))]) (LE [(1, bx QB #[(iv p0.Unit), (.slice zG p0.Tools.length zH), (.slice zL p0.Steps.length zK)] 25), (2, bx JS #[(iv p1.Kind), (sv p1.Name), (iv p1.At.X), (iv p1.At.Y), (.slice zX p1.Points.length zY), (iv p1.NX), (iv p1.NY), (.slice QL p1.Steps.length QJ)] 80), (3, bx zAH #[(.bool zk.name), (.bool zk.at_), (.bool zk.points), (.bool zk.repeat_)] 109)]) _
    refine Tr.asg rfl rfl (Tr.nil (Tr.zA (Tr.cond rfl H (fun H => ?_) (fun H => ?_))))
    ·exact Tr.skip (Tr.zb leJ106 ((!zk.name) && (!sEq p1.Name (⟨#[]⟩))) H (.cons rfl (.cons rfl (.cons rfl (.cons rfl (.cons rfl .nil))))) (.cons rfl (.cons rfl (.cons rfl .nil))))
    ·refine Tr.sr (Tr.va rfl (fun _ _ h1 h2 => zB fo_109_1 (h1.ev rfl)) ?_)
     refine Tr.va rfl (fun _ _ h1 h2 => zF zFt (h1.ev rfl) (rdb h2 (vs := [(.bool zk.name), (.bool zk.at_), (.bool zk.points), (.bool zk.repeat_)]) (k := 3) rfl 1) rfl) ?_
     refine Tr.va rfl (fun _ _ h1 h2 => Qb (h1.ev rfl)) ?_
     refine Tr.mv rfl rfl (Tr.Jl 5 [(2, (iv p2)), (3, (.pointer (some ⟨QB, 0, none⟩))), (4, (.pointer (some ⟨JS, 0, none⟩))), (7, (.pointer (some ⟨zAH, 0, none⟩))), (32, (.bool ((!zk.at_) && (!(JP p1.At (zf.mk 0 0))))))] [(1, bx QB #[(iv p0.Unit), (.slice zG p0.Tools.length zH), (.slice zL p0.Steps.length zK)] 25), (2, bx JS #[(iv p1.Kind), (sv p1.Name), (iv p1.At.X), (iv p1.At.Y), (.slice zX p1.Points.length zY), (iv p1.NX), (iv p1.NY), (.slice QL p1.Steps.length QJ)] 80), (3, bx zAH #[(.bool zk.name), (.bool zk.at_), (.bool zk.points), (.bool zk.repeat_)] 109)] ?_ ?_)
     ·cases Wy : (!zk.at_)
      ·refine Tr.pass rfl rfl rfl rfl rfl (by decide) ?_
       refine Tr.pass rfl rfl rfl rfl rfl (by decide) ?_
       refine Tr.pass rfl rfl rfl rfl rfl (by decide) ?_
       refine Tr.pass rfl rfl rfl rfl rfl (by decide) ?_
       refine Tr.va rfl (fun _ _ h1 h2 => zV (h1.ev rfl) (h1.ev rfl)) ?_
       exact Tr.nil (Tr.QI (.cons rfl (.cons rfl (.cons rfl (.cons rfl (.cons rfl .nil))))) (.cons rfl (.cons rfl (.cons rfl .nil))))
      ·refine Tr.val (wg rfl rfl rfl) rfl (fun _ _ h1 h2 => zB zBH (h1.ev rfl)) ?_
       refine Tr.val (wg rfl rfl rfl) rfl (fun _ _ h1 h2 => zu (cs := [(iv p1.At.X), (iv p1.At.Y)]) zBo Wx (h1.ev rfl) (za.take (rdb h2 (vs := [(iv p1.Kind), (sv p1.Name), (iv p1.At.X), (iv p1.At.Y), (.slice zX p1.Points.length zY), (iv p1.NX), (iv p1.NY), (.slice QL p1.Steps.length QJ)]) (k := 2) rfl 2) 2) rfl) ?_
       refine Tr.build (vs := []) (cs := [(iv 0), (iv 0)]) (wg rfl rfl rfl) rfl Qj (by kernel_rfl) ?_
       refine Tr.val (wg rfl rfl rfl) rfl (fun _ _ h1 h2 => zGa p1.At (zf.mk 0 0) (h1.ev rfl) (h1.ev rfl)) ?_
       refine Tr.va rfl (fun _ _ h1 h2 => zU (h1.ev rfl) (h1.ev rfl)) ?_
       exact Tr.nil (Tr.QI (.cons rfl (.cons rfl (.cons rfl (.cons rfl (.cons rfl .nil))))) (.cons rfl (.cons rfl (.cons rfl .nil))))
     ·show Tr _ _ (LF [(2, (iv p2)), (3, (.pointer (some ⟨QB, 0, none⟩))), (4, (.pointer (some ⟨JS, 0, none⟩))), (7, (.pointer (some ⟨zAH, 0, none⟩))), (32, (.bool ((!zk.at_) && (!(JP p1.At (zf.mk 0 0))))))]) (LE [(1, bx QB #[(iv p0.Unit), (.slice zG p0.Tools.length zH), (.slice zL p0.Steps.length zK)] 25), (2, bx JS #[(iv p1.Kind), (sv p1.Name), (iv p1.At.X), (iv p1.At.Y), (.slice zX p1.Points.length zY), (iv p1.NX), (iv p1.NY), (.slice QL p1.Steps.length QJ)] 80), (3, bx zAH #[(.bool zk.name), (.bool zk.at_), (.bool zk.points), (.bool zk.repeat_)] 109)]) _
      refine Tr.asg rfl rfl (Tr.nil (Tr.zA (Tr.cond rfl H (fun H => ?_) (fun H => ?_))))
      ·exact Tr.skip (Tr.zb leJ106 ((!zk.at_) && (!(JP p1.At (zf.mk 0 0)))) H (.cons rfl (.cons rfl (.cons rfl (.cons rfl (.cons rfl .nil))))) (.cons rfl (.cons rfl (.cons rfl .nil))))
      ·refine Tr.sr (Tr.va rfl (fun _ _ h1 h2 => zB fo_109_2 (h1.ev rfl)) ?_)
       refine Tr.va rfl (fun _ _ h1 h2 => zF zFt (h1.ev rfl) (rdb h2 (vs := [(.bool zk.name), (.bool zk.at_), (.bool zk.points), (.bool zk.repeat_)]) (k := 3) rfl 2) rfl) ?_
       refine Tr.va rfl (fun _ _ h1 h2 => Qb (h1.ev rfl)) ?_
       refine Tr.mv rfl rfl (Tr.Jl 5 [(2, (iv p2)), (3, (.pointer (some ⟨QB, 0, none⟩))), (4, (.pointer (some ⟨JS, 0, none⟩))), (7, (.pointer (some ⟨zAH, 0, none⟩))), (41, (.bool ((!zk.points) && (decide (0 < (p1.Points.length : Int))))))] [(1, bx QB #[(iv p0.Unit), (.slice zG p0.Tools.length zH), (.slice zL p0.Steps.length zK)] 25), (2, bx JS #[(iv p1.Kind), (sv p1.Name), (iv p1.At.X), (iv p1.At.Y), (.slice zX p1.Points.length zY), (iv p1.NX), (iv p1.NY), (.slice QL p1.Steps.length QJ)] 80), (3, bx zAH #[(.bool zk.name), (.bool zk.at_), (.bool zk.points), (.bool zk.repeat_)] 109)] ?_ ?_)
       ·cases Wy : (!zk.points)
        ·refine Tr.pass rfl rfl rfl rfl rfl (by decide) ?_
         refine Tr.pass rfl rfl rfl rfl rfl (by decide) ?_
         refine Tr.pass rfl rfl rfl rfl rfl (by decide) ?_
         refine Tr.pass rfl rfl rfl rfl rfl (by decide) ?_
         refine Tr.va rfl (fun _ _ h1 h2 => zV (h1.ev rfl) (h1.ev rfl)) ?_
         exact Tr.nil (Tr.QI (.cons rfl (.cons rfl (.cons rfl (.cons rfl (.cons rfl .nil))))) (.cons rfl (.cons rfl (.cons rfl .nil))))
        ·refine Tr.val (wg rfl rfl rfl) rfl (fun _ _ h1 h2 => zB zBG (h1.ev rfl)) ?_
         refine Tr.val (wg rfl rfl rfl) rfl (fun _ _ h1 h2 => zF zFs (h1.ev rfl) (rdb h2 (vs := [(iv p1.Kind), (sv p1.Name), (iv p1.At.X), (iv p1.At.Y), (.slice zX p1.Points.length zY), (iv p1.NX), (iv p1.NY), (.slice QL p1.Steps.length QJ)]) (k := 2) rfl 4) rfl) ?_
         refine Tr.val (wg rfl rfl rfl) rfl (fun _ _ h1 h2 => QG zCM (h1.ev rfl)) ?_
         refine Tr.val (wg rfl rfl rfl) rfl (fun _ _ h1 h2 => VR (h1.ev rfl) (h1.ev rfl)) ?_
         refine Tr.va rfl (fun _ _ h1 h2 => zU (h1.ev rfl) (h1.ev rfl)) ?_
         exact Tr.nil (Tr.QI (.cons rfl (.cons rfl (.cons rfl (.cons rfl (.cons rfl .nil))))) (.cons rfl (.cons rfl (.cons rfl .nil))))
       ·show Tr _ _ (LF [(2, (iv p2)), (3, (.pointer (some ⟨QB, 0, none⟩))), (4, (.pointer (some ⟨JS, 0, none⟩))), (7, (.pointer (some ⟨zAH, 0, none⟩))), (41, (.bool ((!zk.points) && (decide (0 < (p1.Points.length : Int))))))]) (LE [(1, bx QB #[(iv p0.Unit), (.slice zG p0.Tools.length zH), (.slice zL p0.Steps.length zK)] 25), (2, bx JS #[(iv p1.Kind), (sv p1.Name), (iv p1.At.X), (iv p1.At.Y), (.slice zX p1.Points.length zY), (iv p1.NX), (iv p1.NY), (.slice QL p1.Steps.length QJ)] 80), (3, bx zAH #[(.bool zk.name), (.bool zk.at_), (.bool zk.points), (.bool zk.repeat_)] 109)]) _
        refine Tr.asg rfl rfl (Tr.nil (Tr.zA (Tr.cond rfl H (fun H => ?_) (fun H => ?_))))
        ·exact Tr.skip (Tr.zb leJ106 ((!zk.points) && (decide (0 < (p1.Points.length : Int)))) H (.cons rfl (.cons rfl (.cons rfl (.cons rfl (.cons rfl .nil))))) (.cons rfl (.cons rfl (.cons rfl .nil))))
        ·refine Tr.region (Tr.va rfl (fun _ _ h1 h2 => zB fo_109_3 (h1.ev rfl)) ?_)
         refine Tr.va rfl (fun _ _ h1 h2 => zF zFt (h1.ev rfl) (rdb h2 (vs := [(.bool zk.name), (.bool zk.at_), (.bool zk.points), (.bool zk.repeat_)]) (k := 3) rfl 3) rfl) ?_
         refine Tr.va rfl (fun _ _ h1 h2 => Qb (h1.ev rfl)) ?_
         refine Tr.mv rfl rfl (Tr.Jl 15 [(2, (iv p2)), (3, (.pointer (some ⟨QB, 0, none⟩))), (4, (.pointer (some ⟨JS, 0, none⟩))), (7, (.pointer (some ⟨zAH, 0, none⟩))), (60, (.bool ((!zk.repeat_) && (((p1.NX != 0) || (p1.NY != 0)) || (decide (0 < (p1.Steps.length : Int)))))))] [(1, bx QB #[(iv p0.Unit), (.slice zG p0.Tools.length zH), (.slice zL p0.Steps.length zK)] 25), (2, bx JS #[(iv p1.Kind), (sv p1.Name), (iv p1.At.X), (iv p1.At.Y), (.slice zX p1.Points.length zY), (iv p1.NX), (iv p1.NY), (.slice QL p1.Steps.length QJ)] 80), (3, bx zAH #[(.bool zk.name), (.bool zk.at_), (.bool zk.points), (.bool zk.repeat_)] 109)] ?_ ?_)
         ·cases Wy : (!zk.repeat_)
          ·refine Tr.pass rfl rfl rfl rfl rfl (by decide) ?_
           refine Tr.pass rfl rfl rfl rfl rfl (by decide) ?_
           refine Tr.pass rfl rfl rfl rfl rfl (by decide) ?_
           refine Tr.pass rfl rfl rfl rfl rfl (by decide) ?_
           refine Tr.QX rfl rfl rfl rfl (by decide) ?_
           refine Tr.QX rfl rfl rfl rfl (by decide) ?_
           refine Tr.QX rfl rfl rfl rfl (by decide) ?_
           refine Tr.pass rfl rfl rfl rfl rfl (by decide) ?_
           refine Tr.pass rfl rfl rfl rfl rfl (by decide) ?_
           refine Tr.QX rfl rfl rfl rfl (by decide) ?_
           refine Tr.QX rfl rfl rfl rfl (by decide) ?_
           refine Tr.QX rfl rfl rfl rfl (by decide) ?_
           refine Tr.QX rfl rfl rfl rfl (by decide) ?_
           refine Tr.pass rfl rfl rfl rfl rfl (by decide) ?_
           refine Tr.va rfl (fun _ _ h1 h2 => zV (h1.ev rfl) (h1.ev rfl)) ?_
           exact Tr.nil (Tr.QI (.cons rfl (.cons rfl (.cons rfl (.cons rfl (.cons rfl .nil))))) (.cons rfl (.cons rfl (.cons rfl .nil))))
          ·refine Tr.val (wg rfl rfl rfl) rfl (fun _ _ h1 h2 => zB zB7 (h1.ev rfl)) ?_
           refine Tr.val (wg rfl rfl rfl) rfl (fun _ _ h1 h2 => zF Qu (h1.ev rfl) (rdb h2 (vs := [(iv p1.Kind), (sv p1.Name), (iv p1.At.X), (iv p1.At.Y), (.slice zX p1.Points.length zY), (iv p1.NX), (iv p1.NY), (.slice QL p1.Steps.length QJ)]) (k := 2) rfl 5) rfl) ?_
           refine Tr.val (wg rfl rfl rfl) rfl (fun _ _ h1 h2 => KV (h1.ev rfl) (h1.ev rfl)) ?_
           refine Tr.val (wg rfl rfl rfl) rfl (fun _ _ h1 h2 => run_move (h1.ev rfl)) ?_
           refine Tr.Jl 4 [(2, (iv p2)), (3, (.pointer (some ⟨QB, 0, none⟩))), (4, (.pointer (some ⟨JS, 0, none⟩))), (7, (.pointer (some ⟨zAH, 0, none⟩))), (45, (.bool true)), (53, (.bool ((p1.NX != 0) || (p1.NY != 0))))] [(1, bx QB #[(iv p0.Unit), (.slice zG p0.Tools.length zH), (.slice zL p0.Steps.length zK)] 25), (2, bx JS #[(iv p1.Kind), (sv p1.Name), (iv p1.At.X), (iv p1.At.Y), (.slice zX p1.Points.length zY), (iv p1.NX), (iv p1.NY), (.slice QL p1.Steps.length QJ)] 80), (3, bx zAH #[(.bool zk.name), (.bool zk.at_), (.bool zk.points), (.bool zk.repeat_)] 109)] ?_ ?_
           ·cases Wy : (p1.NX != 0)
            ·refine Tr.val (wg rfl rfl rfl) rfl (fun _ _ h1 h2 => zB zB6 (h1.ev rfl)) ?_
             refine Tr.val (wg rfl rfl rfl) rfl (fun _ _ h1 h2 => zF Qu (h1.ev rfl) (rdb h2 (vs := [(iv p1.Kind), (sv p1.Name), (iv p1.At.X), (iv p1.At.Y), (.slice zX p1.Points.length zY), (iv p1.NX), (iv p1.NY), (.slice QL p1.Steps.length QJ)]) (k := 2) rfl 6) rfl) ?_
             refine Tr.val (wg rfl rfl rfl) rfl (fun _ _ h1 h2 => KV (h1.ev rfl) (h1.ev rfl)) ?_
             refine Tr.val (wg rfl rfl rfl) rfl (fun _ _ h1 h2 => zV (h1.ev rfl) (h1.ev rfl)) ?_
             exact Tr.nil (Tr.QI (.cons rfl (.cons rfl (.cons rfl (.cons rfl (.cons rfl (.cons rfl .nil)))))) (.cons rfl (.cons rfl (.cons rfl .nil))))
            ·refine Tr.pass rfl rfl rfl rfl rfl (by decide) ?_
             refine Tr.pass rfl rfl rfl rfl rfl (by decide) ?_
             refine Tr.pass rfl rfl rfl rfl rfl (by decide) ?_
             refine Tr.val (wg rfl rfl rfl) rfl (fun _ _ h1 h2 => zU (h1.ev rfl) (h1.ev rfl)) ?_
             exact Tr.nil (Tr.QI (.cons rfl (.cons rfl (.cons rfl (.cons rfl (.cons rfl (.cons rfl .nil)))))) (.cons rfl (.cons rfl (.cons rfl .nil))))
           ·show Tr _ _ (LF [(2, (iv p2)), (3, (.pointer (some ⟨QB, 0, none⟩))), (4, (.pointer (some ⟨JS, 0, none⟩))), (7, (.pointer (some ⟨zAH, 0, none⟩))), (45, (.bool true)), (53, (.bool ((p1.NX != 0) || (p1.NY != 0))))]) (LE [(1, bx QB #[(iv p0.Unit), (.slice zG p0.Tools.length zH), (.slice zL p0.Steps.length zK)] 25), (2, bx JS #[(iv p1.Kind), (sv p1.Name), (iv p1.At.X), (iv p1.At.Y), (.slice zX p1.Points.length zY), (iv p1.NX), (iv p1.NY), (.slice QL p1.Steps.length QJ)] 80), (3, bx zAH #[(.bool zk.name), (.bool zk.at_), (.bool zk.points), (.bool zk.repeat_)] 109)]) _
            refine Tr.val (wg rfl rfl rfl) rfl (fun _ _ h1 h2 => run_move (h1.ev rfl)) ?_
            refine Tr.Jl 5 [(2, (iv p2)), (3, (.pointer (some ⟨QB, 0, none⟩))), (4, (.pointer (some ⟨JS, 0, none⟩))), (7, (.pointer (some ⟨zAH, 0, none⟩))), (45, (.bool true)), (59, (.bool (((p1.NX != 0) || (p1.NY != 0)) || (decide (0 < (p1.Steps.length : Int))))))] [(1, bx QB #[(iv p0.Unit), (.slice zG p0.Tools.length zH), (.slice zL p0.Steps.length zK)] 25), (2, bx JS #[(iv p1.Kind), (sv p1.Name), (iv p1.At.X), (iv p1.At.Y), (.slice zX p1.Points.length zY), (iv p1.NX), (iv p1.NY), (.slice QL p1.Steps.length QJ)] 80), (3, bx zAH #[(.bool zk.name), (.bool zk.at_), (.bool zk.points), (.bool zk.repeat_)] 109)] ?_ ?_
            ·cases Wy : ((p1.NX != 0) || (p1.NY != 0))
             ·refine Tr.val (wg rfl rfl rfl) rfl (fun _ _ h1 h2 => zB zAB (h1.ev rfl)) ?_
              refine Tr.val (wg rfl rfl rfl) rfl (fun _ _ h1 h2 => zF zBR (h1.ev rfl) (rdb h2 (vs := [(iv p1.Kind), (sv p1.Name), (iv p1.At.X), (iv p1.At.Y), (.slice zX p1.Points.length zY), (iv p1.NX), (iv p1.NY), (.slice QL p1.Steps.length QJ)]) (k := 2) rfl 7) rfl) ?_
              refine Tr.val (wg rfl rfl rfl) rfl (fun _ _ h1 h2 => QG zBx (h1.ev rfl)) ?_
              refine Tr.val (wg rfl rfl rfl) rfl (fun _ _ h1 h2 => VR (h1.ev rfl) (h1.ev rfl)) ?_
              refine Tr.val (wg rfl rfl rfl) rfl (fun _ _ h1 h2 => zV (h1.ev rfl) (h1.ev rfl)) ?_
              exact Tr.nil (Tr.QI (.cons rfl (.cons rfl (.cons rfl (.cons rfl (.cons rfl (.cons rfl .nil)))))) (.cons rfl (.cons rfl (.cons rfl .nil))))
             ·refine Tr.pass rfl rfl rfl rfl rfl (by decide) ?_
              refine Tr.pass rfl rfl rfl rfl rfl (by decide) ?_
              refine Tr.pass rfl rfl rfl rfl rfl (by decide) ?_
              refine Tr.pass rfl rfl rfl rfl rfl (by decide) ?_
              refine Tr.val (wg rfl rfl rfl) rfl (fun _ _ h1 h2 => zU (h1.ev rfl) (h1.ev rfl)) ?_
              exact Tr.nil (Tr.QI (.cons rfl (.cons rfl (.cons rfl (.cons rfl (.cons rfl (.cons rfl .nil)))))) (.cons rfl (.cons rfl (.cons rfl .nil))))
            ·show Tr _ _ (LF [(2, (iv p2)), (3, (.pointer (some ⟨QB, 0, none⟩))), (4, (.pointer (some ⟨JS, 0, none⟩))), (7, (.pointer (some ⟨zAH, 0, none⟩))), (45, (.bool true)), (59, (.bool (((p1.NX != 0) || (p1.NY != 0)) || (decide (0 < (p1.Steps.length : Int))))))]) (LE [(1, bx QB #[(iv p0.Unit), (.slice zG p0.Tools.length zH), (.slice zL p0.Steps.length zK)] 25), (2, bx JS #[(iv p1.Kind), (sv p1.Name), (iv p1.At.X), (iv p1.At.Y), (.slice zX p1.Points.length zY), (iv p1.NX), (iv p1.NY), (.slice QL p1.Steps.length QJ)] 80), (3, bx zAH #[(.bool zk.name), (.bool zk.at_), (.bool zk.points), (.bool zk.repeat_)] 109)]) _
             refine Tr.va rfl (fun _ _ h1 h2 => zU (h1.ev rfl) (h1.ev rfl)) ?_
             exact Tr.nil (Tr.QI (.cons rfl (.cons rfl (.cons rfl (.cons rfl (.cons rfl .nil))))) (.cons rfl (.cons rfl (.cons rfl .nil))))
         ·show Tr _ _ (LF [(2, (iv p2)), (3, (.pointer (some ⟨QB, 0, none⟩))), (4, (.pointer (some ⟨JS, 0, none⟩))), (7, (.pointer (some ⟨zAH, 0, none⟩))), (60, (.bool ((!zk.repeat_) && (((p1.NX != 0) || (p1.NY != 0)) || (decide (0 < (p1.Steps.length : Int)))))))]) (LE [(1, bx QB #[(iv p0.Unit), (.slice zG p0.Tools.length zH), (.slice zL p0.Steps.length zK)] 25), (2, bx JS #[(iv p1.Kind), (sv p1.Name), (iv p1.At.X), (iv p1.At.Y), (.slice zX p1.Points.length zY), (iv p1.NX), (iv p1.NY), (.slice QL p1.Steps.length QJ)] 80), (3, bx zAH #[(.bool zk.name), (.bool zk.at_), (.bool zk.points), (.bool zk.repeat_)] 109)]) _
          exact Tr.asg rfl rfl (Tr.nil (Tr.zb leJ106 ((!zk.repeat_) && (((p1.NX != 0) || (p1.NY != 0)) || (decide (0 < (p1.Steps.length : Int))))) H (.cons rfl (.cons rfl (.cons rfl (.cons rfl (.cons rfl .nil))))) (.cons rfl (.cons rfl (.cons rfl .nil)))))
  ·intro w x105 hlJ107 hs
   have H := hs
   replace H : Qy p0 p1 p2 zk x105 = some r := H
   replace ze := ze.leR hlJ107
   replace KE := KE.leR hlJ107
   replace Qv := Qv.leR hlJ107
   replace leB := leB.trans hlJ107
   unfold Qy at H
   show Tr _ _ (LF [(2, (iv p2)), (3, (.pointer (some ⟨QB, 0, none⟩))), (4, (.pointer (some ⟨JS, 0, none⟩))), (7, (.pointer (some ⟨zAH, 0, none⟩))), (15, (.bool x105))]) (LE [(1, bx QB #[(iv p0.Unit), (.slice zG p0.Tools.length zH), (.slice zL p0.Steps.length zK)] 25), (2, bx JS #[(iv p1.Kind), (sv p1.Name), (iv p1.At.X), (iv p1.At.Y), (.slice zX p1.Points.length zY), (iv p1.NX), (iv p1.NY), (.slice QL p1.Steps.length QJ)] 80), (3, bx zAH #[(.bool zk.name), (.bool zk.at_), (.bool zk.points), (.bool zk.repeat_)] 109)]) _
   refine Tr.cond rfl H (fun H => ?_) (fun H => ?_)
   ·refine Tr.sr (Tr.asg rfl rfl (Tr.nil (Tr.zA (Tr.ret (Tr.zW (Tr.zM ?_))))))
    obtain rfl := Option.some.inj H
    exact Tr.out (m := [(iv 3)]) [] (zJ rfl zR) (fun W hW => ⟨rfl, hW.low leB⟩)
   ·refine Tr.sr (Tr.va rfl (fun _ _ h1 h2 => zB fo_109_0 (h1.ev rfl)) ?_)
    refine Tr.va rfl (fun _ _ h1 h2 => zF zFt (h1.ev rfl) (rdb h2 (vs := [(.bool zk.name), (.bool zk.at_), (.bool zk.points), (.bool zk.repeat_)]) (k := 3) rfl 0) rfl) ?_
    refine Tr.mv rfl rfl ?_
    obtain ⟨g109, zBm, H⟩ := bnd H
    refine Tr.Jl 6 [(2, (iv p2)), (3, (.pointer (some ⟨QB, 0, none⟩))), (4, (.pointer (some ⟨JS, 0, none⟩))), (7, (.pointer (some ⟨zAH, 0, none⟩))), (70, (.bool g109))] [(1, bx QB #[(iv p0.Unit), (.slice zG p0.Tools.length zH), (.slice zL p0.Steps.length zK)] 25), (2, bx JS #[(iv p1.Kind), (sv p1.Name), (iv p1.At.X), (iv p1.At.Y), (.slice zX p1.Points.length zY), (iv p1.NX), (iv p1.NY), (.slice QL p1.Steps.length QJ)] 80), (3, bx zAH #[(.bool zk.name), (.bool zk.at_), (.bool zk.points), (.bool zk.repeat_)] 109)] ?_ ?_
    ·cases Wy : zk.name
     ·rw [Wy] at zBm
      rw [if_neg (by decide)] at zBm
      have H := zBm
      obtain rfl := Option.some.inj H
      refine Tr.pass rfl rfl rfl rfl rfl (by decide) ?_
      refine Tr.pass rfl rfl rfl rfl rfl (by decide) ?_
      refine Tr.pass rfl rfl rfl rfl rfl (by decide) ?_
      refine Tr.pass rfl rfl rfl rfl rfl (by decide) ?_
      refine Tr.pass rfl rfl rfl rfl rfl (by decide) ?_
      refine Tr.va rfl (fun _ _ h1 h2 => zV (h1.ev rfl) (h1.ev rfl)) ?_
      exact Tr.nil (Tr.QI (.cons rfl (.cons rfl (.cons rfl (.cons rfl (.cons rfl .nil))))) (.cons rfl (.cons rfl (.cons rfl .nil))))
     ·rw [Wy] at zBm
      rw [if_pos rfl] at zBm
      have H := zBm
      refine Tr.val (wg rfl rfl rfl) rfl (fun _ _ h1 h2 => zu (cs := [(iv p0.Unit), (.slice zG p0.Tools.length zH), (.slice zL p0.Steps.length zK)]) WY Kb (h1.ev rfl) (za.take (rdb h2 (vs := [(iv p0.Unit), (.slice zG p0.Tools.length zH), (.slice zL p0.Steps.length zK)]) (k := 1) rfl 0) 3) rfl) ?_
      refine Tr.val (wg rfl rfl rfl) rfl (fun _ _ h1 h2 => zB zE1 (h1.ev rfl)) ?_
      refine Tr.val (wg rfl rfl rfl) rfl (fun _ _ h1 h2 => zF zAR (h1.ev rfl) (rdb h2 (vs := [(iv p1.Kind), (sv p1.Name), (iv p1.At.X), (iv p1.At.Y), (.slice zX p1.Points.length zY), (iv p1.NX), (iv p1.NY), (.slice QL p1.Steps.length QJ)]) (k := 2) rfl 1) rfl) ?_
      obtain ⟨zCI, hy110, H⟩ := bnd H
      refine Tr.Qa (r := (iv zCI)) (wg rfl rfl rfl) rfl Tryz.call64 (zI rfl (zI rfl zT)) (fun W hW => zIL p0 zG zH (ze.ext hW.Qc) zL zK (KE.ext hW.Qc) p1.Name zCI hy110 (HF.start _)) ?_
      refine Tr.val (wg rfl rfl rfl) rfl (fun _ _ h1 h2 => QV (h1.ev rfl) (h1.ev rfl)) ?_
      refine Tr.va rfl (fun _ _ h1 h2 => zU (h1.ev rfl) (h1.ev rfl)) ?_
      obtain rfl := Option.some.inj H
      exact Tr.nil (Tr.QI (.cons rfl (.cons rfl (.cons rfl (.cons rfl (.cons rfl .nil))))) (.cons rfl (.cons rfl (.cons rfl .nil))))
    ·show Tr _ _ (LF [(2, (iv p2)), (3, (.pointer (some ⟨QB, 0, none⟩))), (4, (.pointer (some ⟨JS, 0, none⟩))), (7, (.pointer (some ⟨zAH, 0, none⟩))), (70, (.bool g109))]) (LE [(1, bx QB #[(iv p0.Unit), (.slice zG p0.Tools.length zH), (.slice zL p0.Steps.length zK)] 25), (2, bx JS #[(iv p1.Kind), (sv p1.Name), (iv p1.At.X), (iv p1.At.Y), (.slice zX p1.Points.length zY), (iv p1.NX), (iv p1.NY), (.slice QL p1.Steps.length QJ)] 80), (3, bx zAH #[(.bool zk.name), (.bool zk.at_), (.bool zk.points), (.bool zk.repeat_)] 109)]) _
     refine Tr.asg rfl rfl (Tr.nil (Tr.zA (Tr.cond rfl H (fun H => ?_) (fun H => ?_))))
     ·refine Tr.sr (Tr.asg rfl rfl (Tr.nil (Tr.zA (Tr.ret (Tr.zW (Tr.zM ?_))))))
      obtain rfl := Option.some.inj H
      exact Tr.out (m := [(iv 5)]) [] (zJ rfl zR) (fun W hW => ⟨rfl, hW.low leB⟩)
     ·refine Tr.sr (Tr.va rfl (fun _ _ h1 h2 => zB zBH (h1.ev rfl)) ?_)
      refine Tr.va rfl (fun _ _ h1 h2 => zu (cs := [(iv p1.At.X), (iv p1.At.Y)]) zBo Wx (h1.ev rfl) (za.take (rdb h2 (vs := [(iv p1.Kind), (sv p1.Name), (iv p1.At.X), (iv p1.At.Y), (.slice zX p1.Points.length zY), (iv p1.NX), (iv p1.NY), (.slice QL p1.Steps.length QJ)]) (k := 2) rfl 2) 2) rfl) ?_
      refine Tr.va rfl (fun _ _ h1 h2 => zB zBe (h1.ev rfl)) ?_
      refine Tr.va rfl (fun _ _ h1 h2 => zF Qu (h1.ev rfl) (rdb h2 (vs := [(iv p0.Unit), (.slice zG p0.Tools.length zH), (.slice zL p0.Steps.length zK)]) (k := 1) rfl 0) rfl) ?_
      obtain ⟨VQ, hy111, H⟩ := bnd H
      refine Tr.Qa (r := (.bool VQ)) (wn rfl) rfl Tryz.call65 (zI rfl (zI rfl zT)) (fun W hW => zD1 p1.At p0.Unit VQ hy111 (HF.start _)) ?_
      refine Tr.va rfl (fun _ _ h1 h2 => Qb (h1.ev rfl)) ?_
      refine Tr.mv rfl rfl ?_
      obtain ⟨g113, hg113, H⟩ := bnd H
      refine Tr.Jl 5 [(2, (iv p2)), (4, (.pointer (some ⟨JS, 0, none⟩))), (7, (.pointer (some ⟨zAH, 0, none⟩))), (83, (.bool g113))] [(1, bx QB #[(iv p0.Unit), (.slice zG p0.Tools.length zH), (.slice zL p0.Steps.length zK)] 25), (2, bx JS #[(iv p1.Kind), (sv p1.Name), (iv p1.At.X), (iv p1.At.Y), (.slice zX p1.Points.length zY), (iv p1.NX), (iv p1.NY), (.slice QL p1.Steps.length QJ)] 80), (3, bx zAH #[(.bool zk.name), (.bool zk.at_), (.bool zk.points), (.bool zk.repeat_)] 109)] ?_ ?_
      ·cases Wy : (!VQ)
       ·rw [Wy] at hg113
        rw [if_neg (by decide)] at hg113
        have H := hg113
        refine Tr.val (wg rfl rfl rfl) rfl (fun _ _ h1 h2 => zB zBG (h1.ev rfl)) ?_
        refine Tr.val (wg rfl rfl rfl) rfl (fun _ _ h1 h2 => zF zFs (h1.ev rfl) (rdb h2 (vs := [(iv p1.Kind), (sv p1.Name), (iv p1.At.X), (iv p1.At.Y), (.slice zX p1.Points.length zY), (iv p1.NX), (iv p1.NY), (.slice QL p1.Steps.length QJ)]) (k := 2) rfl 4) rfl) ?_
        refine Tr.zFg (vs := [(.pointer (some ⟨QB, 0, none⟩))]) (wg rfl rfl rfl) rfl (zI rfl zT) ?_
        obtain ⟨y114, hy114, H⟩ := bnd H
        refine Tr.Qa (r := (.bool y114)) (wg rfl rfl rfl) rfl Tryz.call66 (zI rfl (zI rfl zT)) (fun W hW => zCe p1.Points zX zY (Qv.ext hW.Qc) (fun z0 => Ki z0 p0) 67 [(.pointer (some ⟨QB, 0, none⟩))] Tryz.call67 (fun w' he z0 y hy => zFU z0 p0 zG zH (ze.ext (hW.Qc.trans he)) zL zK (KE.ext (hW.Qc.trans he)) QB (he.r _ (hW.capR (k := 1) rfl)) (he.cells (hW.capR (k := 1) rfl) (hW.capC (k := 1) rfl)) y hy (HF.start _)) y114 hy114 (HF.start _)) ?_
        refine Tr.va rfl (fun _ _ h1 h2 => zV (h1.ev rfl) (h1.ev rfl)) ?_
        obtain rfl := Option.some.inj H
        exact Tr.nil (Tr.QI (.cons rfl (.cons rfl (.cons rfl (.cons rfl .nil)))) (.cons rfl (.cons rfl (.cons rfl .nil))))
       ·rw [Wy] at hg113
        rw [if_pos rfl] at hg113
        have H := hg113
        obtain rfl := Option.some.inj H
        refine Tr.pass rfl rfl rfl rfl rfl (by decide) ?_
        refine Tr.pass rfl rfl rfl rfl rfl (by decide) ?_
        refine Tr.pass rfl rfl rfl rfl rfl (by decide) ?_
        refine Tr.pass rfl rfl rfl rfl rfl (by decide) ?_
        refine Tr.va rfl (fun _ _ h1 h2 => zU (h1.ev rfl) (h1.ev rfl)) ?_
        exact Tr.nil (Tr.QI (.cons rfl (.cons rfl (.cons rfl (.cons rfl .nil)))) (.cons rfl (.cons rfl (.cons rfl .nil))))
      ·show Tr _ _ (LF [(2, (iv p2)), (4, (.pointer (some ⟨JS, 0, none⟩))), (7, (.pointer (some ⟨zAH, 0, none⟩))), (83, (.bool g113))]) (LE [(1, bx QB #[(iv p0.Unit), (.slice zG p0.Tools.length zH), (.slice zL p0.Steps.length zK)] 25), (2, bx JS #[(iv p1.Kind), (sv p1.Name), (iv p1.At.X), (iv p1.At.Y), (.slice zX p1.Points.length zY), (iv p1.NX), (iv p1.NY), (.slice QL p1.Steps.length QJ)] 80), (3, bx zAH #[(.bool zk.name), (.bool zk.at_), (.bool zk.points), (.bool zk.repeat_)] 109)]) _
       refine Tr.asg rfl rfl (Tr.nil (Tr.zA (Tr.cond rfl H (fun H => ?_) (fun H => ?_))))
       ·refine Tr.sr (Tr.asg rfl rfl (Tr.nil (Tr.zA (Tr.ret (Tr.zW (Tr.zM ?_))))))
        obtain rfl := Option.some.inj H
        exact Tr.out (m := [(iv 1)]) [] (zJ rfl zR) (fun W hW => ⟨rfl, hW.low leB⟩)
       ·refine Tr.sr (Tr.va rfl (fun _ _ h1 h2 => zB zBG (h1.ev rfl)) ?_)
        refine Tr.va rfl (fun _ _ h1 h2 => zF zFs (h1.ev rfl) (rdb h2 (vs := [(iv p1.Kind), (sv p1.Name), (iv p1.At.X), (iv p1.At.Y), (.slice zX p1.Points.length zY), (iv p1.NX), (iv p1.NY), (.slice QL p1.Steps.length QJ)]) (k := 2) rfl 4) rfl) ?_
        refine Tr.va rfl (fun _ _ h1 h2 => QG zCM (h1.ev rfl)) ?_
        refine Tr.va rfl (fun _ _ h1 h2 => VR (h1.ev rfl) (h1.ev rfl)) ?_
        refine Tr.asg rfl rfl (Tr.nil (Tr.zA (Tr.cond rfl H (fun H => ?_) (fun H => ?_))))
        ·refine Tr.sr (Tr.asg rfl rfl (Tr.nil (Tr.zA (Tr.ret (Tr.zW (Tr.zM ?_))))))
         obtain rfl := Option.some.inj H
         exact Tr.out (m := [(iv 2)]) [] (zJ rfl zR) (fun W hW => ⟨rfl, hW.low leB⟩)
        ·refine Tr.sr (Tr.va rfl (fun _ _ h1 h2 => zB fo_109_2 (h1.ev rfl)) ?_)
         refine Tr.va rfl (fun _ _ h1 h2 => zF zFt (h1.ev rfl) (rdb h2 (vs := [(.bool zk.name), (.bool zk.at_), (.bool zk.points), (.bool zk.repeat_)]) (k := 3) rfl 2) rfl) ?_
         refine Tr.mv rfl rfl ?_
         obtain ⟨g116, hg116, H⟩ := bnd H
         refine Tr.Jl 5 [(2, (iv p2)), (4, (.pointer (some ⟨JS, 0, none⟩))), (7, (.pointer (some ⟨zAH, 0, none⟩))), (97, (.bool g116))] [(1, bx QB #[(iv p0.Unit), (.slice zG p0.Tools.length zH), (.slice zL p0.Steps.length zK)] 25), (2, bx JS #[(iv p1.Kind), (sv p1.Name), (iv p1.At.X), (iv p1.At.Y), (.slice zX p1.Points.length zY), (iv p1.NX), (iv p1.NY), (.slice QL p1.Steps.length QJ)] 80), (3, bx zAH #[(.bool zk.name), (.bool zk.at_), (.bool zk.points), (.bool zk.repeat_)] 109)] ?_ ?_
         ·cases Wy : zk.points
          ·rw [Wy] at hg116
           rw [if_neg (by decide)] at hg116
           have H := hg116
           obtain rfl := Option.some.inj H
           refine Tr.pass rfl rfl rfl rfl rfl (by decide) ?_
           refine Tr.pass rfl rfl rfl rfl rfl (by decide) ?_
           refine Tr.pass rfl rfl rfl rfl rfl (by decide) ?_
           refine Tr.pass rfl rfl rfl rfl rfl (by decide) ?_
           refine Tr.va rfl (fun _ _ h1 h2 => zV (h1.ev rfl) (h1.ev rfl)) ?_
           exact Tr.nil (Tr.QI (.cons rfl (.cons rfl (.cons rfl (.cons rfl .nil)))) (.cons rfl (.cons rfl (.cons rfl .nil))))
          ·rw [Wy] at hg116
           rw [if_pos rfl] at hg116
           have H := hg116
           refine Tr.val (wg rfl rfl rfl) rfl (fun _ _ h1 h2 => zB zBG (h1.ev rfl)) ?_
           refine Tr.val (wg rfl rfl rfl) rfl (fun _ _ h1 h2 => zF zFs (h1.ev rfl) (rdb h2 (vs := [(iv p1.Kind), (sv p1.Name), (iv p1.At.X), (iv p1.At.Y), (.slice zX p1.Points.length zY), (iv p1.NX), (iv p1.NY), (.slice QL p1.Steps.length QJ)]) (k := 2) rfl 4) rfl) ?_
           obtain ⟨zGA, hy117, H⟩ := bnd H
           refine Tr.Qa (r := (.bool zGA)) (wg rfl rfl rfl) rfl Tryz.call68 (zI rfl zT) (fun W hW => zIK p1.Points zX zY (Qv.ext hW.Qc) zGA hy117 (HF.start _)) ?_
           refine Tr.val (wg rfl rfl rfl) rfl (fun _ _ h1 h2 => Qb (h1.ev rfl)) ?_
           refine Tr.va rfl (fun _ _ h1 h2 => zU (h1.ev rfl) (h1.ev rfl)) ?_
           obtain rfl := Option.some.inj H
           exact Tr.nil (Tr.QI (.cons rfl (.cons rfl (.cons rfl (.cons rfl .nil)))) (.cons rfl (.cons rfl (.cons rfl .nil))))
         ·show Tr _ _ (LF [(2, (iv p2)), (4, (.pointer (some ⟨JS, 0, none⟩))), (7, (.pointer (some ⟨zAH, 0, none⟩))), (97, (.bool g116))]) (LE [(1, bx QB #[(iv p0.Unit), (.slice zG p0.Tools.length zH), (.slice zL p0.Steps.length zK)] 25), (2, bx JS #[(iv p1.Kind), (sv p1.Name), (iv p1.At.X), (iv p1.At.Y), (.slice zX p1.Points.length zY), (iv p1.NX), (iv p1.NY), (.slice QL p1.Steps.length QJ)] 80), (3, bx zAH #[(.bool zk.name), (.bool zk.at_), (.bool zk.points), (.bool zk.repeat_)] 109)]) _
          refine Tr.asg rfl rfl (Tr.nil (Tr.zA (Tr.cond rfl H (fun H => ?_) (fun H => ?_))))
          ·refine Tr.sr (Tr.asg rfl rfl (Tr.nil (Tr.zA (Tr.ret (Tr.zW (Tr.zM ?_))))))
           obtain rfl := Option.some.inj H
           exact Tr.out (m := [(iv 3)]) [] (zJ rfl zR) (fun W hW => ⟨rfl, hW.low leB⟩)
          ·refine Tr.skip (Tr.zi (Tr.zA (Tr.seq (Tr.sr (Tr.va rfl (fun _ _ h1 h2 => zB fo_109_3 (h1.ev rfl)) ?_)))))
           refine Tr.va rfl (fun _ _ h1 h2 => zF zFt (h1.ev rfl) (rdb h2 (vs := [(.bool zk.name), (.bool zk.at_), (.bool zk.points), (.bool zk.repeat_)]) (k := 3) rfl 3) rfl) ?_
           refine Tr.va rfl (fun _ _ h1 h2 => Qb (h1.ev rfl)) ?_
           refine Tr.nil (Tr.zA (Tr.cond rfl H (fun H => ?_) (fun H => ?_)))
           ·refine Tr.sr (Tr.asg rfl rfl (Tr.nil (Tr.zA (Tr.ret (Tr.zM ?_)))))
            obtain rfl := Option.some.inj H
            exact Tr.out (m := [(iv 0)]) [] (zJ rfl zR) (fun W hW => ⟨rfl, hW.low leB⟩)
           ·refine Tr.skip (Tr.zA (Tr.seq (Tr.block (Tr.sr (Tr.va rfl (fun _ _ h1 h2 => zB zB7 (h1.ev rfl)) ?_)))))
            refine Tr.va rfl (fun _ _ h1 h2 => zF Qu (h1.ev rfl) (rdb h2 (vs := [(iv p1.Kind), (sv p1.Name), (iv p1.At.X), (iv p1.At.Y), (.slice zX p1.Points.length zY), (iv p1.NX), (iv p1.NY), (.slice QL p1.Steps.length QJ)]) (k := 2) rfl 5) rfl) ?_
            obtain ⟨y118, hy118, H⟩ := bnd H
            refine Tr.Qa (r := (.bool y118)) (wn rfl) rfl Tryz.call25 (zI rfl (zI rfl (zI rfl zT))) (fun W hW => Wi p1.NX 1 100 y118 hy118 (HF.start _)) ?_
            refine Tr.va rfl (fun _ _ h1 h2 => Qb (h1.ev rfl)) ?_
            refine Tr.mv rfl rfl ?_
            obtain ⟨g120, zHG, H⟩ := bnd H
            refine Tr.Jl 5 [(2, (iv p2)), (4, (.pointer (some ⟨JS, 0, none⟩))), (111, (.bool g120))] [(1, bx QB #[(iv p0.Unit), (.slice zG p0.Tools.length zH), (.slice zL p0.Steps.length zK)] 25), (2, bx JS #[(iv p1.Kind), (sv p1.Name), (iv p1.At.X), (iv p1.At.Y), (.slice zX p1.Points.length zY), (iv p1.NX), (iv p1.NY), (.slice QL p1.Steps.length QJ)] 80), (3, bx zAH #[(.bool zk.name), (.bool zk.at_), (.bool zk.points), (.bool zk.repeat_)] 109)] ?_ ?_
            ·cases Wy : (!y118)
             ·rw [Wy] at zHG
              rw [if_neg (by decide)] at zHG
              have H := zHG
              refine Tr.val (wg rfl rfl rfl) rfl (fun _ _ h1 h2 => zB zB6 (h1.ev rfl)) ?_
              refine Tr.val (wg rfl rfl rfl) rfl (fun _ _ h1 h2 => zF Qu (h1.ev rfl) (rdb h2 (vs := [(iv p1.Kind), (sv p1.Name), (iv p1.At.X), (iv p1.At.Y), (.slice zX p1.Points.length zY), (iv p1.NX), (iv p1.NY), (.slice QL p1.Steps.length QJ)]) (k := 2) rfl 6) rfl) ?_
              obtain ⟨y121, hy121, H⟩ := bnd H
              refine Tr.Qa (r := (.bool y121)) (wg rfl rfl rfl) rfl Tryz.call25 (zI rfl (zI rfl (zI rfl zT))) (fun W hW => Wi p1.NY 1 100 y121 hy121 (HF.start _)) ?_
              refine Tr.val (wg rfl rfl rfl) rfl (fun _ _ h1 h2 => Qb (h1.ev rfl)) ?_
              refine Tr.va rfl (fun _ _ h1 h2 => zV (h1.ev rfl) (h1.ev rfl)) ?_
              obtain rfl := Option.some.inj H
              exact Tr.nil (Tr.QI (.cons rfl (.cons rfl (.cons rfl .nil))) (.cons rfl (.cons rfl (.cons rfl .nil))))
             ·rw [Wy] at zHG
              rw [if_pos rfl] at zHG
              have H := zHG
              obtain rfl := Option.some.inj H
              refine Tr.pass rfl rfl rfl rfl rfl (by decide) ?_
              refine Tr.pass rfl rfl rfl rfl rfl (by decide) ?_
              refine Tr.pass rfl rfl rfl rfl rfl (by decide) ?_
              refine Tr.pass rfl rfl rfl rfl rfl (by decide) ?_
              refine Tr.va rfl (fun _ _ h1 h2 => zU (h1.ev rfl) (h1.ev rfl)) ?_
              exact Tr.nil (Tr.QI (.cons rfl (.cons rfl (.cons rfl .nil))) (.cons rfl (.cons rfl (.cons rfl .nil))))
            ·show Tr _ _ (LF [(2, (iv p2)), (4, (.pointer (some ⟨JS, 0, none⟩))), (111, (.bool g120))]) (LE [(1, bx QB #[(iv p0.Unit), (.slice zG p0.Tools.length zH), (.slice zL p0.Steps.length zK)] 25), (2, bx JS #[(iv p1.Kind), (sv p1.Name), (iv p1.At.X), (iv p1.At.Y), (.slice zX p1.Points.length zY), (iv p1.NX), (iv p1.NY), (.slice QL p1.Steps.length QJ)] 80), (3, bx zAH #[(.bool zk.name), (.bool zk.at_), (.bool zk.points), (.bool zk.repeat_)] 109)]) _
             refine Tr.asg rfl rfl (Tr.nil (Tr.zA (Tr.cond rfl H (fun H => ?_) (fun H => ?_))))
             ·refine Tr.sr (Tr.asg rfl rfl (Tr.nil (Tr.zA (Tr.ret (Tr.zW (Tr.zM ?_))))))
              obtain rfl := Option.some.inj H
              exact Tr.out (m := [(iv 1)]) [] (zJ rfl zR) (fun W hW => ⟨rfl, hW.low leB⟩)
             ·refine Tr.sr (Tr.va rfl (fun _ _ h1 h2 => zB zAB (h1.ev rfl)) ?_)
              refine Tr.va rfl (fun _ _ h1 h2 => zF zBR (h1.ev rfl) (rdb h2 (vs := [(iv p1.Kind), (sv p1.Name), (iv p1.At.X), (iv p1.At.Y), (.slice zX p1.Points.length zY), (iv p1.NX), (iv p1.NY), (.slice QL p1.Steps.length QJ)]) (k := 2) rfl 7) rfl) ?_
              refine Tr.va rfl (fun _ _ h1 h2 => QG zBx (h1.ev rfl)) ?_
              refine Tr.va rfl (fun _ _ h1 h2 => QY (h1.ev rfl) (h1.ev rfl)) ?_
              refine Tr.asg rfl rfl (Tr.nil (Tr.zA (Tr.cond rfl H (fun H => ?_) (fun H => ?_))))
              ·refine Tr.sr (Tr.asg rfl rfl (Tr.nil (Tr.zA (Tr.ret (Tr.zW (Tr.zM ?_))))))
               obtain rfl := Option.some.inj H
               exact Tr.out (m := [(iv 9)]) [] (zJ rfl zR) (fun W hW => ⟨rfl, hW.low leB⟩)
              ·refine Tr.sr (Tr.mv rfl rfl (Tr.va rfl (fun _ _ h1 h2 => zAz (h1.ev rfl) (h1.ev rfl)) ?_))
               refine Tr.asg rfl rfl (Tr.nil (Tr.zA (Tr.cond rfl H (fun H => ?_) (fun H => ?_))))
               ·refine Tr.sr (Tr.asg rfl rfl (Tr.nil (Tr.zA (Tr.ret (Tr.zW (Tr.zM ?_))))))
                obtain rfl := Option.some.inj H
                exact Tr.out (m := [(iv 2)]) [] (zJ rfl zR) (fun W hW => ⟨rfl, hW.low leB⟩)
               ·refine Tr.skip (Tr.zi (Tr.zA (Tr.sr (Tr.asg rfl rfl (Tr.nil (Tr.zA (Tr.ret ?_)))))))
                obtain rfl := Option.some.inj H
                exact Tr.out (m := [(iv 0)]) [] (zJ rfl zR) (fun W hW => ⟨rfl, hW.low leB⟩)

theorem zFF (N : Nat) (rec : QN → (List zD) → Int → Option Int) (hrec : ∀ {w : Bs} (p0 : QN) (zG : Option Addr) (zH : Nat) (ze : Sl w.R w.W zQ zG zH p0.Tools) (zL : Option Addr) (zK : Nat) (KE : Sl w.R w.W zC zL zK p0.Steps) (p1 : (List zD)) (zX : Option Addr) (zY : Nat) (Qv : Sl w.R w.W zC zX zY p1) (p2 : Int) (r : Int) (H : rec p0 p1 p2 = some r) (hE : HF w w.W E0), Calls Tryz.prog 28 [(.agg #[(iv p0.Unit), (.slice zG p0.Tools.length zH), (.slice zL p0.Steps.length zK)]), (.slice zX p1.length zY), (iv p2)].toArray w.W fun e W' => e = .returned (iv r) ∧ HF w W' E0) {w : Bs} (p0 : QN) (zG : Option Addr) (zH : Nat) (ze : Sl w.R w.W zQ zG zH p0.Tools) (zL : Option Addr) (zK : Nat) (KE : Sl w.R w.W zC zL zK p0.Steps) (p1 : (List zD)) (zX : Option Addr) (zY : Nat) (Qv : Sl w.R w.W zC zX zY p1) (p2 : Int) (r : Int) (H : zBV N rec p0 p1 p2 = some r) (hE : HF w w.W E0) : Calls Tryz.prog 28 [(.agg #[(iv p0.Unit), (.slice zG p0.Tools.length zH), (.slice zL p0.Steps.length zK)]), (.slice zX p1.length zY), (iv p2)].toArray w.W fun e W' => e = .returned (iv r) ∧ HF w W' E0 := by
 unfold zBV at H
 have leB := Bs.Le.refl w
 refine Tr.enter (n := 34) Tryz.func28 rfl rfl rfl hE ?_
 refine Tr.sr (Tr.box 1 (cs := [(iv p0.Unit), (.slice zG p0.Tools.length zH), (.slice zL p0.Steps.length zK)]) (wn rfl) rfl rfl rfl fun QB => ?_)
 refine Tr.asg rfl rfl (Tr.nil (Tr.zA (Tr.seq (Tr.sr (Tr.mv rfl rfl (Tr.va rfl (fun _ _ h1 h2 => QG zBx (h1.ev rfl)) ?_))))))
 refine Tr.mv rfl rfl (Tr.nil (Tr.zA (Tr.block (Tr.loop (σ := (List zD) × Nat) (fun m w s => m = s.1.length + 1 ∧ s.1 = List.drop s.2 p1 ∧ s.2 ≤ p1.length ∧ KO p0 p2 rec s.1 s.2 = some r) (fun s => [(2, (iv p2)), (3, (.pointer (some ⟨QB, 0, none⟩))), (11, (.slice zX p1.length zY)), (12, (iv (p1.length : Int))), (13, (iv (s.2 : Int)))]) (fun s => [(1, bx QB #[(iv p0.Unit), (.slice zG p0.Tools.length zH), (.slice zL p0.Steps.length zK)] 25)]) (p1.length + 1) (p1, 0) ⟨rfl, rfl, Nat.zero_le _, H⟩ (.cons rfl (.cons rfl (.cons rfl (.cons rfl (.cons rfl .nil))))) (.cons rfl .nil) (fun _ _ h => absurd h.1 (by simp)) ?_))))
 intro w Qs m s hs
 obtain ⟨zz, iL1⟩ := s
 obtain ⟨zAe, Qt, hiL1, H⟩ := hs
 replace Qt : zz = List.drop iL1 p1 := Qt
 replace H : KO p0 p2 rec zz iL1 = some r := H
 replace zAe : m + 1 = zz.length + 1 := zAe
 replace ze := ze.leR Qs
 replace KE := KE.leR Qs
 replace Qv := Qv.leR Qs
 replace leB := leB.trans Qs
 obtain rfl : m = zz.length := by omega
 clear zAe
 show Tr _ _ (LF [(2, (iv p2)), (3, (.pointer (some ⟨QB, 0, none⟩))), (11, (.slice zX p1.length zY)), (12, (iv (p1.length : Int))), (13, (iv (iL1 : Int)))]) (LE [(1, bx QB #[(iv p0.Unit), (.slice zG p0.Tools.length zH), (.slice zL p0.Steps.length zK)] 25)]) _
 cases zz with
 | nil =>
  rw [KO.eq_1] at H
  refine Tr.sr (Tr.va rfl (fun _ _ h1 h2 => QV (h1.ev rfl) (h1.ev rfl)) ?_)
  refine Tr.nil (Tr.zA (Tr.seq (Tr.zDV rfl (Wh Qt) ?_)))
  refine Tr.exit (Tr.zx (Tr.zx (Tr.Qd (Tr.zA (Tr.sr (Tr.asg rfl rfl (Tr.nil (Tr.zA (Tr.ret ?_)))))))))
  obtain rfl := Option.some.inj H
  exact Tr.out (m := [(iv 0)]) [] (zJ rfl zR) (fun W hW => ⟨rfl, hW.low leB⟩)
 | cons xL1 zz =>
  rw [KO.eq_2] at H
  refine Tr.sr (Tr.va rfl (fun _ _ h1 h2 => QV (h1.ev rfl) (h1.ev rfl)) ?_)
  refine Tr.nil (Tr.zA (Tr.seq (Tr.zC7 rfl (zAL Qt) ?_)))
  refine Tr.skip (Tr.zA (Tr.seq (Tr.block (Tr.sr ?_))))
  obtain ⟨u107, hRu107, hoku107, hcu107⟩ := (Qv).el (zAM Qt)
  obtain ⟨⟨zD5, zDw⟩, ⟨zDP, zDJ⟩⟩ := u107
  obtain ⟨zIF, zF5⟩ := Jc.1 hoku107
  replace zIF : Sl w.R w.W QM zD5 zDw xL1.Points := zIF
  replace zF5 : Sl w.R w.W zC zDP zDJ xL1.Steps := zF5
  refine Tr.va rfl (fun _ _ h1 h2 => zN zDt (h1.ev rfl) Qv.form (h1.ev rfl) (Int.natCast_nonneg _) (Qz Qt)) ?_
  refine Tr.va rfl (fun _ _ h1 h2 => zu (cs := [(iv xL1.Kind), (sv xL1.Name), (iv xL1.At.X), (iv xL1.At.Y), (.slice zD5 xL1.Points.length zDw), (iv xL1.NX), (iv xL1.NY), (.slice zDP xL1.Steps.length zDJ)]) zDA Wo (h1.ev rfl) (za.take (rdR hRu107 hcu107 h2) 8) rfl) ?_
  refine Tr.alloc 3 (wn rfl) rfl zGG fun b108 => ?_
  refine Tr.store 3 (cs := [(iv xL1.Kind), (sv xL1.Name), (iv xL1.At.X), (iv xL1.At.Y), (.slice zD5 xL1.Points.length zDw), (iv xL1.NX), (iv xL1.NY), (.slice zDP xL1.Steps.length zDJ)]) [(iv xL1.Kind), (sv xL1.Name), (iv xL1.At.X), (iv xL1.At.Y), (.slice zD5 xL1.Points.length zDw), (iv xL1.NX), (iv xL1.NY), (.slice zDP xL1.Steps.length zDJ)] (wn rfl) rfl rfl rfl rfl Wo rfl rfl rfl ?_
  refine Tr.nil (Tr.zA (Tr.seq (Tr.sr (Tr.va rfl (fun _ _ h1 h2 => zu (cs := [(iv p0.Unit), (.slice zG p0.Tools.length zH), (.slice zL p0.Steps.length zK)]) WY Kb (h1.ev rfl) (za.take (rdb h2 (vs := [(iv p0.Unit), (.slice zG p0.Tools.length zH), (.slice zL p0.Steps.length zK)]) (k := 1) rfl 0) 3) rfl) ?_))))
  refine Tr.va rfl (fun _ _ h1 h2 => zu (cs := [(iv xL1.Kind), (sv xL1.Name), (iv xL1.At.X), (iv xL1.At.Y), (.slice zD5 xL1.Points.length zDw), (iv xL1.NX), (iv xL1.NY), (.slice zDP xL1.Steps.length zDJ)]) zDA Wo (h1.ev rfl) (za.take (rdb h2 (vs := [(iv xL1.Kind), (sv xL1.Name), (iv xL1.At.X), (iv xL1.At.Y), (.slice zD5 xL1.Points.length zDw), (iv xL1.NX), (iv xL1.NY), (.slice zDP xL1.Steps.length zDJ)]) (k := 3) rfl 0) 8) rfl) ?_
  refine Tr.mv rfl rfl ?_
  obtain ⟨zD7, zJz, H⟩ := bnd H
  refine Tr.Qa (r := (iv zD7)) (wn rfl) rfl Tryz.call50 (zI rfl (zI rfl (zI rfl zT))) (fun W hW => zGF p0 zG zH (ze.ext hW.Qc) zL zK (KE.ext hW.Qc) xL1 zD5 zDw (zIF.ext hW.Qc) zDP zDJ (zF5.ext hW.Qc) p2 zD7 zJz (HF.start _)) ?_
  refine Tr.asg rfl rfl (Tr.nil (Tr.zA (Tr.sr (Tr.mv rfl rfl (Tr.va rfl (fun _ _ h1 h2 => KV (h1.ev rfl) (h1.ev rfl)) ?_)))))
  refine Tr.nil (Tr.zA (Tr.cond rfl H (fun H => ?_) (fun H => ?_)))
  ·refine Tr.sr (Tr.mv rfl rfl (Tr.asg rfl rfl (Tr.nil (Tr.zA (Tr.ret (Tr.zM (Tr.zW (Tr.zM (Tr.zM (Tr.zW (Tr.zM ?_)))))))))))
   obtain rfl := Option.some.inj H
   exact Tr.out (m := [(iv zD7)]) [] (zJ rfl zR) (fun W hW => ⟨rfl, hW.low leB⟩)
  ·refine Tr.skip (Tr.zA (Tr.sr (Tr.va rfl (fun _ _ h1 h2 => zu (cs := [(iv p0.Unit), (.slice zG p0.Tools.length zH), (.slice zL p0.Steps.length zK)]) WY Kb (h1.ev rfl) (za.take (rdb h2 (vs := [(iv p0.Unit), (.slice zG p0.Tools.length zH), (.slice zL p0.Steps.length zK)]) (k := 1) rfl 0) 3) rfl) ?_)))
   refine Tr.va rfl (fun _ _ h1 h2 => zB zAB (h1.ev rfl)) ?_
   refine Tr.va rfl (fun _ _ h1 h2 => zF zBR (h1.ev rfl) (rdb h2 (vs := [(iv xL1.Kind), (sv xL1.Name), (iv xL1.At.X), (iv xL1.At.Y), (.slice zD5 xL1.Points.length zDw), (iv xL1.NX), (iv xL1.NY), (.slice zDP xL1.Steps.length zDJ)]) (k := 3) rfl 7) rfl) ?_
   refine Tr.mv rfl rfl (Tr.va rfl (fun _ _ h1 h2 => QS (h1.ev rfl) (h1.ev rfl)) ?_)
   obtain ⟨zCI, hy110, H⟩ := bnd H
   refine Tr.Qa (r := (iv zCI)) (wn rfl) rfl Tryz.call28 (zI rfl (zI rfl (zI rfl zT))) (fun W hW => hrec p0 zG zH (ze.ext hW.Qc) zL zK (KE.ext hW.Qc) xL1.Steps zDP zDJ (zF5.ext hW.Qc) (w64 (p2 + 1)) zCI hy110 (HF.start _)) ?_
   refine Tr.asg rfl rfl (Tr.nil (Tr.zA (Tr.sr (Tr.mv rfl rfl (Tr.va rfl (fun _ _ h1 h2 => KV (h1.ev rfl) (h1.ev rfl)) ?_)))))
   refine Tr.nil (Tr.zA (Tr.cond rfl H (fun H => ?_) (fun H => ?_)))
   ·refine Tr.sr (Tr.mv rfl rfl (Tr.asg rfl rfl (Tr.nil (Tr.zA (Tr.ret (Tr.zW (Tr.zM (Tr.zM (Tr.zW (Tr.zM ?_))))))))))
    obtain rfl := Option.some.inj H
    exact Tr.out (m := [(iv zCI)]) [] (zJ rfl zR) (fun W hW => ⟨rfl, hW.low leB⟩)
   ·refine Tr.skip (Tr.zi (Tr.zA (Tr.region (Tr.va rfl (fun _ _ h1 h2 => QS (h1.ev rfl) (h1.ev rfl)) ?_))))
    exact Tr.mv rfl rfl (Tr.nil (Tr.zb Qs (zz, (iL1 + 1)) ⟨rfl, VN Qt, Qz Qt, H⟩ (.cons rfl (.cons rfl (.cons rfl (.cons rfl (.cons (congrArg (fun z => some (Value.int .i64 z)) (VM Qt Qv.form)) .nil))))) (.cons rfl .nil)))
theorem zCw : ∀ (N : Nat) {w : Bs} (p0 : QN) (zG : Option Addr) (zH : Nat) (ze : Sl w.R w.W zQ zG zH p0.Tools) (zL : Option Addr) (zK : Nat) (KE : Sl w.R w.W zC zL zK p0.Steps) (p1 : (List zD)) (zX : Option Addr) (zY : Nat) (Qv : Sl w.R w.W zC zX zY p1) (p2 : Int) (r : Int) (H : Ve N p0 p1 p2 = some r) (hE : HF w w.W E0), Calls Tryz.prog 28 [(.agg #[(iv p0.Unit), (.slice zG p0.Tools.length zH), (.slice zL p0.Steps.length zK)]), (.slice zX p1.length zY), (iv p2)].toArray w.W fun e W' => e = .returned (iv r) ∧ HF w W' E0
 | 0 => by intros; rename_i H _; cases H
 | N + 1 => zFF N (Ve N) (zCw N)

theorem zDB (N : Nat) {w : Bs} (p0 : QN) (zG : Option Addr) (zH : Nat) (ze : Sl w.R w.W zQ zG zH p0.Tools) (zL : Option Addr) (zK : Nat) (KE : Sl w.R w.W zC zL zK p0.Steps) (r : Int) (H : KH N p0 = some r) (hE : HF w w.W E0) : Calls Tryz.prog 10 [(.agg #[(iv p0.Unit), (.slice zG p0.Tools.length zH), (.slice zL p0.Steps.length zK)])].toArray w.W fun e W' => e = .returned (iv r) ∧ HF w W' E0 := by
 unfold KH at H
 have leB := Bs.Le.refl w
 refine Tr.enter (n := 52) Tryz.func10 rfl rfl rfl hE ?_
 refine Tr.sr (Tr.box 1 (cs := [(iv p0.Unit), (.slice zG p0.Tools.length zH), (.slice zL p0.Steps.length zK)]) (wn rfl) rfl rfl rfl fun QB => ?_)
 refine Tr.asg rfl rfl (Tr.nil (Tr.zA (Tr.seq (Tr.sr (Tr.va rfl (fun _ _ h1 h2 => zB zBe (h1.ev rfl)) ?_)))))
 refine Tr.va rfl (fun _ _ h1 h2 => zF Qu (h1.ev rfl) (rdb h2 (vs := [(iv p0.Unit), (.slice zG p0.Tools.length zH), (.slice zL p0.Steps.length zK)]) (k := 1) rfl 0) rfl) ?_
 obtain ⟨y101, hy101, H⟩ := bnd H
 refine Tr.Qa (r := (.bool y101)) (wn rfl) rfl Tryz.call25 (zI rfl (zI rfl (zI rfl zT))) (fun W hW => Wi p0.Unit 1 1000 y101 hy101 (HF.start _)) ?_
 refine Tr.va rfl (fun _ _ h1 h2 => Qb (h1.ev rfl)) ?_
 refine Tr.nil (Tr.zA (Tr.cond rfl H (fun H => ?_) (fun H => ?_)))
 ·refine Tr.sr (Tr.asg rfl rfl (Tr.nil (Tr.zA (Tr.ret (Tr.zM ?_)))))
  obtain rfl := Option.some.inj H
  exact Tr.out (m := [(iv 1)]) [] (zJ rfl zR) (fun W hW => ⟨rfl, hW.low leB⟩)
 ·refine Tr.skip (Tr.zA (Tr.seq (Tr.sr (Tr.va rfl (fun _ _ h1 h2 => zB Vl (h1.ev rfl)) ?_))))
  refine Tr.va rfl (fun _ _ h1 h2 => zF zBp (h1.ev rfl) (rdb h2 (vs := [(iv p0.Unit), (.slice zG p0.Tools.length zH), (.slice zL p0.Steps.length zK)]) (k := 1) rfl 1) rfl) ?_
  refine Tr.va rfl (fun _ _ h1 h2 => QG zFJ (h1.ev rfl)) ?_
  refine Tr.va rfl (fun _ _ h1 h2 => VR (h1.ev rfl) (h1.ev rfl)) ?_
  refine Tr.nil (Tr.zA (Tr.cond rfl H (fun H => ?_) (fun H => ?_)))
  ·refine Tr.sr (Tr.asg rfl rfl (Tr.nil (Tr.zA (Tr.ret (Tr.zM ?_)))))
   obtain rfl := Option.some.inj H
   exact Tr.out (m := [(iv 2)]) [] (zJ rfl zR) (fun W hW => ⟨rfl, hW.low leB⟩)
  ·refine Tr.skip (Tr.zA (Tr.seq (Tr.sr (Tr.va rfl (fun _ _ h1 h2 => zB Vl (h1.ev rfl)) ?_))))
   refine Tr.va rfl (fun _ _ h1 h2 => zF zBp (h1.ev rfl) (rdb h2 (vs := [(iv p0.Unit), (.slice zG p0.Tools.length zH), (.slice zL p0.Steps.length zK)]) (k := 1) rfl 1) rfl) ?_
   refine Tr.va rfl (fun _ _ h1 h2 => QG zFJ (h1.ev rfl)) ?_
   refine Tr.mv rfl rfl (Tr.nil (Tr.zA (Tr.block (Tr.loop (σ := (List zt) × Nat) (fun m w s => m = s.1.length + 1 ∧ s.1 = List.drop s.2 p0.Tools ∧ s.2 ≤ p0.Tools.length ∧ Jo N p0 s.1 s.2 = some r) (fun s => [(1, (.pointer (some ⟨QB, 0, none⟩))), (15, (.slice zG p0.Tools.length zH)), (16, (iv (p0.Tools.length : Int))), (17, (iv (s.2 : Int)))]) (fun s => [(1, bx QB #[(iv p0.Unit), (.slice zG p0.Tools.length zH), (.slice zL p0.Steps.length zK)] 25)]) (p0.Tools.length + 1) (p0.Tools, 0) ⟨rfl, rfl, Nat.zero_le _, H⟩ (.cons rfl (.cons rfl (.cons rfl (.cons rfl .nil)))) (.cons rfl .nil) (fun _ _ h => absurd h.1 (by simp)) ?_))))
   intro w Qs m s hs
   obtain ⟨zz, iL1⟩ := s
   obtain ⟨zAe, Qt, hiL1, H⟩ := hs
   replace Qt : zz = List.drop iL1 p0.Tools := Qt
   replace H : Jo N p0 zz iL1 = some r := H
   replace zAe : m + 1 = zz.length + 1 := zAe
   replace ze := ze.leR Qs
   replace KE := KE.leR Qs
   replace leB := leB.trans Qs
   obtain rfl : m = zz.length := by omega
   clear zAe
   show Tr _ _ (LF [(1, (.pointer (some ⟨QB, 0, none⟩))), (15, (.slice zG p0.Tools.length zH)), (16, (iv (p0.Tools.length : Int))), (17, (iv (iL1 : Int)))]) (LE [(1, bx QB #[(iv p0.Unit), (.slice zG p0.Tools.length zH), (.slice zL p0.Steps.length zK)] 25)]) _
   cases zz with
   | nil =>
    rw [Jo.eq_1] at H
    refine Tr.sr (Tr.va rfl (fun _ _ h1 h2 => QV (h1.ev rfl) (h1.ev rfl)) ?_)
    refine Tr.nil (Tr.zA (Tr.seq (Tr.zDV rfl (Wh Qt) ?_)))
    refine Tr.exit (Tr.zx (Tr.zx (Tr.Qd (Tr.zA (Tr.seq (Tr.sr (Tr.va rfl (fun _ _ h1 h2 => zB zCg (h1.ev rfl)) ?_)))))))
    refine Tr.va rfl (fun _ _ h1 h2 => zF zBR (h1.ev rfl) (rdb h2 (vs := [(iv p0.Unit), (.slice zG p0.Tools.length zH), (.slice zL p0.Steps.length zK)]) (k := 1) rfl 2) rfl) ?_
    obtain ⟨y112, hy112, H⟩ := bnd H
    refine Tr.Qa (r := (iv y112)) (wn rfl) rfl Tryz.call27 (zI rfl zT) (fun W hW => zFR N p0.Steps zL zK (KE.ext hW.Qc) y112 hy112 (HF.start _)) ?_
    refine Tr.va rfl (fun _ _ h1 h2 => VR (h1.ev rfl) (h1.ev rfl)) ?_
    refine Tr.nil (Tr.zA (Tr.cond rfl H (fun H => ?_) (fun H => ?_)))
    ·refine Tr.sr (Tr.asg rfl rfl (Tr.nil (Tr.zA (Tr.ret (Tr.zM ?_)))))
     obtain rfl := Option.some.inj H
     exact Tr.out (m := [(iv 2)]) [] (zJ rfl zR) (fun W hW => ⟨rfl, hW.low leB⟩)
    ·refine Tr.skip (Tr.zA (Tr.sr (Tr.va rfl (fun _ _ h1 h2 => zu (cs := [(iv p0.Unit), (.slice zG p0.Tools.length zH), (.slice zL p0.Steps.length zK)]) WY Kb (h1.ev rfl) (za.take (rdb h2 (vs := [(iv p0.Unit), (.slice zG p0.Tools.length zH), (.slice zL p0.Steps.length zK)]) (k := 1) rfl 0) 3) rfl) ?_)))
     refine Tr.va rfl (fun _ _ h1 h2 => zB zCg (h1.ev rfl)) ?_
     refine Tr.va rfl (fun _ _ h1 h2 => zF zBR (h1.ev rfl) (rdb h2 (vs := [(iv p0.Unit), (.slice zG p0.Tools.length zH), (.slice zL p0.Steps.length zK)]) (k := 1) rfl 2) rfl) ?_
     obtain ⟨y113, hy113, H⟩ := bnd H
     refine Tr.Qa (r := (iv y113)) (wn rfl) rfl Tryz.call28 (zI rfl (zI rfl (zI rfl zT))) (fun W hW => zCw N p0 zG zH (ze.ext hW.Qc) zL zK (KE.ext hW.Qc) p0.Steps zL zK (KE.ext hW.Qc) 0 y113 hy113 (HF.start _)) ?_
     refine Tr.asg rfl rfl (Tr.nil (Tr.zA (Tr.ret ?_)))
     obtain rfl := Option.some.inj H
     exact Tr.out (m := [(iv y113)]) [] (zJ rfl zR) (fun W hW => ⟨rfl, hW.low leB⟩)
   | cons xL1 zz =>
    rw [Jo.eq_2] at H
    refine Tr.sr (Tr.va rfl (fun _ _ h1 h2 => QV (h1.ev rfl) (h1.ev rfl)) ?_)
    refine Tr.nil (Tr.zA (Tr.seq (Tr.zC7 rfl (zAL Qt) ?_)))
    refine Tr.skip (Tr.zA (Tr.seq (Tr.block (Tr.sr (Tr.mv rfl rfl ?_)))))
    obtain ⟨u114, hRu114, hoku114, hcu114⟩ := (ze).el (zAM Qt)
    obtain ⟨zD4, zDv⟩ := u114
    have zID := hoku114
    replace zID : Sl w.R w.W KW zD4 zDv xL1.Rects := zID
    refine Tr.va rfl (fun _ _ h1 h2 => zN zFm (h1.ev rfl) ze.form (h1.ev rfl) (Int.natCast_nonneg _) (Qz Qt)) ?_
    refine Tr.va rfl (fun _ _ h1 h2 => zu (cs := [(sv xL1.Name), (.slice zD4 xL1.Rects.length zDv)]) ag_47 zDo (h1.ev rfl) (za.take (rdR hRu114 hcu114 h2) 2) rfl) ?_
    refine Tr.alloc 3 (wn rfl) rfl ze_47 fun zGi => ?_
    refine Tr.asg rfl rfl (Tr.store 3 (cs := [(sv xL1.Name), (.slice zD4 xL1.Rects.length zDv)]) [(sv xL1.Name), (.slice zD4 xL1.Rects.length zDv)] (wn rfl) rfl rfl rfl rfl zDo rfl rfl rfl ?_)
    refine Tr.nil (Tr.zA (Tr.seq (Tr.sr (Tr.va rfl (fun _ _ h1 h2 => zu (cs := [(sv xL1.Name), (.slice zD4 xL1.Rects.length zDv)]) ag_47 zDo (h1.ev rfl) (za.take (rdb h2 (vs := [(sv xL1.Name), (.slice zD4 xL1.Rects.length zDv)]) (k := 3) rfl 0) 2) rfl) ?_))))
    refine Tr.va rfl (fun _ _ h1 h2 => zB zBe (h1.ev rfl)) ?_
    refine Tr.va rfl (fun _ _ h1 h2 => zF Qu (h1.ev rfl) (rdb h2 (vs := [(iv p0.Unit), (.slice zG p0.Tools.length zH), (.slice zL p0.Steps.length zK)]) (k := 1) rfl 0) rfl) ?_
    obtain ⟨zIg, hy116, H⟩ := bnd H
    refine Tr.Qa (r := (iv zIg)) (wn rfl) rfl Tryz.call26 (zI rfl (zI rfl zT)) (fun W hW => zGE N xL1 zD4 zDv (zID.ext hW.Qc) p0.Unit zIg hy116 (HF.start _)) ?_
    refine Tr.asg rfl rfl (Tr.nil (Tr.zA (Tr.sr (Tr.mv rfl rfl (Tr.va rfl (fun _ _ h1 h2 => KV (h1.ev rfl) (h1.ev rfl)) ?_)))))
    refine Tr.nil (Tr.zA (Tr.cond rfl H (fun H => ?_) (fun H => ?_)))
    ·refine Tr.sr (Tr.mv rfl rfl (Tr.asg rfl rfl (Tr.nil (Tr.zA (Tr.ret (Tr.zM (Tr.zW (Tr.zM (Tr.zM (Tr.zW (Tr.zM ?_)))))))))))
     obtain rfl := Option.some.inj H
     exact Tr.out (m := [(iv zIg)]) [] (zJ rfl zR) (fun W hW => ⟨rfl, hW.low leB⟩)
    ·refine Tr.skip (Tr.zA (Tr.seq (Tr.draw (by kernel_rfl) (by kernel_rfl) ?_)))
     refine Tq.mv rfl rfl (Tq.va rfl (fun _ _ h1 h2 => VR (h1.ev rfl) (h1.ev rfl)) ?_)
     refine Tq.mv rfl rfl ?_
     obtain ⟨g119, zEQ, H⟩ := bnd H
     refine Tq.mid 11 [(1, (.pointer (some ⟨QB, 0, none⟩))), (15, (.slice zG p0.Tools.length zH)), (16, (iv (p0.Tools.length : Int))), (17, (iv (iL1 : Int))), (42, (.bool g119))] ?_ ?_
     ·cases Wy : (decide (0 < (iL1 : Int)))
      ·rw [Wy] at zEQ
       rw [if_neg (by decide)] at zEQ
       have H := zEQ
       obtain rfl := Option.some.inj H
       refine Tq.pass rfl rfl rfl rfl rfl (by decide) ?_
       refine Tq.pass rfl rfl rfl rfl rfl (by decide) ?_
       refine Tq.pass rfl rfl rfl rfl rfl (by decide) ?_
       refine Tq.pass rfl rfl rfl rfl rfl (by decide) ?_
       refine Tq.pass rfl rfl rfl rfl rfl (by decide) ?_
       refine Tq.pass rfl rfl rfl rfl rfl (by decide) ?_
       refine Tq.pass rfl rfl rfl rfl rfl (by decide) ?_
       refine Tq.pass rfl rfl rfl rfl rfl (by decide) ?_
       refine Tq.pass rfl rfl rfl rfl rfl (by decide) ?_
       refine Tq.pass rfl rfl rfl rfl rfl (by decide) ?_
       refine Tq.va rfl (fun _ _ h1 h2 => zV (h1.ev rfl) (h1.ev rfl)) ?_
       exact Tq.fin (.cons rfl (.cons rfl (.cons rfl (.cons rfl (.cons rfl .nil)))))
      ·rw [Wy] at zEQ
       rw [if_pos rfl] at zEQ
       have H := zEQ
       refine Tq.val (wg rfl rfl rfl) rfl (fun _ _ h1 h2 => zB zCA (h1.ev rfl)) ?_
       refine Tq.val (wg rfl rfl rfl) rfl (fun _ _ h1 h2 => zF zAR (h1.ev rfl) (rdb h2 (vs := [(sv xL1.Name), (.slice zD4 xL1.Rects.length zDv)]) (k := 3) rfl 0) rfl) ?_
       refine Tq.val (wg rfl rfl rfl) rfl (fun _ _ h1 h2 => zB Vl (h1.ev rfl)) ?_
       refine Tq.val (wg rfl rfl rfl) rfl (fun _ _ h1 h2 => zF zBp (h1.ev rfl) (rdb h2 (vs := [(iv p0.Unit), (.slice zG p0.Tools.length zH), (.slice zL p0.Steps.length zK)]) (k := 1) rfl 1) rfl) ?_
       refine Tq.val (wg rfl rfl rfl) rfl (fun _ _ h1 h2 => run_move (h1.ev rfl)) ?_
       refine Tq.val (wg rfl rfl rfl) rfl (fun _ _ h1 h2 => zIr (h1.ev rfl) (h1.ev rfl)) ?_
       obtain ⟨x120, hx120, H⟩ := bnd H
       obtain ⟨hx1200, hx1201, hx1202⟩ := zw hx120
       obtain ⟨u121, hRu121, hoku121, hcu121⟩ := (ze).el hx1202
       obtain ⟨Au121_0, cu121_0⟩ := u121
       have hoku121_0 := hoku121
       refine Tq.val (wg rfl rfl rfl) rfl (fun _ _ h1 h2 => zN zFm (h1.ev rfl) ze.form (h1.ev rfl) hx1200 hx1201) ?_
       refine Tq.val (wg rfl rfl rfl) rfl (fun _ _ h1 h2 => zB zCA (h1.ev rfl)) ?_
       refine Tq.val (wg rfl rfl rfl) rfl (fun _ _ h1 h2 => zF zAR (h1.ev rfl) (za.drop (rdR hRu121 hcu121 h2) 0) rfl) ?_
       refine Tq.val (wg rfl rfl rfl) rfl (fun _ _ h1 h2 => run_leqS (h1.ev rfl) (h1.ev rfl)) ?_
       refine Tq.va rfl (fun _ _ h1 h2 => zU (h1.ev rfl) (h1.ev rfl)) ?_
       obtain rfl := Option.some.inj H
       exact Tq.fin (.cons rfl (.cons rfl (.cons rfl (.cons rfl (.cons rfl .nil)))))
     ·refine Tq.nil (Tr.zA (Tr.cond rfl H (fun H => ?_) (fun H => ?_)))
      ·refine Tr.sr (Tr.asg rfl rfl (Tr.nil (Tr.zA (Tr.ret (Tr.zW (Tr.zM (Tr.zM (Tr.zW (Tr.zM ?_)))))))))
       obtain rfl := Option.some.inj H
       exact Tr.out (m := [(iv 8)]) [] (zJ rfl zR) (fun W hW => ⟨rfl, hW.low leB⟩)
      ·refine Tr.skip (Tr.zi (Tr.zA (Tr.region (Tr.va rfl (fun _ _ h1 h2 => QS (h1.ev rfl) (h1.ev rfl)) ?_))))
       exact Tr.mv rfl rfl (Tr.nil (Tr.zb Qs (zz, (iL1 + 1)) ⟨rfl, VN Qt, Qz Qt, H⟩ (.cons rfl (.cons rfl (.cons rfl (.cons (congrArg (fun z => some (Value.int .i64 z)) (VM Qt ze.form)) .nil)))) (.cons rfl .nil)))

theorem F_plot_Read_ok (N : Nat) {w : Bs} (hT : Tab Tryz.prog w) (p0 : ByteArray) (r : (QN × Int × Int)) (H : zAc N p0 = some r) (hE : HF w w.W (LEn [emp, emp])) : Calls Tryz.prog 6 [(sv p0)].toArray w.W fun e W' => ∃ (w' : Bs) (u : (Option Addr × Nat) × (Option Addr × Nat)), w.Le w' ∧ e = .returned (.tuple #[(.agg #[(iv r.1.Unit), (.slice u.1.1 r.1.Tools.length u.1.2), (.slice u.2.1 r.1.Steps.length u.2.2)]), (iv r.2.1), (iv r.2.2)]) ∧ (SlF u.1.1 r.1.Tools.length u.1.2 ∧ SlF u.2.1 r.1.Steps.length u.2.2) ∧ HF w' W' (LEn [ow u.1.1 u.1.2 47 zQ r.1.Tools, ow u.2.1 u.2.2 80 zC r.1.Steps]) := by
 unfold zAc at H
 have leB := Bs.Le.refl w
 refine Tr.enter (n := 66) Tryz.func6 rfl rfl rfl hE ?_
 refine Tr.sr (Tr.alloc 1 (wn rfl) rfl ze_25 fun QB => ?_)
 refine Tr.asg rfl rfl (Tr.asg rfl rfl (Tr.nil (Tr.zA (Tr.seq (Tr.sr (Tr.mv rfl rfl (Tr.va rfl (fun _ _ h1 h2 => Vn zBw (h1.ev rfl)) ?_)))))))
 refine Tr.va rfl (fun _ _ h1 h2 => VR (h1.ev rfl) (h1.ev rfl)) ?_
 refine Tr.nil (Tr.zA (Tr.cond rfl H (fun H => ?_) (fun H => ?_)))
 ·refine Tr.sr (Tr.build (vs := []) (cs := [(iv 0), (.slice none 0 0), (.slice none 0 0)]) (wn rfl) rfl Qj (by kernel_rfl) ?_)
  refine Tr.store 1 (cs := [(iv 0), (.slice none 0 0), (.slice none 0 0)]) [(iv 0), (.slice none 0 0), (.slice none 0 0)] (wn rfl) rfl rfl rfl rfl Kb rfl rfl rfl ?_
  refine Tr.asg rfl rfl (Tr.asg rfl rfl (Tr.nil (Tr.zA (Tr.ret (Tr.zM ?_)))))
  obtain rfl := Option.some.inj H
  refine Tr.JZ 2 47 zQ ?_
  refine Tr.JZ 3 80 zC ?_
  exact Tr.out (m := [(.agg #[(iv 0), (.slice none 0 0), (.slice none 0 0)]), (iv 0), (iv 2)]) [1] (Vx rfl rfl WY Kb (zJ rfl (zJ rfl zR))) (fun W hW => ⟨w, ((none, 0), (none, 0)), leB, rfl, ⟨Qr, Qr⟩, hW.pick (ks := [2, 3]) (by decide) (zO rfl (zO rfl QH))⟩)
 ·refine Tr.skip (Tr.zA (Tr.sr (Tr.build (vs := []) (cs := [(iv 0), (.slice none 0 0), (.slice none 0 0), (.bool false), (.slice none 0 0), (.bool false)]) (wn rfl) rfl Qj (by kernel_rfl) ?_)))
  refine Tr.box 4 (cs := [(iv 0), (.slice none 0 0), (.slice none 0 0), (.bool false), (.slice none 0 0), (.bool false)]) (wn rfl) rfl rfl rfl fun JS => ?_
  refine Tr.asg rfl rfl (Tr.nil (Tr.zA (Tr.sr (Tr.asg rfl rfl (Tr.nil (Tr.zA (Tr.seq (Tr.block (Tr.skNil 5 85 80 80 zS ?_)))))))))
  refine Tr.JZ 16 47 zQ ?_
  refine Tr.JZ 17 80 zC ?_
  refine Tr.loop (σ := (List zD) × Int × (List zt) × (List zD) × Bool × Bool × ByteArray × Int × (Option Addr) × Nat × (List (PE zC)) × (Option Addr) × Nat × (Option Addr) × Nat) (fun m w s => WA N m s.1 s.2.1 s.2.2.1 s.2.2.2.1 s.2.2.2.2.1 s.2.2.2.2.2.1 s.2.2.2.2.2.2.1 s.2.2.2.2.2.2.2.1 = some r ∧ (SK s.2.2.2.2.2.2.2.2.2.2.1 s.1 ∧ SlF s.2.2.2.2.2.2.2.2.1 s.1.length s.2.2.2.2.2.2.2.2.2.1) ∧ SlF s.2.2.2.2.2.2.2.2.2.2.2.1 s.2.2.1.length s.2.2.2.2.2.2.2.2.2.2.2.2.1 ∧ SlF s.2.2.2.2.2.2.2.2.2.2.2.2.2.1 s.2.2.2.1.length s.2.2.2.2.2.2.2.2.2.2.2.2.2.2) (fun s => [(0, (sv s.2.2.2.2.2.2.1)), (2, (.pointer (some ⟨QB, 0, none⟩))), (5, (.pointer (some ⟨JS, 0, none⟩))), (6, (iv s.2.2.2.2.2.2.2.1))]) (fun s => [(1, bx QB #[(iv 0), (.slice none 0 0), (.slice none 0 0)] 25), (4, bx JS #[(iv s.2.1), (.slice s.2.2.2.2.2.2.2.2.2.2.2.1 s.2.2.1.length s.2.2.2.2.2.2.2.2.2.2.2.2.1), (.slice s.2.2.2.2.2.2.2.2.2.2.2.2.2.1 s.2.2.2.1.length s.2.2.2.2.2.2.2.2.2.2.2.2.2.2), (.bool s.2.2.2.2.1), (.slice s.2.2.2.2.2.2.2.2.1 s.1.length s.2.2.2.2.2.2.2.2.2.1), (.bool s.2.2.2.2.2.1)] 59), (5, sk s.2.2.2.2.2.2.2.2.1 s.2.2.2.2.2.2.2.2.2.1 85 80 80 zS s.2.2.2.2.2.2.2.2.2.2.1), (16, ow s.2.2.2.2.2.2.2.2.2.2.2.1 s.2.2.2.2.2.2.2.2.2.2.2.2.1 47 zQ s.2.2.1), (17, ow s.2.2.2.2.2.2.2.2.2.2.2.2.2.1 s.2.2.2.2.2.2.2.2.2.2.2.2.2.2 80 zC s.2.2.2.1)]) N (([] : List zD), 0, ([] : List zt), ([] : List zD), false, false, p0, 1, none, 0, [], none, 0, none, 0) ⟨H, ⟨SK.nil, Qr⟩, Qr, Qr⟩ (.cons rfl (.cons rfl (.cons rfl (.cons rfl .nil)))) (.cons rfl (.cons rfl (.cons rfl (.cons rfl (.cons rfl .nil))))) (fun _ _ h => WM (h.1)) ?_
  intro w Qs mL1 s hs
  obtain ⟨m138, Vt, zBX, zBF, zEj, zGC, x144, zHn, Am138, cm138, msm138, zAt, zAo, zAZ, zAQ⟩ := s
  obtain ⟨H, hm138, hl140, hl141⟩ := hs
  replace H : WA N (mL1 + 1) m138 Vt zBX zBF zEj zGC x144 zHn = some r := H
  replace hT := hT.ext Qs.ext
  replace leB := leB.trans Qs
  replace hm138 : SK msm138 m138 ∧ SlF Am138 m138.length cm138 := hm138
  replace hl140 : SlF zAt zBX.length zAo := hl140
  replace hl141 : SlF zAZ zBF.length zAQ := hl141
  rw [WA.eq_2] at H
  show Tr _ _ (LF [(0, (sv x144)), (2, (.pointer (some ⟨QB, 0, none⟩))), (5, (.pointer (some ⟨JS, 0, none⟩))), (6, (iv zHn))]) (LE [(1, bx QB #[(iv 0), (.slice none 0 0), (.slice none 0 0)] 25), (4, bx JS #[(iv Vt), (.slice zAt zBX.length zAo), (.slice zAZ zBF.length zAQ), (.bool zEj), (.slice Am138 m138.length cm138), (.bool zGC)] 59), (5, sk Am138 cm138 85 80 80 zS msm138), (16, ow zAt zAo 47 zQ zBX), (17, ow zAZ zAQ 80 zC zBF)]) _
  refine Tr.seq (Tr.sr (Tr.mv rfl rfl (Tr.va rfl (fun _ _ h1 h2 => zBW (h1.ev rfl) (h1.ev rfl)) ?_)))
  refine Tr.nil (Tr.zA (Tr.cond rfl H (fun H => ?_) (fun H => ?_)))
  ·refine Tr.skip (Tr.zA (Tr.seq (Tr.block (Tr.sr (Tr.mv rfl rfl ?_)))))
   obtain ⟨zCH, hy146, H⟩ := bnd H
   refine Tr.Qa (r := (.tuple #[(sv zCH.1), (sv zCH.2.1), (.bool zCH.2.2)])) (wn rfl) rfl Tryz.call17 (zI rfl (zI rfl zT)) (fun W hW => zEa (hT.ext hW.Qc) x144 (⟨#[10]⟩) zCH hy146 (HF.start _)) ?_
   refine Tr.mv rfl rfl (Tr.va rfl (fun _ _ h1 h2 => QC (h1.ev rfl) rfl) ?_)
   refine Tr.va rfl (fun _ _ h1 h2 => QC (h1.ev rfl) rfl) ?_
   refine Tr.va rfl (fun _ _ h1 h2 => QC (h1.ev rfl) rfl) ?_
   refine Tr.asg rfl rfl (Tr.asg rfl rfl (Tr.asg rfl rfl (Tr.nil (Tr.zA (Tr.seq (Tr.sr (Tr.mv rfl rfl (Tr.va rfl (fun _ _ h1 h2 => Qb (h1.ev rfl)) ?_))))))))
   refine Tr.mv rfl rfl ?_
   cases zDT : (!zCH.2.2)
   ·rw [zDT, if_neg (by decide)] at H
    refine Tr.val (wg rfl rfl rfl) rfl (fun _ _ h1 h2 => run_move (h1.ev rfl)) ?_
    refine Tr.val (wg rfl rfl rfl) rfl (fun _ _ h1 h2 => run_move (h1.ev rfl)) ?_
    obtain ⟨y150, hy150, H⟩ := bnd H
    refine Tr.zEX [4, 16, 17, 5] [bx JS #[(iv Vt), (.slice zAt zBX.length zAo), (.slice zAZ zBF.length zAQ), (.bool zEj), (.slice Am138 m138.length cm138), (.bool zGC)] 59, ow zAt zAo 47 zQ zBX, ow zAZ zAQ 80 zC zBF, sk Am138 cm138 85 80 80 zS msm138] (U := (Option Addr × Nat) × (Option Addr × Nat) × (Option Addr × Nat × List (PE zC))) (fun u => (.bool y150.1)) (fun O W u => SlF u.1.1 y150.2.2.2.2.1.length u.1.2 ∧ SlF u.2.1.1 y150.2.2.2.2.2.1.length u.2.1.2 ∧ (SK u.2.2.2.2 y150.2.2.2.2.2.2 ∧ SlF u.2.2.1 y150.2.2.2.2.2.2.length u.2.2.2.1)) (fun u => [bx JS #[(iv y150.2.1), (.slice u.1.1 y150.2.2.2.2.1.length u.1.2), (.slice u.2.1.1 y150.2.2.2.2.2.1.length u.2.1.2), (.bool y150.2.2.1), (.slice u.2.2.1 y150.2.2.2.2.2.2.length u.2.2.2.1), (.bool y150.2.2.2.1)] 59, ow u.1.1 u.1.2 47 zQ y150.2.2.2.2.1, ow u.2.1.1 u.2.1.2 80 zC y150.2.2.2.2.2.1, sk u.2.2.1 u.2.2.2.1 85 80 80 zS u.2.2.2.2]) rfl (zO rfl (zO rfl (zO rfl (zO rfl QH)))) (fun _ => rfl) (wg rfl rfl rfl) rfl Tryz.call18 (zI rfl (zI rfl zT)) (fun W hW hp hE => zFD N (hT.ext (hW.zCb hp)) (QZ.mk (QN.mk Vt zBX zBF) zEj m138 zGC) zAt zAo zAZ zAQ Am138 cm138 msm138 ⟨hm138.1, hm138.2⟩ JS zCH.1 y150 hy150 hE) ?_
    intro w u le151 hu
    obtain ⟨⟨zJC, zIw⟩, ⟨zJB, zIv⟩, ⟨zJA, zIu, Dy150_2⟩⟩ := u
    obtain ⟨gy150_0, gy150_1, gy150_2⟩ := hu
    replace hT := hT.ext le151.ext
    replace leB := leB.trans le151
    replace Qs := Qs.trans le151
    have hgy150_0 : SlF zJC y150.2.2.2.2.1.length zIw := gy150_0 --@phi
    have hgy150_1 : SlF zJB y150.2.2.2.2.2.1.length zIv := gy150_1 --@phi
    have hgy150_2 : (SK Dy150_2 y150.2.2.2.2.2.2 ∧ SlF zJA y150.2.2.2.2.2.2.length zIu) := gy150_2 --@phi
    show Tr _ _ (uf _ 32 (.bool y150.1)) (up (up (up (up _ 5 (sk zJA zIu 85 80 80 zS Dy150_2)) 17 (ow zJB zIv 80 zC y150.2.2.2.2.2.1)) 16 (ow zJC zIw 47 zQ y150.2.2.2.2.1)) 4 (bx JS #[(iv y150.2.1), (.slice zJC y150.2.2.2.2.1.length zIw), (.slice zJB y150.2.2.2.2.2.1.length zIv), (.bool y150.2.2.1), (.slice zJA y150.2.2.2.2.2.2.length zIu), (.bool y150.2.2.2.1)] 59)) _
    refine Tr.val (wg rfl rfl rfl) rfl (fun _ _ h1 h2 => Qb (h1.ev rfl)) ?_
    refine Tr.va rfl (fun _ _ h1 h2 => zV (h1.ev rfl) (h1.ev rfl)) ?_
    refine Tr.nil (Tr.zA (Tr.cond rfl H (fun H => ?_) (fun H => ?_)))
    ·refine Tr.sr (Tr.build (vs := []) (cs := [(iv 0), (.slice none 0 0), (.slice none 0 0)]) (wn rfl) rfl Qj (by kernel_rfl) ?_)
     refine Tr.mv rfl rfl (Tr.store 1 (cs := [(iv 0), (.slice none 0 0), (.slice none 0 0)]) [(iv 0), (.slice none 0 0), (.slice none 0 0)] (wn rfl) rfl rfl rfl rfl Kb rfl rfl rfl ?_)
     refine Tr.asg rfl rfl (Tr.asg rfl rfl (Tr.nil (Tr.zA (Tr.ret (Tr.zM (Tr.zW (Tr.zM (Tr.zM (Tr.zW (Tr.zM ?_))))))))))
     obtain rfl := Option.some.inj H
     refine Tr.JZ 20 47 zQ ?_
     refine Tr.JZ 21 80 zC ?_
     exact Tr.out (m := [(.agg #[(iv 0), (.slice none 0 0), (.slice none 0 0)]), (iv zHn), (iv 10)]) [1] (Vx rfl rfl WY Kb (zJ rfl (zJ rfl zR))) (fun W hW => ⟨w, ((none, 0), (none, 0)), leB, rfl, ⟨Qr, Qr⟩, hW.pick (ks := [20, 21]) (by decide) (zO rfl (zO rfl QH))⟩)
    ·refine Tr.skip (Tr.zA (Tr.region (Tr.mv rfl rfl (Tr.asg rfl rfl (Tr.nil (Tr.zi (Tr.zA (Tr.region (Tr.mv rfl rfl (Tr.va rfl (fun _ _ h1 h2 => QS (h1.ev rfl) (h1.ev rfl)) ?_))))))))))
     exact Tr.asg rfl rfl (Tr.nil (Tr.zb Qs (y150.2.2.2.2.2.2, y150.2.1, y150.2.2.2.2.1, y150.2.2.2.2.2.1, y150.2.2.1, y150.2.2.2.1, zCH.2.1, (w64 (zHn + 1)), zJA, zIu, Dy150_2, zJC, zIw, zJB, zIv) ⟨H, ⟨hgy150_2.1, hgy150_2.2⟩, hgy150_0, hgy150_1⟩ (.cons rfl (.cons rfl (.cons rfl (.cons rfl .nil)))) (.cons rfl (.cons rfl (.cons rfl (.cons rfl (.cons rfl .nil)))))))
   ·rw [zDT, if_pos rfl] at H
    refine Tr.pass rfl rfl rfl rfl rfl (by decide) ?_
    refine Tr.pass rfl rfl rfl rfl rfl (by decide) ?_
    refine Tr.pass rfl rfl rfl rfl rfl (by decide) ?_
    refine Tr.pass rfl rfl rfl rfl rfl (by decide) ?_
    refine Tr.va rfl (fun _ _ h1 h2 => zU (h1.ev rfl) (h1.ev rfl)) ?_
    refine Tr.nil (Tr.zA (Tr.zC7 rfl rfl ?_))
    refine Tr.sr (Tr.build (vs := []) (cs := [(iv 0), (.slice none 0 0), (.slice none 0 0)]) (wn rfl) rfl Qj (by kernel_rfl) ?_)
    refine Tr.mv rfl rfl (Tr.store 1 (cs := [(iv 0), (.slice none 0 0), (.slice none 0 0)]) [(iv 0), (.slice none 0 0), (.slice none 0 0)] (wn rfl) rfl rfl rfl rfl Kb rfl rfl rfl ?_)
    refine Tr.asg rfl rfl (Tr.asg rfl rfl (Tr.nil (Tr.zA (Tr.ret (Tr.zM (Tr.zW (Tr.zM (Tr.zM (Tr.zW (Tr.zM ?_))))))))))
    obtain rfl := Option.some.inj H
    refine Tr.JZ 18 47 zQ ?_
    refine Tr.JZ 19 80 zC ?_
    exact Tr.out (m := [(.agg #[(iv 0), (.slice none 0 0), (.slice none 0 0)]), (iv zHn), (iv 10)]) [1] (Vx rfl rfl WY Kb (zJ rfl (zJ rfl zR))) (fun W hW => ⟨w, ((none, 0), (none, 0)), leB, rfl, ⟨Qr, Qr⟩, hW.pick (ks := [18, 19]) (by decide) (zO rfl (zO rfl QH))⟩)
  ·refine Tr.exit (Tr.zx (Tr.zx (Tr.Qd (Tr.zA (Tr.seq (Tr.sr (Tr.mv rfl rfl (Tr.va rfl (fun _ _ h1 h2 => zg (h1.ev rfl)) ?_))))))))
   refine Tr.va rfl (fun _ _ h1 h2 => zB zHH (h1.ev rfl)) ?_
   refine Tr.va rfl (fun _ _ h1 h2 => zF zFt (h1.ev rfl) (rdb h2 (vs := [(iv Vt), (.slice zAt zBX.length zAo), (.slice zAZ zBF.length zAQ), (.bool zEj), (.slice Am138 m138.length cm138), (.bool zGC)]) (k := 4) rfl 3) rfl) ?_
   refine Tr.va rfl (fun _ _ h1 h2 => Qb (h1.ev rfl)) ?_
   refine Tr.mv rfl rfl (Tr.Jl 7 [(2, (.pointer (some ⟨QB, 0, none⟩))), (5, (.pointer (some ⟨JS, 0, none⟩))), (6, (iv zHn)), (50, (.bool ((!zEj) || (decide (0 < (m138.length : Int))))))] [(1, bx QB #[(iv 0), (.slice none 0 0), (.slice none 0 0)] 25), (4, bx JS #[(iv Vt), (.slice zAt zBX.length zAo), (.slice zAZ zBF.length zAQ), (.bool zEj), (.slice Am138 m138.length cm138), (.bool zGC)] 59), (5, sk Am138 cm138 85 80 80 zS msm138), (16, ow zAt zAo 47 zQ zBX), (17, ow zAZ zAQ 80 zC zBF)] ?_ ?_)
   ·cases hg152 : (!zEj)
    ·refine Tr.val (wg rfl rfl rfl) rfl (fun _ _ h1 h2 => run_move (h1.ev rfl)) ?_
     refine Tr.val (wg rfl rfl rfl) rfl (fun _ _ h1 h2 => zg (h1.ev rfl)) ?_
     refine Tr.val (wg rfl rfl rfl) rfl (fun _ _ h1 h2 => zB zB8 (h1.ev rfl)) ?_
     refine Tr.val (wg rfl rfl rfl) rfl (fun _ _ h1 h2 => zF zHY (h1.ev rfl) (rdb h2 (vs := [(iv Vt), (.slice zAt zBX.length zAo), (.slice zAZ zBF.length zAQ), (.bool zEj), (.slice Am138 m138.length cm138), (.bool zGC)]) (k := 4) rfl 4) rfl) ?_
     refine Tr.val (wg rfl rfl rfl) rfl (fun _ _ h1 h2 => QG un_57 (h1.ev rfl)) ?_
     refine Tr.val (wg rfl rfl rfl) rfl (fun _ _ h1 h2 => VR (h1.ev rfl) (h1.ev rfl)) ?_
     refine Tr.va rfl (fun _ _ h1 h2 => zV (h1.ev rfl) (h1.ev rfl)) ?_
     exact Tr.nil (Tr.QI (.cons rfl (.cons rfl (.cons rfl (.cons rfl .nil)))) (.cons rfl (.cons rfl (.cons rfl (.cons rfl (.cons rfl .nil))))))
    ·refine Tr.pass rfl rfl rfl rfl rfl (by decide) ?_
     refine Tr.pass rfl rfl rfl rfl rfl (by decide) ?_
     refine Tr.pass rfl rfl rfl rfl rfl (by decide) ?_
     refine Tr.pass rfl rfl rfl rfl rfl (by decide) ?_
     refine Tr.pass rfl rfl rfl rfl rfl (by decide) ?_
     refine Tr.pass rfl rfl rfl rfl rfl (by decide) ?_
     refine Tr.va rfl (fun _ _ h1 h2 => zU (h1.ev rfl) (h1.ev rfl)) ?_
     exact Tr.nil (Tr.QI (.cons rfl (.cons rfl (.cons rfl (.cons rfl .nil)))) (.cons rfl (.cons rfl (.cons rfl (.cons rfl (.cons rfl .nil))))))
   ·show Tr _ _ (LF [(2, (.pointer (some ⟨QB, 0, none⟩))), (5, (.pointer (some ⟨JS, 0, none⟩))), (6, (iv zHn)), (50, (.bool ((!zEj) || (decide (0 < (m138.length : Int))))))]) (LE [(1, bx QB #[(iv 0), (.slice none 0 0), (.slice none 0 0)] 25), (4, bx JS #[(iv Vt), (.slice zAt zBX.length zAo), (.slice zAZ zBF.length zAQ), (.bool zEj), (.slice Am138 m138.length cm138), (.bool zGC)] 59), (5, sk Am138 cm138 85 80 80 zS msm138), (16, ow zAt zAo 47 zQ zBX), (17, ow zAZ zAQ 80 zC zBF)]) _
    refine Tr.nil (Tr.zA (Tr.cond rfl H (fun H => ?_) (fun H => ?_)))
    ·refine Tr.sr (Tr.build (vs := []) (cs := [(iv 0), (.slice none 0 0), (.slice none 0 0)]) (wn rfl) rfl Qj (by kernel_rfl) ?_)
     refine Tr.mv rfl rfl (Tr.store 1 (cs := [(iv 0), (.slice none 0 0), (.slice none 0 0)]) [(iv 0), (.slice none 0 0), (.slice none 0 0)] (wn rfl) rfl rfl rfl rfl Kb rfl rfl rfl ?_)
     refine Tr.asg rfl rfl (Tr.asg rfl rfl (Tr.nil (Tr.zA (Tr.ret (Tr.zM ?_)))))
     obtain rfl := Option.some.inj H
     refine Tr.JZ 22 47 zQ ?_
     refine Tr.JZ 23 80 zC ?_
     exact Tr.out (m := [(.agg #[(iv 0), (.slice none 0 0), (.slice none 0 0)]), (iv zHn), (iv 10)]) [1] (Vx rfl rfl WY Kb (zJ rfl (zJ rfl zR))) (fun W hW => ⟨w, ((none, 0), (none, 0)), leB, rfl, ⟨Qr, Qr⟩, hW.pick (ks := [22, 23]) (by decide) (zO rfl (zO rfl QH))⟩)
    ·refine Tr.skip (Tr.zA (Tr.seq (Tr.sr (Tr.mv rfl rfl (Tr.va rfl (fun _ _ h1 h2 => zg (h1.ev rfl)) ?_)))))
     refine Tr.va rfl (fun _ _ h1 h2 => zB zE2 (h1.ev rfl)) ?_
     refine Tr.va rfl (fun _ _ h1 h2 => zu (cs := [(iv Vt), (.slice zAt zBX.length zAo), (.slice zAZ zBF.length zAQ)]) WY Kb (h1.ev rfl) (za.take (rdb h2 (vs := [(iv Vt), (.slice zAt zBX.length zAo), (.slice zAZ zBF.length zAQ), (.bool zEj), (.slice Am138 m138.length cm138), (.bool zGC)]) (k := 4) rfl 0) 3) rfl) ?_
     obtain ⟨y152, hy152, H⟩ := bnd H
     refine Tr.Qa (r := (iv y152)) (wn rfl) rfl Tryz.call10 (zI rfl zT) (fun W hW => zDB N (QN.mk Vt zBX zBF) zAt zAo (hW.zBy (k := 16) rfl) zAZ zAQ (hW.zBy (k := 17) rfl) y152 hy152 (HF.start _)) ?_
     refine Tr.asg rfl rfl (Tr.nil (Tr.zA (Tr.sr (Tr.mv rfl rfl (Tr.va rfl (fun _ _ h1 h2 => KV (h1.ev rfl) (h1.ev rfl)) ?_)))))
     refine Tr.nil (Tr.zA (Tr.cond rfl H (fun H => ?_) (fun H => ?_)))
     ·refine Tr.sr (Tr.build (vs := []) (cs := [(iv 0), (.slice none 0 0), (.slice none 0 0)]) (wn rfl) rfl Qj (by kernel_rfl) ?_)
      refine Tr.mv rfl rfl (Tr.store 1 (cs := [(iv 0), (.slice none 0 0), (.slice none 0 0)]) [(iv 0), (.slice none 0 0), (.slice none 0 0)] (wn rfl) rfl rfl rfl rfl Kb rfl rfl rfl ?_)
      refine Tr.asg rfl rfl (Tr.asg rfl rfl (Tr.nil (Tr.zA (Tr.ret (Tr.zM ?_)))))
      obtain rfl := Option.some.inj H
      refine Tr.JZ 24 47 zQ ?_
      refine Tr.JZ 25 80 zC ?_
      exact Tr.out (m := [(.agg #[(iv 0), (.slice none 0 0), (.slice none 0 0)]), (iv 0), (iv y152)]) [1] (Vx rfl rfl WY Kb (zJ rfl (zJ rfl zR))) (fun W hW => ⟨w, ((none, 0), (none, 0)), leB, rfl, ⟨Qr, Qr⟩, hW.pick (ks := [24, 25]) (by decide) (zO rfl (zO rfl QH))⟩)
     ·refine Tr.skip (Tr.zA (Tr.sr (Tr.mv rfl rfl (Tr.va rfl (fun _ _ h1 h2 => zg (h1.ev rfl)) ?_))))
      refine Tr.va rfl (fun _ _ h1 h2 => zB zE2 (h1.ev rfl)) ?_
      refine Tr.va rfl (fun _ _ h1 h2 => zu (cs := [(iv Vt), (.slice zAt zBX.length zAo), (.slice zAZ zBF.length zAQ)]) WY Kb (h1.ev rfl) (za.take (rdb h2 (vs := [(iv Vt), (.slice zAt zBX.length zAo), (.slice zAZ zBF.length zAQ), (.bool zEj), (.slice Am138 m138.length cm138), (.bool zGC)]) (k := 4) rfl 0) 3) rfl) ?_
      refine Tr.store 1 (cs := [(iv Vt), (.slice zAt zBX.length zAo), (.slice zAZ zBF.length zAQ)]) [(iv Vt), (.slice zAt zBX.length zAo), (.slice zAZ zBF.length zAQ)] (wn rfl) rfl rfl rfl rfl Kb rfl rfl rfl ?_
      refine Tr.asg rfl rfl (Tr.asg rfl rfl (Tr.nil (Tr.zA (Tr.ret ?_))))
      obtain rfl := Option.some.inj H
      exact Tr.out (m := [(.agg #[(iv Vt), (.slice zAt zBX.length zAo), (.slice zAZ zBF.length zAQ)]), (iv 0), (iv 0)]) [1] (Vx rfl rfl WY Kb (zJ rfl (zJ rfl zR))) (fun W hW => ⟨w, ((zAt, zAo), (zAZ, zAQ)), leB, rfl, ⟨hl140, hl141⟩, hW.pick (ks := [16, 17]) (by decide) (zO rfl (zO rfl QH))⟩)

theorem zEc (N : Nat) {w : Bs} (hT : Tab Tryz.prog w) (p0 : ByteArray) (r : zh) (H : zAF N p0 = some r) (hE : HF w w.W (LEn [emp, emp, emp])) : Calls Tryz.prog 21 [(sv p0)].toArray w.W fun e W' => ∃ u : (Option Addr × Nat) × (Option Addr × Nat) × (Option Addr × Nat), e = .returned (.pointer (some ⟨u.2.2.2, 0, none⟩)) ∧ (SlF u.1.1 r.lines.length u.1.2 ∧ SlF u.2.1.1 r.ends.length u.2.1.2 ∧ True) ∧ HF w W' (LEn [ow u.1.1 u.1.2 9 JG r.lines, ow u.2.1.1 u.2.1.2 4 VX r.ends, bx u.2.2.2 #[(.slice u.1.1 r.lines.length u.1.2), (.slice u.2.1.1 r.ends.length u.2.1.2), (iv r.at_), (.bool r.bad)] 69]) := by
 unfold zAF at H
 have leB := Bs.Le.refl w
 refine Tr.enter (n := 39) Tryz.func21 rfl rfl rfl hE ?_
 refine Tr.sr (Tr.asg rfl rfl (Tr.nil (Tr.zA (Tr.sr (Tr.build (vs := []) (cs := [(.slice none 0 0), (.slice none 0 0), (iv 0), (.bool false)]) (wn rfl) rfl Qj (by kernel_rfl) ?_)))))
 refine Tr.box 1 (cs := [(.slice none 0 0), (.slice none 0 0), (iv 0), (.bool false)]) (wn rfl) rfl rfl rfl fun QB => ?_
 refine Tr.asg rfl rfl (Tr.nil (Tr.zA (Tr.seq (Tr.block (Tr.JZ 14 9 JG ?_)))))
 refine Tr.JZ 15 4 VX ?_
 refine Tr.loop (σ := (List ByteArray) × (List Bool) × ByteArray × (Option Addr) × Nat × (Option Addr) × Nat) (fun m w s => KI m s.1 s.2.1 s.2.2.1 = some r ∧ SlF s.2.2.2.1 s.1.length s.2.2.2.2.1 ∧ SlF s.2.2.2.2.2.1 s.2.1.length s.2.2.2.2.2.2) (fun s => [(0, (sv s.2.2.1)), (3, (.pointer (some ⟨QB, 0, none⟩)))]) (fun s => [(1, bx QB #[(.slice s.2.2.2.1 s.1.length s.2.2.2.2.1), (.slice s.2.2.2.2.2.1 s.2.1.length s.2.2.2.2.2.2), (iv 0), (.bool false)] 69), (14, ow s.2.2.2.1 s.2.2.2.2.1 9 JG s.1), (15, ow s.2.2.2.2.2.1 s.2.2.2.2.2.2 4 VX s.2.1)]) N (([] : List ByteArray), ([] : List Bool), p0, none, 0, none, 0) ⟨H, Qr, Qr⟩ (.cons rfl (.cons rfl .nil)) (.cons rfl (.cons rfl (.cons rfl .nil))) (fun _ _ h => WM (h.1)) ?_
 intro w Qs mL1 s hs
 obtain ⟨zFj, zFT, zGo, Al120, cl120, Al121, cl121⟩ := s
 obtain ⟨H, hl120, hl121⟩ := hs
 replace H : KI (mL1 + 1) zFj zFT zGo = some r := H
 replace hT := hT.ext Qs.ext
 replace leB := leB.trans Qs
 replace hl120 : SlF Al120 zFj.length cl120 := hl120
 replace hl121 : SlF Al121 zFT.length cl121 := hl121
 rw [KI.eq_2] at H
 show Tr _ _ (LF [(0, (sv zGo)), (3, (.pointer (some ⟨QB, 0, none⟩)))]) (LE [(1, bx QB #[(.slice Al120 zFj.length cl120), (.slice Al121 zFT.length cl121), (iv 0), (.bool false)] 69), (14, ow Al120 cl120 9 JG zFj), (15, ow Al121 cl121 4 VX zFT)]) _
 refine Tr.seq (Tr.sr (Tr.mv rfl rfl (Tr.va rfl (fun _ _ h1 h2 => zBW (h1.ev rfl) (h1.ev rfl)) ?_)))
 refine Tr.nil (Tr.zA (Tr.cond rfl H (fun H => ?_) (fun H => ?_)))
 ·refine Tr.skip (Tr.zA (Tr.block (Tr.sr (Tr.mv rfl rfl ?_))))
  obtain ⟨zEg, hy123, H⟩ := bnd H
  refine Tr.Qa (r := (.tuple #[(sv zEg.1), (sv zEg.2.1), (.bool zEg.2.2)])) (wn rfl) rfl Tryz.call17 (zI rfl (zI rfl zT)) (fun W hW => zEa (hT.ext hW.Qc) zGo (⟨#[10]⟩) zEg hy123 (HF.start _)) ?_
  refine Tr.mv rfl rfl (Tr.va rfl (fun _ _ h1 h2 => QC (h1.ev rfl) rfl) ?_)
  refine Tr.va rfl (fun _ _ h1 h2 => QC (h1.ev rfl) rfl) ?_
  refine Tr.va rfl (fun _ _ h1 h2 => QC (h1.ev rfl) rfl) ?_
  refine Tr.asg rfl rfl (Tr.asg rfl rfl (Tr.asg rfl rfl (Tr.nil (Tr.zA (Tr.sr (Tr.mv rfl rfl (Tr.mv rfl rfl (Tr.va rfl (fun _ _ h1 h2 => zg (h1.ev rfl)) ?_))))))))
  refine Tr.va rfl (fun _ _ h1 h2 => zB zF6 (h1.ev rfl)) ?_
  refine Tr.va rfl (fun _ _ h1 h2 => zF ag_66 (h1.ev rfl) (rdb h2 (vs := [(.slice Al120 zFj.length cl120), (.slice Al121 zFT.length cl121), (iv 0), (.bool false)]) (k := 1) rfl 0) rfl) ?_
  refine Tr.mv rfl rfl (Tr.buildSlice 16 (e := 9) (vs := [(0, (sv zEg.1))]) (cs := [(sv zEg.1)]) (wn rfl) rfl (QE rfl Qj) (by kernel_rfl) fun b124 => ?_)
  obtain ⟨l125, hl125, H⟩ := bnd H
  refine Tr.append 14 (t := JG) (l := zFj) (l2 := [zEg.1]) (wn rfl) rfl rfl rfl rfl (fun W hW => ⟨[[(sv zEg.1)]], (.cons ⟨(), trivial, rfl⟩ .nil), rdb hW (vs := [(sv zEg.1)]) (k := 16) rfl 0⟩) zFZ sz_9 zl_9 (by decide) by_9 rfl hl125 fun Al125 cl125 hAl125 => ?_
  refine Tr.va rfl (fun _ _ h1 h2 => zg (h1.ev rfl)) ?_
  refine Tr.va rfl (fun _ _ h1 h2 => zB zF6 (h1.ev rfl)) ?_
  refine Tr.store 1 (cs := [(.slice Al125 l125.length cl125)]) [(.slice Al125 l125.length cl125), (.slice Al121 zFT.length cl121), (iv 0), (.bool false)] (wn rfl) rfl rfl rfl rfl sz_66 rfl rfl rfl ?_
  refine Tr.nil (Tr.zA (Tr.sr (Tr.mv rfl rfl (Tr.mv rfl rfl (Tr.va rfl (fun _ _ h1 h2 => zg (h1.ev rfl)) ?_)))))
  refine Tr.va rfl (fun _ _ h1 h2 => zB fo_69_1 (h1.ev rfl)) ?_
  refine Tr.va rfl (fun _ _ h1 h2 => zF ag_67 (h1.ev rfl) (rdb h2 (vs := [(.slice Al125 l125.length cl125), (.slice Al121 zFT.length cl121), (iv 0), (.bool false)]) (k := 1) rfl 1) rfl) ?_
  refine Tr.mv rfl rfl (Tr.buildSlice 17 (e := 4) (vs := [(0, (.bool zEg.2.2))]) (cs := [(.bool zEg.2.2)]) (wn rfl) rfl (QE rfl Qj) (by kernel_rfl) fun b126 => ?_)
  obtain ⟨l127, hl127, H⟩ := bnd H
  refine Tr.append 15 (t := VX) (l := zFT) (l2 := [zEg.2.2]) (wn rfl) rfl rfl rfl rfl (fun W hW => ⟨[[(.bool zEg.2.2)]], (.cons ⟨(), trivial, rfl⟩ .nil), rdb hW (vs := [(.bool zEg.2.2)]) (k := 17) rfl 0⟩) un_67 sz_4 zl_4 (by decide) by_4 rfl hl127 fun Al127 cl127 hAl127 => ?_
  refine Tr.va rfl (fun _ _ h1 h2 => zg (h1.ev rfl)) ?_
  refine Tr.va rfl (fun _ _ h1 h2 => zB fo_69_1 (h1.ev rfl)) ?_
  refine Tr.store 1 (cs := [(.slice Al127 l127.length cl127)]) [(.slice Al125 l125.length cl125), (.slice Al127 l127.length cl127), (iv 0), (.bool false)] (wn rfl) rfl rfl rfl rfl sz_67 rfl rfl rfl ?_
  exact Tr.nil (Tr.zA (Tr.region (Tr.mv rfl rfl (Tr.asg rfl rfl (Tr.nil (Tr.zi (Tr.zb Qs (l125, l127, zEg.2.1, Al125, cl125, Al127, cl127) ⟨H, hAl125, hAl127⟩ (.cons rfl (.cons rfl .nil)) (.cons rfl (.cons rfl (.cons rfl .nil))))))))))
 ·refine Tr.exit (Tr.zx (Tr.zx (Tr.Qd (Tr.zA (Tr.sr (Tr.mv rfl rfl (Tr.asg rfl rfl (Tr.nil (Tr.zA (Tr.ret ?_))))))))))
  obtain rfl := Option.some.inj H
  exact Tr.out (m := [(.pointer (some ⟨QB, 0, none⟩))]) [] (zJ rfl zR) (fun W hW => ⟨((Al120, cl120), (Al121, cl121), (none, QB)), rfl, ⟨hl120, hl121, trivial⟩, HF.zH0 leB (hW.pick (ks := [14, 15, 1]) (by decide) (zO rfl (zO rfl (zO rfl QH)))) ⟨zCW _ _ _ _ zJZ, zCW _ _ _ _ tr_bool, bx_any _ _ _, trivial⟩⟩)

theorem zEE (N : Nat) {w : Bs} (hT : Tab Tryz.prog w) (p0 : ByteArray) (r : ((List ByteArray) × Bool)) (H : Vp N p0 = some r) (hE : HF w w.W (LEn [emp])) : Calls Tryz.prog 39 [(sv p0)].toArray w.W fun e W' => ∃ u : (Option Addr × Nat), e = .returned (.tuple #[(.slice u.1 r.1.length u.2), (.bool r.2)]) ∧ (SlF u.1 r.1.length u.2) ∧ HF w W' (LEn [ow u.1 u.2 9 JG r.1]) := by
 unfold Vp at H
 have leB := Bs.Le.refl w
 refine Tr.enter (n := 46) Tryz.func39 rfl rfl rfl hE ?_
 refine Tr.sr (Tr.asg rfl rfl (Tr.JZ 1 9 JG ?_))
 show Tr _ _ (uf _ 2 (.slice none (([] : List ByteArray)).length 0)) _ _
 refine Tr.asg rfl rfl (Tr.nil (Tr.zA (Tr.sr (Tr.mv rfl rfl ?_))))
 obtain ⟨zl, zAO, H⟩ := bnd H
 refine Tr.zAC [2] [emp] (U := (Option Addr × Nat)) (fun u => (.slice u.1 zl.length u.2)) (fun u => SlF u.1 zl.length u.2) (fun u => [ow u.1 u.2 9 JG zl]) rfl (zO rfl QH) (fun _ => rfl) (wn rfl) rfl Tryz.call32 (zI rfl (zI rfl zT)) (fun W hW hp hE => zDZ (hT.ext (hW.zCb hp)) p0 (⟨#[32]⟩) zl zAO hE) ?_
 intro u hu
 obtain ⟨Qk, Qh⟩ := u
 have gy100_0 := hu
 have zAA : SlF Qk zl.length Qh := gy100_0 --@phi
 show Tr _ _ (uf _ 8 (.slice Qk zl.length Qh)) (up _ 2 (ow Qk Qh 9 JG zl)) _
 refine Tr.asg rfl rfl (Tr.nil (Tr.zA (Tr.seq (Tr.sr (Tr.asg rfl rfl (Tr.nil (Tr.zA (Tr.block (Tr.loop (σ := Int) (fun m w s => Ql N zl m s = some r) (fun s => [(4, (.slice Qk zl.length Qh)), (5, (iv s))]) (fun s => [(2, ow Qk Qh 9 JG zl)]) N 0 H (.cons rfl (.cons rfl .nil)) (.cons rfl .nil) (fun _ _ h => WM (h)) ?_)))))))))
 intro w zEv mL3 zEi hs
 have H := hs
 replace H : Ql N zl (mL3 + 1) zEi = some r := H
 replace hT := hT.ext zEv.ext
 replace leB := leB.trans zEv
 rw [Ql.eq_2] at H
 show Tr _ _ (LF [(4, (.slice Qk zl.length Qh)), (5, (iv zEi))]) (LE [(2, ow Qk Qh 9 JG zl)]) _
 refine Tr.seq (Tr.sr (Tr.mv rfl rfl (Tr.mv rfl rfl (Tr.va rfl (fun _ _ h1 h2 => QG zFZ (h1.ev rfl)) ?_))))
 refine Tr.va rfl (fun _ _ h1 h2 => QV (h1.ev rfl) (h1.ev rfl)) ?_
 refine Tr.nil (Tr.zA (Tr.cond rfl H (fun H => ?_) (fun H => ?_)))
 ·refine Tr.skip (Tr.zA (Tr.seq (Tr.block (Tr.seq (Tr.sr (Tr.mv rfl rfl (Tr.mv rfl rfl ?_)))))))
  obtain ⟨zBu, hx164, H⟩ := bnd H
  obtain ⟨hx1640, hx1641, hx1642⟩ := zw hx164
  refine Tr.va rfl (fun _ _ h1 h2 => zN zAP (h1.ev rfl) zAA (h1.ev rfl) hx1640 hx1641) ?_
  refine Tr.va rfl (fun _ _ h1 h2 => zF zAR (h1.ev rfl) (rdo Wq (k := 2) h2 rfl hx1642) rfl) ?_
  refine Tr.va rfl (fun _ _ h1 h2 => Qq (h1.ev rfl) (h1.ev rfl)) ?_
  refine Tr.nil (Tr.zA (Tr.cond rfl H (fun H => ?_) (fun H => ?_)))
  ·refine Tr.sr (Tr.asg rfl rfl (Tr.JZ 11 9 JG ?_))
   show Tr _ _ (uf _ 2 (.slice none (([] : List ByteArray)).length 0)) _ _
   refine Tr.asg rfl rfl (Tr.nil (Tr.zA (Tr.ret (Tr.zM (Tr.zW (Tr.zM (Tr.zM (Tr.zW (Tr.zM ?_)))))))))
   obtain rfl := Option.some.inj H
   exact Tr.out (m := [(.slice none (([] : List ByteArray)).length 0), (.bool false)]) [] (zJ rfl (zJ rfl zR)) (fun W hW => ⟨(none, 0), rfl, Qr, HF.zH0 leB (hW.pick (ks := [11]) (by decide) (zO rfl QH)) ⟨zCW _ _ _ _ zJZ, trivial⟩⟩)
  ·refine Tr.skip (Tr.zA (Tr.sr (Tr.asg rfl rfl (Tr.nil (Tr.zA (Tr.block (Tr.loop (σ := Int) (fun m w s => Jj zl zEi (Ql N zl mL3) m s = some r) (fun s => [(4, (.slice Qk zl.length Qh)), (5, (iv zEi)), (6, (iv s))]) (fun s => [(2, ow Qk Qh 9 JG zl)]) N 0 H (.cons rfl (.cons rfl (.cons rfl .nil))) (.cons rfl .nil) (fun _ _ h => WM (h)) ?_)))))))
   intro w zG3 mL4 x184 hs
   have H := hs
   replace H : Jj zl zEi (Ql N zl mL3) (mL4 + 1) x184 = some r := H
   replace hT := hT.ext zG3.ext
   replace leB := leB.trans zG3
   replace zEv := zEv.trans zG3
   rw [Jj.eq_2] at H
   show Tr _ _ (LF [(4, (.slice Qk zl.length Qh)), (5, (iv zEi)), (6, (iv x184))]) (LE [(2, ow Qk Qh 9 JG zl)]) _
   refine Tr.seq (Tr.sr (Tr.mv rfl rfl (Tr.mv rfl rfl (Tr.mv rfl rfl ?_))))
   obtain ⟨x185, hx185, H⟩ := bnd H
   obtain ⟨hx1850, hx1851, hx1852⟩ := zw hx185
   refine Tr.va rfl (fun _ _ h1 h2 => zN zAP (h1.ev rfl) zAA (h1.ev rfl) hx1850 hx1851) ?_
   refine Tr.va rfl (fun _ _ h1 h2 => zF zAR (h1.ev rfl) (rdo Wq (k := 2) h2 rfl hx1852) rfl) ?_
   refine Tr.va rfl (fun _ _ h1 h2 => Vn zBw (h1.ev rfl)) ?_
   refine Tr.va rfl (fun _ _ h1 h2 => QV (h1.ev rfl) (h1.ev rfl)) ?_
   refine Tr.nil (Tr.zA (Tr.cond rfl H (fun H => ?_) (fun H => ?_)))
   ·refine Tr.skip (Tr.zA (Tr.seq (Tr.block (Tr.sr (Tr.mv rfl rfl (Tr.mv rfl rfl ?_))))))
    obtain ⟨x186, hx186, H⟩ := bnd H
    obtain ⟨hx1860, hx1861, hx1862⟩ := zw hx186
    refine Tr.va rfl (fun _ _ h1 h2 => zN zAP (h1.ev rfl) zAA (h1.ev rfl) hx1860 hx1861) ?_
    refine Tr.va rfl (fun _ _ h1 h2 => zF zAR (h1.ev rfl) (rdo Wq (k := 2) h2 rfl hx1862) rfl) ?_
    refine Tr.mv rfl rfl ?_
    obtain ⟨c187, hc187, H⟩ := bnd H
    refine Tr.va rfl (fun _ _ h1 h2 => zA6 zBw (h1.ev rfl) (h1.ev rfl) hc187) ?_
    refine Tr.va rfl (fun _ _ h1 h2 => QV (h1.ev rfl) (h1.ev rfl)) ?_
    refine Tr.mv rfl rfl ?_
    obtain ⟨g190, hg190, H⟩ := bnd H
    refine Tr.Jl 8 [(4, (.slice Qk zl.length Qh)), (5, (iv zEi)), (6, (iv x184)), (44, (.bool g190))] [(2, ow Qk Qh 9 JG zl)] ?_ ?_
    ·cases hg192 : (decide (c187 < 33))
     ·rw [hg192] at hg190
      rw [if_neg (by decide)] at hg190
      have H := hg190
      refine Tr.val (wg rfl rfl rfl) rfl (fun _ _ h1 h2 => run_move (h1.ev rfl)) ?_
      refine Tr.val (wg rfl rfl rfl) rfl (fun _ _ h1 h2 => run_move (h1.ev rfl)) ?_
      obtain ⟨x191, hx191, H⟩ := bnd H
      obtain ⟨hx1910, hx1911, hx1912⟩ := zw hx191
      refine Tr.val (wg rfl rfl rfl) rfl (fun _ _ h1 h2 => zN zAP (h1.ev rfl) zAA (h1.ev rfl) hx1910 hx1911) ?_
      refine Tr.val (wg rfl rfl rfl) rfl (fun _ _ h1 h2 => zF zAR (h1.ev rfl) (rdo Wq (k := 2) h2 rfl hx1912) rfl) ?_
      refine Tr.val (wg rfl rfl rfl) rfl (fun _ _ h1 h2 => run_move (h1.ev rfl)) ?_
      obtain ⟨c192, hc192, H⟩ := bnd H
      refine Tr.val (wg rfl rfl rfl) rfl (fun _ _ h1 h2 => zA6 zBw (h1.ev rfl) (h1.ev rfl) hc192) ?_
      refine Tr.val (wg rfl rfl rfl) rfl (fun _ _ h1 h2 => VR (h1.ev rfl) (h1.ev rfl)) ?_
      refine Tr.va rfl (fun _ _ h1 h2 => zV (h1.ev rfl) (h1.ev rfl)) ?_
      obtain rfl := Option.some.inj H
      exact Tr.nil (Tr.QI (.cons rfl (.cons rfl (.cons rfl (.cons rfl .nil)))) (.cons rfl .nil))
     ·rw [hg192] at hg190
      rw [if_pos rfl] at hg190
      have H := hg190
      obtain rfl := Option.some.inj H
      refine Tr.pass rfl rfl rfl rfl rfl (by decide) ?_
      refine Tr.pass rfl rfl rfl rfl rfl (by decide) ?_
      refine Tr.pass rfl rfl rfl rfl rfl (by decide) ?_
      refine Tr.pass rfl rfl rfl rfl rfl (by decide) ?_
      refine Tr.pass rfl rfl rfl rfl rfl (by decide) ?_
      refine Tr.pass rfl rfl rfl rfl rfl (by decide) ?_
      refine Tr.pass rfl rfl rfl rfl rfl (by decide) ?_
      refine Tr.va rfl (fun _ _ h1 h2 => zU (h1.ev rfl) (h1.ev rfl)) ?_
      exact Tr.nil (Tr.QI (.cons rfl (.cons rfl (.cons rfl (.cons rfl .nil)))) (.cons rfl .nil))
    ·show Tr _ _ (LF [(4, (.slice Qk zl.length Qh)), (5, (iv zEi)), (6, (iv x184)), (44, (.bool g190))]) (LE [(2, ow Qk Qh 9 JG zl)]) _
     refine Tr.nil (Tr.zA (Tr.cond rfl H (fun H => ?_) (fun H => ?_)))
     ·refine Tr.sr (Tr.asg rfl rfl (Tr.JZ 14 9 JG ?_))
      show Tr _ _ (uf _ 2 (.slice none (([] : List ByteArray)).length 0)) _ _
      refine Tr.asg rfl rfl (Tr.nil (Tr.zA (Tr.ret (Tr.zW (Tr.zM (Tr.zM (Tr.zW (Tr.zW (Tr.zM (Tr.zM (Tr.zW (Tr.zM ?_))))))))))))
      obtain rfl := Option.some.inj H
      exact Tr.out (m := [(.slice none (([] : List ByteArray)).length 0), (.bool false)]) [] (zJ rfl (zJ rfl zR)) (fun W hW => ⟨(none, 0), rfl, Qr, HF.zH0 leB (hW.pick (ks := [14]) (by decide) (zO rfl QH)) ⟨zCW _ _ _ _ zJZ, trivial⟩⟩)
     ·refine Tr.skip (Tr.zi (Tr.zA (Tr.region (Tr.mv rfl rfl (Tr.va rfl (fun _ _ h1 h2 => QS (h1.ev rfl) (h1.ev rfl)) ?_)))))
      exact Tr.asg rfl rfl (Tr.nil (Tr.zb zG3 (w64 (x184 + 1)) H (.cons rfl (.cons rfl (.cons rfl .nil))) (.cons rfl .nil)))
   ·refine Tr.exit (Tr.zx (Tr.zx (Tr.Qd (Tr.zi (Tr.zA (Tr.region (Tr.mv rfl rfl (Tr.va rfl (fun _ _ h1 h2 => QS (h1.ev rfl) (h1.ev rfl)) ?_))))))))
    exact Tr.asg rfl rfl (Tr.nil (Tr.zb zEv (w64 (zEi + 1)) H (.cons rfl (.cons rfl .nil)) (.cons rfl .nil)))
 ·refine Tr.exit (Tr.zx (Tr.zx (Tr.Qd (Tr.zA (Tr.sr (Tr.mv rfl rfl (Tr.asg rfl rfl (Tr.asg rfl rfl (Tr.nil (Tr.zA (Tr.ret ?_)))))))))))
  obtain rfl := Option.some.inj H
  exact Tr.out (m := [(.slice Qk zl.length Qh), (.bool true)]) [] (zJ rfl (zJ rfl zR)) (fun W hW => ⟨(Qk, Qh), rfl, zAA, HF.zH0 leB (hW.pick (ks := [2]) (by decide) (zO rfl QH)) ⟨zCW _ _ _ _ zJZ, trivial⟩⟩)

theorem zDY {w : Bs} (p0 : ByteArray) (p1 : ByteArray) (r : (ByteArray × Bool)) (H : WH p0 p1 = some r) (hE : HF w w.W E0) : Calls Tryz.prog 114 [(sv p0), (sv p1)].toArray w.W fun e W' => e = .returned (.tuple #[(sv r.1), (.bool r.2)]) ∧ HF w W' E0 := by
 unfold WH at H
 have leB := Bs.Le.refl w
 refine Tr.enter (n := 15) Tryz.func114 rfl rfl rfl hE ?_
 refine Tr.sr (Tr.asg rfl rfl (Tr.asg rfl rfl (Tr.nil (Tr.zA (Tr.seq (Tr.sr (Tr.mv rfl rfl (Tr.mv rfl rfl ?_))))))))
 obtain ⟨zl, zAO, H⟩ := bnd H
 refine Tr.Qa (r := (.bool zl)) (wn rfl) rfl Tryz.call119 (zI rfl (zI rfl zT)) (fun W hW => zBA p0 p1 zl zAO (HF.start _)) ?_
 refine Tr.va rfl (fun _ _ h1 h2 => Qb (h1.ev rfl)) ?_
 refine Tr.nil (Tr.zA (Tr.cond rfl H (fun H => ?_) (fun H => ?_)))
 ·refine Tr.sr (Tr.mv rfl rfl (Tr.asg rfl rfl (Tr.asg rfl rfl (Tr.nil (Tr.zA (Tr.ret (Tr.zM ?_)))))))
  obtain rfl := Option.some.inj H
  exact Tr.out (m := [(sv p0), (.bool false)]) [] (zJ rfl (zJ rfl zR)) (fun W hW => ⟨rfl, hW.low leB⟩)
 ·refine Tr.skip (Tr.zA (Tr.sr (Tr.mv rfl rfl (Tr.mv rfl rfl (Tr.va rfl (fun _ _ h1 h2 => Vn zBw (h1.ev rfl)) ?_)))))
  obtain ⟨t101, ht101, H⟩ := bnd H
  refine Tr.va rfl (fun _ _ h1 h2 => run_cutSL zBw (h1.ev rfl) (h1.ev rfl) ht101) ?_
  refine Tr.asg rfl rfl (Tr.asg rfl rfl (Tr.nil (Tr.zA (Tr.ret ?_))))
  obtain rfl := Option.some.inj H
  exact Tr.out (m := [(sv t101), (.bool true)]) [] (zJ rfl (zJ rfl zR)) (fun W hW => ⟨rfl, hW.low leB⟩)

theorem zFB {w : Bs} (p0 : ByteArray) (p1 : ByteArray) (r : (ByteArray × Bool)) (H : WS p0 p1 = some r) (hE : HF w w.W E0) : Calls Tryz.prog 84 [(sv p0), (sv p1)].toArray w.W fun e W' => e = .returned (.tuple #[(sv r.1), (.bool r.2)]) ∧ HF w W' E0 := by
 unfold WS at H
 have leB := Bs.Le.refl w
 refine Tr.enter (n := 11) Tryz.func84 rfl rfl rfl hE ?_
 refine Tr.sr (Tr.asg rfl rfl (Tr.asg rfl rfl (Tr.nil (Tr.zA (Tr.sr (Tr.mv rfl rfl (Tr.mv rfl rfl ?_)))))))
 obtain ⟨zl, zAO, H⟩ := bnd H
 refine Tr.Qa (r := (.tuple #[(sv zl.1), (.bool zl.2)])) (wn rfl) rfl Tryz.call114 (zI rfl (zI rfl zT)) (fun W hW => zDY p0 p1 zl zAO (HF.start _)) ?_
 refine Tr.va rfl (fun _ _ h1 h2 => QC (h1.ev rfl) rfl) ?_
 refine Tr.va rfl (fun _ _ h1 h2 => QC (h1.ev rfl) rfl) ?_
 refine Tr.asg rfl rfl (Tr.asg rfl rfl (Tr.nil (Tr.zA (Tr.ret ?_))))
 obtain rfl := Option.some.inj H
 exact Tr.out (m := [(sv zl.1), (.bool zl.2)]) [] (zJ rfl (zJ rfl zR)) (fun W hW => ⟨rfl, hW.low leB⟩)

theorem Jf {w : Bs} (p0 : Int) (p1 : Int) (p2 : Int) (r : Bool) (H : QW p0 p1 p2 = some r) (hE : HF w w.W E0) : Calls Tryz.prog 42 [(iv p0), (iv p1), (iv p2)].toArray w.W fun e W' => e = .returned (.bool r) ∧ HF w W' E0 := by
 unfold QW at H
 have leB := Bs.Le.refl w
 refine Tr.enter (n := 15) Tryz.func42 rfl rfl rfl hE ?_
 refine Tr.sr (Tr.asg rfl rfl (Tr.nil (Tr.zA (Tr.sr (Tr.mv rfl rfl (Tr.mv rfl rfl (Tr.va rfl (fun _ _ h1 h2 => zAz (h1.ev rfl) (h1.ev rfl)) ?_)))))))
 refine Tr.mv rfl rfl (Tr.Jl 4 [(14, (.bool ((decide (p1 ≤ p0)) && (decide (p0 ≤ p2)))))] [] ?_ ?_)
 ·cases hg99 : (decide (p1 ≤ p0))
  ·refine Tr.pass rfl rfl rfl rfl rfl (by decide) ?_
   refine Tr.pass rfl rfl rfl rfl rfl (by decide) ?_
   refine Tr.pass rfl rfl rfl rfl rfl (by decide) ?_
   refine Tr.va rfl (fun _ _ h1 h2 => zV (h1.ev rfl) (h1.ev rfl)) ?_
   exact Tr.nil (Tr.QI (.cons rfl .nil) .nil)
  ·refine Tr.val (wg rfl rfl rfl) rfl (fun _ _ h1 h2 => run_move (h1.ev rfl)) ?_
   refine Tr.val (wg rfl rfl rfl) rfl (fun _ _ h1 h2 => run_move (h1.ev rfl)) ?_
   refine Tr.val (wg rfl rfl rfl) rfl (fun _ _ h1 h2 => zAy (h1.ev rfl) (h1.ev rfl)) ?_
   refine Tr.va rfl (fun _ _ h1 h2 => zU (h1.ev rfl) (h1.ev rfl)) ?_
   exact Tr.nil (Tr.QI (.cons rfl .nil) .nil)
 ·show Tr _ _ (LF [(14, (.bool ((decide (p1 ≤ p0)) && (decide (p0 ≤ p2)))))]) (LE []) _
  refine Tr.asg rfl rfl (Tr.nil (Tr.zA (Tr.ret ?_)))
  obtain rfl := Option.some.inj H
  exact Tr.out (m := [(.bool ((decide (p1 ≤ p0)) && (decide (p0 ≤ p2))))]) [] (zJ rfl zR) (fun W hW => ⟨rfl, hW.low leB⟩)

theorem zDl (N : Nat) {w : Bs} (p0 : ByteArray) (r : (Int × Bool)) (H : Vh N p0 = some r) (hE : HF w w.W E0) : Calls Tryz.prog 59 [(sv p0)].toArray w.W fun e W' => e = .returned (.tuple #[(iv r.1), (.bool r.2)]) ∧ HF w W' E0 := by
 unfold Vh at H
 have leB := Bs.Le.refl w
 refine Tr.enter (n := 53) Tryz.func59 rfl rfl rfl hE ?_
 refine Tr.sr (Tr.asg rfl rfl (Tr.asg rfl rfl (Tr.nil (Tr.zA (Tr.sr (Tr.mv rfl rfl ?_))))))
 obtain ⟨zl, zAO, H⟩ := bnd H
 refine Tr.Qa (r := (.tuple #[(sv zl.1), (.bool zl.2)])) (wn rfl) rfl Tryz.call84 (zI rfl (zI rfl zT)) (fun W hW => zFB p0 (⟨#[45]⟩) zl zAO (HF.start _)) ?_
 refine Tr.mv rfl rfl (Tr.va rfl (fun _ _ h1 h2 => QC (h1.ev rfl) rfl) ?_)
 refine Tr.va rfl (fun _ _ h1 h2 => QC (h1.ev rfl) rfl) ?_
 refine Tr.asg rfl rfl (Tr.asg rfl rfl (Tr.nil (Tr.zA (Tr.seq (Tr.sr (Tr.mv rfl rfl (Tr.va rfl (fun _ _ h1 h2 => Vn zBw (h1.ev rfl)) ?_)))))))
 obtain ⟨y101, hy101, H⟩ := bnd H
 refine Tr.Qa (r := (.bool y101)) (wn rfl) rfl Tryz.call42 (zI rfl (zI rfl (zI rfl zT))) (fun W hW => Jf (zl.1.size : Int) 1 9 y101 hy101 (HF.start _)) ?_
 refine Tr.va rfl (fun _ _ h1 h2 => Qb (h1.ev rfl)) ?_
 refine Tr.mv rfl rfl ?_
 obtain ⟨zEB, Wz, H⟩ := bnd H
 refine Tr.Jl 12 [(0, (sv p0)), (4, (sv zl.1)), (30, (.bool zEB))] [] ?_ ?_
 ·cases Wy : (!y101)
  ·rw [Wy] at Wz
   rw [if_neg (by decide)] at Wz
   have H := Wz
   refine Tr.val (wg rfl rfl rfl) rfl (fun _ _ h1 h2 => run_move (h1.ev rfl)) ?_
   obtain ⟨c104, hc104, H⟩ := bnd H
   refine Tr.val (wg rfl rfl rfl) rfl (fun _ _ h1 h2 => zA6 zBw (h1.ev rfl) (h1.ev rfl) hc104) ?_
   refine Tr.val (wg rfl rfl rfl) rfl (fun _ _ h1 h2 => QY (h1.ev rfl) (h1.ev rfl)) ?_
   refine Tr.val (wg rfl rfl rfl) rfl (fun _ _ h1 h2 => run_move (h1.ev rfl)) ?_
   refine Tr.Jl 7 [(0, (sv p0)), (4, (sv zl.1)), (18, (.bool false)), (29, (.bool ((c104 == 48) && ((decide (1 < (zl.1.size : Int))) || zl.2))))] [] ?_ ?_
   ·cases zC6 : (c104 == 48)
    ·refine Tr.pass rfl rfl rfl rfl rfl (by decide) ?_
     refine Tr.pass rfl rfl rfl rfl rfl (by decide) ?_
     refine Tr.pass rfl rfl rfl rfl rfl (by decide) ?_
     refine Tr.pass rfl rfl rfl rfl rfl (by decide) ?_
     refine Tr.QX rfl rfl rfl rfl (by decide) ?_
     refine Tr.pass rfl rfl rfl rfl rfl (by decide) ?_
     refine Tr.val (wg rfl rfl rfl) rfl (fun _ _ h1 h2 => zV (h1.ev rfl) (h1.ev rfl)) ?_
     exact Tr.nil (Tr.QI (.cons rfl (.cons rfl (.cons rfl (.cons rfl .nil)))) .nil)
    ·refine Tr.val (wg rfl rfl rfl) rfl (fun _ _ h1 h2 => run_move (h1.ev rfl)) ?_
     refine Tr.val (wg rfl rfl rfl) rfl (fun _ _ h1 h2 => Vn zBw (h1.ev rfl)) ?_
     refine Tr.val (wg rfl rfl rfl) rfl (fun _ _ h1 h2 => VR (h1.ev rfl) (h1.ev rfl)) ?_
     refine Tr.val (wg rfl rfl rfl) rfl (fun _ _ h1 h2 => run_move (h1.ev rfl)) ?_
     refine Tr.Jl 2 [(0, (sv p0)), (4, (sv zl.1)), (18, (.bool false)), (22, (.bool true)), (28, (.bool ((decide (1 < (zl.1.size : Int))) || zl.2)))] [] ?_ ?_
     ·cases zC6 : (decide (1 < (zl.1.size : Int)))
      ·refine Tr.val (wg rfl rfl rfl) rfl (fun _ _ h1 h2 => run_move (h1.ev rfl)) ?_
       refine Tr.val (wg rfl rfl rfl) rfl (fun _ _ h1 h2 => zV (h1.ev rfl) (h1.ev rfl)) ?_
       exact Tr.nil (Tr.QI (.cons rfl (.cons rfl (.cons rfl (.cons rfl (.cons rfl .nil))))) .nil)
      ·refine Tr.pass rfl rfl rfl rfl rfl (by decide) ?_
       refine Tr.val (wg rfl rfl rfl) rfl (fun _ _ h1 h2 => zU (h1.ev rfl) (h1.ev rfl)) ?_
       exact Tr.nil (Tr.QI (.cons rfl (.cons rfl (.cons rfl (.cons rfl (.cons rfl .nil))))) .nil)
     ·show Tr _ _ (LF [(0, (sv p0)), (4, (sv zl.1)), (18, (.bool false)), (22, (.bool true)), (28, (.bool ((decide (1 < (zl.1.size : Int))) || zl.2)))]) (LE []) _
      refine Tr.val (wg rfl rfl rfl) rfl (fun _ _ h1 h2 => zU (h1.ev rfl) (h1.ev rfl)) ?_
      exact Tr.nil (Tr.QI (.cons rfl (.cons rfl (.cons rfl (.cons rfl .nil)))) .nil)
   ·show Tr _ _ (LF [(0, (sv p0)), (4, (sv zl.1)), (18, (.bool false)), (29, (.bool ((c104 == 48) && ((decide (1 < (zl.1.size : Int))) || zl.2))))]) (LE []) _
    refine Tr.va rfl (fun _ _ h1 h2 => zV (h1.ev rfl) (h1.ev rfl)) ?_
    obtain rfl := Option.some.inj H
    exact Tr.nil (Tr.QI (.cons rfl (.cons rfl (.cons rfl .nil))) .nil)
  ·rw [Wy] at Wz
   rw [if_pos rfl] at Wz
   have H := Wz
   obtain rfl := Option.some.inj H
   refine Tr.pass rfl rfl rfl rfl rfl (by decide) ?_
   refine Tr.pass rfl rfl rfl rfl rfl (by decide) ?_
   refine Tr.pass rfl rfl rfl rfl rfl (by decide) ?_
   refine Tr.pass rfl rfl rfl rfl rfl (by decide) ?_
   refine Tr.QX rfl rfl rfl rfl (by decide) ?_
   refine Tr.QX rfl rfl rfl rfl (by decide) ?_
   refine Tr.QX rfl rfl rfl rfl (by decide) ?_
   refine Tr.QX rfl rfl rfl rfl (by decide) ?_
   refine Tr.QX rfl rfl rfl rfl (by decide) ?_
   refine Tr.QX rfl rfl rfl rfl (by decide) ?_
   refine Tr.pass rfl rfl rfl rfl rfl (by decide) ?_
   refine Tr.va rfl (fun _ _ h1 h2 => zU (h1.ev rfl) (h1.ev rfl)) ?_
   exact Tr.nil (Tr.QI (.cons rfl (.cons rfl (.cons rfl .nil))) .nil)
 ·show Tr _ _ (LF [(0, (sv p0)), (4, (sv zl.1)), (30, (.bool zEB))]) (LE []) _
  refine Tr.nil (Tr.zA (Tr.cond rfl H (fun H => ?_) (fun H => ?_)))
  ·refine Tr.sr (Tr.asg rfl rfl (Tr.asg rfl rfl (Tr.nil (Tr.zA (Tr.ret (Tr.zM ?_))))))
   obtain rfl := Option.some.inj H
   exact Tr.out (m := [(iv 0), (.bool false)]) [] (zJ rfl (zJ rfl zR)) (fun W hW => ⟨rfl, hW.low leB⟩)
  ·refine Tr.skip (Tr.zA (Tr.seq (Tr.sr (Tr.asg rfl rfl (Tr.nil (Tr.zA (Tr.block (Tr.loop (σ := Int) (fun m w s => Jg p0 zl m s = some r) (fun s => [(0, (sv p0)), (4, (sv zl.1)), (6, (iv s))]) (fun s => []) N 0 H (.cons rfl (.cons rfl (.cons rfl .nil))) .nil (fun _ _ h => WM (h)) ?_))))))))
   intro w Qs mL1 VY hs
   have H := hs
   replace H : Jg p0 zl (mL1 + 1) VY = some r := H
   replace leB := leB.trans Qs
   rw [Jg.eq_2] at H
   show Tr _ _ (LF [(0, (sv p0)), (4, (sv zl.1)), (6, (iv VY))]) (LE []) _
   refine Tr.seq (Tr.sr (Tr.mv rfl rfl (Tr.mv rfl rfl (Tr.va rfl (fun _ _ h1 h2 => Vn zBw (h1.ev rfl)) ?_))))
   refine Tr.va rfl (fun _ _ h1 h2 => QV (h1.ev rfl) (h1.ev rfl)) ?_
   refine Tr.nil (Tr.zA (Tr.cond rfl H (fun H => ?_) (fun H => ?_)))
   ·refine Tr.skip (Tr.zA (Tr.seq (Tr.block (Tr.sr (Tr.mv rfl rfl (Tr.mv rfl rfl ?_))))))
    obtain ⟨c117, hc117, H⟩ := bnd H
    refine Tr.va rfl (fun _ _ h1 h2 => zA6 zBw (h1.ev rfl) (h1.ev rfl) hc117) ?_
    refine Tr.va rfl (fun _ _ h1 h2 => QV (h1.ev rfl) (h1.ev rfl)) ?_
    refine Tr.mv rfl rfl ?_
    obtain ⟨g119, zEQ, H⟩ := bnd H
    refine Tr.Jl 5 [(0, (sv p0)), (4, (sv zl.1)), (6, (iv VY)), (46, (.bool g119))] [] ?_ ?_
    ·cases zHG : (decide (c117 < 48))
     ·rw [zHG] at zEQ
      rw [if_neg (by decide)] at zEQ
      have H := zEQ
      refine Tr.val (wg rfl rfl rfl) rfl (fun _ _ h1 h2 => run_move (h1.ev rfl)) ?_
      refine Tr.val (wg rfl rfl rfl) rfl (fun _ _ h1 h2 => run_move (h1.ev rfl)) ?_
      obtain ⟨c120, hc120, H⟩ := bnd H
      refine Tr.val (wg rfl rfl rfl) rfl (fun _ _ h1 h2 => zA6 zBw (h1.ev rfl) (h1.ev rfl) hc120) ?_
      refine Tr.val (wg rfl rfl rfl) rfl (fun _ _ h1 h2 => VR (h1.ev rfl) (h1.ev rfl)) ?_
      refine Tr.va rfl (fun _ _ h1 h2 => zV (h1.ev rfl) (h1.ev rfl)) ?_
      obtain rfl := Option.some.inj H
      exact Tr.nil (Tr.QI (.cons rfl (.cons rfl (.cons rfl (.cons rfl .nil)))) .nil)
     ·rw [zHG] at zEQ
      rw [if_pos rfl] at zEQ
      have H := zEQ
      obtain rfl := Option.some.inj H
      refine Tr.pass rfl rfl rfl rfl rfl (by decide) ?_
      refine Tr.pass rfl rfl rfl rfl rfl (by decide) ?_
      refine Tr.pass rfl rfl rfl rfl rfl (by decide) ?_
      refine Tr.pass rfl rfl rfl rfl rfl (by decide) ?_
      refine Tr.va rfl (fun _ _ h1 h2 => zU (h1.ev rfl) (h1.ev rfl)) ?_
      exact Tr.nil (Tr.QI (.cons rfl (.cons rfl (.cons rfl (.cons rfl .nil)))) .nil)
    ·show Tr _ _ (LF [(0, (sv p0)), (4, (sv zl.1)), (6, (iv VY)), (46, (.bool g119))]) (LE []) _
     refine Tr.nil (Tr.zA (Tr.cond rfl H (fun H => ?_) (fun H => ?_)))
     ·refine Tr.sr (Tr.asg rfl rfl (Tr.asg rfl rfl (Tr.nil (Tr.zA (Tr.ret (Tr.zW (Tr.zM (Tr.zM (Tr.zW (Tr.zM ?_))))))))))
      obtain rfl := Option.some.inj H
      exact Tr.out (m := [(iv 0), (.bool false)]) [] (zJ rfl (zJ rfl zR)) (fun W hW => ⟨rfl, hW.low leB⟩)
     ·refine Tr.skip (Tr.zi (Tr.zA (Tr.region (Tr.mv rfl rfl (Tr.va rfl (fun _ _ h1 h2 => QS (h1.ev rfl) (h1.ev rfl)) ?_)))))
      exact Tr.asg rfl rfl (Tr.nil (Tr.zb Qs (w64 (VY + 1)) H (.cons rfl (.cons rfl (.cons rfl .nil))) .nil))
   ·refine Tr.exit (Tr.zx (Tr.zx (Tr.Qd (Tr.zA (Tr.sr (Tr.mv rfl rfl ?_))))))
    obtain ⟨y121, hy121, H⟩ := bnd H
    refine Tr.Qa (r := (.tuple #[(iv y121), .nilIface])) (wn rfl) rfl Tryz.call83 (zI rfl zT) (fun W hW => zDz p0 y121 hy121 (HF.start _)) ?_
    refine Tr.mv rfl rfl (Tr.va rfl (fun _ _ h1 h2 => QC (h1.ev rfl) rfl) ?_)
    refine Tr.va rfl (fun _ _ h1 h2 => QC (h1.ev rfl) rfl) ?_
    refine Tr.asg rfl rfl (Tr.asg rfl rfl (Tr.nil (Tr.zA (Tr.sr (Tr.mv rfl rfl (Tr.asg rfl rfl (Tr.asg rfl rfl (Tr.nil (Tr.zA (Tr.ret ?_))))))))))
    obtain rfl := Option.some.inj H
    exact Tr.out (m := [(iv y121), (.bool true)]) [] (zJ rfl (zJ rfl zR)) (fun W hW => ⟨rfl, hW.low leB⟩)

theorem zDd (N : Nat) {w : Bs} (p0 : (List ByteArray)) (zG : Option Addr) (zH : Nat) (ze : Sl w.R w.W JG zG zH p0) (r : ((List Int) × Bool)) (H : VW N p0 = some r) (hE : HF w w.W (LEn [emp])) : Calls Tryz.prog 40 [(.slice zG p0.length zH)].toArray w.W fun e W' => ∃ u : (Option Addr × Nat), e = .returned (.tuple #[(.slice u.1 r.1.length u.2), (.bool r.2)]) ∧ (SlF u.1 r.1.length u.2) ∧ HF w W' (LEn [ow u.1 u.2 3 QT r.1]) := by
 unfold VW at H
 have leB := Bs.Le.refl w
 refine Tr.enter (n := 29) Tryz.func40 rfl rfl rfl hE ?_
 refine Tr.sr (Tr.asg rfl rfl (Tr.JZ 1 3 QT ?_))
 show Tr _ _ (uf _ 2 (.slice none (([] : List Int)).length 0)) _ _
 refine Tr.asg rfl rfl (Tr.nil (Tr.zA (Tr.sr (Tr.asg rfl rfl (Tr.JZ 2 3 QT ?_)))))
 show Tr _ _ (uf _ 4 (.slice none (([] : List Int)).length 0)) _ _
 refine Tr.nil (Tr.zA (Tr.seq (Tr.sr (Tr.asg rfl rfl (Tr.nil (Tr.zA (Tr.block (Tr.loop (σ := (List Int) × Int × (Option Addr) × Nat) (fun m w s => JX N p0 m s.1 s.2.1 = some r ∧ SlF s.2.2.1 s.1.length s.2.2.2) (fun s => [(0, (.slice zG p0.length zH)), (4, (.slice s.2.2.1 s.1.length s.2.2.2)), (5, (iv s.2.1))]) (fun s => [(2, ow s.2.2.1 s.2.2.2 3 QT s.1)]) N (([] : List Int), 0, none, 0) ⟨H, Qr⟩ (.cons rfl (.cons rfl (.cons rfl .nil))) (.cons rfl .nil) (fun _ _ h => WM (h.1)) ?_))))))))
 intro w Qs mL1 s hs
 obtain ⟨Kl, x115, zBS, zBQ⟩ := s
 obtain ⟨H, zB4⟩ := hs
 replace H : JX N p0 (mL1 + 1) Kl x115 = some r := H
 replace ze := ze.leR Qs
 replace leB := leB.trans Qs
 replace zB4 : SlF zBS Kl.length zBQ := zB4
 rw [JX.eq_2] at H
 show Tr _ _ (LF [(0, (.slice zG p0.length zH)), (4, (.slice zBS Kl.length zBQ)), (5, (iv x115))]) (LE [(2, ow zBS zBQ 3 QT Kl)]) _
 refine Tr.seq (Tr.sr (Tr.mv rfl rfl (Tr.mv rfl rfl (Tr.va rfl (fun _ _ h1 h2 => QG zFZ (h1.ev rfl)) ?_))))
 refine Tr.va rfl (fun _ _ h1 h2 => QV (h1.ev rfl) (h1.ev rfl)) ?_
 refine Tr.nil (Tr.zA (Tr.cond rfl H (fun H => ?_) (fun H => ?_)))
 ·refine Tr.skip (Tr.zA (Tr.seq (Tr.block (Tr.sr (Tr.mv rfl rfl (Tr.mv rfl rfl ?_))))))
  obtain ⟨VY, hx116, H⟩ := bnd H
  obtain ⟨hx1160, hx1161, hx1162⟩ := zw hx116
  refine Tr.va rfl (fun _ _ h1 h2 => zN zAP (h1.ev rfl) ze.form (h1.ev rfl) hx1160 hx1161) ?_
  refine Tr.va rfl (fun _ _ h1 h2 => zF zAR (h1.ev rfl) (rdF Wq ze hx1162 h2) rfl) ?_
  obtain ⟨zGA, hy117, H⟩ := bnd H
  refine Tr.Qa (r := (.tuple #[(iv zGA.1), (.bool zGA.2)])) (wn rfl) rfl Tryz.call59 (zI rfl zT) (fun W hW => zDl N VY zGA hy117 (HF.start _)) ?_
  refine Tr.mv rfl rfl (Tr.va rfl (fun _ _ h1 h2 => QC (h1.ev rfl) rfl) ?_)
  refine Tr.va rfl (fun _ _ h1 h2 => QC (h1.ev rfl) rfl) ?_
  refine Tr.asg rfl rfl (Tr.asg rfl rfl (Tr.nil (Tr.zA (Tr.seq (Tr.sr (Tr.mv rfl rfl (Tr.va rfl (fun _ _ h1 h2 => Qb (h1.ev rfl)) ?_)))))))
  refine Tr.nil (Tr.zA (Tr.cond rfl H (fun H => ?_) (fun H => ?_)))
  ·refine Tr.sr (Tr.asg rfl rfl (Tr.JZ 7 3 QT ?_))
   show Tr _ _ (uf _ 2 (.slice none (([] : List Int)).length 0)) _ _
   refine Tr.asg rfl rfl (Tr.nil (Tr.zA (Tr.ret (Tr.zM (Tr.zW (Tr.zM (Tr.zM (Tr.zW (Tr.zM ?_)))))))))
   obtain rfl := Option.some.inj H
   exact Tr.out (m := [(.slice none (([] : List Int)).length 0), (.bool false)]) [] (zJ rfl (zJ rfl zR)) (fun W hW => ⟨(none, 0), rfl, Qr, HF.zH0 leB (hW.pick (ks := [7]) (by decide) (zO rfl QH)) ⟨zCW _ _ _ _ zFb, trivial⟩⟩)
  ·refine Tr.skip (Tr.zA (Tr.region (Tr.mv rfl rfl (Tr.mv rfl rfl (Tr.buildSlice 8 (e := 3) (vs := [(0, (iv zGA.1))]) (cs := [(iv zGA.1)]) (wn rfl) rfl (QE rfl Qj) (by kernel_rfl) fun b118 => ?_)))))
   obtain ⟨l119, hl119, H⟩ := bnd H
   refine Tr.append 2 (t := QT) (l := Kl) (l2 := [zGA.1]) (wn rfl) rfl rfl rfl rfl (fun W hW => ⟨[[(iv zGA.1)]], (.cons ⟨(), trivial, rfl⟩ .nil), rdb hW (vs := [(iv zGA.1)]) (k := 8) rfl 0⟩) zEH zJa zl_3 (by decide) by_3 rfl hl119 fun Al119 cl119 hAl119 => ?_
   refine Tr.asg rfl rfl (Tr.nil (Tr.zi (Tr.zA (Tr.region (Tr.mv rfl rfl (Tr.va rfl (fun _ _ h1 h2 => QS (h1.ev rfl) (h1.ev rfl)) ?_))))))
   exact Tr.asg rfl rfl (Tr.nil (Tr.zb Qs (l119, (w64 (x115 + 1)), Al119, cl119) ⟨H, hAl119⟩ (.cons rfl (.cons rfl (.cons rfl .nil))) (.cons rfl .nil)))
 ·refine Tr.exit (Tr.zx (Tr.zx (Tr.Qd (Tr.zA (Tr.sr (Tr.mv rfl rfl (Tr.asg rfl rfl (Tr.asg rfl rfl (Tr.nil (Tr.zA (Tr.ret ?_)))))))))))
  obtain rfl := Option.some.inj H
  exact Tr.out (m := [(.slice zBS Kl.length zBQ), (.bool true)]) [] (zJ rfl (zJ rfl zR)) (fun W hW => ⟨(zBS, zBQ), rfl, zB4, HF.zH0 leB (hW.pick (ks := [2]) (by decide) (zO rfl QH)) ⟨zCW _ _ _ _ zFb, trivial⟩⟩)

end Go.Proofs.YtokanbmnoghafaaGreatDoor
