/- The walks: each function computes its plain function. -/
import Derived.Test.YtoageaoknnnfbaaGreatDoorXF
namespace Go.Proofs.YtoageaoknnnfbaaGreatDoor
open Go.RowKit
set_option maxRecDepth 100000
set_option maxHeartbeats 1000000
theorem zAl {w : Bs} (p0 : Int) (p1 : Int) (p2 : Int) (r : Bool) (H : VP p0 p1 p2 = some r) (hE : HF w w.W E0) : Calls Tryz.prog 22 [iv p0, iv p1, iv p2].toArray w.W fun e W' => e = .returned (bV r) ∧ HF w W' E0 := by
 unfold VP at H
 have leB := Bs.Le.refl w
 refine Tr.enter (n := 15) Tryz.func22 rfl rfl rfl hE (Tr.sr (Tr.asg rfl rfl (Tr.nil (Tr.zA (Tr.sr (Tr.mv rfl rfl (Tr.mv rfl rfl (Tr.va rfl (fun _ _ a c => zEo (a.ev rfl) (a.ev rfl)) (Tr.mv rfl rfl (Tr.VJ 4 [(14, bV ((decide (p1 ≤ p0)) && (decide (p0 ≤ p2))))] [] ?_ ?_))))))))))
 ·cases zY1 : (decide (p1 ≤ p0))
  ·exact Tr.pass rfl rfl rfl rfl rfl (by decide) (Tr.pass rfl rfl rfl rfl rfl (by decide) (Tr.pass rfl rfl rfl rfl rfl (by decide) (Tr.va rfl (fun _ _ a c => zo (a.ev rfl) (a.ev rfl)) (Tr.nil (Tr.Qi (.cons rfl .nil) .nil)))))
  ·exact Tr.val (wg rfl rfl rfl) rfl (fun _ _ a c => run_move (a.ev rfl)) (Tr.val (wg rfl rfl rfl) rfl (fun _ _ a c => run_move (a.ev rfl)) (Tr.val (wg rfl rfl rfl) rfl (fun _ _ a c => zBR (a.ev rfl) (a.ev rfl)) (Tr.va rfl (fun _ _ a c => zn (a.ev rfl) (a.ev rfl)) (Tr.nil (Tr.Qi (.cons rfl .nil) .nil)))))
 ·show Tr _ _ (LF [(14, bV ((decide (p1 ≤ p0)) && (decide (p0 ≤ p2))))]) (LE []) _
  refine Tr.asg rfl rfl (Tr.nil (Tr.zA (Tr.ret ?_)))
  obtain rfl := oI H
  exact Tr.out (m := [bV ((decide (p1 ≤ p0)) && (decide (p0 ≤ p2)))]) [] (zU rfl zT) (fun W hW => ⟨rfl, hW.low leB⟩)

theorem zNW (N : Nat) {w : Bs} (p0 : ByteArray) (r : Bool) (H : WM N p0 = some r) (hE : HF w w.W E0) : Calls Tryz.prog 71 [sv p0].toArray w.W fun e W' => e = .returned (bV r) ∧ HF w W' E0 := by
 unfold WM at H
 have leB := Bs.Le.refl w
 refine Tr.enter (n := 59) Tryz.func71 rfl rfl rfl hE (Tr.sr (Tr.asg rfl rfl (Tr.nil (Tr.zA (Tr.seq (Tr.sr (Tr.mv rfl rfl (Tr.va rfl (fun _ _ a c => zO0 zc1 (a.ev rfl)) (Tr.mv rfl rfl (Tr.nil (Tr.zA (Tr.block (Tr.loop (σ := Int) (fun m w s => Wt p0 m s = some r) (fun s => [(0, sv p0), (7, iv (p0.size : Int)), (8, iv s)]) (fun s => []) N 0 H (.cons rfl (.cons rfl (.cons rfl .nil))) .nil (fun _ _ h => zAQ (h)) ?_)))))))))))))
 intro w Qe mL1 x105 hs
 have H := hs
 replace H : Wt p0 (mL1 + 1) x105 = some r := H
 replace leB := leB.trans Qe
 rw [Wt.eq_2] at H
 show Tr _ _ (LF [(0, sv p0), (7, iv (p0.size : Int)), (8, iv x105)]) (LE []) _
 refine Tr.sr (Tr.va rfl (fun _ _ a c => QE (a.ev rfl) (a.ev rfl)) (Tr.nil (Tr.zA (Tr.seq (Tr.cond rfl H (fun H => ?_) (fun H => ?_))))))
 ·refine Tr.skip (Tr.zA (Tr.seq (Tr.block (Tr.sr (Tr.mv rfl rfl (Tr.asg rfl rfl (Tr.nil (Tr.zA (Tr.sr (Tr.mv rfl rfl (Tr.mv rfl rfl ?_)))))))))))
  obtain ⟨c106, zmm, H⟩ := bnd H
  refine Tr.va rfl (fun _ _ a c => zVM zc1 (a.ev rfl) (a.ev rfl) zmm) (Tr.asg rfl rfl (Tr.nil (Tr.zA (Tr.sr (Tr.mv rfl rfl (Tr.va rfl (fun _ _ a c => zEo (a.ev rfl) (a.ev rfl)) (Tr.mv rfl rfl (Tr.VJ 3 [(0, sv p0), (3, iv x105), (4, .int .u8 c106), (7, iv (p0.size : Int)), (8, iv x105), (19, bV ((decide (97 ≤ c106)) && (decide (c106 ≤ 122))))] [] ?_ ?_))))))))
  ·cases zGL : (decide (97 ≤ c106))
   ·exact Tr.pass rfl rfl rfl rfl rfl (by decide) (Tr.pass rfl rfl rfl rfl rfl (by decide) (Tr.va rfl (fun _ _ a c => zo (a.ev rfl) (a.ev rfl)) (Tr.nil (Tr.Qi (.cons rfl (.cons rfl (.cons rfl (.cons rfl (.cons rfl (.cons rfl .nil)))))) .nil))))
   ·exact Tr.val (wg rfl rfl rfl) rfl (fun _ _ a c => run_move (a.ev rfl)) (Tr.val (wg rfl rfl rfl) rfl (fun _ _ a c => zBR (a.ev rfl) (a.ev rfl)) (Tr.va rfl (fun _ _ a c => zn (a.ev rfl) (a.ev rfl)) (Tr.nil (Tr.Qi (.cons rfl (.cons rfl (.cons rfl (.cons rfl (.cons rfl (.cons rfl .nil)))))) .nil))))
  ·show Tr _ _ (LF [(0, sv p0), (3, iv x105), (4, .int .u8 c106), (7, iv (p0.size : Int)), (8, iv x105), (19, bV ((decide (97 ≤ c106)) && (decide (c106 ≤ 122))))]) (LE []) _
   refine Tr.mv rfl rfl (Tr.VJ 7 [(0, sv p0), (3, iv x105), (4, .int .u8 c106), (7, iv (p0.size : Int)), (8, iv x105), (27, bV (((decide (97 ≤ c106)) && (decide (c106 ≤ 122))) || ((decide (65 ≤ c106)) && (decide (c106 ≤ 90)))))] [] ?_ ?_)
   ·cases zGL : ((decide (97 ≤ c106)) && (decide (c106 ≤ 122)))
    ·refine Tr.val (wg rfl rfl rfl) rfl (fun _ _ a c => run_move (a.ev rfl)) (Tr.val (wg rfl rfl rfl) rfl (fun _ _ a c => zEo (a.ev rfl) (a.ev rfl)) (Tr.val (wg rfl rfl rfl) rfl (fun _ _ a c => run_move (a.ev rfl)) (Tr.VJ 3 [(0, sv p0), (3, iv x105), (4, .int .u8 c106), (7, iv (p0.size : Int)), (8, iv x105), (20, bV false), (26, bV ((decide (65 ≤ c106)) && (decide (c106 ≤ 90))))] [] ?_ ?_)))
     ·cases zGL : (decide (65 ≤ c106))
      ·exact Tr.pass rfl rfl rfl rfl rfl (by decide) (Tr.pass rfl rfl rfl rfl rfl (by decide) (Tr.val (wg rfl rfl rfl) rfl (fun _ _ a c => zo (a.ev rfl) (a.ev rfl)) (Tr.nil (Tr.Qi (.cons rfl (.cons rfl (.cons rfl (.cons rfl (.cons rfl (.cons rfl (.cons rfl .nil))))))) .nil))))
      ·exact Tr.val (wg rfl rfl rfl) rfl (fun _ _ a c => run_move (a.ev rfl)) (Tr.val (wg rfl rfl rfl) rfl (fun _ _ a c => zBR (a.ev rfl) (a.ev rfl)) (Tr.val (wg rfl rfl rfl) rfl (fun _ _ a c => zn (a.ev rfl) (a.ev rfl)) (Tr.nil (Tr.Qi (.cons rfl (.cons rfl (.cons rfl (.cons rfl (.cons rfl (.cons rfl (.cons rfl .nil))))))) .nil))))
     ·dsimp only
      exact Tr.va rfl (fun _ _ a c => zo (a.ev rfl) (a.ev rfl)) (Tr.nil (Tr.Qi (.cons rfl (.cons rfl (.cons rfl (.cons rfl (.cons rfl (.cons rfl .nil)))))) .nil))
    ·exact Tr.pass rfl rfl rfl rfl rfl (by decide) (Tr.pass rfl rfl rfl rfl rfl (by decide) (Tr.pass rfl rfl rfl rfl rfl (by decide) (Tr.Wi rfl rfl rfl rfl (by decide) (Tr.Wi rfl rfl rfl rfl (by decide) (Tr.pass rfl rfl rfl rfl rfl (by decide) (Tr.va rfl (fun _ _ a c => zn (a.ev rfl) (a.ev rfl)) (Tr.nil (Tr.Qi (.cons rfl (.cons rfl (.cons rfl (.cons rfl (.cons rfl (.cons rfl .nil)))))) .nil))))))))
   ·show Tr _ _ (LF [(0, sv p0), (3, iv x105), (4, .int .u8 c106), (7, iv (p0.size : Int)), (8, iv x105), (27, bV (((decide (97 ≤ c106)) && (decide (c106 ≤ 122))) || ((decide (65 ≤ c106)) && (decide (c106 ≤ 90)))))]) (LE []) _
    refine Tr.asg rfl rfl (Tr.nil (Tr.zA (Tr.sr (Tr.mv rfl rfl (Tr.va rfl (fun _ _ a c => KI (a.ev rfl)) (Tr.mv rfl rfl (Tr.VJ 19 [(0, sv p0), (7, iv (p0.size : Int)), (8, iv x105), (49, bV ((!(((decide (97 ≤ c106)) && (decide (c106 ≤ 122))) || ((decide (65 ≤ c106)) && (decide (c106 ≤ 90))))) && ((x105 == 0) || ((((decide (c106 < 48)) || (decide (57 < c106))) && (c106 != 95)) && (c106 != 45)))))] [] ?_ ?_)))))))
    ·cases zGL : (!(((decide (97 ≤ c106)) && (decide (c106 ≤ 122))) || ((decide (65 ≤ c106)) && (decide (c106 ≤ 90)))))
     ·exact Tr.pass rfl rfl rfl rfl rfl (by decide) (Tr.pass rfl rfl rfl rfl rfl (by decide) (Tr.pass rfl rfl rfl rfl rfl (by decide) (Tr.Wi rfl rfl rfl rfl (by decide) (Tr.Wi rfl rfl rfl rfl (by decide) (Tr.Wi rfl rfl rfl rfl (by decide) (Tr.Wi rfl rfl rfl rfl (by decide) (Tr.Wi rfl rfl rfl rfl (by decide) (Tr.Wi rfl rfl rfl rfl (by decide) (Tr.Wi rfl rfl rfl rfl (by decide) (Tr.Wi rfl rfl rfl rfl (by decide) (Tr.Wi rfl rfl rfl rfl (by decide) (Tr.Wi rfl rfl rfl rfl (by decide) (Tr.Wi rfl rfl rfl rfl (by decide) (Tr.Wi rfl rfl rfl rfl (by decide) (Tr.Wi rfl rfl rfl rfl (by decide) (Tr.Wi rfl rfl rfl rfl (by decide) (Tr.pass rfl rfl rfl rfl rfl (by decide) (Tr.va rfl (fun _ _ a c => zo (a.ev rfl) (a.ev rfl)) (Tr.nil (Tr.Qi (.cons rfl (.cons rfl (.cons rfl (.cons rfl .nil)))) .nil))))))))))))))))))))
     ·refine Tr.val (wg rfl rfl rfl) rfl (fun _ _ a c => run_move (a.ev rfl)) (Tr.val (wg rfl rfl rfl) rfl (fun _ _ a c => Qa (a.ev rfl) (a.ev rfl)) (Tr.val (wg rfl rfl rfl) rfl (fun _ _ a c => run_move (a.ev rfl)) (Tr.VJ 15 [(0, sv p0), (7, iv (p0.size : Int)), (8, iv x105), (30, bV true), (48, bV ((x105 == 0) || ((((decide (c106 < 48)) || (decide (57 < c106))) && (c106 != 95)) && (c106 != 45))))] [] ?_ ?_)))
      ·cases zGL : (x105 == 0)
       ·refine Tr.val (wg rfl rfl rfl) rfl (fun _ _ a c => run_move (a.ev rfl)) (Tr.val (wg rfl rfl rfl) rfl (fun _ _ a c => QE (a.ev rfl) (a.ev rfl)) (Tr.val (wg rfl rfl rfl) rfl (fun _ _ a c => run_move (a.ev rfl)) (Tr.VJ 3 [(0, sv p0), (4, .int .u8 c106), (7, iv (p0.size : Int)), (8, iv x105), (30, bV true), (33, bV false), (39, bV ((decide (c106 < 48)) || (decide (57 < c106))))] [] ?_ ?_)))
        ·cases zGL : (decide (c106 < 48))
         ·exact Tr.val (wg rfl rfl rfl) rfl (fun _ _ a c => run_move (a.ev rfl)) (Tr.val (wg rfl rfl rfl) rfl (fun _ _ a c => WO (a.ev rfl) (a.ev rfl)) (Tr.val (wg rfl rfl rfl) rfl (fun _ _ a c => zo (a.ev rfl) (a.ev rfl)) (Tr.nil (Tr.Qi (.cons rfl (.cons rfl (.cons rfl (.cons rfl (.cons rfl (.cons rfl (.cons rfl .nil))))))) .nil))))
         ·exact Tr.pass rfl rfl rfl rfl rfl (by decide) (Tr.pass rfl rfl rfl rfl rfl (by decide) (Tr.val (wg rfl rfl rfl) rfl (fun _ _ a c => zn (a.ev rfl) (a.ev rfl)) (Tr.nil (Tr.Qi (.cons rfl (.cons rfl (.cons rfl (.cons rfl (.cons rfl (.cons rfl (.cons rfl .nil))))))) .nil))))
        ·dsimp only
         refine Tr.val (wg rfl rfl rfl) rfl (fun _ _ a c => run_move (a.ev rfl)) (Tr.VJ 3 [(0, sv p0), (4, .int .u8 c106), (7, iv (p0.size : Int)), (8, iv x105), (30, bV true), (33, bV false), (43, bV (((decide (c106 < 48)) || (decide (57 < c106))) && (c106 != 95)))] [] ?_ ?_)
         ·cases zGL : ((decide (c106 < 48)) || (decide (57 < c106)))
          ·exact Tr.pass rfl rfl rfl rfl rfl (by decide) (Tr.pass rfl rfl rfl rfl rfl (by decide) (Tr.val (wg rfl rfl rfl) rfl (fun _ _ a c => zo (a.ev rfl) (a.ev rfl)) (Tr.nil (Tr.Qi (.cons rfl (.cons rfl (.cons rfl (.cons rfl (.cons rfl (.cons rfl (.cons rfl .nil))))))) .nil))))
          ·exact Tr.val (wg rfl rfl rfl) rfl (fun _ _ a c => run_move (a.ev rfl)) (Tr.val (wg rfl rfl rfl) rfl (fun _ _ a c => Jt (a.ev rfl) (a.ev rfl)) (Tr.val (wg rfl rfl rfl) rfl (fun _ _ a c => zn (a.ev rfl) (a.ev rfl)) (Tr.nil (Tr.Qi (.cons rfl (.cons rfl (.cons rfl (.cons rfl (.cons rfl (.cons rfl (.cons rfl .nil))))))) .nil))))
         ·dsimp only
          refine Tr.val (wg rfl rfl rfl) rfl (fun _ _ a c => run_move (a.ev rfl)) (Tr.VJ 3 [(0, sv p0), (7, iv (p0.size : Int)), (8, iv x105), (30, bV true), (33, bV false), (47, bV ((((decide (c106 < 48)) || (decide (57 < c106))) && (c106 != 95)) && (c106 != 45)))] [] ?_ ?_)
          ·cases zGL : (((decide (c106 < 48)) || (decide (57 < c106))) && (c106 != 95))
           ·exact Tr.pass rfl rfl rfl rfl rfl (by decide) (Tr.pass rfl rfl rfl rfl rfl (by decide) (Tr.val (wg rfl rfl rfl) rfl (fun _ _ a c => zo (a.ev rfl) (a.ev rfl)) (Tr.nil (Tr.Qi (.cons rfl (.cons rfl (.cons rfl (.cons rfl (.cons rfl (.cons rfl .nil)))))) .nil))))
           ·exact Tr.val (wg rfl rfl rfl) rfl (fun _ _ a c => run_move (a.ev rfl)) (Tr.val (wg rfl rfl rfl) rfl (fun _ _ a c => Jt (a.ev rfl) (a.ev rfl)) (Tr.val (wg rfl rfl rfl) rfl (fun _ _ a c => zn (a.ev rfl) (a.ev rfl)) (Tr.nil (Tr.Qi (.cons rfl (.cons rfl (.cons rfl (.cons rfl (.cons rfl (.cons rfl .nil)))))) .nil))))
          ·dsimp only
           exact Tr.val (wg rfl rfl rfl) rfl (fun _ _ a c => zo (a.ev rfl) (a.ev rfl)) (Tr.nil (Tr.Qi (.cons rfl (.cons rfl (.cons rfl (.cons rfl (.cons rfl .nil))))) .nil))
       ·exact Tr.pass rfl rfl rfl rfl rfl (by decide) (Tr.pass rfl rfl rfl rfl rfl (by decide) (Tr.pass rfl rfl rfl rfl rfl (by decide) (Tr.Wi rfl rfl rfl rfl (by decide) (Tr.Wi rfl rfl rfl rfl (by decide) (Tr.pass rfl rfl rfl rfl rfl (by decide) (Tr.pass rfl rfl rfl rfl rfl (by decide) (Tr.Wi rfl rfl rfl rfl (by decide) (Tr.Wi rfl rfl rfl rfl (by decide) (Tr.pass rfl rfl rfl rfl rfl (by decide) (Tr.pass rfl rfl rfl rfl rfl (by decide) (Tr.Wi rfl rfl rfl rfl (by decide) (Tr.Wi rfl rfl rfl rfl (by decide) (Tr.pass rfl rfl rfl rfl rfl (by decide) (Tr.val (wg rfl rfl rfl) rfl (fun _ _ a c => zn (a.ev rfl) (a.ev rfl)) (Tr.nil (Tr.Qi (.cons rfl (.cons rfl (.cons rfl (.cons rfl (.cons rfl .nil))))) .nil))))))))))))))))
      ·dsimp only
       exact Tr.va rfl (fun _ _ a c => zn (a.ev rfl) (a.ev rfl)) (Tr.nil (Tr.Qi (.cons rfl (.cons rfl (.cons rfl (.cons rfl .nil)))) .nil))
    ·show Tr _ _ (LF [(0, sv p0), (7, iv (p0.size : Int)), (8, iv x105), (49, bV ((!(((decide (97 ≤ c106)) && (decide (c106 ≤ 122))) || ((decide (65 ≤ c106)) && (decide (c106 ≤ 90))))) && ((x105 == 0) || ((((decide (c106 < 48)) || (decide (57 < c106))) && (c106 != 95)) && (c106 != 45)))))]) (LE []) _
     refine Tr.nil (Tr.zA (Tr.cond rfl H (fun H => ?_) (fun H => ?_)))
     ·refine Tr.sr (Tr.asg rfl rfl (Tr.nil (Tr.zA (Tr.ret (Tr.QI (Tr.zg (Tr.zg (Tr.QI (Tr.zg ?_)))))))))
      obtain rfl := oI H
      exact Tr.out (m := [bV false]) [] (zU rfl zT) (fun W hW => ⟨rfl, hW.low leB⟩)
     ·exact Tr.skip (Tr.zh (Tr.zA (Tr.region (Tr.va rfl (fun _ _ a c => QA (a.ev rfl) (a.ev rfl)) (Tr.mv rfl rfl (Tr.nil (Tr.zf Qe (w64 (x105 + 1)) H (.cons rfl (.cons rfl (.cons rfl .nil))) .nil)))))))
 ·refine Tr.exit (Tr.zi (Tr.zi (Tr.QL (Tr.zA (Tr.sr (Tr.mv rfl rfl (Tr.va rfl (fun _ _ a c => zO0 zc1 (a.ev rfl)) (Tr.va rfl (fun _ _ a c => zEo (a.ev rfl) (a.ev rfl)) (Tr.mv rfl rfl (Tr.VJ 4 [(58, bV ((decide (1 ≤ (p0.size : Int))) && (decide ((p0.size : Int) ≤ 40))))] [] ?_ ?_))))))))))
  ·cases zGL : (decide (1 ≤ (p0.size : Int)))
   ·exact Tr.pass rfl rfl rfl rfl rfl (by decide) (Tr.pass rfl rfl rfl rfl rfl (by decide) (Tr.pass rfl rfl rfl rfl rfl (by decide) (Tr.va rfl (fun _ _ a c => zo (a.ev rfl) (a.ev rfl)) (Tr.nil (Tr.Qi (.cons rfl .nil) .nil)))))
   ·exact Tr.val (wg rfl rfl rfl) rfl (fun _ _ a c => run_move (a.ev rfl)) (Tr.val (wg rfl rfl rfl) rfl (fun _ _ a c => zO0 zc1 (a.ev rfl)) (Tr.val (wg rfl rfl rfl) rfl (fun _ _ a c => zBR (a.ev rfl) (a.ev rfl)) (Tr.va rfl (fun _ _ a c => zn (a.ev rfl) (a.ev rfl)) (Tr.nil (Tr.Qi (.cons rfl .nil) .nil)))))
  ·show Tr _ _ (LF [(58, bV ((decide (1 ≤ (p0.size : Int))) && (decide ((p0.size : Int) ≤ 40))))]) (LE []) _
   refine Tr.asg rfl rfl (Tr.nil (Tr.zA (Tr.ret ?_)))
   obtain rfl := oI H
   exact Tr.out (m := [bV ((decide (1 ≤ (p0.size : Int))) && (decide ((p0.size : Int) ≤ 40)))]) [] (zU rfl zT) (fun W hW => ⟨rfl, hW.low leB⟩)

theorem zBj {w : Bs} (p0 : Int) (p1 : Int) (r : Bool) (H : zAi p0 p1 = some r) (hE : HF w w.W E0) : Calls Tryz.prog 72 [iv p0, iv p1].toArray w.W fun e W' => e = .returned (bV r) ∧ HF w W' E0 := by
 unfold zAi at H
 have leB := Bs.Le.refl w
 refine Tr.enter (n := 11) Tryz.func72 rfl rfl rfl hE (Tr.sr (Tr.asg rfl rfl (Tr.nil (Tr.zA (Tr.seq (Tr.draw (by kernel_rfl) (by kernel_rfl) (Tq.mv rfl rfl (Tq.mv rfl rfl ?_))))))))
 obtain ⟨q100, zly, H⟩ := bnd H
 refine Tq.va rfl (fun _ _ a c => zZw (a.ev rfl) (a.ev rfl) zly) (Tq.mv rfl rfl ?_)
 obtain ⟨q101, zlx, H⟩ := bnd H
 refine Tq.va rfl (fun _ _ a c => zZw (a.ev rfl) (a.ev rfl) zlx) ?_
 obtain ⟨y102, hy102, H⟩ := bnd H
 refine Tq.Qs (r := (bV y102)) (wn rfl) rfl Tryz.call22 (zI rfl (zI rfl (zI rfl zS))) (fun W hW => zAl p0 q100 q101 y102 hy102 (HF.start _)) (Tq.asg rfl rfl (Tq.nil (Tr.zA (Tr.ret ?_))))
 obtain rfl := oI H
 exact Tr.out (m := [bV y102]) [] (zU rfl zT) (fun W hW => ⟨rfl, hW.low leB⟩)

theorem zKd (N : Nat) {w : Bs} (p0 : zZ) (zF : Option Addr) (zG : Nat) (zP : Sl w.R w.W zY zF zG p0.Rects) (p1 : Int) (r : Int) (H : zBk N p0 p1 = some r) (hE : HF w w.W E0) : Calls Tryz.prog 41 [.agg #[sv p0.Name, sL zF p0.Rects zG], iv p1].toArray w.W fun e W' => e = .returned (iv r) ∧ HF w W' E0 := by
 unfold zBk at H
 have leB := Bs.Le.refl w
 refine Tr.enter (n := 65) Tryz.func41 rfl rfl rfl hE (Tr.sr (Tr.box 1 (cs := [sv p0.Name, sL zF p0.Rects zG]) (wn rfl) rfl rfl rfl fun zt => (Tr.asg rfl rfl (Tr.nil (Tr.zA (Tr.seq (Tr.sr (Tr.va rfl (fun _ _ a c => zB zIG (a.ev rfl)) (Tr.va rfl (fun _ _ a c => zD zHF (a.ev rfl) (rdb c (vs := [sv p0.Name, sL zF p0.Rects zG]) (k := 1) rfl 0) rfl) ?_)))))))))
 obtain ⟨y101, hy101, H⟩ := bnd H
 refine Tr.Qs (r := (bV y101)) (wn rfl) rfl Tryz.call71 (zI rfl zS) (fun W hW => zNW N p0.Name y101 hy101 (HF.start _)) (Tr.va rfl (fun _ _ a c => KI (a.ev rfl)) (Tr.nil (Tr.zA (Tr.cond rfl H (fun H => ?_) (fun H => ?_)))))
 ·refine Tr.sr (Tr.asg rfl rfl (Tr.nil (Tr.zA (Tr.ret (Tr.zg ?_)))))
  obtain rfl := oI H
  exact Tr.out (m := [iv 5]) [] (zU rfl zT) (fun W hW => ⟨rfl, hW.low leB⟩)
 ·refine Tr.skip (Tr.zA (Tr.seq (Tr.sr (Tr.va rfl (fun _ _ a c => zB zBx (a.ev rfl)) (Tr.va rfl (fun _ _ a c => zD zHh (a.ev rfl) (rdb c (vs := [sv p0.Name, sL zF p0.Rects zG]) (k := 1) rfl 1) rfl) (Tr.va rfl (fun _ _ a c => zy zBQ (a.ev rfl)) (Tr.va rfl (fun _ _ a c => Qa (a.ev rfl) (a.ev rfl)) (Tr.nil (Tr.zA (Tr.cond rfl H (fun H => ?_) (fun H => ?_)))))))))))
  ·refine Tr.sr (Tr.asg rfl rfl (Tr.nil (Tr.zA (Tr.ret (Tr.zg ?_)))))
   obtain rfl := oI H
   exact Tr.out (m := [iv 9]) [] (zU rfl zT) (fun W hW => ⟨rfl, hW.low leB⟩)
  ·refine Tr.skip (Tr.zA (Tr.seq (Tr.sr (Tr.va rfl (fun _ _ a c => zB zBx (a.ev rfl)) (Tr.va rfl (fun _ _ a c => zD zHh (a.ev rfl) (rdb c (vs := [sv p0.Name, sL zF p0.Rects zG]) (k := 1) rfl 1) rfl) (Tr.va rfl (fun _ _ a c => zy zBQ (a.ev rfl)) (Tr.va rfl (fun _ _ a c => WO (a.ev rfl) (a.ev rfl)) (Tr.nil (Tr.zA (Tr.cond rfl H (fun H => ?_) (fun H => ?_)))))))))))
   ·refine Tr.sr (Tr.asg rfl rfl (Tr.nil (Tr.zA (Tr.ret (Tr.zg ?_)))))
    obtain rfl := oI H
    exact Tr.out (m := [iv 2]) [] (zU rfl zT) (fun W hW => ⟨rfl, hW.low leB⟩)
   ·refine Tr.skip (Tr.zA (Tr.seq (Tr.sr (Tr.va rfl (fun _ _ a c => zB zBx (a.ev rfl)) (Tr.va rfl (fun _ _ a c => zD zHh (a.ev rfl) (rdb c (vs := [sv p0.Name, sL zF p0.Rects zG]) (k := 1) rfl 1) rfl) (Tr.va rfl (fun _ _ a c => zy zBQ (a.ev rfl)) (Tr.mv rfl rfl (Tr.nil (Tr.zA (Tr.block (Tr.loop (σ := (List zQ) × Nat) (fun m w s => m = s.1.length + 1 ∧ s.1 = List.drop s.2 p0.Rects ∧ s.2 ≤ p0.Rects.length ∧ VD p1 s.1 s.2 = some r) (fun s => [(1, iv p1), (20, sL zF p0.Rects zG), (21, iv (p0.Rects.length : Int)), (22, iv (s.2 : Int))]) (fun s => []) (p0.Rects.length + 1) (p0.Rects, 0) ⟨rfl, rfl, Nat.zero_le _, H⟩ (.cons rfl (.cons rfl (.cons rfl (.cons rfl .nil)))) .nil (fun _ _ h => absurd h.1 (by simp)) ?_)))))))))))
    intro w Qe m s hs
    obtain ⟨zV, iL1⟩ := s
    obtain ⟨KS, QG, hiL1, H⟩ := hs
    replace QG : zV = List.drop iL1 p0.Rects := QG
    replace H : VD p1 zV iL1 = some r := H
    replace KS : m + 1 = zV.length + 1 := KS
    replace zP := zP.leR Qe
    replace leB := leB.trans Qe
    obtain rfl : m = zV.length := by omega
    clear KS
    dsimp only
    cases zV with
    | nil =>
     rw [VD.eq_1] at H
     refine Tr.sr (Tr.va rfl (fun _ _ a c => QE (a.ev rfl) (a.ev rfl)) (Tr.nil (Tr.zA (Tr.seq (Tr.WY rfl (JB QG) (Tr.exit (Tr.zi (Tr.zi (Tr.QL (Tr.zA (Tr.sr (Tr.asg rfl rfl (Tr.nil (Tr.zA (Tr.ret ?_)))))))))))))))
     obtain rfl := oI H
     exact Tr.out (m := [iv 0]) [] (zU rfl zT) (fun W hW => ⟨rfl, hW.low leB⟩)
    | cons xL1 zV =>
     rw [VD.eq_2] at H
     refine Tr.sr (Tr.va rfl (fun _ _ a c => QE (a.ev rfl) (a.ev rfl)) (Tr.nil (Tr.zA (Tr.seq (Tr.WX rfl (JX QG) (Tr.skip (Tr.zA (Tr.seq (Tr.block (Tr.sr (Tr.va rfl (fun _ _ a c => zK zCl (a.ev rfl) zP.form (a.ev rfl) (Int.natCast_nonneg _) (QC QG)) (Tr.va rfl (fun _ _ a c => zX (cs := [iv xL1.X0, iv xL1.Y0, iv xL1.X1, iv xL1.Y1]) zBr VE (a.ev rfl) (zO.take (rdF WA zP (Js QG) c) 4) rfl) (Tr.alloc 3 (wn rfl) rfl zF5 fun zIT => (Tr.store 3 (cs := [iv xL1.X0, iv xL1.Y0, iv xL1.X1, iv xL1.Y1]) [iv xL1.X0, iv xL1.Y0, iv xL1.X1, iv xL1.Y1] (wn rfl) rfl rfl rfl rfl VE rfl rfl rfl (Tr.nil (Tr.zA (Tr.seq (Tr.sr (Tr.va rfl (fun _ _ a c => zB zBG (a.ev rfl)) (Tr.va rfl (fun _ _ a c => zD QH (a.ev rfl) (rdb c (vs := [iv xL1.X0, iv xL1.Y0, iv xL1.X1, iv xL1.Y1]) (k := 3) rfl 0) rfl) (Tr.mv rfl rfl ?_)))))))))))))))))))))
     obtain ⟨Qp, zJc, H⟩ := bnd H
     refine Tr.Qs (r := (bV Qp)) (wn rfl) rfl Tryz.call72 (zI rfl (zI rfl zS)) (fun W hW => zBj xL1.X0 p1 Qp zJc (HF.start _)) (Tr.va rfl (fun _ _ a c => KI (a.ev rfl)) (Tr.mv rfl rfl ?_))
     obtain ⟨zbv, zRH, H⟩ := bnd H
     refine Tr.VJ 6 [(1, iv p1), (6, pV zIT), (20, sL zF p0.Rects zG), (21, iv (p0.Rects.length : Int)), (22, iv (iL1 : Int)), (37, bV zbv)] [(3, bx zIT #[iv xL1.X0, iv xL1.Y0, iv xL1.X1, iv xL1.Y1] 36)] ?_ ?_
     ·cases zLx : (!Qp)
      ·rw [zLx] at zRH
       rw [if_neg (by decide)] at zRH
       have H := zRH
       refine Tr.val (wg rfl rfl rfl) rfl (fun _ _ a c => zB zDX (a.ev rfl)) (Tr.val (wg rfl rfl rfl) rfl (fun _ _ a c => zD QH (a.ev rfl) (rdb c (vs := [iv xL1.X0, iv xL1.Y0, iv xL1.X1, iv xL1.Y1]) (k := 3) rfl 1) rfl) (Tr.val (wg rfl rfl rfl) rfl (fun _ _ a c => run_move (a.ev rfl)) ?_))
       obtain ⟨zct, zlD, H⟩ := bnd H
       refine Tr.Qs (r := (bV zct)) (wg rfl rfl rfl) rfl Tryz.call72 (zI rfl (zI rfl zS)) (fun W hW => zBj xL1.Y0 p1 zct zlD (HF.start _)) (Tr.val (wg rfl rfl rfl) rfl (fun _ _ a c => KI (a.ev rfl)) (Tr.va rfl (fun _ _ a c => zo (a.ev rfl) (a.ev rfl)) ?_))
       obtain rfl := oI H
       exact Tr.nil (Tr.Qi (.cons rfl (.cons rfl (.cons rfl (.cons rfl (.cons rfl (.cons rfl .nil)))))) (.cons rfl .nil))
      ·rw [zLx] at zRH
       rw [if_pos rfl] at zRH
       have H := zRH
       obtain rfl := oI H
       exact Tr.pass rfl rfl rfl rfl rfl (by decide) (Tr.pass rfl rfl rfl rfl rfl (by decide) (Tr.pass rfl rfl rfl rfl rfl (by decide) (Tr.pass rfl rfl rfl rfl rfl (by decide) (Tr.pass rfl rfl rfl rfl rfl (by decide) (Tr.va rfl (fun _ _ a c => zn (a.ev rfl) (a.ev rfl)) (Tr.nil (Tr.Qi (.cons rfl (.cons rfl (.cons rfl (.cons rfl (.cons rfl (.cons rfl .nil)))))) (.cons rfl .nil))))))))
     ·show Tr _ _ (LF [(1, iv p1), (6, pV zIT), (20, sL zF p0.Rects zG), (21, iv (p0.Rects.length : Int)), (22, iv (iL1 : Int)), (37, bV zbv)]) (LE [(3, bx zIT #[iv xL1.X0, iv xL1.Y0, iv xL1.X1, iv xL1.Y1] 36)]) _
      refine Tr.mv rfl rfl ?_
      obtain ⟨zbu, zBZ, H⟩ := bnd H
      refine Tr.VJ 6 [(1, iv p1), (6, pV zIT), (20, sL zF p0.Rects zG), (21, iv (p0.Rects.length : Int)), (22, iv (iL1 : Int)), (44, bV zbu)] [(3, bx zIT #[iv xL1.X0, iv xL1.Y0, iv xL1.X1, iv xL1.Y1] 36)] ?_ ?_
      ·cases zLx : zbv
       ·rw [zLx] at zBZ
        rw [if_neg (by decide)] at zBZ
        have H := zBZ
        refine Tr.val (wg rfl rfl rfl) rfl (fun _ _ a c => zB zD9 (a.ev rfl)) (Tr.val (wg rfl rfl rfl) rfl (fun _ _ a c => zD QH (a.ev rfl) (rdb c (vs := [iv xL1.X0, iv xL1.Y0, iv xL1.X1, iv xL1.Y1]) (k := 3) rfl 2) rfl) (Tr.val (wg rfl rfl rfl) rfl (fun _ _ a c => run_move (a.ev rfl)) ?_))
        obtain ⟨WN, zTs, H⟩ := bnd H
        refine Tr.Qs (r := (bV WN)) (wg rfl rfl rfl) rfl Tryz.call72 (zI rfl (zI rfl zS)) (fun W hW => zBj xL1.X1 p1 WN zTs (HF.start _)) (Tr.val (wg rfl rfl rfl) rfl (fun _ _ a c => KI (a.ev rfl)) (Tr.va rfl (fun _ _ a c => zo (a.ev rfl) (a.ev rfl)) ?_))
        obtain rfl := oI H
        exact Tr.nil (Tr.Qi (.cons rfl (.cons rfl (.cons rfl (.cons rfl (.cons rfl (.cons rfl .nil)))))) (.cons rfl .nil))
       ·rw [zLx] at zBZ
        rw [if_pos rfl] at zBZ
        have H := zBZ
        obtain rfl := oI H
        exact Tr.pass rfl rfl rfl rfl rfl (by decide) (Tr.pass rfl rfl rfl rfl rfl (by decide) (Tr.pass rfl rfl rfl rfl rfl (by decide) (Tr.pass rfl rfl rfl rfl rfl (by decide) (Tr.pass rfl rfl rfl rfl rfl (by decide) (Tr.va rfl (fun _ _ a c => zn (a.ev rfl) (a.ev rfl)) (Tr.nil (Tr.Qi (.cons rfl (.cons rfl (.cons rfl (.cons rfl (.cons rfl (.cons rfl .nil)))))) (.cons rfl .nil))))))))
      ·show Tr _ _ (LF [(1, iv p1), (6, pV zIT), (20, sL zF p0.Rects zG), (21, iv (p0.Rects.length : Int)), (22, iv (iL1 : Int)), (44, bV zbu)]) (LE [(3, bx zIT #[iv xL1.X0, iv xL1.Y0, iv xL1.X1, iv xL1.Y1] 36)]) _
       refine Tr.mv rfl rfl ?_
       obtain ⟨zd5, zRE, H⟩ := bnd H
       refine Tr.VJ 6 [(1, iv p1), (6, pV zIT), (20, sL zF p0.Rects zG), (21, iv (p0.Rects.length : Int)), (22, iv (iL1 : Int)), (51, bV zd5)] [(3, bx zIT #[iv xL1.X0, iv xL1.Y0, iv xL1.X1, iv xL1.Y1] 36)] ?_ ?_
       ·cases zLx : zbu
        ·rw [zLx] at zRE
         rw [if_neg (by decide)] at zRE
         have H := zRE
         refine Tr.val (wg rfl rfl rfl) rfl (fun _ _ a c => zB zEp (a.ev rfl)) (Tr.val (wg rfl rfl rfl) rfl (fun _ _ a c => zD QH (a.ev rfl) (rdb c (vs := [iv xL1.X0, iv xL1.Y0, iv xL1.X1, iv xL1.Y1]) (k := 3) rfl 3) rfl) (Tr.val (wg rfl rfl rfl) rfl (fun _ _ a c => run_move (a.ev rfl)) ?_))
         obtain ⟨JS, zTr, H⟩ := bnd H
         refine Tr.Qs (r := (bV JS)) (wg rfl rfl rfl) rfl Tryz.call72 (zI rfl (zI rfl zS)) (fun W hW => zBj xL1.Y1 p1 JS zTr (HF.start _)) (Tr.val (wg rfl rfl rfl) rfl (fun _ _ a c => KI (a.ev rfl)) (Tr.va rfl (fun _ _ a c => zo (a.ev rfl) (a.ev rfl)) ?_))
         obtain rfl := oI H
         exact Tr.nil (Tr.Qi (.cons rfl (.cons rfl (.cons rfl (.cons rfl (.cons rfl (.cons rfl .nil)))))) (.cons rfl .nil))
        ·rw [zLx] at zRE
         rw [if_pos rfl] at zRE
         have H := zRE
         obtain rfl := oI H
         exact Tr.pass rfl rfl rfl rfl rfl (by decide) (Tr.pass rfl rfl rfl rfl rfl (by decide) (Tr.pass rfl rfl rfl rfl rfl (by decide) (Tr.pass rfl rfl rfl rfl rfl (by decide) (Tr.pass rfl rfl rfl rfl rfl (by decide) (Tr.va rfl (fun _ _ a c => zn (a.ev rfl) (a.ev rfl)) (Tr.nil (Tr.Qi (.cons rfl (.cons rfl (.cons rfl (.cons rfl (.cons rfl (.cons rfl .nil)))))) (.cons rfl .nil))))))))
       ·show Tr _ _ (LF [(1, iv p1), (6, pV zIT), (20, sL zF p0.Rects zG), (21, iv (p0.Rects.length : Int)), (22, iv (iL1 : Int)), (51, bV zd5)]) (LE [(3, bx zIT #[iv xL1.X0, iv xL1.Y0, iv xL1.X1, iv xL1.Y1] 36)]) _
        refine Tr.nil (Tr.zA (Tr.cond rfl H (fun H => ?_) (fun H => ?_)))
        ·refine Tr.sr (Tr.asg rfl rfl (Tr.nil (Tr.zA (Tr.ret (Tr.zg (Tr.QI (Tr.zg (Tr.zg (Tr.QI (Tr.zg ?_))))))))))
         obtain rfl := oI H
         exact Tr.out (m := [iv 1]) [] (zU rfl zT) (fun W hW => ⟨rfl, hW.low leB⟩)
        ·refine Tr.skip (Tr.zA (Tr.sr (Tr.va rfl (fun _ _ a c => zB zD9 (a.ev rfl)) (Tr.va rfl (fun _ _ a c => zD QH (a.ev rfl) (rdb c (vs := [iv xL1.X0, iv xL1.Y0, iv xL1.X1, iv xL1.Y1]) (k := 3) rfl 2) rfl) (Tr.va rfl (fun _ _ a c => zB zBG (a.ev rfl)) (Tr.va rfl (fun _ _ a c => zD QH (a.ev rfl) (rdb c (vs := [iv xL1.X0, iv xL1.Y0, iv xL1.X1, iv xL1.Y1]) (k := 3) rfl 0) rfl) (Tr.va rfl (fun _ _ a c => zBR (a.ev rfl) (a.ev rfl)) (Tr.mv rfl rfl (Tr.VJ 6 [(1, iv p1), (20, sL zF p0.Rects zG), (21, iv (p0.Rects.length : Int)), (22, iv (iL1 : Int)), (63, bV ((decide (xL1.X1 ≤ xL1.X0)) || (decide (xL1.Y1 ≤ xL1.Y0))))] [(3, bx zIT #[iv xL1.X0, iv xL1.Y0, iv xL1.X1, iv xL1.Y1] 36)] ?_ ?_)))))))))
         ·cases zLx : (decide (xL1.X1 ≤ xL1.X0))
          ·exact Tr.val (wg rfl rfl rfl) rfl (fun _ _ a c => zB zEp (a.ev rfl)) (Tr.val (wg rfl rfl rfl) rfl (fun _ _ a c => zD QH (a.ev rfl) (rdb c (vs := [iv xL1.X0, iv xL1.Y0, iv xL1.X1, iv xL1.Y1]) (k := 3) rfl 3) rfl) (Tr.val (wg rfl rfl rfl) rfl (fun _ _ a c => zB zDX (a.ev rfl)) (Tr.val (wg rfl rfl rfl) rfl (fun _ _ a c => zD QH (a.ev rfl) (rdb c (vs := [iv xL1.X0, iv xL1.Y0, iv xL1.X1, iv xL1.Y1]) (k := 3) rfl 1) rfl) (Tr.val (wg rfl rfl rfl) rfl (fun _ _ a c => zBR (a.ev rfl) (a.ev rfl)) (Tr.va rfl (fun _ _ a c => zo (a.ev rfl) (a.ev rfl)) (Tr.nil (Tr.Qi (.cons rfl (.cons rfl (.cons rfl (.cons rfl (.cons rfl .nil))))) (.cons rfl .nil))))))))
          ·exact Tr.pass rfl rfl rfl rfl rfl (by decide) (Tr.pass rfl rfl rfl rfl rfl (by decide) (Tr.pass rfl rfl rfl rfl rfl (by decide) (Tr.pass rfl rfl rfl rfl rfl (by decide) (Tr.pass rfl rfl rfl rfl rfl (by decide) (Tr.va rfl (fun _ _ a c => zn (a.ev rfl) (a.ev rfl)) (Tr.nil (Tr.Qi (.cons rfl (.cons rfl (.cons rfl (.cons rfl (.cons rfl .nil))))) (.cons rfl .nil))))))))
         ·show Tr _ _ (LF [(1, iv p1), (20, sL zF p0.Rects zG), (21, iv (p0.Rects.length : Int)), (22, iv (iL1 : Int)), (63, bV ((decide (xL1.X1 ≤ xL1.X0)) || (decide (xL1.Y1 ≤ xL1.Y0))))]) (LE [(3, bx zIT #[iv xL1.X0, iv xL1.Y0, iv xL1.X1, iv xL1.Y1] 36)]) _
          refine Tr.nil (Tr.zA (Tr.cond rfl H (fun H => ?_) (fun H => ?_)))
          ·refine Tr.sr (Tr.asg rfl rfl (Tr.nil (Tr.zA (Tr.ret (Tr.QI (Tr.zg (Tr.zg (Tr.QI (Tr.zg ?_)))))))))
           obtain rfl := oI H
           exact Tr.out (m := [iv 13]) [] (zU rfl zT) (fun W hW => ⟨rfl, hW.low leB⟩)
          ·exact Tr.skip (Tr.zh (Tr.zA (Tr.region (Tr.va rfl (fun _ _ a c => QA (a.ev rfl) (a.ev rfl)) (Tr.mv rfl rfl (Tr.nil (Tr.zf Qe (zV, (iL1 + 1)) ⟨rfl, Ql QG, QC QG, H⟩ (.cons rfl (.cons rfl (.cons rfl (.cons (congrArg (fun z => some (Value.int .i64 z)) (Qk QG zP.form)) .nil)))) .nil)))))))

theorem zG4 {w : Bs} (p0 : Int) (r : Int) (H : zAs p0 = some r) (hE : HF w w.W E0) : Calls Tryz.prog 95 [iv p0].toArray w.W fun e W' => e = .returned (iv r) ∧ HF w W' E0 := by
 unfold zAs at H
 have leB := Bs.Le.refl w
 refine Tr.enter (n := 6) Tryz.func95 rfl rfl rfl hE (Tr.sr (Tr.asg rfl rfl (Tr.nil (Tr.zA (Tr.seq (Tr.sr (Tr.mv rfl rfl ?_)))))))
 obtain ⟨QK, zBE, H⟩ := bnd H
 refine Tr.Qs (r := (bV QK)) (wn rfl) rfl Tryz.call22 (zI rfl (zI rfl (zI rfl zS))) (fun W hW => zAl p0 1 100 QK zBE (HF.start _)) (Tr.nil (Tr.zA (Tr.cond rfl H (fun H => ?_) (fun H => ?_))))
 ·refine Tr.sr (Tr.mv rfl rfl (Tr.asg rfl rfl (Tr.nil (Tr.zA (Tr.ret (Tr.zg ?_))))))
  obtain rfl := oI H
  exact Tr.out (m := [iv p0]) [] (zU rfl zT) (fun W hW => ⟨rfl, hW.low leB⟩)
 ·refine Tr.skip (Tr.zA (Tr.sr (Tr.asg rfl rfl (Tr.nil (Tr.zA (Tr.ret ?_))))))
  obtain rfl := oI H
  exact Tr.out (m := [iv 1]) [] (zU rfl zT) (fun W hW => ⟨rfl, hW.low leB⟩)

theorem zN5 {w : Bs} (p0 : zC) (zF : Option Addr) (zG : Nat) (zP : Sl w.R w.W QD zF zG p0.Points) (zM : Option Addr) (zL : Nat) (QW : Sl w.R w.W zH zM zL p0.Steps) (r : Int) (H : zEJ p0 = some r) (hE : HF w w.W E0) : Calls Tryz.prog 73 [.agg #[iv p0.Kind, sv p0.Name, iv p0.At.X, iv p0.At.Y, sL zF p0.Points zG, iv p0.NX, iv p0.NY, sL zM p0.Steps zL]].toArray w.W fun e W' => e = .returned (iv r) ∧ HF w W' E0 := by
 unfold zEJ at H
 have leB := Bs.Le.refl w
 refine Tr.enter (n := 13) Tryz.func73 rfl rfl rfl hE (Tr.sr (Tr.box 1 (cs := [iv p0.Kind, sv p0.Name, iv p0.At.X, iv p0.At.Y, sL zF p0.Points zG, iv p0.NX, iv p0.NY, sL zM p0.Steps zL]) (wn rfl) rfl rfl rfl fun zt => (Tr.asg rfl rfl (Tr.nil (Tr.zA (Tr.sr (Tr.asg rfl rfl (Tr.nil (Tr.zA (Tr.seq (Tr.draw (by kernel_rfl) (by kernel_rfl) (Tq.mv rfl rfl (Tq.va rfl (fun _ _ a c => zB zFm (a.ev rfl)) (Tq.va rfl (fun _ _ a c => zD QH (a.ev rfl) (rdb c (vs := [iv p0.Kind, sv p0.Name, iv p0.At.X, iv p0.At.Y, sL zF p0.Points zG, iv p0.NX, iv p0.NY, sL zM p0.Steps zL]) (k := 1) rfl 5) rfl) ?_))))))))))))))
 obtain ⟨y101, hy101, H⟩ := bnd H
 refine Tq.zEV (r := (iv y101)) (wn rfl) rfl rfl Tryz.call95 (zI rfl zS) (fun W hW => zG4 p0.NX y101 hy101 (HF.start _)) (Tq.mv rfl rfl (Tq.va rfl (fun _ _ a c => zB zGu (a.ev rfl)) (Tq.va rfl (fun _ _ a c => zD QH (a.ev rfl) (rdb c (vs := [iv p0.Kind, sv p0.Name, iv p0.At.X, iv p0.At.Y, sL zF p0.Points zG, iv p0.NX, iv p0.NY, sL zM p0.Steps zL]) (k := 1) rfl 6) rfl) ?_)))
 obtain ⟨y102, hy102, H⟩ := bnd H
 refine Tq.zEV (r := (iv y102)) (wn rfl) rfl rfl Tryz.call95 (zI rfl zS) (fun W hW => zG4 p0.NY y102 hy102 (HF.start _)) (Tq.va rfl (fun _ _ a c => zCT (a.ev rfl) (a.ev rfl)) (Tq.asg rfl rfl (Tq.nil (Tr.zA (Tr.ret ?_)))))
 obtain rfl := oI H
 exact Tr.out (m := [iv (w64 (y101 * y102))]) [] (zU rfl zT) (fun W hW => ⟨rfl, hW.low leB⟩)

theorem zMP (N : Nat) (rec : (List zC) → Option Int) (hrec : ∀ {w : Bs} (p0 : (List zC)) (zF : Option Addr) (zG : Nat) (zP : Sl w.R w.W zH zF zG p0) (r : Int) (H : rec p0 = some r) (hE : HF w w.W E0), Calls Tryz.prog 42 [sL zF p0 zG].toArray w.W fun e W' => e = .returned (iv r) ∧ HF w W' E0) {w : Bs} (p0 : (List zC)) (zF : Option Addr) (zG : Nat) (zP : Sl w.R w.W zH zF zG p0) (r : Int) (H : zGY N rec p0 = some r) (hE : HF w w.W E0) : Calls Tryz.prog 42 [sL zF p0 zG].toArray w.W fun e W' => e = .returned (iv r) ∧ HF w W' E0 := by
 unfold zGY at H
 have leB := Bs.Le.refl w
 refine Tr.enter (n := 30) Tryz.func42 rfl rfl rfl hE (Tr.sr (Tr.asg rfl rfl (Tr.nil (Tr.zA (Tr.sr (Tr.asg rfl rfl (Tr.nil (Tr.zA (Tr.seq (Tr.sr (Tr.mv rfl rfl (Tr.va rfl (fun _ _ a c => zy zB8 (a.ev rfl)) (Tr.mv rfl rfl (Tr.nil (Tr.zA (Tr.block (Tr.loop (σ := (List zC) × Nat × Int) (fun m w s => m = s.1.length + 1 ∧ s.1 = List.drop s.2.1 p0 ∧ s.2.1 ≤ p0.length ∧ Jk rec s.1 s.2.1 s.2.2 = some r) (fun s => [(3, iv s.2.2), (6, sL zF p0 zG), (7, iv (p0.length : Int)), (8, iv (s.2.1 : Int))]) (fun s => []) (p0.length + 1) (p0, 0, 0) ⟨rfl, rfl, Nat.zero_le _, H⟩ (.cons rfl (.cons rfl (.cons rfl (.cons rfl .nil)))) .nil (fun _ _ h => absurd h.1 (by simp)) ?_)))))))))))))))))
 intro w WL m s hs
 obtain ⟨Qz, iL3, zOi⟩ := s
 obtain ⟨zIE, zAd, hiL3, H⟩ := hs
 replace zAd : Qz = List.drop iL3 p0 := zAd
 replace H : Jk rec Qz iL3 zOi = some r := H
 replace zIE : m + 1 = Qz.length + 1 := zIE
 replace zP := zP.leR WL
 replace leB := leB.trans WL
 obtain rfl : m = Qz.length := by omega
 clear zIE
 dsimp only
 cases Qz with
 | nil =>
  rw [Jk.eq_1] at H
  refine Tr.sr (Tr.va rfl (fun _ _ a c => QE (a.ev rfl) (a.ev rfl)) (Tr.nil (Tr.zA (Tr.seq (Tr.WY rfl (JB zAd) (Tr.exit (Tr.zi (Tr.zi (Tr.QL (Tr.zA (Tr.sr (Tr.mv rfl rfl (Tr.asg rfl rfl (Tr.nil (Tr.zA (Tr.ret ?_))))))))))))))))
  obtain rfl := oI H
  exact Tr.out (m := [iv zOi]) [] (zU rfl zT) (fun W hW => ⟨rfl, hW.low leB⟩)
 | cons xL3 Qz =>
  rw [Jk.eq_2] at H
  refine Tr.sr (Tr.va rfl (fun _ _ a c => QE (a.ev rfl) (a.ev rfl)) (Tr.nil (Tr.zA (Tr.seq (Tr.WX rfl (JX zAd) (Tr.skip (Tr.zA (Tr.seq (Tr.block (Tr.sr ?_))))))))))
  obtain ⟨u127, hRu127, zdq, hcu127⟩ := (zP).el (Js zAd)
  obtain ⟨⟨zFy, zFq⟩, ⟨zE3, zEv⟩⟩ := u127
  obtain ⟨zM7, zKH⟩ := Kj.1 zdq
  replace zM7 : Sl w.R w.W QD zFy zFq xL3.Points := zM7
  replace zKH : Sl w.R w.W zH zE3 zEv xL3.Steps := zKH
  refine Tr.va rfl (fun _ _ a c => zK zEC (a.ev rfl) zP.form (a.ev rfl) (Int.natCast_nonneg _) (QC zAd)) (Tr.va rfl (fun _ _ a c => zX (cs := [iv xL3.Kind, sv xL3.Name, iv xL3.At.X, iv xL3.At.Y, sL zFy xL3.Points zFq, iv xL3.NX, iv xL3.NY, sL zE3 xL3.Steps zEv]) zGP zA2 (a.ev rfl) (zO.take (rdR hRu127 hcu127 c) 8) rfl) (Tr.alloc 3 (wn rfl) rfl zIn fun zo7 => (Tr.store 3 (cs := [iv xL3.Kind, sv xL3.Name, iv xL3.At.X, iv xL3.At.Y, sL zFy xL3.Points zFq, iv xL3.NX, iv xL3.NY, sL zE3 xL3.Steps zEv]) [iv xL3.Kind, sv xL3.Name, iv xL3.At.X, iv xL3.At.Y, sL zFy xL3.Points zFq, iv xL3.NX, iv xL3.NY, sL zE3 xL3.Steps zEv] (wn rfl) rfl rfl rfl rfl zA2 rfl rfl rfl (Tr.nil (Tr.zA (Tr.sr (Tr.mv rfl rfl (Tr.va rfl (fun _ _ a c => QA (a.ev rfl) (a.ev rfl)) (Tr.asg rfl rfl (Tr.nil (Tr.zA ?_)))))))))))
  have leJ132 := Bs.Le.refl w
  refine Tr.zJD (σ := Int) (fun w s => zAW (Jk rec Qz (iL3 + 1)) s = some r) (fun s => [(3, iv s), (6, sL zF p0 zG), (7, iv (p0.length : Int)), (8, iv (iL3 : Int))]) (fun s => []) ?_ ?_
  ·refine Tr.sr (Tr.va rfl (fun _ _ a c => zB zDW (a.ev rfl)) (Tr.va rfl (fun _ _ a c => zD zCn (a.ev rfl) (rdb c (vs := [iv xL3.Kind, sv xL3.Name, iv xL3.At.X, iv xL3.At.Y, sL zFy xL3.Points zFq, iv xL3.NX, iv xL3.NY, sL zE3 xL3.Steps zEv]) (k := 3) rfl 7) rfl) (Tr.va rfl (fun _ _ a c => zy zB8 (a.ev rfl)) (Tr.va rfl (fun _ _ a c => WO (a.ev rfl) (a.ev rfl)) (Tr.nil (Tr.zA (Tr.cond rfl H (fun H => ?_) (fun H => ?_))))))))
   ·refine Tr.draw (by kernel_rfl) (by kernel_rfl) (Tq.mv rfl rfl (Tq.va rfl (fun _ _ a c => zX (cs := [iv xL3.Kind, sv xL3.Name, iv xL3.At.X, iv xL3.At.Y, sL zFy xL3.Points zFq, iv xL3.NX, iv xL3.NY, sL zE3 xL3.Steps zEv]) zGP zA2 (a.ev rfl) (zO.take (rdb c (vs := [iv xL3.Kind, sv xL3.Name, iv xL3.At.X, iv xL3.At.Y, sL zFy xL3.Points zFq, iv xL3.NX, iv xL3.NY, sL zE3 xL3.Steps zEv]) (k := 3) rfl 0) 8) rfl) ?_))
    obtain ⟨zZY, zlB, H⟩ := bnd H
    refine Tq.Qs (r := (iv zZY)) (wn rfl) rfl Tryz.call73 (zI rfl zS) (fun W hW => zN5 xL3 zFy zFq (zM7.ext hW.Qd) zE3 zEv (zKH.ext hW.Qd) zZY zlB (HF.start _)) (Tq.va rfl (fun _ _ a c => zB zDW (a.ev rfl)) (Tq.va rfl (fun _ _ a c => zD zCn (a.ev rfl) (rdb c (vs := [iv xL3.Kind, sv xL3.Name, iv xL3.At.X, iv xL3.At.Y, sL zFy xL3.Points zFq, iv xL3.NX, iv xL3.NY, sL zE3 xL3.Steps zEv]) (k := 3) rfl 7) rfl) ?_))
    obtain ⟨zZX, zlA, H⟩ := bnd H
    exact Tq.Qs (r := (iv zZX)) (wn rfl) rfl Tryz.call42 (zI rfl zS) (fun W hW => hrec xL3.Steps zE3 zEv (zKH.ext hW.Qd) zZX zlA (HF.start _)) (Tq.va rfl (fun _ _ a c => zCT (a.ev rfl) (a.ev rfl)) (Tq.va rfl (fun _ _ a c => QA (a.ev rfl) (a.ev rfl)) (Tq.asg rfl rfl (Tq.nil (Tr.zf leJ132 (w64 ((w64 (zOi + 1)) + (w64 (zZY * zZX)))) H (.cons rfl (.cons rfl (.cons rfl (.cons rfl .nil)))) .nil)))))
   ·exact Tr.skip (Tr.zf leJ132 (w64 (zOi + 1)) H (.cons rfl (.cons rfl (.cons rfl (.cons rfl .nil)))) .nil)
  ·intro w zCP hlJ133 hs
   have H := hs
   replace H : zAW (Jk rec Qz (iL3 + 1)) zCP = some r := H
   replace zP := zP.leR hlJ133
   replace leB := leB.trans hlJ133
   replace WL := WL.trans hlJ133
   unfold zAW at H
   show Tr _ _ (LF [(3, iv zCP), (6, sL zF p0 zG), (7, iv (p0.length : Int)), (8, iv (iL3 : Int))]) (LE []) _
   refine Tr.sr (Tr.mv rfl rfl (Tr.va rfl (fun _ _ a c => WO (a.ev rfl) (a.ev rfl)) (Tr.nil (Tr.zA (Tr.cond rfl H (fun H => ?_) (fun H => ?_))))))
   ·refine Tr.sr (Tr.asg rfl rfl (Tr.nil (Tr.zA (Tr.ret (Tr.QI (Tr.zg (Tr.zg (Tr.QI (Tr.zg ?_)))))))))
    obtain rfl := oI H
    exact Tr.out (m := [iv 3001]) [] (zU rfl zT) (fun W hW => ⟨rfl, hW.low leB⟩)
   ·exact Tr.skip (Tr.zh (Tr.zA (Tr.region (Tr.va rfl (fun _ _ a c => QA (a.ev rfl) (a.ev rfl)) (Tr.mv rfl rfl (Tr.nil (Tr.zf WL (Qz, (iL3 + 1), zCP) ⟨rfl, Ql zAd, QC zAd, H⟩ (.cons rfl (.cons rfl (.cons rfl (.cons (congrArg (fun z => some (Value.int .i64 z)) (Qk zAd zP.form)) .nil)))) .nil)))))))
theorem zI1 : ∀ (N : Nat) {w : Bs} (p0 : (List zC)) (zF : Option Addr) (zG : Nat) (zP : Sl w.R w.W zH zF zG p0) (r : Int) (H : zC7 N p0 = some r) (hE : HF w w.W E0), Calls Tryz.prog 42 [sL zF p0 zG].toArray w.W fun e W' => e = .returned (iv r) ∧ HF w W' E0
 | 0 => by intros; rename_i H _; cases H
 | N + 1 => zMP N (zC7 N) (zI1 N)

theorem zGX {w : Bs} (p0 : Int) (r : zEz) (H : zBC p0 = some r) (hE : HF w w.W E0) : Calls Tryz.prog 93 [iv p0].toArray w.W fun e W' => e = .returned (.agg #[bV r.name, bV r.at_, bV r.points, bV r.repeat_]) ∧ HF w W' E0 := by
 unfold zBC at H
 have leB := Bs.Le.refl w
 refine Tr.enter (n := 19) Tryz.func93 rfl rfl rfl hE (Tr.sr (Tr.alloc 1 (wn rfl) rfl zZM fun zt => (Tr.nil (Tr.zA (Tr.seq (Tr.sr (Tr.mv rfl rfl (Tr.nil (Tr.zA (Tr.block (Tr.sr (Tr.va rfl (fun _ _ a c => Qa (a.ev rfl) (a.ev rfl)) (Tr.asg rfl rfl (Tr.nil (Tr.zA (Tr.cond rfl H (fun H => ?_) (fun H => ?_)))))))))))))))))
 ·refine Tr.sr (Tr.build (vs := [(0, bV true)]) (cs := [bV true, bV false, bV false, bV false]) (wn rfl) rfl (zl rfl Qf) (by kernel_rfl) (Tr.store 1 (cs := [bV true, bV false, bV false, bV false]) [bV true, bV false, bV false, bV false] (wn rfl) rfl rfl rfl rfl zGA rfl rfl rfl (Tr.nil (Tr.zA (Tr.ret (Tr.QI (Tr.zg ?_)))))))
  obtain rfl := oI H
  exact Tr.out (m := [.agg #[bV true, bV false, bV false, bV false]]) [1] (WR rfl rfl zP3 zGA zT) (fun W hW => ⟨rfl, hW.low leB⟩)
 ·have leJ102 := Bs.Le.refl w
  refine Tr.zJD (σ := Bool) (fun w s => Vx p0 s = some r) (fun s => [(2, pV zt), (3, iv p0), (7, bV s)]) (fun s => [(1, bx zt #[bV false, bV false, bV false, bV false] 149)]) ?_ ?_
  ·refine Tr.sr (Tr.va rfl (fun _ _ a c => Qa (a.ev rfl) (a.ev rfl)) (Tr.asg rfl rfl (Tr.nil (Tr.zA (Tr.cond rfl H (fun H => ?_) (fun H => ?_))))))
   ·exact Tr.skip (Tr.zf leJ102 (p0 == 4) H (.cons rfl (.cons rfl (.cons rfl .nil))) (.cons rfl .nil))
   ·refine Tr.sr (Tr.va rfl (fun _ _ a c => Qa (a.ev rfl) (a.ev rfl)) (Tr.asg rfl rfl (Tr.nil (Tr.zA (Tr.cond rfl H (fun H => ?_) (fun H => ?_))))))
    ·exact Tr.skip (Tr.zf leJ102 (p0 == 5) H (.cons rfl (.cons rfl (.cons rfl .nil))) (.cons rfl .nil))
    ·exact Tr.region (Tr.va rfl (fun _ _ a c => Qa (a.ev rfl) (a.ev rfl)) (Tr.asg rfl rfl (Tr.nil (Tr.zf leJ102 (p0 == 6) H (.cons rfl (.cons rfl (.cons rfl .nil))) (.cons rfl .nil)))))
  ·intro w x101 hlJ103 hs
   have H := hs
   replace H : Vx p0 x101 = some r := H
   replace leB := leB.trans hlJ103
   unfold Vx at H
   show Tr _ _ (LF [(2, pV zt), (3, iv p0), (7, bV x101)]) (LE [(1, bx zt #[bV false, bV false, bV false, bV false] 149)]) _
   refine Tr.cond rfl H (fun H => ?_) (fun H => ?_)
   ·refine Tr.sr (Tr.build (vs := [(1, bV true)]) (cs := [bV false, bV true, bV false, bV false]) (wn rfl) rfl (zl rfl Qf) (by kernel_rfl) (Tr.store 1 (cs := [bV false, bV true, bV false, bV false]) [bV false, bV true, bV false, bV false] (wn rfl) rfl rfl rfl rfl zGA rfl rfl rfl (Tr.nil (Tr.zA (Tr.ret (Tr.QI (Tr.zg ?_)))))))
    obtain rfl := oI H
    exact Tr.out (m := [.agg #[bV false, bV true, bV false, bV false]]) [1] (WR rfl rfl zP3 zGA zT) (fun W hW => ⟨rfl, hW.low leB⟩)
   ·refine Tr.sr (Tr.va rfl (fun _ _ a c => Qa (a.ev rfl) (a.ev rfl)) (Tr.asg rfl rfl (Tr.nil (Tr.zA (Tr.cond rfl H (fun H => ?_) (fun H => ?_))))))
    ·refine Tr.sr (Tr.build (vs := [(2, bV true)]) (cs := [bV false, bV false, bV true, bV false]) (wn rfl) rfl (zl rfl Qf) (by kernel_rfl) (Tr.store 1 (cs := [bV false, bV false, bV true, bV false]) [bV false, bV false, bV true, bV false] (wn rfl) rfl rfl rfl rfl zGA rfl rfl rfl (Tr.nil (Tr.zA (Tr.ret (Tr.QI (Tr.zg ?_)))))))
     obtain rfl := oI H
     exact Tr.out (m := [.agg #[bV false, bV false, bV true, bV false]]) [1] (WR rfl rfl zP3 zGA zT) (fun W hW => ⟨rfl, hW.low leB⟩)
    ·refine Tr.sr (Tr.va rfl (fun _ _ a c => Qa (a.ev rfl) (a.ev rfl)) (Tr.asg rfl rfl (Tr.nil (Tr.zA (Tr.cond rfl H (fun H => ?_) (fun H => ?_))))))
     ·refine Tr.sr (Tr.build (vs := [(1, bV true), (3, bV true)]) (cs := [bV false, bV true, bV false, bV true]) (wn rfl) rfl (zl rfl (zl rfl Qf)) (by kernel_rfl) (Tr.store 1 (cs := [bV false, bV true, bV false, bV true]) [bV false, bV true, bV false, bV true] (wn rfl) rfl rfl rfl rfl zGA rfl rfl rfl (Tr.nil (Tr.zA (Tr.ret (Tr.QI (Tr.zg ?_)))))))
      obtain rfl := oI H
      exact Tr.out (m := [.agg #[bV false, bV true, bV false, bV true]]) [1] (WR rfl rfl zP3 zGA zT) (fun W hW => ⟨rfl, hW.low leB⟩)
     ·refine Tr.skip (Tr.zh (Tr.zA (Tr.sr (Tr.build (vs := []) (cs := [bV false, bV false, bV false, bV false]) (wn rfl) rfl Qf (by kernel_rfl) (Tr.store 1 (cs := [bV false, bV false, bV false, bV false]) [bV false, bV false, bV false, bV false] (wn rfl) rfl rfl rfl rfl zGA rfl rfl rfl (Tr.nil (Tr.zA (Tr.ret ?_))))))))
      obtain rfl := oI H
      exact Tr.out (m := [.agg #[bV false, bV false, bV false, bV false]]) [1] (WR rfl rfl zP3 zGA zT) (fun W hW => ⟨rfl, hW.low leB⟩)

theorem zLF {w : Bs} (p0 : zZ) (zF : Option Addr) (zG : Nat) (zP : Sl w.R w.W zY zF zG p0.Rects) (q0 : ByteArray) (bq0 : Nat) (hb0 : w.R bq0) (hc0 : zO w.W bq0 0 [sv q0]) (r : Bool) (H : zDb p0 q0 = some r) (hE : HF w w.W E0) : Calls Tryz.prog 117 [.agg #[sv p0.Name, sL zF p0.Rects zG], pV bq0].toArray w.W fun e W' => e = .returned (bV r) ∧ HF w W' E0 := by
 unfold zDb at H
 have leB := Bs.Le.refl w
 refine Tr.enter (n := 8) Tryz.func117 rfl rfl rfl hE (Tr.sr (Tr.box 1 (cs := [sv p0.Name, sL zF p0.Rects zG]) (wn rfl) rfl rfl rfl fun zt => (Tr.asg rfl rfl (Tr.nil (Tr.zA (Tr.sr (Tr.va rfl (fun _ _ a c => zB zIG (a.ev rfl)) (Tr.va rfl (fun _ _ a c => zD zHF (a.ev rfl) (rdb c (vs := [sv p0.Name, sL zF p0.Rects zG]) (k := 1) rfl 0) rfl) (Tr.va rfl (fun _ _ a c => zD zHF (a.ev rfl) (rdR hb0 hc0 c) rfl) (Tr.va rfl (fun _ _ a c => zLX (a.ev rfl) (a.ev rfl)) (Tr.asg rfl rfl (Tr.nil (Tr.zA (Tr.ret ?_))))))))))))))
 obtain rfl := oI H
 exact Tr.out (m := [bV (sEq p0.Name q0)]) [] (zU rfl zT) (fun W hW => ⟨rfl, hW.low leB⟩)

theorem zCR {w : Bs} (p0 : (List zZ)) (zF : Option Addr) (zG : Nat) (zP : Sl w.R w.W zN zF zG p0) (q0 : ByteArray) (bq0 : Nat) (hb0 : w.R bq0) (hc0 : zO w.W bq0 0 [sv q0]) (r : Int) (H : KL p0 q0 = some r) (hE : HF w w.W E0) : Calls Tryz.prog 116 [sL zF p0 zG, .func (.func 117) #[] #[pV bq0]].toArray w.W fun e W' => e = .returned (iv r) ∧ HF w W' E0 := by
 unfold KL at H
 have leB := Bs.Le.refl w
 refine Tr.enter (n := 19) Tryz.func116 rfl rfl rfl hE (Tr.sr (Tr.asg rfl rfl (Tr.nil (Tr.zA (Tr.seq (Tr.sr (Tr.mv rfl rfl (Tr.va rfl (fun _ _ a c => zy zIo (a.ev rfl)) (Tr.mv rfl rfl (Tr.nil (Tr.zA (Tr.block (Tr.loop (σ := (List zZ) × Nat) (fun m w s => m = s.1.length + 1 ∧ s.1 = List.drop s.2 p0 ∧ s.2 ≤ p0.length ∧ Qb q0 s.1 s.2 = some r) (fun s => [(0, sL zF p0 zG), (1, .func (.func 117) #[] #[pV bq0]), (7, iv (p0.length : Int)), (8, iv (s.2 : Int))]) (fun s => []) (p0.length + 1) (p0, 0) ⟨rfl, rfl, Nat.zero_le _, H⟩ (.cons rfl (.cons rfl (.cons rfl (.cons rfl .nil)))) .nil (fun _ _ h => absurd h.1 (by simp)) ?_)))))))))))))
 intro w Qe m s hs
 obtain ⟨zV, iL1⟩ := s
 obtain ⟨KS, QG, hiL1, H⟩ := hs
 replace QG : zV = List.drop iL1 p0 := QG
 replace H : Qb q0 zV iL1 = some r := H
 replace KS : m + 1 = zV.length + 1 := KS
 replace zP := zP.leR Qe
 replace hc0 := Qe.ext.cells hb0 hc0
 replace hb0 := Qe.r _ hb0
 replace leB := leB.trans Qe
 obtain rfl : m = zV.length := by omega
 clear KS
 dsimp only
 cases zV with
 | nil =>
  rw [Qb.eq_1] at H
  refine Tr.sr (Tr.va rfl (fun _ _ a c => QE (a.ev rfl) (a.ev rfl)) (Tr.nil (Tr.zA (Tr.seq (Tr.WY rfl (JB QG) (Tr.exit (Tr.zi (Tr.zi (Tr.QL (Tr.zA (Tr.sr (Tr.asg rfl rfl (Tr.nil (Tr.zA (Tr.ret ?_)))))))))))))))
  obtain rfl := oI H
  exact Tr.out (m := [iv (-1)]) [] (zU rfl zT) (fun W hW => ⟨rfl, hW.low leB⟩)
 | cons xL1 zV =>
  rw [Qb.eq_2] at H
  refine Tr.sr (Tr.va rfl (fun _ _ a c => QE (a.ev rfl) (a.ev rfl)) (Tr.nil (Tr.zA (Tr.seq (Tr.WX rfl (JX QG) (Tr.skip (Tr.zA (Tr.seq (Tr.block (Tr.sr (Tr.mv rfl rfl (Tr.asg rfl rfl (Tr.nil (Tr.zA (Tr.sr (Tr.mv rfl rfl (Tr.mv rfl rfl (Tr.mv rfl rfl ?_))))))))))))))))))
  obtain ⟨zoG, hRu104, zdw, hcu104⟩ := (zP).el (Js QG)
  obtain ⟨zSt, zSX⟩ := zoG
  have zM9 := zdw
  replace zM9 : Sl w.R w.W zY zSt zSX xL1.Rects := zM9
  refine Tr.va rfl (fun _ _ a c => zK zFF (a.ev rfl) zP.form (a.ev rfl) (Int.natCast_nonneg _) (QC QG)) (Tr.va rfl (fun _ _ a c => zX (cs := [sv xL1.Name, sL zSt xL1.Rects zSX]) zUj zLQ (a.ev rfl) (zO.take (rdR hRu104 hcu104 c) 2) rfl) ?_)
  obtain ⟨zCy, zPQ, H⟩ := bnd H
  refine Tr.zEV (r := (bV zCy)) (wn rfl) rfl rfl Tryz.call117 (zI rfl zS) (fun W hW => zLF xL1 zSt zSX (zM9.ext hW.Qd) q0 bq0 (hW.Qd.r _ hb0) (hW.Qd.cells hb0 hc0) zCy zPQ (HF.start _)) (Tr.nil (Tr.zA (Tr.cond rfl H (fun H => ?_) (fun H => ?_))))
  ·refine Tr.sr (Tr.mv rfl rfl (Tr.asg rfl rfl (Tr.nil (Tr.zA (Tr.ret (Tr.QI (Tr.zg (Tr.zg (Tr.QI (Tr.zg ?_))))))))))
   obtain rfl := oI H
   exact Tr.out (m := [iv (iL1 : Int)]) [] (zU rfl zT) (fun W hW => ⟨rfl, hW.low leB⟩)
  ·exact Tr.skip (Tr.zh (Tr.zA (Tr.region (Tr.va rfl (fun _ _ a c => QA (a.ev rfl) (a.ev rfl)) (Tr.mv rfl rfl (Tr.nil (Tr.zf Qe (zV, (iL1 + 1)) ⟨rfl, Ql QG, QC QG, H⟩ (.cons rfl (.cons rfl (.cons rfl (.cons (congrArg (fun z => some (Value.int .i64 z)) (Qk QG zP.form)) .nil)))) .nil)))))))

theorem zHm {w : Bs} (p0 : QB) (zF : Option Addr) (zG : Nat) (zP : Sl w.R w.W zN zF zG p0.Tools) (zM : Option Addr) (zL : Nat) (QW : Sl w.R w.W zH zM zL p0.Steps) (p1 : ByteArray) (r : Int) (H : zCM p0 p1 = some r) (hE : HF w w.W E0) : Calls Tryz.prog 96 [.agg #[iv p0.Unit, sL zF p0.Tools zG, sL zM p0.Steps zL], sv p1].toArray w.W fun e W' => e = .returned (iv r) ∧ HF w W' E0 := by
 unfold zCM at H
 have leB := Bs.Le.refl w
 refine Tr.enter (n := 9) Tryz.func96 rfl rfl rfl hE (Tr.sr (Tr.box 1 (cs := [iv p0.Unit, sL zF p0.Tools zG, sL zM p0.Steps zL]) (wn rfl) rfl rfl rfl fun zt => (Tr.box 2 (cs := [sv p1]) (wn rfl) rfl rfl rfl fun Qg => (Tr.asg rfl rfl (Tr.nil (Tr.zA (Tr.sr (Tr.va rfl (fun _ _ a c => zB zBy (a.ev rfl)) (Tr.va rfl (fun _ _ a c => zD zGQ (a.ev rfl) (rdb c (vs := [iv p0.Unit, sL zF p0.Tools zG, sL zM p0.Steps zL]) (k := 1) rfl 1) rfl) (Tr.zHD (vs := [pV Qg]) (wn rfl) rfl (zI rfl zS) ?_))))))))))
 obtain ⟨y102, hy102, H⟩ := bnd H
 refine Tr.Qs (r := (iv y102)) (wn rfl) rfl Tryz.call116 (zI rfl (zI rfl zS)) (fun W hW => zCR p0.Tools zF zG (zP.ext hW.Qd) p1 Qg (hW.zcH (k := 2) rfl) (hW.zeP (k := 2) rfl) y102 hy102 (HF.start _)) (Tr.asg rfl rfl (Tr.nil (Tr.zA (Tr.ret ?_))))
 obtain rfl := oI H
 exact Tr.out (m := [iv y102]) [] (zU rfl zT) (fun W hW => ⟨rfl, hW.low leB⟩)

theorem zG5 {w : Bs} (p0 : zJ) (p1 : Int) (r : Bool) (H : zBi p0 p1 = some r) (hE : HF w w.W E0) : Calls Tryz.prog 97 [.agg #[iv p0.X, iv p0.Y], iv p1].toArray w.W fun e W' => e = .returned (bV r) ∧ HF w W' E0 := by
 unfold zBi at H
 have leB := Bs.Le.refl w
 refine Tr.enter (n := 15) Tryz.func97 rfl rfl rfl hE (Tr.sr (Tr.box 1 (cs := [iv p0.X, iv p0.Y]) (wn rfl) rfl rfl rfl fun zt => (Tr.asg rfl rfl (Tr.nil (Tr.zA (Tr.sr (Tr.va rfl (fun _ _ a c => zB Kq (a.ev rfl)) (Tr.va rfl (fun _ _ a c => zD QH (a.ev rfl) (rdb c (vs := [iv p0.X, iv p0.Y]) (k := 1) rfl 0) rfl) (Tr.mv rfl rfl ?_)))))))))
 obtain ⟨y101, hy101, H⟩ := bnd H
 refine Tr.Qs (r := (bV y101)) (wn rfl) rfl Tryz.call72 (zI rfl (zI rfl zS)) (fun W hW => zBj p0.X p1 y101 hy101 (HF.start _)) (Tr.mv rfl rfl ?_)
 obtain ⟨zGi, zBa, H⟩ := bnd H
 refine Tr.VJ 5 [(14, bV zGi)] [(1, bx zt #[iv p0.X, iv p0.Y] 43)] ?_ ?_
 ·cases zGM : y101
  ·rw [zGM] at zBa
   rw [if_neg (by decide)] at zBa
   have H := zBa
   obtain rfl := oI H
   exact Tr.pass rfl rfl rfl rfl rfl (by decide) (Tr.pass rfl rfl rfl rfl rfl (by decide) (Tr.pass rfl rfl rfl rfl rfl (by decide) (Tr.pass rfl rfl rfl rfl rfl (by decide) (Tr.va rfl (fun _ _ a c => zo (a.ev rfl) (a.ev rfl)) (Tr.nil (Tr.Qi (.cons rfl .nil) (.cons rfl .nil)))))))
  ·rw [zGM] at zBa
   rw [if_pos rfl] at zBa
   have H := zBa
   refine Tr.val (wg rfl rfl rfl) rfl (fun _ _ a c => zB KY (a.ev rfl)) (Tr.val (wg rfl rfl rfl) rfl (fun _ _ a c => zD QH (a.ev rfl) (rdb c (vs := [iv p0.X, iv p0.Y]) (k := 1) rfl 1) rfl) (Tr.val (wg rfl rfl rfl) rfl (fun _ _ a c => run_move (a.ev rfl)) ?_))
   obtain ⟨y104, hy104, H⟩ := bnd H
   refine Tr.Qs (r := (bV y104)) (wg rfl rfl rfl) rfl Tryz.call72 (zI rfl (zI rfl zS)) (fun W hW => zBj p0.Y p1 y104 hy104 (HF.start _)) (Tr.va rfl (fun _ _ a c => zn (a.ev rfl) (a.ev rfl)) ?_)
   obtain rfl := oI H
   exact Tr.nil (Tr.Qi (.cons rfl .nil) (.cons rfl .nil))
 ·show Tr _ _ (LF [(14, bV zGi)]) (LE [(1, bx zt #[iv p0.X, iv p0.Y] 43)]) _
  refine Tr.asg rfl rfl (Tr.nil (Tr.zA (Tr.ret ?_)))
  obtain rfl := oI H
  exact Tr.out (m := [bV zGi]) [] (zU rfl zT) (fun W hW => ⟨rfl, hW.low leB⟩)

theorem zJH {w : Bs} (p0 : zJ) (q0 : QB) (Aq0_0 : Option Addr) (cq0_0 : Nat) (za9 : Sl w.R w.W zN Aq0_0 cq0_0 q0.Tools) (Aq0_1 : Option Addr) (cq0_1 : Nat) (zoi : Sl w.R w.W zH Aq0_1 cq0_1 q0.Steps) (bq0 : Nat) (hb0 : w.R bq0) (hc0 : zO w.W bq0 0 [iv q0.Unit, sL Aq0_0 q0.Tools cq0_0, sL Aq0_1 q0.Steps cq0_1]) (r : Bool) (H : VN p0 q0 = some r) (hE : HF w w.W E0) : Calls Tryz.prog 99 [.agg #[iv p0.X, iv p0.Y], pV bq0].toArray w.W fun e W' => e = .returned (bV r) ∧ HF w W' E0 := by
 unfold VN at H
 have leB := Bs.Le.refl w
 refine Tr.enter (n := 9) Tryz.func99 rfl rfl rfl hE (Tr.sr (Tr.box 1 (cs := [iv p0.X, iv p0.Y]) (wn rfl) rfl rfl rfl fun zt => (Tr.asg rfl rfl (Tr.nil (Tr.zA (Tr.sr (Tr.va rfl (fun _ _ a c => zX (cs := [iv p0.X, iv p0.Y]) KT JL (a.ev rfl) (zO.take (rdb c (vs := [iv p0.X, iv p0.Y]) (k := 1) rfl 0) 2) rfl) (Tr.va rfl (fun _ _ a c => zB zBH (a.ev rfl)) (Tr.va rfl (fun _ _ a c => zD QH (a.ev rfl) (zO.drop (rdR hb0 hc0 c) 0) rfl) ?_)))))))))
 obtain ⟨y101, hy101, H⟩ := bnd H
 refine Tr.Qs (r := (bV y101)) (wn rfl) rfl Tryz.call97 (zI rfl (zI rfl zS)) (fun W hW => zG5 p0 q0.Unit y101 hy101 (HF.start _)) (Tr.va rfl (fun _ _ a c => KI (a.ev rfl)) (Tr.asg rfl rfl (Tr.nil (Tr.zA (Tr.ret ?_)))))
 obtain rfl := oI H
 exact Tr.out (m := [bV (!y101)]) [] (zU rfl zT) (fun W hW => ⟨rfl, hW.low leB⟩)

theorem zFt {w : Bs} (p0 : (List zJ)) (zF : Option Addr) (zG : Nat) (zP : Sl w.R w.W QD zF zG p0) (p1 : zJ → Option Bool) (fid1 : Nat) (cap1 : List Value) (hg1 : ∀ args W, (callFunc fid1 args).run Tryz.prog W = .ok (.enter fid1 args) W) (hf1 : ∀ (w' : Bs), w.Ext w' → ∀ (z0 : zJ), ∀ y, p1 z0 = some y → Calls Tryz.prog fid1 (([.agg #[iv z0.X, iv z0.Y]] : List Value) ++ cap1).toArray w'.W fun e W'' => e = .returned (bV y) ∧ HF w' W'' E0) (r : Int) (H : Vm p0 p1 = some r) (hE : HF w w.W E0) : Calls Tryz.prog 118 [sL zF p0 zG, .func (.func fid1) #[] cap1.toArray].toArray w.W fun e W' => e = .returned (iv r) ∧ HF w W' E0 := by
 unfold Vm at H
 have leB := Bs.Le.refl w
 refine Tr.enter (n := 19) Tryz.func118 rfl rfl rfl hE (Tr.sr (Tr.asg rfl rfl (Tr.nil (Tr.zA (Tr.seq (Tr.sr (Tr.mv rfl rfl (Tr.va rfl (fun _ _ a c => zy zEQ (a.ev rfl)) (Tr.mv rfl rfl (Tr.nil (Tr.zA (Tr.block (Tr.loop (σ := (List zJ) × Nat) (fun m w s => m = s.1.length + 1 ∧ s.1 = List.drop s.2 p0 ∧ s.2 ≤ p0.length ∧ Qo p1 s.1 s.2 = some r) (fun s => [(0, sL zF p0 zG), (1, .func (.func fid1) #[] cap1.toArray), (7, iv (p0.length : Int)), (8, iv (s.2 : Int))]) (fun s => []) (p0.length + 1) (p0, 0) ⟨rfl, rfl, Nat.zero_le _, H⟩ (.cons rfl (.cons rfl (.cons rfl (.cons rfl .nil)))) .nil (fun _ _ h => absurd h.1 (by simp)) ?_)))))))))))))
 intro w Qe m s hs
 obtain ⟨zV, iL1⟩ := s
 obtain ⟨KS, QG, hiL1, H⟩ := hs
 replace QG : zV = List.drop iL1 p0 := QG
 replace H : Qo p1 zV iL1 = some r := H
 replace KS : m + 1 = zV.length + 1 := KS
 replace zP := zP.leR Qe
 replace hf1 := fun w' he => hf1 w' (Qe.ext.trans he)
 replace leB := leB.trans Qe
 obtain rfl : m = zV.length := by omega
 clear KS
 dsimp only
 cases zV with
 | nil =>
  rw [Qo.eq_1] at H
  refine Tr.sr (Tr.va rfl (fun _ _ a c => QE (a.ev rfl) (a.ev rfl)) (Tr.nil (Tr.zA (Tr.seq (Tr.WY rfl (JB QG) (Tr.exit (Tr.zi (Tr.zi (Tr.QL (Tr.zA (Tr.sr (Tr.asg rfl rfl (Tr.nil (Tr.zA (Tr.ret ?_)))))))))))))))
  obtain rfl := oI H
  exact Tr.out (m := [iv (-1)]) [] (zU rfl zT) (fun W hW => ⟨rfl, hW.low leB⟩)
 | cons xL1 zV =>
  rw [Qo.eq_2] at H
  refine Tr.sr (Tr.va rfl (fun _ _ a c => QE (a.ev rfl) (a.ev rfl)) (Tr.nil (Tr.zA (Tr.seq (Tr.WX rfl (JX QG) (Tr.skip (Tr.zA (Tr.seq (Tr.block (Tr.sr (Tr.mv rfl rfl (Tr.asg rfl rfl (Tr.nil (Tr.zA (Tr.sr (Tr.mv rfl rfl (Tr.mv rfl rfl (Tr.mv rfl rfl (Tr.va rfl (fun _ _ a c => zK zGN (a.ev rfl) zP.form (a.ev rfl) (Int.natCast_nonneg _) (QC QG)) (Tr.va rfl (fun _ _ a c => zX (cs := [iv xL1.X, iv xL1.Y]) KT JL (a.ev rfl) (zO.take (rdF zAj zP (Js QG) c) 2) rfl) ?_))))))))))))))))))))
  obtain ⟨zm, zCi, H⟩ := bnd H
  refine Tr.zEV (r := (bV zm)) (wn rfl) rfl rfl hg1 (zI rfl zS) (fun W hW => hf1 hW.all hW.Qd xL1 _ zCi) (Tr.nil (Tr.zA (Tr.cond rfl H (fun H => ?_) (fun H => ?_))))
  ·refine Tr.sr (Tr.mv rfl rfl (Tr.asg rfl rfl (Tr.nil (Tr.zA (Tr.ret (Tr.QI (Tr.zg (Tr.zg (Tr.QI (Tr.zg ?_))))))))))
   obtain rfl := oI H
   exact Tr.out (m := [iv (iL1 : Int)]) [] (zU rfl zT) (fun W hW => ⟨rfl, hW.low leB⟩)
  ·exact Tr.skip (Tr.zh (Tr.zA (Tr.region (Tr.va rfl (fun _ _ a c => QA (a.ev rfl) (a.ev rfl)) (Tr.mv rfl rfl (Tr.nil (Tr.zf Qe (zV, (iL1 + 1)) ⟨rfl, Ql QG, QC QG, H⟩ (.cons rfl (.cons rfl (.cons rfl (.cons (congrArg (fun z => some (Value.int .i64 z)) (Qk QG zP.form)) .nil)))) .nil)))))))

theorem zBg {w : Bs} (p0 : (List zJ)) (zF : Option Addr) (zG : Nat) (zP : Sl w.R w.W QD zF zG p0) (p1 : zJ → Option Bool) (fid1 : Nat) (cap1 : List Value) (hg1 : ∀ args W, (callFunc fid1 args).run Tryz.prog W = .ok (.enter fid1 args) W) (hf1 : ∀ (w' : Bs), w.Ext w' → ∀ (z0 : zJ), ∀ y, p1 z0 = some y → Calls Tryz.prog fid1 (([.agg #[iv z0.X, iv z0.Y]] : List Value) ++ cap1).toArray w'.W fun e W'' => e = .returned (bV y) ∧ HF w' W'' E0) (r : Bool) (H : JN p0 p1 = some r) (hE : HF w w.W E0) : Calls Tryz.prog 98 [sL zF p0 zG, .func (.func fid1) #[] cap1.toArray].toArray w.W fun e W' => e = .returned (bV r) ∧ HF w W' E0 := by
 unfold JN at H
 have leB := Bs.Le.refl w
 refine Tr.enter (n := 9) Tryz.func98 rfl rfl rfl hE (Tr.sr (Tr.asg rfl rfl (Tr.nil (Tr.zA (Tr.sr (Tr.mv rfl rfl (Tr.mv rfl rfl ?_)))))))
 obtain ⟨QK, zBE, H⟩ := bnd H
 refine Tr.Qs (r := (iv QK)) (wn rfl) rfl Tryz.call118 (zI rfl (zI rfl zS)) (fun W hW => zFt p0 zF zG (zP.ext hW.Qd) p1 fid1 cap1 hg1 (fun w' he => hf1 w' (hW.Qd.trans he)) QK zBE (HF.start _)) (Tr.va rfl (fun _ _ a c => zEo (a.ev rfl) (a.ev rfl)) (Tr.asg rfl rfl (Tr.nil (Tr.zA (Tr.ret ?_)))))
 obtain rfl := oI H
 exact Tr.out (m := [bV (decide (0 ≤ QK))]) [] (zU rfl zT) (fun W hW => ⟨rfl, hW.low leB⟩)

theorem zNT {w : Bs} (p0 : (List zJ)) (zF : Option Addr) (zG : Nat) (zP : Sl w.R w.W QD zF zG p0) (r : Bool) (H : zDQ p0 = some r) (hE : HF w w.W E0) : Calls Tryz.prog 100 [sL zF p0 zG].toArray w.W fun e W' => e = .returned (bV r) ∧ HF w W' E0 := by
 unfold zDQ at H
 have leB := Bs.Le.refl w
 refine Tr.enter (n := 36) Tryz.func100 rfl rfl rfl hE (Tr.sr (Tr.asg rfl rfl (Tr.nil (Tr.zA (Tr.seq (Tr.sr (Tr.mv rfl rfl (Tr.va rfl (fun _ _ a c => zy zEQ (a.ev rfl)) (Tr.va rfl (fun _ _ a c => QE (a.ev rfl) (a.ev rfl)) (Tr.nil (Tr.zA (Tr.cond rfl H (fun H => ?_) (fun H => ?_)))))))))))))
 ·refine Tr.sr (Tr.asg rfl rfl (Tr.nil (Tr.zA (Tr.ret (Tr.zg ?_)))))
  obtain rfl := oI H
  exact Tr.out (m := [bV false]) [] (zU rfl zT) (fun W hW => ⟨rfl, hW.low leB⟩)
 ·refine Tr.skip (Tr.zA (Tr.seq (Tr.sr (Tr.mv rfl rfl (Tr.va rfl (fun _ _ a c => zy zEQ (a.ev rfl)) (Tr.mv rfl rfl (Tr.nil (Tr.zA (Tr.block (Tr.loop (σ := (List zJ) × Nat) (fun m w s => m = s.1.length + 1 ∧ s.1 = List.drop s.2 p0 ∧ s.2 ≤ p0.length ∧ WG p0 s.1 s.2 = some r) (fun s => [(0, sL zF p0 zG), (9, sL zF p0 zG), (10, iv (p0.length : Int)), (11, iv (s.2 : Int))]) (fun s => []) (p0.length + 1) (p0, 0) ⟨rfl, rfl, Nat.zero_le _, H⟩ (.cons rfl (.cons rfl (.cons rfl (.cons rfl .nil)))) .nil (fun _ _ h => absurd h.1 (by simp)) ?_))))))))))
  intro w Qe m s hs
  obtain ⟨zV, iL1⟩ := s
  obtain ⟨KS, QG, hiL1, H⟩ := hs
  replace QG : zV = List.drop iL1 p0 := QG
  replace H : WG p0 zV iL1 = some r := H
  replace KS : m + 1 = zV.length + 1 := KS
  replace zP := zP.leR Qe
  replace leB := leB.trans Qe
  obtain rfl : m = zV.length := by omega
  clear KS
  dsimp only
  cases zV with
  | nil =>
   rw [WG.eq_1] at H
   refine Tr.sr (Tr.va rfl (fun _ _ a c => QE (a.ev rfl) (a.ev rfl)) (Tr.nil (Tr.zA (Tr.seq (Tr.WY rfl (JB QG) (Tr.exit (Tr.zi (Tr.zi (Tr.QL (Tr.zA (Tr.sr (Tr.asg rfl rfl (Tr.nil (Tr.zA (Tr.ret ?_)))))))))))))))
   obtain rfl := oI H
   exact Tr.out (m := [bV true]) [] (zU rfl zT) (fun W hW => ⟨rfl, hW.low leB⟩)
  | cons xL1 zV =>
   rw [WG.eq_2] at H
   refine Tr.sr (Tr.va rfl (fun _ _ a c => QE (a.ev rfl) (a.ev rfl)) (Tr.nil (Tr.zA (Tr.seq (Tr.WX rfl (JX QG) (Tr.skip (Tr.zA (Tr.seq (Tr.block (Tr.sr (Tr.mv rfl rfl (Tr.va rfl (fun _ _ a c => zK zGN (a.ev rfl) zP.form (a.ev rfl) (Int.natCast_nonneg _) (QC QG)) (Tr.va rfl (fun _ _ a c => zX (cs := [iv xL1.X, iv xL1.Y]) KT JL (a.ev rfl) (zO.take (rdF zAj zP (Js QG) c) 2) rfl) (Tr.alloc 3 (wn rfl) rfl zJJ fun zoc => (Tr.asg rfl rfl (Tr.store 3 (cs := [iv xL1.X, iv xL1.Y]) [iv xL1.X, iv xL1.Y] (wn rfl) rfl rfl rfl rfl JL rfl rfl rfl (Tr.nil (Tr.zA (Tr.sr (Tr.mv rfl rfl (Tr.mv rfl rfl (Tr.va rfl (fun _ _ a c => QA (a.ev rfl) (a.ev rfl)) (Tr.mv rfl rfl (Tr.va rfl (fun _ _ a c => zy zEQ (a.ev rfl)) ?_))))))))))))))))))))))))
   obtain ⟨q107, zlw, H⟩ := bnd H
   refine Tr.va rfl (fun _ _ a c => zZt (a.ev rfl) (a.ev rfl) zlw) ?_
   obtain ⟨zBu, zLp, H⟩ := bnd H
   obtain ⟨zIC, zIB, zIA⟩ := zx zLp
   refine Tr.va rfl (fun _ _ a c => zK zGN (a.ev rfl) zP.form (a.ev rfl) zIC zIB) (Tr.va rfl (fun _ _ a c => zX (cs := [iv zBu.X, iv zBu.Y]) KT JL (a.ev rfl) (zO.take (rdF zAj zP zIA c) 2) rfl) (Tr.alloc 4 (wn rfl) rfl zJJ fun zpB => (Tr.store 4 (cs := [iv zBu.X, iv zBu.Y]) [iv zBu.X, iv zBu.Y] (wn rfl) rfl rfl rfl rfl JL rfl rfl rfl (Tr.nil (Tr.zA (Tr.sr (Tr.va rfl (fun _ _ a c => zB Kq (a.ev rfl)) (Tr.va rfl (fun _ _ a c => zD QH (a.ev rfl) (rdb c (vs := [iv xL1.X, iv xL1.Y]) (k := 3) rfl 0) rfl) (Tr.va rfl (fun _ _ a c => zB Kq (a.ev rfl)) (Tr.va rfl (fun _ _ a c => zD QH (a.ev rfl) (rdb c (vs := [iv zBu.X, iv zBu.Y]) (k := 4) rfl 0) rfl) (Tr.va rfl (fun _ _ a c => Qa (a.ev rfl) (a.ev rfl)) (Tr.va rfl (fun _ _ a c => zB KY (a.ev rfl)) (Tr.va rfl (fun _ _ a c => zD QH (a.ev rfl) (rdb c (vs := [iv xL1.X, iv xL1.Y]) (k := 3) rfl 1) rfl) (Tr.va rfl (fun _ _ a c => zB KY (a.ev rfl)) (Tr.va rfl (fun _ _ a c => zD QH (a.ev rfl) (rdb c (vs := [iv zBu.X, iv zBu.Y]) (k := 4) rfl 1) rfl) (Tr.va rfl (fun _ _ a c => Qa (a.ev rfl) (a.ev rfl)) (Tr.va rfl (fun _ _ a c => zZv zji (a.ev rfl) (a.ev rfl)) (Tr.nil (Tr.zA (Tr.cond rfl H (fun H => ?_) (fun H => ?_)))))))))))))))))))))
   ·refine Tr.sr (Tr.asg rfl rfl (Tr.nil (Tr.zA (Tr.ret (Tr.QI (Tr.zg (Tr.zg (Tr.QI (Tr.zg ?_)))))))))
    obtain rfl := oI H
    exact Tr.out (m := [bV false]) [] (zU rfl zT) (fun W hW => ⟨rfl, hW.low leB⟩)
   ·exact Tr.skip (Tr.zh (Tr.zA (Tr.region (Tr.va rfl (fun _ _ a c => QA (a.ev rfl) (a.ev rfl)) (Tr.mv rfl rfl (Tr.nil (Tr.zf Qe (zV, (iL1 + 1)) ⟨rfl, Ql QG, QC QG, H⟩ (.cons rfl (.cons rfl (.cons rfl (.cons (congrArg (fun z => some (Value.int .i64 z)) (Qk QG zP.form)) .nil)))) .nil)))))))

theorem zKe {w : Bs} (p0 : QB) (zF : Option Addr) (zG : Nat) (zP : Sl w.R w.W zN zF zG p0.Tools) (zM : Option Addr) (zL : Nat) (QW : Sl w.R w.W zH zM zL p0.Steps) (p1 : zC) (za : Option Addr) (zb : Nat) (Qc : Sl w.R w.W QD za zb p1.Points) (QS : Option Addr) (QR : Nat) (zIs : Sl w.R w.W zH QS QR p1.Steps) (p2 : Int) (r : Int) (H : zBl p0 p1 p2 = some r) (hE : HF w w.W E0) : Calls Tryz.prog 74 [.agg #[iv p0.Unit, sL zF p0.Tools zG, sL zM p0.Steps zL], .agg #[iv p1.Kind, sv p1.Name, iv p1.At.X, iv p1.At.Y, sL za p1.Points zb, iv p1.NX, iv p1.NY, sL QS p1.Steps QR], iv p2].toArray w.W fun e W' => e = .returned (iv r) ∧ HF w W' E0 := by
 unfold zBl at H
 have leB := Bs.Le.refl w
 refine Tr.enter (n := 120) Tryz.func74 rfl rfl rfl hE (Tr.sr (Tr.box 1 (cs := [iv p0.Unit, sL zF p0.Tools zG, sL zM p0.Steps zL]) (wn rfl) rfl rfl rfl fun zt => (Tr.box 2 (cs := [iv p1.Kind, sv p1.Name, iv p1.At.X, iv p1.At.Y, sL za p1.Points zb, iv p1.NX, iv p1.NY, sL QS p1.Steps QR]) (wn rfl) rfl rfl rfl fun Qg => (Tr.asg rfl rfl (Tr.nil (Tr.zA (Tr.seq (Tr.sr (Tr.va rfl (fun _ _ a c => zB zBF (a.ev rfl)) (Tr.va rfl (fun _ _ a c => zD QH (a.ev rfl) (rdb c (vs := [iv p1.Kind, sv p1.Name, iv p1.At.X, iv p1.At.Y, sL za p1.Points zb, iv p1.NX, iv p1.NY, sL QS p1.Steps QR]) (k := 2) rfl 0) rfl) ?_))))))))))
 obtain ⟨y102, hy102, H⟩ := bnd H
 refine Tr.Qs (r := (bV y102)) (wn rfl) rfl Tryz.call22 (zI rfl (zI rfl (zI rfl zS))) (fun W hW => zAl p1.Kind 1 8 y102 hy102 (HF.start _)) (Tr.va rfl (fun _ _ a c => KI (a.ev rfl)) (Tr.nil (Tr.zA (Tr.cond rfl H (fun H => ?_) (fun H => ?_)))))
 ·refine Tr.sr (Tr.asg rfl rfl (Tr.nil (Tr.zA (Tr.ret (Tr.zg ?_)))))
  obtain rfl := oI H
  exact Tr.out (m := [iv 4]) [] (zU rfl zT) (fun W hW => ⟨rfl, hW.low leB⟩)
 ·refine Tr.skip (Tr.zA (Tr.sr (Tr.va rfl (fun _ _ a c => zB zBF (a.ev rfl)) (Tr.va rfl (fun _ _ a c => zD QH (a.ev rfl) (rdb c (vs := [iv p1.Kind, sv p1.Name, iv p1.At.X, iv p1.At.Y, sL za p1.Points zb, iv p1.NX, iv p1.NY, sL QS p1.Steps QR]) (k := 2) rfl 0) rfl) ?_))))
  obtain ⟨zm, zCi, H⟩ := bnd H
  refine Tr.Qs (r := (.agg #[bV zm.name, bV zm.at_, bV zm.points, bV zm.repeat_])) (wn rfl) rfl Tryz.call93 (zI rfl zS) (fun W hW => zGX p1.Kind zm zCi (HF.start _)) (Tr.alloc 3 (wn rfl) rfl zZM fun Ws => (Tr.store 3 (cs := [bV zm.name, bV zm.at_, bV zm.points, bV zm.repeat_]) [bV zm.name, bV zm.at_, bV zm.points, bV zm.repeat_] (wn rfl) rfl rfl rfl rfl zGA rfl rfl rfl (Tr.nil (Tr.zA (Tr.seq (Tr.block ?_))))))
  have leJ106 := Bs.Le.refl w
  refine Tr.zJD (σ := Bool) (fun w s => JC p0 p1 p2 zm s = some r) (fun s => [(2, iv p2), (3, pV zt), (4, pV Qg), (7, pV Ws), (15, bV s)]) (fun s => [(1, bx zt #[iv p0.Unit, sL zF p0.Tools zG, sL zM p0.Steps zL] 25), (2, bx Qg #[iv p1.Kind, sv p1.Name, iv p1.At.X, iv p1.At.Y, sL za p1.Points zb, iv p1.NX, iv p1.NY, sL QS p1.Steps QR] 46), (3, bx Ws #[bV zm.name, bV zm.at_, bV zm.points, bV zm.repeat_] 149)]) ?_ ?_
  ·refine Tr.sr (Tr.va rfl (fun _ _ a c => zB zUM (a.ev rfl)) (Tr.va rfl (fun _ _ a c => zD zNR (a.ev rfl) (rdb c (vs := [bV zm.name, bV zm.at_, bV zm.points, bV zm.repeat_]) (k := 3) rfl 0) rfl) (Tr.va rfl (fun _ _ a c => KI (a.ev rfl)) (Tr.mv rfl rfl (Tr.VJ 4 [(2, iv p2), (3, pV zt), (4, pV Qg), (7, pV Ws), (23, bV ((!zm.name) && (!sEq p1.Name ByteArray.empty)))] [(1, bx zt #[iv p0.Unit, sL zF p0.Tools zG, sL zM p0.Steps zL] 25), (2, bx Qg #[iv p1.Kind, sv p1.Name, iv p1.At.X, iv p1.At.Y, sL za p1.Points zb, iv p1.NX, iv p1.NY, sL QS p1.Steps QR] 46), (3, bx Ws #[bV zm.name, bV zm.at_, bV zm.points, bV zm.repeat_] 149)] ?_ ?_)))))
   ·cases zBZ : (!zm.name)
    ·exact Tr.pass rfl rfl rfl rfl rfl (by decide) (Tr.pass rfl rfl rfl rfl rfl (by decide) (Tr.pass rfl rfl rfl rfl rfl (by decide) (Tr.va rfl (fun _ _ a c => zo (a.ev rfl) (a.ev rfl)) (Tr.nil (Tr.Qi (.cons rfl (.cons rfl (.cons rfl (.cons rfl (.cons rfl .nil))))) (.cons rfl (.cons rfl (.cons rfl .nil))))))))
    ·exact Tr.val (wg rfl rfl rfl) rfl (fun _ _ a c => zB zFn (a.ev rfl)) (Tr.val (wg rfl rfl rfl) rfl (fun _ _ a c => zD zHF (a.ev rfl) (rdb c (vs := [iv p1.Kind, sv p1.Name, iv p1.At.X, iv p1.At.Y, sL za p1.Points zb, iv p1.NX, iv p1.NY, sL QS p1.Steps QR]) (k := 2) rfl 1) rfl) (Tr.val (wg rfl rfl rfl) rfl (fun _ _ a c => zLW (a.ev rfl) (a.ev rfl)) (Tr.va rfl (fun _ _ a c => zn (a.ev rfl) (a.ev rfl)) (Tr.nil (Tr.Qi (.cons rfl (.cons rfl (.cons rfl (.cons rfl (.cons rfl .nil))))) (.cons rfl (.cons rfl (.cons rfl .nil))))))))
   ·show Tr _ _ (LF [(2, iv p2), (3, pV zt), (4, pV Qg), (7, pV Ws), (23, bV ((!zm.name) && (!sEq p1.Name ByteArray.empty)))]) (LE [(1, bx zt #[iv p0.Unit, sL zF p0.Tools zG, sL zM p0.Steps zL] 25), (2, bx Qg #[iv p1.Kind, sv p1.Name, iv p1.At.X, iv p1.At.Y, sL za p1.Points zb, iv p1.NX, iv p1.NY, sL QS p1.Steps QR] 46), (3, bx Ws #[bV zm.name, bV zm.at_, bV zm.points, bV zm.repeat_] 149)]) _
    refine Tr.asg rfl rfl (Tr.nil (Tr.zA (Tr.cond rfl H (fun H => ?_) (fun H => ?_))))
    ·exact Tr.skip (Tr.zf leJ106 ((!zm.name) && (!sEq p1.Name ByteArray.empty)) H (.cons rfl (.cons rfl (.cons rfl (.cons rfl (.cons rfl .nil))))) (.cons rfl (.cons rfl (.cons rfl .nil))))
    ·refine Tr.sr (Tr.va rfl (fun _ _ a c => zB zbz (a.ev rfl)) (Tr.va rfl (fun _ _ a c => zD zNR (a.ev rfl) (rdb c (vs := [bV zm.name, bV zm.at_, bV zm.points, bV zm.repeat_]) (k := 3) rfl 1) rfl) (Tr.va rfl (fun _ _ a c => KI (a.ev rfl)) (Tr.mv rfl rfl (Tr.VJ 5 [(2, iv p2), (3, pV zt), (4, pV Qg), (7, pV Ws), (32, bV ((!zm.at_) && (!(QQ p1.At (zJ.mk 0 0)))))] [(1, bx zt #[iv p0.Unit, sL zF p0.Tools zG, sL zM p0.Steps zL] 25), (2, bx Qg #[iv p1.Kind, sv p1.Name, iv p1.At.X, iv p1.At.Y, sL za p1.Points zb, iv p1.NX, iv p1.NY, sL QS p1.Steps QR] 46), (3, bx Ws #[bV zm.name, bV zm.at_, bV zm.points, bV zm.repeat_] 149)] ?_ ?_)))))
     ·cases zBZ : (!zm.at_)
      ·exact Tr.pass rfl rfl rfl rfl rfl (by decide) (Tr.pass rfl rfl rfl rfl rfl (by decide) (Tr.pass rfl rfl rfl rfl rfl (by decide) (Tr.pass rfl rfl rfl rfl rfl (by decide) (Tr.va rfl (fun _ _ a c => zo (a.ev rfl) (a.ev rfl)) (Tr.nil (Tr.Qi (.cons rfl (.cons rfl (.cons rfl (.cons rfl (.cons rfl .nil))))) (.cons rfl (.cons rfl (.cons rfl .nil)))))))))
      ·exact Tr.val (wg rfl rfl rfl) rfl (fun _ _ a c => zB WK (a.ev rfl)) (Tr.val (wg rfl rfl rfl) rfl (fun _ _ a c => zX (cs := [iv p1.At.X, iv p1.At.Y]) KT JL (a.ev rfl) (zO.take (rdb c (vs := [iv p1.Kind, sv p1.Name, iv p1.At.X, iv p1.At.Y, sL za p1.Points zb, iv p1.NX, iv p1.NY, sL QS p1.Steps QR]) (k := 2) rfl 2) 2) rfl) (Tr.build (vs := []) (cs := [iv 0, iv 0]) (wg rfl rfl rfl) rfl Qf (by kernel_rfl) (Tr.val (wg rfl rfl rfl) rfl (fun _ _ a c => zKx p1.At (zJ.mk 0 0) (a.ev rfl) (a.ev rfl)) (Tr.va rfl (fun _ _ a c => zn (a.ev rfl) (a.ev rfl)) (Tr.nil (Tr.Qi (.cons rfl (.cons rfl (.cons rfl (.cons rfl (.cons rfl .nil))))) (.cons rfl (.cons rfl (.cons rfl .nil)))))))))
     ·show Tr _ _ (LF [(2, iv p2), (3, pV zt), (4, pV Qg), (7, pV Ws), (32, bV ((!zm.at_) && (!(QQ p1.At (zJ.mk 0 0)))))]) (LE [(1, bx zt #[iv p0.Unit, sL zF p0.Tools zG, sL zM p0.Steps zL] 25), (2, bx Qg #[iv p1.Kind, sv p1.Name, iv p1.At.X, iv p1.At.Y, sL za p1.Points zb, iv p1.NX, iv p1.NY, sL QS p1.Steps QR] 46), (3, bx Ws #[bV zm.name, bV zm.at_, bV zm.points, bV zm.repeat_] 149)]) _
      refine Tr.asg rfl rfl (Tr.nil (Tr.zA (Tr.cond rfl H (fun H => ?_) (fun H => ?_))))
      ·exact Tr.skip (Tr.zf leJ106 ((!zm.at_) && (!(QQ p1.At (zJ.mk 0 0)))) H (.cons rfl (.cons rfl (.cons rfl (.cons rfl (.cons rfl .nil))))) (.cons rfl (.cons rfl (.cons rfl .nil))))
      ·refine Tr.sr (Tr.va rfl (fun _ _ a c => zB zUL (a.ev rfl)) (Tr.va rfl (fun _ _ a c => zD zNR (a.ev rfl) (rdb c (vs := [bV zm.name, bV zm.at_, bV zm.points, bV zm.repeat_]) (k := 3) rfl 2) rfl) (Tr.va rfl (fun _ _ a c => KI (a.ev rfl)) (Tr.mv rfl rfl (Tr.VJ 5 [(2, iv p2), (3, pV zt), (4, pV Qg), (7, pV Ws), (41, bV ((!zm.points) && (decide (0 < (p1.Points.length : Int)))))] [(1, bx zt #[iv p0.Unit, sL zF p0.Tools zG, sL zM p0.Steps zL] 25), (2, bx Qg #[iv p1.Kind, sv p1.Name, iv p1.At.X, iv p1.At.Y, sL za p1.Points zb, iv p1.NX, iv p1.NY, sL QS p1.Steps QR] 46), (3, bx Ws #[bV zm.name, bV zm.at_, bV zm.points, bV zm.repeat_] 149)] ?_ ?_)))))
       ·cases zBZ : (!zm.points)
        ·exact Tr.pass rfl rfl rfl rfl rfl (by decide) (Tr.pass rfl rfl rfl rfl rfl (by decide) (Tr.pass rfl rfl rfl rfl rfl (by decide) (Tr.pass rfl rfl rfl rfl rfl (by decide) (Tr.va rfl (fun _ _ a c => zo (a.ev rfl) (a.ev rfl)) (Tr.nil (Tr.Qi (.cons rfl (.cons rfl (.cons rfl (.cons rfl (.cons rfl .nil))))) (.cons rfl (.cons rfl (.cons rfl .nil)))))))))
        ·exact Tr.val (wg rfl rfl rfl) rfl (fun _ _ a c => zB zAu (a.ev rfl)) (Tr.val (wg rfl rfl rfl) rfl (fun _ _ a c => zD zFI (a.ev rfl) (rdb c (vs := [iv p1.Kind, sv p1.Name, iv p1.At.X, iv p1.At.Y, sL za p1.Points zb, iv p1.NX, iv p1.NY, sL QS p1.Steps QR]) (k := 2) rfl 4) rfl) (Tr.val (wg rfl rfl rfl) rfl (fun _ _ a c => zy zEQ (a.ev rfl)) (Tr.val (wg rfl rfl rfl) rfl (fun _ _ a c => WO (a.ev rfl) (a.ev rfl)) (Tr.va rfl (fun _ _ a c => zn (a.ev rfl) (a.ev rfl)) (Tr.nil (Tr.Qi (.cons rfl (.cons rfl (.cons rfl (.cons rfl (.cons rfl .nil))))) (.cons rfl (.cons rfl (.cons rfl .nil)))))))))
       ·show Tr _ _ (LF [(2, iv p2), (3, pV zt), (4, pV Qg), (7, pV Ws), (41, bV ((!zm.points) && (decide (0 < (p1.Points.length : Int)))))]) (LE [(1, bx zt #[iv p0.Unit, sL zF p0.Tools zG, sL zM p0.Steps zL] 25), (2, bx Qg #[iv p1.Kind, sv p1.Name, iv p1.At.X, iv p1.At.Y, sL za p1.Points zb, iv p1.NX, iv p1.NY, sL QS p1.Steps QR] 46), (3, bx Ws #[bV zm.name, bV zm.at_, bV zm.points, bV zm.repeat_] 149)]) _
        refine Tr.asg rfl rfl (Tr.nil (Tr.zA (Tr.cond rfl H (fun H => ?_) (fun H => ?_))))
        ·exact Tr.skip (Tr.zf leJ106 ((!zm.points) && (decide (0 < (p1.Points.length : Int)))) H (.cons rfl (.cons rfl (.cons rfl (.cons rfl (.cons rfl .nil))))) (.cons rfl (.cons rfl (.cons rfl .nil))))
        ·refine Tr.region (Tr.va rfl (fun _ _ a c => zB zUK (a.ev rfl)) (Tr.va rfl (fun _ _ a c => zD zNR (a.ev rfl) (rdb c (vs := [bV zm.name, bV zm.at_, bV zm.points, bV zm.repeat_]) (k := 3) rfl 3) rfl) (Tr.va rfl (fun _ _ a c => KI (a.ev rfl)) (Tr.mv rfl rfl (Tr.VJ 15 [(2, iv p2), (3, pV zt), (4, pV Qg), (7, pV Ws), (60, bV ((!zm.repeat_) && (((p1.NX != 0) || (p1.NY != 0)) || (decide (0 < (p1.Steps.length : Int))))))] [(1, bx zt #[iv p0.Unit, sL zF p0.Tools zG, sL zM p0.Steps zL] 25), (2, bx Qg #[iv p1.Kind, sv p1.Name, iv p1.At.X, iv p1.At.Y, sL za p1.Points zb, iv p1.NX, iv p1.NY, sL QS p1.Steps QR] 46), (3, bx Ws #[bV zm.name, bV zm.at_, bV zm.points, bV zm.repeat_] 149)] ?_ ?_)))))
         ·cases zBZ : (!zm.repeat_)
          ·exact Tr.pass rfl rfl rfl rfl rfl (by decide) (Tr.pass rfl rfl rfl rfl rfl (by decide) (Tr.pass rfl rfl rfl rfl rfl (by decide) (Tr.pass rfl rfl rfl rfl rfl (by decide) (Tr.Wi rfl rfl rfl rfl (by decide) (Tr.Wi rfl rfl rfl rfl (by decide) (Tr.Wi rfl rfl rfl rfl (by decide) (Tr.pass rfl rfl rfl rfl rfl (by decide) (Tr.pass rfl rfl rfl rfl rfl (by decide) (Tr.Wi rfl rfl rfl rfl (by decide) (Tr.Wi rfl rfl rfl rfl (by decide) (Tr.Wi rfl rfl rfl rfl (by decide) (Tr.Wi rfl rfl rfl rfl (by decide) (Tr.pass rfl rfl rfl rfl rfl (by decide) (Tr.va rfl (fun _ _ a c => zo (a.ev rfl) (a.ev rfl)) (Tr.nil (Tr.Qi (.cons rfl (.cons rfl (.cons rfl (.cons rfl (.cons rfl .nil))))) (.cons rfl (.cons rfl (.cons rfl .nil)))))))))))))))))))
          ·refine Tr.val (wg rfl rfl rfl) rfl (fun _ _ a c => zB zFm (a.ev rfl)) (Tr.val (wg rfl rfl rfl) rfl (fun _ _ a c => zD QH (a.ev rfl) (rdb c (vs := [iv p1.Kind, sv p1.Name, iv p1.At.X, iv p1.At.Y, sL za p1.Points zb, iv p1.NX, iv p1.NY, sL QS p1.Steps QR]) (k := 2) rfl 5) rfl) (Tr.val (wg rfl rfl rfl) rfl (fun _ _ a c => Jt (a.ev rfl) (a.ev rfl)) (Tr.val (wg rfl rfl rfl) rfl (fun _ _ a c => run_move (a.ev rfl)) (Tr.VJ 4 [(2, iv p2), (3, pV zt), (4, pV Qg), (7, pV Ws), (45, bV true), (53, bV ((p1.NX != 0) || (p1.NY != 0)))] [(1, bx zt #[iv p0.Unit, sL zF p0.Tools zG, sL zM p0.Steps zL] 25), (2, bx Qg #[iv p1.Kind, sv p1.Name, iv p1.At.X, iv p1.At.Y, sL za p1.Points zb, iv p1.NX, iv p1.NY, sL QS p1.Steps QR] 46), (3, bx Ws #[bV zm.name, bV zm.at_, bV zm.points, bV zm.repeat_] 149)] ?_ ?_))))
           ·cases zBZ : (p1.NX != 0)
            ·exact Tr.val (wg rfl rfl rfl) rfl (fun _ _ a c => zB zGu (a.ev rfl)) (Tr.val (wg rfl rfl rfl) rfl (fun _ _ a c => zD QH (a.ev rfl) (rdb c (vs := [iv p1.Kind, sv p1.Name, iv p1.At.X, iv p1.At.Y, sL za p1.Points zb, iv p1.NX, iv p1.NY, sL QS p1.Steps QR]) (k := 2) rfl 6) rfl) (Tr.val (wg rfl rfl rfl) rfl (fun _ _ a c => Jt (a.ev rfl) (a.ev rfl)) (Tr.val (wg rfl rfl rfl) rfl (fun _ _ a c => zo (a.ev rfl) (a.ev rfl)) (Tr.nil (Tr.Qi (.cons rfl (.cons rfl (.cons rfl (.cons rfl (.cons rfl (.cons rfl .nil)))))) (.cons rfl (.cons rfl (.cons rfl .nil))))))))
            ·exact Tr.pass rfl rfl rfl rfl rfl (by decide) (Tr.pass rfl rfl rfl rfl rfl (by decide) (Tr.pass rfl rfl rfl rfl rfl (by decide) (Tr.val (wg rfl rfl rfl) rfl (fun _ _ a c => zn (a.ev rfl) (a.ev rfl)) (Tr.nil (Tr.Qi (.cons rfl (.cons rfl (.cons rfl (.cons rfl (.cons rfl (.cons rfl .nil)))))) (.cons rfl (.cons rfl (.cons rfl .nil))))))))
           ·dsimp only
            refine Tr.val (wg rfl rfl rfl) rfl (fun _ _ a c => run_move (a.ev rfl)) (Tr.VJ 5 [(2, iv p2), (3, pV zt), (4, pV Qg), (7, pV Ws), (45, bV true), (59, bV (((p1.NX != 0) || (p1.NY != 0)) || (decide (0 < (p1.Steps.length : Int)))))] [(1, bx zt #[iv p0.Unit, sL zF p0.Tools zG, sL zM p0.Steps zL] 25), (2, bx Qg #[iv p1.Kind, sv p1.Name, iv p1.At.X, iv p1.At.Y, sL za p1.Points zb, iv p1.NX, iv p1.NY, sL QS p1.Steps QR] 46), (3, bx Ws #[bV zm.name, bV zm.at_, bV zm.points, bV zm.repeat_] 149)] ?_ ?_)
            ·cases zBZ : ((p1.NX != 0) || (p1.NY != 0))
             ·exact Tr.val (wg rfl rfl rfl) rfl (fun _ _ a c => zB zDW (a.ev rfl)) (Tr.val (wg rfl rfl rfl) rfl (fun _ _ a c => zD zCn (a.ev rfl) (rdb c (vs := [iv p1.Kind, sv p1.Name, iv p1.At.X, iv p1.At.Y, sL za p1.Points zb, iv p1.NX, iv p1.NY, sL QS p1.Steps QR]) (k := 2) rfl 7) rfl) (Tr.val (wg rfl rfl rfl) rfl (fun _ _ a c => zy zB8 (a.ev rfl)) (Tr.val (wg rfl rfl rfl) rfl (fun _ _ a c => WO (a.ev rfl) (a.ev rfl)) (Tr.val (wg rfl rfl rfl) rfl (fun _ _ a c => zo (a.ev rfl) (a.ev rfl)) (Tr.nil (Tr.Qi (.cons rfl (.cons rfl (.cons rfl (.cons rfl (.cons rfl (.cons rfl .nil)))))) (.cons rfl (.cons rfl (.cons rfl .nil)))))))))
             ·exact Tr.pass rfl rfl rfl rfl rfl (by decide) (Tr.pass rfl rfl rfl rfl rfl (by decide) (Tr.pass rfl rfl rfl rfl rfl (by decide) (Tr.pass rfl rfl rfl rfl rfl (by decide) (Tr.val (wg rfl rfl rfl) rfl (fun _ _ a c => zn (a.ev rfl) (a.ev rfl)) (Tr.nil (Tr.Qi (.cons rfl (.cons rfl (.cons rfl (.cons rfl (.cons rfl (.cons rfl .nil)))))) (.cons rfl (.cons rfl (.cons rfl .nil)))))))))
            ·dsimp only
             exact Tr.va rfl (fun _ _ a c => zn (a.ev rfl) (a.ev rfl)) (Tr.nil (Tr.Qi (.cons rfl (.cons rfl (.cons rfl (.cons rfl (.cons rfl .nil))))) (.cons rfl (.cons rfl (.cons rfl .nil)))))
         ·show Tr _ _ (LF [(2, iv p2), (3, pV zt), (4, pV Qg), (7, pV Ws), (60, bV ((!zm.repeat_) && (((p1.NX != 0) || (p1.NY != 0)) || (decide (0 < (p1.Steps.length : Int))))))]) (LE [(1, bx zt #[iv p0.Unit, sL zF p0.Tools zG, sL zM p0.Steps zL] 25), (2, bx Qg #[iv p1.Kind, sv p1.Name, iv p1.At.X, iv p1.At.Y, sL za p1.Points zb, iv p1.NX, iv p1.NY, sL QS p1.Steps QR] 46), (3, bx Ws #[bV zm.name, bV zm.at_, bV zm.points, bV zm.repeat_] 149)]) _
          exact Tr.asg rfl rfl (Tr.nil (Tr.zf leJ106 ((!zm.repeat_) && (((p1.NX != 0) || (p1.NY != 0)) || (decide (0 < (p1.Steps.length : Int))))) H (.cons rfl (.cons rfl (.cons rfl (.cons rfl (.cons rfl .nil))))) (.cons rfl (.cons rfl (.cons rfl .nil)))))
  ·intro w x105 hlJ107 hs
   have H := hs
   replace H : JC p0 p1 p2 zm x105 = some r := H
   replace zP := zP.leR hlJ107
   replace QW := QW.leR hlJ107
   replace Qc := Qc.leR hlJ107
   replace leB := leB.trans hlJ107
   unfold JC at H
   show Tr _ _ (LF [(2, iv p2), (3, pV zt), (4, pV Qg), (7, pV Ws), (15, bV x105)]) (LE [(1, bx zt #[iv p0.Unit, sL zF p0.Tools zG, sL zM p0.Steps zL] 25), (2, bx Qg #[iv p1.Kind, sv p1.Name, iv p1.At.X, iv p1.At.Y, sL za p1.Points zb, iv p1.NX, iv p1.NY, sL QS p1.Steps QR] 46), (3, bx Ws #[bV zm.name, bV zm.at_, bV zm.points, bV zm.repeat_] 149)]) _
   refine Tr.cond rfl H (fun H => ?_) (fun H => ?_)
   ·refine Tr.sr (Tr.asg rfl rfl (Tr.nil (Tr.zA (Tr.ret (Tr.QI (Tr.zg ?_))))))
    obtain rfl := oI H
    exact Tr.out (m := [iv 3]) [] (zU rfl zT) (fun W hW => ⟨rfl, hW.low leB⟩)
   ·refine Tr.sr (Tr.va rfl (fun _ _ a c => zB zUM (a.ev rfl)) (Tr.va rfl (fun _ _ a c => zD zNR (a.ev rfl) (rdb c (vs := [bV zm.name, bV zm.at_, bV zm.points, bV zm.repeat_]) (k := 3) rfl 0) rfl) (Tr.mv rfl rfl ?_)))
    obtain ⟨zQW, zFf, H⟩ := bnd H
    refine Tr.VJ 6 [(2, iv p2), (3, pV zt), (4, pV Qg), (7, pV Ws), (70, bV zQW)] [(1, bx zt #[iv p0.Unit, sL zF p0.Tools zG, sL zM p0.Steps zL] 25), (2, bx Qg #[iv p1.Kind, sv p1.Name, iv p1.At.X, iv p1.At.Y, sL za p1.Points zb, iv p1.NX, iv p1.NY, sL QS p1.Steps QR] 46), (3, bx Ws #[bV zm.name, bV zm.at_, bV zm.points, bV zm.repeat_] 149)] ?_ ?_
    ·cases zBZ : zm.name
     ·rw [zBZ] at zFf
      rw [if_neg (by decide)] at zFf
      have H := zFf
      obtain rfl := oI H
      exact Tr.pass rfl rfl rfl rfl rfl (by decide) (Tr.pass rfl rfl rfl rfl rfl (by decide) (Tr.pass rfl rfl rfl rfl rfl (by decide) (Tr.pass rfl rfl rfl rfl rfl (by decide) (Tr.pass rfl rfl rfl rfl rfl (by decide) (Tr.va rfl (fun _ _ a c => zo (a.ev rfl) (a.ev rfl)) (Tr.nil (Tr.Qi (.cons rfl (.cons rfl (.cons rfl (.cons rfl (.cons rfl .nil))))) (.cons rfl (.cons rfl (.cons rfl .nil))))))))))
     ·rw [zBZ] at zFf
      rw [if_pos rfl] at zFf
      have H := zFf
      refine Tr.val (wg rfl rfl rfl) rfl (fun _ _ a c => zX (cs := [iv p0.Unit, sL zF p0.Tools zG, sL zM p0.Steps zL]) zAJ VQ (a.ev rfl) (zO.take (rdb c (vs := [iv p0.Unit, sL zF p0.Tools zG, sL zM p0.Steps zL]) (k := 1) rfl 0) 3) rfl) (Tr.val (wg rfl rfl rfl) rfl (fun _ _ a c => zB zFn (a.ev rfl)) (Tr.val (wg rfl rfl rfl) rfl (fun _ _ a c => zD zHF (a.ev rfl) (rdb c (vs := [iv p1.Kind, sv p1.Name, iv p1.At.X, iv p1.At.Y, sL za p1.Points zb, iv p1.NX, iv p1.NY, sL QS p1.Steps QR]) (k := 2) rfl 1) rfl) ?_))
      obtain ⟨zDI, zLo, H⟩ := bnd H
      refine Tr.Qs (r := (iv zDI)) (wg rfl rfl rfl) rfl Tryz.call96 (zI rfl (zI rfl zS)) (fun W hW => zHm p0 zF zG (zP.ext hW.Qd) zM zL (QW.ext hW.Qd) p1.Name zDI zLo (HF.start _)) (Tr.val (wg rfl rfl rfl) rfl (fun _ _ a c => QE (a.ev rfl) (a.ev rfl)) (Tr.va rfl (fun _ _ a c => zn (a.ev rfl) (a.ev rfl)) ?_))
      obtain rfl := oI H
      exact Tr.nil (Tr.Qi (.cons rfl (.cons rfl (.cons rfl (.cons rfl (.cons rfl .nil))))) (.cons rfl (.cons rfl (.cons rfl .nil))))
    ·show Tr _ _ (LF [(2, iv p2), (3, pV zt), (4, pV Qg), (7, pV Ws), (70, bV zQW)]) (LE [(1, bx zt #[iv p0.Unit, sL zF p0.Tools zG, sL zM p0.Steps zL] 25), (2, bx Qg #[iv p1.Kind, sv p1.Name, iv p1.At.X, iv p1.At.Y, sL za p1.Points zb, iv p1.NX, iv p1.NY, sL QS p1.Steps QR] 46), (3, bx Ws #[bV zm.name, bV zm.at_, bV zm.points, bV zm.repeat_] 149)]) _
     refine Tr.asg rfl rfl (Tr.nil (Tr.zA (Tr.cond rfl H (fun H => ?_) (fun H => ?_))))
     ·refine Tr.sr (Tr.asg rfl rfl (Tr.nil (Tr.zA (Tr.ret (Tr.QI (Tr.zg ?_))))))
      obtain rfl := oI H
      exact Tr.out (m := [iv 5]) [] (zU rfl zT) (fun W hW => ⟨rfl, hW.low leB⟩)
     ·refine Tr.sr (Tr.va rfl (fun _ _ a c => zB WK (a.ev rfl)) (Tr.va rfl (fun _ _ a c => zX (cs := [iv p1.At.X, iv p1.At.Y]) KT JL (a.ev rfl) (zO.take (rdb c (vs := [iv p1.Kind, sv p1.Name, iv p1.At.X, iv p1.At.Y, sL za p1.Points zb, iv p1.NX, iv p1.NY, sL QS p1.Steps QR]) (k := 2) rfl 2) 2) rfl) (Tr.va rfl (fun _ _ a c => zB zBH (a.ev rfl)) (Tr.va rfl (fun _ _ a c => zD QH (a.ev rfl) (rdb c (vs := [iv p0.Unit, sL zF p0.Tools zG, sL zM p0.Steps zL]) (k := 1) rfl 0) rfl) ?_))))
      obtain ⟨zGc, zTu, H⟩ := bnd H
      refine Tr.Qs (r := (bV zGc)) (wn rfl) rfl Tryz.call97 (zI rfl (zI rfl zS)) (fun W hW => zG5 p1.At p0.Unit zGc zTu (HF.start _)) (Tr.va rfl (fun _ _ a c => KI (a.ev rfl)) (Tr.mv rfl rfl ?_))
      obtain ⟨zQV, zHa, H⟩ := bnd H
      refine Tr.VJ 5 [(2, iv p2), (4, pV Qg), (7, pV Ws), (83, bV zQV)] [(1, bx zt #[iv p0.Unit, sL zF p0.Tools zG, sL zM p0.Steps zL] 25), (2, bx Qg #[iv p1.Kind, sv p1.Name, iv p1.At.X, iv p1.At.Y, sL za p1.Points zb, iv p1.NX, iv p1.NY, sL QS p1.Steps QR] 46), (3, bx Ws #[bV zm.name, bV zm.at_, bV zm.points, bV zm.repeat_] 149)] ?_ ?_
      ·cases zBZ : (!zGc)
       ·rw [zBZ] at zHa
        rw [if_neg (by decide)] at zHa
        have H := zHa
        refine Tr.val (wg rfl rfl rfl) rfl (fun _ _ a c => zB zAu (a.ev rfl)) (Tr.val (wg rfl rfl rfl) rfl (fun _ _ a c => zD zFI (a.ev rfl) (rdb c (vs := [iv p1.Kind, sv p1.Name, iv p1.At.X, iv p1.At.Y, sL za p1.Points zb, iv p1.NX, iv p1.NY, sL QS p1.Steps QR]) (k := 2) rfl 4) rfl) (Tr.zHD (vs := [pV zt]) (wg rfl rfl rfl) rfl (zI rfl zS) ?_))
        obtain ⟨y114, hy114, H⟩ := bnd H
        refine Tr.Qs (r := (bV y114)) (wg rfl rfl rfl) rfl Tryz.call98 (zI rfl (zI rfl zS)) (fun W hW => zBg p1.Points za zb (Qc.ext hW.Qd) (fun z0 => VN z0 p0) 99 [pV zt] Tryz.call99 (fun w' he z0 y hy => zJH z0 p0 zF zG (zP.ext (hW.Qd.trans he)) zM zL (QW.ext (hW.Qd.trans he)) zt (he.r _ (hW.zcH (k := 1) rfl)) (he.cells (hW.zcH (k := 1) rfl) (hW.zeP (k := 1) rfl)) y hy (HF.start _)) y114 hy114 (HF.start _)) (Tr.va rfl (fun _ _ a c => zo (a.ev rfl) (a.ev rfl)) ?_)
        obtain rfl := oI H
        exact Tr.nil (Tr.Qi (.cons rfl (.cons rfl (.cons rfl (.cons rfl .nil)))) (.cons rfl (.cons rfl (.cons rfl .nil))))
       ·rw [zBZ] at zHa
        rw [if_pos rfl] at zHa
        have H := zHa
        obtain rfl := oI H
        exact Tr.pass rfl rfl rfl rfl rfl (by decide) (Tr.pass rfl rfl rfl rfl rfl (by decide) (Tr.pass rfl rfl rfl rfl rfl (by decide) (Tr.pass rfl rfl rfl rfl rfl (by decide) (Tr.va rfl (fun _ _ a c => zn (a.ev rfl) (a.ev rfl)) (Tr.nil (Tr.Qi (.cons rfl (.cons rfl (.cons rfl (.cons rfl .nil)))) (.cons rfl (.cons rfl (.cons rfl .nil)))))))))
      ·show Tr _ _ (LF [(2, iv p2), (4, pV Qg), (7, pV Ws), (83, bV zQV)]) (LE [(1, bx zt #[iv p0.Unit, sL zF p0.Tools zG, sL zM p0.Steps zL] 25), (2, bx Qg #[iv p1.Kind, sv p1.Name, iv p1.At.X, iv p1.At.Y, sL za p1.Points zb, iv p1.NX, iv p1.NY, sL QS p1.Steps QR] 46), (3, bx Ws #[bV zm.name, bV zm.at_, bV zm.points, bV zm.repeat_] 149)]) _
       refine Tr.asg rfl rfl (Tr.nil (Tr.zA (Tr.cond rfl H (fun H => ?_) (fun H => ?_))))
       ·refine Tr.sr (Tr.asg rfl rfl (Tr.nil (Tr.zA (Tr.ret (Tr.QI (Tr.zg ?_))))))
        obtain rfl := oI H
        exact Tr.out (m := [iv 1]) [] (zU rfl zT) (fun W hW => ⟨rfl, hW.low leB⟩)
       ·refine Tr.sr (Tr.va rfl (fun _ _ a c => zB zAu (a.ev rfl)) (Tr.va rfl (fun _ _ a c => zD zFI (a.ev rfl) (rdb c (vs := [iv p1.Kind, sv p1.Name, iv p1.At.X, iv p1.At.Y, sL za p1.Points zb, iv p1.NX, iv p1.NY, sL QS p1.Steps QR]) (k := 2) rfl 4) rfl) (Tr.va rfl (fun _ _ a c => zy zEQ (a.ev rfl)) (Tr.va rfl (fun _ _ a c => WO (a.ev rfl) (a.ev rfl)) (Tr.asg rfl rfl (Tr.nil (Tr.zA (Tr.cond rfl H (fun H => ?_) (fun H => ?_)))))))))
        ·refine Tr.sr (Tr.asg rfl rfl (Tr.nil (Tr.zA (Tr.ret (Tr.QI (Tr.zg ?_))))))
         obtain rfl := oI H
         exact Tr.out (m := [iv 2]) [] (zU rfl zT) (fun W hW => ⟨rfl, hW.low leB⟩)
        ·refine Tr.sr (Tr.va rfl (fun _ _ a c => zB zUL (a.ev rfl)) (Tr.va rfl (fun _ _ a c => zD zNR (a.ev rfl) (rdb c (vs := [bV zm.name, bV zm.at_, bV zm.points, bV zm.repeat_]) (k := 3) rfl 2) rfl) (Tr.mv rfl rfl ?_)))
         obtain ⟨zd7, zGt, H⟩ := bnd H
         refine Tr.VJ 5 [(2, iv p2), (4, pV Qg), (7, pV Ws), (97, bV zd7)] [(1, bx zt #[iv p0.Unit, sL zF p0.Tools zG, sL zM p0.Steps zL] 25), (2, bx Qg #[iv p1.Kind, sv p1.Name, iv p1.At.X, iv p1.At.Y, sL za p1.Points zb, iv p1.NX, iv p1.NY, sL QS p1.Steps QR] 46), (3, bx Ws #[bV zm.name, bV zm.at_, bV zm.points, bV zm.repeat_] 149)] ?_ ?_
         ·cases zBZ : zm.points
          ·rw [zBZ] at zGt
           rw [if_neg (by decide)] at zGt
           have H := zGt
           obtain rfl := oI H
           exact Tr.pass rfl rfl rfl rfl rfl (by decide) (Tr.pass rfl rfl rfl rfl rfl (by decide) (Tr.pass rfl rfl rfl rfl rfl (by decide) (Tr.pass rfl rfl rfl rfl rfl (by decide) (Tr.va rfl (fun _ _ a c => zo (a.ev rfl) (a.ev rfl)) (Tr.nil (Tr.Qi (.cons rfl (.cons rfl (.cons rfl (.cons rfl .nil)))) (.cons rfl (.cons rfl (.cons rfl .nil)))))))))
          ·rw [zBZ] at zGt
           rw [if_pos rfl] at zGt
           have H := zGt
           refine Tr.val (wg rfl rfl rfl) rfl (fun _ _ a c => zB zAu (a.ev rfl)) (Tr.val (wg rfl rfl rfl) rfl (fun _ _ a c => zD zFI (a.ev rfl) (rdb c (vs := [iv p1.Kind, sv p1.Name, iv p1.At.X, iv p1.At.Y, sL za p1.Points zb, iv p1.NX, iv p1.NY, sL QS p1.Steps QR]) (k := 2) rfl 4) rfl) ?_)
           obtain ⟨zE6, zTt, H⟩ := bnd H
           refine Tr.Qs (r := (bV zE6)) (wg rfl rfl rfl) rfl Tryz.call100 (zI rfl zS) (fun W hW => zNT p1.Points za zb (Qc.ext hW.Qd) zE6 zTt (HF.start _)) (Tr.val (wg rfl rfl rfl) rfl (fun _ _ a c => KI (a.ev rfl)) (Tr.va rfl (fun _ _ a c => zn (a.ev rfl) (a.ev rfl)) ?_))
           obtain rfl := oI H
           exact Tr.nil (Tr.Qi (.cons rfl (.cons rfl (.cons rfl (.cons rfl .nil)))) (.cons rfl (.cons rfl (.cons rfl .nil))))
         ·show Tr _ _ (LF [(2, iv p2), (4, pV Qg), (7, pV Ws), (97, bV zd7)]) (LE [(1, bx zt #[iv p0.Unit, sL zF p0.Tools zG, sL zM p0.Steps zL] 25), (2, bx Qg #[iv p1.Kind, sv p1.Name, iv p1.At.X, iv p1.At.Y, sL za p1.Points zb, iv p1.NX, iv p1.NY, sL QS p1.Steps QR] 46), (3, bx Ws #[bV zm.name, bV zm.at_, bV zm.points, bV zm.repeat_] 149)]) _
          refine Tr.asg rfl rfl (Tr.nil (Tr.zA (Tr.cond rfl H (fun H => ?_) (fun H => ?_))))
          ·refine Tr.sr (Tr.asg rfl rfl (Tr.nil (Tr.zA (Tr.ret (Tr.QI (Tr.zg ?_))))))
           obtain rfl := oI H
           exact Tr.out (m := [iv 3]) [] (zU rfl zT) (fun W hW => ⟨rfl, hW.low leB⟩)
          ·refine Tr.skip (Tr.zh (Tr.zA (Tr.seq (Tr.sr (Tr.va rfl (fun _ _ a c => zB zUK (a.ev rfl)) (Tr.va rfl (fun _ _ a c => zD zNR (a.ev rfl) (rdb c (vs := [bV zm.name, bV zm.at_, bV zm.points, bV zm.repeat_]) (k := 3) rfl 3) rfl) (Tr.va rfl (fun _ _ a c => KI (a.ev rfl)) (Tr.nil (Tr.zA (Tr.cond rfl H (fun H => ?_) (fun H => ?_)))))))))))
           ·refine Tr.sr (Tr.asg rfl rfl (Tr.nil (Tr.zA (Tr.ret (Tr.zg ?_)))))
            obtain rfl := oI H
            exact Tr.out (m := [iv 0]) [] (zU rfl zT) (fun W hW => ⟨rfl, hW.low leB⟩)
           ·refine Tr.skip (Tr.zA (Tr.seq (Tr.block (Tr.sr (Tr.va rfl (fun _ _ a c => zB zFm (a.ev rfl)) (Tr.va rfl (fun _ _ a c => zD QH (a.ev rfl) (rdb c (vs := [iv p1.Kind, sv p1.Name, iv p1.At.X, iv p1.At.Y, sL za p1.Points zb, iv p1.NX, iv p1.NY, sL QS p1.Steps QR]) (k := 2) rfl 5) rfl) ?_))))))
            obtain ⟨zZZ, zlE, H⟩ := bnd H
            refine Tr.Qs (r := (bV zZZ)) (wn rfl) rfl Tryz.call22 (zI rfl (zI rfl (zI rfl zS))) (fun W hW => zAl p1.NX 1 100 zZZ zlE (HF.start _)) (Tr.va rfl (fun _ _ a c => KI (a.ev rfl)) (Tr.mv rfl rfl ?_))
            obtain ⟨zd6, zRF, H⟩ := bnd H
            refine Tr.VJ 5 [(2, iv p2), (4, pV Qg), (111, bV zd6)] [(1, bx zt #[iv p0.Unit, sL zF p0.Tools zG, sL zM p0.Steps zL] 25), (2, bx Qg #[iv p1.Kind, sv p1.Name, iv p1.At.X, iv p1.At.Y, sL za p1.Points zb, iv p1.NX, iv p1.NY, sL QS p1.Steps QR] 46), (3, bx Ws #[bV zm.name, bV zm.at_, bV zm.points, bV zm.repeat_] 149)] ?_ ?_
            ·cases zBZ : (!zZZ)
             ·rw [zBZ] at zRF
              rw [if_neg (by decide)] at zRF
              have H := zRF
              refine Tr.val (wg rfl rfl rfl) rfl (fun _ _ a c => zB zGu (a.ev rfl)) (Tr.val (wg rfl rfl rfl) rfl (fun _ _ a c => zD QH (a.ev rfl) (rdb c (vs := [iv p1.Kind, sv p1.Name, iv p1.At.X, iv p1.At.Y, sL za p1.Points zb, iv p1.NX, iv p1.NY, sL QS p1.Steps QR]) (k := 2) rfl 6) rfl) ?_)
              obtain ⟨zKr, zat, H⟩ := bnd H
              refine Tr.Qs (r := (bV zKr)) (wg rfl rfl rfl) rfl Tryz.call22 (zI rfl (zI rfl (zI rfl zS))) (fun W hW => zAl p1.NY 1 100 zKr zat (HF.start _)) (Tr.val (wg rfl rfl rfl) rfl (fun _ _ a c => KI (a.ev rfl)) (Tr.va rfl (fun _ _ a c => zo (a.ev rfl) (a.ev rfl)) ?_))
              obtain rfl := oI H
              exact Tr.nil (Tr.Qi (.cons rfl (.cons rfl (.cons rfl .nil))) (.cons rfl (.cons rfl (.cons rfl .nil))))
             ·rw [zBZ] at zRF
              rw [if_pos rfl] at zRF
              have H := zRF
              obtain rfl := oI H
              exact Tr.pass rfl rfl rfl rfl rfl (by decide) (Tr.pass rfl rfl rfl rfl rfl (by decide) (Tr.pass rfl rfl rfl rfl rfl (by decide) (Tr.pass rfl rfl rfl rfl rfl (by decide) (Tr.va rfl (fun _ _ a c => zn (a.ev rfl) (a.ev rfl)) (Tr.nil (Tr.Qi (.cons rfl (.cons rfl (.cons rfl .nil))) (.cons rfl (.cons rfl (.cons rfl .nil)))))))))
            ·show Tr _ _ (LF [(2, iv p2), (4, pV Qg), (111, bV zd6)]) (LE [(1, bx zt #[iv p0.Unit, sL zF p0.Tools zG, sL zM p0.Steps zL] 25), (2, bx Qg #[iv p1.Kind, sv p1.Name, iv p1.At.X, iv p1.At.Y, sL za p1.Points zb, iv p1.NX, iv p1.NY, sL QS p1.Steps QR] 46), (3, bx Ws #[bV zm.name, bV zm.at_, bV zm.points, bV zm.repeat_] 149)]) _
             refine Tr.asg rfl rfl (Tr.nil (Tr.zA (Tr.cond rfl H (fun H => ?_) (fun H => ?_))))
             ·refine Tr.sr (Tr.asg rfl rfl (Tr.nil (Tr.zA (Tr.ret (Tr.QI (Tr.zg ?_))))))
              obtain rfl := oI H
              exact Tr.out (m := [iv 1]) [] (zU rfl zT) (fun W hW => ⟨rfl, hW.low leB⟩)
             ·refine Tr.sr (Tr.va rfl (fun _ _ a c => zB zDW (a.ev rfl)) (Tr.va rfl (fun _ _ a c => zD zCn (a.ev rfl) (rdb c (vs := [iv p1.Kind, sv p1.Name, iv p1.At.X, iv p1.At.Y, sL za p1.Points zb, iv p1.NX, iv p1.NY, sL QS p1.Steps QR]) (k := 2) rfl 7) rfl) (Tr.va rfl (fun _ _ a c => zy zB8 (a.ev rfl)) (Tr.va rfl (fun _ _ a c => Qa (a.ev rfl) (a.ev rfl)) (Tr.asg rfl rfl (Tr.nil (Tr.zA (Tr.cond rfl H (fun H => ?_) (fun H => ?_)))))))))
              ·refine Tr.sr (Tr.asg rfl rfl (Tr.nil (Tr.zA (Tr.ret (Tr.QI (Tr.zg ?_))))))
               obtain rfl := oI H
               exact Tr.out (m := [iv 9]) [] (zU rfl zT) (fun W hW => ⟨rfl, hW.low leB⟩)
              ·refine Tr.sr (Tr.mv rfl rfl (Tr.va rfl (fun _ _ a c => zEo (a.ev rfl) (a.ev rfl)) (Tr.asg rfl rfl (Tr.nil (Tr.zA (Tr.cond rfl H (fun H => ?_) (fun H => ?_)))))))
               ·refine Tr.sr (Tr.asg rfl rfl (Tr.nil (Tr.zA (Tr.ret (Tr.QI (Tr.zg ?_))))))
                obtain rfl := oI H
                exact Tr.out (m := [iv 2]) [] (zU rfl zT) (fun W hW => ⟨rfl, hW.low leB⟩)
               ·refine Tr.skip (Tr.zh (Tr.zA (Tr.sr (Tr.asg rfl rfl (Tr.nil (Tr.zA (Tr.ret ?_)))))))
                obtain rfl := oI H
                exact Tr.out (m := [iv 0]) [] (zU rfl zT) (fun W hW => ⟨rfl, hW.low leB⟩)

theorem zIc (N : Nat) (rec : QB → (List zC) → Int → Option Int) (hrec : ∀ {w : Bs} (p0 : QB) (zF : Option Addr) (zG : Nat) (zP : Sl w.R w.W zN zF zG p0.Tools) (zM : Option Addr) (zL : Nat) (QW : Sl w.R w.W zH zM zL p0.Steps) (p1 : (List zC)) (za : Option Addr) (zb : Nat) (Qc : Sl w.R w.W zH za zb p1) (p2 : Int) (r : Int) (H : rec p0 p1 p2 = some r) (hE : HF w w.W E0), Calls Tryz.prog 43 [.agg #[iv p0.Unit, sL zF p0.Tools zG, sL zM p0.Steps zL], sL za p1 zb, iv p2].toArray w.W fun e W' => e = .returned (iv r) ∧ HF w W' E0) {w : Bs} (p0 : QB) (zF : Option Addr) (zG : Nat) (zP : Sl w.R w.W zN zF zG p0.Tools) (zM : Option Addr) (zL : Nat) (QW : Sl w.R w.W zH zM zL p0.Steps) (p1 : (List zC)) (za : Option Addr) (zb : Nat) (Qc : Sl w.R w.W zH za zb p1) (p2 : Int) (r : Int) (H : zDG N rec p0 p1 p2 = some r) (hE : HF w w.W E0) : Calls Tryz.prog 43 [.agg #[iv p0.Unit, sL zF p0.Tools zG, sL zM p0.Steps zL], sL za p1 zb, iv p2].toArray w.W fun e W' => e = .returned (iv r) ∧ HF w W' E0 := by
 unfold zDG at H
 have leB := Bs.Le.refl w
 refine Tr.enter (n := 34) Tryz.func43 rfl rfl rfl hE (Tr.sr (Tr.box 1 (cs := [iv p0.Unit, sL zF p0.Tools zG, sL zM p0.Steps zL]) (wn rfl) rfl rfl rfl fun zt => (Tr.asg rfl rfl (Tr.nil (Tr.zA (Tr.seq (Tr.sr (Tr.mv rfl rfl (Tr.va rfl (fun _ _ a c => zy zB8 (a.ev rfl)) (Tr.mv rfl rfl (Tr.nil (Tr.zA (Tr.block (Tr.loop (σ := (List zC) × Nat) (fun m w s => m = s.1.length + 1 ∧ s.1 = List.drop s.2 p1 ∧ s.2 ≤ p1.length ∧ Kh p0 p2 rec s.1 s.2 = some r) (fun s => [(2, iv p2), (3, pV zt), (11, sL za p1 zb), (12, iv (p1.length : Int)), (13, iv (s.2 : Int))]) (fun s => [(1, bx zt #[iv p0.Unit, sL zF p0.Tools zG, sL zM p0.Steps zL] 25)]) (p1.length + 1) (p1, 0) ⟨rfl, rfl, Nat.zero_le _, H⟩ (.cons rfl (.cons rfl (.cons rfl (.cons rfl (.cons rfl .nil))))) (.cons rfl .nil) (fun _ _ h => absurd h.1 (by simp)) ?_))))))))))))))
 intro w Qe m s hs
 obtain ⟨zV, iL1⟩ := s
 obtain ⟨KS, QG, hiL1, H⟩ := hs
 replace QG : zV = List.drop iL1 p1 := QG
 replace H : Kh p0 p2 rec zV iL1 = some r := H
 replace KS : m + 1 = zV.length + 1 := KS
 replace zP := zP.leR Qe
 replace QW := QW.leR Qe
 replace Qc := Qc.leR Qe
 replace leB := leB.trans Qe
 obtain rfl : m = zV.length := by omega
 clear KS
 dsimp only
 cases zV with
 | nil =>
  rw [Kh.eq_1] at H
  refine Tr.sr (Tr.va rfl (fun _ _ a c => QE (a.ev rfl) (a.ev rfl)) (Tr.nil (Tr.zA (Tr.seq (Tr.WY rfl (JB QG) (Tr.exit (Tr.zi (Tr.zi (Tr.QL (Tr.zA (Tr.sr (Tr.asg rfl rfl (Tr.nil (Tr.zA (Tr.ret ?_)))))))))))))))
  obtain rfl := oI H
  exact Tr.out (m := [iv 0]) [] (zU rfl zT) (fun W hW => ⟨rfl, hW.low leB⟩)
 | cons xL1 zV =>
  rw [Kh.eq_2] at H
  refine Tr.sr (Tr.va rfl (fun _ _ a c => QE (a.ev rfl) (a.ev rfl)) (Tr.nil (Tr.zA (Tr.seq (Tr.WX rfl (JX QG) (Tr.skip (Tr.zA (Tr.seq (Tr.block (Tr.sr ?_))))))))))
  obtain ⟨zfv, hRu107, zSE, hcu107⟩ := (Qc).el (Js QG)
  obtain ⟨⟨zDe, zDa⟩, ⟨zFz, zFr⟩⟩ := zfv
  obtain ⟨zEg, zKK⟩ := Kj.1 zSE
  replace zEg : Sl w.R w.W QD zDe zDa xL1.Points := zEg
  replace zKK : Sl w.R w.W zH zFz zFr xL1.Steps := zKK
  refine Tr.va rfl (fun _ _ a c => zK zEC (a.ev rfl) Qc.form (a.ev rfl) (Int.natCast_nonneg _) (QC QG)) (Tr.va rfl (fun _ _ a c => zX (cs := [iv xL1.Kind, sv xL1.Name, iv xL1.At.X, iv xL1.At.Y, sL zDe xL1.Points zDa, iv xL1.NX, iv xL1.NY, sL zFz xL1.Steps zFr]) zGP zA2 (a.ev rfl) (zO.take (rdR hRu107 hcu107 c) 8) rfl) (Tr.alloc 3 (wn rfl) rfl zIn fun zjB => (Tr.store 3 (cs := [iv xL1.Kind, sv xL1.Name, iv xL1.At.X, iv xL1.At.Y, sL zDe xL1.Points zDa, iv xL1.NX, iv xL1.NY, sL zFz xL1.Steps zFr]) [iv xL1.Kind, sv xL1.Name, iv xL1.At.X, iv xL1.At.Y, sL zDe xL1.Points zDa, iv xL1.NX, iv xL1.NY, sL zFz xL1.Steps zFr] (wn rfl) rfl rfl rfl rfl zA2 rfl rfl rfl (Tr.nil (Tr.zA (Tr.seq (Tr.sr (Tr.va rfl (fun _ _ a c => zX (cs := [iv p0.Unit, sL zF p0.Tools zG, sL zM p0.Steps zL]) zAJ VQ (a.ev rfl) (zO.take (rdb c (vs := [iv p0.Unit, sL zF p0.Tools zG, sL zM p0.Steps zL]) (k := 1) rfl 0) 3) rfl) (Tr.va rfl (fun _ _ a c => zX (cs := [iv xL1.Kind, sv xL1.Name, iv xL1.At.X, iv xL1.At.Y, sL zDe xL1.Points zDa, iv xL1.NX, iv xL1.NY, sL zFz xL1.Steps zFr]) zGP zA2 (a.ev rfl) (zO.take (rdb c (vs := [iv xL1.Kind, sv xL1.Name, iv xL1.At.X, iv xL1.At.Y, sL zDe xL1.Points zDa, iv xL1.NX, iv xL1.NY, sL zFz xL1.Steps zFr]) (k := 3) rfl 0) 8) rfl) (Tr.mv rfl rfl ?_))))))))))
  obtain ⟨zCx, zTv, H⟩ := bnd H
  refine Tr.Qs (r := (iv zCx)) (wn rfl) rfl Tryz.call74 (zI rfl (zI rfl (zI rfl zS))) (fun W hW => zKe p0 zF zG (zP.ext hW.Qd) zM zL (QW.ext hW.Qd) xL1 zDe zDa (zEg.ext hW.Qd) zFz zFr (zKK.ext hW.Qd) p2 zCx zTv (HF.start _)) (Tr.asg rfl rfl (Tr.nil (Tr.zA (Tr.sr (Tr.mv rfl rfl (Tr.va rfl (fun _ _ a c => Jt (a.ev rfl) (a.ev rfl)) (Tr.nil (Tr.zA (Tr.cond rfl H (fun H => ?_) (fun H => ?_))))))))))
  ·refine Tr.sr (Tr.mv rfl rfl (Tr.asg rfl rfl (Tr.nil (Tr.zA (Tr.ret (Tr.zg (Tr.QI (Tr.zg (Tr.zg (Tr.QI (Tr.zg ?_)))))))))))
   obtain rfl := oI H
   exact Tr.out (m := [iv zCx]) [] (zU rfl zT) (fun W hW => ⟨rfl, hW.low leB⟩)
  ·refine Tr.skip (Tr.zA (Tr.sr (Tr.va rfl (fun _ _ a c => zX (cs := [iv p0.Unit, sL zF p0.Tools zG, sL zM p0.Steps zL]) zAJ VQ (a.ev rfl) (zO.take (rdb c (vs := [iv p0.Unit, sL zF p0.Tools zG, sL zM p0.Steps zL]) (k := 1) rfl 0) 3) rfl) (Tr.va rfl (fun _ _ a c => zB zDW (a.ev rfl)) (Tr.va rfl (fun _ _ a c => zD zCn (a.ev rfl) (rdb c (vs := [iv xL1.Kind, sv xL1.Name, iv xL1.At.X, iv xL1.At.Y, sL zDe xL1.Points zDa, iv xL1.NX, iv xL1.NY, sL zFz xL1.Steps zFr]) (k := 3) rfl 7) rfl) (Tr.mv rfl rfl (Tr.va rfl (fun _ _ a c => QA (a.ev rfl) (a.ev rfl)) ?_)))))))
   obtain ⟨zDI, zLo, H⟩ := bnd H
   refine Tr.Qs (r := (iv zDI)) (wn rfl) rfl Tryz.call43 (zI rfl (zI rfl (zI rfl zS))) (fun W hW => hrec p0 zF zG (zP.ext hW.Qd) zM zL (QW.ext hW.Qd) xL1.Steps zFz zFr (zKK.ext hW.Qd) (w64 (p2 + 1)) zDI zLo (HF.start _)) (Tr.asg rfl rfl (Tr.nil (Tr.zA (Tr.sr (Tr.mv rfl rfl (Tr.va rfl (fun _ _ a c => Jt (a.ev rfl) (a.ev rfl)) (Tr.nil (Tr.zA (Tr.cond rfl H (fun H => ?_) (fun H => ?_))))))))))
   ·refine Tr.sr (Tr.mv rfl rfl (Tr.asg rfl rfl (Tr.nil (Tr.zA (Tr.ret (Tr.QI (Tr.zg (Tr.zg (Tr.QI (Tr.zg ?_))))))))))
    obtain rfl := oI H
    exact Tr.out (m := [iv zDI]) [] (zU rfl zT) (fun W hW => ⟨rfl, hW.low leB⟩)
   ·exact Tr.skip (Tr.zh (Tr.zA (Tr.region (Tr.va rfl (fun _ _ a c => QA (a.ev rfl) (a.ev rfl)) (Tr.mv rfl rfl (Tr.nil (Tr.zf Qe (zV, (iL1 + 1)) ⟨rfl, Ql QG, QC QG, H⟩ (.cons rfl (.cons rfl (.cons rfl (.cons rfl (.cons (congrArg (fun z => some (Value.int .i64 z)) (Qk QG Qc.form)) .nil))))) (.cons rfl .nil))))))))
theorem zFN : ∀ (N : Nat) {w : Bs} (p0 : QB) (zF : Option Addr) (zG : Nat) (zP : Sl w.R w.W zN zF zG p0.Tools) (zM : Option Addr) (zL : Nat) (QW : Sl w.R w.W zH zM zL p0.Steps) (p1 : (List zC)) (za : Option Addr) (zb : Nat) (Qc : Sl w.R w.W zH za zb p1) (p2 : Int) (r : Int) (H : zBO N p0 p1 p2 = some r) (hE : HF w w.W E0), Calls Tryz.prog 43 [.agg #[iv p0.Unit, sL zF p0.Tools zG, sL zM p0.Steps zL], sL za p1 zb, iv p2].toArray w.W fun e W' => e = .returned (iv r) ∧ HF w W' E0
 | 0 => by intros; rename_i H _; cases H
 | N + 1 => zIc N (zBO N) (zFN N)

theorem zAa (N : Nat) {w : Bs} (p0 : QB) (zF : Option Addr) (zG : Nat) (zP : Sl w.R w.W zN zF zG p0.Tools) (zM : Option Addr) (zL : Nat) (QW : Sl w.R w.W zH zM zL p0.Steps) (r : Int) (H : Ji N p0 = some r) (hE : HF w w.W E0) : Calls Tryz.prog 21 [.agg #[iv p0.Unit, sL zF p0.Tools zG, sL zM p0.Steps zL]].toArray w.W fun e W' => e = .returned (iv r) ∧ HF w W' E0 := by
 unfold Ji at H
 have leB := Bs.Le.refl w
 refine Tr.enter (n := 52) Tryz.func21 rfl rfl rfl hE (Tr.sr (Tr.box 1 (cs := [iv p0.Unit, sL zF p0.Tools zG, sL zM p0.Steps zL]) (wn rfl) rfl rfl rfl fun zt => (Tr.asg rfl rfl (Tr.nil (Tr.zA (Tr.seq (Tr.sr (Tr.va rfl (fun _ _ a c => zB zBH (a.ev rfl)) (Tr.va rfl (fun _ _ a c => zD QH (a.ev rfl) (rdb c (vs := [iv p0.Unit, sL zF p0.Tools zG, sL zM p0.Steps zL]) (k := 1) rfl 0) rfl) ?_)))))))))
 obtain ⟨y101, hy101, H⟩ := bnd H
 refine Tr.Qs (r := (bV y101)) (wn rfl) rfl Tryz.call22 (zI rfl (zI rfl (zI rfl zS))) (fun W hW => zAl p0.Unit 1 1000 y101 hy101 (HF.start _)) (Tr.va rfl (fun _ _ a c => KI (a.ev rfl)) (Tr.nil (Tr.zA (Tr.cond rfl H (fun H => ?_) (fun H => ?_)))))
 ·refine Tr.sr (Tr.asg rfl rfl (Tr.nil (Tr.zA (Tr.ret (Tr.zg ?_)))))
  obtain rfl := oI H
  exact Tr.out (m := [iv 1]) [] (zU rfl zT) (fun W hW => ⟨rfl, hW.low leB⟩)
 ·refine Tr.skip (Tr.zA (Tr.seq (Tr.sr (Tr.va rfl (fun _ _ a c => zB zBy (a.ev rfl)) (Tr.va rfl (fun _ _ a c => zD zGQ (a.ev rfl) (rdb c (vs := [iv p0.Unit, sL zF p0.Tools zG, sL zM p0.Steps zL]) (k := 1) rfl 1) rfl) (Tr.va rfl (fun _ _ a c => zy zIo (a.ev rfl)) (Tr.va rfl (fun _ _ a c => WO (a.ev rfl) (a.ev rfl)) (Tr.nil (Tr.zA (Tr.cond rfl H (fun H => ?_) (fun H => ?_)))))))))))
  ·refine Tr.sr (Tr.asg rfl rfl (Tr.nil (Tr.zA (Tr.ret (Tr.zg ?_)))))
   obtain rfl := oI H
   exact Tr.out (m := [iv 2]) [] (zU rfl zT) (fun W hW => ⟨rfl, hW.low leB⟩)
  ·refine Tr.skip (Tr.zA (Tr.seq (Tr.sr (Tr.va rfl (fun _ _ a c => zB zBy (a.ev rfl)) (Tr.va rfl (fun _ _ a c => zD zGQ (a.ev rfl) (rdb c (vs := [iv p0.Unit, sL zF p0.Tools zG, sL zM p0.Steps zL]) (k := 1) rfl 1) rfl) (Tr.va rfl (fun _ _ a c => zy zIo (a.ev rfl)) (Tr.mv rfl rfl (Tr.nil (Tr.zA (Tr.block (Tr.loop (σ := (List zZ) × Nat) (fun m w s => m = s.1.length + 1 ∧ s.1 = List.drop s.2 p0.Tools ∧ s.2 ≤ p0.Tools.length ∧ KQ N p0 s.1 s.2 = some r) (fun s => [(1, pV zt), (15, sL zF p0.Tools zG), (16, iv (p0.Tools.length : Int)), (17, iv (s.2 : Int))]) (fun s => [(1, bx zt #[iv p0.Unit, sL zF p0.Tools zG, sL zM p0.Steps zL] 25)]) (p0.Tools.length + 1) (p0.Tools, 0) ⟨rfl, rfl, Nat.zero_le _, H⟩ (.cons rfl (.cons rfl (.cons rfl (.cons rfl .nil)))) (.cons rfl .nil) (fun _ _ h => absurd h.1 (by simp)) ?_)))))))))))
   intro w Qe m s hs
   obtain ⟨zV, iL1⟩ := s
   obtain ⟨KS, QG, hiL1, H⟩ := hs
   replace QG : zV = List.drop iL1 p0.Tools := QG
   replace H : KQ N p0 zV iL1 = some r := H
   replace KS : m + 1 = zV.length + 1 := KS
   replace zP := zP.leR Qe
   replace QW := QW.leR Qe
   replace leB := leB.trans Qe
   obtain rfl : m = zV.length := by omega
   clear KS
   dsimp only
   cases zV with
   | nil =>
    rw [KQ.eq_1] at H
    refine Tr.sr (Tr.va rfl (fun _ _ a c => QE (a.ev rfl) (a.ev rfl)) (Tr.nil (Tr.zA (Tr.seq (Tr.WY rfl (JB QG) (Tr.exit (Tr.zi (Tr.zi (Tr.QL (Tr.zA (Tr.seq (Tr.sr (Tr.va rfl (fun _ _ a c => zB zC3 (a.ev rfl)) (Tr.va rfl (fun _ _ a c => zD zCn (a.ev rfl) (rdb c (vs := [iv p0.Unit, sL zF p0.Tools zG, sL zM p0.Steps zL]) (k := 1) rfl 2) rfl) ?_))))))))))))))
    obtain ⟨y112, hy112, H⟩ := bnd H
    refine Tr.Qs (r := (iv y112)) (wn rfl) rfl Tryz.call42 (zI rfl zS) (fun W hW => zI1 N p0.Steps zM zL (QW.ext hW.Qd) y112 hy112 (HF.start _)) (Tr.va rfl (fun _ _ a c => WO (a.ev rfl) (a.ev rfl)) (Tr.nil (Tr.zA (Tr.cond rfl H (fun H => ?_) (fun H => ?_)))))
    ·refine Tr.sr (Tr.asg rfl rfl (Tr.nil (Tr.zA (Tr.ret (Tr.zg ?_)))))
     obtain rfl := oI H
     exact Tr.out (m := [iv 2]) [] (zU rfl zT) (fun W hW => ⟨rfl, hW.low leB⟩)
    ·refine Tr.skip (Tr.zA (Tr.sr (Tr.va rfl (fun _ _ a c => zX (cs := [iv p0.Unit, sL zF p0.Tools zG, sL zM p0.Steps zL]) zAJ VQ (a.ev rfl) (zO.take (rdb c (vs := [iv p0.Unit, sL zF p0.Tools zG, sL zM p0.Steps zL]) (k := 1) rfl 0) 3) rfl) (Tr.va rfl (fun _ _ a c => zB zC3 (a.ev rfl)) (Tr.va rfl (fun _ _ a c => zD zCn (a.ev rfl) (rdb c (vs := [iv p0.Unit, sL zF p0.Tools zG, sL zM p0.Steps zL]) (k := 1) rfl 2) rfl) ?_)))))
     obtain ⟨y113, hy113, H⟩ := bnd H
     refine Tr.Qs (r := (iv y113)) (wn rfl) rfl Tryz.call43 (zI rfl (zI rfl (zI rfl zS))) (fun W hW => zFN N p0 zF zG (zP.ext hW.Qd) zM zL (QW.ext hW.Qd) p0.Steps zM zL (QW.ext hW.Qd) 0 y113 hy113 (HF.start _)) (Tr.asg rfl rfl (Tr.nil (Tr.zA (Tr.ret ?_))))
     obtain rfl := oI H
     exact Tr.out (m := [iv y113]) [] (zU rfl zT) (fun W hW => ⟨rfl, hW.low leB⟩)
   | cons xL1 zV =>
    rw [KQ.eq_2] at H
    refine Tr.sr (Tr.va rfl (fun _ _ a c => QE (a.ev rfl) (a.ev rfl)) (Tr.nil (Tr.zA (Tr.seq (Tr.WX rfl (JX QG) (Tr.skip (Tr.zA (Tr.seq (Tr.block (Tr.sr (Tr.mv rfl rfl ?_)))))))))))
    obtain ⟨zoC, hRu114, zds, hcu114⟩ := (zP).el (Js QG)
    obtain ⟨zG8, zGz⟩ := zoC
    have zM8 := zds
    replace zM8 : Sl w.R w.W zY zG8 zGz xL1.Rects := zM8
    refine Tr.va rfl (fun _ _ a c => zK zFF (a.ev rfl) zP.form (a.ev rfl) (Int.natCast_nonneg _) (QC QG)) (Tr.va rfl (fun _ _ a c => zX (cs := [sv xL1.Name, sL zG8 xL1.Rects zGz]) zUj zLQ (a.ev rfl) (zO.take (rdR hRu114 hcu114 c) 2) rfl) (Tr.alloc 3 (wn rfl) rfl zZL fun zIT => (Tr.asg rfl rfl (Tr.store 3 (cs := [sv xL1.Name, sL zG8 xL1.Rects zGz]) [sv xL1.Name, sL zG8 xL1.Rects zGz] (wn rfl) rfl rfl rfl rfl zLQ rfl rfl rfl (Tr.nil (Tr.zA (Tr.seq (Tr.sr (Tr.va rfl (fun _ _ a c => zX (cs := [sv xL1.Name, sL zG8 xL1.Rects zGz]) zUj zLQ (a.ev rfl) (zO.take (rdb c (vs := [sv xL1.Name, sL zG8 xL1.Rects zGz]) (k := 3) rfl 0) 2) rfl) (Tr.va rfl (fun _ _ a c => zB zBH (a.ev rfl)) (Tr.va rfl (fun _ _ a c => zD QH (a.ev rfl) (rdb c (vs := [iv p0.Unit, sL zF p0.Tools zG, sL zM p0.Steps zL]) (k := 1) rfl 0) rfl) ?_)))))))))))
    obtain ⟨Qp, zJc, H⟩ := bnd H
    refine Tr.Qs (r := (iv Qp)) (wn rfl) rfl Tryz.call41 (zI rfl (zI rfl zS)) (fun W hW => zKd N xL1 zG8 zGz (zM8.ext hW.Qd) p0.Unit Qp zJc (HF.start _)) (Tr.asg rfl rfl (Tr.nil (Tr.zA (Tr.sr (Tr.mv rfl rfl (Tr.va rfl (fun _ _ a c => Jt (a.ev rfl) (a.ev rfl)) (Tr.nil (Tr.zA (Tr.cond rfl H (fun H => ?_) (fun H => ?_))))))))))
    ·refine Tr.sr (Tr.mv rfl rfl (Tr.asg rfl rfl (Tr.nil (Tr.zA (Tr.ret (Tr.zg (Tr.QI (Tr.zg (Tr.zg (Tr.QI (Tr.zg ?_)))))))))))
     obtain rfl := oI H
     exact Tr.out (m := [iv Qp]) [] (zU rfl zT) (fun W hW => ⟨rfl, hW.low leB⟩)
    ·refine Tr.skip (Tr.zA (Tr.seq (Tr.draw (by kernel_rfl) (by kernel_rfl) (Tq.mv rfl rfl (Tq.va rfl (fun _ _ a c => WO (a.ev rfl) (a.ev rfl)) (Tq.mv rfl rfl ?_))))))
     obtain ⟨ziy, zRG, H⟩ := bnd H
     refine Tq.mid 11 [(1, pV zt), (15, sL zF p0.Tools zG), (16, iv (p0.Tools.length : Int)), (17, iv (iL1 : Int)), (42, bV ziy)] ?_ ?_
     ·cases zBZ : (decide (0 < (iL1 : Int)))
      ·rw [zBZ] at zRG
       rw [if_neg (by decide)] at zRG
       have H := zRG
       obtain rfl := oI H
       exact Tq.pass rfl rfl rfl rfl rfl (by decide) (Tq.pass rfl rfl rfl rfl rfl (by decide) (Tq.pass rfl rfl rfl rfl rfl (by decide) (Tq.pass rfl rfl rfl rfl rfl (by decide) (Tq.pass rfl rfl rfl rfl rfl (by decide) (Tq.pass rfl rfl rfl rfl rfl (by decide) (Tq.pass rfl rfl rfl rfl rfl (by decide) (Tq.pass rfl rfl rfl rfl rfl (by decide) (Tq.pass rfl rfl rfl rfl rfl (by decide) (Tq.pass rfl rfl rfl rfl rfl (by decide) (Tq.va rfl (fun _ _ a c => zo (a.ev rfl) (a.ev rfl)) (Tq.fin (.cons rfl (.cons rfl (.cons rfl (.cons rfl (.cons rfl .nil))))))))))))))))
      ·rw [zBZ] at zRG
       rw [if_pos rfl] at zRG
       have H := zRG
       refine Tq.val (wg rfl rfl rfl) rfl (fun _ _ a c => zB zIG (a.ev rfl)) (Tq.val (wg rfl rfl rfl) rfl (fun _ _ a c => zD zHF (a.ev rfl) (rdb c (vs := [sv xL1.Name, sL zG8 xL1.Rects zGz]) (k := 3) rfl 0) rfl) (Tq.val (wg rfl rfl rfl) rfl (fun _ _ a c => zB zBy (a.ev rfl)) (Tq.val (wg rfl rfl rfl) rfl (fun _ _ a c => zD zGQ (a.ev rfl) (rdb c (vs := [iv p0.Unit, sL zF p0.Tools zG, sL zM p0.Steps zL]) (k := 1) rfl 1) rfl) (Tq.val (wg rfl rfl rfl) rfl (fun _ _ a c => run_move (a.ev rfl)) (Tq.val (wg rfl rfl rfl) rfl (fun _ _ a c => zAt (a.ev rfl) (a.ev rfl)) ?_)))))
       obtain ⟨zLN, za6, H⟩ := bnd H
       obtain ⟨hx1200, hx1201, hx1202⟩ := zx za6
       obtain ⟨zoB, hRu121, zdr, hcu121⟩ := (zP).el hx1202
       obtain ⟨zno, znc⟩ := zoB
       have zjO := zdr
       refine Tq.val (wg rfl rfl rfl) rfl (fun _ _ a c => zK zFF (a.ev rfl) zP.form (a.ev rfl) hx1200 hx1201) (Tq.val (wg rfl rfl rfl) rfl (fun _ _ a c => zB zIG (a.ev rfl)) (Tq.val (wg rfl rfl rfl) rfl (fun _ _ a c => zD zHF (a.ev rfl) (zO.drop (rdR hRu121 hcu121 c) 0) rfl) (Tq.val (wg rfl rfl rfl) rfl (fun _ _ a c => zZu (a.ev rfl) (a.ev rfl)) (Tq.va rfl (fun _ _ a c => zn (a.ev rfl) (a.ev rfl)) ?_))))
       obtain rfl := oI H
       exact Tq.fin (.cons rfl (.cons rfl (.cons rfl (.cons rfl (.cons rfl .nil)))))
     ·refine Tq.nil (Tr.zA (Tr.cond rfl H (fun H => ?_) (fun H => ?_)))
      ·refine Tr.sr (Tr.asg rfl rfl (Tr.nil (Tr.zA (Tr.ret (Tr.QI (Tr.zg (Tr.zg (Tr.QI (Tr.zg ?_)))))))))
       obtain rfl := oI H
       exact Tr.out (m := [iv 8]) [] (zU rfl zT) (fun W hW => ⟨rfl, hW.low leB⟩)
      ·exact Tr.skip (Tr.zh (Tr.zA (Tr.region (Tr.va rfl (fun _ _ a c => QA (a.ev rfl) (a.ev rfl)) (Tr.mv rfl rfl (Tr.nil (Tr.zf Qe (zV, (iL1 + 1)) ⟨rfl, Ql QG, QC QG, H⟩ (.cons rfl (.cons rfl (.cons rfl (.cons (congrArg (fun z => some (Value.int .i64 z)) (Qk QG zP.form)) .nil)))) (.cons rfl .nil))))))))

theorem zB4 {w : Bs} (p0 : (List zQ)) (zF : Option Addr) (zG : Nat) (zP : Sl w.R w.W zY zF zG p0) (r : (List zQ)) (H : Jr p0 = some r) (hE : HF w w.W (LEn [emp])) : Calls Tryz.prog 80 [sL zF p0 zG].toArray w.W fun e W' => ∃ u : (Option Addr × Nat), e = .returned (sL u.1 r u.2) ∧ (SlF u.1 r.length u.2) ∧ HF w W' (LEn [ow u.1 u.2 36 zY r]) := by
 unfold Jr at H
 have leB := Bs.Le.refl w
 refine Tr.enter (n := 8) Tryz.func80 rfl rfl rfl hE (Tr.sr (Tr.asg rfl rfl (Tr.JY 1 36 zY ?_)))
 show Tr _ _ (uf _ 2 (sL none (([] : List zQ)) 0)) _ _
 refine Tr.nil (Tr.zA (Tr.seq (Tr.sr (Tr.mv rfl rfl (Tr.va rfl (fun _ _ a c => zH1 zBQ (a.ev rfl) (a.ev rfl)) (Tr.nil (Tr.zA ?_)))))))
 cases zF with
 | none =>
  have hl0 := zLS zP.form
  replace H : (some ([] : List zQ)) = some r := by simpa [apd, hl0] using H
  refine Tr.WX rfl rfl (Tr.sr (Tr.asg rfl rfl (Tr.JY 2 36 zY ?_)))
  show Tr _ _ (uf _ 2 (sL none (([] : List zQ)) 0)) _ _
  refine Tr.nil (Tr.zA (Tr.ret (Tr.zg ?_)))
  obtain rfl := oI H
  exact Tr.out (m := [sL none (([] : List zQ)) 0]) [] (zU rfl zT) (fun W hW => ⟨(none, 0), rfl, VR, HF.zK1 leB (hW.pick (ks := [2]) (by decide) (zR rfl zk)) ⟨zGI _ _ _ _ zCd, trivial⟩⟩)
 | some a102 =>
  refine Tr.WY rfl rfl (Tr.skip (Tr.zA (Tr.sr (Tr.buildSlice 3 (e := 36) (vs := []) (cs := []) (wn rfl) rfl Qf (by kernel_rfl) fun zt => (Tr.mv rfl rfl (Tr.own 3 zY ([] : List zQ) (css := []) rfl .nil rfl (by decide) (zCU rfl) ?_))))))
  obtain ⟨Wq, zIt, H⟩ := bnd H
  refine Tr.zMI 3 (t := zY) (l := ([] : List zQ)) (l2 := p0) (wn rfl) rfl rfl rfl rfl (apT zCd (fun W hW => (Sl.inB zP hW))) zBQ VE zSu (by decide) zUf rfl zIt fun zJ1 zJq hAl101 => (Tr.asg rfl rfl (Tr.nil (Tr.zA (Tr.ret ?_))))
  obtain rfl := oI H
  exact Tr.out (m := [sL zJ1 Wq zJq]) [] (zU rfl zT) (fun W hW => ⟨(zJ1, zJq), rfl, hAl101, HF.zK1 leB (hW.pick (ks := [3]) (by decide) (zR rfl zk)) ⟨zGI _ _ _ _ zCd, trivial⟩⟩)

theorem zAq {w : Bs} (p0 : List zQ) (zF : Option Addr) (zG : Nat) (p1 : zQ → zQ → Option Int) (fid1 : Nat) (cap1 : List Value) (hg1 : ∀ args W, (callFunc fid1 args).run Tryz.prog W = .ok (.enter fid1 args) W) (hf1 : ∀ (w' : Bs), w.Ext w' → ∀ (z0 : zQ) (z1 : zQ), ∀ y, p1 z0 z1 = some y → Calls Tryz.prog fid1 (([.agg #[iv z0.X0, iv z0.Y0, iv z0.X1, iv z0.Y1], .agg #[iv z1.X0, iv z1.Y0, iv z1.X1, iv z1.Y1]] : List Value) ++ cap1).toArray w'.W fun e W'' => e = .returned (iv y) ∧ HF w' W'' E0) (r : List zQ) (H : zOr p0 p1 = some r) (hE : HF w w.W (LEn [ow zF zG 36 zY p0])) : Calls Tryz.prog 81 [sL zF p0 zG, .func (.func fid1) #[] cap1.toArray].toArray w.W fun e W' => ∃ u : Unit, e = .returned (.tuple #[]) ∧ (r.length = p0.length) ∧ HF w W' (LEn [ow zF zG 36 zY r]) :=
 zQN (ρ := Tryz.zQh) Tryz.zjv (fun _ => zJ6 zBr) (fun _ => run_sizeOf VE) WA zCd () hg1 hf1 H hE

theorem zLE {w : Bs} (p0 : zQ) (p1 : zQ) (r : Int) (H : zA9 p0 p1 = some r) (hE : HF w w.W E0) : Calls Tryz.prog 82 [.agg #[iv p0.X0, iv p0.Y0, iv p0.X1, iv p0.Y1], .agg #[iv p1.X0, iv p1.Y0, iv p1.X1, iv p1.Y1]].toArray w.W fun e W' => e = .returned (iv r) ∧ HF w W' E0 := by
 unfold zA9 at H
 have leB := Bs.Le.refl w
 refine Tr.enter (n := 10) Tryz.func82 rfl rfl rfl hE (Tr.sr (Tr.box 1 (cs := [iv p0.X0, iv p0.Y0, iv p0.X1, iv p0.Y1]) (wn rfl) rfl rfl rfl fun zt => (Tr.box 2 (cs := [iv p1.X0, iv p1.Y0, iv p1.X1, iv p1.Y1]) (wn rfl) rfl rfl rfl fun Qg => (Tr.asg rfl rfl (Tr.nil (Tr.zA (Tr.sr (Tr.va rfl (fun _ _ a c => zB zDX (a.ev rfl)) (Tr.va rfl (fun _ _ a c => zD QH (a.ev rfl) (rdb c (vs := [iv p0.X0, iv p0.Y0, iv p0.X1, iv p0.Y1]) (k := 1) rfl 1) rfl) (Tr.va rfl (fun _ _ a c => zB zDX (a.ev rfl)) (Tr.va rfl (fun _ _ a c => zD QH (a.ev rfl) (rdb c (vs := [iv p1.X0, iv p1.Y0, iv p1.X1, iv p1.Y1]) (k := 2) rfl 1) rfl) (Tr.va rfl (fun _ _ a c => zAt (a.ev rfl) (a.ev rfl)) (Tr.asg rfl rfl (Tr.nil (Tr.zA (Tr.ret ?_))))))))))))))))
 obtain rfl := oI H
 exact Tr.out (m := [iv (w64 (p0.Y0 - p1.Y0))]) [] (zU rfl zT) (fun W hW => ⟨rfl, hW.low leB⟩)

theorem zFJ {w : Bs} (p0 : List Int) (zF : Option Addr) (zG : Nat) (r : List Int) (H : zTD p0 = some r) (hE : HF w w.W (LEn [ow zF zG 3 QO p0])) : Calls Tryz.prog 83 [sL zF p0 zG].toArray w.W fun e W' => ∃ u : Unit, e = .returned (.tuple #[]) ∧ (r.length = p0.length) ∧ HF w W' (LEn [ow zF zG 3 QO r]) :=
 zVD (ρ := Tryz.zOt) Tryz.zf3 rfl We zRq () H hE

theorem zDq {w : Bs} (p0 : List Int) (zF : Option Addr) (zG : Nat) (r : List Int) (H : cpI p0 = some r) (hE : HF w w.W (LEn [ow zF zG 3 QO p0])) : Calls Tryz.prog 84 [sL zF p0 zG].toArray w.W fun e W' => ∃ u : (Option Addr × Nat), e = .returned (sL u.1 r u.2) ∧ (SlF u.1 r.length u.2) ∧ HF w W' (LEn [ow u.1 u.2 3 QO r]) :=
 zQY (ρ := Tryz.zPs) Tryz.zi6 rfl We zRq () H hE

theorem zLD {w : Bs} (p0 : zQ) (q0 : (List Int)) (Aq0_0 : Option Addr) (cq0_0 : Nat) (za9 : Sl w.R w.W QO Aq0_0 cq0_0 q0) (bq0 : Nat) (hb0 : w.R bq0) (hc0 : zO w.W bq0 0 [sL Aq0_0 q0 cq0_0]) (q1 : Int) (bq1 : Nat) (hb1 : w.R bq1) (hc1 : zO w.W bq1 0 [iv q1]) (r : Bool) (H : zA8 p0 q0 q1 = some r) (hE : HF w w.W E0) : Calls Tryz.prog 86 [.agg #[iv p0.X0, iv p0.Y0, iv p0.X1, iv p0.Y1], pV bq0, pV bq1].toArray w.W fun e W' => e = .returned (bV r) ∧ HF w W' E0 := by
 unfold zA8 at H
 have leB := Bs.Le.refl w
 refine Tr.enter (n := 12) Tryz.func86 rfl rfl rfl hE (Tr.sr (Tr.box 1 (cs := [iv p0.X0, iv p0.Y0, iv p0.X1, iv p0.Y1]) (wn rfl) rfl rfl rfl fun zt => (Tr.asg rfl rfl (Tr.nil (Tr.zA (Tr.seq (Tr.draw (by kernel_rfl) (by kernel_rfl) (Tq.va rfl (fun _ _ a c => zB zEp (a.ev rfl)) (Tq.va rfl (fun _ _ a c => zD QH (a.ev rfl) (rdb c (vs := [iv p0.X0, iv p0.Y0, iv p0.X1, iv p0.Y1]) (k := 1) rfl 3) rfl) (Tq.va rfl (fun _ _ a c => zD zDP (a.ev rfl) (rdR hb0 hc0 c) rfl) (Tq.va rfl (fun _ _ a c => zD QH (a.ev rfl) (rdR hb1 hc1 c) rfl) ?_)))))))))))
 obtain ⟨x101, hx101, H⟩ := bnd H
 obtain ⟨zil, zik, zij⟩ := zx hx101
 refine Tq.va rfl (fun _ _ a c => zK zA3 (a.ev rfl) za9.form (a.ev rfl) zil zik) (Tq.va rfl (fun _ _ a c => zD QH (a.ev rfl) (rdF We za9 zij c) rfl) (Tq.va rfl (fun _ _ a c => zBR (a.ev rfl) (a.ev rfl)) (Tq.asg rfl rfl (Tq.nil (Tr.zA (Tr.ret ?_))))))
 obtain rfl := oI H
 exact Tr.out (m := [bV (decide (p0.Y1 ≤ x101))]) [] (zU rfl zT) (fun W hW => ⟨rfl, hW.low leB⟩)

theorem zGT {w : Bs} (p0 : (List zQ)) (zF : Option Addr) (zG : Nat) (zP : Sl w.R w.W zY zF zG p0) (p1 : zQ → Option Bool) (fid1 : Nat) (cap1 : List Value) (hg1 : ∀ args W, (callFunc fid1 args).run Tryz.prog W = .ok (.enter fid1 args) W) (hf1 : ∀ (w' : Bs), w.Ext w' → ∀ (z0 : zQ), ∀ y, p1 z0 = some y → Calls Tryz.prog fid1 (([.agg #[iv z0.X0, iv z0.Y0, iv z0.X1, iv z0.Y1]] : List Value) ++ cap1).toArray w'.W fun e W'' => e = .returned (bV y) ∧ HF w' W'' E0) (r : Int) (H : zAK p0 p1 = some r) (hE : HF w w.W E0) : Calls Tryz.prog 112 [sL zF p0 zG, .func (.func fid1) #[] cap1.toArray].toArray w.W fun e W' => e = .returned (iv r) ∧ HF w W' E0 := by
 unfold zAK at H
 have leB := Bs.Le.refl w
 refine Tr.enter (n := 19) Tryz.func112 rfl rfl rfl hE (Tr.sr (Tr.asg rfl rfl (Tr.nil (Tr.zA (Tr.seq (Tr.sr (Tr.mv rfl rfl (Tr.va rfl (fun _ _ a c => zy zBQ (a.ev rfl)) (Tr.mv rfl rfl (Tr.nil (Tr.zA (Tr.block (Tr.loop (σ := (List zQ) × Nat) (fun m w s => m = s.1.length + 1 ∧ s.1 = List.drop s.2 p0 ∧ s.2 ≤ p0.length ∧ JR p1 s.1 s.2 = some r) (fun s => [(0, sL zF p0 zG), (1, .func (.func fid1) #[] cap1.toArray), (7, iv (p0.length : Int)), (8, iv (s.2 : Int))]) (fun s => []) (p0.length + 1) (p0, 0) ⟨rfl, rfl, Nat.zero_le _, H⟩ (.cons rfl (.cons rfl (.cons rfl (.cons rfl .nil)))) .nil (fun _ _ h => absurd h.1 (by simp)) ?_)))))))))))))
 intro w Qe m s hs
 obtain ⟨zV, iL1⟩ := s
 obtain ⟨KS, QG, hiL1, H⟩ := hs
 replace QG : zV = List.drop iL1 p0 := QG
 replace H : JR p1 zV iL1 = some r := H
 replace KS : m + 1 = zV.length + 1 := KS
 replace zP := zP.leR Qe
 replace hf1 := fun w' he => hf1 w' (Qe.ext.trans he)
 replace leB := leB.trans Qe
 obtain rfl : m = zV.length := by omega
 clear KS
 dsimp only
 cases zV with
 | nil =>
  rw [JR.eq_1] at H
  refine Tr.sr (Tr.va rfl (fun _ _ a c => QE (a.ev rfl) (a.ev rfl)) (Tr.nil (Tr.zA (Tr.seq (Tr.WY rfl (JB QG) (Tr.exit (Tr.zi (Tr.zi (Tr.QL (Tr.zA (Tr.sr (Tr.asg rfl rfl (Tr.nil (Tr.zA (Tr.ret ?_)))))))))))))))
  obtain rfl := oI H
  exact Tr.out (m := [iv (-1)]) [] (zU rfl zT) (fun W hW => ⟨rfl, hW.low leB⟩)
 | cons xL1 zV =>
  rw [JR.eq_2] at H
  refine Tr.sr (Tr.va rfl (fun _ _ a c => QE (a.ev rfl) (a.ev rfl)) (Tr.nil (Tr.zA (Tr.seq (Tr.WX rfl (JX QG) (Tr.skip (Tr.zA (Tr.seq (Tr.block (Tr.sr (Tr.mv rfl rfl (Tr.asg rfl rfl (Tr.nil (Tr.zA (Tr.sr (Tr.mv rfl rfl (Tr.mv rfl rfl (Tr.mv rfl rfl (Tr.va rfl (fun _ _ a c => zK zCl (a.ev rfl) zP.form (a.ev rfl) (Int.natCast_nonneg _) (QC QG)) (Tr.va rfl (fun _ _ a c => zX (cs := [iv xL1.X0, iv xL1.Y0, iv xL1.X1, iv xL1.Y1]) zBr VE (a.ev rfl) (zO.take (rdF WA zP (Js QG) c) 4) rfl) ?_))))))))))))))))))))
  obtain ⟨zm, zCi, H⟩ := bnd H
  refine Tr.zEV (r := (bV zm)) (wn rfl) rfl rfl hg1 (zI rfl zS) (fun W hW => hf1 hW.all hW.Qd xL1 _ zCi) (Tr.nil (Tr.zA (Tr.cond rfl H (fun H => ?_) (fun H => ?_))))
  ·refine Tr.sr (Tr.mv rfl rfl (Tr.asg rfl rfl (Tr.nil (Tr.zA (Tr.ret (Tr.QI (Tr.zg (Tr.zg (Tr.QI (Tr.zg ?_))))))))))
   obtain rfl := oI H
   exact Tr.out (m := [iv (iL1 : Int)]) [] (zU rfl zT) (fun W hW => ⟨rfl, hW.low leB⟩)
  ·exact Tr.skip (Tr.zh (Tr.zA (Tr.region (Tr.va rfl (fun _ _ a c => QA (a.ev rfl) (a.ev rfl)) (Tr.mv rfl rfl (Tr.nil (Tr.zf Qe (zV, (iL1 + 1)) ⟨rfl, Ql QG, QC QG, H⟩ (.cons rfl (.cons rfl (.cons rfl (.cons (congrArg (fun z => some (Value.int .i64 z)) (Qk QG zP.form)) .nil)))) .nil)))))))

theorem zFv (N : Nat) {w : Bs} (p0 : (List zQ)) (zF : Option Addr) (zG : Nat) (p1 : zQ → Option Bool) (fid1 : Nat) (cap1 : List Value) (hg1 : ∀ args W, (callFunc fid1 args).run Tryz.prog W = .ok (.enter fid1 args) W) (hf1 : ∀ (w' : Bs), w.Ext w' → ∀ (z0 : zQ), ∀ y, p1 z0 = some y → Calls Tryz.prog fid1 (([.agg #[iv z0.X0, iv z0.Y0, iv z0.X1, iv z0.Y1]] : List Value) ++ cap1).toArray w'.W fun e W'' => e = .returned (bV y) ∧ HF w' W'' E0) (r : (List zQ)) (H : Vn N p0 p1 = some r) (hE : HF w w.W (LEn [ow zF zG 36 zY p0])) : Calls Tryz.prog 85 [sL zF p0 zG, .func (.func fid1) #[] cap1.toArray].toArray w.W fun e W' => ∃ u : (Option Addr × Nat), e = .returned (sL u.1 r u.2) ∧ (SlF u.1 r.length u.2) ∧ HF w W' (LEn [ow u.1 u.2 36 zY r]) := by
 unfold Vn at H
 have zAc := (hE.sl (k := 0) rfl).form
 have leB := Bs.Le.refl w
 refine Tr.enter (n := 42) Tryz.func85 rfl rfl rfl hE (Tr.sr (Tr.asg rfl rfl (Tr.JY 1 36 zY ?_)))
 show Tr _ _ (uf _ 4 (sL none (([] : List zQ)) 0)) _ _
 refine Tr.nil (Tr.zA (Tr.sr (Tr.mv rfl rfl (Tr.mv rfl rfl ?_))))
 obtain ⟨QK, zBE, H⟩ := bnd H
 refine Tr.Qs (r := (iv QK)) (wn rfl) rfl Tryz.call112 (zI rfl (zI rfl zS)) (fun W hW => zGT p0 zF zG (hW.zBX (k := 0) rfl) p1 fid1 cap1 hg1 (fun w' he => hf1 w' (hW.Qd.trans he)) QK zBE (HF.start _)) (Tr.asg rfl rfl (Tr.nil (Tr.zA (Tr.seq (Tr.sr (Tr.mv rfl rfl (Tr.va rfl (fun _ _ a c => Qa (a.ev rfl) (a.ev rfl)) (Tr.nil (Tr.zA (Tr.cond rfl H (fun H => ?_) (fun H => ?_)))))))))))
 ·refine Tr.sr (Tr.mv rfl rfl (Tr.asg rfl rfl (Tr.nil (Tr.zA (Tr.ret (Tr.zg ?_))))))
  obtain rfl := oI H
  exact Tr.out (m := [sL zF p0 zG]) [] (zU rfl zT) (fun W hW => ⟨(zF, zG), rfl, zAc, HF.zK1 leB (hW.pick (ks := [0]) (by decide) (zR rfl zk)) ⟨zGI _ _ _ _ zCd, trivial⟩⟩)
 ·refine Tr.skip (Tr.zA (Tr.seq (Tr.sr (Tr.mv rfl rfl (Tr.va rfl (fun _ _ a c => QA (a.ev rfl) (a.ev rfl)) (Tr.asg rfl rfl (Tr.nil (Tr.zA (Tr.block (Tr.loop (σ := (List zQ) × Int × Int) (fun m w s => Qw p1 m s.1 s.2.1 s.2.2 = some r ∧ s.1.length = p0.length) (fun s => [(0, sL zF s.1 zG), (1, .func (.func fid1) #[] cap1.toArray), (5, iv s.2.1), (6, iv s.2.2)]) (fun s => [(0, ow zF zG 36 zY s.1)]) N (p0, QK, (w64 (QK + 1))) ⟨H, rfl⟩ (.cons rfl (.cons rfl (.cons rfl (.cons rfl .nil)))) (.cons rfl .nil) (fun _ _ h => zAQ (h.1)) ?_))))))))))
  intro w Qe mL1 s hs
  obtain ⟨zFl, zGe, zGd⟩ := s
  obtain ⟨H, zQx⟩ := hs
  replace H : Qw p1 (mL1 + 1) zFl zGe zGd = some r := H
  replace hf1 := fun w' he => hf1 w' (Qe.ext.trans he)
  replace leB := leB.trans Qe
  replace zQx : zFl.length = p0.length := zQx
  have zPd : SlF zF zFl.length zG := (by rw [zQx]; exact zAc)
  rw [Qw.eq_2] at H
  dsimp only
  refine Tr.seq (Tr.sr (Tr.mv rfl rfl (Tr.mv rfl rfl (Tr.va rfl (fun _ _ a c => zy zBQ (a.ev rfl)) (Tr.va rfl (fun _ _ a c => QE (a.ev rfl) (a.ev rfl)) (Tr.nil (Tr.zA (Tr.cond rfl H (fun H => ?_) (fun H => ?_)))))))))
  ·refine Tr.skip (Tr.zA (Tr.seq (Tr.block (Tr.sr (Tr.mv rfl rfl (Tr.mv rfl rfl ?_))))))
   obtain ⟨Wx, zlp, H⟩ := bnd H
   obtain ⟨hx1230, hx1231, hx1232⟩ := zx zlp
   refine Tr.va rfl (fun _ _ a c => zK zCl (a.ev rfl) zPd (a.ev rfl) hx1230 hx1231) (Tr.va rfl (fun _ _ a c => zX (cs := [iv Wx.X0, iv Wx.Y0, iv Wx.X1, iv Wx.Y1]) zBr VE (a.ev rfl) (zO.take (rdo WA (k := 0) c rfl hx1232) 4) rfl) (Tr.alloc 4 (wn rfl) rfl zF5 fun zeT => (Tr.store 4 (cs := [iv Wx.X0, iv Wx.Y0, iv Wx.X1, iv Wx.Y1]) [iv Wx.X0, iv Wx.Y0, iv Wx.X1, iv Wx.Y1] (wn rfl) rfl rfl rfl rfl VE rfl rfl rfl (Tr.nil (Tr.zA (Tr.sr (Tr.mv rfl rfl (Tr.va rfl (fun _ _ a c => zX (cs := [iv Wx.X0, iv Wx.Y0, iv Wx.X1, iv Wx.Y1]) zBr VE (a.ev rfl) (zO.take (rdb c (vs := [iv Wx.X0, iv Wx.Y0, iv Wx.X1, iv Wx.Y1]) (k := 4) rfl 0) 4) rfl) ?_))))))))
   obtain ⟨JS, zTr, H⟩ := bnd H
   refine Tr.zEV (r := (bV JS)) (wn rfl) rfl rfl hg1 (zI rfl zS) (fun W hW => hf1 hW.all hW.Qd Wx _ zTr) (Tr.va rfl (fun _ _ a c => KI (a.ev rfl)) (Tr.nil (Tr.zA (Tr.cond rfl H (fun H => ?_) (fun H => ?_)))))
   ·refine Tr.sr (Tr.mv rfl rfl (Tr.mv rfl rfl (Tr.va rfl (fun _ _ a c => zX (cs := [iv Wx.X0, iv Wx.Y0, iv Wx.X1, iv Wx.Y1]) zBr VE (a.ev rfl) (zO.take (rdb c (vs := [iv Wx.X0, iv Wx.Y0, iv Wx.X1, iv Wx.Y1]) (k := 4) rfl 0) 4) rfl) ?_)))
    obtain ⟨zOi, zlo, H⟩ := bnd H
    obtain ⟨ziS, ziR, ziQ⟩ := zx zlo
    refine Tr.va rfl (fun _ _ a c => zK zCl (a.ev rfl) zPd (a.ev rfl) ziS ziR) ?_
    obtain ⟨zR5, zfG, H⟩ := bnd H
    have zNA := zD5 zfG
    refine Tr.zEm 0 (t := zY) (l := zFl) (i := zGe) (fo := 0) (cs := [iv Wx.X0, iv Wx.Y0, iv Wx.X1, iv Wx.Y1]) Wx (wn rfl) rfl rfl rfl rfl rfl ziQ VE rfl (fun u _ => ⟨u, trivial, rfl⟩) rfl zfG ?_
    have zoR : SlF zF zR5.length zG := by rw [zNA]; exact zPd
    have hsl127 := zNA.trans zQx
    exact Tr.sel (lf := [(0, sL zF zR5 zG), (1, .func (.func fid1) #[] cap1.toArray), (5, iv zGe), (6, iv zGd), (7, pV zeT), (16, iv zGd), (17, sL zF zR5 zG), (18, iv (zFl.length : Int)), (19, bV (decide (zGd < (zFl.length : Int)))), (22, sL zF zR5 zG), (23, iv zGd), (25, .agg #[iv Wx.X0, iv Wx.Y0, iv Wx.X1, iv Wx.Y1]), (26, .func (.func fid1) #[] cap1.toArray), (27, .agg #[iv Wx.X0, iv Wx.Y0, iv Wx.X1, iv Wx.Y1]), (28, bV JS), (29, bV (!JS)), (30, sL zF zR5 zG), (31, iv zGe), (32, .agg #[iv Wx.X0, iv Wx.Y0, iv Wx.X1, iv Wx.Y1])]) (le := [(0, ow zF zG 36 zY zR5), (4, bx zeT #[iv Wx.X0, iv Wx.Y0, iv Wx.X1, iv Wx.Y1] 36)]) (.cons (KM rfl (by unfold sL; rw [zNA])) (.cons rfl (.cons rfl (.cons rfl (.cons rfl (.cons rfl (.cons (KM rfl (by unfold sL; rw [zNA])) (.cons rfl (.cons rfl (.cons (KM rfl (by unfold sL; rw [zNA])) (.cons rfl (.cons rfl (.cons rfl (.cons rfl (.cons rfl (.cons rfl (.cons (KM rfl (by unfold sL; rw [zNA])) (.cons rfl (.cons rfl .nil))))))))))))))))))) (.cons rfl (.cons rfl .nil)) (Tr.nil (Tr.zA (Tr.region (Tr.mv rfl rfl (Tr.va rfl (fun _ _ a c => QA (a.ev rfl) (a.ev rfl)) (Tr.asg rfl rfl (Tr.nil (Tr.zh (Tr.zA (Tr.region (Tr.mv rfl rfl (Tr.va rfl (fun _ _ a c => QA (a.ev rfl) (a.ev rfl)) (Tr.asg rfl rfl (Tr.nil (Tr.zf Qe (zR5, (w64 (zGe + 1)), (w64 (zGd + 1))) ⟨H, hsl127⟩ (.cons rfl (.cons rfl (.cons rfl (.cons rfl .nil)))) (.cons rfl .nil))))))))))))))))
   ·exact Tr.skip (Tr.zh (Tr.zA (Tr.region (Tr.mv rfl rfl (Tr.va rfl (fun _ _ a c => QA (a.ev rfl) (a.ev rfl)) (Tr.asg rfl rfl (Tr.nil (Tr.zf Qe (zFl, zGe, (w64 (zGd + 1))) ⟨H, zQx⟩ (.cons rfl (.cons rfl (.cons rfl (.cons rfl .nil)))) (.cons rfl .nil)))))))))
  ·refine Tr.exit (Tr.zi (Tr.zi (Tr.QL (Tr.zA (Tr.sr (Tr.mv rfl rfl (Tr.mv rfl rfl ?_)))))))
   obtain ⟨zDE, zJe, H⟩ := bnd H
   refine Tr.va rfl (fun _ _ a c => zGD zCl (a.ev rfl) zPd (a.ev rfl) zJe) ?_
   have hnhcl128 := zSb (zQ.mk 0 0 0 0) zJe
   refine Tr.zUZ 0 (lo := zGe) (t := zY) (l := zFl) (zQ.mk 0 0 0 0) (wn rfl) rfl zJe rfl zBQ zF5 ⟨(), zCd _ _ _ _, WA _ _⟩ rfl rfl ?_
   have zUD : SlF zF ((clr zFl zGe zDE.length (zQ.mk 0 0 0 0))).length zG := by rw [hnhcl128]; exact zPd
   have hshcl128 := hnhcl128.trans zQx
   refine Tr.sel (lf := [(0, sL zF ((clr zFl zGe zDE.length (zQ.mk 0 0 0 0))) zG), (1, .func (.func fid1) #[] cap1.toArray), (5, iv zGe), (6, iv zGd), (16, iv zGd), (17, sL zF ((clr zFl zGe zDE.length (zQ.mk 0 0 0 0))) zG), (18, iv (zFl.length : Int)), (19, bV (decide (zGd < (zFl.length : Int)))), (36, sL zF ((clr zFl zGe zDE.length (zQ.mk 0 0 0 0))) zG), (37, iv zGe)]) (le := [(0, ow zF zG 36 zY (clr zFl zGe zDE.length (zQ.mk 0 0 0 0)))]) (.cons (KM rfl (by unfold sL; rw [hnhcl128])) (.cons rfl (.cons rfl (.cons rfl (.cons rfl (.cons (KM rfl (by unfold sL; rw [hnhcl128])) (.cons rfl (.cons rfl (.cons (KM rfl (by unfold sL; rw [hnhcl128])) (.cons rfl .nil)))))))))) (.cons rfl .nil) (Tr.nil (Tr.zA (Tr.sr (Tr.mv rfl rfl (Tr.mv rfl rfl ?_)))))
   obtain ⟨zgU, zbN, H⟩ := bnd H
   refine Tr.va rfl (fun _ _ a c => zRu zCl (a.ev rfl) zUD (a.ev rfl) zbN) (Tr.asg rfl rfl (Tr.nil (Tr.zA (Tr.ret ?_))))
   obtain rfl := oI H
   exact Tr.zRt 0 zbN rfl (Tr.out (m := [sL zF zgU zG]) [] (zU rfl zT) (fun W hW => ⟨(zF, zG), rfl, (zLe zUD zbN), HF.zK1 leB (hW.pick (ks := [0]) (by decide) (zR rfl zk)) ⟨zGI _ _ _ _ zCd, trivial⟩⟩))

theorem zIW {w : Bs} (p0 : zQ) (p1 : zQ) (r : Int) (H : WV p0 p1 = some r) (hE : HF w w.W E0) : Calls Tryz.prog 114 [.agg #[iv p0.X0, iv p0.Y0, iv p0.X1, iv p0.Y1], .agg #[iv p1.X0, iv p1.Y0, iv p1.X1, iv p1.Y1]].toArray w.W fun e W' => e = .returned (iv r) ∧ HF w W' E0 := by
 unfold WV at H
 have leB := Bs.Le.refl w
 refine Tr.enter (n := 10) Tryz.func114 rfl rfl rfl hE (Tr.sr (Tr.box 1 (cs := [iv p0.X0, iv p0.Y0, iv p0.X1, iv p0.Y1]) (wn rfl) rfl rfl rfl fun zt => (Tr.box 2 (cs := [iv p1.X0, iv p1.Y0, iv p1.X1, iv p1.Y1]) (wn rfl) rfl rfl rfl fun Qg => (Tr.asg rfl rfl (Tr.nil (Tr.zA (Tr.sr (Tr.va rfl (fun _ _ a c => zB zBG (a.ev rfl)) (Tr.va rfl (fun _ _ a c => zD QH (a.ev rfl) (rdb c (vs := [iv p0.X0, iv p0.Y0, iv p0.X1, iv p0.Y1]) (k := 1) rfl 0) rfl) (Tr.va rfl (fun _ _ a c => zB zBG (a.ev rfl)) (Tr.va rfl (fun _ _ a c => zD QH (a.ev rfl) (rdb c (vs := [iv p1.X0, iv p1.Y0, iv p1.X1, iv p1.Y1]) (k := 2) rfl 0) rfl) (Tr.va rfl (fun _ _ a c => zAt (a.ev rfl) (a.ev rfl)) (Tr.asg rfl rfl (Tr.nil (Tr.zA (Tr.ret ?_))))))))))))))))
 obtain rfl := oI H
 exact Tr.out (m := [iv (w64 (p0.X0 - p1.X0))]) [] (zU rfl zT) (fun W hW => ⟨rfl, hW.low leB⟩)

theorem zJv {w : Bs} (p0 : (List zQ)) (zF : Option Addr) (zG : Nat) (r : ((List Int) × (List zQ))) (H : zBJ p0 = some r) (hE : HF w w.W (LEn [ow zF zG 36 zY p0, emp])) : Calls Tryz.prog 88 [sL zF p0 zG].toArray w.W fun e W' => ∃ u : (Option Addr × Nat), e = .returned (sL u.1 r.1 u.2) ∧ (SlF u.1 r.1.length u.2 ∧ r.2.length = p0.length) ∧ HF w W' (LEn [ow zF zG 36 zY r.2, ow u.1 u.2 3 QO r.1]) := by
 unfold zBJ at H
 have zAc := (hE.sl (k := 0) rfl).form
 have leB := Bs.Le.refl w
 refine Tr.enter (n := 48) Tryz.func88 rfl rfl rfl hE (Tr.sr (Tr.asg rfl rfl (Tr.JY 1 3 QO ?_)))
 show Tr _ _ (uf _ 2 (sL none (([] : List Int)) 0)) _ _
 refine Tr.nil (Tr.zA (Tr.sr (Tr.mv rfl rfl ?_)))
 obtain ⟨QK, zBE, H⟩ := bnd H
 refine Tr.WB [0] [ow zF zG 36 zY p0] (U := Unit) (fun u => (.tuple #[])) (fun u => QK.length = p0.length) (fun u => [ow zF zG 36 zY QK]) rfl (zR rfl zk) (fun _ => rfl) (wn rfl) rfl Tryz.call81 (zI rfl (zI rfl zS)) (fun W hW hp hE => zAq p0 zF zG (fun z0 z1 => WV z0 z1) 114 [] Tryz.call114 (fun w' he z0 z1 y hy => zIW z0 z1 y hy (HF.start _)) QK zBE hE) ?_
 intro u hu
 have gky100_0 := hu
 have zKN : QK.length = p0.length := gky100_0 --@phi
 have zNG : SlF zF QK.length zG := by rw [zKN]; exact zAc
 have hsky100_0 := zKN.trans rfl
 show Tr _ _ (uf _ 8 (.tuple #[])) (up _ 0 (ow zF zG 36 zY QK)) _
 refine Tr.sel (lf := [(0, sL zF QK zG), (2, sL none (([] : List Int)) 0), (7, sL zF QK zG), (8, (.tuple #[]))]) (le := [(0, ow zF zG 36 zY QK), (1, ow none 0 3 QO ([] : List Int))]) (.cons (KM rfl (by unfold sL; rw [zKN])) (.cons rfl (.cons (KM rfl (by unfold sL; rw [zKN])) (.cons rfl .nil)))) (.cons rfl (.cons rfl .nil)) (Tr.nil (Tr.zA (Tr.sr (Tr.asg rfl rfl (Tr.JY 2 3 QO ?_)))))
 show Tr _ _ (uf _ 3 (sL none (([] : List Int)) 0)) _ _
 refine Tr.nil (Tr.zA (Tr.seq (Tr.sr (Tr.mv rfl rfl (Tr.va rfl (fun _ _ a c => zy zBQ (a.ev rfl)) (Tr.mv rfl rfl (Tr.nil (Tr.zA (Tr.block (Tr.loop (σ := (List zQ) × Nat × (List Int) × (Option Addr) × Nat) (fun m w s => m = s.1.length + 1 ∧ s.1 = List.drop s.2.1 QK ∧ s.2.1 ≤ QK.length ∧ Jd QK s.1 s.2.1 s.2.2.1 = some r ∧ SlF s.2.2.2.1 s.2.2.1.length s.2.2.2.2) (fun s => [(3, sL s.2.2.2.1 s.2.2.1 s.2.2.2.2), (9, sL zF QK zG), (10, iv (QK.length : Int)), (11, iv (s.2.1 : Int))]) (fun s => [(0, ow zF zG 36 zY QK), (2, ow s.2.2.2.1 s.2.2.2.2 3 QO s.2.2.1)]) (QK.length + 1) (QK, 0, ([] : List Int), none, 0) ⟨rfl, rfl, Nat.zero_le _, H, VR⟩ (.cons rfl (.cons rfl (.cons rfl (.cons rfl .nil)))) (.cons rfl (.cons rfl .nil)) (fun _ _ h => absurd h.1 (by simp)) ?_))))))))))
 intro w Qe m s hs
 obtain ⟨zV, iL1, zDE, zKp, zKl⟩ := s
 obtain ⟨KS, QG, hiL1, H, zJe⟩ := hs
 replace QG : zV = List.drop iL1 QK := QG
 replace H : Jd QK zV iL1 zDE = some r := H
 replace KS : m + 1 = zV.length + 1 := KS
 replace leB := leB.trans Qe
 replace zJe : SlF zKp zDE.length zKl := zJe
 obtain rfl : m = zV.length := by omega
 clear KS
 dsimp only
 cases zV with
 | nil =>
  rw [Jd.eq_1] at H
  refine Tr.sr (Tr.va rfl (fun _ _ a c => QE (a.ev rfl) (a.ev rfl)) (Tr.nil (Tr.zA (Tr.seq (Tr.WY rfl (JB QG) (Tr.exit (Tr.zi (Tr.zi (Tr.QL (Tr.zA (Tr.sr (Tr.mv rfl rfl (Tr.asg rfl rfl (Tr.nil (Tr.zA (Tr.ret ?_))))))))))))))))
  obtain rfl := oI H
  exact Tr.out (m := [sL zKp zDE zKl]) [] (zU rfl zT) (fun W hW => ⟨(zKp, zKl), rfl, ⟨zJe, hsky100_0⟩, HF.zK1 leB (hW.pick (ks := [0, 2]) (by decide) (zR rfl (zR rfl zk))) ⟨zGI _ _ _ _ zCd, zGI _ _ _ _ zRq, trivial⟩⟩)
 | cons xL1 zV =>
  rw [Jd.eq_2] at H
  refine Tr.sr (Tr.va rfl (fun _ _ a c => QE (a.ev rfl) (a.ev rfl)) (Tr.nil (Tr.zA (Tr.seq (Tr.WX rfl (JX QG) (Tr.skip (Tr.zA (Tr.seq (Tr.block (Tr.sr (Tr.va rfl (fun _ _ a c => zK zCl (a.ev rfl) zNG (a.ev rfl) (Int.natCast_nonneg _) (QC QG)) (Tr.va rfl (fun _ _ a c => zX (cs := [iv xL1.X0, iv xL1.Y0, iv xL1.X1, iv xL1.Y1]) zBr VE (a.ev rfl) (zO.take (rdo WA (k := 0) c rfl (Js QG)) 4) rfl) (Tr.alloc 7 (wn rfl) rfl zF5 fun zcS => (Tr.store 7 (cs := [iv xL1.X0, iv xL1.Y0, iv xL1.X1, iv xL1.Y1]) [iv xL1.X0, iv xL1.Y0, iv xL1.X1, iv xL1.Y1] (wn rfl) rfl rfl rfl rfl VE rfl rfl rfl (Tr.nil (Tr.zA (Tr.sr (Tr.mv rfl rfl (Tr.va rfl (fun _ _ a c => zy zCc (a.ev rfl)) (Tr.va rfl (fun _ _ a c => zAt (a.ev rfl) (a.ev rfl)) (Tr.asg rfl rfl (Tr.nil (Tr.zA (Tr.seq (Tr.draw (by kernel_rfl) (by kernel_rfl) (Tq.mv rfl rfl (Tq.va rfl (fun _ _ a c => zEo (a.ev rfl) (a.ev rfl)) (Tq.mv rfl rfl ?_))))))))))))))))))))))))))))
  obtain ⟨zd4, zRC, H⟩ := bnd H
  refine Tq.mid 8 [(3, sL zKp zDE zKl), (5, pV zcS), (6, iv (w64 ((zDE.length : Int) - 1))), (9, sL zF QK zG), (10, iv (QK.length : Int)), (11, iv (iL1 : Int)), (28, bV zd4)] ?_ ?_
  ·cases zfN : (decide (0 ≤ (w64 ((zDE.length : Int) - 1))))
   ·rw [zfN] at zRC
    rw [if_neg (by decide)] at zRC
    have H := zRC
    obtain rfl := oI H
    exact Tq.pass rfl rfl rfl rfl rfl (by decide) (Tq.pass rfl rfl rfl rfl rfl (by decide) (Tq.pass rfl rfl rfl rfl rfl (by decide) (Tq.pass rfl rfl rfl rfl rfl (by decide) (Tq.pass rfl rfl rfl rfl rfl (by decide) (Tq.pass rfl rfl rfl rfl rfl (by decide) (Tq.pass rfl rfl rfl rfl rfl (by decide) (Tq.va rfl (fun _ _ a c => zo (a.ev rfl) (a.ev rfl)) (Tq.fin (.cons rfl (.cons rfl (.cons rfl (.cons rfl (.cons rfl (.cons rfl (.cons rfl .nil)))))))))))))))
   ·rw [zfN] at zRC
    rw [if_pos rfl] at zRC
    have H := zRC
    refine Tq.val (wg rfl rfl rfl) rfl (fun _ _ a c => zB zBG (a.ev rfl)) (Tq.val (wg rfl rfl rfl) rfl (fun _ _ a c => zD QH (a.ev rfl) (rdb c (vs := [iv xL1.X0, iv xL1.Y0, iv xL1.X1, iv xL1.Y1]) (k := 7) rfl 0) rfl) (Tq.val (wg rfl rfl rfl) rfl (fun _ _ a c => run_move (a.ev rfl)) (Tq.val (wg rfl rfl rfl) rfl (fun _ _ a c => run_move (a.ev rfl)) ?_)))
    obtain ⟨zjh, zln, H⟩ := bnd H
    obtain ⟨ziP, ziO, ziN⟩ := zx zln
    refine Tq.val (wg rfl rfl rfl) rfl (fun _ _ a c => zK zA3 (a.ev rfl) zJe (a.ev rfl) ziP ziO) (Tq.val (wg rfl rfl rfl) rfl (fun _ _ a c => zD QH (a.ev rfl) (rdo We (k := 2) c rfl ziN) rfl) (Tq.val (wg rfl rfl rfl) rfl (fun _ _ a c => zBR (a.ev rfl) (a.ev rfl)) (Tq.va rfl (fun _ _ a c => zn (a.ev rfl) (a.ev rfl)) ?_)))
    obtain rfl := oI H
    exact Tq.fin (.cons rfl (.cons rfl (.cons rfl (.cons rfl (.cons rfl (.cons rfl (.cons rfl .nil)))))))
  ·refine Tq.nil (Tr.zA (Tr.cond rfl H (fun H => ?_) (fun H => ?_)))
   ·refine Tr.Wj 9 (by kernel_rfl) (by kernel_rfl) (Tq.mv rfl rfl (Tq.mv rfl rfl (Tq.mv rfl rfl (Tq.mv rfl rfl ?_))))
    obtain ⟨zq, za5, H⟩ := bnd H
    obtain ⟨zV7, zV6, zV5⟩ := zx za5
    refine Tq.va rfl (fun _ _ a c => zK zA3 (a.ev rfl) zJe (a.ev rfl) zV7 zV6) (Tq.va rfl (fun _ _ a c => zD QH (a.ev rfl) (rdo We (k := 2) c rfl zV5) rfl) (Tq.va rfl (fun _ _ a c => zB zD9 (a.ev rfl)) (Tq.va rfl (fun _ _ a c => zD QH (a.ev rfl) (rdb c (vs := [iv xL1.X0, iv xL1.Y0, iv xL1.X1, iv xL1.Y1]) (k := 7) rfl 2) rfl) (Tq.va rfl (fun _ _ a c => zGn (a.ev rfl) (a.ev rfl) _) (Tq.nil ?_)))))
    obtain ⟨zHv, zlm, H⟩ := bnd H
    obtain ⟨ziM, ziL, ziK⟩ := zx zlm
    refine Tr.va rfl (fun _ _ a c => zK zA3 (a.ev rfl) zJe (a.ev rfl) ziM ziL) ?_
    obtain ⟨zTh, zfF, H⟩ := bnd H
    have zSI := zD5 zfF
    refine Tr.zEm 2 (t := QO) (l := zDE) (i := (w64 ((zDE.length : Int) - 1))) (fo := 0) (cs := [iv (max zq xL1.X1)]) (max zq xL1.X1) (wn rfl) rfl rfl rfl rfl rfl ziK zJB rfl (fun u _ => ⟨u, trivial, rfl⟩) rfl zfF ?_
    have ziq : SlF zKp zTh.length zKl := by rw [zSI]; exact zJe
    exact Tr.sel (lf := [(3, sL zKp zTh zKl), (5, pV zcS), (6, iv (w64 ((zDE.length : Int) - 1))), (9, sL zF QK zG), (10, iv (QK.length : Int)), (11, iv (iL1 : Int)), (28, bV zd4), (29, sL zKp zTh zKl), (30, iv (w64 ((zDE.length : Int) - 1))), (31, sL zKp zTh zKl), (32, iv (w64 ((zDE.length : Int) - 1))), (34, iv zq), (35, .pointer (some ⟨zcS, 2, none⟩)), (36, iv xL1.X1), (37, iv (max zq xL1.X1))]) (le := [(0, ow zF zG 36 zY QK), (2, ow zKp zKl 3 QO zTh), (7, bx zcS #[iv xL1.X0, iv xL1.Y0, iv xL1.X1, iv xL1.Y1] 36)]) (.cons (KM rfl (by unfold sL; rw [zSI])) (.cons rfl (.cons rfl (.cons rfl (.cons rfl (.cons rfl (.cons rfl (.cons (KM rfl (by unfold sL; rw [zSI])) (.cons rfl (.cons (KM rfl (by unfold sL; rw [zSI])) (.cons rfl (.cons rfl (.cons rfl (.cons rfl (.cons rfl .nil))))))))))))))) (.cons rfl (.cons rfl (.cons rfl .nil))) (Tr.nil (Tr.zh (Tr.zA (Tr.region (Tr.va rfl (fun _ _ a c => QA (a.ev rfl) (a.ev rfl)) (Tr.mv rfl rfl (Tr.nil (Tr.zf Qe (zV, (iL1 + 1), zTh, zKp, zKl) ⟨rfl, Ql QG, QC QG, H, ziq⟩ (.cons rfl (.cons rfl (.cons rfl (.cons (congrArg (fun z => some (Value.int .i64 z)) (Qk QG zNG)) .nil)))) (.cons rfl (.cons rfl .nil))))))))))
   ·refine Tr.region (Tr.mv rfl rfl (Tr.va rfl (fun _ _ a c => zB zBG (a.ev rfl)) (Tr.va rfl (fun _ _ a c => zD QH (a.ev rfl) (rdb c (vs := [iv xL1.X0, iv xL1.Y0, iv xL1.X1, iv xL1.Y1]) (k := 7) rfl 0) rfl) (Tr.va rfl (fun _ _ a c => zB zD9 (a.ev rfl)) (Tr.va rfl (fun _ _ a c => zD QH (a.ev rfl) (rdb c (vs := [iv xL1.X0, iv xL1.Y0, iv xL1.X1, iv xL1.Y1]) (k := 7) rfl 2) rfl) (Tr.buildSlice 8 (e := 3) (vs := [(0, iv xL1.X0), (1, iv xL1.X1)]) (cs := [iv xL1.X0, iv xL1.X1]) (wn rfl) rfl (zl rfl (zl rfl Qf)) (by kernel_rfl) fun zeS => ?_))))))
    obtain ⟨zgS, zmF, H⟩ := bnd H
    exact Tr.append 2 (t := QO) (l := zDE) (l2 := [xL1.X0, xL1.X1]) (wn rfl) rfl rfl rfl rfl (fun W hW => ⟨[[iv xL1.X0], [iv xL1.X1]], (.cons ⟨(), trivial, rfl⟩ (.cons ⟨(), trivial, rfl⟩ .nil)), rdb hW (vs := [iv xL1.X0, iv xL1.X1]) (k := 8) rfl 0⟩) zCc zJB zZK (by decide) zcL rfl zmF fun znK zm0 hAl137 => (Tr.asg rfl rfl (Tr.nil (Tr.zh (Tr.zA (Tr.region (Tr.va rfl (fun _ _ a c => QA (a.ev rfl) (a.ev rfl)) (Tr.mv rfl rfl (Tr.nil (Tr.zf Qe (zV, (iL1 + 1), zgS, znK, zm0) ⟨rfl, Ql QG, QC QG, H, hAl137⟩ (.cons rfl (.cons rfl (.cons rfl (.cons (congrArg (fun z => some (Value.int .i64 z)) (Qk QG zNG)) .nil)))) (.cons rfl (.cons rfl .nil)))))))))))

theorem zJG {w : Bs} (p0 : (List Int)) (zF : Option Addr) (zG : Nat) (zP : Sl w.R w.W QO zF zG p0) (p1 : (List Int)) (za : Option Addr) (zb : Nat) (Qc : Sl w.R w.W QO za zb p1) (r : Bool) (H : zAr p0 p1 = some r) (hE : HF w w.W E0) : Calls Tryz.prog 113 [sL zF p0 zG, sL za p1 zb].toArray w.W fun e W' => e = .returned (bV r) ∧ HF w W' E0 := by
 unfold zAr at H
 have leB := Bs.Le.refl w
 refine Tr.enter (n := 26) Tryz.func113 rfl rfl rfl hE (Tr.sr (Tr.asg rfl rfl (Tr.nil (Tr.zA (Tr.seq (Tr.sr (Tr.mv rfl rfl (Tr.va rfl (fun _ _ a c => zy zCc (a.ev rfl)) (Tr.mv rfl rfl (Tr.va rfl (fun _ _ a c => zy zCc (a.ev rfl)) (Tr.va rfl (fun _ _ a c => Jt (a.ev rfl) (a.ev rfl)) (Tr.nil (Tr.zA (Tr.cond rfl H (fun H => ?_) (fun H => ?_)))))))))))))))
 ·refine Tr.sr (Tr.asg rfl rfl (Tr.nil (Tr.zA (Tr.ret (Tr.zg ?_)))))
  obtain rfl := oI H
  exact Tr.out (m := [bV false]) [] (zU rfl zT) (fun W hW => ⟨rfl, hW.low leB⟩)
 ·refine Tr.skip (Tr.zA (Tr.seq (Tr.sr (Tr.mv rfl rfl (Tr.va rfl (fun _ _ a c => zy zCc (a.ev rfl)) (Tr.mv rfl rfl (Tr.nil (Tr.zA (Tr.block (Tr.loop (σ := (List Int) × Nat) (fun m w s => m = s.1.length + 1 ∧ s.1 = List.drop s.2 p0 ∧ s.2 ≤ p0.length ∧ Jm p1 s.1 s.2 = some r) (fun s => [(0, sL zF p0 zG), (1, sL za p1 zb), (12, iv (p0.length : Int)), (13, iv (s.2 : Int))]) (fun s => []) (p0.length + 1) (p0, 0) ⟨rfl, rfl, Nat.zero_le _, H⟩ (.cons rfl (.cons rfl (.cons rfl (.cons rfl .nil)))) .nil (fun _ _ h => absurd h.1 (by simp)) ?_))))))))))
  intro w Qe m s hs
  obtain ⟨zV, iL1⟩ := s
  obtain ⟨KS, QG, hiL1, H⟩ := hs
  replace QG : zV = List.drop iL1 p0 := QG
  replace H : Jm p1 zV iL1 = some r := H
  replace KS : m + 1 = zV.length + 1 := KS
  replace zP := zP.leR Qe
  replace Qc := Qc.leR Qe
  replace leB := leB.trans Qe
  obtain rfl : m = zV.length := by omega
  clear KS
  dsimp only
  cases zV with
  | nil =>
   rw [Jm.eq_1] at H
   refine Tr.sr (Tr.va rfl (fun _ _ a c => QE (a.ev rfl) (a.ev rfl)) (Tr.nil (Tr.zA (Tr.seq (Tr.WY rfl (JB QG) (Tr.exit (Tr.zi (Tr.zi (Tr.QL (Tr.zA (Tr.sr (Tr.asg rfl rfl (Tr.nil (Tr.zA (Tr.ret ?_)))))))))))))))
   obtain rfl := oI H
   exact Tr.out (m := [bV true]) [] (zU rfl zT) (fun W hW => ⟨rfl, hW.low leB⟩)
  | cons xL1 zV =>
   rw [Jm.eq_2] at H
   refine Tr.sr (Tr.va rfl (fun _ _ a c => QE (a.ev rfl) (a.ev rfl)) (Tr.nil (Tr.zA (Tr.seq (Tr.WX rfl (JX QG) (Tr.skip (Tr.zA (Tr.seq (Tr.block (Tr.sr (Tr.mv rfl rfl (Tr.asg rfl rfl (Tr.nil (Tr.zA (Tr.seq (Tr.draw (by kernel_rfl) (by kernel_rfl) (Tq.mv rfl rfl (Tq.mv rfl rfl (Tq.va rfl (fun _ _ a c => zK zA3 (a.ev rfl) zP.form (a.ev rfl) (Int.natCast_nonneg _) (QC QG)) (Tq.va rfl (fun _ _ a c => zD QH (a.ev rfl) (rdF We zP (Js QG) c) rfl) (Tq.mv rfl rfl (Tq.mv rfl rfl ?_))))))))))))))))))))))
   obtain ⟨x103, zTy, H⟩ := bnd H
   obtain ⟨zPa, zPZ, zPY⟩ := zx zTy
   refine Tq.va rfl (fun _ _ a c => zK zA3 (a.ev rfl) Qc.form (a.ev rfl) zPa zPZ) (Tq.va rfl (fun _ _ a c => zD QH (a.ev rfl) (rdF We Qc zPY c) rfl) (Tq.va rfl (fun _ _ a c => Jt (a.ev rfl) (a.ev rfl)) (Tq.nil (Tr.zA (Tr.cond rfl H (fun H => ?_) (fun H => ?_))))))
   ·refine Tr.sr (Tr.asg rfl rfl (Tr.nil (Tr.zA (Tr.ret (Tr.QI (Tr.zg (Tr.zg (Tr.QI (Tr.zg ?_)))))))))
    obtain rfl := oI H
    exact Tr.out (m := [bV false]) [] (zU rfl zT) (fun W hW => ⟨rfl, hW.low leB⟩)
   ·exact Tr.skip (Tr.zh (Tr.zA (Tr.region (Tr.va rfl (fun _ _ a c => QA (a.ev rfl) (a.ev rfl)) (Tr.mv rfl rfl (Tr.nil (Tr.zf Qe (zV, (iL1 + 1)) ⟨rfl, Ql QG, QC QG, H⟩ (.cons rfl (.cons rfl (.cons rfl (.cons (congrArg (fun z => some (Value.int .i64 z)) (Qk QG zP.form)) .nil)))) .nil)))))))

theorem zCr {w : Bs} (p0 : (List ze)) (zF : Option Addr) (zG : Nat) (p1 : ze) (za : Option Addr) (zb : Nat) (Qc : Sl w.O w.W QO za zb p1.Xs) (r : (List ze)) (H : Jj p0 p1 = some r) (hE : HF w w.W (LEn [ow zF zG 107 zW p0])) : Calls Tryz.prog 87 [sL zF p0 zG, .agg #[iv p1.Y0, iv p1.Y1, sL za p1.Xs zb]].toArray w.W fun e W' => ∃ (w' : Bs) (u : (Option Addr × Nat)), w.Le w' ∧ e = .returned (sL u.1 r u.2) ∧ (SlF u.1 r.length u.2) ∧ HF w' W' (LEn [ow u.1 u.2 107 zW r]) := by
 unfold Jj at H
 have zAc := (hE.sl (k := 0) rfl).form
 have leB := Bs.Le.refl w
 refine Tr.enter (n := 54) Tryz.func87 rfl rfl rfl hE (Tr.sr (Tr.box 1 (cs := [iv p1.Y0, iv p1.Y1, sL za p1.Xs zb]) (wn rfl) rfl rfl rfl fun zt => (Tr.asg rfl rfl (Tr.JY 2 107 zW ?_))))
 show Tr _ _ (uf _ 4 (sL none (([] : List ze)) 0)) _ _
 refine Tr.nil (Tr.zA (Tr.seq (Tr.sr (Tr.va rfl (fun _ _ a c => zB zBb (a.ev rfl)) (Tr.va rfl (fun _ _ a c => zD zDP (a.ev rfl) (rdb c (vs := [iv p1.Y0, iv p1.Y1, sL za p1.Xs zb]) (k := 1) rfl 2) rfl) (Tr.va rfl (fun _ _ a c => zy zCc (a.ev rfl)) (Tr.va rfl (fun _ _ a c => Qa (a.ev rfl) (a.ev rfl)) (Tr.mv rfl rfl (Tr.VJ 6 [(0, sL zF p0 zG), (3, pV zt), (16, bV (((p1.Xs.length : Int) == 0) || (decide (p1.Y1 ≤ p1.Y0))))] [(0, ow zF zG 107 zW p0), (1, bx zt #[iv p1.Y0, iv p1.Y1, sL za p1.Xs zb] 107), (2, ow none 0 107 zW ([] : List ze))] ?_ ?_)))))))))
 ·cases zLy : ((p1.Xs.length : Int) == 0)
  ·exact Tr.val (wg rfl rfl rfl) rfl (fun _ _ a c => zB zCk (a.ev rfl)) (Tr.val (wg rfl rfl rfl) rfl (fun _ _ a c => zD QH (a.ev rfl) (rdb c (vs := [iv p1.Y0, iv p1.Y1, sL za p1.Xs zb]) (k := 1) rfl 1) rfl) (Tr.val (wg rfl rfl rfl) rfl (fun _ _ a c => zB zFE (a.ev rfl)) (Tr.val (wg rfl rfl rfl) rfl (fun _ _ a c => zD QH (a.ev rfl) (rdb c (vs := [iv p1.Y0, iv p1.Y1, sL za p1.Xs zb]) (k := 1) rfl 0) rfl) (Tr.val (wg rfl rfl rfl) rfl (fun _ _ a c => zBR (a.ev rfl) (a.ev rfl)) (Tr.va rfl (fun _ _ a c => zo (a.ev rfl) (a.ev rfl)) (Tr.nil (Tr.Qi (.cons rfl (.cons rfl (.cons rfl .nil))) (.cons rfl (.cons rfl (.cons rfl .nil))))))))))
  ·exact Tr.pass rfl rfl rfl rfl rfl (by decide) (Tr.pass rfl rfl rfl rfl rfl (by decide) (Tr.pass rfl rfl rfl rfl rfl (by decide) (Tr.pass rfl rfl rfl rfl rfl (by decide) (Tr.pass rfl rfl rfl rfl rfl (by decide) (Tr.va rfl (fun _ _ a c => zn (a.ev rfl) (a.ev rfl)) (Tr.nil (Tr.Qi (.cons rfl (.cons rfl (.cons rfl .nil))) (.cons rfl (.cons rfl (.cons rfl .nil))))))))))
 ·show Tr _ _ (LF [(0, sL zF p0 zG), (3, pV zt), (16, bV (((p1.Xs.length : Int) == 0) || (decide (p1.Y1 ≤ p1.Y0))))]) (LE [(0, ow zF zG 107 zW p0), (1, bx zt #[iv p1.Y0, iv p1.Y1, sL za p1.Xs zb] 107), (2, ow none 0 107 zW ([] : List ze))]) _
  refine Tr.nil (Tr.zA (Tr.cond rfl H (fun H => ?_) (fun H => ?_)))
  ·refine Tr.sr (Tr.mv rfl rfl (Tr.asg rfl rfl (Tr.nil (Tr.zA (Tr.ret (Tr.zg ?_))))))
   obtain rfl := oI H
   exact Tr.out (m := [sL zF p0 zG]) [] (zU rfl zT) (fun W hW => ⟨w, (zF, zG), leB, rfl, zAc, hW.pick (ks := [0]) (by decide) (zR rfl zk)⟩)
  ·refine Tr.skip (Tr.zA (Tr.seq (Tr.sr (Tr.mv rfl rfl (Tr.va rfl (fun _ _ a c => zy zFa (a.ev rfl)) (Tr.va rfl (fun _ _ a c => zAt (a.ev rfl) (a.ev rfl)) (Tr.asg rfl rfl (Tr.nil (Tr.zA (Tr.seq (Tr.draw (by kernel_rfl) (by kernel_rfl) (Tq.mv rfl rfl (Tq.va rfl (fun _ _ a c => zEo (a.ev rfl) (a.ev rfl)) (Tq.mv rfl rfl ?_))))))))))))))
   obtain ⟨zQX, zHb, H⟩ := bnd H
   refine Tq.mid 9 [(0, sL zF p0 zG), (3, pV zt), (5, iv (w64 ((p0.length : Int) - 1))), (32, bV zQX)] ?_ ?_
   ·cases zLy : (decide (0 ≤ (w64 ((p0.length : Int) - 1))))
    ·rw [zLy] at zHb
     rw [if_neg (by decide)] at zHb
     have H := zHb
     obtain rfl := oI H
     exact Tq.pass rfl rfl rfl rfl rfl (by decide) (Tq.pass rfl rfl rfl rfl rfl (by decide) (Tq.pass rfl rfl rfl rfl rfl (by decide) (Tq.pass rfl rfl rfl rfl rfl (by decide) (Tq.pass rfl rfl rfl rfl rfl (by decide) (Tq.pass rfl rfl rfl rfl rfl (by decide) (Tq.pass rfl rfl rfl rfl rfl (by decide) (Tq.pass rfl rfl rfl rfl rfl (by decide) (Tq.va rfl (fun _ _ a c => zo (a.ev rfl) (a.ev rfl)) (Tq.fin (.cons rfl (.cons rfl (.cons rfl (.cons rfl .nil)))))))))))))
    ·rw [zLy] at zHb
     rw [if_pos rfl] at zHb
     have H := zHb
     refine Tq.val (wg rfl rfl rfl) rfl (fun _ _ a c => run_move (a.ev rfl)) (Tq.val (wg rfl rfl rfl) rfl (fun _ _ a c => run_move (a.ev rfl)) ?_)
     obtain ⟨x103, zTy, H⟩ := bnd H
     obtain ⟨zPa, zPZ, zPY⟩ := zx zTy
     refine Tq.val (wg rfl rfl rfl) rfl (fun _ _ a c => zK zDB (a.ev rfl) zAc (a.ev rfl) zPa zPZ) (Tq.val (wg rfl rfl rfl) rfl (fun _ _ a c => zB zCk (a.ev rfl)) (Tq.val (wg rfl rfl rfl) rfl (fun _ _ a c => (HF.atN (k := 0) c rfl zPY).elim fun u hu => zD QH (a.ev rfl) (hu.2.drop 1) rfl) (Tq.val (wg rfl rfl rfl) rfl (fun _ _ a c => zB zFE (a.ev rfl)) (Tq.val (wg rfl rfl rfl) rfl (fun _ _ a c => zD QH (a.ev rfl) (rdb c (vs := [iv p1.Y0, iv p1.Y1, sL za p1.Xs zb]) (k := 1) rfl 0) rfl) (Tq.val (wg rfl rfl rfl) rfl (fun _ _ a c => Qa (a.ev rfl) (a.ev rfl)) (Tq.va rfl (fun _ _ a c => zn (a.ev rfl) (a.ev rfl)) ?_))))))
     obtain rfl := oI H
     exact Tq.fin (.cons rfl (.cons rfl (.cons rfl (.cons rfl .nil))))
   ·refine Tq.mv rfl rfl ?_
    obtain ⟨zd8, zRJ, H⟩ := bnd H
    refine Tq.mid 9 [(0, sL zF p0 zG), (3, pV zt), (5, iv (w64 ((p0.length : Int) - 1))), (42, bV zd8)] ?_ ?_
    ·cases zLy : zQX
     ·rw [zLy] at zRJ
      rw [if_neg (by decide)] at zRJ
      have H := zRJ
      obtain rfl := oI H
      exact Tq.pass rfl rfl rfl rfl rfl (by decide) (Tq.pass rfl rfl rfl rfl rfl (by decide) (Tq.pass rfl rfl rfl rfl rfl (by decide) (Tq.pass rfl rfl rfl rfl rfl (by decide) (Tq.pass rfl rfl rfl rfl rfl (by decide) (Tq.pass rfl rfl rfl rfl rfl (by decide) (Tq.pass rfl rfl rfl rfl rfl (by decide) (Tq.pass rfl rfl rfl rfl rfl (by decide) (Tq.va rfl (fun _ _ a c => zo (a.ev rfl) (a.ev rfl)) (Tq.fin (.cons rfl (.cons rfl (.cons rfl (.cons rfl .nil)))))))))))))
     ·rw [zLy] at zRJ
      rw [if_pos rfl] at zRJ
      have H := zRJ
      refine Tq.val (wg rfl rfl rfl) rfl (fun _ _ a c => run_move (a.ev rfl)) (Tq.val (wg rfl rfl rfl) rfl (fun _ _ a c => run_move (a.ev rfl)) ?_)
      obtain ⟨zBu, zLp, H⟩ := bnd H
      obtain ⟨zIC, zIB, zIA⟩ := zx zLp
      refine Tq.val (wg rfl rfl rfl) rfl (fun _ _ a c => zK zDB (a.ev rfl) zAc (a.ev rfl) zIC zIB) (Tq.val (wg rfl rfl rfl) rfl (fun _ _ a c => zB zBb (a.ev rfl)) (Tq.zYf (U := (zW).Ad) (fun u => (zW).ok w.O w.W u zBu) (fun u => (sL u.1 zBu.Xs u.2)) (wg rfl rfl rfl) rfl (ldN (κ := 0) (t := zW) (V := fun u => (sL u.1 zBu.Xs u.2)) rfl zIA (fun _ _ u a hc => zD zDP (a.ev rfl) (hc.drop 2) rfl)) ?_))
      intro zfu zSD
      obtain ⟨zSs, zSW⟩ := zfu
      have zKI := zSD
      replace zKI : Sl w.O w.W QO zSs zSW zBu.Xs := zKI
      dsimp only
      refine Tq.val (wg rfl rfl rfl) rfl (fun _ _ a c => zB zBb (a.ev rfl)) (Tq.val (wg rfl rfl rfl) rfl (fun _ _ a c => zD zDP (a.ev rfl) (rdb c (vs := [iv p1.Y0, iv p1.Y1, sL za p1.Xs zb]) (k := 1) rfl 2) rfl) ?_)
      obtain ⟨zDI, zLo, H⟩ := bnd H
      refine Tq.Qs (r := (bV zDI)) (wg rfl rfl rfl) rfl Tryz.call113 (zI rfl (zI rfl zS)) (fun W hW => zJG zBu.Xs zSs zSW (zKI.rl.ext hW.Qd) p1.Xs za zb (Qc.rl.ext hW.Qd) zDI zLo (HF.start _)) (Tq.va rfl (fun _ _ a c => zn (a.ev rfl) (a.ev rfl)) ?_)
      obtain rfl := oI H
      exact Tq.fin (.cons rfl (.cons rfl (.cons rfl (.cons rfl .nil))))
    ·refine Tq.nil (Tr.zA (Tr.cond rfl H (fun H => ?_) (fun H => ?_)))
     ·refine Tr.sr (Tr.mv rfl rfl (Tr.mv rfl rfl (Tr.va rfl (fun _ _ a c => zB zCk (a.ev rfl)) (Tr.va rfl (fun _ _ a c => zD QH (a.ev rfl) (rdb c (vs := [iv p1.Y0, iv p1.Y1, sL za p1.Xs zb]) (k := 1) rfl 1) rfl) ?_))))
      obtain ⟨zLO, zlr, H⟩ := bnd H
      obtain ⟨ziY, ziX, ziW⟩ := zx zlr
      refine Tr.va rfl (fun _ _ a c => zK zDB (a.ev rfl) zAc (a.ev rfl) ziY ziX) (Tr.va rfl (fun _ _ a c => zB zCk (a.ev rfl)) ?_)
      obtain ⟨zVb, zfH, H⟩ := bnd H
      have zSK := zD5 zfH
      refine Tr.zEm 0 (t := zW) (l := p0) (i := (w64 ((p0.length : Int) - 1))) (fo := 1) (cs := [iv p1.Y1]) (ze.mk zLO.Y0 p1.Y1 zLO.Xs) (wn rfl) rfl rfl rfl rfl rfl ziW zJB rfl (fun u hu => ⟨u, hu, rfl⟩) rfl zfH ?_
      have zis : SlF zF zVb.length zG := by rw [zSK]; exact zAc
      have hsl112 := zSK.trans rfl
      refine Tr.sel (lf := [(0, sL zF zVb zG), (3, pV zt), (5, iv (w64 ((p0.length : Int) - 1))), (42, bV zd8), (43, sL zF zVb zG), (44, iv (w64 ((p0.length : Int) - 1))), (45, .pointer (some ⟨zt, 1, none⟩)), (46, iv p1.Y1)]) (le := [(0, ow zF zG 107 zW zVb), (1, bx zt #[iv p1.Y0, iv p1.Y1, sL za p1.Xs zb] 107), (2, ow none 0 107 zW ([] : List ze))]) (.cons (KM rfl (by unfold sL; rw [zSK])) (.cons rfl (.cons rfl (.cons rfl (.cons (KM rfl (by unfold sL; rw [zSK])) (.cons rfl (.cons rfl (.cons rfl .nil)))))))) (.cons rfl (.cons rfl (.cons rfl .nil))) (Tr.nil (Tr.zA (Tr.sr (Tr.mv rfl rfl (Tr.asg rfl rfl (Tr.nil (Tr.zA (Tr.ret (Tr.zg ?_)))))))))
      obtain rfl := oI H
      exact Tr.out (m := [sL zF zVb zG]) [] (zU rfl zT) (fun W hW => ⟨w, (zF, zG), leB, rfl, zis, hW.pick (ks := [0]) (by decide) (zR rfl zk)⟩)
     ·refine Tr.skip (Tr.zA (Tr.sr (Tr.mv rfl rfl (Tr.va rfl (fun _ _ a c => zX (cs := [iv p1.Y0, iv p1.Y1, sL za p1.Xs zb]) zSi zJN (a.ev rfl) (zO.take (rdb c (vs := [iv p1.Y0, iv p1.Y1, sL za p1.Xs zb]) (k := 1) rfl 0) 3) rfl) (Tr.buildSlice 3 (e := 107) (vs := [(0, .agg #[iv p1.Y0, iv p1.Y1, sL za p1.Xs zb])]) (cs := [iv p1.Y0, iv p1.Y1, sL za p1.Xs zb]) (wn rfl) rfl (zl rfl Qf) (by kernel_rfl) fun zpA => ?_)))))
      obtain ⟨zgV, zmH, H⟩ := bnd H
      refine Tr.append 0 (t := zW) (l := p0) (l2 := [p1]) (wn rfl) rfl rfl rfl rfl (fun W hW => ⟨[[iv p1.Y0, iv p1.Y1, sL za p1.Xs zb]], (.cons ⟨(za, zb), Qc, rfl⟩ .nil), rdb hW (vs := [iv p1.Y0, iv p1.Y1, sL za p1.Xs zb]) (k := 3) rfl 0⟩) zFa zJN zfg (by decide) zi8 rfl zmH fun zff zfV hAl114 => (Tr.asg rfl rfl (Tr.nil (Tr.zA (Tr.ret ?_))))
      obtain rfl := oI H
      exact Tr.out (m := [sL zff zgV zfV]) [] (zU rfl zT) (fun W hW => ⟨w, (zff, zfV), leB, rfl, hAl114, hW.pick (ks := [0]) (by decide) (zR rfl zk)⟩)

end Go.Proofs.YtoageaoknnnfbaaGreatDoor
