/- The walks: each function computes its plain function. -/
import Derived.Test.YtoageaoknnnfbaaGreatDoorXWd
namespace Go.Proofs.YtoageaoknnnfbaaGreatDoor
open Go.RowKit
set_option maxRecDepth 100000
set_option maxHeartbeats 1000000
theorem zHq {w : Bs} (p0 : VK) (zF : Option Addr) (zG : Nat) (zP : Sl w.O w.W QD zF zG p0.last.Points) (zM : Option Addr) (zL : Nat) (QW : Sl w.O w.W zH zM zL p0.last.Steps) (p1 : zC) (za : Option Addr) (zb : Nat) (Qc : Sl w.R w.W QD za zb p1.Points) (QS : Option Addr) (QR : Nat) (zIs : Sl w.R w.W zH QS QR p1.Steps) (r : VK) (H : WI p0 p1 = some r) (hE : HF w w.W (LEn [])) : Calls Tryz.prog 70 [.agg #[iv p0.dark, sv p0.tool, iv p0.place.X, iv p0.place.Y, bV p0.placed, iv p0.last.Kind, sv p0.last.Name, iv p0.last.At.X, iv p0.last.At.Y, sL zF p0.last.Points zG, iv p0.last.NX, iv p0.last.NY, sL zM p0.last.Steps zL], .agg #[iv p1.Kind, sv p1.Name, iv p1.At.X, iv p1.At.Y, sL za p1.Points zb, iv p1.NX, iv p1.NY, sL QS p1.Steps QR]].toArray w.W fun e W' => ∃ (w' : Bs) (u : (Option Addr × Nat) × (Option Addr × Nat)), w.Le w' ∧ e = .returned (.agg #[iv r.dark, sv r.tool, iv r.place.X, iv r.place.Y, bV r.placed, iv r.last.Kind, sv r.last.Name, iv r.last.At.X, iv r.last.At.Y, sL u.1.1 r.last.Points u.1.2, iv r.last.NX, iv r.last.NY, sL u.2.1 r.last.Steps u.2.2]) ∧ (Sl w'.O w'.W QD u.1.1 u.1.2 r.last.Points ∧ Sl w'.O w'.W zH u.2.1 u.2.2 r.last.Steps) ∧ HF w' W' (LEn []) := by
 unfold WI at H
 have leB := Bs.Le.refl w
 refine Tr.enter (n := 49) Tryz.func70 rfl rfl rfl hE (Tr.sr (Tr.box 1 (cs := [iv p0.dark, sv p0.tool, iv p0.place.X, iv p0.place.Y, bV p0.placed, iv p0.last.Kind, sv p0.last.Name, iv p0.last.At.X, iv p0.last.At.Y, sL zF p0.last.Points zG, iv p0.last.NX, iv p0.last.NY, sL zM p0.last.Steps zL]) (wn rfl) rfl rfl rfl fun zt => (Tr.box 2 (cs := [iv p1.Kind, sv p1.Name, iv p1.At.X, iv p1.At.Y, sL za p1.Points zb, iv p1.NX, iv p1.NY, sL QS p1.Steps QR]) (wn rfl) rfl rfl rfl fun Qg => (Tr.alloc 3 (wn rfl) rfl zZN fun zCE => (Tr.nil (Tr.zA ?_))))))
 have leJ122 := Bs.Le.refl w
 refine Tr.zJD (σ := Int × ByteArray × Int × Int × Bool × Int × ByteArray × Int × Int × (List zJ) × Int × Int × (List zC) × (Option Addr) × Nat × (Option Addr) × Nat) (fun w s => JK s.1 s.2.1 s.2.2.1 s.2.2.2.1 s.2.2.2.2.1 s.2.2.2.2.2.1 s.2.2.2.2.2.2.1 s.2.2.2.2.2.2.2.1 s.2.2.2.2.2.2.2.2.1 s.2.2.2.2.2.2.2.2.2.1 s.2.2.2.2.2.2.2.2.2.2.1 s.2.2.2.2.2.2.2.2.2.2.2.1 s.2.2.2.2.2.2.2.2.2.2.2.2.1 = some r ∧ Sl w.O w.W QD s.2.2.2.2.2.2.2.2.2.2.2.2.2.1 s.2.2.2.2.2.2.2.2.2.2.2.2.2.2.1 s.2.2.2.2.2.2.2.2.2.1 ∧ Sl w.O w.W zH s.2.2.2.2.2.2.2.2.2.2.2.2.2.2.2.1 s.2.2.2.2.2.2.2.2.2.2.2.2.2.2.2.2 s.2.2.2.2.2.2.2.2.2.2.2.2.1) (fun s => [(2, pV zt), (4, pV zCE)]) (fun s => [(1, bx zt #[iv s.1, sv s.2.1, iv s.2.2.1, iv s.2.2.2.1, bV s.2.2.2.2.1, iv s.2.2.2.2.2.1, sv s.2.2.2.2.2.2.1, iv s.2.2.2.2.2.2.2.1, iv s.2.2.2.2.2.2.2.2.1, sL s.2.2.2.2.2.2.2.2.2.2.2.2.2.1 s.2.2.2.2.2.2.2.2.2.1 s.2.2.2.2.2.2.2.2.2.2.2.2.2.2.1, iv s.2.2.2.2.2.2.2.2.2.2.1, iv s.2.2.2.2.2.2.2.2.2.2.2.1, sL s.2.2.2.2.2.2.2.2.2.2.2.2.2.2.2.1 s.2.2.2.2.2.2.2.2.2.2.2.2.1 s.2.2.2.2.2.2.2.2.2.2.2.2.2.2.2.2] 125), (3, bx zCE #[iv 0, sv ⟨#[]⟩, iv 0, iv 0, bV false, iv 0, sv ⟨#[]⟩, iv 0, iv 0, .slice none 0 0, iv 0, iv 0, .slice none 0 0] 125)]) ?_ ?_
 ·refine Tr.sr (Tr.va rfl (fun _ _ a c => zB zBF (a.ev rfl)) (Tr.va rfl (fun _ _ a c => zD QH (a.ev rfl) (rdb c (vs := [iv p1.Kind, sv p1.Name, iv p1.At.X, iv p1.At.Y, sL za p1.Points zb, iv p1.NX, iv p1.NY, sL QS p1.Steps QR]) (k := 2) rfl 0) rfl) (Tr.nil (Tr.zA (Tr.block ?_)))))
  have leJ125 := Bs.Le.refl w
  refine Tr.zJD (σ := Bool) (fun w s => KW p0 p1 s = some r) (fun s => [(2, pV zt), (3, pV Qg), (4, pV zCE), (6, iv p1.Kind), (7, bV s)]) (fun s => [(1, bx zt #[iv p0.dark, sv p0.tool, iv p0.place.X, iv p0.place.Y, bV p0.placed, iv p0.last.Kind, sv p0.last.Name, iv p0.last.At.X, iv p0.last.At.Y, sL zF p0.last.Points zG, iv p0.last.NX, iv p0.last.NY, sL zM p0.last.Steps zL] 125), (2, bx Qg #[iv p1.Kind, sv p1.Name, iv p1.At.X, iv p1.At.Y, sL za p1.Points zb, iv p1.NX, iv p1.NY, sL QS p1.Steps QR] 46), (3, bx zCE #[iv 0, sv ⟨#[]⟩, iv 0, iv 0, bV false, iv 0, sv ⟨#[]⟩, iv 0, iv 0, .slice none 0 0, iv 0, iv 0, .slice none 0 0] 125)]) ?_ ?_
  ·refine Tr.sr (Tr.va rfl (fun _ _ a c => Qa (a.ev rfl) (a.ev rfl)) (Tr.asg rfl rfl (Tr.nil (Tr.zA (Tr.cond rfl H (fun H => ?_) (fun H => ?_))))))
   ·exact Tr.skip (Tr.zf leJ125 (p1.Kind == 1) H (.cons rfl (.cons rfl (.cons rfl (.cons rfl (.cons rfl .nil))))) (.cons rfl (.cons rfl (.cons rfl .nil))))
   ·exact Tr.region (Tr.va rfl (fun _ _ a c => Qa (a.ev rfl) (a.ev rfl)) (Tr.asg rfl rfl (Tr.nil (Tr.zf leJ125 (p1.Kind == 2) H (.cons rfl (.cons rfl (.cons rfl (.cons rfl (.cons rfl .nil))))) (.cons rfl (.cons rfl (.cons rfl .nil)))))))
  ·intro w zcy hlJ126 hs
   have H := hs
   replace H : KW p0 p1 zcy = some r := H
   replace zP := zP.le hlJ126
   replace QW := QW.le hlJ126
   replace leJ122 := leJ122.trans hlJ126
   unfold KW at H
   show Tr _ _ (LF [(2, pV zt), (3, pV Qg), (4, pV zCE), (6, iv p1.Kind), (7, bV zcy)]) (LE [(1, bx zt #[iv p0.dark, sv p0.tool, iv p0.place.X, iv p0.place.Y, bV p0.placed, iv p0.last.Kind, sv p0.last.Name, iv p0.last.At.X, iv p0.last.At.Y, sL zF p0.last.Points zG, iv p0.last.NX, iv p0.last.NY, sL zM p0.last.Steps zL] 125), (2, bx Qg #[iv p1.Kind, sv p1.Name, iv p1.At.X, iv p1.At.Y, sL za p1.Points zb, iv p1.NX, iv p1.NY, sL QS p1.Steps QR] 46), (3, bx zCE #[iv 0, sv ⟨#[]⟩, iv 0, iv 0, bV false, iv 0, sv ⟨#[]⟩, iv 0, iv 0, .slice none 0 0, iv 0, iv 0, .slice none 0 0] 125)]) _
   refine Tr.cond rfl H (fun H => ?_) (fun H => ?_)
   ·exact Tr.region (Tr.va rfl (fun _ _ a c => zB zBF (a.ev rfl)) (Tr.va rfl (fun _ _ a c => zD QH (a.ev rfl) (rdb c (vs := [iv p1.Kind, sv p1.Name, iv p1.At.X, iv p1.At.Y, sL za p1.Points zb, iv p1.NX, iv p1.NY, sL QS p1.Steps QR]) (k := 2) rfl 0) rfl) (Tr.va rfl (fun _ _ a c => zB zJk (a.ev rfl)) (Tr.store 1 (cs := [iv p1.Kind]) [iv p1.Kind, sv p0.tool, iv p0.place.X, iv p0.place.Y, bV p0.placed, iv p0.last.Kind, sv p0.last.Name, iv p0.last.At.X, iv p0.last.At.Y, sL zF p0.last.Points zG, iv p0.last.NX, iv p0.last.NY, sL zM p0.last.Steps zL] (wn rfl) rfl rfl rfl rfl zJB rfl rfl rfl (Tr.nil (Tr.zh (Tr.zf leJ122 (p1.Kind, p0.tool, p0.place.X, p0.place.Y, p0.placed, p0.last.Kind, p0.last.Name, p0.last.At.X, p0.last.At.Y, p0.last.Points, p0.last.NX, p0.last.NY, p0.last.Steps, zF, zG, zM, zL) ⟨H, zP, QW⟩ (.cons rfl (.cons rfl .nil)) (.cons rfl (.cons rfl .nil)))))))))
   ·refine Tr.sr (Tr.va rfl (fun _ _ a c => Qa (a.ev rfl) (a.ev rfl)) (Tr.asg rfl rfl (Tr.nil (Tr.zA (Tr.cond rfl H (fun H => ?_) (fun H => ?_))))))
    ·exact Tr.region (Tr.va rfl (fun _ _ a c => zB zFn (a.ev rfl)) (Tr.va rfl (fun _ _ a c => zD zHF (a.ev rfl) (rdb c (vs := [iv p1.Kind, sv p1.Name, iv p1.At.X, iv p1.At.Y, sL za p1.Points zb, iv p1.NX, iv p1.NY, sL QS p1.Steps QR]) (k := 2) rfl 1) rfl) (Tr.va rfl (fun _ _ a c => zB zJj (a.ev rfl)) (Tr.store 1 (cs := [sv p1.Name]) [iv p0.dark, sv p1.Name, iv p0.place.X, iv p0.place.Y, bV p0.placed, iv p0.last.Kind, sv p0.last.Name, iv p0.last.At.X, iv p0.last.At.Y, sL zF p0.last.Points zG, iv p0.last.NX, iv p0.last.NY, sL zM p0.last.Steps zL] (wn rfl) rfl rfl rfl rfl zoH rfl rfl rfl (Tr.nil (Tr.zh (Tr.zf leJ122 (p0.dark, p1.Name, p0.place.X, p0.place.Y, p0.placed, p0.last.Kind, p0.last.Name, p0.last.At.X, p0.last.At.Y, p0.last.Points, p0.last.NX, p0.last.NY, p0.last.Steps, zF, zG, zM, zL) ⟨H, zP, QW⟩ (.cons rfl (.cons rfl .nil)) (.cons rfl (.cons rfl .nil)))))))))
    ·refine Tr.sr (Tr.va rfl (fun _ _ a c => Qa (a.ev rfl) (a.ev rfl)) (Tr.asg rfl rfl (Tr.nil (Tr.zA (Tr.cond rfl H (fun H => ?_) (fun H => ?_))))))
     ·exact Tr.region (Tr.va rfl (fun _ _ a c => zB WK (a.ev rfl)) (Tr.va rfl (fun _ _ a c => zX (cs := [iv p1.At.X, iv p1.At.Y]) KT JL (a.ev rfl) (zO.take (rdb c (vs := [iv p1.Kind, sv p1.Name, iv p1.At.X, iv p1.At.Y, sL za p1.Points zb, iv p1.NX, iv p1.NY, sL QS p1.Steps QR]) (k := 2) rfl 2) 2) rfl) (Tr.va rfl (fun _ _ a c => zB zPi (a.ev rfl)) (Tr.store 1 (cs := [iv p1.At.X, iv p1.At.Y]) [iv p0.dark, sv p0.tool, iv p1.At.X, iv p1.At.Y, bV p0.placed, iv p0.last.Kind, sv p0.last.Name, iv p0.last.At.X, iv p0.last.At.Y, sL zF p0.last.Points zG, iv p0.last.NX, iv p0.last.NY, sL zM p0.last.Steps zL] (wn rfl) rfl rfl rfl rfl JL rfl rfl rfl (Tr.va rfl (fun _ _ a c => zB zPh (a.ev rfl)) (Tr.store 1 (cs := [bV true]) [iv p0.dark, sv p0.tool, iv p1.At.X, iv p1.At.Y, bV true, iv p0.last.Kind, sv p0.last.Name, iv p0.last.At.X, iv p0.last.At.Y, sL zF p0.last.Points zG, iv p0.last.NX, iv p0.last.NY, sL zM p0.last.Steps zL] (wn rfl) rfl rfl rfl rfl zZi rfl rfl rfl (Tr.nil (Tr.zh (Tr.zf leJ122 (p0.dark, p0.tool, p1.At.X, p1.At.Y, true, p0.last.Kind, p0.last.Name, p0.last.At.X, p0.last.At.Y, p0.last.Points, p0.last.NX, p0.last.NY, p0.last.Steps, zF, zG, zM, zL) ⟨H, zP, QW⟩ (.cons rfl (.cons rfl .nil)) (.cons rfl (.cons rfl .nil)))))))))))
     ·have leJ128 := Bs.Le.refl w
      refine Tr.zJD (σ := Bool) (fun w s => KX p0 p1 s = some r) (fun s => [(2, pV zt), (3, pV Qg), (4, pV zCE), (6, iv p1.Kind), (24, bV s)]) (fun s => [(1, bx zt #[iv p0.dark, sv p0.tool, iv p0.place.X, iv p0.place.Y, bV p0.placed, iv p0.last.Kind, sv p0.last.Name, iv p0.last.At.X, iv p0.last.At.Y, sL zF p0.last.Points zG, iv p0.last.NX, iv p0.last.NY, sL zM p0.last.Steps zL] 125), (2, bx Qg #[iv p1.Kind, sv p1.Name, iv p1.At.X, iv p1.At.Y, sL za p1.Points zb, iv p1.NX, iv p1.NY, sL QS p1.Steps QR] 46), (3, bx zCE #[iv 0, sv ⟨#[]⟩, iv 0, iv 0, bV false, iv 0, sv ⟨#[]⟩, iv 0, iv 0, .slice none 0 0, iv 0, iv 0, .slice none 0 0] 125)]) ?_ ?_
      ·refine Tr.sr (Tr.va rfl (fun _ _ a c => Qa (a.ev rfl) (a.ev rfl)) (Tr.asg rfl rfl (Tr.nil (Tr.zA (Tr.cond rfl H (fun H => ?_) (fun H => ?_))))))
       ·exact Tr.skip (Tr.zf leJ128 (p1.Kind == 5) H (.cons rfl (.cons rfl (.cons rfl (.cons rfl (.cons rfl .nil))))) (.cons rfl (.cons rfl (.cons rfl .nil))))
       ·exact Tr.region (Tr.va rfl (fun _ _ a c => Qa (a.ev rfl) (a.ev rfl)) (Tr.asg rfl rfl (Tr.nil (Tr.zf leJ128 (p1.Kind == 6) H (.cons rfl (.cons rfl (.cons rfl (.cons rfl (.cons rfl .nil))))) (.cons rfl (.cons rfl (.cons rfl .nil)))))))
      ·intro w zcx hlJ129 hs
       have H := hs
       replace H : KX p0 p1 zcx = some r := H
       replace zP := zP.le hlJ129
       replace QW := QW.le hlJ129
       replace leJ122 := leJ122.trans hlJ129
       unfold KX at H
       show Tr _ _ (LF [(2, pV zt), (3, pV Qg), (4, pV zCE), (6, iv p1.Kind), (24, bV zcx)]) (LE [(1, bx zt #[iv p0.dark, sv p0.tool, iv p0.place.X, iv p0.place.Y, bV p0.placed, iv p0.last.Kind, sv p0.last.Name, iv p0.last.At.X, iv p0.last.At.Y, sL zF p0.last.Points zG, iv p0.last.NX, iv p0.last.NY, sL zM p0.last.Steps zL] 125), (2, bx Qg #[iv p1.Kind, sv p1.Name, iv p1.At.X, iv p1.At.Y, sL za p1.Points zb, iv p1.NX, iv p1.NY, sL QS p1.Steps QR] 46), (3, bx zCE #[iv 0, sv ⟨#[]⟩, iv 0, iv 0, bV false, iv 0, sv ⟨#[]⟩, iv 0, iv 0, .slice none 0 0, iv 0, iv 0, .slice none 0 0] 125)]) _
       refine Tr.cond rfl H (fun H => ?_) (fun H => ?_)
       ·exact Tr.sr (Tr.va rfl (fun _ _ a c => zB WK (a.ev rfl)) (Tr.va rfl (fun _ _ a c => zX (cs := [iv p1.At.X, iv p1.At.Y]) KT JL (a.ev rfl) (zO.take (rdb c (vs := [iv p1.Kind, sv p1.Name, iv p1.At.X, iv p1.At.Y, sL za p1.Points zb, iv p1.NX, iv p1.NY, sL QS p1.Steps QR]) (k := 2) rfl 2) 2) rfl) (Tr.va rfl (fun _ _ a c => zB zPi (a.ev rfl)) (Tr.store 1 (cs := [iv p1.At.X, iv p1.At.Y]) [iv p0.dark, sv p0.tool, iv p1.At.X, iv p1.At.Y, bV p0.placed, iv p0.last.Kind, sv p0.last.Name, iv p0.last.At.X, iv p0.last.At.Y, sL zF p0.last.Points zG, iv p0.last.NX, iv p0.last.NY, sL zM p0.last.Steps zL] (wn rfl) rfl rfl rfl rfl JL rfl rfl rfl (Tr.va rfl (fun _ _ a c => zB zPh (a.ev rfl)) (Tr.store 1 (cs := [bV true]) [iv p0.dark, sv p0.tool, iv p1.At.X, iv p1.At.Y, bV true, iv p0.last.Kind, sv p0.last.Name, iv p0.last.At.X, iv p0.last.At.Y, sL zF p0.last.Points zG, iv p0.last.NX, iv p0.last.NY, sL zM p0.last.Steps zL] (wn rfl) rfl rfl rfl rfl zZi rfl rfl rfl (Tr.nil (Tr.zA (Tr.region (Tr.va rfl (fun _ _ a c => zB zBF (a.ev rfl)) (Tr.va rfl (fun _ _ a c => zD QH (a.ev rfl) (rdb c (vs := [iv p1.Kind, sv p1.Name, iv p1.At.X, iv p1.At.Y, sL za p1.Points zb, iv p1.NX, iv p1.NY, sL QS p1.Steps QR]) (k := 2) rfl 0) rfl) (Tr.va rfl (fun _ _ a c => zB WK (a.ev rfl)) (Tr.va rfl (fun _ _ a c => zX (cs := [iv p1.At.X, iv p1.At.Y]) KT JL (a.ev rfl) (zO.take (rdb c (vs := [iv p1.Kind, sv p1.Name, iv p1.At.X, iv p1.At.Y, sL za p1.Points zb, iv p1.NX, iv p1.NY, sL QS p1.Steps QR]) (k := 2) rfl 2) 2) rfl) (Tr.va rfl (fun _ _ a c => zB zJj (a.ev rfl)) (Tr.va rfl (fun _ _ a c => zD zHF (a.ev rfl) (rdb c (vs := [iv p0.dark, sv p0.tool, iv p1.At.X, iv p1.At.Y, bV true, iv p0.last.Kind, sv p0.last.Name, iv p0.last.At.X, iv p0.last.At.Y, sL zF p0.last.Points zG, iv p0.last.NX, iv p0.last.NY, sL zM p0.last.Steps zL]) (k := 1) rfl 1) rfl) (Tr.va rfl (fun _ _ a c => zB zJk (a.ev rfl)) (Tr.va rfl (fun _ _ a c => zD QH (a.ev rfl) (rdb c (vs := [iv p0.dark, sv p0.tool, iv p1.At.X, iv p1.At.Y, bV true, iv p0.last.Kind, sv p0.last.Name, iv p0.last.At.X, iv p0.last.At.Y, sL zF p0.last.Points zG, iv p0.last.NX, iv p0.last.NY, sL zM p0.last.Steps zL]) (k := 1) rfl 0) rfl) (Tr.build (vs := [(0, iv p1.Kind), (2, .agg #[iv p1.At.X, iv p1.At.Y]), (1, sv p0.tool), (4, iv p0.dark)]) (cs := [iv p1.Kind, sv p0.tool, iv p1.At.X, iv p1.At.Y, .slice none 0 0, iv p0.dark, iv 0, .slice none 0 0]) (wn rfl) rfl (zl rfl (zl rfl (zl rfl (zl rfl Qf)))) (by kernel_rfl) (Tr.va rfl (fun _ _ a c => zB zHc (a.ev rfl)) (Tr.store 1 (cs := [iv p1.Kind, sv p0.tool, iv p1.At.X, iv p1.At.Y, .slice none 0 0, iv p0.dark, iv 0, .slice none 0 0]) [iv p0.dark, sv p0.tool, iv p1.At.X, iv p1.At.Y, bV true, iv p1.Kind, sv p0.tool, iv p1.At.X, iv p1.At.Y, .slice none 0 0, iv p0.dark, iv 0, .slice none 0 0] (wn rfl) rfl rfl rfl rfl zA2 rfl rfl rfl (Tr.nil (Tr.zh (Tr.zf leJ122 (p0.dark, p0.tool, p1.At.X, p1.At.Y, true, p1.Kind, p0.tool, p1.At.X, p1.At.Y, [], p0.dark, 0, [], none, 0, none, 0) ⟨H, (Sl.nil _ _ _), (Sl.nil _ _ _)⟩ (.cons rfl (.cons rfl .nil)) (.cons rfl (.cons rfl .nil)))))))))))))))))))))))))
       ·refine Tr.sr (Tr.va rfl (fun _ _ a c => Qa (a.ev rfl) (a.ev rfl)) (Tr.asg rfl rfl (Tr.nil (Tr.zA (Tr.cond rfl H (fun H => ?_) (fun H => ?_))))))
        ·exact Tr.region (Tr.build (vs := []) (cs := [iv 0, sv ⟨#[]⟩, iv 0, iv 0, .slice none 0 0, iv 0, iv 0, .slice none 0 0]) (wn rfl) rfl Qf (by kernel_rfl) (Tr.va rfl (fun _ _ a c => zB zHc (a.ev rfl)) (Tr.store 1 (cs := [iv 0, sv ⟨#[]⟩, iv 0, iv 0, .slice none 0 0, iv 0, iv 0, .slice none 0 0]) [iv p0.dark, sv p0.tool, iv p0.place.X, iv p0.place.Y, bV p0.placed, iv 0, sv ⟨#[]⟩, iv 0, iv 0, .slice none 0 0, iv 0, iv 0, .slice none 0 0] (wn rfl) rfl rfl rfl rfl zA2 rfl rfl rfl (Tr.nil (Tr.zh (Tr.zf leJ122 (p0.dark, p0.tool, p0.place.X, p0.place.Y, p0.placed, 0, ⟨#[]⟩, 0, 0, [], 0, 0, [], none, 0, none, 0) ⟨H, (Sl.nil _ _ _), (Sl.nil _ _ _)⟩ (.cons rfl (.cons rfl .nil)) (.cons rfl (.cons rfl .nil))))))))
        ·refine Tr.sr (Tr.va rfl (fun _ _ a c => Qa (a.ev rfl) (a.ev rfl)) (Tr.asg rfl rfl (Tr.nil (Tr.zA (Tr.cond rfl H (fun H => ?_) (fun H => ?_))))))
         ·exact Tr.region (Tr.build (vs := []) (cs := [iv 0, sv ⟨#[]⟩, iv 0, iv 0, bV false, iv 0, sv ⟨#[]⟩, iv 0, iv 0, .slice none 0 0, iv 0, iv 0, .slice none 0 0]) (wn rfl) rfl Qf (by kernel_rfl) (Tr.store 1 (cs := [iv 0, sv ⟨#[]⟩, iv 0, iv 0, bV false, iv 0, sv ⟨#[]⟩, iv 0, iv 0, .slice none 0 0, iv 0, iv 0, .slice none 0 0]) [iv 0, sv ⟨#[]⟩, iv 0, iv 0, bV false, iv 0, sv ⟨#[]⟩, iv 0, iv 0, .slice none 0 0, iv 0, iv 0, .slice none 0 0] (wn rfl) rfl rfl rfl rfl zJM rfl rfl rfl (Tr.nil (Tr.zh (Tr.zf leJ122 (0, ⟨#[]⟩, 0, 0, false, 0, ⟨#[]⟩, 0, 0, [], 0, 0, [], none, 0, none, 0) ⟨H, (Sl.nil _ _ _), (Sl.nil _ _ _)⟩ (.cons rfl (.cons rfl .nil)) (.cons rfl (.cons rfl .nil)))))))
         ·exact Tr.skip (Tr.zh (Tr.zf leJ122 (p0.dark, p0.tool, p0.place.X, p0.place.Y, p0.placed, p0.last.Kind, p0.last.Name, p0.last.At.X, p0.last.At.Y, p0.last.Points, p0.last.NX, p0.last.NY, p0.last.Steps, zF, zG, zM, zL) ⟨H, zP, QW⟩ (.cons rfl (.cons rfl .nil)) (.cons rfl (.cons rfl .nil))))
 ·intro w s hlJ123 hs
  obtain ⟨zDD, zDC, zLO, x112, x113, x114, x115, zKZ, zF9, zR6, zS4, zLN, zJC, zQD, zPx, zQC, zPw⟩ := s
  obtain ⟨H, zbO, zQw⟩ := hs
  replace H : JK zDD zDC zLO x112 x113 x114 x115 zKZ zF9 zR6 zS4 zLN zJC = some r := H
  replace leB := leB.trans hlJ123
  replace zbO : Sl w.O w.W QD zQD zPx zR6 := zbO
  replace zQw : Sl w.O w.W zH zQC zPw zJC := zQw
  unfold JK at H
  dsimp only
  refine Tr.sr (Tr.va rfl (fun _ _ a c => zX (cs := [iv zDD, sv zDC, iv zLO, iv x112, bV x113, iv x114, sv x115, iv zKZ, iv zF9, sL zQD zR6 zPx, iv zS4, iv zLN, sL zQC zJC zPw]) zSh zJM (a.ev rfl) (zO.take (rdb c (vs := [iv zDD, sv zDC, iv zLO, iv x112, bV x113, iv x114, sv x115, iv zKZ, iv zF9, sL zQD zR6 zPx, iv zS4, iv zLN, sL zQC zJC zPw]) (k := 1) rfl 0) 13) rfl) (Tr.store 3 (cs := [iv zDD, sv zDC, iv zLO, iv x112, bV x113, iv x114, sv x115, iv zKZ, iv zF9, sL zQD zR6 zPx, iv zS4, iv zLN, sL zQC zJC zPw]) [iv zDD, sv zDC, iv zLO, iv x112, bV x113, iv x114, sv x115, iv zKZ, iv zF9, sL zQD zR6 zPx, iv zS4, iv zLN, sL zQC zJC zPw] (wn rfl) rfl rfl rfl rfl zJM rfl rfl rfl (Tr.nil (Tr.zA (Tr.ret ?_)))))
  obtain rfl := oI H
  exact Tr.out (m := [.agg #[iv zDD, sv zDC, iv zLO, iv x112, bV x113, iv x114, sv x115, iv zKZ, iv zF9, sL zQD zR6 zPx, iv zS4, iv zLN, sL zQC zJC zPw]]) [3] (WR rfl rfl zSh zJM zT) (fun W hW => ⟨w, ((zQD, zPx), (zQC, zPw)), leB, rfl, ⟨zbO, zQw⟩, hW.pick (ks := []) (by decide) zk⟩)

theorem zMO {w : Bs} (p0 : (List zC)) (zF : Option Addr) (zG : Nat) (zP : Sl w.R w.W zH zF zG p0) (r : Int) (H : zEI p0 = some r) (hE : HF w w.W E0) : Calls Tryz.prog 40 [sL zF p0 zG].toArray w.W fun e W' => e = .returned (iv r) ∧ HF w W' E0 := by
 unfold zEI at H
 have leB := Bs.Le.refl w
 refine Tr.enter (n := 26) Tryz.func40 rfl rfl rfl hE (Tr.sr (Tr.asg rfl rfl (Tr.nil (Tr.zA (Tr.sr (Tr.build (vs := [(0, iv 1)]) (cs := [iv 1, sv ⟨#[]⟩, iv 0, iv 0, bV false, iv 0, sv ⟨#[]⟩, iv 0, iv 0, .slice none 0 0, iv 0, iv 0, .slice none 0 0]) (wn rfl) rfl (zl rfl Qf) (by kernel_rfl) (Tr.alloc 1 (wn rfl) rfl zZN fun zt => (Tr.store 1 (cs := [iv 1, sv ⟨#[]⟩, iv 0, iv 0, bV false, iv 0, sv ⟨#[]⟩, iv 0, iv 0, .slice none 0 0, iv 0, iv 0, .slice none 0 0]) [iv 1, sv ⟨#[]⟩, iv 0, iv 0, bV false, iv 0, sv ⟨#[]⟩, iv 0, iv 0, .slice none 0 0, iv 0, iv 0, .slice none 0 0] (wn rfl) rfl rfl rfl rfl zJM rfl rfl rfl (Tr.nil (Tr.zA (Tr.seq (Tr.sr (Tr.mv rfl rfl (Tr.va rfl (fun _ _ a c => zy zB8 (a.ev rfl)) (Tr.mv rfl rfl (Tr.nil (Tr.zA (Tr.block (Tr.loop (σ := (List zC) × Nat × Int × ByteArray × Int × Int × Bool × Int × ByteArray × Int × Int × (List zJ) × Int × Int × (List zC) × (Option Addr) × Nat × (Option Addr) × Nat) (fun m w s => m = s.1.length + 1 ∧ s.1 = List.drop s.2.1 p0 ∧ s.2.1 ≤ p0.length ∧ Vi p0 s.1 s.2.1 s.2.2.1 s.2.2.2.1 s.2.2.2.2.1 s.2.2.2.2.2.1 s.2.2.2.2.2.2.1 s.2.2.2.2.2.2.2.1 s.2.2.2.2.2.2.2.2.1 s.2.2.2.2.2.2.2.2.2.1 s.2.2.2.2.2.2.2.2.2.2.1 s.2.2.2.2.2.2.2.2.2.2.2.1 s.2.2.2.2.2.2.2.2.2.2.2.2.1 s.2.2.2.2.2.2.2.2.2.2.2.2.2.1 s.2.2.2.2.2.2.2.2.2.2.2.2.2.2.1 = some r ∧ Sl w.O w.W QD s.2.2.2.2.2.2.2.2.2.2.2.2.2.2.2.1 s.2.2.2.2.2.2.2.2.2.2.2.2.2.2.2.2.1 s.2.2.2.2.2.2.2.2.2.2.2.1 ∧ Sl w.O w.W zH s.2.2.2.2.2.2.2.2.2.2.2.2.2.2.2.2.2.1 s.2.2.2.2.2.2.2.2.2.2.2.2.2.2.2.2.2.2 s.2.2.2.2.2.2.2.2.2.2.2.2.2.2.1) (fun s => [(0, sL zF p0 zG), (3, pV zt), (7, sL zF p0 zG), (8, iv (p0.length : Int)), (9, iv (s.2.1 : Int))]) (fun s => [(1, bx zt #[iv s.2.2.1, sv s.2.2.2.1, iv s.2.2.2.2.1, iv s.2.2.2.2.2.1, bV s.2.2.2.2.2.2.1, iv s.2.2.2.2.2.2.2.1, sv s.2.2.2.2.2.2.2.2.1, iv s.2.2.2.2.2.2.2.2.2.1, iv s.2.2.2.2.2.2.2.2.2.2.1, sL s.2.2.2.2.2.2.2.2.2.2.2.2.2.2.2.1 s.2.2.2.2.2.2.2.2.2.2.2.1 s.2.2.2.2.2.2.2.2.2.2.2.2.2.2.2.2.1, iv s.2.2.2.2.2.2.2.2.2.2.2.2.1, iv s.2.2.2.2.2.2.2.2.2.2.2.2.2.1, sL s.2.2.2.2.2.2.2.2.2.2.2.2.2.2.2.2.2.1 s.2.2.2.2.2.2.2.2.2.2.2.2.2.2.1 s.2.2.2.2.2.2.2.2.2.2.2.2.2.2.2.2.2.2] 125)]) (p0.length + 1) (p0, 0, 1, ⟨#[]⟩, 0, 0, false, 0, ⟨#[]⟩, 0, 0, [], 0, 0, [], none, 0, none, 0) ⟨rfl, rfl, Nat.zero_le _, H, (Sl.nil _ _ _), (Sl.nil _ _ _)⟩ (.cons rfl (.cons rfl (.cons rfl (.cons rfl (.cons rfl .nil))))) (.cons rfl .nil) (fun _ _ h => absurd h.1 (by simp)) ?_)))))))))))))))))))
 intro w Qe m s hs
 obtain ⟨zV, iL1, x157, x158, x159, x160, zKY, zMg, zOg, zKt, zMf, zN2, x167, x168, zFk, zQA, zPu, zG9, zG0⟩ := s
 obtain ⟨KS, QG, hiL1, H, zXJ, zNj⟩ := hs
 replace QG : zV = List.drop iL1 p0 := QG
 replace H : Vi p0 zV iL1 x157 x158 x159 x160 zKY zMg zOg zKt zMf zN2 x167 x168 zFk = some r := H
 replace KS : m + 1 = zV.length + 1 := KS
 replace zP := zP.leR Qe
 replace leB := leB.trans Qe
 replace zXJ : Sl w.O w.W QD zQA zPu zN2 := zXJ
 replace zNj : Sl w.O w.W zH zG9 zG0 zFk := zNj
 obtain rfl : m = zV.length := by omega
 clear KS
 dsimp only
 cases zV with
 | nil =>
  rw [Vi.eq_1] at H
  refine Tr.sr (Tr.va rfl (fun _ _ a c => QE (a.ev rfl) (a.ev rfl)) (Tr.nil (Tr.zA (Tr.seq (Tr.WY rfl (JB QG) (Tr.exit (Tr.zi (Tr.zi (Tr.QL (Tr.zA (Tr.sr (Tr.asg rfl rfl (Tr.nil (Tr.zA (Tr.ret ?_)))))))))))))))
  obtain rfl := oI H
  exact Tr.out (m := [iv (-1)]) [] (zU rfl zT) (fun W hW => ⟨rfl, hW.low leB⟩)
 | cons xL1 zV =>
  rw [Vi.eq_2] at H
  refine Tr.sr (Tr.va rfl (fun _ _ a c => QE (a.ev rfl) (a.ev rfl)) (Tr.nil (Tr.zA (Tr.seq (Tr.WX rfl (JX QG) (Tr.skip (Tr.zA (Tr.seq (Tr.block (Tr.sr (Tr.mv rfl rfl ?_)))))))))))
  obtain ⟨znx, hRu170, zdb, hcu170⟩ := (zP).el (Js QG)
  obtain ⟨⟨zE2, zEu⟩, ⟨zE1, zEt⟩⟩ := znx
  obtain ⟨zKG, zKF⟩ := Kj.1 zdb
  replace zKG : Sl w.R w.W QD zE2 zEu xL1.Points := zKG
  replace zKF : Sl w.R w.W zH zE1 zEt xL1.Steps := zKF
  refine Tr.va rfl (fun _ _ a c => zK zEC (a.ev rfl) zP.form (a.ev rfl) (Int.natCast_nonneg _) (QC QG)) (Tr.va rfl (fun _ _ a c => zX (cs := [iv xL1.Kind, sv xL1.Name, iv xL1.At.X, iv xL1.At.Y, sL zE2 xL1.Points zEu, iv xL1.NX, iv xL1.NY, sL zE1 xL1.Steps zEt]) zGP zA2 (a.ev rfl) (zO.take (rdR hRu170 hcu170 c) 8) rfl) (Tr.alloc 4 (wn rfl) rfl zIn fun zo3 => (Tr.asg rfl rfl (Tr.store 4 (cs := [iv xL1.Kind, sv xL1.Name, iv xL1.At.X, iv xL1.At.Y, sL zE2 xL1.Points zEu, iv xL1.NX, iv xL1.NY, sL zE1 xL1.Steps zEt]) [iv xL1.Kind, sv xL1.Name, iv xL1.At.X, iv xL1.At.Y, sL zE2 xL1.Points zEu, iv xL1.NX, iv xL1.NY, sL zE1 xL1.Steps zEt] (wn rfl) rfl rfl rfl rfl zA2 rfl rfl rfl (Tr.nil (Tr.zA (Tr.seq (Tr.seq (Tr.draw (by kernel_rfl) (by kernel_rfl) (Tq.va rfl (fun _ _ a c => zX (cs := [iv xL1.Kind, sv xL1.Name, iv xL1.At.X, iv xL1.At.Y, sL zE2 xL1.Points zEu, iv xL1.NX, iv xL1.NY, sL zE1 xL1.Steps zEt]) zGP zA2 (a.ev rfl) (zO.take (rdb c (vs := [iv xL1.Kind, sv xL1.Name, iv xL1.At.X, iv xL1.At.Y, sL zE2 xL1.Points zEu, iv xL1.NX, iv xL1.NY, sL zE1 xL1.Steps zEt]) (k := 4) rfl 0) 8) rfl) (Tq.va rfl (fun _ _ a c => zX (cs := [iv x157, sv x158, iv x159, iv x160, bV zKY, iv zMg, sv zOg, iv zKt, iv zMf, sL zQA zN2 zPu, iv x167, iv x168, sL zG9 zFk zG0]) zSh zJM (a.ev rfl) (zO.take (rdb c (vs := [iv x157, sv x158, iv x159, iv x160, bV zKY, iv zMg, sv zOg, iv zKt, iv zMf, sL zQA zN2 zPu, iv x167, iv x168, sL zG9 zFk zG0]) (k := 1) rfl 0) 13) rfl) (Tq.mv rfl rfl (Tq.mv rfl rfl (Tq.va rfl (fun _ _ a c => QA (a.ev rfl) (a.ev rfl)) ?_))))))))))))))
  obtain ⟨zgR, zfE, H⟩ := bnd H
  refine Tq.va rfl (fun _ _ a c => zGD zEC (a.ev rfl) zP.form (a.ev rfl) zfE) ?_
  obtain ⟨zcp, zk4, H⟩ := bnd H
  refine Tq.Qs (r := (bV zcp)) (wn rfl) rfl Tryz.call69 (zI rfl (zI rfl (zI rfl zS))) (fun W hW => zLH xL1 zE2 zEu (zKG.ext hW.Qd) zE1 zEt (zKF.ext hW.Qd) (VK.mk x157 x158 (zJ.mk x159 x160) zKY (zC.mk zMg zOg (zJ.mk zKt zMf) zN2 x167 x168 zFk)) zQA zPu (zXJ.rl.ext hW.Qd) zG9 zG0 (zNj.rl.ext hW.Qd) zgR (zDh zF (w64 ((iL1 : Int) + 1)).toNat 8 zG) (zG - (w64 ((iL1 : Int) + 1)).toNat) (Sl.cut (zP.ext hW.Qd) zfE) zcp zk4 (HF.start _)) (Tq.nil (Tr.zA (Tr.cond rfl H (fun H => ?_) (fun H => ?_))))
  ·refine Tr.sr (Tr.mv rfl rfl (Tr.asg rfl rfl (Tr.nil (Tr.zA (Tr.ret (Tr.zg (Tr.QI (Tr.zg (Tr.zg (Tr.QI (Tr.zg ?_)))))))))))
   obtain rfl := oI H
   exact Tr.out (m := [iv (iL1 : Int)]) [] (zU rfl zT) (fun W hW => ⟨rfl, hW.low leB⟩)
  ·refine Tr.skip (Tr.zA (Tr.region (Tr.va rfl (fun _ _ a c => zX (cs := [iv x157, sv x158, iv x159, iv x160, bV zKY, iv zMg, sv zOg, iv zKt, iv zMf, sL zQA zN2 zPu, iv x167, iv x168, sL zG9 zFk zG0]) zSh zJM (a.ev rfl) (zO.take (rdb c (vs := [iv x157, sv x158, iv x159, iv x160, bV zKY, iv zMg, sv zOg, iv zKt, iv zMf, sL zQA zN2 zPu, iv x167, iv x168, sL zG9 zFk zG0]) (k := 1) rfl 0) 13) rfl) (Tr.va rfl (fun _ _ a c => zX (cs := [iv xL1.Kind, sv xL1.Name, iv xL1.At.X, iv xL1.At.Y, sL zE2 xL1.Points zEu, iv xL1.NX, iv xL1.NY, sL zE1 xL1.Steps zEt]) zGP zA2 (a.ev rfl) (zO.take (rdb c (vs := [iv xL1.Kind, sv xL1.Name, iv xL1.At.X, iv xL1.At.Y, sL zE2 xL1.Points zEu, iv xL1.NX, iv xL1.NY, sL zE1 xL1.Steps zEt]) (k := 4) rfl 0) 8) rfl) ?_))))
   obtain ⟨VG, zk3, H⟩ := bnd H
   refine Tr.VW [] [] (U := (Option Addr × Nat) × (Option Addr × Nat)) (fun u => (.agg #[iv VG.dark, sv VG.tool, iv VG.place.X, iv VG.place.Y, bV VG.placed, iv VG.last.Kind, sv VG.last.Name, iv VG.last.At.X, iv VG.last.At.Y, sL u.1.1 VG.last.Points u.1.2, iv VG.last.NX, iv VG.last.NY, sL u.2.1 VG.last.Steps u.2.2])) (fun O W u => Sl O W QD u.1.1 u.1.2 VG.last.Points ∧ Sl O W zH u.2.1 u.2.2 VG.last.Steps) (fun u => []) rfl zk (fun _ => rfl) (wn rfl) rfl Tryz.call70 (zI rfl (zI rfl zS)) (fun W hW hp hE => zHq (VK.mk x157 x158 (zJ.mk x159 x160) zKY (zC.mk zMg zOg (zJ.mk zKt zMf) zN2 x167 x168 zFk)) zQA zPu (zXJ.zAS (hW.JH hp)) zG9 zG0 (zNj.zAS (hW.JH hp)) xL1 zE2 zEu (zKG.ext (hW.JH hp)) zE1 zEt (zKF.ext (hW.JH hp)) VG zk3 hE) ?_
   intro w u zaN hu
   obtain ⟨⟨zOV, zOH⟩, ⟨zOU, zOG⟩⟩ := u
   obtain ⟨gy174_0, gy174_1⟩ := hu
   replace zP := zP.leR zaN
   replace hRu170 := zaN.r _ hRu170
   replace Qe := Qe.trans zaN
   have zba : Sl w.O w.W QD zOV zOH VG.last.Points := gy174_0 --@phi
   have zbZ : Sl w.O w.W zH zOU zOG VG.last.Steps := gy174_1 --@phi
   dsimp only
   exact Tr.store 1 (cs := [iv VG.dark, sv VG.tool, iv VG.place.X, iv VG.place.Y, bV VG.placed, iv VG.last.Kind, sv VG.last.Name, iv VG.last.At.X, iv VG.last.At.Y, sL zOV VG.last.Points zOH, iv VG.last.NX, iv VG.last.NY, sL zOU VG.last.Steps zOG]) [iv VG.dark, sv VG.tool, iv VG.place.X, iv VG.place.Y, bV VG.placed, iv VG.last.Kind, sv VG.last.Name, iv VG.last.At.X, iv VG.last.At.Y, sL zOV VG.last.Points zOH, iv VG.last.NX, iv VG.last.NY, sL zOU VG.last.Steps zOG] (wn rfl) rfl rfl rfl rfl zJM rfl rfl rfl (Tr.nil (Tr.zh (Tr.zA (Tr.region (Tr.va rfl (fun _ _ a c => QA (a.ev rfl) (a.ev rfl)) (Tr.mv rfl rfl (Tr.nil (Tr.zf Qe (zV, (iL1 + 1), VG.dark, VG.tool, VG.place.X, VG.place.Y, VG.placed, VG.last.Kind, VG.last.Name, VG.last.At.X, VG.last.At.Y, VG.last.Points, VG.last.NX, VG.last.NY, VG.last.Steps, zOV, zOH, zOU, zOG) ⟨rfl, Ql QG, QC QG, H, zba, zbZ⟩ (.cons rfl (.cons rfl (.cons rfl (.cons rfl (.cons (congrArg (fun z => some (Value.int .i64 z)) (Qk QG zP.form)) .nil))))) (.cons rfl .nil)))))))))

theorem zFu {w : Bs} (p0 : (List zC)) (zF : Option Addr) (zG : Nat) (p1 : Int) (p2 : Int) (r : (List zC)) (H : VB p0 p1 p2 = some r) (hE : HF w w.W (LEn [ow zF zG 46 zH p0])) : Calls Tryz.prog 13 [sL zF p0 zG, iv p1, iv p2].toArray w.W fun e W' => ∃ (w' : Bs) (u : (Option Addr × Nat)), w.Le w' ∧ e = .returned (sL u.1 r u.2) ∧ (SlF u.1 r.length u.2) ∧ HF w' W' (LEn [ow u.1 u.2 46 zH r]) := by
 unfold VB at H
 have zAc := (hE.sl (k := 0) rfl).form
 have leB := Bs.Le.refl w
 refine Tr.enter (n := 33) Tryz.func13 rfl rfl rfl hE (Tr.sr (Tr.asg rfl rfl (Tr.JY 1 46 zH ?_)))
 show Tr _ _ (uf _ 6 (sL none (([] : List zC)) 0)) _ _
 refine Tr.nil (Tr.zA (Tr.sr (Tr.mv rfl rfl (Tr.mv rfl rfl (Tr.mv rfl rfl (Tr.mv rfl rfl (Tr.va rfl (fun _ _ a c => zy zB8 (a.ev rfl)) ?_)))))))
 obtain ⟨zgW, zmI, H⟩ := bnd H
 refine Tr.va rfl (fun _ _ a c => zVK zEC (a.ev rfl) zAc (a.ev rfl) (a.ev rfl) (a.ev rfl) zmI) (Tr.nil (Tr.zA (Tr.seq (Tr.sr (Tr.mv rfl rfl (Tr.mv rfl rfl (Tr.va rfl (fun _ _ a c => Qa (a.ev rfl) (a.ev rfl)) (Tr.nil (Tr.zA (Tr.cond rfl H (fun H => ?_) (fun H => ?_)))))))))))
 ·refine Tr.sr (Tr.mv rfl rfl (Tr.asg rfl rfl (Tr.nil (Tr.zA (Tr.ret (Tr.zg ?_))))))
  obtain rfl := oI H
  exact Tr.out (m := [sL zF p0 zG]) [] (zU rfl zT) (fun W hW => ⟨w, (zF, zG), leB, rfl, zAc, hW.pick (ks := [0]) (by decide) (zR rfl zk)⟩)
 ·refine Tr.skip (Tr.zA (Tr.sr (Tr.mv rfl rfl (Tr.va rfl (fun _ _ a c => zy zB8 (a.ev rfl)) (Tr.asg rfl rfl (Tr.nil (Tr.zA (Tr.seq (Tr.Wj 6 (by kernel_rfl) (by kernel_rfl) (Tq.mv rfl rfl (Tq.mv rfl rfl ?_)))))))))))
  obtain ⟨Wq, zIt, H⟩ := bnd H
  refine Tq.va rfl (fun _ _ a c => zRu zEC (a.ev rfl) zAc (a.ev rfl) zIt) (Tq.mv rfl rfl (Tq.mv rfl rfl ?_))
  obtain ⟨zBw, zXL, H⟩ := bnd H
  refine Tq.va rfl (fun _ _ a c => zGD zEC (a.ev rfl) zAc (a.ev rfl) zXL) (Tq.nil ?_)
  obtain ⟨z103, zkP, H⟩ := bnd H
  have hjz103 := zaK zkP
  have hnz103 := zN9 zIt zXL hjz103
  have hpz103 := zdE zIt zXL hjz103
  refine Tr.zUh 0 (t := zH) (l := p0) (l1 := Wq) (l2 := zBw) (wn rfl) rfl rfl rfl rfl zIt zXL hjz103 zB8 zA2 ?_
  have zbp : SlF zF (shf Wq zBw p0).length zG := by rw [hnz103]; exact zAc
  have hsz103 := hnz103.trans rfl
  refine Tr.sel (lf := [(0, sL zF ((shf Wq zBw p0)) zG), (1, iv p1), (2, iv p2), (6, sL none (([] : List zC)) 0), (7, iv (p0.length : Int)), (8, sL zF ((shf Wq zBw p0)) zG), (9, iv p1), (10, iv p2), (11, sL zF ((shf Wq zBw p0)) zG), (12, iv (p0.length : Int)), (13, sL (zDh zF p1.toNat 8 p0.length) zgW (p0.length - p1.toNat)), (14, iv p1), (15, iv p2), (16, bV (p1 == p2)), (18, sL zF ((shf Wq zBw p0)) zG), (19, iv (p0.length : Int)), (20, sL zF ((shf Wq zBw p0)) zG), (21, iv p1), (23, sL zF ((shf Wq zBw p0)) zG), (24, iv p2), (26, sL zF ((Wq ++ zBw)) zG)]) (le := [(0, ow zF zG 46 zH (shf Wq zBw p0)), (1, ow none 0 46 zH ([] : List zC))]) (.cons (KM rfl (by unfold sL; rw [hnz103])) (.cons rfl (.cons rfl (.cons rfl (.cons rfl (.cons (KM rfl (by unfold sL; rw [hnz103])) (.cons rfl (.cons rfl (.cons (KM rfl (by unfold sL; rw [hnz103])) (.cons rfl (.cons rfl (.cons rfl (.cons rfl (.cons rfl (.cons (KM rfl (by unfold sL; rw [hnz103])) (.cons rfl (.cons (KM rfl (by unfold sL; rw [hnz103])) (.cons rfl (.cons (KM rfl (by unfold sL; rw [hnz103])) (.cons rfl (.cons rfl .nil))))))))))))))))))))) (.cons rfl (.cons rfl .nil)) (Tr.asg rfl rfl (Tr.nil (Tr.zA (Tr.sr (Tr.mv rfl rfl (Tr.mv rfl rfl (Tr.va rfl (fun _ _ a c => zy zB8 (a.ev rfl)) (Tr.mv rfl rfl ?_))))))))
  obtain ⟨zR8, zfI, H⟩ := bnd H
  refine Tr.va rfl (fun _ _ a c => zZx zEC (a.ev rfl) zbp (a.ev rfl) (a.ev rfl) zfI) ?_
  have hyhcl104 : cut (shf Wq zBw p0) ((Wq ++ zBw).length : Int) ((shf Wq zBw p0)).length = some zR8 := by rw [hsz103]; exact zfI
  have hnhcl104 := zSb (zC.mk 0 (⟨#[]⟩) (zJ.mk 0 0) [] 0 0 []) hyhcl104
  refine Tr.zUZ 0 (lo := ((Wq ++ zBw).length : Int)) (t := zH) (l := (shf Wq zBw p0)) (zC.mk 0 (⟨#[]⟩) (zJ.mk 0 0) [] 0 0 []) (wn rfl) rfl hyhcl104 rfl zB8 zIn ⟨((none, 0), (none, 0)), (Kj.2 ⟨(Sl.nil _ _ _), (Sl.nil _ _ _)⟩), rfl⟩ rfl rfl ?_
  have zbq : SlF zF ((clr (shf Wq zBw p0) ((Wq ++ zBw).length : Int) zR8.length (zC.mk 0 (⟨#[]⟩) (zJ.mk 0 0) [] 0 0 []))).length zG := by rw [hnhcl104]; exact zbp
  have hphcl104_0 := zOS (z := (zC.mk 0 (⟨#[]⟩) (zJ.mk 0 0) [] 0 0 [])) hyhcl104 hpz103
  have hphcl104_26 := zOS (z := (zC.mk 0 (⟨#[]⟩) (zJ.mk 0 0) [] 0 0 [])) hyhcl104 hpz103
  have hphcl104_27 := zOS (z := (zC.mk 0 (⟨#[]⟩) (zJ.mk 0 0) [] 0 0 [])) hyhcl104 hpz103
  have hphcl104_28 := zOS (z := (zC.mk 0 (⟨#[]⟩) (zJ.mk 0 0) [] 0 0 [])) hyhcl104 hpz103
  have hshcl104 := hnhcl104.trans hsz103
  refine Tr.sel (lf := [(0, sL zF ((Wq ++ zBw)) zG), (1, iv p1), (2, iv p2), (6, sL none (([] : List zC)) 0), (7, iv (p0.length : Int)), (8, sL zF ((clr (shf Wq zBw p0) ((Wq ++ zBw).length : Int) zR8.length (zC.mk 0 (⟨#[]⟩) (zJ.mk 0 0) [] 0 0 []))) zG), (9, iv p1), (10, iv p2), (11, sL zF ((clr (shf Wq zBw p0) ((Wq ++ zBw).length : Int) zR8.length (zC.mk 0 (⟨#[]⟩) (zJ.mk 0 0) [] 0 0 []))) zG), (12, iv (p0.length : Int)), (13, sL (zDh zF p1.toNat 8 p0.length) zgW (p0.length - p1.toNat)), (14, iv p1), (15, iv p2), (16, bV (p1 == p2)), (18, sL zF ((clr (shf Wq zBw p0) ((Wq ++ zBw).length : Int) zR8.length (zC.mk 0 (⟨#[]⟩) (zJ.mk 0 0) [] 0 0 []))) zG), (19, iv (p0.length : Int)), (20, sL zF ((clr (shf Wq zBw p0) ((Wq ++ zBw).length : Int) zR8.length (zC.mk 0 (⟨#[]⟩) (zJ.mk 0 0) [] 0 0 []))) zG), (21, iv p1), (23, sL zF ((clr (shf Wq zBw p0) ((Wq ++ zBw).length : Int) zR8.length (zC.mk 0 (⟨#[]⟩) (zJ.mk 0 0) [] 0 0 []))) zG), (24, iv p2), (26, sL zF ((Wq ++ zBw)) zG), (27, sL zF ((Wq ++ zBw)) zG), (28, sL zF ((Wq ++ zBw)) zG), (29, iv ((Wq ++ zBw).length : Int)), (30, iv (p0.length : Int))]) (le := [(0, ow zF zG 46 zH (clr (shf Wq zBw p0) ((Wq ++ zBw).length : Int) zR8.length (zC.mk 0 (⟨#[]⟩) (zJ.mk 0 0) [] 0 0 []))), (1, ow none 0 46 zH ([] : List zC))]) (.cons rfl (.cons rfl (.cons rfl (.cons rfl (.cons rfl (.cons (KM rfl (by unfold sL; rw [hnhcl104])) (.cons rfl (.cons rfl (.cons (KM rfl (by unfold sL; rw [hnhcl104])) (.cons rfl (.cons rfl (.cons rfl (.cons rfl (.cons rfl (.cons (KM rfl (by unfold sL; rw [hnhcl104])) (.cons rfl (.cons (KM rfl (by unfold sL; rw [hnhcl104])) (.cons rfl (.cons (KM rfl (by unfold sL; rw [hnhcl104])) (.cons rfl (.cons rfl (.cons rfl (.cons rfl (.cons rfl (.cons rfl .nil))))))))))))))))))))))))) (.cons rfl (.cons rfl .nil)) (Tr.nil (Tr.zA (Tr.sr (Tr.mv rfl rfl (Tr.asg rfl rfl (Tr.nil (Tr.zA (Tr.ret ?_))))))))
  obtain rfl := oI H
  exact Tr.zRt 0 hphcl104_0 rfl (Tr.out (m := [sL zF ((Wq ++ zBw)) zG]) [] (zU rfl zT) (fun W hW => ⟨w, (zF, zG), leB, rfl, (zLe zbq hphcl104_0), hW.pick (ks := [0]) (by decide) (zR rfl zk)⟩))

theorem zFX {w : Bs} (p0 : zQ) (bq0 : Nat) (hb0 : w.R bq0) (hc0 : zO w.W bq0 0 [.func (.func 39) #[] #[]]) (r : zQ) (H : Wh p0 = some r) (hE : HF w w.W E0) : Calls Tryz.prog 67 [.agg #[iv p0.X0, iv p0.Y0, iv p0.X1, iv p0.Y1], pV bq0].toArray w.W fun e W' => e = .returned (.agg #[iv r.X0, iv r.Y0, iv r.X1, iv r.Y1]) ∧ HF w W' E0 := by
 unfold Wh at H
 have leB := Bs.Le.refl w
 refine Tr.enter (n := 21) Tryz.func67 rfl rfl rfl hE (Tr.sr (Tr.box 1 (cs := [iv p0.X0, iv p0.Y0, iv p0.X1, iv p0.Y1]) (wn rfl) rfl rfl rfl fun zt => (Tr.alloc 2 (wn rfl) rfl zF5 fun Qg => (Tr.nil (Tr.zA (Tr.seq (Tr.Wj 15 (by kernel_rfl) (by kernel_rfl) (Tq.va rfl (fun _ _ a c => zD zRb (a.ev rfl) (rdR hb0 hc0 c) rfl) (Tq.va rfl (fun _ _ a c => zB zBG (a.ev rfl)) (Tq.va rfl (fun _ _ a c => zD QH (a.ev rfl) (rdb c (vs := [iv p0.X0, iv p0.Y0, iv p0.X1, iv p0.Y1]) (k := 1) rfl 0) rfl) ?_))))))))))
 obtain ⟨y102, hy102, H⟩ := bnd H
 refine Tq.zEV (r := (iv y102)) (wn rfl) rfl rfl Tryz.call39 (zI rfl zS) (fun W hW => zAM p0.X0 y102 hy102 (HF.start _)) (Tq.va rfl (fun _ _ a c => zD zRb (a.ev rfl) (rdR hb0 hc0 c) rfl) (Tq.va rfl (fun _ _ a c => zB zDX (a.ev rfl)) (Tq.va rfl (fun _ _ a c => zD QH (a.ev rfl) (rdb c (vs := [iv p0.X0, iv p0.Y0, iv p0.X1, iv p0.Y1]) (k := 1) rfl 1) rfl) ?_)))
 obtain ⟨zm, zCi, H⟩ := bnd H
 refine Tq.zEV (r := (iv zm)) (wn rfl) rfl rfl Tryz.call39 (zI rfl zS) (fun W hW => zAM p0.Y0 zm zCi (HF.start _)) (Tq.va rfl (fun _ _ a c => zD zRb (a.ev rfl) (rdR hb0 hc0 c) rfl) (Tq.va rfl (fun _ _ a c => zB zD9 (a.ev rfl)) (Tq.va rfl (fun _ _ a c => zD QH (a.ev rfl) (rdb c (vs := [iv p0.X0, iv p0.Y0, iv p0.X1, iv p0.Y1]) (k := 1) rfl 2) rfl) ?_)))
 obtain ⟨y104, hy104, H⟩ := bnd H
 refine Tq.zEV (r := (iv y104)) (wn rfl) rfl rfl Tryz.call39 (zI rfl zS) (fun W hW => zAM p0.X1 y104 hy104 (HF.start _)) (Tq.va rfl (fun _ _ a c => zD zRb (a.ev rfl) (rdR hb0 hc0 c) rfl) (Tq.va rfl (fun _ _ a c => zB zEp (a.ev rfl)) (Tq.va rfl (fun _ _ a c => zD QH (a.ev rfl) (rdb c (vs := [iv p0.X0, iv p0.Y0, iv p0.X1, iv p0.Y1]) (k := 1) rfl 3) rfl) (Tq.nil ?_))))
 obtain ⟨zCy, zPQ, H⟩ := bnd H
 refine Tr.zEV (r := (iv zCy)) (wn rfl) rfl rfl Tryz.call39 (zI rfl zS) (fun W hW => zAM p0.Y1 zCy zPQ (HF.start _)) (Tr.build (vs := [(0, iv y102), (1, iv zm), (2, iv y104), (3, iv zCy)]) (cs := [iv y102, iv zm, iv y104, iv zCy]) (wn rfl) rfl (zl rfl (zl rfl (zl rfl (zl rfl Qf)))) (by kernel_rfl) (Tr.store 2 (cs := [iv y102, iv zm, iv y104, iv zCy]) [iv y102, iv zm, iv y104, iv zCy] (wn rfl) rfl rfl rfl rfl VE rfl rfl rfl (Tr.nil (Tr.zA (Tr.ret ?_)))))
 obtain rfl := oI H
 exact Tr.out (m := [.agg #[iv y102, iv zm, iv y104, iv zCy]]) [2] (WR rfl rfl zBr VE zT) (fun W hW => ⟨rfl, hW.low leB⟩)

theorem zCt (N : Nat) {w : Bs} (p0 : (List zZ)) (zF : Option Addr) (zG : Nat) (zP : Sl w.O w.W zN zF zG p0) (bq0 : Nat) (hb0 : w.R bq0) (hc0 : zO w.W bq0 0 [.func (.func 39) #[] #[]]) (r : (List zZ)) (H : Je N p0 = some r) (hE : HF w w.W (LEn [emp])) : Calls Tryz.prog 63 [sL zF p0 zG, .func (.func 67) #[] #[pV bq0]].toArray w.W fun e W' => ∃ (w' : Bs) (u : (Option Addr × Nat)), w.Le w' ∧ e = .returned (sL u.1 r u.2) ∧ (SlF u.1 r.length u.2) ∧ HF w' W' (LEn [ow u.1 u.2 64 zN r]) := by
 unfold Je at H
 have leB := Bs.Le.refl w
 refine Tr.enter (n := 50) Tryz.func63 rfl rfl rfl hE (Tr.sr (Tr.asg rfl rfl (Tr.JY 1 64 zN ?_)))
 show Tr _ _ (uf _ 4 (sL none (([] : List zZ)) 0)) _ _
 refine Tr.nil (Tr.zA (Tr.sr (Tr.mv rfl rfl ?_)))
 obtain ⟨QK, zBE, H⟩ := bnd H
 refine Tr.VW [2] [emp] (U := (Option Addr × Nat)) (fun u => (sL u.1 QK u.2)) (fun O W u => SlF u.1 QK.length u.2) (fun u => [ow u.1 u.2 64 zN QK]) rfl (zR rfl zk) (fun _ => rfl) (wn rfl) rfl Tryz.call92 (zI rfl zS) (fun W hW hp hE => zCo p0 zF zG (zP.zAS (hW.JH hp)) QK zBE hE) ?_
 intro w u zER hu
 obtain ⟨JQ, JP⟩ := u
 have gy100_0 := hu
 replace hc0 := zER.ext.cells hb0 hc0
 replace hb0 := zER.r _ hb0
 replace leB := leB.trans zER
 have zBY : SlF JQ QK.length JP := gy100_0 --@phi
 dsimp only
 refine Tr.asg rfl rfl (Tr.nil (Tr.zA (Tr.seq (Tr.sr (Tr.mv rfl rfl (Tr.va rfl (fun _ _ a c => zy zIo (a.ev rfl)) (Tr.mv rfl rfl (Tr.nil (Tr.zA (Tr.block (Tr.loop (σ := (List zZ) × Int × (Option Addr) × Nat) (fun m w s => QJ QK m s.1 s.2.1 = some r ∧ SlF s.2.2.1 s.1.length s.2.2.2) (fun s => [(1, .func (.func 67) #[] #[pV bq0]), (5, sL s.2.2.1 s.1 s.2.2.2), (12, iv (QK.length : Int)), (13, iv s.2.1)]) (fun s => [(2, ow s.2.2.1 s.2.2.2 64 zN s.1)]) N (QK, 0, JQ, JP) ⟨H, zBY⟩ (.cons rfl (.cons rfl (.cons rfl (.cons rfl .nil)))) (.cons rfl .nil) (fun _ _ h => zAQ (h.1)) ?_)))))))))))
 intro w WL mL3 s hs
 obtain ⟨Wp, Vb, zAF, zBf⟩ := s
 obtain ⟨H, zFC⟩ := hs
 replace H : QJ QK (mL3 + 1) Wp Vb = some r := H
 replace hc0 := WL.ext.cells hb0 hc0
 replace hb0 := WL.r _ hb0
 replace leB := leB.trans WL
 replace zFC : SlF zAF Wp.length zBf := zFC
 rw [QJ.eq_2] at H
 dsimp only
 refine Tr.sr (Tr.va rfl (fun _ _ a c => QE (a.ev rfl) (a.ev rfl)) (Tr.nil (Tr.zA (Tr.seq (Tr.cond rfl H (fun H => ?_) (fun H => ?_))))))
 ·refine Tr.skip (Tr.zA (Tr.seq (Tr.block (Tr.sr (Tr.mv rfl rfl (Tr.asg rfl rfl (Tr.nil (Tr.zA (Tr.sr (Tr.mv rfl rfl (Tr.mv rfl rfl (Tr.mv rfl rfl (Tr.mv rfl rfl ?_)))))))))))))
  obtain ⟨zKs, za1, H⟩ := bnd H
  obtain ⟨zVy, zVx, zVw⟩ := zx za1
  refine Tr.va rfl (fun _ _ a c => zK zFF (a.ev rfl) zFC (a.ev rfl) zVy zVx) (Tr.va rfl (fun _ _ a c => zB zBx (a.ev rfl)) (Tr.zYf (U := (zN).Ad) (fun u => (zN).ok w.O w.W u zKs) (fun u => (sL u.1 zKs.Rects u.2)) (wn rfl) rfl (ldN (κ := 2) (t := zN) (V := fun u => (sL u.1 zKs.Rects u.2)) rfl zVw (fun _ _ u a hc => zD zHh (a.ev rfl) (hc.drop 1) rfl)) ?_))
  intro zfs zSB
  obtain ⟨zMX, zMD⟩ := zfs
  have zEe := zSB
  replace zEe : Sl w.O w.W zY zMX zMD zKs.Rects := zEe
  dsimp only
  obtain ⟨zAO, zTq, H⟩ := bnd H
  refine Tr.WB [11] [emp] (U := (Option Addr × Nat)) (fun u => (sL u.1 zAO u.2)) (fun u => SlF u.1 zAO.length u.2) (fun u => [ow u.1 u.2 36 zY zAO]) rfl (zR rfl zk) (fun _ => rfl) (wn rfl) rfl Tryz.call80 (zI rfl zS) (fun W hW hp hE => zB4 zKs.Rects zMX zMD (zEe.rl.ext (hW.JH hp)) zAO zTq hE) ?_
  intro u hu
  obtain ⟨zDA, zC5⟩ := u
  have gy188_0 := hu
  have zHX : SlF zDA zAO.length zC5 := gy188_0 --@phi
  dsimp only
  obtain ⟨zBW, za0, H⟩ := bnd H
  obtain ⟨zVv, zVu, zPR⟩ := zx za0
  refine Tr.va rfl (fun _ _ a c => zK zFF (a.ev rfl) zFC (a.ev rfl) zVv zVu) (Tr.va rfl (fun _ _ a c => zB zBx (a.ev rfl)) (Tr.zR0 2 rfl zPR ?_))
  intro zfr zSA
  obtain ⟨zSr, zSV⟩ := zfr
  have zYy := zSA
  show Tr _ _ _ (up _ 2 (ow zAF zBf 64 (mix zN) (zB9 Wp (Vb).toNat (raw zN [sv zBW.Name, sL zSr zBW.Rects zSV] rfl rfl)))) _
  refine Tr.zJS 2 (raw zN [sv zBW.Name, sL zDA zAO zC5] rfl rfl) (cs := [sL zDA zAO zC5]) (fo := 1) (wn rfl) rfl rfl rfl rfl rfl (List.getElem?_eq_some_iff.1 zPR).1 zep rfl rfl rfl ?_
  refine Tr.nil (Tr.zA (Tr.sr (Tr.mv rfl rfl (Tr.mv rfl rfl ?_))))
  obtain ⟨zfp, zaz, H⟩ := bnd H
  obtain ⟨zVt, zVs, zVr⟩ := zx zaz
  refine Tr.va rfl (fun _ _ a c => zK zFF (a.ev rfl) zFC (a.ev rfl) zVt zVs) (Tr.va rfl (fun _ _ a c => zB zBx (a.ev rfl)) (Tr.va rfl (fun _ _ a c => zD zHh (a.ev rfl) (zO.drop (rdm (cs := raw zN [sv zBW.Name, sL zDA zAO zC5] rfl rfl) c (κ := 2) rfl (List.getElem?_eq_some_iff.1 zVr).1) 1) rfl) ?_))
  refine Tr.va rfl (fun _ _ a c => zy zBQ (a.ev rfl)) (Tr.mv rfl rfl (Tr.nil (Tr.zA (Tr.block (Tr.loop (σ := (List zQ) × Nat × (List zQ) × (Option Addr) × Nat) (fun m w s => m = s.1.length + 1 ∧ s.1 = List.drop s.2.1 zAO ∧ s.2.1 ≤ zAO.length ∧ QZ Wp Vb (QJ QK mL3) zBW s.1 s.2.1 s.2.2.1 = some r ∧ SlF s.2.2.2.1 s.2.2.1.length s.2.2.2.2) (fun s => [(1, .func (.func 67) #[] #[pV bq0]), (5, sL zAF Wp zBf), (6, iv Vb), (12, iv (QK.length : Int)), (13, iv Vb), (30, sL s.2.2.2.1 s.2.2.1 s.2.2.2.2), (31, iv (zAO.length : Int)), (32, iv (s.2.1 : Int))]) (fun s => [(2, ow zAF zBf 64 (mix zN) (zB9 Wp (Vb).toNat (raw zN [sv zBW.Name, sL s.2.2.2.1 s.2.2.1 s.2.2.2.2] rfl rfl))), (11, ow s.2.2.2.1 s.2.2.2.2 36 zY s.2.2.1)]) (zAO.length + 1) (zAO, 0, zAO, zDA, zC5) ⟨rfl, rfl, Nat.zero_le _, H, zHX⟩ (.cons rfl (.cons rfl (.cons rfl (.cons rfl (.cons rfl (.cons rfl (.cons rfl (.cons rfl .nil)))))))) (.cons rfl (.cons rfl .nil)) (fun _ _ h => absurd h.1 (by simp)) ?_)))))
  intro w zDM m s hs
  obtain ⟨Ki, iL4, zCh, zDV, zDO⟩ := s
  obtain ⟨zK5, zCj, hiL4, H, zJd⟩ := hs
  replace zCj : Ki = List.drop iL4 zAO := zCj
  replace H : QZ Wp Vb (QJ QK mL3) zBW Ki iL4 zCh = some r := H
  replace zK5 : m + 1 = Ki.length + 1 := zK5
  replace hc0 := zDM.ext.cells hb0 hc0
  replace hb0 := zDM.r _ hb0
  replace WL := WL.trans zDM
  replace zJd : SlF zDV zCh.length zDO := zJd
  obtain rfl : m = Ki.length := by omega
  clear zK5
  dsimp only
  cases Ki with
  | nil =>
   rw [QZ.eq_1] at H
   refine Tr.sr (Tr.va rfl (fun _ _ a c => QE (a.ev rfl) (a.ev rfl)) (Tr.nil (Tr.zA (Tr.seq (Tr.WY rfl (JB zCj) (Tr.exit (Tr.zi (Tr.zi (Tr.QL (Tr.zh (Tr.zA (Tr.region (Tr.va rfl (fun _ _ a c => QA (a.ev rfl) (a.ev rfl)) (Tr.mv rfl rfl (Tr.nil (Tr.freeze 11 rfl fun w zW5 zad => ?_))))))))))))))))
   replace WL := WL.trans zW5
   refine Tr.zPC 2 rfl ((zDV, zDO)) (zZ.mk zBW.Name zCh) zad rfl ?_
   have zTz : ((Wp).set (Vb).toNat (zZ.mk zBW.Name zCh)).length = Wp.length := List.length_set
   have zSL : SlF zAF ((Wp).set (Vb).toNat (zZ.mk zBW.Name zCh)).length zBf := by rw [zTz]; exact zFC
   exact Tr.sel (lf := [(1, .func (.func 67) #[] #[pV bq0]), (5, sL zAF (((Wp).set (Vb).toNat (zZ.mk zBW.Name zCh))) zBf), (6, iv Vb), (12, iv (QK.length : Int)), (13, iv (w64 (Vb + 1))), (30, sL zDV zCh zDO), (31, iv (zAO.length : Int)), (32, iv (iL4 : Int)), (33, bV (decide ((iL4 : Int) < (zAO.length : Int)))), (48, iv (w64 (Vb + 1)))]) (le := [(2, ow zAF zBf 64 zN ((Wp).set (Vb).toNat (zZ.mk zBW.Name zCh)))]) (.cons rfl (.cons (KM rfl (by unfold sL; rw [zTz])) (.cons rfl (.cons rfl (.cons rfl (.cons rfl (.cons rfl (.cons rfl (.cons rfl (.cons rfl .nil)))))))))) (.cons rfl .nil) (Tr.zf WL (((Wp).set (Vb).toNat (zZ.mk zBW.Name zCh)), (w64 (Vb + 1)), zAF, zBf) ⟨H, zSL⟩ (.cons rfl (.cons rfl (.cons rfl (.cons rfl .nil)))) (.cons rfl .nil))
  | cons xL4 Ki =>
   rw [QZ.eq_2] at H
   refine Tr.sr (Tr.va rfl (fun _ _ a c => QE (a.ev rfl) (a.ev rfl)) (Tr.nil (Tr.zA (Tr.seq (Tr.WX rfl (JX zCj) (Tr.skip (Tr.zA (Tr.seq (Tr.block (Tr.sr (Tr.mv rfl rfl ?_)))))))))))
   obtain ⟨VH, zay, H⟩ := bnd H
   obtain ⟨zVq, zVp, zVo⟩ := zx zay
   refine Tr.va rfl (fun _ _ a c => zK zCl (a.ev rfl) zJd (a.ev rfl) zVq zVp) (Tr.va rfl (fun _ _ a c => zX (cs := [iv VH.X0, iv VH.Y0, iv VH.X1, iv VH.Y1]) zBr VE (a.ev rfl) (zO.take (rdo WA (k := 11) c rfl zVo) 4) rfl) (Tr.alloc 14 (wn rfl) rfl zF5 fun zcR => (Tr.asg rfl rfl (Tr.store 14 (cs := [iv VH.X0, iv VH.Y0, iv VH.X1, iv VH.Y1]) [iv VH.X0, iv VH.Y0, iv VH.X1, iv VH.Y1] (wn rfl) rfl rfl rfl rfl VE rfl rfl rfl (Tr.nil (Tr.zA (Tr.Wj 9 (by kernel_rfl) (by kernel_rfl) (Tq.mv rfl rfl (Tq.mv rfl rfl ?_)))))))))
   obtain ⟨zfo, zax, H⟩ := bnd H
   obtain ⟨zVn, zVm, zVl⟩ := zx zax
   refine Tq.va rfl (fun _ _ a c => zK zFF (a.ev rfl) zFC (a.ev rfl) zVn zVm) (Tq.va rfl (fun _ _ a c => zB zBx (a.ev rfl)) (Tq.va rfl (fun _ _ a c => zD zHh (a.ev rfl) (zO.drop (rdm (cs := raw zN [sv zBW.Name, sL zDV zCh zDO] rfl rfl) c (κ := 2) rfl (List.getElem?_eq_some_iff.1 zVl).1) 1) rfl) ?_))
   refine Tq.mv rfl rfl (Tq.mv rfl rfl (Tq.va rfl (fun _ _ a c => zX (cs := [iv VH.X0, iv VH.Y0, iv VH.X1, iv VH.Y1]) zBr VE (a.ev rfl) (zO.take (rdb c (vs := [iv VH.X0, iv VH.Y0, iv VH.X1, iv VH.Y1]) (k := 14) rfl 0) 4) rfl) ?_))
   obtain ⟨zCN, zTp, H⟩ := bnd H
   refine Tq.zEV (r := (.agg #[iv zCN.X0, iv zCN.Y0, iv zCN.X1, iv zCN.Y1])) (wn rfl) rfl rfl Tryz.call67 (zI rfl zS) (fun W hW => zFX VH bq0 (hW.Qd.r _ hb0) (hW.Qd.cells hb0 hc0) zCN zTp (HF.start _)) (Tq.nil ?_)
   obtain ⟨zfn, zaw, H⟩ := bnd H
   obtain ⟨zVk, zVj, zVi⟩ := zx zaw
   refine Tr.va rfl (fun _ _ a c => zK zCl (a.ev rfl) zJd (a.ev rfl) zVk zVj) ?_
   obtain ⟨zJY, zT4, H⟩ := bnd H
   have zID := zD5 zT4
   refine Tr.zEm 11 (t := zY) (l := zCh) (i := (iL4 : Int)) (fo := 0) (cs := [iv zCN.X0, iv zCN.Y0, iv zCN.X1, iv zCN.Y1]) zCN (wn rfl) rfl rfl rfl rfl rfl zVi VE rfl (fun u _ => ⟨u, trivial, rfl⟩) rfl zT4 ?_
   have zWI : SlF zDV zJY.length zDO := by rw [zID]; exact zJd
   exact Tr.sel (lf := [(1, .func (.func 67) #[] #[pV bq0]), (5, sL zAF Wp zBf), (6, iv Vb), (7, iv (iL4 : Int)), (8, pV zcR), (12, iv (QK.length : Int)), (13, iv Vb), (30, sL zDV zJY zDO), (31, iv (zAO.length : Int)), (32, iv (iL4 : Int)), (33, bV (decide ((iL4 : Int) < (zAO.length : Int)))), (34, iv (iL4 : Int)), (36, .agg #[iv VH.X0, iv VH.Y0, iv VH.X1, iv VH.Y1]), (37, sL zAF Wp zBf), (38, iv Vb), (39, .pointer (some ⟨adB zAF, adO zAF + (Vb).toNat * 2, none⟩)), (40, .pointer (some ⟨adB zAF, adO zAF + (Vb).toNat * 2 + 1, none⟩)), (41, sL zDV zJY zDO), (42, iv (iL4 : Int)), (43, .func (.func 67) #[] #[pV bq0]), (44, .agg #[iv VH.X0, iv VH.Y0, iv VH.X1, iv VH.Y1]), (45, .agg #[iv zCN.X0, iv zCN.Y0, iv zCN.X1, iv zCN.Y1])]) (le := [(2, ow zAF zBf 64 (mix zN) (zB9 Wp (Vb).toNat (raw zN [sv zBW.Name, sL zDV zJY zDO] rfl rfl))), (11, ow zDV zDO 36 zY zJY), (14, bx zcR #[iv VH.X0, iv VH.Y0, iv VH.X1, iv VH.Y1] 36)]) (.cons rfl (.cons rfl (.cons rfl (.cons rfl (.cons rfl (.cons rfl (.cons rfl (.cons (KM rfl (by unfold sL; rw [zID])) (.cons rfl (.cons rfl (.cons rfl (.cons rfl (.cons rfl (.cons rfl (.cons rfl (.cons rfl (.cons rfl (.cons (KM rfl (by unfold sL; rw [zID])) (.cons rfl (.cons rfl (.cons rfl (.cons rfl .nil)))))))))))))))))))))) (.cons (zeD rfl (by unfold sL; rw [zID])) (.cons rfl (.cons rfl .nil))) (Tr.nil (Tr.zh (Tr.zA (Tr.region (Tr.va rfl (fun _ _ a c => QA (a.ev rfl) (a.ev rfl)) (Tr.mv rfl rfl (Tr.nil (Tr.zf zDM (Ki, (iL4 + 1), zJY, zDV, zDO) ⟨rfl, Ql zCj, QC zCj, H, zWI⟩ (.cons rfl (.cons rfl (.cons rfl (.cons rfl (.cons rfl (.cons rfl (.cons rfl (.cons (congrArg (fun z => some (Value.int .i64 z)) (Qk zCj zHX)) .nil)))))))) (.cons rfl (.cons rfl .nil))))))))))
 ·refine Tr.exit (Tr.zi (Tr.zi (Tr.QL (Tr.zA (Tr.sr (Tr.mv rfl rfl (Tr.asg rfl rfl (Tr.nil (Tr.zA (Tr.ret ?_))))))))))
  obtain rfl := oI H
  exact Tr.out (m := [sL zAF Wp zBf]) [] (zU rfl zT) (fun W hW => ⟨w, (zAF, zBf), leB, rfl, zFC, hW.pick (ks := [2]) (by decide) (zR rfl zk)⟩)

theorem zCG {w : Bs} (p0 : zJ) (bq0 : Nat) (hb0 : w.R bq0) (hc0 : zO w.W bq0 0 [.func (.func 39) #[] #[]]) (r : zJ) (H : VY p0 = some r) (hE : HF w w.W E0) : Calls Tryz.prog 66 [.agg #[iv p0.X, iv p0.Y], pV bq0].toArray w.W fun e W' => e = .returned (.agg #[iv r.X, iv r.Y]) ∧ HF w W' E0 := by
 unfold VY at H
 have leB := Bs.Le.refl w
 refine Tr.enter (n := 13) Tryz.func66 rfl rfl rfl hE (Tr.sr (Tr.box 1 (cs := [iv p0.X, iv p0.Y]) (wn rfl) rfl rfl rfl fun zt => (Tr.alloc 2 (wn rfl) rfl zJJ fun Qg => (Tr.nil (Tr.zA (Tr.seq (Tr.Wj 7 (by kernel_rfl) (by kernel_rfl) (Tq.va rfl (fun _ _ a c => zD zRb (a.ev rfl) (rdR hb0 hc0 c) rfl) (Tq.va rfl (fun _ _ a c => zB Kq (a.ev rfl)) (Tq.va rfl (fun _ _ a c => zD QH (a.ev rfl) (rdb c (vs := [iv p0.X, iv p0.Y]) (k := 1) rfl 0) rfl) ?_))))))))))
 obtain ⟨y102, hy102, H⟩ := bnd H
 refine Tq.zEV (r := (iv y102)) (wn rfl) rfl rfl Tryz.call39 (zI rfl zS) (fun W hW => zAM p0.X y102 hy102 (HF.start _)) (Tq.va rfl (fun _ _ a c => zD zRb (a.ev rfl) (rdR hb0 hc0 c) rfl) (Tq.va rfl (fun _ _ a c => zB KY (a.ev rfl)) (Tq.va rfl (fun _ _ a c => zD QH (a.ev rfl) (rdb c (vs := [iv p0.X, iv p0.Y]) (k := 1) rfl 1) rfl) (Tq.nil ?_))))
 obtain ⟨zm, zCi, H⟩ := bnd H
 refine Tr.zEV (r := (iv zm)) (wn rfl) rfl rfl Tryz.call39 (zI rfl zS) (fun W hW => zAM p0.Y zm zCi (HF.start _)) (Tr.build (vs := [(0, iv y102), (1, iv zm)]) (cs := [iv y102, iv zm]) (wn rfl) rfl (zl rfl (zl rfl Qf)) (by kernel_rfl) (Tr.store 2 (cs := [iv y102, iv zm]) [iv y102, iv zm] (wn rfl) rfl rfl rfl rfl JL rfl rfl rfl (Tr.nil (Tr.zA (Tr.ret ?_)))))
 obtain rfl := oI H
 exact Tr.out (m := [.agg #[iv y102, iv zm]]) [2] (WR rfl rfl KT JL zT) (fun W hW => ⟨rfl, hW.low leB⟩)

theorem zCa {w : Bs} (p0 : zC) (zF : Option Addr) (zG : Nat) (zM : Option Addr) (zL : Nat) (QW : Sl w.R w.W zH zM zL p0.Steps) (Ae0 : Option Addr) (ce0 : Nat) (le0 : List zC) (ie0 : Nat) (hi0 : ie0 < le0.length) (bq0 : Nat) (bq1 : Nat) (hb0 : w.R bq0) (hc0 : zO w.W bq0 0 [.func (.func 66) #[] #[pV bq1]]) (hb1 : w.R bq1) (hc1 : zO w.W bq1 0 [.func (.func 39) #[] #[]]) (r : (Int × Int × (List zJ))) (H : JZ p0 = some r) (hE : HF w w.W (LEn [ow Ae0 ce0 46 (mix zH) (zB9 le0 ie0 (raw zH [iv p0.Kind, sv p0.Name, iv p0.At.X, iv p0.At.Y, sL zF p0.Points zG, iv p0.NX, iv p0.NY, sL zM p0.Steps zL] rfl rfl)), ow zF zG 43 QD p0.Points])) : Calls Tryz.prog 68 [.pointer (some ⟨adB Ae0, adO Ae0 + ie0 * 8, none⟩), pV bq0].toArray w.W fun e W' => ∃ (w' : Bs) (u : Unit), w.Le w' ∧ e = .returned (.tuple #[]) ∧ (r.2.2.length = p0.Points.length) ∧ HF w' W' (LEn [ow Ae0 ce0 46 (mix zH) (zB9 le0 ie0 (raw zH [iv p0.Kind, sv p0.Name, iv r.1, iv r.2.1, sL zF r.2.2 zG, iv p0.NX, iv p0.NY, sL zM p0.Steps zL] rfl rfl)), ow zF zG 43 QD r.2.2]) := by
 unfold JZ at H
 have zAc := (hE.sl (k := 1) rfl).form
 have leB := Bs.Le.refl w
 refine Tr.enter (n := 37) Tryz.func68 rfl rfl rfl hE (Tr.seq (Tr.Wj 7 (by kernel_rfl) (by kernel_rfl) (Tq.mv rfl rfl (Tq.va rfl (fun _ _ a c => zD zcY (a.ev rfl) (rdR hb0 hc0 c) rfl) (Tq.mv rfl rfl (Tq.va rfl (fun _ _ a c => QF (a.ev rfl)) (Tq.va rfl (fun _ _ a c => zB WK (a.ev rfl)) (Tq.va rfl (fun _ _ a c => zX (cs := [iv p0.At.X, iv p0.At.Y]) KT JL (a.ev rfl) (zO.take (zO.drop (rdm (cs := raw zH [iv p0.Kind, sv p0.Name, iv p0.At.X, iv p0.At.Y, sL zF p0.Points zG, iv p0.NX, iv p0.NY, sL zM p0.Steps zL] rfl rfl) c (κ := 0) rfl hi0) 2) 2) rfl) ?_))))))))
 obtain ⟨QK, zBE, H⟩ := bnd H
 refine Tq.zEV (r := (.agg #[iv QK.X, iv QK.Y])) (wn rfl) rfl rfl Tryz.call66 (zI rfl zS) (fun W hW => zCG p0.At bq1 (hW.Qd.r _ hb1) (hW.Qd.cells hb1 hc1) QK zBE (HF.start _)) (Tq.nil (Tr.va rfl (fun _ _ a c => QF (a.ev rfl)) (Tr.va rfl (fun _ _ a c => zB WK (a.ev rfl)) (Tr.zJS 0 (raw zH [iv p0.Kind, sv p0.Name, iv QK.X, iv QK.Y, sL zF p0.Points zG, iv p0.NX, iv p0.NY, sL zM p0.Steps zL] rfl rfl) (cs := [iv QK.X, iv QK.Y]) (fo := 2) (wn rfl) rfl rfl rfl rfl rfl hi0 JL rfl rfl rfl (Tr.nil (Tr.zA (Tr.sr (Tr.mv rfl rfl (Tr.va rfl (fun _ _ a c => QF (a.ev rfl)) (Tr.va rfl (fun _ _ a c => zB zAu (a.ev rfl)) (Tr.va rfl (fun _ _ a c => zD zFI (a.ev rfl) (zO.drop (rdm (cs := raw zH [iv p0.Kind, sv p0.Name, iv QK.X, iv QK.Y, sL zF p0.Points zG, iv p0.NX, iv p0.NY, sL zM p0.Steps zL] rfl rfl) c (κ := 0) rfl hi0) 4) rfl) (Tr.va rfl (fun _ _ a c => zy zEQ (a.ev rfl)) (Tr.mv rfl rfl (Tr.nil (Tr.zA (Tr.block (Tr.loop (σ := (List zJ) × Nat × (List zJ)) (fun m w s => m = s.1.length + 1 ∧ s.1 = List.drop s.2.1 p0.Points ∧ s.2.1 ≤ p0.Points.length ∧ QY QK s.1 s.2.1 s.2.2 = some r ∧ s.2.2.length = p0.Points.length) (fun s => [(0, .pointer (some ⟨adB Ae0, adO Ae0 + ie0 * 8, none⟩)), (1, pV bq0), (17, iv (p0.Points.length : Int)), (18, iv (s.2.1 : Int))]) (fun s => [(0, ow Ae0 ce0 46 (mix zH) (zB9 le0 ie0 (raw zH [iv p0.Kind, sv p0.Name, iv QK.X, iv QK.Y, sL zF s.2.2 zG, iv p0.NX, iv p0.NY, sL zM p0.Steps zL] rfl rfl))), (1, ow zF zG 43 QD s.2.2)]) (p0.Points.length + 1) (p0.Points, 0, p0.Points) ⟨rfl, rfl, Nat.zero_le _, H, rfl⟩ (.cons rfl (.cons rfl (.cons rfl (.cons rfl .nil)))) (.cons rfl (.cons rfl .nil)) (fun _ _ h => absurd h.1 (by simp)) ?_)))))))))))))))))
 intro w Qe m s hs
 obtain ⟨zV, iL1, zD8⟩ := s
 obtain ⟨KS, QG, hiL1, H, zLs⟩ := hs
 replace QG : zV = List.drop iL1 p0.Points := QG
 replace H : QY QK zV iL1 zD8 = some r := H
 replace KS : m + 1 = zV.length + 1 := KS
 replace hc0 := Qe.ext.cells hb0 hc0
 replace hb0 := Qe.r _ hb0
 replace hc1 := Qe.ext.cells hb1 hc1
 replace hb1 := Qe.r _ hb1
 replace leB := leB.trans Qe
 replace zLs : zD8.length = p0.Points.length := zLs
 have zWJ : SlF zF zD8.length zG := (by rw [zLs]; exact zAc)
 obtain rfl : m = zV.length := by omega
 clear KS
 dsimp only
 cases zV with
 | nil =>
  rw [QY.eq_1] at H
  refine Tr.sr (Tr.va rfl (fun _ _ a c => QE (a.ev rfl) (a.ev rfl)) (Tr.nil (Tr.zA (Tr.seq (Tr.WY rfl (JB QG) (Tr.exit (Tr.zi (Tr.zi (Tr.QL (Tr.zZ4 ?_))))))))))
  obtain rfl := oI H
  exact Tr.out (m := []) [] zT (fun W hW => ⟨w, (), leB, rfl, zLs, hW.pick (ks := [0, 1]) (by decide) (zR rfl (zR rfl zk))⟩)
 | cons xL1 zV =>
  rw [QY.eq_2] at H
  refine Tr.sr (Tr.va rfl (fun _ _ a c => QE (a.ev rfl) (a.ev rfl)) (Tr.nil (Tr.zA (Tr.seq (Tr.WX rfl (JX QG) (Tr.skip (Tr.zA (Tr.seq (Tr.block (Tr.sr (Tr.mv rfl rfl (Tr.asg rfl rfl (Tr.nil (Tr.zA (Tr.Wj 14 (by kernel_rfl) (by kernel_rfl) (Tq.mv rfl rfl (Tq.va rfl (fun _ _ a c => QF (a.ev rfl)) (Tq.va rfl (fun _ _ a c => zB zAu (a.ev rfl)) (Tq.va rfl (fun _ _ a c => zD zFI (a.ev rfl) (zO.drop (rdm (cs := raw zH [iv p0.Kind, sv p0.Name, iv QK.X, iv QK.Y, sL zF zD8 zG, iv p0.NX, iv p0.NY, sL zM p0.Steps zL] rfl rfl) c (κ := 0) rfl hi0) 4) rfl) (Tq.mv rfl rfl (Tq.va rfl (fun _ _ a c => zD zcY (a.ev rfl) (rdR hb0 hc0 c) rfl) (Tq.mv rfl rfl (Tq.va rfl (fun _ _ a c => QF (a.ev rfl)) (Tq.va rfl (fun _ _ a c => zB zAu (a.ev rfl)) (Tq.va rfl (fun _ _ a c => zD zFI (a.ev rfl) (zO.drop (rdm (cs := raw zH [iv p0.Kind, sv p0.Name, iv QK.X, iv QK.Y, sL zF zD8 zG, iv p0.NX, iv p0.NY, sL zM p0.Steps zL] rfl rfl) c (κ := 0) rfl hi0) 4) rfl) (Tq.mv rfl rfl ?_))))))))))))))))))))))))))
  obtain ⟨zKZ, zlq, H⟩ := bnd H
  obtain ⟨ziV, ziU, ziT⟩ := zx zlq
  refine Tq.va rfl (fun _ _ a c => zK zGN (a.ev rfl) zWJ (a.ev rfl) ziV ziU) (Tq.va rfl (fun _ _ a c => zX (cs := [iv zKZ.X, iv zKZ.Y]) KT JL (a.ev rfl) (zO.take (rdo zAj (k := 1) c rfl ziT) 2) rfl) ?_)
  obtain ⟨zE6, zTt, H⟩ := bnd H
  refine Tq.zEV (r := (.agg #[iv zE6.X, iv zE6.Y])) (wn rfl) rfl rfl Tryz.call66 (zI rfl zS) (fun W hW => zCG zKZ bq1 (hW.Qd.r _ hb1) (hW.Qd.cells hb1 hc1) zE6 zTt (HF.start _)) (Tq.nil ?_)
  obtain ⟨VI, za7, H⟩ := bnd H
  obtain ⟨zV9, zV8, hx1182⟩ := zx za7
  refine Tr.va rfl (fun _ _ a c => zK zGN (a.ev rfl) zWJ (a.ev rfl) zV9 zV8) ?_
  obtain ⟨zGh, zQy, H⟩ := bnd H
  have zPc := zD5 zQy
  refine Tr.zEm 1 (t := QD) (l := zD8) (i := (iL1 : Int)) (fo := 0) (cs := [iv zE6.X, iv zE6.Y]) zE6 (wn rfl) rfl rfl rfl rfl rfl hx1182 JL rfl (fun u _ => ⟨u, trivial, rfl⟩) rfl zQy ?_
  have zoS : SlF zF zGh.length zG := by rw [zPc]; exact zWJ
  have hsl119 := zPc.trans zLs
  exact Tr.sel (lf := [(0, .pointer (some ⟨adB Ae0, adO Ae0 + ie0 * 8, none⟩)), (1, pV bq0), (3, iv (iL1 : Int)), (17, iv (p0.Points.length : Int)), (18, iv (iL1 : Int)), (19, bV (decide ((iL1 : Int) < (p0.Points.length : Int)))), (20, iv (iL1 : Int)), (21, .pointer (some ⟨adB Ae0, adO Ae0 + ie0 * 8, none⟩)), (22, .pointer (some ⟨adB Ae0, adO Ae0 + ie0 * 8, none⟩)), (23, .pointer (some ⟨adB Ae0, adO Ae0 + ie0 * 8 + 4, none⟩)), (24, sL zF zGh zG), (25, iv (iL1 : Int)), (26, .func (.func 66) #[] #[pV bq1]), (27, .pointer (some ⟨adB Ae0, adO Ae0 + ie0 * 8, none⟩)), (28, .pointer (some ⟨adB Ae0, adO Ae0 + ie0 * 8, none⟩)), (29, .pointer (some ⟨adB Ae0, adO Ae0 + ie0 * 8 + 4, none⟩)), (30, sL zF zGh zG), (31, iv (iL1 : Int)), (33, .agg #[iv zKZ.X, iv zKZ.Y]), (34, .agg #[iv zE6.X, iv zE6.Y])]) (le := [(0, ow Ae0 ce0 46 (mix zH) (zB9 le0 ie0 (raw zH [iv p0.Kind, sv p0.Name, iv QK.X, iv QK.Y, sL zF zGh zG, iv p0.NX, iv p0.NY, sL zM p0.Steps zL] rfl rfl))), (1, ow zF zG 43 QD zGh)]) (.cons rfl (.cons rfl (.cons rfl (.cons rfl (.cons rfl (.cons rfl (.cons rfl (.cons rfl (.cons rfl (.cons rfl (.cons (KM rfl (by unfold sL; rw [zPc])) (.cons rfl (.cons rfl (.cons rfl (.cons rfl (.cons rfl (.cons (KM rfl (by unfold sL; rw [zPc])) (.cons rfl (.cons rfl (.cons rfl .nil)))))))))))))))))))) (.cons (zeD rfl (by unfold sL; rw [zPc])) (.cons rfl .nil)) (Tr.nil (Tr.zh (Tr.zA (Tr.region (Tr.va rfl (fun _ _ a c => QA (a.ev rfl) (a.ev rfl)) (Tr.mv rfl rfl (Tr.nil (Tr.zf Qe (zV, (iL1 + 1), zGh) ⟨rfl, Ql QG, QC QG, H, hsl119⟩ (.cons rfl (.cons rfl (.cons rfl (.cons (congrArg (fun z => some (Value.int .i64 z)) (Qk QG zAc)) .nil)))) (.cons rfl (.cons rfl .nil))))))))))

theorem zBP (N : Nat) (rec : (List zC) → Option (List zC)) (hrec : ∀ {w : Bs} (p0 : (List zC)) (zF : Option Addr) (zG : Nat) (zP : Sl w.O w.W zH zF zG p0) (bq0 : Nat) (bq1 : Nat) (hb0 : w.R bq0) (hc0 : zO w.W bq0 0 [.func (.func 66) #[] #[pV bq1]]) (hb1 : w.R bq1) (hc1 : zO w.W bq1 0 [.func (.func 39) #[] #[]]) (r : (List zC)) (H : rec p0 = some r) (hE : HF w w.W (LEn [emp])), Calls Tryz.prog 33 [sL zF p0 zG, .func (.func 68) #[] #[pV bq0]].toArray w.W fun e W' => ∃ (w' : Bs) (u : (Option Addr × Nat)), w.Le w' ∧ e = .returned (sL u.1 r u.2) ∧ (SlF u.1 r.length u.2) ∧ HF w' W' (LEn [ow u.1 u.2 46 zH r])) {w : Bs} (p0 : (List zC)) (zF : Option Addr) (zG : Nat) (zP : Sl w.O w.W zH zF zG p0) (bq0 : Nat) (bq1 : Nat) (hb0 : w.R bq0) (hc0 : zO w.W bq0 0 [.func (.func 66) #[] #[pV bq1]]) (hb1 : w.R bq1) (hc1 : zO w.W bq1 0 [.func (.func 39) #[] #[]]) (r : (List zC)) (H : Qy N rec p0 = some r) (hE : HF w w.W (LEn [emp])) : Calls Tryz.prog 33 [sL zF p0 zG, .func (.func 68) #[] #[pV bq0]].toArray w.W fun e W' => ∃ (w' : Bs) (u : (Option Addr × Nat)), w.Le w' ∧ e = .returned (sL u.1 r u.2) ∧ (SlF u.1 r.length u.2) ∧ HF w' W' (LEn [ow u.1 u.2 46 zH r]) := by
 unfold Qy at H
 have leB := Bs.Le.refl w
 refine Tr.enter (n := 42) Tryz.func33 rfl rfl rfl hE (Tr.sr (Tr.asg rfl rfl (Tr.JY 1 46 zH ?_)))
 show Tr _ _ (uf _ 4 (sL none (([] : List zC)) 0)) _ _
 refine Tr.nil (Tr.zA (Tr.sr (Tr.mv rfl rfl ?_)))
 obtain ⟨QK, zBE, H⟩ := bnd H
 refine Tr.VW [2] [emp] (U := (Option Addr × Nat)) (fun u => (sL u.1 QK u.2)) (fun O W u => SlF u.1 QK.length u.2) (fun u => [ow u.1 u.2 46 zH QK]) rfl (zR rfl zk) (fun _ => rfl) (wn rfl) rfl Tryz.call14 (zI rfl zS) (fun W hW hp hE => zGU p0 zF zG (zP.zAS (hW.JH hp)) QK zBE hE) ?_
 intro w u zER hu
 obtain ⟨JQ, JP⟩ := u
 have gy100_0 := hu
 replace hc0 := zER.ext.cells hb0 hc0
 replace hb0 := zER.r _ hb0
 replace hc1 := zER.ext.cells hb1 hc1
 replace hb1 := zER.r _ hb1
 replace leB := leB.trans zER
 have zBY : SlF JQ QK.length JP := gy100_0 --@phi
 dsimp only
 refine Tr.asg rfl rfl (Tr.nil (Tr.zA (Tr.seq (Tr.sr (Tr.mv rfl rfl (Tr.va rfl (fun _ _ a c => zy zB8 (a.ev rfl)) (Tr.mv rfl rfl (Tr.nil (Tr.zA (Tr.block (Tr.loop (σ := (List zC) × Int × (Option Addr) × Nat) (fun m w s => QX rec QK m s.1 s.2.1 = some r ∧ SlF s.2.2.1 s.1.length s.2.2.2) (fun s => [(1, .func (.func 68) #[] #[pV bq0]), (5, sL s.2.2.1 s.1 s.2.2.2), (10, iv (QK.length : Int)), (11, iv s.2.1)]) (fun s => [(2, ow s.2.2.1 s.2.2.2 46 zH s.1)]) N (QK, 0, JQ, JP) ⟨H, zBY⟩ (.cons rfl (.cons rfl (.cons rfl (.cons rfl .nil)))) (.cons rfl .nil) (fun _ _ h => zAQ (h.1)) ?_)))))))))))
 intro w Qe mL1 s hs
 obtain ⟨zC2, zAP, zAN, zCX⟩ := s
 obtain ⟨H, zLr⟩ := hs
 replace H : QX rec QK (mL1 + 1) zC2 zAP = some r := H
 replace hc0 := Qe.ext.cells hb0 hc0
 replace hb0 := Qe.r _ hb0
 replace hc1 := Qe.ext.cells hb1 hc1
 replace hb1 := Qe.r _ hb1
 replace leB := leB.trans Qe
 replace zLr : SlF zAN zC2.length zCX := zLr
 rw [QX.eq_2] at H
 dsimp only
 refine Tr.sr (Tr.va rfl (fun _ _ a c => QE (a.ev rfl) (a.ev rfl)) (Tr.nil (Tr.zA (Tr.seq (Tr.cond rfl H (fun H => ?_) (fun H => ?_))))))
 ·refine Tr.skip (Tr.zA (Tr.seq (Tr.block (Tr.sr (Tr.mv rfl rfl (Tr.asg rfl rfl (Tr.nil (Tr.zA (Tr.sr (Tr.mv rfl rfl (Tr.mv rfl rfl (Tr.mv rfl rfl (Tr.mv rfl rfl ?_)))))))))))))
  obtain ⟨zRl, zlg, H⟩ := bnd H
  obtain ⟨zh1, zh0, zhz⟩ := zx zlg
  refine Tr.va rfl (fun _ _ a c => zK zEC (a.ev rfl) zLr (a.ev rfl) zh1 zh0) (Tr.va rfl (fun _ _ a c => zB zAu (a.ev rfl)) (Tr.zYf (U := (zH).Ad) (fun u => (zH).ok w.O w.W u zRl) (fun u => (sL u.1.1 zRl.Points u.1.2)) (wn rfl) rfl (ldN (κ := 2) (t := zH) (V := fun u => (sL u.1.1 zRl.Points u.1.2)) rfl zhz (fun _ _ u a hc => zD zFI (a.ev rfl) (hc.drop 4) rfl)) ?_))
  intro zn1 zdf
  obtain ⟨⟨zOb, zON⟩, ⟨znl, znZ⟩⟩ := zn1
  obtain ⟨zM0, zjL⟩ := Kj.1 zdf
  replace zM0 : Sl w.O w.W QD zOb zON zRl.Points := zM0
  dsimp only
  obtain ⟨y158, hy158, H⟩ := bnd H
  refine Tr.WB [7] [emp] (U := (Option Addr × Nat)) (fun u => (sL u.1 y158 u.2)) (fun u => SlF u.1 y158.length u.2) (fun u => [ow u.1 u.2 43 QD y158]) rfl (zR rfl zk) (fun _ => rfl) (wn rfl) rfl Tryz.call57 (zI rfl zS) (fun W hW hp hE => zDr zRl.Points zOb zON (zM0.rl.ext (hW.JH hp)) y158 hy158 hE) ?_
  intro u hu
  obtain ⟨zAy, zAv⟩ := u
  have gy158_0 := hu
  have zbb : SlF zAy y158.length zAv := gy158_0 --@phi
  dsimp only
  obtain ⟨x160, hx160, H⟩ := bnd H
  obtain ⟨zhy, zhx, za3⟩ := zx hx160
  refine Tr.va rfl (fun _ _ a c => zK zEC (a.ev rfl) zLr (a.ev rfl) zhy zhx) (Tr.va rfl (fun _ _ a c => zB zAu (a.ev rfl)) (Tr.zR0 2 rfl za3 ?_))
  intro zn0 zde
  obtain ⟨⟨zei, zeO⟩, ⟨zIk, zIO⟩⟩ := zn0
  obtain ⟨zjK, zMz⟩ := Kj.1 zde
  replace zMz : Sl w.O w.W zH zIk zIO x160.Steps := zMz
  show Tr _ _ _ (up _ 2 (ow zAN zCX 46 (mix zH) (zB9 zC2 (zAP).toNat (raw zH [iv x160.Kind, sv x160.Name, iv x160.At.X, iv x160.At.Y, sL zei x160.Points zeO, iv x160.NX, iv x160.NY, sL zIk x160.Steps zIO] rfl rfl)))) _
  refine Tr.zJS 2 (raw zH [iv x160.Kind, sv x160.Name, iv x160.At.X, iv x160.At.Y, sL zAy y158 zAv, iv x160.NX, iv x160.NY, sL zIk x160.Steps zIO] rfl rfl) (cs := [sL zAy y158 zAv]) (fo := 4) (wn rfl) rfl rfl rfl rfl rfl (List.getElem?_eq_some_iff.1 za3).1 zen rfl rfl rfl ?_
  refine Tr.nil (Tr.zA (Tr.sr (Tr.mv rfl rfl (Tr.mv rfl rfl (Tr.mv rfl rfl (Tr.mv rfl rfl ?_))))))
  obtain ⟨zMg, zlf, H⟩ := bnd H
  obtain ⟨zhw, zhv, zhu⟩ := zx zlf
  refine Tr.va rfl (fun _ _ a c => zK zEC (a.ev rfl) zLr (a.ev rfl) zhw zhv) (Tr.va rfl (fun _ _ a c => zB zDW (a.ev rfl)) (Tr.va rfl (fun _ _ a c => zD zCn (a.ev rfl) (zO.drop (rdm (cs := raw zH [iv x160.Kind, sv x160.Name, iv x160.At.X, iv x160.At.Y, sL zAy y158 zAv, iv x160.NX, iv x160.NY, sL zIk x160.Steps zIO] rfl rfl) c (κ := 2) rfl (List.getElem?_eq_some_iff.1 zhu).1) 7) rfl) ?_))
  refine Tr.mv rfl rfl ?_
  obtain ⟨zD0, zk5, H⟩ := bnd H
  refine Tr.VW [8] [emp] (U := (Option Addr × Nat)) (fun u => (sL u.1 zD0 u.2)) (fun O W u => SlF u.1 zD0.length u.2) (fun u => [ow u.1 u.2 46 zH zD0]) rfl (zR rfl zk) (fun _ => rfl) (wn rfl) rfl Tryz.call33 (zI rfl (zI rfl zS)) (fun W hW hp hE => hrec x160.Steps zIk zIO (zMz.zAS (hW.JH hp)) bq0 bq1 ((hW.JH hp).r _ hb0) ((hW.JH hp).cells hb0 hc0) ((hW.JH hp).r _ hb1) ((hW.JH hp).cells hb1 hc1) zD0 zk5 hE) ?_
  intro w u zTd hu
  obtain ⟨zDd, zDY⟩ := u
  have gy163_0 := hu
  replace hc0 := zTd.ext.cells hb0 hc0
  replace hb0 := zTd.r _ hb0
  replace hc1 := zTd.ext.cells hb1 hc1
  replace hb1 := zTd.r _ hb1
  replace Qe := Qe.trans zTd
  have zmY : SlF zDd zD0.length zDY := gy163_0 --@phi
  dsimp only
  obtain ⟨zMf, zld, H⟩ := bnd H
  obtain ⟨zhq, zhp, zho⟩ := zx zld
  refine Tr.va rfl (fun _ _ a c => zK zEC (a.ev rfl) zLr (a.ev rfl) zhq zhp) (Tr.va rfl (fun _ _ a c => zB zDW (a.ev rfl)) (Tr.zJS 2 (raw zH [iv x160.Kind, sv x160.Name, iv x160.At.X, iv x160.At.Y, sL zAy y158 zAv, iv x160.NX, iv x160.NY, sL zDd zD0 zDY] rfl rfl) (cs := [sL zDd zD0 zDY]) (fo := 7) (wn rfl) rfl rfl rfl rfl rfl (List.getElem?_eq_some_iff.1 zho).1 zeq rfl rfl rfl ?_))
  refine Tr.nil (Tr.zA (Tr.region (Tr.mv rfl rfl (Tr.mv rfl rfl (Tr.mv rfl rfl ?_)))))
  obtain ⟨zZc, za2, H⟩ := bnd H
  obtain ⟨zV1, zV0, zVz⟩ := zx za2
  refine Tr.va rfl (fun _ _ a c => zK zEC (a.ev rfl) zLr (a.ev rfl) zV1 zV0) ?_
  obtain ⟨y167, hy167, H⟩ := bnd H
  refine Tr.zi7 [2, 7] [ow zAN zCX 46 (mix zH) (zB9 zC2 (zAP).toNat (raw zH [iv x160.Kind, sv x160.Name, iv x160.At.X, iv x160.At.Y, sL zAy y158 zAv, iv x160.NX, iv x160.NY, sL zDd zD0 zDY] rfl rfl)), ow zAy zAv 43 QD y158] (U := Unit) (fun u => (.tuple #[])) (fun O W u => y167.2.2.length = y158.length) (fun u => [ow zAN zCX 46 (mix zH) (zB9 zC2 (zAP).toNat (raw zH [iv x160.Kind, sv x160.Name, iv y167.1, iv y167.2.1, sL zAy y167.2.2 zAv, iv x160.NX, iv x160.NY, sL zDd zD0 zDY] rfl rfl)), ow zAy zAv 43 QD y167.2.2]) rfl (zR rfl (zR rfl zk)) (fun _ => rfl) (wn rfl) rfl rfl Tryz.call68 (zI rfl zS) (fun W hW hp hE => zCa (zC.mk x160.Kind x160.Name x160.At y158 x160.NX x160.NY zD0) zAy zAv zDd zDY (hW.slS (k := 8) rfl hp rfl) zAN zCX zC2 ((zAP).toNat) (List.getElem?_eq_some_iff.1 zVz).1 bq0 bq1 ((hW.JH hp).r _ hb0) ((hW.JH hp).cells hb0 hc0) ((hW.JH hp).r _ hb1) ((hW.JH hp).cells hb1 hc1) y167 hy167 hE) ?_
  intro w u zkG hu
  have gky167_1 := hu
  replace Qe := Qe.trans zkG
  have zNE : y167.2.2.length = y158.length := gky167_1 --@phi
  have zjT : SlF zAy y167.2.2.length zAv := by rw [zNE]; exact zbb
  show Tr _ _ (uf _ 39 (.tuple #[])) (up (up _ 7 (ow zAy zAv 43 QD y167.2.2)) 2 (ow zAN zCX 46 (mix zH) (zB9 zC2 (zAP).toNat (raw zH [iv x160.Kind, sv x160.Name, iv y167.1, iv y167.2.1, sL zAy y167.2.2 zAv, iv x160.NX, iv x160.NY, sL zDd zD0 zDY] rfl rfl)))) _
  refine Tr.sel (lf := [(1, .func (.func 68) #[] #[pV bq0]), (5, sL zAN zC2 zCX), (6, iv zAP), (10, iv (QK.length : Int)), (11, iv zAP), (12, bV (decide (zAP < (QK.length : Int)))), (13, iv zAP), (14, sL zAN zC2 zCX), (15, iv zAP), (16, sL zAN zC2 zCX), (17, iv zAP), (20, sL zOb zRl.Points zON), (21, sL zAy y167.2.2 zAv), (24, sL zAN zC2 zCX), (25, iv zAP), (26, sL zAN zC2 zCX), (27, iv zAP), (28, .pointer (some ⟨adB zAN, adO zAN + (zAP).toNat * 8, none⟩)), (29, .pointer (some ⟨adB zAN, adO zAN + (zAP).toNat * 8 + 7, none⟩)), (30, sL zIk x160.Steps zIO), (31, .func (.func 68) #[] #[pV bq0]), (32, sL zDd zD0 zDY), (33, .pointer (some ⟨adB zAN, adO zAN + (zAP).toNat * 8, none⟩)), (34, .pointer (some ⟨adB zAN, adO zAN + (zAP).toNat * 8 + 7, none⟩)), (35, .func (.func 68) #[] #[pV bq0]), (36, sL zAN zC2 zCX), (37, iv zAP), (38, .pointer (some ⟨adB zAN, adO zAN + (zAP).toNat * 8, none⟩)), (39, (.tuple #[]))]) (le := [(2, ow zAN zCX 46 (mix zH) (zB9 zC2 (zAP).toNat (raw zH [iv x160.Kind, sv x160.Name, iv y167.1, iv y167.2.1, sL zAy y167.2.2 zAv, iv x160.NX, iv x160.NY, sL zDd zD0 zDY] rfl rfl))), (7, ow zAy zAv 43 QD y167.2.2), (8, ow zDd zDY 46 zH zD0)]) (.cons rfl (.cons rfl (.cons rfl (.cons rfl (.cons rfl (.cons rfl (.cons rfl (.cons rfl (.cons rfl (.cons rfl (.cons rfl (.cons rfl (.cons (KM rfl (by unfold sL; rw [zNE])) (.cons rfl (.cons rfl (.cons rfl (.cons rfl (.cons rfl (.cons rfl (.cons rfl (.cons rfl (.cons rfl (.cons rfl (.cons rfl (.cons rfl (.cons rfl (.cons rfl (.cons rfl (.cons rfl .nil))))))))))))))))))))))))))))) (.cons (zeD rfl (by unfold sL; rw [zNE])) (.cons rfl (.cons rfl .nil))) (Tr.nil (Tr.zh (Tr.zA (Tr.region (Tr.va rfl (fun _ _ a c => QA (a.ev rfl) (a.ev rfl)) (Tr.mv rfl rfl (Tr.nil (Tr.freeze 7 rfl fun w zkF zae => ?_))))))))
  replace Qe := Qe.trans zkF
  refine Tr.freeze 8 rfl fun w ze3 zkO => ?_
  replace zae := zae.le ze3
  replace Qe := Qe.trans ze3
  refine Tr.zPC 2 rfl (((zAy, zAv), (zDd, zDY))) (zC.mk x160.Kind x160.Name (zJ.mk y167.1 y167.2.1) y167.2.2 x160.NX x160.NY zD0) (Kj.2 ⟨zae, zkO⟩) rfl ?_
  have zPb : ((zC2).set (zAP).toNat (zC.mk x160.Kind x160.Name (zJ.mk y167.1 y167.2.1) y167.2.2 x160.NX x160.NY zD0)).length = zC2.length := List.length_set
  have zdx : SlF zAN ((zC2).set (zAP).toNat (zC.mk x160.Kind x160.Name (zJ.mk y167.1 y167.2.1) y167.2.2 x160.NX x160.NY zD0)).length zCX := by rw [zPb]; exact zLr
  exact Tr.sel (lf := [(1, .func (.func 68) #[] #[pV bq0]), (5, sL zAN (((zC2).set (zAP).toNat (zC.mk x160.Kind x160.Name (zJ.mk y167.1 y167.2.1) y167.2.2 x160.NX x160.NY zD0))) zCX), (6, iv zAP), (10, iv (QK.length : Int)), (11, iv (w64 (zAP + 1))), (12, bV (decide (zAP < (QK.length : Int)))), (13, iv zAP), (14, sL zAN (((zC2).set (zAP).toNat (zC.mk x160.Kind x160.Name (zJ.mk y167.1 y167.2.1) y167.2.2 x160.NX x160.NY zD0))) zCX), (15, iv zAP), (16, sL zAN (((zC2).set (zAP).toNat (zC.mk x160.Kind x160.Name (zJ.mk y167.1 y167.2.1) y167.2.2 x160.NX x160.NY zD0))) zCX), (17, iv zAP), (20, sL zOb zRl.Points zON), (21, sL zAy y167.2.2 zAv), (24, sL zAN (((zC2).set (zAP).toNat (zC.mk x160.Kind x160.Name (zJ.mk y167.1 y167.2.1) y167.2.2 x160.NX x160.NY zD0))) zCX), (25, iv zAP), (26, sL zAN (((zC2).set (zAP).toNat (zC.mk x160.Kind x160.Name (zJ.mk y167.1 y167.2.1) y167.2.2 x160.NX x160.NY zD0))) zCX), (27, iv zAP), (30, sL zIk x160.Steps zIO), (31, .func (.func 68) #[] #[pV bq0]), (32, sL zDd zD0 zDY), (35, .func (.func 68) #[] #[pV bq0]), (36, sL zAN (((zC2).set (zAP).toNat (zC.mk x160.Kind x160.Name (zJ.mk y167.1 y167.2.1) y167.2.2 x160.NX x160.NY zD0))) zCX), (37, iv zAP), (39, (.tuple #[])), (40, iv (w64 (zAP + 1)))]) (le := [(2, ow zAN zCX 46 zH ((zC2).set (zAP).toNat (zC.mk x160.Kind x160.Name (zJ.mk y167.1 y167.2.1) y167.2.2 x160.NX x160.NY zD0)))]) (.cons rfl (.cons (KM rfl (by unfold sL; rw [zPb])) (.cons rfl (.cons rfl (.cons rfl (.cons rfl (.cons rfl (.cons (KM rfl (by unfold sL; rw [zPb])) (.cons rfl (.cons (KM rfl (by unfold sL; rw [zPb])) (.cons rfl (.cons rfl (.cons rfl (.cons (KM rfl (by unfold sL; rw [zPb])) (.cons rfl (.cons (KM rfl (by unfold sL; rw [zPb])) (.cons rfl (.cons rfl (.cons rfl (.cons rfl (.cons rfl (.cons (KM rfl (by unfold sL; rw [zPb])) (.cons rfl (.cons rfl (.cons rfl .nil))))))))))))))))))))))))) (.cons rfl .nil) (Tr.zf Qe (((zC2).set (zAP).toNat (zC.mk x160.Kind x160.Name (zJ.mk y167.1 y167.2.1) y167.2.2 x160.NX x160.NY zD0)), (w64 (zAP + 1)), zAN, zCX) ⟨H, zdx⟩ (.cons rfl (.cons rfl (.cons rfl (.cons rfl .nil)))) (.cons rfl .nil))
 ·refine Tr.exit (Tr.zi (Tr.zi (Tr.QL (Tr.zA (Tr.sr (Tr.mv rfl rfl (Tr.asg rfl rfl (Tr.nil (Tr.zA (Tr.ret ?_))))))))))
  obtain rfl := oI H
  exact Tr.out (m := [sL zAN zC2 zCX]) [] (zU rfl zT) (fun W hW => ⟨w, (zAN, zCX), leB, rfl, zLr, hW.pick (ks := [2]) (by decide) (zR rfl zk)⟩)
theorem WH : ∀ (N : Nat) {w : Bs} (p0 : (List zC)) (zF : Option Addr) (zG : Nat) (zP : Sl w.O w.W zH zF zG p0) (bq0 : Nat) (bq1 : Nat) (hb0 : w.R bq0) (hc0 : zO w.W bq0 0 [.func (.func 66) #[] #[pV bq1]]) (hb1 : w.R bq1) (hc1 : zO w.W bq1 0 [.func (.func 39) #[] #[]]) (r : (List zC)) (H : JD N p0 = some r) (hE : HF w w.W (LEn [emp])), Calls Tryz.prog 33 [sL zF p0 zG, .func (.func 68) #[] #[pV bq0]].toArray w.W fun e W' => ∃ (w' : Bs) (u : (Option Addr × Nat)), w.Le w' ∧ e = .returned (sL u.1 r u.2) ∧ (SlF u.1 r.length u.2) ∧ HF w' W' (LEn [ow u.1 u.2 46 zH r])
 | 0 => by intros; rename_i H _; cases H
 | N + 1 => zBP N (JD N) (WH N)

theorem zGZ (N : Nat) {w : Bs} (p0 : QB) (zF : Option Addr) (zG : Nat) (zP : Sl w.O w.W zN zF zG p0.Tools) (zM : Option Addr) (zL : Nat) (QW : Sl w.O w.W zH zM zL p0.Steps) (r : QB) (H : WJ N p0 = some r) (hE : HF w w.W (LEn [emp, emp])) : Calls Tryz.prog 38 [.agg #[iv p0.Unit, sL zF p0.Tools zG, sL zM p0.Steps zL], .func (.func 39) #[] #[]].toArray w.W fun e W' => ∃ (w' : Bs) (u : (Option Addr × Nat) × (Option Addr × Nat)), w.Le w' ∧ e = .returned (.agg #[iv r.Unit, sL u.1.1 r.Tools u.1.2, sL u.2.1 r.Steps u.2.2]) ∧ (SlF u.1.1 r.Tools.length u.1.2 ∧ SlF u.2.1 r.Steps.length u.2.2) ∧ HF w' W' (LEn [ow u.1.1 u.1.2 64 zN r.Tools, ow u.2.1 u.2.2 46 zH r.Steps]) := by
 unfold WJ at H
 have leB := Bs.Le.refl w
 refine Tr.enter (n := 22) Tryz.func38 rfl rfl rfl hE (Tr.sr (Tr.box 1 (cs := [iv p0.Unit, sL zF p0.Tools zG, sL zM p0.Steps zL]) (wn rfl) rfl rfl rfl fun zt => (Tr.box 2 (cs := [.func (.func 39) #[] #[]]) (wn rfl) rfl rfl rfl fun Qg => (Tr.alloc 3 (wn rfl) rfl zLK fun zCE => (Tr.nil (Tr.zA (Tr.sr (Tr.zHD (vs := [pV Qg]) (wn rfl) rfl (zI rfl zS) (Tr.alloc 4 (wn rfl) rfl zfh fun zWW => (Tr.store 4 (cs := [.func (.func 66) #[] #[pV Qg]]) [.func (.func 66) #[] #[pV Qg]] (wn rfl) rfl rfl rfl rfl zf0 rfl rfl rfl (Tr.nil (Tr.zA (Tr.sr (Tr.va rfl (fun _ _ a c => zB zBy (a.ev rfl)) (Tr.va rfl (fun _ _ a c => zD zGQ (a.ev rfl) (rdb c (vs := [iv p0.Unit, sL zF p0.Tools zG, sL zM p0.Steps zL]) (k := 1) rfl 1) rfl) (Tr.zHD (vs := [pV Qg]) (wn rfl) rfl (zI rfl zS) ?_))))))))))))))))
 obtain ⟨y104, hy104, H⟩ := bnd H
 refine Tr.VW [5] [emp] (U := (Option Addr × Nat)) (fun u => (sL u.1 y104 u.2)) (fun O W u => SlF u.1 y104.length u.2) (fun u => [ow u.1 u.2 64 zN y104]) rfl (zR rfl zk) (fun _ => rfl) (wn rfl) rfl Tryz.call63 (zI rfl (zI rfl zS)) (fun W hW hp hE => zCt N p0.Tools zF zG (zP.zAS (hW.JH hp)) Qg (hW.zWV (k := 2) rfl hp rfl) (hW.zcO (k := 2) rfl) y104 hy104 hE) ?_
 intro w u ze6 hu
 obtain ⟨zIg, zIK⟩ := u
 have gy104_0 := hu
 replace QW := QW.le ze6
 replace leB := leB.trans ze6
 have zbl : SlF zIg y104.length zIK := gy104_0 --@phi
 dsimp only
 refine Tr.asg rfl rfl (Tr.nil (Tr.zA (Tr.sr (Tr.va rfl (fun _ _ a c => zB zC3 (a.ev rfl)) (Tr.va rfl (fun _ _ a c => zD zCn (a.ev rfl) (rdb c (vs := [iv p0.Unit, sL zF p0.Tools zG, sL zM p0.Steps zL]) (k := 1) rfl 2) rfl) (Tr.zHD (vs := [pV zWW]) (wn rfl) rfl (zI rfl zS) ?_))))))
 obtain ⟨Kc, zHT, H⟩ := bnd H
 refine Tr.VW [6] [emp] (U := (Option Addr × Nat)) (fun u => (sL u.1 Kc u.2)) (fun O W u => SlF u.1 Kc.length u.2) (fun u => [ow u.1 u.2 46 zH Kc]) rfl (zR rfl zk) (fun _ => rfl) (wn rfl) rfl Tryz.call33 (zI rfl (zI rfl zS)) (fun W hW hp hE => WH N p0.Steps zM zL (QW.zAS (hW.JH hp)) zWW Qg (hW.zWV (k := 4) rfl hp rfl) (hW.zcO (k := 4) rfl) (hW.zWV (k := 2) rfl hp rfl) (hW.zcO (k := 2) rfl) Kc zHT hE) ?_
 intro w u zJX hu
 obtain ⟨Ww, Wu⟩ := u
 have gy106_0 := hu
 replace leB := leB.trans zJX
 have zJh : SlF Ww Kc.length Wu := gy106_0 --@phi
 dsimp only
 refine Tr.asg rfl rfl (Tr.nil (Tr.zA (Tr.sr (Tr.va rfl (fun _ _ a c => zB zBH (a.ev rfl)) (Tr.va rfl (fun _ _ a c => zD QH (a.ev rfl) (rdb c (vs := [iv p0.Unit, sL zF p0.Tools zG, sL zM p0.Steps zL]) (k := 1) rfl 0) rfl) (Tr.mv rfl rfl (Tr.mv rfl rfl (Tr.build (vs := [(0, iv p0.Unit), (1, sL zIg y104 zIK), (2, sL Ww Kc Wu)]) (cs := [iv p0.Unit, sL zIg y104 zIK, sL Ww Kc Wu]) (wn rfl) rfl (zl rfl (zl rfl (zl rfl Qf))) (by kernel_rfl) (Tr.store 3 (cs := [iv p0.Unit, sL zIg y104 zIK, sL Ww Kc Wu]) [iv p0.Unit, sL zIg y104 zIK, sL Ww Kc Wu] (wn rfl) rfl rfl rfl rfl VQ rfl rfl rfl (Tr.nil (Tr.zA (Tr.ret ?_))))))))))))
 obtain rfl := oI H
 exact Tr.out (m := [.agg #[iv p0.Unit, sL zIg y104 zIK, sL Ww Kc Wu]]) [3] (WR rfl rfl zAJ VQ zT) (fun W hW => ⟨w, ((zIg, zIK), (Ww, Wu)), leB, rfl, ⟨zbl, zJh⟩, hW.pick (ks := [5, 6]) (by decide) (zR rfl (zR rfl zk))⟩)

theorem zI2 (N : Nat) {w : Bs} (p0 : QB) (zF : Option Addr) (zG : Nat) (zP : Sl w.O w.W zN zF zG p0.Tools) (zM : Option Addr) (zL : Nat) (QW : Sl w.O w.W zH zM zL p0.Steps) (r : (QB × Int)) (H : zAf N p0 = some r) (hE : HF w w.W (LEn [emp, emp])) : Calls Tryz.prog 20 [.agg #[iv p0.Unit, sL zF p0.Tools zG, sL zM p0.Steps zL]].toArray w.W fun e W' => ∃ (w' : Bs) (u : (Option Addr × Nat) × (Option Addr × Nat)), w.Le w' ∧ e = .returned (.tuple #[.agg #[iv r.1.Unit, sL u.1.1 r.1.Tools u.1.2, sL u.2.1 r.1.Steps u.2.2], iv r.2]) ∧ (SlF u.1.1 r.1.Tools.length u.1.2 ∧ SlF u.2.1 r.1.Steps.length u.2.2) ∧ HF w' W' (LEn [ow u.1.1 u.1.2 64 zN r.1.Tools, ow u.2.1 u.2.2 46 zH r.1.Steps]) := by
 unfold zAf at H
 have leB := Bs.Le.refl w
 refine Tr.enter (n := 28) Tryz.func20 rfl rfl rfl hE (Tr.sr (Tr.box 1 (cs := [iv p0.Unit, sL zF p0.Tools zG, sL zM p0.Steps zL]) (wn rfl) rfl rfl rfl fun zt => (Tr.alloc 2 (wn rfl) rfl zLK fun Qg => (Tr.asg rfl rfl (Tr.nil (Tr.zA (Tr.seq (Tr.sr (Tr.va rfl (fun _ _ a c => zX (cs := [iv p0.Unit, sL zF p0.Tools zG, sL zM p0.Steps zL]) zAJ VQ (a.ev rfl) (zO.take (rdb c (vs := [iv p0.Unit, sL zF p0.Tools zG, sL zM p0.Steps zL]) (k := 1) rfl 0) 3) rfl) ?_)))))))))
 obtain ⟨y102, hy102, H⟩ := bnd H
 refine Tr.Qs (r := (iv y102)) (wn rfl) rfl Tryz.call21 (zI rfl zS) (fun W hW => zAa N p0 zF zG (zP.rl.ext hW.Qd) zM zL (QW.rl.ext hW.Qd) y102 hy102 (HF.start _)) (Tr.asg rfl rfl (Tr.nil (Tr.zA (Tr.sr (Tr.mv rfl rfl (Tr.va rfl (fun _ _ a c => Jt (a.ev rfl) (a.ev rfl)) (Tr.nil (Tr.zA (Tr.cond rfl H (fun H => ?_) (fun H => ?_))))))))))
 ·refine Tr.sr (Tr.build (vs := []) (cs := [iv 0, .slice none 0 0, .slice none 0 0]) (wn rfl) rfl Qf (by kernel_rfl) (Tr.mv rfl rfl (Tr.store 2 (cs := [iv 0, .slice none 0 0, .slice none 0 0]) [iv 0, .slice none 0 0, .slice none 0 0] (wn rfl) rfl rfl rfl rfl VQ rfl rfl rfl (Tr.asg rfl rfl (Tr.nil (Tr.zA (Tr.ret (Tr.zg ?_))))))))
  obtain rfl := oI H
  exact Tr.JY 3 64 zN (Tr.JY 4 46 zH (Tr.out (m := [.agg #[iv 0, .slice none 0 0, .slice none 0 0], iv y102]) [2] (WR rfl rfl zAJ VQ (zU rfl zT)) (fun W hW => ⟨w, ((none, 0), (none, 0)), leB, rfl, ⟨VR, VR⟩, hW.pick (ks := [3, 4]) (by decide) (zR rfl (zR rfl zk))⟩)))
 ·refine Tr.skip (Tr.zA (Tr.sr (Tr.va rfl (fun _ _ a c => zX (cs := [iv p0.Unit, sL zF p0.Tools zG, sL zM p0.Steps zL]) zAJ VQ (a.ev rfl) (zO.take (rdb c (vs := [iv p0.Unit, sL zF p0.Tools zG, sL zM p0.Steps zL]) (k := 1) rfl 0) 3) rfl) ?_)))
  obtain ⟨zm, zCi, H⟩ := bnd H
  refine Tr.VW [5, 6] [emp, emp] (U := (Option Addr × Nat) × (Option Addr × Nat)) (fun u => (.agg #[iv zm.Unit, sL u.1.1 zm.Tools u.1.2, sL u.2.1 zm.Steps u.2.2])) (fun O W u => SlF u.1.1 zm.Tools.length u.1.2 ∧ SlF u.2.1 zm.Steps.length u.2.2) (fun u => [ow u.1.1 u.1.2 64 zN zm.Tools, ow u.2.1 u.2.2 46 zH zm.Steps]) rfl (zR rfl (zR rfl zk)) (fun _ => rfl) (wn rfl) rfl Tryz.call38 (zI rfl (zI rfl zS)) (fun W hW hp hE => zGZ N p0 zF zG (zP.zAS (hW.JH hp)) zM zL (QW.zAS (hW.JH hp)) zm zCi hE) ?_
  intro w u zKf hu
  obtain ⟨⟨Kb, KZ⟩, ⟨zIh, zIL⟩⟩ := u
  obtain ⟨gy103_0, gy103_1⟩ := hu
  replace leB := leB.trans zKf
  have zFD : SlF Kb zm.Tools.length KZ := gy103_0 --@phi
  have zT9 : SlF zIh zm.Steps.length zIL := gy103_1 --@phi
  dsimp only
  refine Tr.alloc 7 (wn rfl) rfl zLK fun zZA => (Tr.store 7 (cs := [iv zm.Unit, sL Kb zm.Tools KZ, sL zIh zm.Steps zIL]) [iv zm.Unit, sL Kb zm.Tools KZ, sL zIh zm.Steps zIL] (wn rfl) rfl rfl rfl rfl VQ rfl rfl rfl (Tr.nil (Tr.zA (Tr.block (Tr.loop (σ := (List zC) × (Option Addr) × Nat) (fun m w s => Vs zm m s.1 = some r ∧ SlF s.2.1 s.1.length s.2.2) (fun s => [(2, pV Qg), (5, pV zZA)]) (fun s => [(2, bx Qg #[iv 0, .slice none 0 0, .slice none 0 0] 25), (5, ow Kb KZ 64 zN zm.Tools), (6, ow s.2.1 s.2.2 46 zH s.1), (7, bx zZA #[iv zm.Unit, sL Kb zm.Tools KZ, sL s.2.1 s.1 s.2.2] 25)]) N (zm.Steps, zIh, zIL) ⟨H, zT9⟩ (.cons rfl (.cons rfl .nil)) (.cons rfl (.cons rfl (.cons rfl (.cons rfl .nil)))) (fun _ _ h => zAQ (h.1)) ?_)))))
  intro w Qe mL1 s hs
  obtain ⟨zD8, zI5, zIy⟩ := s
  obtain ⟨H, zLs⟩ := hs
  replace H : Vs zm (mL1 + 1) zD8 = some r := H
  replace leB := leB.trans Qe
  replace zLs : SlF zI5 zD8.length zIy := zLs
  rw [Vs.eq_2] at H
  dsimp only
  refine Tr.block (Tr.sr (Tr.va rfl (fun _ _ a c => zB zC3 (a.ev rfl)) (Tr.va rfl (fun _ _ a c => zD zCn (a.ev rfl) (rdb c (vs := [iv zm.Unit, sL Kb zm.Tools KZ, sL zI5 zD8 zIy]) (k := 7) rfl 2) rfl) ?_)))
  obtain ⟨Qp, zJc, H⟩ := bnd H
  refine Tr.Qs (r := (iv Qp)) (wn rfl) rfl Tryz.call40 (zI rfl zS) (fun W hW => zMO zD8 zI5 zIy (hW.zBX (k := 6) rfl) Qp zJc (HF.start _)) (Tr.asg rfl rfl (Tr.nil (Tr.zA (Tr.seq (Tr.sr (Tr.mv rfl rfl (Tr.va rfl (fun _ _ a c => QE (a.ev rfl) (a.ev rfl)) (Tr.nil (Tr.zA (Tr.cond rfl H (fun H => ?_) (fun H => ?_)))))))))))
  ·refine Tr.sr (Tr.va rfl (fun _ _ a c => zX (cs := [iv zm.Unit, sL Kb zm.Tools KZ, sL zI5 zD8 zIy]) zAJ VQ (a.ev rfl) (zO.take (rdb c (vs := [iv zm.Unit, sL Kb zm.Tools KZ, sL zI5 zD8 zIy]) (k := 7) rfl 0) 3) rfl) (Tr.store 2 (cs := [iv zm.Unit, sL Kb zm.Tools KZ, sL zI5 zD8 zIy]) [iv zm.Unit, sL Kb zm.Tools KZ, sL zI5 zD8 zIy] (wn rfl) rfl rfl rfl rfl VQ rfl rfl rfl (Tr.asg rfl rfl (Tr.nil (Tr.zA (Tr.ret (Tr.zg (Tr.QI (Tr.zg (Tr.QI ?_))))))))))
   obtain rfl := oI H
   exact Tr.out (m := [.agg #[iv zm.Unit, sL Kb zm.Tools KZ, sL zI5 zD8 zIy], iv 0]) [2] (WR rfl rfl zAJ VQ (zU rfl zT)) (fun W hW => ⟨w, ((Kb, KZ), (zI5, zIy)), leB, rfl, ⟨zFD, zLs⟩, hW.pick (ks := [5, 6]) (by decide) (zR rfl (zR rfl zk))⟩)
  ·refine Tr.skip (Tr.zA (Tr.region (Tr.va rfl (fun _ _ a c => zB zC3 (a.ev rfl)) (Tr.va rfl (fun _ _ a c => zD zCn (a.ev rfl) (rdb c (vs := [iv zm.Unit, sL Kb zm.Tools KZ, sL zI5 zD8 zIy]) (k := 7) rfl 2) rfl) (Tr.mv rfl rfl (Tr.mv rfl rfl (Tr.va rfl (fun _ _ a c => QA (a.ev rfl) (a.ev rfl)) ?_)))))))
   obtain ⟨zE6, zTt, H⟩ := bnd H
   refine Tr.VW [6] [ow zI5 zIy 46 zH zD8] (U := (Option Addr × Nat)) (fun u => (sL u.1 zE6 u.2)) (fun O W u => SlF u.1 zE6.length u.2) (fun u => [ow u.1 u.2 46 zH zE6]) rfl (zR rfl zk) (fun _ => rfl) (wn rfl) rfl Tryz.call13 (zI rfl (zI rfl (zI rfl zS))) (fun W hW hp hE => zFu zD8 zI5 zIy Qp (w64 (Qp + 1)) zE6 zTt hE) ?_
   intro w u zkJ hu
   obtain ⟨zOY, zOK⟩ := u
   have gy117_0 := hu
   replace Qe := Qe.trans zkJ
   have zbe : SlF zOY zE6.length zOK := gy117_0 --@phi
   dsimp only
   exact Tr.va rfl (fun _ _ a c => zB zC3 (a.ev rfl)) (Tr.store 7 (cs := [sL zOY zE6 zOK]) [iv zm.Unit, sL Kb zm.Tools KZ, sL zOY zE6 zOK] (wn rfl) rfl rfl rfl rfl zeq rfl rfl rfl (Tr.nil (Tr.zh (Tr.zf Qe (zE6, zOY, zOK) ⟨H, zbe⟩ (.cons rfl (.cons rfl .nil)) (.cons rfl (.cons rfl (.cons rfl (.cons rfl .nil))))))))

theorem zFQ (N : Nat) {w : Bs} (p0 : (List zJ)) (zF : Option Addr) (zG : Nat) (zP : Sl w.R w.W QD zF zG p0) (p1 : (List zJ)) (za : Option Addr) (zb : Nat) (Qc : Sl w.R w.W QD za zb p1) (r : Bool) (H : VO N p0 p1 = some r) (hE : HF w w.W E0) : Calls Tryz.prog 51 [sL zF p0 zG, sL za p1 zb].toArray w.W fun e W' => e = .returned (bV r) ∧ HF w W' E0 := by
 unfold VO at H
 have leB := Bs.Le.refl w
 refine Tr.enter (n := 26) Tryz.func51 rfl rfl rfl hE (Tr.sr (Tr.asg rfl rfl (Tr.nil (Tr.zA (Tr.seq (Tr.sr (Tr.mv rfl rfl (Tr.va rfl (fun _ _ a c => zy zEQ (a.ev rfl)) (Tr.mv rfl rfl (Tr.va rfl (fun _ _ a c => zy zEQ (a.ev rfl)) (Tr.va rfl (fun _ _ a c => Jt (a.ev rfl) (a.ev rfl)) (Tr.nil (Tr.zA (Tr.cond rfl H (fun H => ?_) (fun H => ?_)))))))))))))))
 ·refine Tr.sr (Tr.asg rfl rfl (Tr.nil (Tr.zA (Tr.ret (Tr.zg ?_)))))
  obtain rfl := oI H
  exact Tr.out (m := [bV false]) [] (zU rfl zT) (fun W hW => ⟨rfl, hW.low leB⟩)
 ·refine Tr.skip (Tr.zA (Tr.seq (Tr.sr (Tr.asg rfl rfl (Tr.nil (Tr.zA (Tr.block (Tr.loop (σ := Int) (fun m w s => JA p0 p1 m s = some r) (fun s => [(0, sL zF p0 zG), (1, sL za p1 zb), (5, iv s)]) (fun s => []) N 0 H (.cons rfl (.cons rfl (.cons rfl .nil))) .nil (fun _ _ h => zAQ (h)) ?_))))))))
  intro w Qe mL1 x107 hs
  have H := hs
  replace H : JA p0 p1 (mL1 + 1) x107 = some r := H
  replace zP := zP.leR Qe
  replace Qc := Qc.leR Qe
  replace leB := leB.trans Qe
  rw [JA.eq_2] at H
  show Tr _ _ (LF [(0, sL zF p0 zG), (1, sL za p1 zb), (5, iv x107)]) (LE []) _
  refine Tr.seq (Tr.sr (Tr.mv rfl rfl (Tr.mv rfl rfl (Tr.va rfl (fun _ _ a c => zy zEQ (a.ev rfl)) (Tr.va rfl (fun _ _ a c => QE (a.ev rfl) (a.ev rfl)) (Tr.nil (Tr.zA (Tr.cond rfl H (fun H => ?_) (fun H => ?_)))))))))
  ·refine Tr.skip (Tr.zA (Tr.seq (Tr.block (Tr.seq (Tr.draw (by kernel_rfl) (by kernel_rfl) (Tq.mv rfl rfl (Tq.mv rfl rfl ?_)))))))
   obtain ⟨zBu, zLp, H⟩ := bnd H
   obtain ⟨zIC, zIB, zIA⟩ := zx zLp
   refine Tq.va rfl (fun _ _ a c => zK zGN (a.ev rfl) zP.form (a.ev rfl) zIC zIB) (Tq.va rfl (fun _ _ a c => zX (cs := [iv zBu.X, iv zBu.Y]) KT JL (a.ev rfl) (zO.take (rdF zAj zP zIA c) 2) rfl) (Tq.mv rfl rfl (Tq.mv rfl rfl ?_)))
   obtain ⟨zDD, zTx, H⟩ := bnd H
   obtain ⟨zPU, zPT, zPS⟩ := zx zTx
   refine Tq.va rfl (fun _ _ a c => zK zGN (a.ev rfl) Qc.form (a.ev rfl) zPU zPT) (Tq.va rfl (fun _ _ a c => zX (cs := [iv zDD.X, iv zDD.Y]) KT JL (a.ev rfl) (zO.take (rdF zAj Qc zPS c) 2) rfl) (Tq.va rfl (fun _ _ a c => zKx zBu zDD (a.ev rfl) (a.ev rfl)) (Tq.nil (Tr.zA (Tr.cond rfl H (fun H => ?_) (fun H => ?_))))))
   ·refine Tr.sr (Tr.asg rfl rfl (Tr.nil (Tr.zA (Tr.ret (Tr.QI (Tr.zg (Tr.zg (Tr.QI (Tr.zg ?_)))))))))
    obtain rfl := oI H
    exact Tr.out (m := [bV false]) [] (zU rfl zT) (fun W hW => ⟨rfl, hW.low leB⟩)
   ·exact Tr.skip (Tr.zh (Tr.zA (Tr.region (Tr.mv rfl rfl (Tr.va rfl (fun _ _ a c => QA (a.ev rfl) (a.ev rfl)) (Tr.asg rfl rfl (Tr.nil (Tr.zf Qe (w64 (x107 + 1)) H (.cons rfl (.cons rfl (.cons rfl .nil))) .nil))))))))
  ·refine Tr.exit (Tr.zi (Tr.zi (Tr.QL (Tr.zA (Tr.sr (Tr.asg rfl rfl (Tr.nil (Tr.zA (Tr.ret ?_)))))))))
   obtain rfl := oI H
   exact Tr.out (m := [bV true]) [] (zU rfl zT) (fun W hW => ⟨rfl, hW.low leB⟩)

theorem zEk (N : Nat) (rec : (List zC) → (List zC) → Option Bool) (hrec : ∀ {w : Bs} (p0 : (List zC)) (zF : Option Addr) (zG : Nat) (zP : Sl w.R w.W zH zF zG p0) (p1 : (List zC)) (za : Option Addr) (zb : Nat) (Qc : Sl w.R w.W zH za zb p1) (r : Bool) (H : rec p0 p1 = some r) (hE : HF w w.W E0), Calls Tryz.prog 26 [sL zF p0 zG, sL za p1 zb].toArray w.W fun e W' => e = .returned (bV r) ∧ HF w W' E0) {w : Bs} (p0 : (List zC)) (zF : Option Addr) (zG : Nat) (zP : Sl w.R w.W zH zF zG p0) (p1 : (List zC)) (za : Option Addr) (zb : Nat) (Qc : Sl w.R w.W zH za zb p1) (r : Bool) (H : VF N rec p0 p1 = some r) (hE : HF w w.W E0) : Calls Tryz.prog 26 [sL zF p0 zG, sL za p1 zb].toArray w.W fun e W' => e = .returned (bV r) ∧ HF w W' E0 := by
 unfold VF at H
 have leB := Bs.Le.refl w
 refine Tr.enter (n := 76) Tryz.func26 rfl rfl rfl hE (Tr.sr (Tr.asg rfl rfl (Tr.nil (Tr.zA (Tr.seq (Tr.sr (Tr.mv rfl rfl (Tr.va rfl (fun _ _ a c => zy zB8 (a.ev rfl)) (Tr.mv rfl rfl (Tr.va rfl (fun _ _ a c => zy zB8 (a.ev rfl)) (Tr.va rfl (fun _ _ a c => Jt (a.ev rfl) (a.ev rfl)) (Tr.nil (Tr.zA (Tr.cond rfl H (fun H => ?_) (fun H => ?_)))))))))))))))
 ·refine Tr.sr (Tr.asg rfl rfl (Tr.nil (Tr.zA (Tr.ret (Tr.zg ?_)))))
  obtain rfl := oI H
  exact Tr.out (m := [bV false]) [] (zU rfl zT) (fun W hW => ⟨rfl, hW.low leB⟩)
 ·refine Tr.skip (Tr.zA (Tr.seq (Tr.sr (Tr.asg rfl rfl (Tr.nil (Tr.zA (Tr.block (Tr.loop (σ := Int) (fun m w s => JF N p0 p1 rec m s = some r) (fun s => [(0, sL zF p0 zG), (1, sL za p1 zb), (5, iv s)]) (fun s => []) N 0 H (.cons rfl (.cons rfl (.cons rfl .nil))) .nil (fun _ _ h => zAQ (h)) ?_))))))))
  intro w Qe mL1 zCP hs
  have H := hs
  replace H : JF N p0 p1 rec (mL1 + 1) zCP = some r := H
  replace zP := zP.leR Qe
  replace Qc := Qc.leR Qe
  replace leB := leB.trans Qe
  rw [JF.eq_2] at H
  show Tr _ _ (LF [(0, sL zF p0 zG), (1, sL za p1 zb), (5, iv zCP)]) (LE []) _
  refine Tr.seq (Tr.sr (Tr.mv rfl rfl (Tr.mv rfl rfl (Tr.va rfl (fun _ _ a c => zy zB8 (a.ev rfl)) (Tr.va rfl (fun _ _ a c => QE (a.ev rfl) (a.ev rfl)) (Tr.nil (Tr.zA (Tr.cond rfl H (fun H => ?_) (fun H => ?_)))))))))
  ·refine Tr.skip (Tr.zA (Tr.seq (Tr.block (Tr.seq (Tr.zPp 11 [] [10] (by kernel_rfl) (by kernel_rfl) fun zTA zT1 znP => (Dr.quiet 0 [(19, sL zF p0 zG)] (by kernel_rfl) rfl rfl (by kernel_rfl) ?_ rfl rfl ?_))))))
   ·exact Tq.mv rfl rfl (Tq.fin (.cons rfl .nil))
   refine Dr.quiet 1 [(20, iv zCP)] (by kernel_rfl) rfl rfl (by kernel_rfl) ?_ rfl rfl ?_
   ·exact Tq.mv rfl rfl (Tq.fin (.cons rfl .nil))
   obtain ⟨zq, za5, H⟩ := bnd H
   obtain ⟨zV7, zV6, zV5⟩ := zx za5
   obtain ⟨zoA, hRu134, zdp, hcu134⟩ := (zP).el zV5
   obtain ⟨⟨Vk, Vf⟩, ⟨Vv, Vq⟩⟩ := zoA
   obtain ⟨zM6, zY0⟩ := Kj.1 zdp
   refine Dr.quiet 2 [(21, .pointer (some ⟨adB zF, adO zF + (zCP).toNat * 8, none⟩))] (by kernel_rfl) rfl rfl (by kernel_rfl) ?_ rfl rfl ?_
   ·replace zM6 : Sl w.R w.W QD Vk Vf zq.Points := zM6
    exact Tq.va rfl (fun _ _ a c => zK zEC (a.ev rfl) zP.form (a.ev rfl) zV7 zV6) (Tq.fin (.cons rfl .nil))
   refine Dr.quiet 3 [(22, .agg #[iv zq.Kind, sv zq.Name, iv zq.At.X, iv zq.At.Y, sL Vk zq.Points Vf, iv zq.NX, iv zq.NY, sL Vv zq.Steps Vq])] (by kernel_rfl) rfl rfl (by kernel_rfl) ?_ rfl rfl ?_
   ·exact Tq.va rfl (fun _ _ a c => zX (cs := [iv zq.Kind, sv zq.Name, iv zq.At.X, iv zq.At.Y, sL Vk zq.Points Vf, iv zq.NX, iv zq.NY, sL Vv zq.Steps Vq]) zGP zA2 (a.ev rfl) (zO.take (rdR hRu134 hcu134 c) 8) rfl) (Tq.fin (.cons rfl .nil))
   refine Dr.zCg 4 (by kernel_rfl) rfl (wn rfl) rfl (by kernel_rfl) (fun _ _ a => run_move (a.ev rfl)) rfl (Dr.zCg 5 (by kernel_rfl) rfl (wn rfl) rfl (by kernel_rfl) (fun _ _ a => run_move (a.ev rfl)) rfl ?_)
   obtain ⟨zz, zll, H⟩ := bnd H
   obtain ⟨ziJ, ziI, ziH⟩ := zx zll
   obtain ⟨zn8, hRu136, zdn, hcu136⟩ := (Qc).el ziH
   obtain ⟨⟨Vj, Ve⟩, ⟨Vu, Vp⟩⟩ := zn8
   obtain ⟨zM5, zYz⟩ := Kj.1 zdn
   refine Dr.zFU 6 [(25, .pointer (some ⟨adB za, adO za + (zCP).toNat * 8, none⟩))] [] true (by kernel_rfl) rfl rfl (by kernel_rfl) (fun W W' c hsW hk => HF.zJa (le := []) (ks := []) (s0 := zTA) true c hk (fun _ => zT1) .nil (fun b hb => hb.elim (fun ⟨_, hp, _⟩ => nomatch hp) (fun hb => .inr ⟨rfl, hb.2, (fun _ h => nomatch h)⟩)) (fun _ h => nomatch h) rfl) ?_ rfl rfl ?_
   ·replace zM5 : Sl w.R w.W QD Vj Ve zz.Points := zM5
    exact Tq.va rfl (fun _ _ a c => zK zEC (a.ev rfl) Qc.form (a.ev rfl) ziJ ziI) (Tq.fin (.cons rfl .nil))
   refine Dr.zFU 7 [(26, .agg #[iv zz.Kind, sv zz.Name, iv zz.At.X, iv zz.At.Y, sL Vj zz.Points Ve, iv zz.NX, iv zz.NY, sL Vu zz.Steps Vp])] [] true (by kernel_rfl) rfl rfl (by kernel_rfl) (fun W W' c hsW hk => HF.zJa (le := []) (ks := []) (s0 := zTA) true c hk (fun _ => zT1) .nil (fun b hb => hb.elim (fun ⟨_, hp, _⟩ => nomatch hp) (fun hb => .inr ⟨rfl, hb.2, (fun _ h => nomatch h)⟩)) (fun _ h => nomatch h) rfl) ?_ rfl rfl ?_
   ·exact Tq.va rfl (fun _ _ a c => zX (cs := [iv zz.Kind, sv zz.Name, iv zz.At.X, iv zz.At.Y, sL Vj zz.Points Ve, iv zz.NX, iv zz.NY, sL Vu zz.Steps Vp]) zGP zA2 (a.ev rfl) (zO.take (rdR hRu136 hcu136 c) 8) rfl) (Tq.fin (.cons rfl .nil))
   refine Dr.cut (U := Nat × Nat) [8, 9] 1 (fun u => zTA ≤ u.1 ∧ zTA ≤ u.2) (fun u => [(0, sL zF p0 zG), (1, sL za p1 zb), (5, iv zCP), (6, .pointer (some ⟨u.1, 0, none⟩)), (7, .pointer (some ⟨u.2, 0, none⟩)), (13, iv zCP), (14, sL zF p0 zG), (15, iv (p0.length : Int)), (16, bV (decide (zCP < (p0.length : Int)))), (19, sL zF p0 zG), (20, iv zCP), (21, .pointer (some ⟨adB zF, adO zF + (zCP).toNat * 8, none⟩)), (22, .agg #[iv zq.Kind, sv zq.Name, iv zq.At.X, iv zq.At.Y, sL Vk zq.Points Vf, iv zq.NX, iv zq.NY, sL Vv zq.Steps Vq]), (23, sL za p1 zb), (24, iv zCP), (25, .pointer (some ⟨adB za, adO za + (zCP).toNat * 8, none⟩)), (26, .agg #[iv zz.Kind, sv zz.Name, iv zz.At.X, iv zz.At.Y, sL Vj zz.Points Ve, iv zz.NX, iv zz.NY, sL Vu zz.Steps Vp])]) (fun u => [(5, bx u.1 #[iv 0, sv ⟨#[]⟩, iv 0, iv 0, .slice none 0 0, iv 0, iv 0, .slice none 0 0] 46), (6, bx u.2 #[iv 0, sv ⟨#[]⟩, iv 0, iv 0, .slice none 0 0, iv 0, iv 0, .slice none 0 0] 46)]) ?_ ?_
   ·intro hC
    refine Dr.pair 8 9 (by kernel_rfl) ?_ ?_
    ·exact St.alloc 8 5 rfl (wn rfl) rfl zIn fun zEi zPe => (Dr.one 9 (by kernel_rfl) (St.alloc 9 6 rfl (wn rfl) rfl zIn fun zFH zXM => ((hC ⟨zEi, zFH⟩ ⟨zPe, zXM⟩).use (by kernel_rfl) (.cons rfl (.cons rfl (.cons rfl (.cons rfl (.cons rfl (.cons rfl (.cons rfl (.cons rfl (.cons rfl (.cons rfl (.cons rfl (.cons rfl (.cons rfl (.cons rfl (.cons rfl (.cons rfl (.cons rfl .nil))))))))))))))))) (.cons rfl (.cons rfl .nil)))))
    ·exact St.alloc 9 6 rfl (wn rfl) rfl zIn fun zFH zXM => (Dr.one 8 (by kernel_rfl) (St.alloc 8 5 rfl (wn rfl) rfl zIn fun zEi zPe => ((hC ⟨zEi, zFH⟩ ⟨zPe, zXM⟩).use (by kernel_rfl) (.cons rfl (.cons rfl (.cons rfl (.cons rfl (.cons rfl (.cons rfl (.cons rfl (.cons rfl (.cons rfl (.cons rfl (.cons rfl (.cons rfl (.cons rfl (.cons rfl (.cons rfl (.cons rfl (.cons rfl .nil))))))))))))))))) (.cons rfl (.cons rfl .nil)))))
   intro u hu
   obtain ⟨zEi, zFH⟩ := u
   obtain ⟨zPe, zXM⟩ := hu
   replace zPe : zTA ≤ zEi := zPe
   dsimp only
   refine Dr.one 10 (by kernel_rfl) (St.store 10 5 (cs := [iv zq.Kind, sv zq.Name, iv zq.At.X, iv zq.At.Y, sL Vk zq.Points Vf, iv zq.NX, iv zq.NY, sL Vv zq.Steps Vq]) [iv zq.Kind, sv zq.Name, iv zq.At.X, iv zq.At.Y, sL Vk zq.Points Vf, iv zq.NX, iv zq.NY, sL Vv zq.Steps Vq] rfl (wn rfl) (.inr ⟨by simp, zPe⟩) rfl rfl rfl rfl zA2 rfl rfl rfl (Dr.tail (by kernel_rfl) (Tr.store 6 (cs := [iv zz.Kind, sv zz.Name, iv zz.At.X, iv zz.At.Y, sL Vj zz.Points Ve, iv zz.NX, iv zz.NY, sL Vu zz.Steps Vp]) [iv zz.Kind, sv zz.Name, iv zz.At.X, iv zz.At.Y, sL Vj zz.Points Ve, iv zz.NX, iv zz.NY, sL Vu zz.Steps Vp] (wn rfl) rfl rfl rfl rfl zA2 rfl rfl rfl (Tr.nil (Tr.zA (Tr.sr (Tr.va rfl (fun _ _ a c => zB zBF (a.ev rfl)) (Tr.va rfl (fun _ _ a c => zD QH (a.ev rfl) (rdb c (vs := [iv zq.Kind, sv zq.Name, iv zq.At.X, iv zq.At.Y, sL Vk zq.Points Vf, iv zq.NX, iv zq.NY, sL Vv zq.Steps Vq]) (k := 5) rfl 0) rfl) (Tr.va rfl (fun _ _ a c => zB zBF (a.ev rfl)) (Tr.va rfl (fun _ _ a c => zD QH (a.ev rfl) (rdb c (vs := [iv zz.Kind, sv zz.Name, iv zz.At.X, iv zz.At.Y, sL Vj zz.Points Ve, iv zz.NX, iv zz.NY, sL Vu zz.Steps Vp]) (k := 6) rfl 0) rfl) (Tr.va rfl (fun _ _ a c => Jt (a.ev rfl) (a.ev rfl)) (Tr.mv rfl rfl (Tr.VJ 6 [(0, sL zF p0 zG), (1, sL za p1 zb), (5, iv zCP), (6, pV zEi), (7, pV zFH), (38, bV ((zq.Kind != zz.Kind) || (!sEq zq.Name zz.Name)))] [(5, bx zEi #[iv zq.Kind, sv zq.Name, iv zq.At.X, iv zq.At.Y, sL Vk zq.Points Vf, iv zq.NX, iv zq.NY, sL Vv zq.Steps Vq] 46), (6, bx zFH #[iv zz.Kind, sv zz.Name, iv zz.At.X, iv zz.At.Y, sL Vj zz.Points Ve, iv zz.NX, iv zz.NY, sL Vu zz.Steps Vp] 46)] ?_ ?_)))))))))))))
   ·cases zLw : (zq.Kind != zz.Kind)
    ·exact Tr.val (wg rfl rfl rfl) rfl (fun _ _ a c => zB zFn (a.ev rfl)) (Tr.val (wg rfl rfl rfl) rfl (fun _ _ a c => zD zHF (a.ev rfl) (rdb c (vs := [iv zq.Kind, sv zq.Name, iv zq.At.X, iv zq.At.Y, sL Vk zq.Points Vf, iv zq.NX, iv zq.NY, sL Vv zq.Steps Vq]) (k := 5) rfl 1) rfl) (Tr.val (wg rfl rfl rfl) rfl (fun _ _ a c => zB zFn (a.ev rfl)) (Tr.val (wg rfl rfl rfl) rfl (fun _ _ a c => zD zHF (a.ev rfl) (rdb c (vs := [iv zz.Kind, sv zz.Name, iv zz.At.X, iv zz.At.Y, sL Vj zz.Points Ve, iv zz.NX, iv zz.NY, sL Vu zz.Steps Vp]) (k := 6) rfl 1) rfl) (Tr.val (wg rfl rfl rfl) rfl (fun _ _ a c => zLW (a.ev rfl) (a.ev rfl)) (Tr.va rfl (fun _ _ a c => zo (a.ev rfl) (a.ev rfl)) (Tr.nil (Tr.Qi (.cons rfl (.cons rfl (.cons rfl (.cons rfl (.cons rfl (.cons rfl .nil)))))) (.cons rfl (.cons rfl .nil)))))))))
    ·exact Tr.pass rfl rfl rfl rfl rfl (by decide) (Tr.pass rfl rfl rfl rfl rfl (by decide) (Tr.pass rfl rfl rfl rfl rfl (by decide) (Tr.pass rfl rfl rfl rfl rfl (by decide) (Tr.pass rfl rfl rfl rfl rfl (by decide) (Tr.va rfl (fun _ _ a c => zn (a.ev rfl) (a.ev rfl)) (Tr.nil (Tr.Qi (.cons rfl (.cons rfl (.cons rfl (.cons rfl (.cons rfl (.cons rfl .nil)))))) (.cons rfl (.cons rfl .nil)))))))))
   ·show Tr _ _ (LF [(0, sL zF p0 zG), (1, sL za p1 zb), (5, iv zCP), (6, pV zEi), (7, pV zFH), (38, bV ((zq.Kind != zz.Kind) || (!sEq zq.Name zz.Name)))]) (LE [(5, bx zEi #[iv zq.Kind, sv zq.Name, iv zq.At.X, iv zq.At.Y, sL Vk zq.Points Vf, iv zq.NX, iv zq.NY, sL Vv zq.Steps Vq] 46), (6, bx zFH #[iv zz.Kind, sv zz.Name, iv zz.At.X, iv zz.At.Y, sL Vj zz.Points Ve, iv zz.NX, iv zz.NY, sL Vu zz.Steps Vp] 46)]) _
    refine Tr.mv rfl rfl (Tr.VJ 6 [(0, sL zF p0 zG), (1, sL za p1 zb), (5, iv zCP), (6, pV zEi), (7, pV zFH), (45, bV (((zq.Kind != zz.Kind) || (!sEq zq.Name zz.Name)) || (!(QQ zq.At zz.At))))] [(5, bx zEi #[iv zq.Kind, sv zq.Name, iv zq.At.X, iv zq.At.Y, sL Vk zq.Points Vf, iv zq.NX, iv zq.NY, sL Vv zq.Steps Vq] 46), (6, bx zFH #[iv zz.Kind, sv zz.Name, iv zz.At.X, iv zz.At.Y, sL Vj zz.Points Ve, iv zz.NX, iv zz.NY, sL Vu zz.Steps Vp] 46)] ?_ ?_)
    ·cases zLw : ((zq.Kind != zz.Kind) || (!sEq zq.Name zz.Name))
     ·exact Tr.val (wg rfl rfl rfl) rfl (fun _ _ a c => zB WK (a.ev rfl)) (Tr.val (wg rfl rfl rfl) rfl (fun _ _ a c => zX (cs := [iv zq.At.X, iv zq.At.Y]) KT JL (a.ev rfl) (zO.take (rdb c (vs := [iv zq.Kind, sv zq.Name, iv zq.At.X, iv zq.At.Y, sL Vk zq.Points Vf, iv zq.NX, iv zq.NY, sL Vv zq.Steps Vq]) (k := 5) rfl 2) 2) rfl) (Tr.val (wg rfl rfl rfl) rfl (fun _ _ a c => zB WK (a.ev rfl)) (Tr.val (wg rfl rfl rfl) rfl (fun _ _ a c => zX (cs := [iv zz.At.X, iv zz.At.Y]) KT JL (a.ev rfl) (zO.take (rdb c (vs := [iv zz.Kind, sv zz.Name, iv zz.At.X, iv zz.At.Y, sL Vj zz.Points Ve, iv zz.NX, iv zz.NY, sL Vu zz.Steps Vp]) (k := 6) rfl 2) 2) rfl) (Tr.val (wg rfl rfl rfl) rfl (fun _ _ a c => zKx zq.At zz.At (a.ev rfl) (a.ev rfl)) (Tr.va rfl (fun _ _ a c => zo (a.ev rfl) (a.ev rfl)) (Tr.nil (Tr.Qi (.cons rfl (.cons rfl (.cons rfl (.cons rfl (.cons rfl (.cons rfl .nil)))))) (.cons rfl (.cons rfl .nil)))))))))
     ·exact Tr.pass rfl rfl rfl rfl rfl (by decide) (Tr.pass rfl rfl rfl rfl rfl (by decide) (Tr.pass rfl rfl rfl rfl rfl (by decide) (Tr.pass rfl rfl rfl rfl rfl (by decide) (Tr.pass rfl rfl rfl rfl rfl (by decide) (Tr.va rfl (fun _ _ a c => zn (a.ev rfl) (a.ev rfl)) (Tr.nil (Tr.Qi (.cons rfl (.cons rfl (.cons rfl (.cons rfl (.cons rfl (.cons rfl .nil)))))) (.cons rfl (.cons rfl .nil)))))))))
    ·show Tr _ _ (LF [(0, sL zF p0 zG), (1, sL za p1 zb), (5, iv zCP), (6, pV zEi), (7, pV zFH), (45, bV (((zq.Kind != zz.Kind) || (!sEq zq.Name zz.Name)) || (!(QQ zq.At zz.At))))]) (LE [(5, bx zEi #[iv zq.Kind, sv zq.Name, iv zq.At.X, iv zq.At.Y, sL Vk zq.Points Vf, iv zq.NX, iv zq.NY, sL Vv zq.Steps Vq] 46), (6, bx zFH #[iv zz.Kind, sv zz.Name, iv zz.At.X, iv zz.At.Y, sL Vj zz.Points Ve, iv zz.NX, iv zz.NY, sL Vu zz.Steps Vp] 46)]) _
     refine Tr.mv rfl rfl (Tr.VJ 6 [(0, sL zF p0 zG), (1, sL za p1 zb), (5, iv zCP), (6, pV zEi), (7, pV zFH), (52, bV ((((zq.Kind != zz.Kind) || (!sEq zq.Name zz.Name)) || (!(QQ zq.At zz.At))) || (zq.NX != zz.NX)))] [(5, bx zEi #[iv zq.Kind, sv zq.Name, iv zq.At.X, iv zq.At.Y, sL Vk zq.Points Vf, iv zq.NX, iv zq.NY, sL Vv zq.Steps Vq] 46), (6, bx zFH #[iv zz.Kind, sv zz.Name, iv zz.At.X, iv zz.At.Y, sL Vj zz.Points Ve, iv zz.NX, iv zz.NY, sL Vu zz.Steps Vp] 46)] ?_ ?_)
     ·cases zLw : (((zq.Kind != zz.Kind) || (!sEq zq.Name zz.Name)) || (!(QQ zq.At zz.At)))
      ·exact Tr.val (wg rfl rfl rfl) rfl (fun _ _ a c => zB zFm (a.ev rfl)) (Tr.val (wg rfl rfl rfl) rfl (fun _ _ a c => zD QH (a.ev rfl) (rdb c (vs := [iv zq.Kind, sv zq.Name, iv zq.At.X, iv zq.At.Y, sL Vk zq.Points Vf, iv zq.NX, iv zq.NY, sL Vv zq.Steps Vq]) (k := 5) rfl 5) rfl) (Tr.val (wg rfl rfl rfl) rfl (fun _ _ a c => zB zFm (a.ev rfl)) (Tr.val (wg rfl rfl rfl) rfl (fun _ _ a c => zD QH (a.ev rfl) (rdb c (vs := [iv zz.Kind, sv zz.Name, iv zz.At.X, iv zz.At.Y, sL Vj zz.Points Ve, iv zz.NX, iv zz.NY, sL Vu zz.Steps Vp]) (k := 6) rfl 5) rfl) (Tr.val (wg rfl rfl rfl) rfl (fun _ _ a c => Jt (a.ev rfl) (a.ev rfl)) (Tr.va rfl (fun _ _ a c => zo (a.ev rfl) (a.ev rfl)) (Tr.nil (Tr.Qi (.cons rfl (.cons rfl (.cons rfl (.cons rfl (.cons rfl (.cons rfl .nil)))))) (.cons rfl (.cons rfl .nil)))))))))
      ·exact Tr.pass rfl rfl rfl rfl rfl (by decide) (Tr.pass rfl rfl rfl rfl rfl (by decide) (Tr.pass rfl rfl rfl rfl rfl (by decide) (Tr.pass rfl rfl rfl rfl rfl (by decide) (Tr.pass rfl rfl rfl rfl rfl (by decide) (Tr.va rfl (fun _ _ a c => zn (a.ev rfl) (a.ev rfl)) (Tr.nil (Tr.Qi (.cons rfl (.cons rfl (.cons rfl (.cons rfl (.cons rfl (.cons rfl .nil)))))) (.cons rfl (.cons rfl .nil)))))))))
     ·show Tr _ _ (LF [(0, sL zF p0 zG), (1, sL za p1 zb), (5, iv zCP), (6, pV zEi), (7, pV zFH), (52, bV ((((zq.Kind != zz.Kind) || (!sEq zq.Name zz.Name)) || (!(QQ zq.At zz.At))) || (zq.NX != zz.NX)))]) (LE [(5, bx zEi #[iv zq.Kind, sv zq.Name, iv zq.At.X, iv zq.At.Y, sL Vk zq.Points Vf, iv zq.NX, iv zq.NY, sL Vv zq.Steps Vq] 46), (6, bx zFH #[iv zz.Kind, sv zz.Name, iv zz.At.X, iv zz.At.Y, sL Vj zz.Points Ve, iv zz.NX, iv zz.NY, sL Vu zz.Steps Vp] 46)]) _
      refine Tr.mv rfl rfl (Tr.VJ 6 [(0, sL zF p0 zG), (1, sL za p1 zb), (5, iv zCP), (6, pV zEi), (7, pV zFH), (59, bV (((((zq.Kind != zz.Kind) || (!sEq zq.Name zz.Name)) || (!(QQ zq.At zz.At))) || (zq.NX != zz.NX)) || (zq.NY != zz.NY)))] [(5, bx zEi #[iv zq.Kind, sv zq.Name, iv zq.At.X, iv zq.At.Y, sL Vk zq.Points Vf, iv zq.NX, iv zq.NY, sL Vv zq.Steps Vq] 46), (6, bx zFH #[iv zz.Kind, sv zz.Name, iv zz.At.X, iv zz.At.Y, sL Vj zz.Points Ve, iv zz.NX, iv zz.NY, sL Vu zz.Steps Vp] 46)] ?_ ?_)
      ·cases zLw : ((((zq.Kind != zz.Kind) || (!sEq zq.Name zz.Name)) || (!(QQ zq.At zz.At))) || (zq.NX != zz.NX))
       ·exact Tr.val (wg rfl rfl rfl) rfl (fun _ _ a c => zB zGu (a.ev rfl)) (Tr.val (wg rfl rfl rfl) rfl (fun _ _ a c => zD QH (a.ev rfl) (rdb c (vs := [iv zq.Kind, sv zq.Name, iv zq.At.X, iv zq.At.Y, sL Vk zq.Points Vf, iv zq.NX, iv zq.NY, sL Vv zq.Steps Vq]) (k := 5) rfl 6) rfl) (Tr.val (wg rfl rfl rfl) rfl (fun _ _ a c => zB zGu (a.ev rfl)) (Tr.val (wg rfl rfl rfl) rfl (fun _ _ a c => zD QH (a.ev rfl) (rdb c (vs := [iv zz.Kind, sv zz.Name, iv zz.At.X, iv zz.At.Y, sL Vj zz.Points Ve, iv zz.NX, iv zz.NY, sL Vu zz.Steps Vp]) (k := 6) rfl 6) rfl) (Tr.val (wg rfl rfl rfl) rfl (fun _ _ a c => Jt (a.ev rfl) (a.ev rfl)) (Tr.va rfl (fun _ _ a c => zo (a.ev rfl) (a.ev rfl)) (Tr.nil (Tr.Qi (.cons rfl (.cons rfl (.cons rfl (.cons rfl (.cons rfl (.cons rfl .nil)))))) (.cons rfl (.cons rfl .nil)))))))))
       ·exact Tr.pass rfl rfl rfl rfl rfl (by decide) (Tr.pass rfl rfl rfl rfl rfl (by decide) (Tr.pass rfl rfl rfl rfl rfl (by decide) (Tr.pass rfl rfl rfl rfl rfl (by decide) (Tr.pass rfl rfl rfl rfl rfl (by decide) (Tr.va rfl (fun _ _ a c => zn (a.ev rfl) (a.ev rfl)) (Tr.nil (Tr.Qi (.cons rfl (.cons rfl (.cons rfl (.cons rfl (.cons rfl (.cons rfl .nil)))))) (.cons rfl (.cons rfl .nil)))))))))
      ·show Tr _ _ (LF [(0, sL zF p0 zG), (1, sL za p1 zb), (5, iv zCP), (6, pV zEi), (7, pV zFH), (59, bV (((((zq.Kind != zz.Kind) || (!sEq zq.Name zz.Name)) || (!(QQ zq.At zz.At))) || (zq.NX != zz.NX)) || (zq.NY != zz.NY)))]) (LE [(5, bx zEi #[iv zq.Kind, sv zq.Name, iv zq.At.X, iv zq.At.Y, sL Vk zq.Points Vf, iv zq.NX, iv zq.NY, sL Vv zq.Steps Vq] 46), (6, bx zFH #[iv zz.Kind, sv zz.Name, iv zz.At.X, iv zz.At.Y, sL Vj zz.Points Ve, iv zz.NX, iv zz.NY, sL Vu zz.Steps Vp] 46)]) _
       refine Tr.mv rfl rfl ?_
       obtain ⟨zQU, zHZ, H⟩ := bnd H
       refine Tr.VJ 7 [(0, sL zF p0 zG), (1, sL za p1 zb), (5, iv zCP), (6, pV zEi), (7, pV zFH), (67, bV zQU)] [(5, bx zEi #[iv zq.Kind, sv zq.Name, iv zq.At.X, iv zq.At.Y, sL Vk zq.Points Vf, iv zq.NX, iv zq.NY, sL Vv zq.Steps Vq] 46), (6, bx zFH #[iv zz.Kind, sv zz.Name, iv zz.At.X, iv zz.At.Y, sL Vj zz.Points Ve, iv zz.NX, iv zz.NY, sL Vu zz.Steps Vp] 46)] ?_ ?_
       ·cases zLw : (((((zq.Kind != zz.Kind) || (!sEq zq.Name zz.Name)) || (!(QQ zq.At zz.At))) || (zq.NX != zz.NX)) || (zq.NY != zz.NY))
        ·rw [zLw] at zHZ
         rw [if_neg (by decide)] at zHZ
         have H := zHZ
         refine Tr.val (wg rfl rfl rfl) rfl (fun _ _ a c => zB zAu (a.ev rfl)) (Tr.val (wg rfl rfl rfl) rfl (fun _ _ a c => zD zFI (a.ev rfl) (rdb c (vs := [iv zq.Kind, sv zq.Name, iv zq.At.X, iv zq.At.Y, sL Vk zq.Points Vf, iv zq.NX, iv zq.NY, sL Vv zq.Steps Vq]) (k := 5) rfl 4) rfl) (Tr.val (wg rfl rfl rfl) rfl (fun _ _ a c => zB zAu (a.ev rfl)) (Tr.val (wg rfl rfl rfl) rfl (fun _ _ a c => zD zFI (a.ev rfl) (rdb c (vs := [iv zz.Kind, sv zz.Name, iv zz.At.X, iv zz.At.Y, sL Vj zz.Points Ve, iv zz.NX, iv zz.NY, sL Vu zz.Steps Vp]) (k := 6) rfl 4) rfl) ?_)))
         obtain ⟨zRi, zan, H⟩ := bnd H
         refine Tr.Qs (r := (bV zRi)) (wg rfl rfl rfl) rfl Tryz.call51 (zI rfl (zI rfl zS)) (fun W hW => zFQ N zq.Points Vk Vf (zM6.ext hW.Qd) zz.Points Vj Ve (zM5.ext hW.Qd) zRi zan (HF.start _)) (Tr.val (wg rfl rfl rfl) rfl (fun _ _ a c => KI (a.ev rfl)) (Tr.va rfl (fun _ _ a c => zo (a.ev rfl) (a.ev rfl)) ?_))
         obtain rfl := oI H
         exact Tr.nil (Tr.Qi (.cons rfl (.cons rfl (.cons rfl (.cons rfl (.cons rfl (.cons rfl .nil)))))) (.cons rfl (.cons rfl .nil)))
        ·rw [zLw] at zHZ
         rw [if_pos rfl] at zHZ
         have H := zHZ
         obtain rfl := oI H
         exact Tr.pass rfl rfl rfl rfl rfl (by decide) (Tr.pass rfl rfl rfl rfl rfl (by decide) (Tr.pass rfl rfl rfl rfl rfl (by decide) (Tr.pass rfl rfl rfl rfl rfl (by decide) (Tr.pass rfl rfl rfl rfl rfl (by decide) (Tr.pass rfl rfl rfl rfl rfl (by decide) (Tr.va rfl (fun _ _ a c => zn (a.ev rfl) (a.ev rfl)) (Tr.nil (Tr.Qi (.cons rfl (.cons rfl (.cons rfl (.cons rfl (.cons rfl (.cons rfl .nil)))))) (.cons rfl (.cons rfl .nil))))))))))
       ·show Tr _ _ (LF [(0, sL zF p0 zG), (1, sL za p1 zb), (5, iv zCP), (6, pV zEi), (7, pV zFH), (67, bV zQU)]) (LE [(5, bx zEi #[iv zq.Kind, sv zq.Name, iv zq.At.X, iv zq.At.Y, sL Vk zq.Points Vf, iv zq.NX, iv zq.NY, sL Vv zq.Steps Vq] 46), (6, bx zFH #[iv zz.Kind, sv zz.Name, iv zz.At.X, iv zz.At.Y, sL Vj zz.Points Ve, iv zz.NX, iv zz.NY, sL Vu zz.Steps Vp] 46)]) _
        refine Tr.mv rfl rfl ?_
        obtain ⟨zd3, zQ9, H⟩ := bnd H
        refine Tr.VJ 7 [(0, sL zF p0 zG), (1, sL za p1 zb), (5, iv zCP), (75, bV zd3)] [(5, bx zEi #[iv zq.Kind, sv zq.Name, iv zq.At.X, iv zq.At.Y, sL Vk zq.Points Vf, iv zq.NX, iv zq.NY, sL Vv zq.Steps Vq] 46), (6, bx zFH #[iv zz.Kind, sv zz.Name, iv zz.At.X, iv zz.At.Y, sL Vj zz.Points Ve, iv zz.NX, iv zz.NY, sL Vu zz.Steps Vp] 46)] ?_ ?_
        ·cases zLw : zQU
         ·rw [zLw] at zQ9
          rw [if_neg (by decide)] at zQ9
          have H := zQ9
          refine Tr.val (wg rfl rfl rfl) rfl (fun _ _ a c => zB zDW (a.ev rfl)) (Tr.val (wg rfl rfl rfl) rfl (fun _ _ a c => zD zCn (a.ev rfl) (rdb c (vs := [iv zq.Kind, sv zq.Name, iv zq.At.X, iv zq.At.Y, sL Vk zq.Points Vf, iv zq.NX, iv zq.NY, sL Vv zq.Steps Vq]) (k := 5) rfl 7) rfl) (Tr.val (wg rfl rfl rfl) rfl (fun _ _ a c => zB zDW (a.ev rfl)) (Tr.val (wg rfl rfl rfl) rfl (fun _ _ a c => zD zCn (a.ev rfl) (rdb c (vs := [iv zz.Kind, sv zz.Name, iv zz.At.X, iv zz.At.Y, sL Vj zz.Points Ve, iv zz.NX, iv zz.NY, sL Vu zz.Steps Vp]) (k := 6) rfl 7) rfl) ?_)))
          obtain ⟨zcq, zk7, H⟩ := bnd H
          refine Tr.Qs (r := (bV zcq)) (wg rfl rfl rfl) rfl Tryz.call26 (zI rfl (zI rfl zS)) (fun W hW => hrec zq.Steps Vv Vq (zY0.ext hW.Qd) zz.Steps Vu Vp (zYz.ext hW.Qd) zcq zk7 (HF.start _)) (Tr.val (wg rfl rfl rfl) rfl (fun _ _ a c => KI (a.ev rfl)) (Tr.va rfl (fun _ _ a c => zo (a.ev rfl) (a.ev rfl)) ?_))
          obtain rfl := oI H
          exact Tr.nil (Tr.Qi (.cons rfl (.cons rfl (.cons rfl (.cons rfl .nil)))) (.cons rfl (.cons rfl .nil)))
         ·rw [zLw] at zQ9
          rw [if_pos rfl] at zQ9
          have H := zQ9
          obtain rfl := oI H
          exact Tr.pass rfl rfl rfl rfl rfl (by decide) (Tr.pass rfl rfl rfl rfl rfl (by decide) (Tr.pass rfl rfl rfl rfl rfl (by decide) (Tr.pass rfl rfl rfl rfl rfl (by decide) (Tr.pass rfl rfl rfl rfl rfl (by decide) (Tr.pass rfl rfl rfl rfl rfl (by decide) (Tr.va rfl (fun _ _ a c => zn (a.ev rfl) (a.ev rfl)) (Tr.nil (Tr.Qi (.cons rfl (.cons rfl (.cons rfl (.cons rfl .nil)))) (.cons rfl (.cons rfl .nil))))))))))
        ·show Tr _ _ (LF [(0, sL zF p0 zG), (1, sL za p1 zb), (5, iv zCP), (75, bV zd3)]) (LE [(5, bx zEi #[iv zq.Kind, sv zq.Name, iv zq.At.X, iv zq.At.Y, sL Vk zq.Points Vf, iv zq.NX, iv zq.NY, sL Vv zq.Steps Vq] 46), (6, bx zFH #[iv zz.Kind, sv zz.Name, iv zz.At.X, iv zz.At.Y, sL Vj zz.Points Ve, iv zz.NX, iv zz.NY, sL Vu zz.Steps Vp] 46)]) _
         refine Tr.nil (Tr.zA (Tr.cond rfl H (fun H => ?_) (fun H => ?_)))
         ·refine Tr.sr (Tr.asg rfl rfl (Tr.nil (Tr.zA (Tr.ret (Tr.QI (Tr.zg (Tr.zg (Tr.QI (Tr.zg ?_)))))))))
          obtain rfl := oI H
          exact Tr.out (m := [bV false]) [] (zU rfl zT) (fun W hW => ⟨rfl, hW.low leB⟩)
         ·exact Tr.skip (Tr.zh (Tr.zA (Tr.region (Tr.mv rfl rfl (Tr.va rfl (fun _ _ a c => QA (a.ev rfl) (a.ev rfl)) (Tr.asg rfl rfl (Tr.nil (Tr.zf Qe (w64 (zCP + 1)) H (.cons rfl (.cons rfl (.cons rfl .nil))) .nil))))))))
  ·refine Tr.exit (Tr.zi (Tr.zi (Tr.QL (Tr.zA (Tr.sr (Tr.asg rfl rfl (Tr.nil (Tr.zA (Tr.ret ?_)))))))))
   obtain rfl := oI H
   exact Tr.out (m := [bV true]) [] (zU rfl zT) (fun W hW => ⟨rfl, hW.low leB⟩)
theorem zCH : ∀ (N : Nat) {w : Bs} (p0 : (List zC)) (zF : Option Addr) (zG : Nat) (zP : Sl w.R w.W zH zF zG p0) (p1 : (List zC)) (za : Option Addr) (zb : Nat) (Qc : Sl w.R w.W zH za zb p1) (r : Bool) (H : VZ N p0 p1 = some r) (hE : HF w w.W E0), Calls Tryz.prog 26 [sL zF p0 zG, sL za p1 zb].toArray w.W fun e W' => e = .returned (bV r) ∧ HF w W' E0
 | 0 => by intros; rename_i H _; cases H
 | N + 1 => zEk N (VZ N) (zCH N)

theorem zFZ (N : Nat) {w : Bs} (p0 : (List zQ)) (zF : Option Addr) (zG : Nat) (zP : Sl w.R w.W zY zF zG p0) (p1 : (List zQ)) (za : Option Addr) (zb : Nat) (Qc : Sl w.R w.W zY za zb p1) (r : Bool) (H : Va N p0 p1 = some r) (hE : HF w w.W E0) : Calls Tryz.prog 27 [sL zF p0 zG, sL za p1 zb].toArray w.W fun e W' => e = .returned (bV r) ∧ HF w W' E0 := by
 unfold Va at H
 have leB := Bs.Le.refl w
 refine Tr.enter (n := 26) Tryz.func27 rfl rfl rfl hE (Tr.sr (Tr.asg rfl rfl (Tr.nil (Tr.zA (Tr.seq (Tr.sr (Tr.mv rfl rfl (Tr.va rfl (fun _ _ a c => zy zBQ (a.ev rfl)) (Tr.mv rfl rfl (Tr.va rfl (fun _ _ a c => zy zBQ (a.ev rfl)) (Tr.va rfl (fun _ _ a c => Jt (a.ev rfl) (a.ev rfl)) (Tr.nil (Tr.zA (Tr.cond rfl H (fun H => ?_) (fun H => ?_)))))))))))))))
 ·refine Tr.sr (Tr.asg rfl rfl (Tr.nil (Tr.zA (Tr.ret (Tr.zg ?_)))))
  obtain rfl := oI H
  exact Tr.out (m := [bV false]) [] (zU rfl zT) (fun W hW => ⟨rfl, hW.low leB⟩)
 ·refine Tr.skip (Tr.zA (Tr.seq (Tr.sr (Tr.asg rfl rfl (Tr.nil (Tr.zA (Tr.block (Tr.loop (σ := Int) (fun m w s => JG p0 p1 m s = some r) (fun s => [(0, sL zF p0 zG), (1, sL za p1 zb), (5, iv s)]) (fun s => []) N 0 H (.cons rfl (.cons rfl (.cons rfl .nil))) .nil (fun _ _ h => zAQ (h)) ?_))))))))
  intro w Qe mL1 x107 hs
  have H := hs
  replace H : JG p0 p1 (mL1 + 1) x107 = some r := H
  replace zP := zP.leR Qe
  replace Qc := Qc.leR Qe
  replace leB := leB.trans Qe
  rw [JG.eq_2] at H
  show Tr _ _ (LF [(0, sL zF p0 zG), (1, sL za p1 zb), (5, iv x107)]) (LE []) _
  refine Tr.seq (Tr.sr (Tr.mv rfl rfl (Tr.mv rfl rfl (Tr.va rfl (fun _ _ a c => zy zBQ (a.ev rfl)) (Tr.va rfl (fun _ _ a c => QE (a.ev rfl) (a.ev rfl)) (Tr.nil (Tr.zA (Tr.cond rfl H (fun H => ?_) (fun H => ?_)))))))))
  ·refine Tr.skip (Tr.zA (Tr.seq (Tr.block (Tr.seq (Tr.draw (by kernel_rfl) (by kernel_rfl) (Tq.mv rfl rfl (Tq.mv rfl rfl ?_)))))))
   obtain ⟨zBu, zLp, H⟩ := bnd H
   obtain ⟨zIC, zIB, zIA⟩ := zx zLp
   refine Tq.va rfl (fun _ _ a c => zK zCl (a.ev rfl) zP.form (a.ev rfl) zIC zIB) (Tq.va rfl (fun _ _ a c => zX (cs := [iv zBu.X0, iv zBu.Y0, iv zBu.X1, iv zBu.Y1]) zBr VE (a.ev rfl) (zO.take (rdF WA zP zIA c) 4) rfl) (Tq.mv rfl rfl (Tq.mv rfl rfl ?_)))
   obtain ⟨zDD, zTx, H⟩ := bnd H
   obtain ⟨zPU, zPT, zPS⟩ := zx zTx
   refine Tq.va rfl (fun _ _ a c => zK zCl (a.ev rfl) Qc.form (a.ev rfl) zPU zPT) (Tq.va rfl (fun _ _ a c => zX (cs := [iv zDD.X0, iv zDD.Y0, iv zDD.X1, iv zDD.Y1]) zBr VE (a.ev rfl) (zO.take (rdF WA Qc zPS c) 4) rfl) (Tq.va rfl (fun _ _ a c => zOz zBu zDD (a.ev rfl) (a.ev rfl)) (Tq.nil (Tr.zA (Tr.cond rfl H (fun H => ?_) (fun H => ?_))))))
   ·refine Tr.sr (Tr.asg rfl rfl (Tr.nil (Tr.zA (Tr.ret (Tr.QI (Tr.zg (Tr.zg (Tr.QI (Tr.zg ?_)))))))))
    obtain rfl := oI H
    exact Tr.out (m := [bV false]) [] (zU rfl zT) (fun W hW => ⟨rfl, hW.low leB⟩)
   ·exact Tr.skip (Tr.zh (Tr.zA (Tr.region (Tr.mv rfl rfl (Tr.va rfl (fun _ _ a c => QA (a.ev rfl) (a.ev rfl)) (Tr.asg rfl rfl (Tr.nil (Tr.zf Qe (w64 (x107 + 1)) H (.cons rfl (.cons rfl (.cons rfl .nil))) .nil))))))))
  ·refine Tr.exit (Tr.zi (Tr.zi (Tr.QL (Tr.zA (Tr.sr (Tr.asg rfl rfl (Tr.nil (Tr.zA (Tr.ret ?_)))))))))
   obtain rfl := oI H
   exact Tr.out (m := [bV true]) [] (zU rfl zT) (fun W hW => ⟨rfl, hW.low leB⟩)

theorem zFw (N : Nat) {w : Bs} (p0 : QB) (zF : Option Addr) (zG : Nat) (zP : Sl w.R w.W zN zF zG p0.Tools) (zM : Option Addr) (zL : Nat) (QW : Sl w.R w.W zH zM zL p0.Steps) (p1 : QB) (za : Option Addr) (zb : Nat) (Qc : Sl w.R w.W zN za zb p1.Tools) (QS : Option Addr) (QR : Nat) (zIs : Sl w.R w.W zH QS QR p1.Steps) (r : Bool) (H : KH N p0 p1 = some r) (hE : HF w w.W E0) : Calls Tryz.prog 9 [.agg #[iv p0.Unit, sL zF p0.Tools zG, sL zM p0.Steps zL], .agg #[iv p1.Unit, sL za p1.Tools zb, sL QS p1.Steps QR]].toArray w.W fun e W' => e = .returned (bV r) ∧ HF w W' E0 := by
 unfold KH at H
 have leB := Bs.Le.refl w
 refine Tr.enter (n := 64) Tryz.func9 rfl rfl rfl hE (Tr.sr (Tr.box 1 (cs := [iv p0.Unit, sL zF p0.Tools zG, sL zM p0.Steps zL]) (wn rfl) rfl rfl rfl fun zt => (Tr.box 2 (cs := [iv p1.Unit, sL za p1.Tools zb, sL QS p1.Steps QR]) (wn rfl) rfl rfl rfl fun Qg => (Tr.asg rfl rfl (Tr.nil (Tr.zA (Tr.seq (Tr.sr (Tr.va rfl (fun _ _ a c => zB zBH (a.ev rfl)) (Tr.va rfl (fun _ _ a c => zD QH (a.ev rfl) (rdb c (vs := [iv p0.Unit, sL zF p0.Tools zG, sL zM p0.Steps zL]) (k := 1) rfl 0) rfl) (Tr.va rfl (fun _ _ a c => zB zBH (a.ev rfl)) (Tr.va rfl (fun _ _ a c => zD QH (a.ev rfl) (rdb c (vs := [iv p1.Unit, sL za p1.Tools zb, sL QS p1.Steps QR]) (k := 2) rfl 0) rfl) (Tr.va rfl (fun _ _ a c => Jt (a.ev rfl) (a.ev rfl)) (Tr.mv rfl rfl (Tr.VJ 8 [(2, pV zt), (3, pV Qg), (19, bV ((p0.Unit != p1.Unit) || ((p0.Tools.length : Int) != (p1.Tools.length : Int))))] [(1, bx zt #[iv p0.Unit, sL zF p0.Tools zG, sL zM p0.Steps zL] 25), (2, bx Qg #[iv p1.Unit, sL za p1.Tools zb, sL QS p1.Steps QR] 25)] ?_ ?_)))))))))))))))
 ·cases zQ7 : (p0.Unit != p1.Unit)
  ·exact Tr.val (wg rfl rfl rfl) rfl (fun _ _ a c => zB zBy (a.ev rfl)) (Tr.val (wg rfl rfl rfl) rfl (fun _ _ a c => zD zGQ (a.ev rfl) (rdb c (vs := [iv p0.Unit, sL zF p0.Tools zG, sL zM p0.Steps zL]) (k := 1) rfl 1) rfl) (Tr.val (wg rfl rfl rfl) rfl (fun _ _ a c => zy zIo (a.ev rfl)) (Tr.val (wg rfl rfl rfl) rfl (fun _ _ a c => zB zBy (a.ev rfl)) (Tr.val (wg rfl rfl rfl) rfl (fun _ _ a c => zD zGQ (a.ev rfl) (rdb c (vs := [iv p1.Unit, sL za p1.Tools zb, sL QS p1.Steps QR]) (k := 2) rfl 1) rfl) (Tr.val (wg rfl rfl rfl) rfl (fun _ _ a c => zy zIo (a.ev rfl)) (Tr.val (wg rfl rfl rfl) rfl (fun _ _ a c => Jt (a.ev rfl) (a.ev rfl)) (Tr.va rfl (fun _ _ a c => zo (a.ev rfl) (a.ev rfl)) (Tr.nil (Tr.Qi (.cons rfl (.cons rfl (.cons rfl .nil))) (.cons rfl (.cons rfl .nil)))))))))))
  ·exact Tr.pass rfl rfl rfl rfl rfl (by decide) (Tr.pass rfl rfl rfl rfl rfl (by decide) (Tr.pass rfl rfl rfl rfl rfl (by decide) (Tr.pass rfl rfl rfl rfl rfl (by decide) (Tr.pass rfl rfl rfl rfl rfl (by decide) (Tr.pass rfl rfl rfl rfl rfl (by decide) (Tr.pass rfl rfl rfl rfl rfl (by decide) (Tr.va rfl (fun _ _ a c => zn (a.ev rfl) (a.ev rfl)) (Tr.nil (Tr.Qi (.cons rfl (.cons rfl (.cons rfl .nil))) (.cons rfl (.cons rfl .nil)))))))))))
 ·show Tr _ _ (LF [(2, pV zt), (3, pV Qg), (19, bV ((p0.Unit != p1.Unit) || ((p0.Tools.length : Int) != (p1.Tools.length : Int))))]) (LE [(1, bx zt #[iv p0.Unit, sL zF p0.Tools zG, sL zM p0.Steps zL] 25), (2, bx Qg #[iv p1.Unit, sL za p1.Tools zb, sL QS p1.Steps QR] 25)]) _
  refine Tr.mv rfl rfl ?_
  obtain ⟨zGi, zBa, H⟩ := bnd H
  refine Tr.VJ 7 [(2, pV zt), (3, pV Qg), (27, bV zGi)] [(1, bx zt #[iv p0.Unit, sL zF p0.Tools zG, sL zM p0.Steps zL] 25), (2, bx Qg #[iv p1.Unit, sL za p1.Tools zb, sL QS p1.Steps QR] 25)] ?_ ?_
  ·cases zQ7 : ((p0.Unit != p1.Unit) || ((p0.Tools.length : Int) != (p1.Tools.length : Int)))
   ·rw [zQ7] at zBa
    rw [if_neg (by decide)] at zBa
    have H := zBa
    refine Tr.val (wg rfl rfl rfl) rfl (fun _ _ a c => zB zC3 (a.ev rfl)) (Tr.val (wg rfl rfl rfl) rfl (fun _ _ a c => zD zCn (a.ev rfl) (rdb c (vs := [iv p0.Unit, sL zF p0.Tools zG, sL zM p0.Steps zL]) (k := 1) rfl 2) rfl) (Tr.val (wg rfl rfl rfl) rfl (fun _ _ a c => zB zC3 (a.ev rfl)) (Tr.val (wg rfl rfl rfl) rfl (fun _ _ a c => zD zCn (a.ev rfl) (rdb c (vs := [iv p1.Unit, sL za p1.Tools zb, sL QS p1.Steps QR]) (k := 2) rfl 2) rfl) ?_)))
    obtain ⟨y104, hy104, H⟩ := bnd H
    refine Tr.Qs (r := (bV y104)) (wg rfl rfl rfl) rfl Tryz.call26 (zI rfl (zI rfl zS)) (fun W hW => zCH N p0.Steps zM zL (QW.ext hW.Qd) p1.Steps QS QR (zIs.ext hW.Qd) y104 hy104 (HF.start _)) (Tr.val (wg rfl rfl rfl) rfl (fun _ _ a c => KI (a.ev rfl)) (Tr.va rfl (fun _ _ a c => zo (a.ev rfl) (a.ev rfl)) ?_))
    obtain rfl := oI H
    exact Tr.nil (Tr.Qi (.cons rfl (.cons rfl (.cons rfl .nil))) (.cons rfl (.cons rfl .nil)))
   ·rw [zQ7] at zBa
    rw [if_pos rfl] at zBa
    have H := zBa
    obtain rfl := oI H
    exact Tr.pass rfl rfl rfl rfl rfl (by decide) (Tr.pass rfl rfl rfl rfl rfl (by decide) (Tr.pass rfl rfl rfl rfl rfl (by decide) (Tr.pass rfl rfl rfl rfl rfl (by decide) (Tr.pass rfl rfl rfl rfl rfl (by decide) (Tr.pass rfl rfl rfl rfl rfl (by decide) (Tr.va rfl (fun _ _ a c => zn (a.ev rfl) (a.ev rfl)) (Tr.nil (Tr.Qi (.cons rfl (.cons rfl (.cons rfl .nil))) (.cons rfl (.cons rfl .nil))))))))))
  ·show Tr _ _ (LF [(2, pV zt), (3, pV Qg), (27, bV zGi)]) (LE [(1, bx zt #[iv p0.Unit, sL zF p0.Tools zG, sL zM p0.Steps zL] 25), (2, bx Qg #[iv p1.Unit, sL za p1.Tools zb, sL QS p1.Steps QR] 25)]) _
   refine Tr.nil (Tr.zA (Tr.cond rfl H (fun H => ?_) (fun H => ?_)))
   ·refine Tr.sr (Tr.asg rfl rfl (Tr.nil (Tr.zA (Tr.ret (Tr.zg ?_)))))
    obtain rfl := oI H
    exact Tr.out (m := [bV false]) [] (zU rfl zT) (fun W hW => ⟨rfl, hW.low leB⟩)
   ·refine Tr.skip (Tr.zA (Tr.seq (Tr.sr (Tr.asg rfl rfl (Tr.nil (Tr.zA (Tr.block (Tr.loop (σ := Int) (fun m w s => JO N p0 p1 m s = some r) (fun s => [(2, pV zt), (3, pV Qg), (5, iv s)]) (fun s => [(1, bx zt #[iv p0.Unit, sL zF p0.Tools zG, sL zM p0.Steps zL] 25), (2, bx Qg #[iv p1.Unit, sL za p1.Tools zb, sL QS p1.Steps QR] 25)]) N 0 H (.cons rfl (.cons rfl (.cons rfl .nil))) (.cons rfl (.cons rfl .nil)) (fun _ _ h => zAQ (h)) ?_))))))))
    intro w Qe mL1 zHN hs
    have H := hs
    replace H : JO N p0 p1 (mL1 + 1) zHN = some r := H
    replace zP := zP.leR Qe
    replace Qc := Qc.leR Qe
    replace leB := leB.trans Qe
    rw [JO.eq_2] at H
    show Tr _ _ (LF [(2, pV zt), (3, pV Qg), (5, iv zHN)]) (LE [(1, bx zt #[iv p0.Unit, sL zF p0.Tools zG, sL zM p0.Steps zL] 25), (2, bx Qg #[iv p1.Unit, sL za p1.Tools zb, sL QS p1.Steps QR] 25)]) _
    refine Tr.seq (Tr.sr (Tr.mv rfl rfl (Tr.va rfl (fun _ _ a c => zB zBy (a.ev rfl)) (Tr.va rfl (fun _ _ a c => zD zGQ (a.ev rfl) (rdb c (vs := [iv p0.Unit, sL zF p0.Tools zG, sL zM p0.Steps zL]) (k := 1) rfl 1) rfl) (Tr.va rfl (fun _ _ a c => zy zIo (a.ev rfl)) (Tr.va rfl (fun _ _ a c => QE (a.ev rfl) (a.ev rfl)) (Tr.nil (Tr.zA (Tr.cond rfl H (fun H => ?_) (fun H => ?_))))))))))
    ·refine Tr.skip (Tr.zA (Tr.seq (Tr.block (Tr.seq (Tr.draw (by kernel_rfl) (by kernel_rfl) (Tq.va rfl (fun _ _ a c => zB zBy (a.ev rfl)) (Tq.va rfl (fun _ _ a c => zD zGQ (a.ev rfl) (rdb c (vs := [iv p0.Unit, sL zF p0.Tools zG, sL zM p0.Steps zL]) (k := 1) rfl 1) rfl) (Tq.mv rfl rfl ?_))))))))
     obtain ⟨zJA, za4, H⟩ := bnd H
     obtain ⟨zV4, zV3, zV2⟩ := zx za4
     obtain ⟨zn7, hRu140, zdm, hcu140⟩ := (zP).el zV2
     obtain ⟨znn, znb⟩ := zn7
     have zjN := zdm
     refine Tq.va rfl (fun _ _ a c => zK zFF (a.ev rfl) zP.form (a.ev rfl) zV4 zV3) (Tq.va rfl (fun _ _ a c => zB zIG (a.ev rfl)) (Tq.va rfl (fun _ _ a c => zD zHF (a.ev rfl) (zO.drop (rdR hRu140 hcu140 c) 0) rfl) (Tq.va rfl (fun _ _ a c => zB zBy (a.ev rfl)) (Tq.va rfl (fun _ _ a c => zD zGQ (a.ev rfl) (rdb c (vs := [iv p1.Unit, sL za p1.Tools zb, sL QS p1.Steps QR]) (k := 2) rfl 1) rfl) (Tq.mv rfl rfl ?_)))))
     obtain ⟨zOh, zlj, H⟩ := bnd H
     obtain ⟨ziD, ziC, ziB⟩ := zx zlj
     obtain ⟨zn6, hRu142, zdl, hcu142⟩ := (Qc).el ziB
     obtain ⟨znm, zna⟩ := zn6
     have zjM := zdl
     refine Tq.va rfl (fun _ _ a c => zK zFF (a.ev rfl) Qc.form (a.ev rfl) ziD ziC) (Tq.va rfl (fun _ _ a c => zB zIG (a.ev rfl)) (Tq.va rfl (fun _ _ a c => zD zHF (a.ev rfl) (zO.drop (rdR hRu142 hcu142 c) 0) rfl) (Tq.va rfl (fun _ _ a c => zLW (a.ev rfl) (a.ev rfl)) (Tq.mv rfl rfl ?_))))
     obtain ⟨zix, zQ8, H⟩ := bnd H
     refine Tq.mid 15 [(2, pV zt), (3, pV Qg), (5, iv zHN), (63, bV zix)] ?_ ?_
     ·cases zQ7 : (!sEq zJA.Name zOh.Name)
      ·rw [zQ7] at zQ8
       rw [if_neg (by decide)] at zQ8
       have H := zQ8
       refine Tq.val (wg rfl rfl rfl) rfl (fun _ _ a c => zB zBy (a.ev rfl)) (Tq.val (wg rfl rfl rfl) rfl (fun _ _ a c => zD zGQ (a.ev rfl) (rdb c (vs := [iv p0.Unit, sL zF p0.Tools zG, sL zM p0.Steps zL]) (k := 1) rfl 1) rfl) (Tq.val (wg rfl rfl rfl) rfl (fun _ _ a c => run_move (a.ev rfl)) ?_))
       obtain ⟨zcw, zli, H⟩ := bnd H
       obtain ⟨ziA, zh9, zh8⟩ := zx zli
       obtain ⟨zn4, hRu150, zdj, hcu150⟩ := (zP).el zh8
       obtain ⟨zYO, zXs⟩ := zn4
       have zM2 := zdj
       replace zM2 : Sl w.R w.W zY zYO zXs zcw.Rects := zM2
       refine Tq.val (wg rfl rfl rfl) rfl (fun _ _ a c => zK zFF (a.ev rfl) zP.form (a.ev rfl) ziA zh9) (Tq.val (wg rfl rfl rfl) rfl (fun _ _ a c => zB zBx (a.ev rfl)) (Tq.val (wg rfl rfl rfl) rfl (fun _ _ a c => zD zHh (a.ev rfl) (zO.drop (rdR hRu150 hcu150 c) 1) rfl) (Tq.val (wg rfl rfl rfl) rfl (fun _ _ a c => zB zBy (a.ev rfl)) (Tq.val (wg rfl rfl rfl) rfl (fun _ _ a c => zD zGQ (a.ev rfl) (rdb c (vs := [iv p1.Unit, sL za p1.Tools zb, sL QS p1.Steps QR]) (k := 2) rfl 1) rfl) (Tq.val (wg rfl rfl rfl) rfl (fun _ _ a c => run_move (a.ev rfl)) ?_)))))
       obtain ⟨x151, hx151, H⟩ := bnd H
       obtain ⟨zh7, zh6, zh5⟩ := zx hx151
       obtain ⟨u152, hRu152, zdi, hcu152⟩ := (Qc).el zh5
       obtain ⟨zYN, zXr⟩ := u152
       have zM1 := zdi
       replace zM1 : Sl w.R w.W zY zYN zXr x151.Rects := zM1
       refine Tq.val (wg rfl rfl rfl) rfl (fun _ _ a c => zK zFF (a.ev rfl) Qc.form (a.ev rfl) zh7 zh6) (Tq.val (wg rfl rfl rfl) rfl (fun _ _ a c => zB zBx (a.ev rfl)) (Tq.val (wg rfl rfl rfl) rfl (fun _ _ a c => zD zHh (a.ev rfl) (zO.drop (rdR hRu152 hcu152 c) 1) rfl) ?_))
       obtain ⟨y153, hy153, H⟩ := bnd H
       refine Tq.Qs (r := (bV y153)) (wg rfl rfl rfl) rfl Tryz.call27 (zI rfl (zI rfl zS)) (fun W hW => zFZ N zcw.Rects zYO zXs (zM2.ext hW.Qd) x151.Rects zYN zXr (zM1.ext hW.Qd) y153 hy153 (HF.start _)) (Tq.val (wg rfl rfl rfl) rfl (fun _ _ a c => KI (a.ev rfl)) (Tq.va rfl (fun _ _ a c => zo (a.ev rfl) (a.ev rfl)) ?_))
       obtain rfl := oI H
       exact Tq.fin (.cons rfl (.cons rfl (.cons rfl (.cons rfl .nil))))
      ·rw [zQ7] at zQ8
       rw [if_pos rfl] at zQ8
       have H := zQ8
       obtain rfl := oI H
       exact Tq.pass rfl rfl rfl rfl rfl (by decide) (Tq.pass rfl rfl rfl rfl rfl (by decide) (Tq.pass rfl rfl rfl rfl rfl (by decide) (Tq.pass rfl rfl rfl rfl rfl (by decide) (Tq.pass rfl rfl rfl rfl rfl (by decide) (Tq.pass rfl rfl rfl rfl rfl (by decide) (Tq.pass rfl rfl rfl rfl rfl (by decide) (Tq.pass rfl rfl rfl rfl rfl (by decide) (Tq.pass rfl rfl rfl rfl rfl (by decide) (Tq.pass rfl rfl rfl rfl rfl (by decide) (Tq.pass rfl rfl rfl rfl rfl (by decide) (Tq.pass rfl rfl rfl rfl rfl (by decide) (Tq.pass rfl rfl rfl rfl rfl (by decide) (Tq.pass rfl rfl rfl rfl rfl (by decide) (Tq.va rfl (fun _ _ a c => zn (a.ev rfl) (a.ev rfl)) (Tq.fin (.cons rfl (.cons rfl (.cons rfl (.cons rfl .nil)))))))))))))))))))
     ·refine Tq.nil (Tr.zA (Tr.cond rfl H (fun H => ?_) (fun H => ?_)))
      ·refine Tr.sr (Tr.asg rfl rfl (Tr.nil (Tr.zA (Tr.ret (Tr.QI (Tr.zg (Tr.zg (Tr.QI (Tr.zg ?_)))))))))
       obtain rfl := oI H
       exact Tr.out (m := [bV false]) [] (zU rfl zT) (fun W hW => ⟨rfl, hW.low leB⟩)
      ·exact Tr.skip (Tr.zh (Tr.zA (Tr.region (Tr.mv rfl rfl (Tr.va rfl (fun _ _ a c => QA (a.ev rfl) (a.ev rfl)) (Tr.asg rfl rfl (Tr.nil (Tr.zf Qe (w64 (zHN + 1)) H (.cons rfl (.cons rfl (.cons rfl .nil))) (.cons rfl (.cons rfl .nil))))))))))
    ·refine Tr.exit (Tr.zi (Tr.zi (Tr.QL (Tr.zA (Tr.sr (Tr.asg rfl rfl (Tr.nil (Tr.zA (Tr.ret ?_)))))))))
     obtain rfl := oI H
     exact Tr.out (m := [bV true]) [] (zU rfl zT) (fun W hW => ⟨rfl, hW.low leB⟩)

theorem zC8 (N : Nat) {w : Bs} (p0 : QB) (zF : Option Addr) (zG : Nat) (zP : Sl w.O w.W zN zF zG p0.Tools) (zM : Option Addr) (zL : Nat) (QW : Sl w.O w.W zH zM zL p0.Steps) (r : Bool) (H : Km N p0 = some r) (hE : HF w w.W E0) : Calls Tryz.prog 6 [.agg #[iv p0.Unit, sL zF p0.Tools zG, sL zM p0.Steps zL]].toArray w.W fun e W' => e = .returned (bV r) ∧ HF w W' E0 := by
 unfold Km at H
 have leB := Bs.Le.refl w
 refine Tr.enter (n := 93) Tryz.func6 rfl rfl rfl hE (Tr.sr (Tr.box 1 (cs := [iv p0.Unit, sL zF p0.Tools zG, sL zM p0.Steps zL]) (wn rfl) rfl rfl rfl fun zt => (Tr.asg rfl rfl (Tr.nil (Tr.zA (Tr.sr (Tr.va rfl (fun _ _ a c => zX (cs := [iv p0.Unit, sL zF p0.Tools zG, sL zM p0.Steps zL]) zAJ VQ (a.ev rfl) (zO.take (rdb c (vs := [iv p0.Unit, sL zF p0.Tools zG, sL zM p0.Steps zL]) (k := 1) rfl 0) 3) rfl) ?_)))))))
 obtain ⟨y101, hy101, H⟩ := bnd H
 refine Tr.WB [2] [emp] (U := (Option Addr × Nat)) (fun u => (.tuple #[sL u.1 y101.1 u.2, iv y101.2])) (fun u => SlF u.1 y101.1.length u.2) (fun u => [ow u.1 u.2 36 zY y101.1]) rfl (zR rfl zk) (fun _ => rfl) (wn rfl) rfl Tryz.call10 (zI rfl zS) (fun W hW hp hE => zFY N p0 zF zG (zP.zAS (hW.JH hp)) zM zL (QW.zAS (hW.JH hp)) y101 hy101 hE) ?_
 intro u hu
 obtain ⟨Jv, Ju⟩ := u
 have gy101_0 := hu
 have zHY : SlF Jv y101.1.length Ju := gy101_0 --@phi
 dsimp only
 refine Tr.mv rfl rfl (Tr.va rfl (fun _ _ a c => JM (a.ev rfl) rfl) (Tr.va rfl (fun _ _ a c => JM (a.ev rfl) rfl) (Tr.asg rfl rfl (Tr.asg rfl rfl (Tr.nil (Tr.zA (Tr.seq (Tr.sr (Tr.mv rfl rfl (Tr.va rfl (fun _ _ a c => Jt (a.ev rfl) (a.ev rfl)) (Tr.nil (Tr.zA (Tr.cond rfl H (fun H => ?_) (fun H => ?_))))))))))))))
 ·refine Tr.sr (Tr.mv rfl rfl (Tr.va rfl (fun _ _ a c => zy zBQ (a.ev rfl)) (Tr.va rfl (fun _ _ a c => Qa (a.ev rfl) (a.ev rfl)) (Tr.mv rfl rfl ?_))))
  obtain ⟨zby, zGM, H⟩ := bnd H
  refine Tr.VJ 2 [(25, bV zby)] [(1, bx zt #[iv p0.Unit, sL zF p0.Tools zG, sL zM p0.Steps zL] 25), (2, ow Jv Ju 36 zY y101.1)] ?_ ?_
  ·cases zfO : ((y101.1.length : Int) == 0)
   ·rw [zfO] at zGM
    rw [if_neg (by decide)] at zGM
    have H := zGM
    obtain rfl := oI H
    exact Tr.pass rfl rfl rfl rfl rfl (by decide) (Tr.va rfl (fun _ _ a c => zo (a.ev rfl) (a.ev rfl)) (Tr.nil (Tr.Qi (.cons rfl .nil) (.cons rfl (.cons rfl .nil)))))
   ·rw [zfO] at zGM
    rw [if_pos rfl] at zGM
    have H := zGM
    obtain ⟨zCy, zPQ, H⟩ := bnd H
    refine Tr.Qs (r := (bV zCy)) (wg rfl rfl rfl) rfl Tryz.call8 zS (fun W hW => zDU N zCy zPQ (HF.start _)) (Tr.va rfl (fun _ _ a c => zn (a.ev rfl) (a.ev rfl)) ?_)
    obtain rfl := oI H
    exact Tr.nil (Tr.Qi (.cons rfl .nil) (.cons rfl (.cons rfl .nil)))
  ·show Tr _ _ (LF [(25, bV zby)]) (LE [(1, bx zt #[iv p0.Unit, sL zF p0.Tools zG, sL zM p0.Steps zL] 25), (2, ow Jv Ju 36 zY y101.1)]) _
   refine Tr.asg rfl rfl (Tr.nil (Tr.zA (Tr.ret (Tr.zg ?_))))
   obtain rfl := oI H
   exact Tr.out (m := [bV zby]) [] (zU rfl zT) (fun W hW => ⟨rfl, hW.low leB⟩)
 ·refine Tr.skip (Tr.zA (Tr.sr (Tr.va rfl (fun _ _ a c => zX (cs := [iv p0.Unit, sL zF p0.Tools zG, sL zM p0.Steps zL]) zAJ VQ (a.ev rfl) (zO.take (rdb c (vs := [iv p0.Unit, sL zF p0.Tools zG, sL zM p0.Steps zL]) (k := 1) rfl 0) 3) rfl) ?_)))
  obtain ⟨Kc, zHT, H⟩ := bnd H
  refine Tr.VW [] [] (U := (Option Addr × Nat) × (Option Addr × Nat)) (fun u => (.tuple #[.agg #[iv Kc.1.Unit, sL u.1.1 Kc.1.Tools u.1.2, sL u.2.1 Kc.1.Steps u.2.2], iv Kc.2])) (fun O W u => Sl O W zN u.1.1 u.1.2 Kc.1.Tools ∧ Sl O W zH u.2.1 u.2.2 Kc.1.Steps) (fun u => []) rfl zk (fun _ => rfl) (wn rfl) rfl Tryz.call19 (zI rfl zS) (fun W hW hp hE => zP7 N p0 zF zG (zP.zAS (hW.JH hp)) zM zL (QW.zAS (hW.JH hp)) Kc zHT hE) ?_
  intro w u zJX hu
  obtain ⟨⟨Ww, Wu⟩, ⟨zG6, zGy⟩⟩ := u
  obtain ⟨gy106_0, gy106_1⟩ := hu
  replace zP := zP.le zJX
  replace QW := QW.le zJX
  replace leB := leB.trans zJX
  have zJh : Sl w.O w.W zN Ww Wu Kc.1.Tools := gy106_0 --@phi
  have zbj : Sl w.O w.W zH zG6 zGy Kc.1.Steps := gy106_1 --@phi
  dsimp only
  refine Tr.mv rfl rfl (Tr.va rfl (fun _ _ a c => JM (a.ev rfl) rfl) (Tr.va rfl (fun _ _ a c => JM (a.ev rfl) rfl) (Tr.alloc 3 (wn rfl) rfl zLK fun zjB => (Tr.store 3 (cs := [iv Kc.1.Unit, sL Ww Kc.1.Tools Wu, sL zG6 Kc.1.Steps zGy]) [iv Kc.1.Unit, sL Ww Kc.1.Tools Wu, sL zG6 Kc.1.Steps zGy] (wn rfl) rfl rfl rfl rfl VQ rfl rfl rfl (Tr.asg rfl rfl (Tr.nil (Tr.zA ?_)))))))
  have leJ114 := Bs.Le.refl w
  refine Tr.zJD (σ := Unit) (fun w _ => Qn N p0 y101 = some r) (fun _ => [(1, pV zt), (3, sL Jv y101.1 Ju)]) (fun _ => [(1, bx zt #[iv p0.Unit, sL zF p0.Tools zG, sL zM p0.Steps zL] 25), (2, ow Jv Ju 36 zY y101.1)]) ?_ ?_
  ·refine Tr.sr (Tr.mv rfl rfl (Tr.va rfl (fun _ _ a c => Qa (a.ev rfl) (a.ev rfl)) (Tr.nil (Tr.zA (Tr.cond rfl H (fun H => ?_) (fun H => ?_))))))
   ·refine Tr.sr (Tr.va rfl (fun _ _ a c => zX (cs := [iv Kc.1.Unit, sL Ww Kc.1.Tools Wu, sL zG6 Kc.1.Steps zGy]) zAJ VQ (a.ev rfl) (zO.take (rdb c (vs := [iv Kc.1.Unit, sL Ww Kc.1.Tools Wu, sL zG6 Kc.1.Steps zGy]) (k := 3) rfl 0) 3) rfl) ?_)
    obtain ⟨zMe, zk8, H⟩ := bnd H
    refine Tr.WB [12] [emp] (U := (Option Addr × Nat)) (fun u => (.tuple #[sL u.1 zMe.1 u.2, iv zMe.2])) (fun u => SlF u.1 zMe.1.length u.2) (fun u => [ow u.1 u.2 36 zY zMe.1]) rfl (zR rfl zk) (fun _ => rfl) (wn rfl) rfl Tryz.call10 (zI rfl zS) (fun W hW hp hE => zFY N Kc.1 Ww Wu (zJh.zAS (hW.JH hp)) zG6 zGy (zbj.zAS (hW.JH hp)) zMe zk8 hE) ?_
    intro u hu
    obtain ⟨zOW, zOI⟩ := u
    have gy137_0 := hu
    have zmZ : SlF zOW zMe.1.length zOI := gy137_0 --@phi
    dsimp only
    refine Tr.mv rfl rfl (Tr.va rfl (fun _ _ a c => JM (a.ev rfl) rfl) (Tr.va rfl (fun _ _ a c => JM (a.ev rfl) rfl) (Tr.asg rfl rfl (Tr.asg rfl rfl (Tr.nil (Tr.zA (Tr.sr (Tr.mv rfl rfl (Tr.va rfl (fun _ _ a c => Jt (a.ev rfl) (a.ev rfl)) (Tr.mv rfl rfl ?_))))))))))
    obtain ⟨zQU, zHZ, H⟩ := bnd H
    refine Tr.VJ 5 [(1, pV zt), (3, sL Jv y101.1 Ju), (45, bV zQU)] [(1, bx zt #[iv p0.Unit, sL zF p0.Tools zG, sL zM p0.Steps zL] 25), (2, ow Jv Ju 36 zY y101.1), (3, bx zjB #[iv Kc.1.Unit, sL Ww Kc.1.Tools Wu, sL zG6 Kc.1.Steps zGy] 25), (12, ow zOW zOI 36 zY zMe.1)] ?_ ?_
    ·cases zfM : (zMe.2 != 0)
     ·rw [zfM] at zHZ
      rw [if_neg (by decide)] at zHZ
      have H := zHZ
      refine Tr.val (wg rfl rfl rfl) rfl (fun _ _ a c => run_move (a.ev rfl)) (Tr.val (wg rfl rfl rfl) rfl (fun _ _ a c => run_move (a.ev rfl)) ?_)
      obtain ⟨zRi, zan, H⟩ := bnd H
      refine Tr.Qs (r := (bV zRi)) (wg rfl rfl rfl) rfl Tryz.call11 (zI rfl (zI rfl zS)) (fun W hW => zEG y101.1 Jv Ju (hW.zBX (k := 2) rfl) zMe.1 zOW zOI (hW.zBX (k := 12) rfl) zRi zan (HF.start _)) (Tr.val (wg rfl rfl rfl) rfl (fun _ _ a c => KI (a.ev rfl)) (Tr.va rfl (fun _ _ a c => zo (a.ev rfl) (a.ev rfl)) ?_))
      obtain rfl := oI H
      exact Tr.nil (Tr.Qi (.cons rfl (.cons rfl (.cons rfl .nil))) (.cons rfl (.cons rfl (.cons rfl (.cons rfl .nil)))))
     ·rw [zfM] at zHZ
      rw [if_pos rfl] at zHZ
      have H := zHZ
      obtain rfl := oI H
      exact Tr.pass rfl rfl rfl rfl rfl (by decide) (Tr.pass rfl rfl rfl rfl rfl (by decide) (Tr.pass rfl rfl rfl rfl rfl (by decide) (Tr.pass rfl rfl rfl rfl rfl (by decide) (Tr.va rfl (fun _ _ a c => zn (a.ev rfl) (a.ev rfl)) (Tr.nil (Tr.Qi (.cons rfl (.cons rfl (.cons rfl .nil))) (.cons rfl (.cons rfl (.cons rfl (.cons rfl .nil))))))))))
    ·show Tr _ _ (LF [(1, pV zt), (3, sL Jv y101.1 Ju), (45, bV zQU)]) (LE [(1, bx zt #[iv p0.Unit, sL zF p0.Tools zG, sL zM p0.Steps zL] 25), (2, ow Jv Ju 36 zY y101.1), (3, bx zjB #[iv Kc.1.Unit, sL Ww Kc.1.Tools Wu, sL zG6 Kc.1.Steps zGy] 25), (12, ow zOW zOI 36 zY zMe.1)]) _
     refine Tr.nil (Tr.zA (Tr.cond rfl H (fun H => ?_) (fun H => ?_)))
     ·refine Tr.sr (Tr.asg rfl rfl (Tr.nil (Tr.zA (Tr.ret (Tr.zg ?_)))))
      obtain rfl := oI H
      exact Tr.out (m := [bV false]) [] (zU rfl zT) (fun W hW => ⟨rfl, hW.low leB⟩)
     ·exact Tr.skip (Tr.zf leJ114 () H (.cons rfl (.cons rfl .nil)) (.cons rfl (.cons rfl .nil)))
   ·exact Tr.skip (Tr.zf leJ114 () H (.cons rfl (.cons rfl .nil)) (.cons rfl (.cons rfl .nil)))
  ·intro w _ hlJ115 hs
   have H := hs
   replace H : Qn N p0 y101 = some r := H
   replace zP := zP.le hlJ115
   replace QW := QW.le hlJ115
   replace leB := leB.trans hlJ115
   unfold Qn at H
   show Tr _ _ (LF [(1, pV zt), (3, sL Jv y101.1 Ju)]) (LE [(1, bx zt #[iv p0.Unit, sL zF p0.Tools zG, sL zM p0.Steps zL] 25), (2, ow Jv Ju 36 zY y101.1)]) _
   refine Tr.sr (Tr.va rfl (fun _ _ a c => zX (cs := [iv p0.Unit, sL zF p0.Tools zG, sL zM p0.Steps zL]) zAJ VQ (a.ev rfl) (zO.take (rdb c (vs := [iv p0.Unit, sL zF p0.Tools zG, sL zM p0.Steps zL]) (k := 1) rfl 0) 3) rfl) ?_)
   obtain ⟨Qp, zJc, H⟩ := bnd H
   refine Tr.VW [5, 6] [emp, emp] (U := (Option Addr × Nat) × (Option Addr × Nat)) (fun u => (.tuple #[.agg #[iv Qp.1.Unit, sL u.1.1 Qp.1.Tools u.1.2, sL u.2.1 Qp.1.Steps u.2.2], iv Qp.2])) (fun O W u => SlF u.1.1 Qp.1.Tools.length u.1.2 ∧ SlF u.2.1 Qp.1.Steps.length u.2.2) (fun u => [ow u.1.1 u.1.2 64 zN Qp.1.Tools, ow u.2.1 u.2.2 46 zH Qp.1.Steps]) rfl (zR rfl (zR rfl zk)) (fun _ => rfl) (wn rfl) rfl Tryz.call20 (zI rfl zS) (fun W hW hp hE => zI2 N p0 zF zG (zP.zAS (hW.JH hp)) zM zL (QW.zAS (hW.JH hp)) Qp zJc hE) ?_
   intro w u zW7 hu
   obtain ⟨⟨Kz, Ku⟩, ⟨Vt, Vo⟩⟩ := u
   obtain ⟨gy116_0, gy116_1⟩ := hu
   replace leB := leB.trans zW7
   have zT8 : SlF Kz Qp.1.Tools.length Ku := gy116_0 --@phi
   have zme : SlF Vt Qp.1.Steps.length Vo := gy116_1 --@phi
   dsimp only
   refine Tr.mv rfl rfl (Tr.va rfl (fun _ _ a c => JM (a.ev rfl) rfl) (Tr.va rfl (fun _ _ a c => JM (a.ev rfl) rfl) (Tr.alloc 7 (wn rfl) rfl zLK fun zHg => (Tr.store 7 (cs := [iv Qp.1.Unit, sL Kz Qp.1.Tools Ku, sL Vt Qp.1.Steps Vo]) [iv Qp.1.Unit, sL Kz Qp.1.Tools Ku, sL Vt Qp.1.Steps Vo] (wn rfl) rfl rfl rfl rfl VQ rfl rfl rfl (Tr.asg rfl rfl (Tr.nil (Tr.zA (Tr.sr (Tr.va rfl (fun _ _ a c => zX (cs := [iv Qp.1.Unit, sL Kz Qp.1.Tools Ku, sL Vt Qp.1.Steps Vo]) zAJ VQ (a.ev rfl) (zO.take (rdb c (vs := [iv Qp.1.Unit, sL Kz Qp.1.Tools Ku, sL Vt Qp.1.Steps Vo]) (k := 7) rfl 0) 3) rfl) (Tr.freeze 5 rfl fun w zkI zPP => ?_))))))))))
   replace leB := leB.trans zkI
   refine Tr.freeze 6 rfl fun w zNg zTn => ?_
   replace zPP := zPP.le zNg
   replace leB := leB.trans zNg
   obtain ⟨zDH, zas, H⟩ := bnd H
   refine Tr.WB [8] [emp] (U := (Option Addr × Nat)) (fun u => (.tuple #[sL u.1 zDH.1 u.2, iv zDH.2])) (fun u => SlF u.1 zDH.1.length u.2) (fun u => [ow u.1 u.2 36 zY zDH.1]) rfl (zR rfl zk) (fun _ => rfl) (wn rfl) rfl Tryz.call10 (zI rfl zS) (fun W hW hp hE => zFY N Qp.1 Kz Ku (zPP.zAS (hW.JH hp)) Vt Vo (zTn.zAS (hW.JH hp)) zDH zas hE) ?_
   intro u hu
   obtain ⟨zBT, zBS⟩ := u
   have gy123_0 := hu
   have zmc : SlF zBT zDH.1.length zBS := gy123_0 --@phi
   dsimp only
   refine Tr.mv rfl rfl (Tr.va rfl (fun _ _ a c => JM (a.ev rfl) rfl) (Tr.va rfl (fun _ _ a c => JM (a.ev rfl) rfl) (Tr.asg rfl rfl (Tr.asg rfl rfl (Tr.nil (Tr.zA (Tr.sr (Tr.va rfl (fun _ _ a c => zX (cs := [iv Qp.1.Unit, sL Kz Qp.1.Tools Ku, sL Vt Qp.1.Steps Vo]) zAJ VQ (a.ev rfl) (zO.take (rdb c (vs := [iv Qp.1.Unit, sL Kz Qp.1.Tools Ku, sL Vt Qp.1.Steps Vo]) (k := 7) rfl 0) 3) rfl) ?_))))))))
   obtain ⟨JS, zTr, H⟩ := bnd H
   refine Tr.VW [9, 10] [emp, emp] (U := (Option Addr × Nat) × (Option Addr × Nat)) (fun u => (.tuple #[.agg #[iv JS.1.Unit, sL u.1.1 JS.1.Tools u.1.2, sL u.2.1 JS.1.Steps u.2.2], iv JS.2])) (fun O W u => SlF u.1.1 JS.1.Tools.length u.1.2 ∧ SlF u.2.1 JS.1.Steps.length u.2.2) (fun u => [ow u.1.1 u.1.2 64 zN JS.1.Tools, ow u.2.1 u.2.2 46 zH JS.1.Steps]) rfl (zR rfl (zR rfl zk)) (fun _ => rfl) (wn rfl) rfl Tryz.call20 (zI rfl zS) (fun W hW hp hE => zI2 N Qp.1 Kz Ku (zPP.zAS (hW.JH hp)) Vt Vo (zTn.zAS (hW.JH hp)) JS zTr hE) ?_
   intro w u zLi hu
   obtain ⟨⟨Kw, Kt⟩, ⟨Kv, Kr⟩⟩ := u
   obtain ⟨gy125_0, gy125_1⟩ := hu
   replace zPP := zPP.le zLi
   replace zTn := zTn.le zLi
   replace leB := leB.trans zLi
   have zmb : SlF Kw JS.1.Tools.length Kt := gy125_0 --@phi
   have zma : SlF Kv JS.1.Steps.length Kr := gy125_1 --@phi
   dsimp only
   refine Tr.mv rfl rfl (Tr.va rfl (fun _ _ a c => JM (a.ev rfl) rfl) (Tr.va rfl (fun _ _ a c => JM (a.ev rfl) rfl) (Tr.alloc 11 (wn rfl) rfl zLK fun zJE => (Tr.store 11 (cs := [iv JS.1.Unit, sL Kw JS.1.Tools Kt, sL Kv JS.1.Steps Kr]) [iv JS.1.Unit, sL Kw JS.1.Tools Kt, sL Kv JS.1.Steps Kr] (wn rfl) rfl rfl rfl rfl VQ rfl rfl rfl (Tr.asg rfl rfl (Tr.nil (Tr.zA (Tr.sr (Tr.mv rfl rfl (Tr.va rfl (fun _ _ a c => Qa (a.ev rfl) (a.ev rfl)) (Tr.mv rfl rfl (Tr.VJ 3 [(1, pV zt), (3, sL Jv y101.1 Ju), (8, pV zHg), (9, sL zBT zDH.1 zBS), (11, pV zJE), (12, iv JS.2), (66, bV ((Qp.2 == 0) && (zDH.2 == 0)))] [(1, bx zt #[iv p0.Unit, sL zF p0.Tools zG, sL zM p0.Steps zL] 25), (2, ow Jv Ju 36 zY y101.1), (7, bx zHg #[iv Qp.1.Unit, sL Kz Qp.1.Tools Ku, sL Vt Qp.1.Steps Vo] 25), (8, ow zBT zBS 36 zY zDH.1), (9, ow Kw Kt 64 zN JS.1.Tools), (10, ow Kv Kr 46 zH JS.1.Steps), (11, bx zJE #[iv JS.1.Unit, sL Kw JS.1.Tools Kt, sL Kv JS.1.Steps Kr] 25)] ?_ ?_))))))))))))
   ·cases zJi : (Qp.2 == 0)
    ·exact Tr.pass rfl rfl rfl rfl rfl (by decide) (Tr.pass rfl rfl rfl rfl rfl (by decide) (Tr.va rfl (fun _ _ a c => zo (a.ev rfl) (a.ev rfl)) (Tr.nil (Tr.Qi (.cons rfl (.cons rfl (.cons rfl (.cons rfl (.cons rfl (.cons rfl (.cons rfl .nil))))))) (.cons rfl (.cons rfl (.cons rfl (.cons rfl (.cons rfl (.cons rfl (.cons rfl .nil)))))))))))
    ·exact Tr.val (wg rfl rfl rfl) rfl (fun _ _ a c => run_move (a.ev rfl)) (Tr.val (wg rfl rfl rfl) rfl (fun _ _ a c => Qa (a.ev rfl) (a.ev rfl)) (Tr.va rfl (fun _ _ a c => zn (a.ev rfl) (a.ev rfl)) (Tr.nil (Tr.Qi (.cons rfl (.cons rfl (.cons rfl (.cons rfl (.cons rfl (.cons rfl (.cons rfl .nil))))))) (.cons rfl (.cons rfl (.cons rfl (.cons rfl (.cons rfl (.cons rfl (.cons rfl .nil)))))))))))
   ·show Tr _ _ (LF [(1, pV zt), (3, sL Jv y101.1 Ju), (8, pV zHg), (9, sL zBT zDH.1 zBS), (11, pV zJE), (12, iv JS.2), (66, bV ((Qp.2 == 0) && (zDH.2 == 0)))]) (LE [(1, bx zt #[iv p0.Unit, sL zF p0.Tools zG, sL zM p0.Steps zL] 25), (2, ow Jv Ju 36 zY y101.1), (7, bx zHg #[iv Qp.1.Unit, sL Kz Qp.1.Tools Ku, sL Vt Qp.1.Steps Vo] 25), (8, ow zBT zBS 36 zY zDH.1), (9, ow Kw Kt 64 zN JS.1.Tools), (10, ow Kv Kr 46 zH JS.1.Steps), (11, bx zJE #[iv JS.1.Unit, sL Kw JS.1.Tools Kt, sL Kv JS.1.Steps Kr] 25)]) _
    refine Tr.mv rfl rfl ?_
    obtain ⟨zUH, zRD, H⟩ := bnd H
    refine Tr.VJ 4 [(1, pV zt), (8, pV zHg), (11, pV zJE), (12, iv JS.2), (71, bV zUH)] [(1, bx zt #[iv p0.Unit, sL zF p0.Tools zG, sL zM p0.Steps zL] 25), (2, ow Jv Ju 36 zY y101.1), (7, bx zHg #[iv Qp.1.Unit, sL Kz Qp.1.Tools Ku, sL Vt Qp.1.Steps Vo] 25), (8, ow zBT zBS 36 zY zDH.1), (9, ow Kw Kt 64 zN JS.1.Tools), (10, ow Kv Kr 46 zH JS.1.Steps), (11, bx zJE #[iv JS.1.Unit, sL Kw JS.1.Tools Kt, sL Kv JS.1.Steps Kr] 25)] ?_ ?_
    ·cases zJi : ((Qp.2 == 0) && (zDH.2 == 0))
     ·rw [zJi] at zRD
      rw [if_neg (by decide)] at zRD
      have H := zRD
      obtain rfl := oI H
      exact Tr.pass rfl rfl rfl rfl rfl (by decide) (Tr.pass rfl rfl rfl rfl rfl (by decide) (Tr.pass rfl rfl rfl rfl rfl (by decide) (Tr.va rfl (fun _ _ a c => zo (a.ev rfl) (a.ev rfl)) (Tr.nil (Tr.Qi (.cons rfl (.cons rfl (.cons rfl (.cons rfl (.cons rfl .nil))))) (.cons rfl (.cons rfl (.cons rfl (.cons rfl (.cons rfl (.cons rfl (.cons rfl .nil))))))))))))
     ·rw [zJi] at zRD
      rw [if_pos rfl] at zRD
      have H := zRD
      refine Tr.val (wg rfl rfl rfl) rfl (fun _ _ a c => run_move (a.ev rfl)) (Tr.val (wg rfl rfl rfl) rfl (fun _ _ a c => run_move (a.ev rfl)) ?_)
      obtain ⟨zHs, zao, H⟩ := bnd H
      refine Tr.Qs (r := (bV zHs)) (wg rfl rfl rfl) rfl Tryz.call11 (zI rfl (zI rfl zS)) (fun W hW => zEG y101.1 Jv Ju (hW.zBX (k := 2) rfl) zDH.1 zBT zBS (hW.zBX (k := 8) rfl) zHs zao (HF.start _)) (Tr.va rfl (fun _ _ a c => zn (a.ev rfl) (a.ev rfl)) ?_)
      obtain rfl := oI H
      exact Tr.nil (Tr.Qi (.cons rfl (.cons rfl (.cons rfl (.cons rfl (.cons rfl .nil))))) (.cons rfl (.cons rfl (.cons rfl (.cons rfl (.cons rfl (.cons rfl (.cons rfl .nil))))))))
    ·show Tr _ _ (LF [(1, pV zt), (8, pV zHg), (11, pV zJE), (12, iv JS.2), (71, bV zUH)]) (LE [(1, bx zt #[iv p0.Unit, sL zF p0.Tools zG, sL zM p0.Steps zL] 25), (2, ow Jv Ju 36 zY y101.1), (7, bx zHg #[iv Qp.1.Unit, sL Kz Qp.1.Tools Ku, sL Vt Qp.1.Steps Vo] 25), (8, ow zBT zBS 36 zY zDH.1), (9, ow Kw Kt 64 zN JS.1.Tools), (10, ow Kv Kr 46 zH JS.1.Steps), (11, bx zJE #[iv JS.1.Unit, sL Kw JS.1.Tools Kt, sL Kv JS.1.Steps Kr] 25)]) _
     refine Tr.mv rfl rfl (Tr.VJ 3 [(1, pV zt), (8, pV zHg), (11, pV zJE), (75, bV (zUH && (JS.2 == 0)))] [(1, bx zt #[iv p0.Unit, sL zF p0.Tools zG, sL zM p0.Steps zL] 25), (2, ow Jv Ju 36 zY y101.1), (7, bx zHg #[iv Qp.1.Unit, sL Kz Qp.1.Tools Ku, sL Vt Qp.1.Steps Vo] 25), (8, ow zBT zBS 36 zY zDH.1), (9, ow Kw Kt 64 zN JS.1.Tools), (10, ow Kv Kr 46 zH JS.1.Steps), (11, bx zJE #[iv JS.1.Unit, sL Kw JS.1.Tools Kt, sL Kv JS.1.Steps Kr] 25)] ?_ ?_)
     ·cases zJi : zUH
      ·exact Tr.pass rfl rfl rfl rfl rfl (by decide) (Tr.pass rfl rfl rfl rfl rfl (by decide) (Tr.va rfl (fun _ _ a c => zo (a.ev rfl) (a.ev rfl)) (Tr.nil (Tr.Qi (.cons rfl (.cons rfl (.cons rfl (.cons rfl .nil)))) (.cons rfl (.cons rfl (.cons rfl (.cons rfl (.cons rfl (.cons rfl (.cons rfl .nil)))))))))))
      ·exact Tr.val (wg rfl rfl rfl) rfl (fun _ _ a c => run_move (a.ev rfl)) (Tr.val (wg rfl rfl rfl) rfl (fun _ _ a c => Qa (a.ev rfl) (a.ev rfl)) (Tr.va rfl (fun _ _ a c => zn (a.ev rfl) (a.ev rfl)) (Tr.nil (Tr.Qi (.cons rfl (.cons rfl (.cons rfl (.cons rfl .nil)))) (.cons rfl (.cons rfl (.cons rfl (.cons rfl (.cons rfl (.cons rfl (.cons rfl .nil)))))))))))
     ·show Tr _ _ (LF [(1, pV zt), (8, pV zHg), (11, pV zJE), (75, bV (zUH && (JS.2 == 0)))]) (LE [(1, bx zt #[iv p0.Unit, sL zF p0.Tools zG, sL zM p0.Steps zL] 25), (2, ow Jv Ju 36 zY y101.1), (7, bx zHg #[iv Qp.1.Unit, sL Kz Qp.1.Tools Ku, sL Vt Qp.1.Steps Vo] 25), (8, ow zBT zBS 36 zY zDH.1), (9, ow Kw Kt 64 zN JS.1.Tools), (10, ow Kv Kr 46 zH JS.1.Steps), (11, bx zJE #[iv JS.1.Unit, sL Kw JS.1.Tools Kt, sL Kv JS.1.Steps Kr] 25)]) _
      refine Tr.mv rfl rfl ?_
      obtain ⟨zUG, zRB, H⟩ := bnd H
      refine Tr.VJ 4 [(1, pV zt), (8, pV zHg), (80, bV zUG)] [(1, bx zt #[iv p0.Unit, sL zF p0.Tools zG, sL zM p0.Steps zL] 25), (2, ow Jv Ju 36 zY y101.1), (7, bx zHg #[iv Qp.1.Unit, sL Kz Qp.1.Tools Ku, sL Vt Qp.1.Steps Vo] 25), (8, ow zBT zBS 36 zY zDH.1), (9, ow Kw Kt 64 zN JS.1.Tools), (10, ow Kv Kr 46 zH JS.1.Steps), (11, bx zJE #[iv JS.1.Unit, sL Kw JS.1.Tools Kt, sL Kv JS.1.Steps Kr] 25)] ?_ ?_
      ·cases zJi : (zUH && (JS.2 == 0))
       ·rw [zJi] at zRB
        rw [if_neg (by decide)] at zRB
        have H := zRB
        obtain rfl := oI H
        exact Tr.pass rfl rfl rfl rfl rfl (by decide) (Tr.pass rfl rfl rfl rfl rfl (by decide) (Tr.pass rfl rfl rfl rfl rfl (by decide) (Tr.va rfl (fun _ _ a c => zo (a.ev rfl) (a.ev rfl)) (Tr.nil (Tr.Qi (.cons rfl (.cons rfl (.cons rfl .nil))) (.cons rfl (.cons rfl (.cons rfl (.cons rfl (.cons rfl (.cons rfl (.cons rfl .nil))))))))))))
       ·rw [zJi] at zRB
        rw [if_pos rfl] at zRB
        have H := zRB
        refine Tr.val (wg rfl rfl rfl) rfl (fun _ _ a c => zX (cs := [iv JS.1.Unit, sL Kw JS.1.Tools Kt, sL Kv JS.1.Steps Kr]) zAJ VQ (a.ev rfl) (zO.take (rdb c (vs := [iv JS.1.Unit, sL Kw JS.1.Tools Kt, sL Kv JS.1.Steps Kr]) (k := 11) rfl 0) 3) rfl) (Tr.val (wg rfl rfl rfl) rfl (fun _ _ a c => zX (cs := [iv Qp.1.Unit, sL Kz Qp.1.Tools Ku, sL Vt Qp.1.Steps Vo]) zAJ VQ (a.ev rfl) (zO.take (rdb c (vs := [iv Qp.1.Unit, sL Kz Qp.1.Tools Ku, sL Vt Qp.1.Steps Vo]) (k := 7) rfl 0) 3) rfl) ?_)
        obtain ⟨zcs, zlC, H⟩ := bnd H
        refine Tr.Qs (r := (bV zcs)) (wg rfl rfl rfl) rfl Tryz.call9 (zI rfl (zI rfl zS)) (fun W hW => zFw N JS.1 Kw Kt (hW.zBX (k := 9) rfl) Kv Kr (hW.zBX (k := 10) rfl) Qp.1 Kz Ku (zPP.rl.ext hW.Qd) Vt Vo (zTn.rl.ext hW.Qd) zcs zlC (HF.start _)) (Tr.va rfl (fun _ _ a c => zn (a.ev rfl) (a.ev rfl)) ?_)
        obtain rfl := oI H
        exact Tr.nil (Tr.Qi (.cons rfl (.cons rfl (.cons rfl .nil))) (.cons rfl (.cons rfl (.cons rfl (.cons rfl (.cons rfl (.cons rfl (.cons rfl .nil))))))))
      ·show Tr _ _ (LF [(1, pV zt), (8, pV zHg), (80, bV zUG)]) (LE [(1, bx zt #[iv p0.Unit, sL zF p0.Tools zG, sL zM p0.Steps zL] 25), (2, ow Jv Ju 36 zY y101.1), (7, bx zHg #[iv Qp.1.Unit, sL Kz Qp.1.Tools Ku, sL Vt Qp.1.Steps Vo] 25), (8, ow zBT zBS 36 zY zDH.1), (9, ow Kw Kt 64 zN JS.1.Tools), (10, ow Kv Kr 46 zH JS.1.Steps), (11, bx zJE #[iv JS.1.Unit, sL Kw JS.1.Tools Kt, sL Kv JS.1.Steps Kr] 25)]) _
       refine Tr.mv rfl rfl (Tr.VJ 8 [(89, bV (zUG && (decide ((Qp.1.Steps.length : Int) ≤ (p0.Steps.length : Int)))))] [(1, bx zt #[iv p0.Unit, sL zF p0.Tools zG, sL zM p0.Steps zL] 25), (2, ow Jv Ju 36 zY y101.1), (7, bx zHg #[iv Qp.1.Unit, sL Kz Qp.1.Tools Ku, sL Vt Qp.1.Steps Vo] 25), (8, ow zBT zBS 36 zY zDH.1), (9, ow Kw Kt 64 zN JS.1.Tools), (10, ow Kv Kr 46 zH JS.1.Steps), (11, bx zJE #[iv JS.1.Unit, sL Kw JS.1.Tools Kt, sL Kv JS.1.Steps Kr] 25)] ?_ ?_)
       ·cases zJi : zUG
        ·exact Tr.pass rfl rfl rfl rfl rfl (by decide) (Tr.pass rfl rfl rfl rfl rfl (by decide) (Tr.pass rfl rfl rfl rfl rfl (by decide) (Tr.pass rfl rfl rfl rfl rfl (by decide) (Tr.pass rfl rfl rfl rfl rfl (by decide) (Tr.pass rfl rfl rfl rfl rfl (by decide) (Tr.pass rfl rfl rfl rfl rfl (by decide) (Tr.va rfl (fun _ _ a c => zo (a.ev rfl) (a.ev rfl)) (Tr.nil (Tr.Qi (.cons rfl .nil) (.cons rfl (.cons rfl (.cons rfl (.cons rfl (.cons rfl (.cons rfl (.cons rfl .nil))))))))))))))))
        ·exact Tr.val (wg rfl rfl rfl) rfl (fun _ _ a c => zB zC3 (a.ev rfl)) (Tr.val (wg rfl rfl rfl) rfl (fun _ _ a c => zD zCn (a.ev rfl) (rdb c (vs := [iv Qp.1.Unit, sL Kz Qp.1.Tools Ku, sL Vt Qp.1.Steps Vo]) (k := 7) rfl 2) rfl) (Tr.val (wg rfl rfl rfl) rfl (fun _ _ a c => zy zB8 (a.ev rfl)) (Tr.val (wg rfl rfl rfl) rfl (fun _ _ a c => zB zC3 (a.ev rfl)) (Tr.val (wg rfl rfl rfl) rfl (fun _ _ a c => zD zCn (a.ev rfl) (rdb c (vs := [iv p0.Unit, sL zF p0.Tools zG, sL zM p0.Steps zL]) (k := 1) rfl 2) rfl) (Tr.val (wg rfl rfl rfl) rfl (fun _ _ a c => zy zB8 (a.ev rfl)) (Tr.val (wg rfl rfl rfl) rfl (fun _ _ a c => zBR (a.ev rfl) (a.ev rfl)) (Tr.va rfl (fun _ _ a c => zn (a.ev rfl) (a.ev rfl)) (Tr.nil (Tr.Qi (.cons rfl .nil) (.cons rfl (.cons rfl (.cons rfl (.cons rfl (.cons rfl (.cons rfl (.cons rfl .nil))))))))))))))))
       ·show Tr _ _ (LF [(89, bV (zUG && (decide ((Qp.1.Steps.length : Int) ≤ (p0.Steps.length : Int)))))]) (LE [(1, bx zt #[iv p0.Unit, sL zF p0.Tools zG, sL zM p0.Steps zL] 25), (2, ow Jv Ju 36 zY y101.1), (7, bx zHg #[iv Qp.1.Unit, sL Kz Qp.1.Tools Ku, sL Vt Qp.1.Steps Vo] 25), (8, ow zBT zBS 36 zY zDH.1), (9, ow Kw Kt 64 zN JS.1.Tools), (10, ow Kv Kr 46 zH JS.1.Steps), (11, bx zJE #[iv JS.1.Unit, sL Kw JS.1.Tools Kt, sL Kv JS.1.Steps Kr] 25)]) _
        refine Tr.mv rfl rfl ?_
        obtain ⟨zbt, zRA, H⟩ := bnd H
        refine Tr.VJ 2 [(92, bV zbt)] [(1, bx zt #[iv p0.Unit, sL zF p0.Tools zG, sL zM p0.Steps zL] 25), (2, ow Jv Ju 36 zY y101.1), (7, bx zHg #[iv Qp.1.Unit, sL Kz Qp.1.Tools Ku, sL Vt Qp.1.Steps Vo] 25), (8, ow zBT zBS 36 zY zDH.1), (9, ow Kw Kt 64 zN JS.1.Tools), (10, ow Kv Kr 46 zH JS.1.Steps), (11, bx zJE #[iv JS.1.Unit, sL Kw JS.1.Tools Kt, sL Kv JS.1.Steps Kr] 25)] ?_ ?_
        ·cases zJi : (zUG && (decide ((Qp.1.Steps.length : Int) ≤ (p0.Steps.length : Int))))
         ·rw [zJi] at zRA
          rw [if_neg (by decide)] at zRA
          have H := zRA
          obtain rfl := oI H
          exact Tr.pass rfl rfl rfl rfl rfl (by decide) (Tr.va rfl (fun _ _ a c => zo (a.ev rfl) (a.ev rfl)) (Tr.nil (Tr.Qi (.cons rfl .nil) (.cons rfl (.cons rfl (.cons rfl (.cons rfl (.cons rfl (.cons rfl (.cons rfl .nil))))))))))
         ·rw [zJi] at zRA
          rw [if_pos rfl] at zRA
          have H := zRA
          obtain ⟨zcr, zk9, H⟩ := bnd H
          refine Tr.Qs (r := (bV zcr)) (wg rfl rfl rfl) rfl Tryz.call8 zS (fun W hW => zDU N zcr zk9 (HF.start _)) (Tr.va rfl (fun _ _ a c => zn (a.ev rfl) (a.ev rfl)) ?_)
          obtain rfl := oI H
          exact Tr.nil (Tr.Qi (.cons rfl .nil) (.cons rfl (.cons rfl (.cons rfl (.cons rfl (.cons rfl (.cons rfl (.cons rfl .nil))))))))
        ·show Tr _ _ (LF [(92, bV zbt)]) (LE [(1, bx zt #[iv p0.Unit, sL zF p0.Tools zG, sL zM p0.Steps zL] 25), (2, ow Jv Ju 36 zY y101.1), (7, bx zHg #[iv Qp.1.Unit, sL Kz Qp.1.Tools Ku, sL Vt Qp.1.Steps Vo] 25), (8, ow zBT zBS 36 zY zDH.1), (9, ow Kw Kt 64 zN JS.1.Tools), (10, ow Kv Kr 46 zH JS.1.Steps), (11, bx zJE #[iv JS.1.Unit, sL Kw JS.1.Tools Kt, sL Kv JS.1.Steps Kr] 25)]) _
         refine Tr.asg rfl rfl (Tr.nil (Tr.zA (Tr.ret ?_)))
         obtain rfl := oI H
         exact Tr.out (m := [bV zbt]) [] (zU rfl zT) (fun W hW => ⟨rfl, hW.low leB⟩)

end Go.Proofs.YtoageaoknnnfbaaGreatDoor
